/- FnExactOpen: the walk. -/
import Derived.Test.YtocdlibnmlcokaaKL4
namespace Go.Proofs.Ytocdlibnmlcokaa
open Go.RowKit Go.Proofs.YtocdlibnmlcokaaW.PrintWords Go.Proofs.YtocdlibnmlcokaaW.PrintLast
set_option linter.unusedVariables false
set_option linter.unusedSimpArgs false
set_option maxRecDepth 100000 in
set_option maxHeartbeats 8000000 in
theorem fnExactOpen_l (A0 : Option Addr) (Ac0 : Nat) (A1 : Option Addr) (Ac1 : Nat) (bs : List (List Int)) (ws : List Wr) (w : World) (hA0 : rBS.d.C w A0 bs.length bs) (hA1 : rW.d.C w A1 ws.length ws) (hsz : ¬ costD bs ws ≤ 1048576) :
    Calls Try.prog 17 #[.agg #[.slice A0 bs.length Ac0, .slice A1 ws.length Ac1]] w (Yes w) := by
  have HSZ := Aside0.mk (szR_no hsz); clear hsz
  have HA0 := Aside0.mk hA0; have HA1 := Aside0.mk hA1; clear hA0 hA1
  go_enter Try.func17, Try.ntmps17
  go_upto_region 1 with fail
  generalize hw : w.alloc _ = w1
  have O := Aside0.mk ((Own.nil w).of hw); clear hw
  have p0 := (blk_cell O.out.b0 0).trans rfl; have p1 := (blk_cell O.out.b0 1).trans rfl
  go_wp2_with fail
  refine (szDisk_c _ _ _ _ bs ws 1048576 _ (Kd.C_below HA0.out O.out.bel) (Kd.C_below HA1.out O.out.bel) (by omega) (by omega)).mono ?_
  rintro e w1_ ⟨rfl, hb⟩
  rw [HSZ.out]
  replace O := Aside0.mk (O.out.below hb); clear hb
  clear p0 p1
  go_wp2_with fail
  go_ret
  exact ⟨rfl, O.out.bel⟩
set_option maxRecDepth 100000 in
set_option maxHeartbeats 8000000 in
theorem fnExactOpen_w (A0 : Option Addr) (Ac0 : Nat) (A1 : Option Addr) (Ac1 : Nat) (bs : List (List Int)) (ws : List Wr) (rok : Bool) (rlok : Bool) (rns : List Nt) (rlen rgen rsafe : Int) (rbs : List (List Int)) (rws : List Wr) (w : World) (hA0 : rBS.d.C w A0 bs.length bs) (hA1 : rW.d.C w A1 ws.length ws) (hsz : costD bs ws ≤ 1048576) (hm : Small bs ws) (hcx : cnD bs ws ≤ 100000000) (hcn : cnO rns rbs rws ≤ 100000000)
    (hs : ∀ (B0 : Option Addr) (Bc0 : Nat) (B1 : Option Addr) (Bc1 : Nat) (w : World), rBS.d.C w B0 bs.length bs → rW.d.C w B1 ws.length ws → bs.length ≤ Bc0 → Calls Try.prog 81 #[.agg #[.slice B0 bs.length Bc0, .slice B1 ws.length Bc1]] w (GotOp ⟨rok, ⟨rlok, rns, rlen, rgen, rsafe⟩, rbs, rws⟩ w))
    (hi : ∀ (B0 : Option Addr) (Bc0 : Nat) (B1 : Option Addr) (Bc1 : Nat) (w : World), rBS.d.C w B0 bs.length bs → rW.d.C w B1 ws.length ws → bs.length ≤ Bc0 → Calls Try.prog 37 #[.agg #[.slice B0 bs.length Bc0, .slice B1 ws.length Bc1]] w (GotOp ⟨rok, ⟨rlok, rns, rlen, rgen, rsafe⟩, rbs, rws⟩ w)) :
    Calls Try.prog 17 #[.agg #[.slice A0 bs.length Ac0, .slice A1 ws.length Ac1]] w (Yes w) := by
  have hpos : 0 ≤ 1048576 - costD bs ws := by omega
  have HSZ := Aside0.mk (szR_yes hsz); have HM := Aside0.mk hm; have HS := Aside0.mk hs; have HI := Aside0.mk hi; have HCX := Aside0.mk hcx
  clear hm hs hi hsz hcx
  have HCN := Aside0.mk hcn; clear hcn
  have hnA : 0 ≤ cnD bs ws := cnD_nonneg bs ws
  have hnR : 0 ≤ cnO rns rbs rws := by have := cnD_nonneg rbs rws; unfold cnO; rw [cntN]; omega
  have HA0 := Aside0.mk hA0; have HA1 := Aside0.mk hA1; clear hA0 hA1
  go_enter Try.func17, Try.ntmps17
  go_upto_region 1 with fail
  generalize hw : w.alloc _ = w1
  have O := Aside0.mk ((Own.nil w).of hw); clear hw
  have p0 := (blk_cell O.out.b0 0).trans rfl; have p1 := (blk_cell O.out.b0 1).trans rfl
  go_wp2_with fail
  refine (szDisk_c _ _ _ _ bs ws 1048576 _ (Kd.C_below HA0.out O.out.bel) (Kd.C_below HA1.out O.out.bel) (by omega) (by omega)).mono ?_
  rintro e w2_ ⟨rfl, hb⟩
  rw [HSZ.out]
  replace O := Aside0.mk (O.out.below hb); clear hb
  clear p0 p1
  have p0 := (blk_cell O.out.b0 0).trans rfl; have p1 := (blk_cell O.out.b0 1).trans rfl
  go_wp2_with fail
  refine (toDisk_c _ _ _ _ bs ws _ (Kd.C_below HA0.out O.out.bel) (Kd.C_below HA1.out O.out.bel) HM.out.1 HM.out.2.1 HM.out.2.2.1 HM.out.2.2.2).mono ?_
  intro e w3_ hg
  obtain ⟨v0, v1, rfl, k⟩ := own_disk hg
  clear hg
  replace O := Aside0.mk (O.out.app2 k); clear k
  obtain ⟨T0, Tc0, rfl, Th0⟩ := O.out.f0
  have TH0 := Aside0.mk Th0; clear Th0
  obtain ⟨T1, Tc1, rfl, Th1⟩ := O.out.f1
  have TH1 := Aside0.mk Th1; clear Th1
  clear p0 p1
  go_wp2_with fail
  refine (HS.out _ _ _ _ _  O.out.c0 O.out.c1 TH0.out).mono ?_
  rintro e w4_ ⟨vn, v0, v1, rfl, k⟩
  simp only at k
  replace O := Aside0.mk (O.out.app3 k); clear k
  obtain ⟨Wn, Wcn, rfl, Whn⟩ := O.out.f0
  have WHn := Aside0.mk Whn; clear Whn
  obtain ⟨W0, Wc0, rfl, Wh0⟩ := O.out.f1
  have WH0 := Aside0.mk Wh0; clear Wh0
  obtain ⟨W1, Wc1, rfl, Wh1⟩ := O.out.f2
  have WH1 := Aside0.mk Wh1; clear Wh1
  replace O := Aside0.mk O.out.p3.drop
  replace O := Aside0.mk O.out.p3.drop
  go_upto_region 6 with fail
  generalize hw : w4_.alloc _ = w5_
  replace O := Aside0.mk (O.out.of hw); clear hw
  generalize w4_.heap.size = gW at O ⊢
  have p0 := (blk_cell O.out.b4 0).trans rfl; have p1 := (blk_cell O.out.b4 1).trans rfl

  go_wp2_with fail
  refine (toDisk_c _ _ _ _ bs ws _ (Kd.C_below HA0.out O.out.bel) (Kd.C_below HA1.out O.out.bel) HM.out.1 HM.out.2.1 HM.out.2.2.1 HM.out.2.2.2).mono ?_
  intro e w6_ hg
  obtain ⟨v0, v1, rfl, k⟩ := own_disk hg
  clear hg
  replace O := Aside0.mk (O.out.app2 k); clear k
  obtain ⟨X0, Xc0, rfl, Xh0⟩ := O.out.f0
  have XH0 := Aside0.mk Xh0; clear Xh0
  obtain ⟨X1, Xc1, rfl, Xh1⟩ := O.out.f1
  have XH1 := Aside0.mk Xh1; clear Xh1
  clear p0 p1
  go_upto_region 7 with fail
  generalize hw : w6_.alloc _ = w7_
  replace O := Aside0.mk (O.out.of hw); clear hw
  generalize w6_.heap.size = gX at O ⊢
  have x0 := (blk_cell O.out.b0 0).trans rfl; have x1 := (blk_cell O.out.b0 1).trans rfl
  go_wp2_with fail
  refine (HI.out _ _ _ _ _  O.out.c1 O.out.c2 XH0.out).mono ?_
  rintro e w8_ ⟨vn, v0, v1, rfl, k⟩
  simp only at k
  replace O := Aside0.mk (O.out.app3 k); clear k
  obtain ⟨Gn, Gcn, rfl, Ghn⟩ := O.out.f0
  have GHn := Aside0.mk Ghn; clear Ghn
  obtain ⟨G0, Gc0, rfl, Gh0⟩ := O.out.f1
  have GH0 := Aside0.mk Gh0; clear Gh0
  obtain ⟨G1, Gc1, rfl, Gh1⟩ := O.out.f2
  have GH1 := Aside0.mk Gh1; clear Gh1
  clear x0 x1
  go_upto_region 8 with fail
  generalize hw : w8_.alloc _ = w9_
  replace O := Aside0.mk (O.out.of hw); clear hw
  generalize w8_.heap.size = gG at O ⊢
  have y0 := (blk_cell O.out.b0 0).trans rfl; have y1 := (blk_cell O.out.b0 1).trans rfl; have y2 := (blk_cell O.out.b0 2).trans rfl; have y3 := (blk_cell O.out.b0 3).trans rfl; have y4 := (blk_cell O.out.b0 4).trans rfl; have y5 := (blk_cell O.out.b0 5).trans rfl; have y6 := (blk_cell O.out.b0 6).trans rfl; have y7 := (blk_cell O.out.b0 7).trans rfl
  have z0 := (blk_cell O.out.b7 0).trans rfl; have z1 := (blk_cell O.out.b7 1).trans rfl; have z2 := (blk_cell O.out.b7 2).trans rfl; have z3 := (blk_cell O.out.b7 3).trans rfl; have z4 := (blk_cell O.out.b7 4).trans rfl; have z5 := (blk_cell O.out.b7 5).trans rfl; have z6 := (blk_cell O.out.b7 6).trans rfl; have z7 := (blk_cell O.out.b7 7).trans rfl
  go_wp2_with fail
  refine (eqOpened_t _ _ _ _ _ _ _ _ _ _ _ _ rok rlok rns rlen rgen rsafe rbs rws _ O.out.c1 O.out.c2 O.out.c3 O.out.c8 O.out.c9 O.out.c10).mono ?_
  rintro e w10_ ⟨rfl, hb⟩
  replace O := Aside0.mk (O.out.below hb); clear hb
  clear y0 y1 y2 y3 y4 y5 y6 y7 z0 z1 z2 z3 z4 z5 z6 z7
  go_upto_region 10 with fail
  have x0 := (blk_cell O.out.b4 0).trans rfl; have x1 := (blk_cell O.out.b4 1).trans rfl
  have p0 := (blk_cell O.out.b11 0).trans rfl; have p1 := (blk_cell O.out.b11 1).trans rfl
  refine sta (fun w' => (w'.cell? ⟨gX, 0, none⟩ = some (.slice X0 bs.length Xc0) ∧ w'.cell? ⟨gX, 1, none⟩ = some (.slice X1 ws.length Xc1)) ∧ (w'.cell? ⟨w.heap.size, 0, none⟩ = some (.slice A0 bs.length Ac0) ∧ w'.cell? ⟨w.heap.size, 1, none⟩ = some (.slice A1 ws.length Ac1))) [] 5 ⟨⟨x0, x1⟩, ⟨p0, p1⟩⟩ (fun hS => ?_)
  clear x0 x1 p0 p1
  replace O := Aside0.mk O.out.drew
  generalize w10_.drew = wd11_ at O hS ⊢
  refine tk 0 1 hS ?_
  refine tk 1 3 hS ?_
  refine on 2 7 (fun K hK => ?_)
  refine ca (toDisk_c _ _ _ _ bs ws _ (Kd.C_below HA0.out O.out.bel) (Kd.C_below HA1.out O.out.bel) HM.out.1 HM.out.2.1 HM.out.2.2.1 HM.out.2.2.2) Try.func52 ?_
  intro e w12_ hg
  obtain ⟨v0, v1, rfl, k⟩ := own_disk hg
  clear hg
  replace O := Aside0.mk (O.out.app2 k); clear k
  obtain ⟨T0, Tc0, rfl, Th0⟩ := O.out.f0
  have TH0 := Aside0.mk Th0; clear Th0
  obtain ⟨T1, Tc1, rfl, Th1⟩ := O.out.f1
  have TH1 := Aside0.mk Th1; clear Th1
  refine ⟨_, rfl, nx hK ⟨⟨(blk_cell O.out.b6 0).trans rfl, (blk_cell O.out.b6 1).trans rfl⟩, ⟨(blk_cell O.out.b13 0).trans rfl, (blk_cell O.out.b13 1).trans rfl⟩⟩ (fun hS => ?_)⟩
  clear hK K
  refine on 3 15 (fun K hK => ?_)
  refine ca (eqDisk_t _ _ _ _ _ _ _ _ bs ws _ O.out.c7 O.out.c8 O.out.c0 O.out.c1) Try.func28 ?_
  rintro e w13_ ⟨rfl, hb⟩
  replace O := Aside0.mk (O.out.below hb); clear hb
  refine ⟨_, rfl, nx hK ⟨⟨(blk_cell O.out.b6 0).trans rfl, (blk_cell O.out.b6 1).trans rfl⟩, ⟨(blk_cell O.out.b13 0).trans rfl, (blk_cell O.out.b13 1).trans rfl⟩⟩ (fun hS => ?_)⟩
  clear hK K hS
  refine pu 4 31 (dn ?_)
  replace O := Aside0.mk O.out.drop
  replace O := Aside0.mk O.out.drop
  go_upto_region 13 with fail
  replace O := Aside0.mk O.out.p6
  replace O := Aside0.mk O.out.p6
  have x0 := (blk_cell O.out.b6 0).trans rfl; have x1 := (blk_cell O.out.b6 1).trans rfl
  go_wp2_with fail
  refine (own_markDisk O.out 1 (by omega) (by have := HCX.out; omega)).mono ?_
  rintro e w14_ ⟨rfl, hO⟩
  clear O
  have O := Aside0.mk hO; clear hO x0 x1
  have y0 := (blk_cell O.out.b2 0).trans rfl; have y1 := (blk_cell O.out.b2 1).trans rfl; have y2 := (blk_cell O.out.b2 2).trans rfl; have y3 := (blk_cell O.out.b2 3).trans rfl; have y4 := (blk_cell O.out.b2 4).trans rfl; have y5 := (blk_cell O.out.b2 5).trans rfl; have y6 := (blk_cell O.out.b2 6).trans rfl; have y7 := (blk_cell O.out.b2 7).trans rfl
  have z0 := (blk_cell O.out.b7 0).trans rfl; have z1 := (blk_cell O.out.b7 1).trans rfl; have z2 := (blk_cell O.out.b7 2).trans rfl; have z3 := (blk_cell O.out.b7 3).trans rfl; have z4 := (blk_cell O.out.b7 4).trans rfl; have z5 := (blk_cell O.out.b7 5).trans rfl; have z6 := (blk_cell O.out.b7 6).trans rfl; have z7 := (blk_cell O.out.b7 7).trans rfl
  go_wp2_with fail
  refine (eqOpened_t _ _ _ _ _ _ _ _ _ _ _ _ rok rlok rns rlen rgen rsafe rbs rws _ O.out.c3 O.out.c4 O.out.c5 O.out.c8 O.out.c9 O.out.c10).mono ?_
  rintro e w15_ ⟨rfl, hb⟩
  replace O := Aside0.mk (O.out.below hb); clear hb
  clear y0 y1 y2 y3 y4 y5 y6 y7 z0 z1 z2 z3 z4 z5 z6 z7
  go_upto_region 17 with fail
  replace O := Aside0.mk O.out.p5
  replace O := Aside0.mk O.out.p5
  replace O := Aside0.mk O.out.p5
  have x0 := (blk_cell O.out.b5 0).trans rfl; have x1 := (blk_cell O.out.b5 1).trans rfl; have x2 := (blk_cell O.out.b5 2).trans rfl; have x3 := (blk_cell O.out.b5 3).trans rfl; have x4 := (blk_cell O.out.b5 4).trans rfl; have x5 := (blk_cell O.out.b5 5).trans rfl; have x6 := (blk_cell O.out.b5 6).trans rfl; have x7 := (blk_cell O.out.b5 7).trans rfl
  go_wp2_with fail
  refine (own_markOpened O.out rok rlok rlen rgen rsafe 1 (by omega) (by have := HCN.out; omega)).mono ?_
  rintro e w16_ ⟨rfl, hO⟩
  clear O
  have O := Aside0.mk hO; clear hO x0 x1 x2 x3 x4 x5 x6 x7
  have x0 := (blk_cell O.out.b5 0).trans rfl; have x1 := (blk_cell O.out.b5 1).trans rfl; have x2 := (blk_cell O.out.b5 2).trans rfl; have x3 := (blk_cell O.out.b5 3).trans rfl; have x4 := (blk_cell O.out.b5 4).trans rfl; have x5 := (blk_cell O.out.b5 5).trans rfl; have x6 := (blk_cell O.out.b5 6).trans rfl; have x7 := (blk_cell O.out.b5 7).trans rfl
  go_wp2_with fail
  refine (heldOpened_c _ _ _ _ _ _ rok rlok rns rlen rgen rsafe rbs rws 1 _ _ _ _ rfl rfl rfl (by have := O.out.c0; rw [markL_len] at this; exact this) (by have := O.out.c1; rw [markL_len] at this; exact this) (by have := O.out.c2; rw [markL_len] at this; exact this) (by omega) (by have := HCN.out; omega)).mono ?_
  rintro e w17_ ⟨rfl, hb⟩
  replace O := Aside0.mk (O.out.below hb); clear hb
  clear x0 x1 x2 x3 x4 x5 x6 x7
  have hq0 : 0 ≤ 1 + cnO rns rbs rws := by omega
  have hne : ((1 + cnO rns rbs rws) != (1 + cnO rns rbs rws)) = false := (eqT rfl).2
  go_upto_region 24 with fail
  have p0 := (blk_cell O.out.b11 0).trans rfl; have p1 := (blk_cell O.out.b11 1).trans rfl
  go_wp2_with fail
  refine (toDisk_c _ _ _ _ bs ws _ (Kd.C_below HA0.out O.out.bel) (Kd.C_below HA1.out O.out.bel) HM.out.1 HM.out.2.1 HM.out.2.2.1 HM.out.2.2.2).mono ?_
  intro e w18_ hg
  obtain ⟨v0, v1, rfl, k⟩ := own_disk hg
  clear hg
  replace O := Aside0.mk (O.out.app2 k); clear k
  obtain ⟨T0, Tc0, rfl, Th0⟩ := O.out.f0
  have TH0 := Aside0.mk Th0; clear Th0
  obtain ⟨T1, Tc1, rfl, Th1⟩ := O.out.f1
  have TH1 := Aside0.mk Th1; clear Th1
  clear p0 p1
  go_wp2_with fail
  refine (HI.out _ _ _ _ _  O.out.c0 O.out.c1 TH0.out).mono ?_
  rintro e w19_ ⟨vn, v0, v1, rfl, k⟩
  simp only at k
  replace O := Aside0.mk (O.out.app3 k); clear k
  obtain ⟨Hn, Hcn, rfl, Hhn⟩ := O.out.f0
  have HHn := Aside0.mk Hhn; clear Hhn
  obtain ⟨H0, Hc0, rfl, Hh0⟩ := O.out.f1
  have HH0 := Aside0.mk Hh0; clear Hh0
  obtain ⟨H1, Hc1, rfl, Hh1⟩ := O.out.f2
  have HH1 := Aside0.mk Hh1; clear Hh1
  replace O := Aside0.mk O.out.p3.drop
  replace O := Aside0.mk O.out.p3.drop
  go_upto_region 25 with fail
  generalize hw : w19_.alloc _ = w20_
  replace O := Aside0.mk (O.out.of hw); clear hw
  generalize w19_.heap.size = gH at O ⊢
  have y0 := (blk_cell O.out.b0 0).trans rfl; have y1 := (blk_cell O.out.b0 1).trans rfl; have y2 := (blk_cell O.out.b0 2).trans rfl; have y3 := (blk_cell O.out.b0 3).trans rfl; have y4 := (blk_cell O.out.b0 4).trans rfl; have y5 := (blk_cell O.out.b0 5).trans rfl; have y6 := (blk_cell O.out.b0 6).trans rfl; have y7 := (blk_cell O.out.b0 7).trans rfl
  have z0 := (blk_cell O.out.b11 0).trans rfl; have z1 := (blk_cell O.out.b11 1).trans rfl; have z2 := (blk_cell O.out.b11 2).trans rfl; have z3 := (blk_cell O.out.b11 3).trans rfl; have z4 := (blk_cell O.out.b11 4).trans rfl; have z5 := (blk_cell O.out.b11 5).trans rfl; have z6 := (blk_cell O.out.b11 6).trans rfl; have z7 := (blk_cell O.out.b11 7).trans rfl
  go_wp2_with fail
  refine (eqOpened_t _ _ _ _ _ _ _ _ _ _ _ _ rok rlok rns rlen rgen rsafe rbs rws _ O.out.c1 O.out.c2 O.out.c3 O.out.c12 O.out.c13 O.out.c14).mono ?_
  rintro e w21_ ⟨rfl, hb⟩
  replace O := Aside0.mk (O.out.below hb); clear hb
  clear y0 y1 y2 y3 y4 y5 y6 y7 z0 z1 z2 z3 z4 z5 z6 z7
  have x0 := (blk_cell O.out.b9 0).trans rfl; have x1 := (blk_cell O.out.b9 1).trans rfl; have x2 := (blk_cell O.out.b9 2).trans rfl; have x3 := (blk_cell O.out.b9 3).trans rfl; have x4 := (blk_cell O.out.b9 4).trans rfl; have x5 := (blk_cell O.out.b9 5).trans rfl; have x6 := (blk_cell O.out.b9 6).trans rfl; have x7 := (blk_cell O.out.b9 7).trans rfl
  go_wp2_with fail
  refine (heldOpened_c _ _ _ _ _ _ rok rlok rns rlen rgen rsafe rbs rws 1 _ _ _ _ rfl rfl rfl (by have := O.out.c4; rw [markL_len] at this; exact this) (by have := O.out.c5; rw [markL_len] at this; exact this) (by have := O.out.c6; rw [markL_len] at this; exact this) (by omega) (by have := HCN.out; omega)).mono ?_
  rintro e w22_ ⟨rfl, hb⟩
  replace O := Aside0.mk (O.out.below hb); clear hb
  clear x0 x1 x2 x3 x4 x5 x6 x7
  go_wp2_with fail
  go_ret
  exact ⟨rfl, O.out.bel⟩
end Go.Proofs.Ytocdlibnmlcokaa
