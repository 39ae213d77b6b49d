/- FnExactCommit: the walk. -/
import Derived.Test.YtocdlibnmlcokaaKL4
namespace Go.Proofs.Ytocdlibnmlcokaa
open Go.RowKit Go.Proofs.YtocdlibnmlcokaaW.PrintWords Go.Proofs.YtocdlibnmlcokaaW.PrintLast
set_option linter.unusedVariables false
set_option linter.unusedSimpArgs false
set_option maxRecDepth 100000 in
set_option maxHeartbeats 8000000 in
theorem fnExactCommit_l (An : Option Addr) (Acn : Nat) (A0 : Option Addr) (Ac0 : Nat) (A1 : Option Addr) (Ac1 : Nat) (ok : Bool) (lok : Bool) (notes : List Nt) (len gen safe : Int) (bs : List (List Int)) (ws : List Wr) (w : World) (hAn : rN.d.C w An notes.length notes) (hA0 : rBS.d.C w A0 bs.length bs) (hA1 : rW.d.C w A1 ws.length ws) (ht : ∀ x ∈ notes, x.text.size ≤ 9223372036854775807) (hsz : ¬ costO notes bs ws ≤ 1048576) :
    Calls Try.prog 18 #[.agg #[.bool ok, .bool lok, .slice An notes.length Acn, .int .i64 len, .int .i64 gen, .int .i64 safe, .slice A0 bs.length Ac0, .slice A1 ws.length Ac1]] w (Yes w) := by
  have HSZ := Aside0.mk (szR_no hsz); clear hsz
  have HAn := Aside0.mk hAn; have HA0 := Aside0.mk hA0; have HA1 := Aside0.mk hA1; clear hAn hA0 hA1
  have HT := Aside0.mk ht; clear ht
  go_enter Try.func18, Try.ntmps18
  go_upto_region 1 with fail
  generalize hw : w.alloc _ = w1
  have O := Aside0.mk ((Own.nil w).of hw); clear hw
  have p0 := (blk_cell O.out.b0 0).trans rfl; have p1 := (blk_cell O.out.b0 1).trans rfl; have p2 := (blk_cell O.out.b0 2).trans rfl; have p3 := (blk_cell O.out.b0 3).trans rfl; have p4 := (blk_cell O.out.b0 4).trans rfl; have p5 := (blk_cell O.out.b0 5).trans rfl; have p6 := (blk_cell O.out.b0 6).trans rfl; have p7 := (blk_cell O.out.b0 7).trans rfl
  go_wp2_with fail
  refine (szOpened_c _ _ _ _ _ _ ok lok notes len gen safe bs ws 1048576 _ (Kd.C_below HAn.out O.out.bel) (Kd.C_below HA0.out O.out.bel) (Kd.C_below HA1.out O.out.bel) HT.out (by omega) (by omega)).mono ?_
  rintro e w1_ ⟨rfl, hb⟩
  rw [HSZ.out]
  replace O := Aside0.mk (O.out.below hb); clear hb
  clear p0 p1 p2 p3 p4 p5 p6 p7
  go_wp2_with fail
  go_ret
  exact ⟨rfl, O.out.bel⟩
set_option maxRecDepth 100000 in
set_option maxHeartbeats 8000000 in
theorem fnExactCommit_w (An : Option Addr) (Acn : Nat) (A0 : Option Addr) (Ac0 : Nat) (A1 : Option Addr) (Ac1 : Nat) (ok : Bool) (lok : Bool) (notes : List Nt) (len gen safe : Int) (bs : List (List Int)) (ws : List Wr) (rok : Bool) (rlok : Bool) (rns : List Nt) (rlen rgen rsafe : Int) (rbs : List (List Int)) (rws : List Wr) (w : World) (hAn : rN.d.C w An notes.length notes) (hA0 : rBS.d.C w A0 bs.length bs) (hA1 : rW.d.C w A1 ws.length ws) (ht : ∀ x ∈ notes, x.text.size ≤ 9223372036854775807) (hsz : costO notes bs ws ≤ 1048576) (hm : Small bs ws) (hmn : notes.length ≤ 10000000) (hcx : cnO notes bs ws ≤ 100000000) (hcn : cnO rns rbs rws ≤ 100000000)
    (hs : ∀ (Bn : Option Addr) (Bcn : Nat) (B0 : Option Addr) (Bc0 : Nat) (B1 : Option Addr) (Bc1 : Nat) (w : World), rN.d.C w Bn notes.length notes → rBS.d.C w B0 bs.length bs → rW.d.C w B1 ws.length ws → bs.length ≤ Bc0 → Calls Try.prog 84 #[.agg #[.bool ok, .bool lok, .slice Bn notes.length Bcn, .int .i64 len, .int .i64 gen, .int .i64 safe, .slice B0 bs.length Bc0, .slice B1 ws.length Bc1]] w (GotOp ⟨rok, ⟨rlok, rns, rlen, rgen, rsafe⟩, rbs, rws⟩ w))
    (hi : ∀ (Bn : Option Addr) (Bcn : Nat) (B0 : Option Addr) (Bc0 : Nat) (B1 : Option Addr) (Bc1 : Nat) (w : World), rN.d.C w Bn notes.length notes → rBS.d.C w B0 bs.length bs → rW.d.C w B1 ws.length ws → bs.length ≤ Bc0 → Calls Try.prog 40 #[.agg #[.bool ok, .bool lok, .slice Bn notes.length Bcn, .int .i64 len, .int .i64 gen, .int .i64 safe, .slice B0 bs.length Bc0, .slice B1 ws.length Bc1]] w (GotOp ⟨rok, ⟨rlok, rns, rlen, rgen, rsafe⟩, rbs, rws⟩ w)) :
    Calls Try.prog 18 #[.agg #[.bool ok, .bool lok, .slice An notes.length Acn, .int .i64 len, .int .i64 gen, .int .i64 safe, .slice A0 bs.length Ac0, .slice A1 ws.length Ac1]] w (Yes w) := by
  have hpos : 0 ≤ 1048576 - costO notes bs ws := by omega
  have HSZ := Aside0.mk (szR_yes hsz); have HM := Aside0.mk hm; have HS := Aside0.mk hs; have HI := Aside0.mk hi; have HCX := Aside0.mk hcx
  clear hm hs hi hsz hcx
  have HMN := Aside0.mk hmn; clear hmn
  have HCN := Aside0.mk hcn; clear hcn
  have hnA : 0 ≤ cnO notes bs ws := by have := cnD_nonneg bs ws; unfold cnO; rw [cntN]; omega
  have hnR : 0 ≤ cnO rns rbs rws := by have := cnD_nonneg rbs rws; unfold cnO; rw [cntN]; omega
  have HAn := Aside0.mk hAn; have HA0 := Aside0.mk hA0; have HA1 := Aside0.mk hA1; clear hAn hA0 hA1
  have HT := Aside0.mk ht; clear ht
  go_enter Try.func18, Try.ntmps18
  go_upto_region 1 with fail
  generalize hw : w.alloc _ = w1
  have O := Aside0.mk ((Own.nil w).of hw); clear hw
  have p0 := (blk_cell O.out.b0 0).trans rfl; have p1 := (blk_cell O.out.b0 1).trans rfl; have p2 := (blk_cell O.out.b0 2).trans rfl; have p3 := (blk_cell O.out.b0 3).trans rfl; have p4 := (blk_cell O.out.b0 4).trans rfl; have p5 := (blk_cell O.out.b0 5).trans rfl; have p6 := (blk_cell O.out.b0 6).trans rfl; have p7 := (blk_cell O.out.b0 7).trans rfl
  go_wp2_with fail
  refine (szOpened_c _ _ _ _ _ _ ok lok notes len gen safe bs ws 1048576 _ (Kd.C_below HAn.out O.out.bel) (Kd.C_below HA0.out O.out.bel) (Kd.C_below HA1.out O.out.bel) HT.out (by omega) (by omega)).mono ?_
  rintro e w2_ ⟨rfl, hb⟩
  rw [HSZ.out]
  replace O := Aside0.mk (O.out.below hb); clear hb
  clear p0 p1 p2 p3 p4 p5 p6 p7
  have p0 := (blk_cell O.out.b0 0).trans rfl; have p1 := (blk_cell O.out.b0 1).trans rfl; have p2 := (blk_cell O.out.b0 2).trans rfl; have p3 := (blk_cell O.out.b0 3).trans rfl; have p4 := (blk_cell O.out.b0 4).trans rfl; have p5 := (blk_cell O.out.b0 5).trans rfl; have p6 := (blk_cell O.out.b0 6).trans rfl; have p7 := (blk_cell O.out.b0 7).trans rfl
  go_wp2_with fail
  refine (toOpened_c _ _ _ _ _ _ ok lok notes len gen safe bs ws _ (Kd.C_below HAn.out O.out.bel) (Kd.C_below HA0.out O.out.bel) (Kd.C_below HA1.out O.out.bel) HMN.out HM.out.1 HM.out.2.1 HM.out.2.2.1 HM.out.2.2.2).mono ?_
  rintro e w3_ ⟨vn, v0, v1, rfl, k⟩
  simp only at k
  replace O := Aside0.mk (O.out.app3 k); clear k
  obtain ⟨Tn, Tcn, rfl, Thn⟩ := O.out.f0
  have THn := Aside0.mk Thn; clear Thn
  obtain ⟨T0, Tc0, rfl, Th0⟩ := O.out.f1
  have TH0 := Aside0.mk Th0; clear Th0
  obtain ⟨T1, Tc1, rfl, Th1⟩ := O.out.f2
  have TH1 := Aside0.mk Th1; clear Th1
  clear p0 p1 p2 p3 p4 p5 p6 p7
  go_wp2_with fail
  refine (HS.out _ _ _ _ _ _ _  O.out.c0 O.out.c1 O.out.c2 TH0.out).mono ?_
  rintro e w4_ ⟨vn, v0, v1, rfl, k⟩
  simp only at k
  replace O := Aside0.mk (O.out.app3 k); clear k
  obtain ⟨Wn, Wcn, rfl, Whn⟩ := O.out.f0
  have WHn := Aside0.mk Whn; clear Whn
  obtain ⟨W0, Wc0, rfl, Wh0⟩ := O.out.f1
  have WH0 := Aside0.mk Wh0; clear Wh0
  obtain ⟨W1, Wc1, rfl, Wh1⟩ := O.out.f2
  have WH1 := Aside0.mk Wh1; clear Wh1
  replace O := Aside0.mk O.out.p3.drop
  replace O := Aside0.mk O.out.p3.drop
  replace O := Aside0.mk O.out.p3.drop
  go_upto_region 6 with fail
  generalize hw : w4_.alloc _ = w5_
  replace O := Aside0.mk (O.out.of hw); clear hw
  generalize w4_.heap.size = gW at O ⊢
  have p0 := (blk_cell O.out.b4 0).trans rfl; have p1 := (blk_cell O.out.b4 1).trans rfl; have p2 := (blk_cell O.out.b4 2).trans rfl; have p3 := (blk_cell O.out.b4 3).trans rfl; have p4 := (blk_cell O.out.b4 4).trans rfl; have p5 := (blk_cell O.out.b4 5).trans rfl; have p6 := (blk_cell O.out.b4 6).trans rfl; have p7 := (blk_cell O.out.b4 7).trans rfl

  go_wp2_with fail
  refine (toOpened_c _ _ _ _ _ _ ok lok notes len gen safe bs ws _ (Kd.C_below HAn.out O.out.bel) (Kd.C_below HA0.out O.out.bel) (Kd.C_below HA1.out O.out.bel) HMN.out HM.out.1 HM.out.2.1 HM.out.2.2.1 HM.out.2.2.2).mono ?_
  rintro e w6_ ⟨vn, v0, v1, rfl, k⟩
  simp only at k
  replace O := Aside0.mk (O.out.app3 k); clear k
  obtain ⟨Xn, Xcn, rfl, Xhn⟩ := O.out.f0
  have XHn := Aside0.mk Xhn; clear Xhn
  obtain ⟨X0, Xc0, rfl, Xh0⟩ := O.out.f1
  have XH0 := Aside0.mk Xh0; clear Xh0
  obtain ⟨X1, Xc1, rfl, Xh1⟩ := O.out.f2
  have XH1 := Aside0.mk Xh1; clear Xh1
  clear p0 p1 p2 p3 p4 p5 p6 p7
  go_upto_region 7 with fail
  generalize hw : w6_.alloc _ = w7_
  replace O := Aside0.mk (O.out.of hw); clear hw
  generalize w6_.heap.size = gX at O ⊢
  have x0 := (blk_cell O.out.b0 0).trans rfl; have x1 := (blk_cell O.out.b0 1).trans rfl; have x2 := (blk_cell O.out.b0 2).trans rfl; have x3 := (blk_cell O.out.b0 3).trans rfl; have x4 := (blk_cell O.out.b0 4).trans rfl; have x5 := (blk_cell O.out.b0 5).trans rfl; have x6 := (blk_cell O.out.b0 6).trans rfl; have x7 := (blk_cell O.out.b0 7).trans rfl
  go_wp2_with fail
  refine (HI.out _ _ _ _ _ _ _  O.out.c1 O.out.c2 O.out.c3 XH0.out).mono ?_
  rintro e w8_ ⟨vn, v0, v1, rfl, k⟩
  simp only at k
  replace O := Aside0.mk (O.out.app3 k); clear k
  obtain ⟨Gn, Gcn, rfl, Ghn⟩ := O.out.f0
  have GHn := Aside0.mk Ghn; clear Ghn
  obtain ⟨G0, Gc0, rfl, Gh0⟩ := O.out.f1
  have GH0 := Aside0.mk Gh0; clear Gh0
  obtain ⟨G1, Gc1, rfl, Gh1⟩ := O.out.f2
  have GH1 := Aside0.mk Gh1; clear Gh1
  clear x0 x1 x2 x3 x4 x5 x6 x7
  go_upto_region 8 with fail
  generalize hw : w8_.alloc _ = w9_
  replace O := Aside0.mk (O.out.of hw); clear hw
  generalize w8_.heap.size = gG at O ⊢
  have y0 := (blk_cell O.out.b0 0).trans rfl; have y1 := (blk_cell O.out.b0 1).trans rfl; have y2 := (blk_cell O.out.b0 2).trans rfl; have y3 := (blk_cell O.out.b0 3).trans rfl; have y4 := (blk_cell O.out.b0 4).trans rfl; have y5 := (blk_cell O.out.b0 5).trans rfl; have y6 := (blk_cell O.out.b0 6).trans rfl; have y7 := (blk_cell O.out.b0 7).trans rfl
  have z0 := (blk_cell O.out.b8 0).trans rfl; have z1 := (blk_cell O.out.b8 1).trans rfl; have z2 := (blk_cell O.out.b8 2).trans rfl; have z3 := (blk_cell O.out.b8 3).trans rfl; have z4 := (blk_cell O.out.b8 4).trans rfl; have z5 := (blk_cell O.out.b8 5).trans rfl; have z6 := (blk_cell O.out.b8 6).trans rfl; have z7 := (blk_cell O.out.b8 7).trans rfl
  go_wp2_with fail
  refine (eqOpened_t _ _ _ _ _ _ _ _ _ _ _ _ rok rlok rns rlen rgen rsafe rbs rws _ O.out.c1 O.out.c2 O.out.c3 O.out.c9 O.out.c10 O.out.c11).mono ?_
  rintro e w10_ ⟨rfl, hb⟩
  replace O := Aside0.mk (O.out.below hb); clear hb
  clear y0 y1 y2 y3 y4 y5 y6 y7 z0 z1 z2 z3 z4 z5 z6 z7
  go_upto_region 10 with fail
  have x0 := (blk_cell O.out.b4 0).trans rfl; have x1 := (blk_cell O.out.b4 1).trans rfl; have x2 := (blk_cell O.out.b4 2).trans rfl; have x3 := (blk_cell O.out.b4 3).trans rfl; have x4 := (blk_cell O.out.b4 4).trans rfl; have x5 := (blk_cell O.out.b4 5).trans rfl; have x6 := (blk_cell O.out.b4 6).trans rfl; have x7 := (blk_cell O.out.b4 7).trans rfl
  have p0 := (blk_cell O.out.b12 0).trans rfl; have p1 := (blk_cell O.out.b12 1).trans rfl; have p2 := (blk_cell O.out.b12 2).trans rfl; have p3 := (blk_cell O.out.b12 3).trans rfl; have p4 := (blk_cell O.out.b12 4).trans rfl; have p5 := (blk_cell O.out.b12 5).trans rfl; have p6 := (blk_cell O.out.b12 6).trans rfl; have p7 := (blk_cell O.out.b12 7).trans rfl
  refine sta (fun w' => (w'.cell? ⟨gX, 0, none⟩ = some (.bool ok) ∧ w'.cell? ⟨gX, 1, none⟩ = some (.bool lok) ∧ w'.cell? ⟨gX, 2, none⟩ = some (.slice Xn notes.length Xcn) ∧ w'.cell? ⟨gX, 3, none⟩ = some (.int .i64 len) ∧ w'.cell? ⟨gX, 4, none⟩ = some (.int .i64 gen) ∧ w'.cell? ⟨gX, 5, none⟩ = some (.int .i64 safe) ∧ w'.cell? ⟨gX, 6, none⟩ = some (.slice X0 bs.length Xc0) ∧ w'.cell? ⟨gX, 7, none⟩ = some (.slice X1 ws.length Xc1)) ∧ (w'.cell? ⟨w.heap.size, 0, none⟩ = some (.bool ok) ∧ w'.cell? ⟨w.heap.size, 1, none⟩ = some (.bool lok) ∧ w'.cell? ⟨w.heap.size, 2, none⟩ = some (.slice An notes.length Acn) ∧ w'.cell? ⟨w.heap.size, 3, none⟩ = some (.int .i64 len) ∧ w'.cell? ⟨w.heap.size, 4, none⟩ = some (.int .i64 gen) ∧ w'.cell? ⟨w.heap.size, 5, none⟩ = some (.int .i64 safe) ∧ w'.cell? ⟨w.heap.size, 6, none⟩ = some (.slice A0 bs.length Ac0) ∧ w'.cell? ⟨w.heap.size, 7, none⟩ = some (.slice A1 ws.length Ac1))) [] 5 ⟨⟨x0, x1, x2, x3, x4, x5, x6, x7⟩, ⟨p0, p1, p2, p3, p4, p5, p6, p7⟩⟩ (fun hS => ?_)
  clear x0 x1 x2 x3 x4 x5 x6 x7 p0 p1 p2 p3 p4 p5 p6 p7
  replace O := Aside0.mk O.out.drew
  generalize w10_.drew = wd11_ at O hS ⊢
  refine tk 0 1 hS ?_
  refine tk 1 3 hS ?_
  refine on 2 7 (fun K hK => ?_)
  refine ca (toOpened_c _ _ _ _ _ _ ok lok notes len gen safe bs ws _ (Kd.C_below HAn.out O.out.bel) (Kd.C_below HA0.out O.out.bel) (Kd.C_below HA1.out O.out.bel) HMN.out HM.out.1 HM.out.2.1 HM.out.2.2.1 HM.out.2.2.2) Try.func79 ?_
  rintro e w12_ ⟨vn, v0, v1, rfl, k⟩
  simp only at k
  replace O := Aside0.mk (O.out.app3 k); clear k
  obtain ⟨Tn, Tcn, rfl, Thn⟩ := O.out.f0
  have THn := Aside0.mk Thn; clear Thn
  obtain ⟨T0, Tc0, rfl, Th0⟩ := O.out.f1
  have TH0 := Aside0.mk Th0; clear Th0
  obtain ⟨T1, Tc1, rfl, Th1⟩ := O.out.f2
  have TH1 := Aside0.mk Th1; clear Th1
  refine ⟨_, rfl, nx hK ⟨⟨(blk_cell O.out.b7 0).trans rfl, (blk_cell O.out.b7 1).trans rfl, (blk_cell O.out.b7 2).trans rfl, (blk_cell O.out.b7 3).trans rfl, (blk_cell O.out.b7 4).trans rfl, (blk_cell O.out.b7 5).trans rfl, (blk_cell O.out.b7 6).trans rfl, (blk_cell O.out.b7 7).trans rfl⟩, ⟨(blk_cell O.out.b15 0).trans rfl, (blk_cell O.out.b15 1).trans rfl, (blk_cell O.out.b15 2).trans rfl, (blk_cell O.out.b15 3).trans rfl, (blk_cell O.out.b15 4).trans rfl, (blk_cell O.out.b15 5).trans rfl, (blk_cell O.out.b15 6).trans rfl, (blk_cell O.out.b15 7).trans rfl⟩⟩ (fun hS => ?_)⟩
  clear hK K
  refine on 3 15 (fun K hK => ?_)
  refine ca (eqOpened_t _ _ _ _ _ _ _ _ _ _ _ _ ok lok notes len gen safe bs ws _ O.out.c8 O.out.c9 O.out.c10 O.out.c0 O.out.c1 O.out.c2) Try.func80 ?_
  rintro e w13_ ⟨rfl, hb⟩
  replace O := Aside0.mk (O.out.below hb); clear hb
  refine ⟨_, rfl, nx hK ⟨⟨(blk_cell O.out.b7 0).trans rfl, (blk_cell O.out.b7 1).trans rfl, (blk_cell O.out.b7 2).trans rfl, (blk_cell O.out.b7 3).trans rfl, (blk_cell O.out.b7 4).trans rfl, (blk_cell O.out.b7 5).trans rfl, (blk_cell O.out.b7 6).trans rfl, (blk_cell O.out.b7 7).trans rfl⟩, ⟨(blk_cell O.out.b15 0).trans rfl, (blk_cell O.out.b15 1).trans rfl, (blk_cell O.out.b15 2).trans rfl, (blk_cell O.out.b15 3).trans rfl, (blk_cell O.out.b15 4).trans rfl, (blk_cell O.out.b15 5).trans rfl, (blk_cell O.out.b15 6).trans rfl, (blk_cell O.out.b15 7).trans rfl⟩⟩ (fun hS => ?_)⟩
  clear hK K hS
  refine pu 4 31 (dn ?_)
  replace O := Aside0.mk O.out.drop
  replace O := Aside0.mk O.out.drop
  replace O := Aside0.mk O.out.drop
  go_upto_region 13 with fail
  replace O := Aside0.mk O.out.p7
  replace O := Aside0.mk O.out.p7
  replace O := Aside0.mk O.out.p7
  have x0 := (blk_cell O.out.b7 0).trans rfl; have x1 := (blk_cell O.out.b7 1).trans rfl; have x2 := (blk_cell O.out.b7 2).trans rfl; have x3 := (blk_cell O.out.b7 3).trans rfl; have x4 := (blk_cell O.out.b7 4).trans rfl; have x5 := (blk_cell O.out.b7 5).trans rfl; have x6 := (blk_cell O.out.b7 6).trans rfl; have x7 := (blk_cell O.out.b7 7).trans rfl
  go_wp2_with fail
  refine (own_markOpened O.out ok lok len gen safe 1 (by omega) (by have := HCX.out; omega)).mono ?_
  rintro e w14_ ⟨rfl, hO⟩
  clear O
  have O := Aside0.mk hO; clear hO x0 x1 x2 x3 x4 x5 x6 x7
  have y0 := (blk_cell O.out.b3 0).trans rfl; have y1 := (blk_cell O.out.b3 1).trans rfl; have y2 := (blk_cell O.out.b3 2).trans rfl; have y3 := (blk_cell O.out.b3 3).trans rfl; have y4 := (blk_cell O.out.b3 4).trans rfl; have y5 := (blk_cell O.out.b3 5).trans rfl; have y6 := (blk_cell O.out.b3 6).trans rfl; have y7 := (blk_cell O.out.b3 7).trans rfl
  have z0 := (blk_cell O.out.b8 0).trans rfl; have z1 := (blk_cell O.out.b8 1).trans rfl; have z2 := (blk_cell O.out.b8 2).trans rfl; have z3 := (blk_cell O.out.b8 3).trans rfl; have z4 := (blk_cell O.out.b8 4).trans rfl; have z5 := (blk_cell O.out.b8 5).trans rfl; have z6 := (blk_cell O.out.b8 6).trans rfl; have z7 := (blk_cell O.out.b8 7).trans rfl
  go_wp2_with fail
  refine (eqOpened_t _ _ _ _ _ _ _ _ _ _ _ _ rok rlok rns rlen rgen rsafe rbs rws _ O.out.c4 O.out.c5 O.out.c6 O.out.c9 O.out.c10 O.out.c11).mono ?_
  rintro e w15_ ⟨rfl, hb⟩
  replace O := Aside0.mk (O.out.below hb); clear hb
  clear y0 y1 y2 y3 y4 y5 y6 y7 z0 z1 z2 z3 z4 z5 z6 z7
  go_upto_region 17 with fail
  replace O := Aside0.mk O.out.p6
  replace O := Aside0.mk O.out.p6
  replace O := Aside0.mk O.out.p6
  have x0 := (blk_cell O.out.b6 0).trans rfl; have x1 := (blk_cell O.out.b6 1).trans rfl; have x2 := (blk_cell O.out.b6 2).trans rfl; have x3 := (blk_cell O.out.b6 3).trans rfl; have x4 := (blk_cell O.out.b6 4).trans rfl; have x5 := (blk_cell O.out.b6 5).trans rfl; have x6 := (blk_cell O.out.b6 6).trans rfl; have x7 := (blk_cell O.out.b6 7).trans rfl
  go_wp2_with fail
  refine (own_markOpened O.out rok rlok rlen rgen rsafe 1 (by omega) (by have := HCN.out; omega)).mono ?_
  rintro e w16_ ⟨rfl, hO⟩
  clear O
  have O := Aside0.mk hO; clear hO x0 x1 x2 x3 x4 x5 x6 x7
  have x0 := (blk_cell O.out.b6 0).trans rfl; have x1 := (blk_cell O.out.b6 1).trans rfl; have x2 := (blk_cell O.out.b6 2).trans rfl; have x3 := (blk_cell O.out.b6 3).trans rfl; have x4 := (blk_cell O.out.b6 4).trans rfl; have x5 := (blk_cell O.out.b6 5).trans rfl; have x6 := (blk_cell O.out.b6 6).trans rfl; have x7 := (blk_cell O.out.b6 7).trans rfl
  go_wp2_with fail
  refine (heldOpened_c _ _ _ _ _ _ rok rlok rns rlen rgen rsafe rbs rws 1 _ _ _ _ rfl rfl rfl (by have := O.out.c0; rw [markL_len] at this; exact this) (by have := O.out.c1; rw [markL_len] at this; exact this) (by have := O.out.c2; rw [markL_len] at this; exact this) (by omega) (by have := HCN.out; omega)).mono ?_
  rintro e w17_ ⟨rfl, hb⟩
  replace O := Aside0.mk (O.out.below hb); clear hb
  clear x0 x1 x2 x3 x4 x5 x6 x7
  have hq0 : 0 ≤ 1 + cnO rns rbs rws := by omega
  have hne : ((1 + cnO rns rbs rws) != (1 + cnO rns rbs rws)) = false := (eqT rfl).2
  go_upto_region 24 with fail
  have p0 := (blk_cell O.out.b12 0).trans rfl; have p1 := (blk_cell O.out.b12 1).trans rfl; have p2 := (blk_cell O.out.b12 2).trans rfl; have p3 := (blk_cell O.out.b12 3).trans rfl; have p4 := (blk_cell O.out.b12 4).trans rfl; have p5 := (blk_cell O.out.b12 5).trans rfl; have p6 := (blk_cell O.out.b12 6).trans rfl; have p7 := (blk_cell O.out.b12 7).trans rfl
  go_wp2_with fail
  refine (toOpened_c _ _ _ _ _ _ ok lok notes len gen safe bs ws _ (Kd.C_below HAn.out O.out.bel) (Kd.C_below HA0.out O.out.bel) (Kd.C_below HA1.out O.out.bel) HMN.out HM.out.1 HM.out.2.1 HM.out.2.2.1 HM.out.2.2.2).mono ?_
  rintro e w18_ ⟨vn, v0, v1, rfl, k⟩
  simp only at k
  replace O := Aside0.mk (O.out.app3 k); clear k
  obtain ⟨Tn, Tcn, rfl, Thn⟩ := O.out.f0
  have THn := Aside0.mk Thn; clear Thn
  obtain ⟨T0, Tc0, rfl, Th0⟩ := O.out.f1
  have TH0 := Aside0.mk Th0; clear Th0
  obtain ⟨T1, Tc1, rfl, Th1⟩ := O.out.f2
  have TH1 := Aside0.mk Th1; clear Th1
  clear p0 p1 p2 p3 p4 p5 p6 p7
  go_wp2_with fail
  refine (HI.out _ _ _ _ _ _ _  O.out.c0 O.out.c1 O.out.c2 TH0.out).mono ?_
  rintro e w19_ ⟨vn, v0, v1, rfl, k⟩
  simp only at k
  replace O := Aside0.mk (O.out.app3 k); clear k
  obtain ⟨Hn, Hcn, rfl, Hhn⟩ := O.out.f0
  have HHn := Aside0.mk Hhn; clear Hhn
  obtain ⟨H0, Hc0, rfl, Hh0⟩ := O.out.f1
  have HH0 := Aside0.mk Hh0; clear Hh0
  obtain ⟨H1, Hc1, rfl, Hh1⟩ := O.out.f2
  have HH1 := Aside0.mk Hh1; clear Hh1
  replace O := Aside0.mk O.out.p3.drop
  replace O := Aside0.mk O.out.p3.drop
  replace O := Aside0.mk O.out.p3.drop
  go_upto_region 25 with fail
  generalize hw : w19_.alloc _ = w20_
  replace O := Aside0.mk (O.out.of hw); clear hw
  generalize w19_.heap.size = gH at O ⊢
  have y0 := (blk_cell O.out.b0 0).trans rfl; have y1 := (blk_cell O.out.b0 1).trans rfl; have y2 := (blk_cell O.out.b0 2).trans rfl; have y3 := (blk_cell O.out.b0 3).trans rfl; have y4 := (blk_cell O.out.b0 4).trans rfl; have y5 := (blk_cell O.out.b0 5).trans rfl; have y6 := (blk_cell O.out.b0 6).trans rfl; have y7 := (blk_cell O.out.b0 7).trans rfl
  have z0 := (blk_cell O.out.b12 0).trans rfl; have z1 := (blk_cell O.out.b12 1).trans rfl; have z2 := (blk_cell O.out.b12 2).trans rfl; have z3 := (blk_cell O.out.b12 3).trans rfl; have z4 := (blk_cell O.out.b12 4).trans rfl; have z5 := (blk_cell O.out.b12 5).trans rfl; have z6 := (blk_cell O.out.b12 6).trans rfl; have z7 := (blk_cell O.out.b12 7).trans rfl
  go_wp2_with fail
  refine (eqOpened_t _ _ _ _ _ _ _ _ _ _ _ _ rok rlok rns rlen rgen rsafe rbs rws _ O.out.c1 O.out.c2 O.out.c3 O.out.c13 O.out.c14 O.out.c15).mono ?_
  rintro e w21_ ⟨rfl, hb⟩
  replace O := Aside0.mk (O.out.below hb); clear hb
  clear y0 y1 y2 y3 y4 y5 y6 y7 z0 z1 z2 z3 z4 z5 z6 z7
  have x0 := (blk_cell O.out.b10 0).trans rfl; have x1 := (blk_cell O.out.b10 1).trans rfl; have x2 := (blk_cell O.out.b10 2).trans rfl; have x3 := (blk_cell O.out.b10 3).trans rfl; have x4 := (blk_cell O.out.b10 4).trans rfl; have x5 := (blk_cell O.out.b10 5).trans rfl; have x6 := (blk_cell O.out.b10 6).trans rfl; have x7 := (blk_cell O.out.b10 7).trans rfl
  go_wp2_with fail
  refine (heldOpened_c _ _ _ _ _ _ rok rlok rns rlen rgen rsafe rbs rws 1 _ _ _ _ rfl rfl rfl (by have := O.out.c4; rw [markL_len] at this; exact this) (by have := O.out.c5; rw [markL_len] at this; exact this) (by have := O.out.c6; rw [markL_len] at this; exact this) (by omega) (by have := HCN.out; omega)).mono ?_
  rintro e w22_ ⟨rfl, hb⟩
  replace O := Aside0.mk (O.out.below hb); clear hb
  clear x0 x1 x2 x3 x4 x5 x6 x7
  go_wp2_with fail
  go_ret
  exact ⟨rfl, O.out.bel⟩
end Go.Proofs.Ytocdlibnmlcokaa
