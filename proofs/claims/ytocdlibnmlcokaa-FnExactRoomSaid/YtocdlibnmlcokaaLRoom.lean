/- FnExactRoom: the walk. -/
import Derived.Test.YtocdlibnmlcokaaKL4
namespace Go.Proofs.Ytocdlibnmlcokaa
open Go.RowKit Go.Proofs.YtocdlibnmlcokaaW.PrintWords Go.Proofs.YtocdlibnmlcokaaW.PrintLast
set_option linter.unusedVariables false
set_option linter.unusedSimpArgs false
set_option maxRecDepth 100000 in
set_option maxHeartbeats 8000000 in
theorem fnExactRoom_l (An : Option Addr) (Acn : Nat) (A0 : Option Addr) (Ac0 : Nat) (A1 : Option Addr) (Ac1 : Nat) (ok : Bool) (lok : Bool) (notes : List Nt) (len gen safe : Int) (bs : List (List Int)) (ws : List Wr) (w : World) (hAn : rN.d.C w An notes.length notes) (hA0 : rBS.d.C w A0 bs.length bs) (hA1 : rW.d.C w A1 ws.length ws) (ht : ∀ x ∈ notes, x.text.size ≤ 9223372036854775807) (hsz : ¬ costO notes bs ws ≤ 1048576) :
    Calls Try.prog 16 #[.agg #[.bool ok, .bool lok, .slice An notes.length Acn, .int .i64 len, .int .i64 gen, .int .i64 safe, .slice A0 bs.length Ac0, .slice A1 ws.length Ac1]] w (Yes w) := by
  have HSZ := Aside0.mk (szR_no hsz); clear hsz
  have HAn := Aside0.mk hAn; have HA0 := Aside0.mk hA0; have HA1 := Aside0.mk hA1; clear hAn hA0 hA1
  have HT := Aside0.mk ht; clear ht
  go_enter Try.func16, Try.ntmps16
  go_upto_region 1 with fail
  generalize hw : w.alloc _ = w1
  have O := Aside0.mk ((Own.nil w).of hw); clear hw
  have p0 := (blk_cell O.out.b0 0).trans rfl; have p1 := (blk_cell O.out.b0 1).trans rfl; have p2 := (blk_cell O.out.b0 2).trans rfl; have p3 := (blk_cell O.out.b0 3).trans rfl; have p4 := (blk_cell O.out.b0 4).trans rfl; have p5 := (blk_cell O.out.b0 5).trans rfl; have p6 := (blk_cell O.out.b0 6).trans rfl; have p7 := (blk_cell O.out.b0 7).trans rfl
  go_wp2_with fail
  refine (szOpened_c _ _ _ _ _ _ ok lok notes len gen safe bs ws 1048576 _ (Kd.C_below HAn.out O.out.bel) (Kd.C_below HA0.out O.out.bel) (Kd.C_below HA1.out O.out.bel) HT.out (by omega) (by omega)).mono ?_
  rintro e w1_ ⟨rfl, hb⟩
  rw [HSZ.out]
  replace O := Aside0.mk (O.out.below hb); clear hb
  clear p0 p1 p2 p3 p4 p5 p6 p7
  go_wp2_with fail
  go_ret
  exact ⟨rfl, O.out.bel⟩
set_option maxRecDepth 100000 in
set_option maxHeartbeats 8000000 in
theorem fnExactRoom_w (An : Option Addr) (Acn : Nat) (A0 : Option Addr) (Ac0 : Nat) (A1 : Option Addr) (Ac1 : Nat) (ok : Bool) (lok : Bool) (notes : List Nt) (len gen safe : Int) (bs : List (List Int)) (ws : List Wr) (r : Int) (w : World) (hAn : rN.d.C w An notes.length notes) (hA0 : rBS.d.C w A0 bs.length bs) (hA1 : rW.d.C w A1 ws.length ws) (ht : ∀ x ∈ notes, x.text.size ≤ 9223372036854775807) (hsz : costO notes bs ws ≤ 1048576) (hm : Small bs ws) (hmn : notes.length ≤ 10000000) (hcx : cnO notes bs ws ≤ 100000000) 
    (hs : ∀ (Bn : Option Addr) (Bcn : Nat) (B0 : Option Addr) (Bc0 : Nat) (B1 : Option Addr) (Bc1 : Nat) (w : World), rN.d.C w Bn notes.length notes → rBS.d.C w B0 bs.length bs → rW.d.C w B1 ws.length ws → bs.length ≤ Bc0 → Calls Try.prog 78 #[.agg #[.bool ok, .bool lok, .slice Bn notes.length Bcn, .int .i64 len, .int .i64 gen, .int .i64 safe, .slice B0 bs.length Bc0, .slice B1 ws.length Bc1]] w (Num w r))
    (hi : ∀ (Bn : Option Addr) (Bcn : Nat) (B0 : Option Addr) (Bc0 : Nat) (B1 : Option Addr) (Bc1 : Nat) (w : World), rN.d.C w Bn notes.length notes → rBS.d.C w B0 bs.length bs → rW.d.C w B1 ws.length ws → bs.length ≤ Bc0 → Calls Try.prog 38 #[.agg #[.bool ok, .bool lok, .slice Bn notes.length Bcn, .int .i64 len, .int .i64 gen, .int .i64 safe, .slice B0 bs.length Bc0, .slice B1 ws.length Bc1]] w (Num w r)) :
    Calls Try.prog 16 #[.agg #[.bool ok, .bool lok, .slice An notes.length Acn, .int .i64 len, .int .i64 gen, .int .i64 safe, .slice A0 bs.length Ac0, .slice A1 ws.length Ac1]] w (Yes w) := by
  have hpos : 0 ≤ 1048576 - costO notes bs ws := by omega
  have HSZ := Aside0.mk (szR_yes hsz); have HM := Aside0.mk hm; have HS := Aside0.mk hs; have HI := Aside0.mk hi; have HCX := Aside0.mk hcx
  clear hm hs hi hsz hcx
  have HMN := Aside0.mk hmn; clear hmn
  have hnA : 0 ≤ cnO notes bs ws := by have := cnD_nonneg bs ws; unfold cnO; rw [cntN]; omega
  have HAn := Aside0.mk hAn; have HA0 := Aside0.mk hA0; have HA1 := Aside0.mk hA1; clear hAn hA0 hA1
  have HT := Aside0.mk ht; clear ht
  go_enter Try.func16, Try.ntmps16
  go_upto_region 1 with fail
  generalize hw : w.alloc _ = w1
  have O := Aside0.mk ((Own.nil w).of hw); clear hw
  have p0 := (blk_cell O.out.b0 0).trans rfl; have p1 := (blk_cell O.out.b0 1).trans rfl; have p2 := (blk_cell O.out.b0 2).trans rfl; have p3 := (blk_cell O.out.b0 3).trans rfl; have p4 := (blk_cell O.out.b0 4).trans rfl; have p5 := (blk_cell O.out.b0 5).trans rfl; have p6 := (blk_cell O.out.b0 6).trans rfl; have p7 := (blk_cell O.out.b0 7).trans rfl
  go_wp2_with fail
  refine (szOpened_c _ _ _ _ _ _ ok lok notes len gen safe bs ws 1048576 _ (Kd.C_below HAn.out O.out.bel) (Kd.C_below HA0.out O.out.bel) (Kd.C_below HA1.out O.out.bel) HT.out (by omega) (by omega)).mono ?_
  rintro e w2_ ⟨rfl, hb⟩
  rw [HSZ.out]
  replace O := Aside0.mk (O.out.below hb); clear hb
  clear p0 p1 p2 p3 p4 p5 p6 p7
  have p0 := (blk_cell O.out.b0 0).trans rfl; have p1 := (blk_cell O.out.b0 1).trans rfl; have p2 := (blk_cell O.out.b0 2).trans rfl; have p3 := (blk_cell O.out.b0 3).trans rfl; have p4 := (blk_cell O.out.b0 4).trans rfl; have p5 := (blk_cell O.out.b0 5).trans rfl; have p6 := (blk_cell O.out.b0 6).trans rfl; have p7 := (blk_cell O.out.b0 7).trans rfl
  go_wp2_with fail
  refine (toOpened_c _ _ _ _ _ _ ok lok notes len gen safe bs ws _ (Kd.C_below HAn.out O.out.bel) (Kd.C_below HA0.out O.out.bel) (Kd.C_below HA1.out O.out.bel) HMN.out HM.out.1 HM.out.2.1 HM.out.2.2.1 HM.out.2.2.2).mono ?_
  rintro e w3_ ⟨vn, v0, v1, rfl, k⟩
  simp only at k
  replace O := Aside0.mk (O.out.app3 k); clear k
  obtain ⟨Tn, Tcn, rfl, Thn⟩ := O.out.f0
  have THn := Aside0.mk Thn; clear Thn
  obtain ⟨T0, Tc0, rfl, Th0⟩ := O.out.f1
  have TH0 := Aside0.mk Th0; clear Th0
  obtain ⟨T1, Tc1, rfl, Th1⟩ := O.out.f2
  have TH1 := Aside0.mk Th1; clear Th1
  clear p0 p1 p2 p3 p4 p5 p6 p7
  go_wp2_with fail
  refine (HS.out _ _ _ _ _ _ _  O.out.c0 O.out.c1 O.out.c2 TH0.out).mono ?_
  rintro e w4_ ⟨rfl, hb⟩
  replace O := Aside0.mk (O.out.below hb); clear hb
  replace O := Aside0.mk O.out.drop
  replace O := Aside0.mk O.out.drop
  replace O := Aside0.mk O.out.drop
  have p0 := (blk_cell O.out.b0 0).trans rfl; have p1 := (blk_cell O.out.b0 1).trans rfl; have p2 := (blk_cell O.out.b0 2).trans rfl; have p3 := (blk_cell O.out.b0 3).trans rfl; have p4 := (blk_cell O.out.b0 4).trans rfl; have p5 := (blk_cell O.out.b0 5).trans rfl; have p6 := (blk_cell O.out.b0 6).trans rfl; have p7 := (blk_cell O.out.b0 7).trans rfl
  go_upto_region 6 with fail
  go_wp2_with fail
  refine (toOpened_c _ _ _ _ _ _ ok lok notes len gen safe bs ws _ (Kd.C_below HAn.out O.out.bel) (Kd.C_below HA0.out O.out.bel) (Kd.C_below HA1.out O.out.bel) HMN.out HM.out.1 HM.out.2.1 HM.out.2.2.1 HM.out.2.2.2).mono ?_
  rintro e w5_ ⟨vn, v0, v1, rfl, k⟩
  simp only at k
  replace O := Aside0.mk (O.out.app3 k); clear k
  obtain ⟨Xn, Xcn, rfl, Xhn⟩ := O.out.f0
  have XHn := Aside0.mk Xhn; clear Xhn
  obtain ⟨X0, Xc0, rfl, Xh0⟩ := O.out.f1
  have XH0 := Aside0.mk Xh0; clear Xh0
  obtain ⟨X1, Xc1, rfl, Xh1⟩ := O.out.f2
  have XH1 := Aside0.mk Xh1; clear Xh1
  clear p0 p1 p2 p3 p4 p5 p6 p7
  go_upto_region 7 with fail
  generalize hw : w5_.alloc _ = w6_
  replace O := Aside0.mk (O.out.of hw); clear hw
  generalize w5_.heap.size = gX at O ⊢
  have x0 := (blk_cell O.out.b0 0).trans rfl; have x1 := (blk_cell O.out.b0 1).trans rfl; have x2 := (blk_cell O.out.b0 2).trans rfl; have x3 := (blk_cell O.out.b0 3).trans rfl; have x4 := (blk_cell O.out.b0 4).trans rfl; have x5 := (blk_cell O.out.b0 5).trans rfl; have x6 := (blk_cell O.out.b0 6).trans rfl; have x7 := (blk_cell O.out.b0 7).trans rfl
  go_wp2_with fail
  refine (HI.out _ _ _ _ _ _ _  O.out.c1 O.out.c2 O.out.c3 XH0.out).mono ?_
  rintro e w7_ ⟨rfl, hb⟩
  replace O := Aside0.mk (O.out.below hb); clear hb
  clear x0 x1 x2 x3 x4 x5 x6 x7
  skip
  go_upto_region 10 with fail
  have x0 := (blk_cell O.out.b0 0).trans rfl; have x1 := (blk_cell O.out.b0 1).trans rfl; have x2 := (blk_cell O.out.b0 2).trans rfl; have x3 := (blk_cell O.out.b0 3).trans rfl; have x4 := (blk_cell O.out.b0 4).trans rfl; have x5 := (blk_cell O.out.b0 5).trans rfl; have x6 := (blk_cell O.out.b0 6).trans rfl; have x7 := (blk_cell O.out.b0 7).trans rfl
  have p0 := (blk_cell O.out.b4 0).trans rfl; have p1 := (blk_cell O.out.b4 1).trans rfl; have p2 := (blk_cell O.out.b4 2).trans rfl; have p3 := (blk_cell O.out.b4 3).trans rfl; have p4 := (blk_cell O.out.b4 4).trans rfl; have p5 := (blk_cell O.out.b4 5).trans rfl; have p6 := (blk_cell O.out.b4 6).trans rfl; have p7 := (blk_cell O.out.b4 7).trans rfl
  refine sta (fun w' => (w'.cell? ⟨gX, 0, none⟩ = some (.bool ok) ∧ w'.cell? ⟨gX, 1, none⟩ = some (.bool lok) ∧ w'.cell? ⟨gX, 2, none⟩ = some (.slice Xn notes.length Xcn) ∧ w'.cell? ⟨gX, 3, none⟩ = some (.int .i64 len) ∧ w'.cell? ⟨gX, 4, none⟩ = some (.int .i64 gen) ∧ w'.cell? ⟨gX, 5, none⟩ = some (.int .i64 safe) ∧ w'.cell? ⟨gX, 6, none⟩ = some (.slice X0 bs.length Xc0) ∧ w'.cell? ⟨gX, 7, none⟩ = some (.slice X1 ws.length Xc1)) ∧ (w'.cell? ⟨w.heap.size, 0, none⟩ = some (.bool ok) ∧ w'.cell? ⟨w.heap.size, 1, none⟩ = some (.bool lok) ∧ w'.cell? ⟨w.heap.size, 2, none⟩ = some (.slice An notes.length Acn) ∧ w'.cell? ⟨w.heap.size, 3, none⟩ = some (.int .i64 len) ∧ w'.cell? ⟨w.heap.size, 4, none⟩ = some (.int .i64 gen) ∧ w'.cell? ⟨w.heap.size, 5, none⟩ = some (.int .i64 safe) ∧ w'.cell? ⟨w.heap.size, 6, none⟩ = some (.slice A0 bs.length Ac0) ∧ w'.cell? ⟨w.heap.size, 7, none⟩ = some (.slice A1 ws.length Ac1))) [] 5 ⟨⟨x0, x1, x2, x3, x4, x5, x6, x7⟩, ⟨p0, p1, p2, p3, p4, p5, p6, p7⟩⟩ (fun hS => ?_)
  clear x0 x1 x2 x3 x4 x5 x6 x7 p0 p1 p2 p3 p4 p5 p6 p7
  replace O := Aside0.mk O.out.drew
  generalize w7_.drew = wd8_ at O hS ⊢
  refine tk 0 1 hS ?_
  refine tk 1 3 hS ?_
  refine on 2 7 (fun K hK => ?_)
  refine ca (toOpened_c _ _ _ _ _ _ ok lok notes len gen safe bs ws _ (Kd.C_below HAn.out O.out.bel) (Kd.C_below HA0.out O.out.bel) (Kd.C_below HA1.out O.out.bel) HMN.out HM.out.1 HM.out.2.1 HM.out.2.2.1 HM.out.2.2.2) Try.func79 ?_
  rintro e w9_ ⟨vn, v0, v1, rfl, k⟩
  simp only at k
  replace O := Aside0.mk (O.out.app3 k); clear k
  obtain ⟨Tn, Tcn, rfl, Thn⟩ := O.out.f0
  have THn := Aside0.mk Thn; clear Thn
  obtain ⟨T0, Tc0, rfl, Th0⟩ := O.out.f1
  have TH0 := Aside0.mk Th0; clear Th0
  obtain ⟨T1, Tc1, rfl, Th1⟩ := O.out.f2
  have TH1 := Aside0.mk Th1; clear Th1
  refine ⟨_, rfl, nx hK ⟨⟨(blk_cell O.out.b3 0).trans rfl, (blk_cell O.out.b3 1).trans rfl, (blk_cell O.out.b3 2).trans rfl, (blk_cell O.out.b3 3).trans rfl, (blk_cell O.out.b3 4).trans rfl, (blk_cell O.out.b3 5).trans rfl, (blk_cell O.out.b3 6).trans rfl, (blk_cell O.out.b3 7).trans rfl⟩, ⟨(blk_cell O.out.b7 0).trans rfl, (blk_cell O.out.b7 1).trans rfl, (blk_cell O.out.b7 2).trans rfl, (blk_cell O.out.b7 3).trans rfl, (blk_cell O.out.b7 4).trans rfl, (blk_cell O.out.b7 5).trans rfl, (blk_cell O.out.b7 6).trans rfl, (blk_cell O.out.b7 7).trans rfl⟩⟩ (fun hS => ?_)⟩
  clear hK K
  refine on 3 15 (fun K hK => ?_)
  refine ca (eqOpened_t _ _ _ _ _ _ _ _ _ _ _ _ ok lok notes len gen safe bs ws _ O.out.c4 O.out.c5 O.out.c6 O.out.c0 O.out.c1 O.out.c2) Try.func80 ?_
  rintro e w10_ ⟨rfl, hb⟩
  replace O := Aside0.mk (O.out.below hb); clear hb
  refine ⟨_, rfl, nx hK ⟨⟨(blk_cell O.out.b3 0).trans rfl, (blk_cell O.out.b3 1).trans rfl, (blk_cell O.out.b3 2).trans rfl, (blk_cell O.out.b3 3).trans rfl, (blk_cell O.out.b3 4).trans rfl, (blk_cell O.out.b3 5).trans rfl, (blk_cell O.out.b3 6).trans rfl, (blk_cell O.out.b3 7).trans rfl⟩, ⟨(blk_cell O.out.b7 0).trans rfl, (blk_cell O.out.b7 1).trans rfl, (blk_cell O.out.b7 2).trans rfl, (blk_cell O.out.b7 3).trans rfl, (blk_cell O.out.b7 4).trans rfl, (blk_cell O.out.b7 5).trans rfl, (blk_cell O.out.b7 6).trans rfl, (blk_cell O.out.b7 7).trans rfl⟩⟩ (fun hS => ?_)⟩
  clear hK K hS
  refine pu 4 31 (dn ?_)
  replace O := Aside0.mk O.out.drop
  replace O := Aside0.mk O.out.drop
  replace O := Aside0.mk O.out.drop
  go_wp2_with fail
  go_ret
  exact ⟨rfl, O.out.bel⟩
end Go.Proofs.Ytocdlibnmlcokaa
