/- FnExactAppend: the walk. -/
import Derived.Test.YtocdlibnmlcokaaKA4
namespace Go.Proofs.Ytocdlibnmlcokaa
open Go.RowKit Go.Proofs.YtocdlibnmlcokaaW.PrintWords Go.Proofs.YtocdlibnmlcokaaW.PrintLast
set_option linter.unusedVariables false
set_option linter.unusedSimpArgs false
set_option maxRecDepth 100000 in
set_option maxHeartbeats 8000000 in
theorem fnExactAppend_l (An : Option Addr) (Acn : Nat) (A0 : Option Addr) (Ac0 : Nat) (A1 : Option Addr) (Ac1 : Nat) (ok : Bool) (lok : Bool) (notes : List Nt) (len gen safe : Int) (bs : List (List Int)) (ws : List Wr) (x : Nt) (w : World) (hAn : rN.d.C w An notes.length notes) (hA0 : rBS.d.C w A0 bs.length bs) (hA1 : rW.d.C w A1 ws.length ws) (ht : ∀ x ∈ notes, x.text.size ≤ 9223372036854775807) (htx : x.text.size ≤ 9223372036854775807) (hsz : ¬ costO notes bs ws ≤ 1048576) :
    Calls Try.prog 19 #[.agg #[.bool ok, .bool lok, .slice An notes.length Acn, .int .i64 len, .int .i64 gen, .int .i64 safe, .slice A0 bs.length Ac0, .slice A1 ws.length Ac1], vN x] w (Yes w) := by
  have HSZ := Aside0.mk (szR_no hsz); clear hsz
  have HAn := Aside0.mk hAn; have HA0 := Aside0.mk hA0; have HA1 := Aside0.mk hA1; clear hAn hA0 hA1
  have HT := Aside0.mk ht; clear ht
  simp only [vN]
  go_enter Try.func19, Try.ntmps19
  go_upto_region 1 with fail
  generalize hw : World.alloc (World.alloc w _) _ = w1
  have O := Aside0.mk ((Own.nil w).of2 hw); clear hw
  have p0 := (blk_cell O.out.b1 0).trans rfl; have p1 := (blk_cell O.out.b1 1).trans rfl; have p2 := (blk_cell O.out.b1 2).trans rfl; have p3 := (blk_cell O.out.b1 3).trans rfl; have p4 := (blk_cell O.out.b1 4).trans rfl; have p5 := (blk_cell O.out.b1 5).trans rfl; have p6 := (blk_cell O.out.b1 6).trans rfl; have p7 := (blk_cell O.out.b1 7).trans rfl
  go_wp2_with fail
  refine (szOpened_c _ _ _ _ _ _ ok lok notes len gen safe bs ws 1048576 _ (Kd.C_below HAn.out O.out.bel) (Kd.C_below HA0.out O.out.bel) (Kd.C_below HA1.out O.out.bel) HT.out (by omega) (by omega)).mono ?_
  rintro e w1_ ⟨rfl, hb⟩
  rw [HSZ.out]
  replace O := Aside0.mk (O.out.below hb); clear hb
  clear p0 p1 p2 p3 p4 p5 p6 p7
  go_wp2_with fail
  go_ret
  exact ⟨rfl, O.out.bel⟩
set_option maxRecDepth 100000 in
set_option maxHeartbeats 8000000 in
theorem fnExactAppend_lx (An : Option Addr) (Acn : Nat) (A0 : Option Addr) (Ac0 : Nat) (A1 : Option Addr) (Ac1 : Nat) (ok : Bool) (lok : Bool) (notes : List Nt) (len gen safe : Int) (bs : List (List Int)) (ws : List Wr) (x : Nt) (w : World) (hAn : rN.d.C w An notes.length notes) (hA0 : rBS.d.C w A0 bs.length bs) (hA1 : rW.d.C w A1 ws.length ws) (ht : ∀ x ∈ notes, x.text.size ≤ 9223372036854775807) (htx : x.text.size ≤ 9223372036854775807) (hsz : costO notes bs ws ≤ 1048576) (hsx : ¬ (x.text.size : Int) ≤ 1048576 - costO notes bs ws) :
    Calls Try.prog 19 #[.agg #[.bool ok, .bool lok, .slice An notes.length Acn, .int .i64 len, .int .i64 gen, .int .i64 safe, .slice A0 bs.length Ac0, .slice A1 ws.length Ac1], vN x] w (Yes w) := by
  have hcD := costD_nonneg bs ws; have hcN := costN_nonneg notes
  have hpos : 0 ≤ 1048576 - costO notes bs ws := by omega
  have hpo2 : 1048576 - costO notes bs ws ≤ 1048576 := by unfold costO at *; omega
  have HSZ := Aside0.mk (szR_yes hsz); have HSX := Aside0.mk (szR_no hsx); clear hsz hsx hcD hcN
  have HAn := Aside0.mk hAn; have HA0 := Aside0.mk hA0; have HA1 := Aside0.mk hA1; clear hAn hA0 hA1
  have HT := Aside0.mk ht; clear ht
  simp only [vN]
  go_enter Try.func19, Try.ntmps19
  go_upto_region 1 with fail
  generalize hw : World.alloc (World.alloc w _) _ = w1
  have O := Aside0.mk ((Own.nil w).of2 hw); clear hw
  have p0 := (blk_cell O.out.b1 0).trans rfl; have p1 := (blk_cell O.out.b1 1).trans rfl; have p2 := (blk_cell O.out.b1 2).trans rfl; have p3 := (blk_cell O.out.b1 3).trans rfl; have p4 := (blk_cell O.out.b1 4).trans rfl; have p5 := (blk_cell O.out.b1 5).trans rfl; have p6 := (blk_cell O.out.b1 6).trans rfl; have p7 := (blk_cell O.out.b1 7).trans rfl
  go_wp2_with fail
  refine (szOpened_c _ _ _ _ _ _ ok lok notes len gen safe bs ws 1048576 _ (Kd.C_below HAn.out O.out.bel) (Kd.C_below HA0.out O.out.bel) (Kd.C_below HA1.out O.out.bel) HT.out (by omega) (by omega)).mono ?_
  rintro e w2_ ⟨rfl, hb⟩
  rw [HSZ.out]
  replace O := Aside0.mk (O.out.below hb); clear hb
  clear p0 p1 p2 p3 p4 p5 p6 p7
  have n0 := (blk_cell O.out.b0 0).trans rfl; have n1 := (blk_cell O.out.b0 1).trans rfl; have n2 := (blk_cell O.out.b0 2).trans rfl; have n3 := (blk_cell O.out.b0 3).trans rfl; have n4 := (blk_cell O.out.b0 4).trans rfl
  go_wp2_with fail
  refine (szNote_c x _ _ htx (by omega) (by omega)).mono ?_
  rintro e w3_ ⟨rfl, hb⟩
  rw [HSX.out]
  replace O := Aside0.mk (O.out.below hb); clear hb
  clear n0 n1 n2 n3 n4
  go_wp2_with fail
  go_ret
  exact ⟨rfl, O.out.bel⟩
set_option maxRecDepth 100000 in
set_option maxHeartbeats 16000000 in
theorem fnExactAppend_w (An : Option Addr) (Acn : Nat) (A0 : Option Addr) (Ac0 : Nat) (A1 : Option Addr) (Ac1 : Nat) (ok : Bool) (lok : Bool) (notes : List Nt) (len gen safe : Int) (bs : List (List Int)) (ws : List Wr) (rok : Bool) (rlok : Bool) (rns : List Nt) (rlen rgen rsafe : Int) (rbs : List (List Int)) (rws : List Wr) (x : Nt) (w : World) (hAn : rN.d.C w An notes.length notes) (hA0 : rBS.d.C w A0 bs.length bs) (hA1 : rW.d.C w A1 ws.length ws) (ht : ∀ x ∈ notes, x.text.size ≤ 9223372036854775807) (htx : x.text.size ≤ 9223372036854775807) (hsz : costO notes bs ws ≤ 1048576) (hsx : (x.text.size : Int) ≤ 1048576 - costO notes bs ws) (hm : Small bs ws) (hmn : notes.length ≤ 10000000) (hcx : cnO notes bs ws ≤ 100000000) (hcn : cnO rns rbs rws ≤ 100000000)
    (hs : ∀ (Bn : Option Addr) (Bcn : Nat) (B0 : Option Addr) (Bc0 : Nat) (B1 : Option Addr) (Bc1 : Nat) (w : World), rN.d.C w Bn notes.length notes → rBS.d.C w B0 bs.length bs → rW.d.C w B1 ws.length ws → bs.length ≤ Bc0 → Calls Try.prog 86 #[.agg #[.bool ok, .bool lok, .slice Bn notes.length Bcn, .int .i64 len, .int .i64 gen, .int .i64 safe, .slice B0 bs.length Bc0, .slice B1 ws.length Bc1], vN x] w (GotOp ⟨rok, ⟨rlok, rns, rlen, rgen, rsafe⟩, rbs, rws⟩ w))
    (hi : ∀ (Bn : Option Addr) (Bcn : Nat) (B0 : Option Addr) (Bc0 : Nat) (B1 : Option Addr) (Bc1 : Nat) (w : World), rN.d.C w Bn notes.length notes → rBS.d.C w B0 bs.length bs → rW.d.C w B1 ws.length ws → bs.length ≤ Bc0 → Calls Try.prog 39 #[.agg #[.bool ok, .bool lok, .slice Bn notes.length Bcn, .int .i64 len, .int .i64 gen, .int .i64 safe, .slice B0 bs.length Bc0, .slice B1 ws.length Bc1], vN x] w (GotOp ⟨rok, ⟨rlok, rns, rlen, rgen, rsafe⟩, rbs, rws⟩ w)) :
    Calls Try.prog 19 #[.agg #[.bool ok, .bool lok, .slice An notes.length Acn, .int .i64 len, .int .i64 gen, .int .i64 safe, .slice A0 bs.length Ac0, .slice A1 ws.length Ac1], vN x] w (Yes w) := by
  have hcD := costD_nonneg bs ws; have hcN := costN_nonneg notes
  have hpos : 0 ≤ 1048576 - costO notes bs ws := by omega
  have hpo2 : 1048576 - costO notes bs ws ≤ 1048576 := by unfold costO at *; omega
  have hpo3 : 0 ≤ 1048576 - costO notes bs ws - x.text.size := by omega
  have HSZ := Aside0.mk (szR_yes hsz); have HSX := Aside0.mk (szR_yes hsx); have HM := Aside0.mk hm; have HS := Aside0.mk hs; have HI := Aside0.mk hi; have HCX := Aside0.mk hcx; have HMN := Aside0.mk hmn; have HCN := Aside0.mk hcn
  clear hm hs hi hsz hsx hcx hmn hcn hcD hcN
  have hnA : 0 ≤ cnO notes bs ws := by have := cnD_nonneg bs ws; unfold cnO; rw [cntN]; omega
  have hnR : 0 ≤ cnO rns rbs rws := by have := cnD_nonneg rbs rws; unfold cnO; rw [cntN]; omega
  have HAn := Aside0.mk hAn; have HA0 := Aside0.mk hA0; have HA1 := Aside0.mk hA1; clear hAn hA0 hA1
  have HT := Aside0.mk ht; clear ht
  simp only [vN]
  go_enter Try.func19, Try.ntmps19
  go_upto_region 1 with fail
  generalize hw : World.alloc (World.alloc w _) _ = w1
  have O := Aside0.mk ((Own.nil w).of2 hw); clear hw
  have p0 := (blk_cell O.out.b1 0).trans rfl; have p1 := (blk_cell O.out.b1 1).trans rfl; have p2 := (blk_cell O.out.b1 2).trans rfl; have p3 := (blk_cell O.out.b1 3).trans rfl; have p4 := (blk_cell O.out.b1 4).trans rfl; have p5 := (blk_cell O.out.b1 5).trans rfl; have p6 := (blk_cell O.out.b1 6).trans rfl; have p7 := (blk_cell O.out.b1 7).trans rfl
  go_wp2_with fail
  refine (szOpened_c _ _ _ _ _ _ ok lok notes len gen safe bs ws 1048576 _ (Kd.C_below HAn.out O.out.bel) (Kd.C_below HA0.out O.out.bel) (Kd.C_below HA1.out O.out.bel) HT.out (by omega) (by omega)).mono ?_
  rintro e w4_ ⟨rfl, hb⟩
  rw [HSZ.out]
  replace O := Aside0.mk (O.out.below hb); clear hb
  clear p0 p1 p2 p3 p4 p5 p6 p7
  have n0 := (blk_cell O.out.b0 0).trans rfl; have n1 := (blk_cell O.out.b0 1).trans rfl; have n2 := (blk_cell O.out.b0 2).trans rfl; have n3 := (blk_cell O.out.b0 3).trans rfl; have n4 := (blk_cell O.out.b0 4).trans rfl
  go_wp2_with fail
  refine (szNote_c x _ _ htx (by omega) (by omega)).mono ?_
  rintro e w5_ ⟨rfl, hb⟩
  rw [HSX.out]
  replace O := Aside0.mk (O.out.below hb); clear hb
  clear n0 n1 n2 n3 n4
  go_upto_region 8 with fail
  go_cut [6] from 13 (fun v wc => ∃ (Wn W0 W1 : Option Addr) (Wcn Wc0 Wc1 gW : Nat), v = .pointer (some ⟨gW, 0, none⟩) ∧ rbs.length ≤ Wc0 ∧ Aside0 (Own w wc [Rs.box gW 61 #[.bool rok, .bool rlok, .slice Wn rns.length Wcn, .int .i64 rlen, .int .i64 rgen, .int .i64 rsafe, .slice W0 rbs.length Wc0, .slice W1 rws.length Wc1], Rs.row rN 33 (.slice Wn rns.length Wcn) rns, Rs.row rBS 22 (.slice W0 rbs.length Wc0) rbs, Rs.row rW 147 (.slice W1 rws.length Wc1) rws, Rs.box (w.heap.size + 1) 109 #[.int .i64 x.tick, .int .i64 x.kind, .int .i64 x.who, .int .i64 x.n, .string x.text], Rs.box w.heap.size 103 #[.bool ok, .bool lok, .slice An notes.length Acn, .int .i64 len, .int .i64 gen, .int .i64 safe, .slice A0 bs.length Ac0, .slice A1 ws.length Ac1]]))
  case first =>
    have p0 := (blk_cell O.out.b1 0).trans rfl; have p1 := (blk_cell O.out.b1 1).trans rfl; have p2 := (blk_cell O.out.b1 2).trans rfl; have p3 := (blk_cell O.out.b1 3).trans rfl; have p4 := (blk_cell O.out.b1 4).trans rfl; have p5 := (blk_cell O.out.b1 5).trans rfl; have p6 := (blk_cell O.out.b1 6).trans rfl; have p7 := (blk_cell O.out.b1 7).trans rfl
    have n0 := (blk_cell O.out.b0 0).trans rfl; have n1 := (blk_cell O.out.b0 1).trans rfl; have n2 := (blk_cell O.out.b0 2).trans rfl; have n3 := (blk_cell O.out.b0 3).trans rfl; have n4 := (blk_cell O.out.b0 4).trans rfl
    refine sta (fun w' => (w'.cell? ⟨w.heap.size, 0, none⟩ = some (.bool ok) ∧ w'.cell? ⟨w.heap.size, 1, none⟩ = some (.bool lok) ∧ w'.cell? ⟨w.heap.size, 2, none⟩ = some (.slice An notes.length Acn) ∧ w'.cell? ⟨w.heap.size, 3, none⟩ = some (.int .i64 len) ∧ w'.cell? ⟨w.heap.size, 4, none⟩ = some (.int .i64 gen) ∧ w'.cell? ⟨w.heap.size, 5, none⟩ = some (.int .i64 safe) ∧ w'.cell? ⟨w.heap.size, 6, none⟩ = some (.slice A0 bs.length Ac0) ∧ w'.cell? ⟨w.heap.size, 7, none⟩ = some (.slice A1 ws.length Ac1)) ∧ (w'.cell? ⟨w.heap.size + 1, 0, none⟩ = some (.int .i64 x.tick) ∧ w'.cell? ⟨w.heap.size + 1, 1, none⟩ = some (.int .i64 x.kind) ∧ w'.cell? ⟨w.heap.size + 1, 2, none⟩ = some (.int .i64 x.who) ∧ w'.cell? ⟨w.heap.size + 1, 3, none⟩ = some (.int .i64 x.n) ∧ w'.cell? ⟨w.heap.size + 1, 4, none⟩ = some (.string x.text))) [6] 7 ⟨⟨p0, p1, p2, p3, p4, p5, p6, p7⟩, ⟨n0, n1, n2, n3, n4⟩⟩ (fun hS => ?_)
    clear p0 p1 p2 p3 p4 p5 p6 p7 n0 n1 n2 n3 n4
    replace O := Aside0.mk O.out.drew
    generalize w5_.drew = wd6_ at O hS ⊢
    refine tk 0 1 hS ?_
    refine tk 2 5 hS ?_
    refine tw 1 5 7 37 (fun K hK => ?_) (fun K hK => ?_)
    · skip
      refine ca (toOpened_c _ _ _ _ _ _ ok lok notes len gen safe bs ws _ (Kd.C_below HAn.out O.out.bel) (Kd.C_below HA0.out O.out.bel) (Kd.C_below HA1.out O.out.bel) HMN.out HM.out.1 HM.out.2.1 HM.out.2.2.1 HM.out.2.2.2) Try.func79 ?_
      rintro e w7_ ⟨vn, v0, v1, rfl, k⟩
      simp only at k
      replace O := Aside0.mk (O.out.app3 k); clear k
      obtain ⟨Tn, Tcn, rfl, Thn⟩ := O.out.f0
      have THn := Aside0.mk Thn; clear Thn
      obtain ⟨T0, Tc0, rfl, Th0⟩ := O.out.f1
      have TH0 := Aside0.mk Th0; clear Th0
      obtain ⟨T1, Tc1, rfl, Th1⟩ := O.out.f2
      have TH1 := Aside0.mk Th1; clear Th1
      refine ⟨_, rfl, nx hK ⟨⟨(blk_cell O.out.b4 0).trans rfl, (blk_cell O.out.b4 1).trans rfl, (blk_cell O.out.b4 2).trans rfl, (blk_cell O.out.b4 3).trans rfl, (blk_cell O.out.b4 4).trans rfl, (blk_cell O.out.b4 5).trans rfl, (blk_cell O.out.b4 6).trans rfl, (blk_cell O.out.b4 7).trans rfl⟩, ⟨(blk_cell O.out.b3 0).trans rfl, (blk_cell O.out.b3 1).trans rfl, (blk_cell O.out.b3 2).trans rfl, (blk_cell O.out.b3 3).trans rfl, (blk_cell O.out.b3 4).trans rfl⟩⟩ (fun hS => ?_)⟩
      clear hK K
      refine tw 3 5 15 39 (fun K hK => ?_) (fun K hK => ?_)
      · skip
        refine ca (toNote_c x _) Try.func87 ?_
        rintro e w8_ ⟨rfl, hb⟩
        replace O := Aside0.mk (O.out.below hb); clear hb
        refine ⟨_, rfl, nx hK ⟨⟨(blk_cell O.out.b4 0).trans rfl, (blk_cell O.out.b4 1).trans rfl, (blk_cell O.out.b4 2).trans rfl, (blk_cell O.out.b4 3).trans rfl, (blk_cell O.out.b4 4).trans rfl, (blk_cell O.out.b4 5).trans rfl, (blk_cell O.out.b4 6).trans rfl, (blk_cell O.out.b4 7).trans rfl⟩, ⟨(blk_cell O.out.b3 0).trans rfl, (blk_cell O.out.b3 1).trans rfl, (blk_cell O.out.b3 2).trans rfl, (blk_cell O.out.b3 3).trans rfl, (blk_cell O.out.b3 4).trans rfl⟩⟩ (fun hS => ?_)⟩
        clear hK K
        refine tw 4 5 31 47 (fun K hK => ?_) (fun K hK => ?_)
        · skip
          refine ca (HS.out _ _ _ _ _ _ _  O.out.c0 O.out.c1 O.out.c2 TH0.out) Try.func86 ?_
          rintro e w9_ ⟨vn, v0, v1, rfl, k⟩
          simp only at k
          replace O := Aside0.mk (O.out.app3 k); clear k
          obtain ⟨Wn, Wcn, rfl, Whn⟩ := O.out.f0
          have WHn := Aside0.mk Whn; clear Whn
          obtain ⟨W0, Wc0, rfl, Wh0⟩ := O.out.f1
          have WH0 := Aside0.mk Wh0; clear Wh0
          obtain ⟨W1, Wc1, rfl, Wh1⟩ := O.out.f2
          have WH1 := Aside0.mk Wh1; clear Wh1
          refine ⟨_, rfl, nx hK ⟨⟨(blk_cell O.out.b7 0).trans rfl, (blk_cell O.out.b7 1).trans rfl, (blk_cell O.out.b7 2).trans rfl, (blk_cell O.out.b7 3).trans rfl, (blk_cell O.out.b7 4).trans rfl, (blk_cell O.out.b7 5).trans rfl, (blk_cell O.out.b7 6).trans rfl, (blk_cell O.out.b7 7).trans rfl⟩, ⟨(blk_cell O.out.b6 0).trans rfl, (blk_cell O.out.b6 1).trans rfl, (blk_cell O.out.b6 2).trans rfl, (blk_cell O.out.b6 3).trans rfl, (blk_cell O.out.b6 4).trans rfl⟩⟩ (fun hS => ?_)⟩
          clear hK K
          refine on 5 63 (fun K hK => ?_)
          refine va ?_
          generalize hw : w9_.alloc _ = w10_
          replace O := Aside0.mk (O.out.of hw); clear hw
          generalize w9_.heap.size = gW at O ⊢
          refine nx hK ⟨⟨(blk_cell O.out.b8 0).trans rfl, (blk_cell O.out.b8 1).trans rfl, (blk_cell O.out.b8 2).trans rfl, (blk_cell O.out.b8 3).trans rfl, (blk_cell O.out.b8 4).trans rfl, (blk_cell O.out.b8 5).trans rfl, (blk_cell O.out.b8 6).trans rfl, (blk_cell O.out.b8 7).trans rfl⟩, ⟨(blk_cell O.out.b7 0).trans rfl, (blk_cell O.out.b7 1).trans rfl, (blk_cell O.out.b7 2).trans rfl, (blk_cell O.out.b7 3).trans rfl, (blk_cell O.out.b7 4).trans rfl⟩⟩ (fun hS => ?_)
          clear hK K
          have u0 := (blk_cell O.out.b0 0).trans rfl; have u1 := (blk_cell O.out.b0 1).trans rfl; have u2 := (blk_cell O.out.b0 2).trans rfl; have u3 := (blk_cell O.out.b0 3).trans rfl; have u4 := (blk_cell O.out.b0 4).trans rfl; have u5 := (blk_cell O.out.b0 5).trans rfl; have u6 := (blk_cell O.out.b0 6).trans rfl; have u7 := (blk_cell O.out.b0 7).trans rfl
          have z0 := blk_frozen O.out.b0 0; have z1 := blk_frozen O.out.b0 1; have z2 := blk_frozen O.out.b0 2; have z3 := blk_frozen O.out.b0 3; have z4 := blk_frozen O.out.b0 4; have z5 := blk_frozen O.out.b0 5; have z6 := blk_frozen O.out.b0 6; have z7 := blk_frozen O.out.b0 7
          refine la 6 127 (fun K hK => ?_)
          refine st ?_
          generalize hw : World.setCell _ _ _ = w11_
          replace O := Aside0.mk (O.out.st8 hw); clear hw
          refine nl hK (dn ?_)
          clear hK K hS u0 u1 u2 u3 u4 u5 u6 u7 z0 z1 z2 z3 z4 z5 z6 z7
          replace O := Aside0.mk O.out.p4.drop
          replace O := Aside0.mk O.out.p4.drop
          replace O := Aside0.mk O.out.p4.drop
          replace O := Aside0.mk O.out.p5
          replace O := Aside0.mk O.out.p5
          replace O := Aside0.mk O.out.p5
          replace O := Aside0.mk O.out.p5
          replace O := Aside0.mk O.out.p5
          replace O := Aside0.mk O.out.p5
          go_wp2
          go_meet
          case rel => exact ⟨_, _, _, _, _, _, _, rfl, WH0.out, O⟩
        · skip
          refine va ?_
          generalize hw : w8_.alloc _ = w12_
          replace O := Aside0.mk (O.out.of hw); clear hw
          generalize w8_.heap.size = gW at O ⊢
          refine nx hK ⟨⟨(blk_cell O.out.b5 0).trans rfl, (blk_cell O.out.b5 1).trans rfl, (blk_cell O.out.b5 2).trans rfl, (blk_cell O.out.b5 3).trans rfl, (blk_cell O.out.b5 4).trans rfl, (blk_cell O.out.b5 5).trans rfl, (blk_cell O.out.b5 6).trans rfl, (blk_cell O.out.b5 7).trans rfl⟩, ⟨(blk_cell O.out.b4 0).trans rfl, (blk_cell O.out.b4 1).trans rfl, (blk_cell O.out.b4 2).trans rfl, (blk_cell O.out.b4 3).trans rfl, (blk_cell O.out.b4 4).trans rfl⟩⟩ (fun hS => ?_)
          clear hK K
          refine on 4 63 (fun K hK => ?_)
          refine ca (HS.out _ _ _ _ _ _ _  O.out.c1 O.out.c2 O.out.c3 TH0.out) Try.func86 ?_
          rintro e w13_ ⟨vn, v0, v1, rfl, k⟩
          simp only at k
          replace O := Aside0.mk (O.out.app3 k); clear k
          obtain ⟨Wn, Wcn, rfl, Whn⟩ := O.out.f0
          have WHn := Aside0.mk Whn; clear Whn
          obtain ⟨W0, Wc0, rfl, Wh0⟩ := O.out.f1
          have WH0 := Aside0.mk Wh0; clear Wh0
          obtain ⟨W1, Wc1, rfl, Wh1⟩ := O.out.f2
          have WH1 := Aside0.mk Wh1; clear Wh1
          refine ⟨_, rfl, nx hK ⟨⟨(blk_cell O.out.b8 0).trans rfl, (blk_cell O.out.b8 1).trans rfl, (blk_cell O.out.b8 2).trans rfl, (blk_cell O.out.b8 3).trans rfl, (blk_cell O.out.b8 4).trans rfl, (blk_cell O.out.b8 5).trans rfl, (blk_cell O.out.b8 6).trans rfl, (blk_cell O.out.b8 7).trans rfl⟩, ⟨(blk_cell O.out.b7 0).trans rfl, (blk_cell O.out.b7 1).trans rfl, (blk_cell O.out.b7 2).trans rfl, (blk_cell O.out.b7 3).trans rfl, (blk_cell O.out.b7 4).trans rfl⟩⟩ (fun hS => ?_)⟩
          clear hK K
          have u0 := (blk_cell O.out.b3 0).trans rfl; have u1 := (blk_cell O.out.b3 1).trans rfl; have u2 := (blk_cell O.out.b3 2).trans rfl; have u3 := (blk_cell O.out.b3 3).trans rfl; have u4 := (blk_cell O.out.b3 4).trans rfl; have u5 := (blk_cell O.out.b3 5).trans rfl; have u6 := (blk_cell O.out.b3 6).trans rfl; have u7 := (blk_cell O.out.b3 7).trans rfl
          have z0 := blk_frozen O.out.b3 0; have z1 := blk_frozen O.out.b3 1; have z2 := blk_frozen O.out.b3 2; have z3 := blk_frozen O.out.b3 3; have z4 := blk_frozen O.out.b3 4; have z5 := blk_frozen O.out.b3 5; have z6 := blk_frozen O.out.b3 6; have z7 := blk_frozen O.out.b3 7
          refine la 6 127 (fun K hK => ?_)
          refine st ?_
          generalize hw : World.setCell _ _ _ = w14_
          replace O := Aside0.mk (O.out.p3.st8 hw); clear hw
          refine nl hK (dn ?_)
          clear hK K hS u0 u1 u2 u3 u4 u5 u6 u7 z0 z1 z2 z3 z4 z5 z6 z7
          replace O := Aside0.mk O.out.p4.drop
          replace O := Aside0.mk O.out.p4.drop
          replace O := Aside0.mk O.out.p4.drop
          replace O := Aside0.mk O.out.p5
          replace O := Aside0.mk O.out.p5
          replace O := Aside0.mk O.out.p5
          replace O := Aside0.mk O.out.p5
          replace O := Aside0.mk O.out.p5
          replace O := Aside0.mk O.out.p5
          go_wp2
          go_meet
          case rel => exact ⟨_, _, _, _, _, _, _, rfl, WH0.out, O⟩
      · skip
        refine va ?_
        generalize hw : w7_.alloc _ = w15_
        replace O := Aside0.mk (O.out.of hw); clear hw
        generalize w7_.heap.size = gW at O ⊢
        refine nx hK ⟨⟨(blk_cell O.out.b5 0).trans rfl, (blk_cell O.out.b5 1).trans rfl, (blk_cell O.out.b5 2).trans rfl, (blk_cell O.out.b5 3).trans rfl, (blk_cell O.out.b5 4).trans rfl, (blk_cell O.out.b5 5).trans rfl, (blk_cell O.out.b5 6).trans rfl, (blk_cell O.out.b5 7).trans rfl⟩, ⟨(blk_cell O.out.b4 0).trans rfl, (blk_cell O.out.b4 1).trans rfl, (blk_cell O.out.b4 2).trans rfl, (blk_cell O.out.b4 3).trans rfl, (blk_cell O.out.b4 4).trans rfl⟩⟩ (fun hS => ?_)
        clear hK K
        refine on 3 47 (fun K hK => ?_)
        refine ca (toNote_c x _) Try.func87 ?_
        rintro e w16_ ⟨rfl, hb⟩
        replace O := Aside0.mk (O.out.below hb); clear hb
        refine ⟨_, rfl, nx hK ⟨⟨(blk_cell O.out.b5 0).trans rfl, (blk_cell O.out.b5 1).trans rfl, (blk_cell O.out.b5 2).trans rfl, (blk_cell O.out.b5 3).trans rfl, (blk_cell O.out.b5 4).trans rfl, (blk_cell O.out.b5 5).trans rfl, (blk_cell O.out.b5 6).trans rfl, (blk_cell O.out.b5 7).trans rfl⟩, ⟨(blk_cell O.out.b4 0).trans rfl, (blk_cell O.out.b4 1).trans rfl, (blk_cell O.out.b4 2).trans rfl, (blk_cell O.out.b4 3).trans rfl, (blk_cell O.out.b4 4).trans rfl⟩⟩ (fun hS => ?_)⟩
        clear hK K
        refine on 4 63 (fun K hK => ?_)
        refine ca (HS.out _ _ _ _ _ _ _  O.out.c1 O.out.c2 O.out.c3 TH0.out) Try.func86 ?_
        rintro e w17_ ⟨vn, v0, v1, rfl, k⟩
        simp only at k
        replace O := Aside0.mk (O.out.app3 k); clear k
        obtain ⟨Wn, Wcn, rfl, Whn⟩ := O.out.f0
        have WHn := Aside0.mk Whn; clear Whn
        obtain ⟨W0, Wc0, rfl, Wh0⟩ := O.out.f1
        have WH0 := Aside0.mk Wh0; clear Wh0
        obtain ⟨W1, Wc1, rfl, Wh1⟩ := O.out.f2
        have WH1 := Aside0.mk Wh1; clear Wh1
        refine ⟨_, rfl, nx hK ⟨⟨(blk_cell O.out.b8 0).trans rfl, (blk_cell O.out.b8 1).trans rfl, (blk_cell O.out.b8 2).trans rfl, (blk_cell O.out.b8 3).trans rfl, (blk_cell O.out.b8 4).trans rfl, (blk_cell O.out.b8 5).trans rfl, (blk_cell O.out.b8 6).trans rfl, (blk_cell O.out.b8 7).trans rfl⟩, ⟨(blk_cell O.out.b7 0).trans rfl, (blk_cell O.out.b7 1).trans rfl, (blk_cell O.out.b7 2).trans rfl, (blk_cell O.out.b7 3).trans rfl, (blk_cell O.out.b7 4).trans rfl⟩⟩ (fun hS => ?_)⟩
        clear hK K
        have u0 := (blk_cell O.out.b3 0).trans rfl; have u1 := (blk_cell O.out.b3 1).trans rfl; have u2 := (blk_cell O.out.b3 2).trans rfl; have u3 := (blk_cell O.out.b3 3).trans rfl; have u4 := (blk_cell O.out.b3 4).trans rfl; have u5 := (blk_cell O.out.b3 5).trans rfl; have u6 := (blk_cell O.out.b3 6).trans rfl; have u7 := (blk_cell O.out.b3 7).trans rfl
        have z0 := blk_frozen O.out.b3 0; have z1 := blk_frozen O.out.b3 1; have z2 := blk_frozen O.out.b3 2; have z3 := blk_frozen O.out.b3 3; have z4 := blk_frozen O.out.b3 4; have z5 := blk_frozen O.out.b3 5; have z6 := blk_frozen O.out.b3 6; have z7 := blk_frozen O.out.b3 7
        refine la 6 127 (fun K hK => ?_)
        refine st ?_
        generalize hw : World.setCell _ _ _ = w18_
        replace O := Aside0.mk (O.out.p3.st8 hw); clear hw
        refine nl hK (dn ?_)
        clear hK K hS u0 u1 u2 u3 u4 u5 u6 u7 z0 z1 z2 z3 z4 z5 z6 z7
        replace O := Aside0.mk O.out.p4.drop
        replace O := Aside0.mk O.out.p4.drop
        replace O := Aside0.mk O.out.p4.drop
        replace O := Aside0.mk O.out.p5
        replace O := Aside0.mk O.out.p5
        replace O := Aside0.mk O.out.p5
        replace O := Aside0.mk O.out.p5
        replace O := Aside0.mk O.out.p5
        replace O := Aside0.mk O.out.p5
        go_wp2
        go_meet
        case rel => exact ⟨_, _, _, _, _, _, _, rfl, WH0.out, O⟩
    · skip
      refine va ?_
      generalize hw : wd6_.alloc _ = w19_
      replace O := Aside0.mk (O.out.of hw); clear hw
      generalize wd6_.heap.size = gW at O ⊢
      refine nx hK ⟨⟨(blk_cell O.out.b2 0).trans rfl, (blk_cell O.out.b2 1).trans rfl, (blk_cell O.out.b2 2).trans rfl, (blk_cell O.out.b2 3).trans rfl, (blk_cell O.out.b2 4).trans rfl, (blk_cell O.out.b2 5).trans rfl, (blk_cell O.out.b2 6).trans rfl, (blk_cell O.out.b2 7).trans rfl⟩, ⟨(blk_cell O.out.b1 0).trans rfl, (blk_cell O.out.b1 1).trans rfl, (blk_cell O.out.b1 2).trans rfl, (blk_cell O.out.b1 3).trans rfl, (blk_cell O.out.b1 4).trans rfl⟩⟩ (fun hS => ?_)
      clear hK K
      refine on 1 39 (fun K hK => ?_)
      refine ca (toOpened_c _ _ _ _ _ _ ok lok notes len gen safe bs ws _ (Kd.C_below HAn.out O.out.bel) (Kd.C_below HA0.out O.out.bel) (Kd.C_below HA1.out O.out.bel) HMN.out HM.out.1 HM.out.2.1 HM.out.2.2.1 HM.out.2.2.2) Try.func79 ?_
      rintro e w20_ ⟨vn, v0, v1, rfl, k⟩
      simp only at k
      replace O := Aside0.mk (O.out.app3 k); clear k
      obtain ⟨Tn, Tcn, rfl, Thn⟩ := O.out.f0
      have THn := Aside0.mk Thn; clear Thn
      obtain ⟨T0, Tc0, rfl, Th0⟩ := O.out.f1
      have TH0 := Aside0.mk Th0; clear Th0
      obtain ⟨T1, Tc1, rfl, Th1⟩ := O.out.f2
      have TH1 := Aside0.mk Th1; clear Th1
      refine ⟨_, rfl, nx hK ⟨⟨(blk_cell O.out.b5 0).trans rfl, (blk_cell O.out.b5 1).trans rfl, (blk_cell O.out.b5 2).trans rfl, (blk_cell O.out.b5 3).trans rfl, (blk_cell O.out.b5 4).trans rfl, (blk_cell O.out.b5 5).trans rfl, (blk_cell O.out.b5 6).trans rfl, (blk_cell O.out.b5 7).trans rfl⟩, ⟨(blk_cell O.out.b4 0).trans rfl, (blk_cell O.out.b4 1).trans rfl, (blk_cell O.out.b4 2).trans rfl, (blk_cell O.out.b4 3).trans rfl, (blk_cell O.out.b4 4).trans rfl⟩⟩ (fun hS => ?_)⟩
      clear hK K
      refine on 3 47 (fun K hK => ?_)
      refine ca (toNote_c x _) Try.func87 ?_
      rintro e w21_ ⟨rfl, hb⟩
      replace O := Aside0.mk (O.out.below hb); clear hb
      refine ⟨_, rfl, nx hK ⟨⟨(blk_cell O.out.b5 0).trans rfl, (blk_cell O.out.b5 1).trans rfl, (blk_cell O.out.b5 2).trans rfl, (blk_cell O.out.b5 3).trans rfl, (blk_cell O.out.b5 4).trans rfl, (blk_cell O.out.b5 5).trans rfl, (blk_cell O.out.b5 6).trans rfl, (blk_cell O.out.b5 7).trans rfl⟩, ⟨(blk_cell O.out.b4 0).trans rfl, (blk_cell O.out.b4 1).trans rfl, (blk_cell O.out.b4 2).trans rfl, (blk_cell O.out.b4 3).trans rfl, (blk_cell O.out.b4 4).trans rfl⟩⟩ (fun hS => ?_)⟩
      clear hK K
      refine on 4 63 (fun K hK => ?_)
      refine ca (HS.out _ _ _ _ _ _ _  O.out.c0 O.out.c1 O.out.c2 TH0.out) Try.func86 ?_
      rintro e w22_ ⟨vn, v0, v1, rfl, k⟩
      simp only at k
      replace O := Aside0.mk (O.out.app3 k); clear k
      obtain ⟨Wn, Wcn, rfl, Whn⟩ := O.out.f0
      have WHn := Aside0.mk Whn; clear Whn
      obtain ⟨W0, Wc0, rfl, Wh0⟩ := O.out.f1
      have WH0 := Aside0.mk Wh0; clear Wh0
      obtain ⟨W1, Wc1, rfl, Wh1⟩ := O.out.f2
      have WH1 := Aside0.mk Wh1; clear Wh1
      refine ⟨_, rfl, nx hK ⟨⟨(blk_cell O.out.b8 0).trans rfl, (blk_cell O.out.b8 1).trans rfl, (blk_cell O.out.b8 2).trans rfl, (blk_cell O.out.b8 3).trans rfl, (blk_cell O.out.b8 4).trans rfl, (blk_cell O.out.b8 5).trans rfl, (blk_cell O.out.b8 6).trans rfl, (blk_cell O.out.b8 7).trans rfl⟩, ⟨(blk_cell O.out.b7 0).trans rfl, (blk_cell O.out.b7 1).trans rfl, (blk_cell O.out.b7 2).trans rfl, (blk_cell O.out.b7 3).trans rfl, (blk_cell O.out.b7 4).trans rfl⟩⟩ (fun hS => ?_)⟩
      clear hK K
      have u0 := (blk_cell O.out.b6 0).trans rfl; have u1 := (blk_cell O.out.b6 1).trans rfl; have u2 := (blk_cell O.out.b6 2).trans rfl; have u3 := (blk_cell O.out.b6 3).trans rfl; have u4 := (blk_cell O.out.b6 4).trans rfl; have u5 := (blk_cell O.out.b6 5).trans rfl; have u6 := (blk_cell O.out.b6 6).trans rfl; have u7 := (blk_cell O.out.b6 7).trans rfl
      have z0 := blk_frozen O.out.b6 0; have z1 := blk_frozen O.out.b6 1; have z2 := blk_frozen O.out.b6 2; have z3 := blk_frozen O.out.b6 3; have z4 := blk_frozen O.out.b6 4; have z5 := blk_frozen O.out.b6 5; have z6 := blk_frozen O.out.b6 6; have z7 := blk_frozen O.out.b6 7
      refine la 6 127 (fun K hK => ?_)
      refine st ?_
      generalize hw : World.setCell _ _ _ = w23_
      replace O := Aside0.mk (O.out.p6.st8 hw); clear hw
      refine nl hK (dn ?_)
      clear hK K hS u0 u1 u2 u3 u4 u5 u6 u7 z0 z1 z2 z3 z4 z5 z6 z7
      replace O := Aside0.mk O.out.p4.drop
      replace O := Aside0.mk O.out.p4.drop
      replace O := Aside0.mk O.out.p4.drop
      replace O := Aside0.mk O.out.p5
      replace O := Aside0.mk O.out.p5
      replace O := Aside0.mk O.out.p5
      replace O := Aside0.mk O.out.p5
      replace O := Aside0.mk O.out.p5
      replace O := Aside0.mk O.out.p5
      go_wp2
      go_meet
      case rel => exact ⟨_, _, _, _, _, _, _, rfl, WH0.out, O⟩
  case rest =>
    clear O
    obtain ⟨Wn, W0, W1, Wcn, Wc0, Wc1, gW, rfl, Wh0, O⟩ := hcut
    have WH0 := Aside0.mk Wh0; clear Wh0
    have p0 := (blk_cell O.out.b5 0).trans rfl; have p1 := (blk_cell O.out.b5 1).trans rfl; have p2 := (blk_cell O.out.b5 2).trans rfl; have p3 := (blk_cell O.out.b5 3).trans rfl; have p4 := (blk_cell O.out.b5 4).trans rfl; have p5 := (blk_cell O.out.b5 5).trans rfl; have p6 := (blk_cell O.out.b5 6).trans rfl; have p7 := (blk_cell O.out.b5 7).trans rfl
    go_wp2_with fail
    refine (toOpened_c _ _ _ _ _ _ ok lok notes len gen safe bs ws _ (Kd.C_below HAn.out O.out.bel) (Kd.C_below HA0.out O.out.bel) (Kd.C_below HA1.out O.out.bel) HMN.out HM.out.1 HM.out.2.1 HM.out.2.2.1 HM.out.2.2.2).mono ?_
    rintro e w24_ ⟨vn, v0, v1, rfl, k⟩
    simp only at k
    replace O := Aside0.mk (O.out.app3 k); clear k
    obtain ⟨Xn, Xcn, rfl, Xhn⟩ := O.out.f0
    have XHn := Aside0.mk Xhn; clear Xhn
    obtain ⟨X0, Xc0, rfl, Xh0⟩ := O.out.f1
    have XH0 := Aside0.mk Xh0; clear Xh0
    obtain ⟨X1, Xc1, rfl, Xh1⟩ := O.out.f2
    have XH1 := Aside0.mk Xh1; clear Xh1
    clear p0 p1 p2 p3 p4 p5 p6 p7
    go_upto_region 10 with fail
    generalize hw : w24_.alloc _ = w25_
    replace O := Aside0.mk (O.out.of hw); clear hw
    generalize w24_.heap.size = gX at O ⊢
    go_upto_region 10 with fail
    go_cut [8] from 13 (fun v wc => ∃ (Gn G0 G1 : Option Addr) (Gcn Gc0 Gc1 gG : Nat), v = .pointer (some ⟨gG, 0, none⟩) ∧ rbs.length ≤ Gc0 ∧ Aside0 (Own w wc [Rs.box gG 61 #[.bool rok, .bool rlok, .slice Gn rns.length Gcn, .int .i64 rlen, .int .i64 rgen, .int .i64 rsafe, .slice G0 rbs.length Gc0, .slice G1 rws.length Gc1], Rs.row rN 33 (.slice Gn rns.length Gcn) rns, Rs.row rBS 22 (.slice G0 rbs.length Gc0) rbs, Rs.row rW 147 (.slice G1 rws.length Gc1) rws, Rs.box gX 61 #[.bool ok, .bool lok, .slice Xn notes.length Xcn, .int .i64 len, .int .i64 gen, .int .i64 safe, .slice X0 bs.length Xc0, .slice X1 ws.length Xc1], Rs.row rN 33 (.slice Xn notes.length Xcn) notes, Rs.row rBS 22 (.slice X0 bs.length Xc0) bs, Rs.row rW 147 (.slice X1 ws.length Xc1) ws, Rs.box gW 61 #[.bool rok, .bool rlok, .slice Wn rns.length Wcn, .int .i64 rlen, .int .i64 rgen, .int .i64 rsafe, .slice W0 rbs.length Wc0, .slice W1 rws.length Wc1], Rs.row rN 33 (.slice Wn rns.length Wcn) rns, Rs.row rBS 22 (.slice W0 rbs.length Wc0) rbs, Rs.row rW 147 (.slice W1 rws.length Wc1) rws, Rs.box (w.heap.size + 1) 109 #[.int .i64 x.tick, .int .i64 x.kind, .int .i64 x.who, .int .i64 x.n, .string x.text], Rs.box w.heap.size 103 #[.bool ok, .bool lok, .slice An notes.length Acn, .int .i64 len, .int .i64 gen, .int .i64 safe, .slice A0 bs.length Ac0, .slice A1 ws.length Ac1]]))
    case first =>
      have x0 := (blk_cell O.out.b0 0).trans rfl; have x1 := (blk_cell O.out.b0 1).trans rfl; have x2 := (blk_cell O.out.b0 2).trans rfl; have x3 := (blk_cell O.out.b0 3).trans rfl; have x4 := (blk_cell O.out.b0 4).trans rfl; have x5 := (blk_cell O.out.b0 5).trans rfl; have x6 := (blk_cell O.out.b0 6).trans rfl; have x7 := (blk_cell O.out.b0 7).trans rfl
      have n0 := (blk_cell O.out.b8 0).trans rfl; have n1 := (blk_cell O.out.b8 1).trans rfl; have n2 := (blk_cell O.out.b8 2).trans rfl; have n3 := (blk_cell O.out.b8 3).trans rfl; have n4 := (blk_cell O.out.b8 4).trans rfl
      refine sta (fun w' => (w'.cell? ⟨gX, 0, none⟩ = some (.bool ok) ∧ w'.cell? ⟨gX, 1, none⟩ = some (.bool lok) ∧ w'.cell? ⟨gX, 2, none⟩ = some (.slice Xn notes.length Xcn) ∧ w'.cell? ⟨gX, 3, none⟩ = some (.int .i64 len) ∧ w'.cell? ⟨gX, 4, none⟩ = some (.int .i64 gen) ∧ w'.cell? ⟨gX, 5, none⟩ = some (.int .i64 safe) ∧ w'.cell? ⟨gX, 6, none⟩ = some (.slice X0 bs.length Xc0) ∧ w'.cell? ⟨gX, 7, none⟩ = some (.slice X1 ws.length Xc1)) ∧ (w'.cell? ⟨w.heap.size + 1, 0, none⟩ = some (.int .i64 x.tick) ∧ w'.cell? ⟨w.heap.size + 1, 1, none⟩ = some (.int .i64 x.kind) ∧ w'.cell? ⟨w.heap.size + 1, 2, none⟩ = some (.int .i64 x.who) ∧ w'.cell? ⟨w.heap.size + 1, 3, none⟩ = some (.int .i64 x.n) ∧ w'.cell? ⟨w.heap.size + 1, 4, none⟩ = some (.string x.text))) [5] 6 ⟨⟨x0, x1, x2, x3, x4, x5, x6, x7⟩, ⟨n0, n1, n2, n3, n4⟩⟩ (fun hS => ?_)
      clear x0 x1 x2 x3 x4 x5 x6 x7 n0 n1 n2 n3 n4
      replace O := Aside0.mk O.out.drew
      generalize w25_.drew = wd26_ at O hS ⊢
      refine tk 0 1 hS ?_
      refine tk 1 3 hS ?_
      refine tw 2 4 7 19 (fun K hK => ?_) (fun K hK => ?_)
      · skip
        refine ca (toNote_c x _) Try.func87 ?_
        rintro e w27_ ⟨rfl, hb⟩
        replace O := Aside0.mk (O.out.below hb); clear hb
        refine ⟨_, rfl, nx hK ⟨⟨(blk_cell O.out.b0 0).trans rfl, (blk_cell O.out.b0 1).trans rfl, (blk_cell O.out.b0 2).trans rfl, (blk_cell O.out.b0 3).trans rfl, (blk_cell O.out.b0 4).trans rfl, (blk_cell O.out.b0 5).trans rfl, (blk_cell O.out.b0 6).trans rfl, (blk_cell O.out.b0 7).trans rfl⟩, ⟨(blk_cell O.out.b8 0).trans rfl, (blk_cell O.out.b8 1).trans rfl, (blk_cell O.out.b8 2).trans rfl, (blk_cell O.out.b8 3).trans rfl, (blk_cell O.out.b8 4).trans rfl⟩⟩ (fun hS => ?_)⟩
        clear hK K
        refine tw 3 4 15 23 (fun K hK => ?_) (fun K hK => ?_)
        · skip
          refine ca (HI.out _ _ _ _ _ _ _  O.out.c1 O.out.c2 O.out.c3 XH0.out) Try.func39 ?_
          rintro e w28_ ⟨vn, v0, v1, rfl, k⟩
          simp only at k
          replace O := Aside0.mk (O.out.app3 k); clear k
          obtain ⟨Gn, Gcn, rfl, Ghn⟩ := O.out.f0
          have GHn := Aside0.mk Ghn; clear Ghn
          obtain ⟨G0, Gc0, rfl, Gh0⟩ := O.out.f1
          have GH0 := Aside0.mk Gh0; clear Gh0
          obtain ⟨G1, Gc1, rfl, Gh1⟩ := O.out.f2
          have GH1 := Aside0.mk Gh1; clear Gh1
          refine ⟨_, rfl, nx hK ⟨⟨(blk_cell O.out.b3 0).trans rfl, (blk_cell O.out.b3 1).trans rfl, (blk_cell O.out.b3 2).trans rfl, (blk_cell O.out.b3 3).trans rfl, (blk_cell O.out.b3 4).trans rfl, (blk_cell O.out.b3 5).trans rfl, (blk_cell O.out.b3 6).trans rfl, (blk_cell O.out.b3 7).trans rfl⟩, ⟨(blk_cell O.out.b11 0).trans rfl, (blk_cell O.out.b11 1).trans rfl, (blk_cell O.out.b11 2).trans rfl, (blk_cell O.out.b11 3).trans rfl, (blk_cell O.out.b11 4).trans rfl⟩⟩ (fun hS => ?_)⟩
          clear hK K
          refine on 4 31 (fun K hK => ?_)
          refine va ?_
          generalize hw : w28_.alloc _ = w29_
          replace O := Aside0.mk (O.out.of hw); clear hw
          generalize w28_.heap.size = gG at O ⊢
          refine nx hK ⟨⟨(blk_cell O.out.b4 0).trans rfl, (blk_cell O.out.b4 1).trans rfl, (blk_cell O.out.b4 2).trans rfl, (blk_cell O.out.b4 3).trans rfl, (blk_cell O.out.b4 4).trans rfl, (blk_cell O.out.b4 5).trans rfl, (blk_cell O.out.b4 6).trans rfl, (blk_cell O.out.b4 7).trans rfl⟩, ⟨(blk_cell O.out.b12 0).trans rfl, (blk_cell O.out.b12 1).trans rfl, (blk_cell O.out.b12 2).trans rfl, (blk_cell O.out.b12 3).trans rfl, (blk_cell O.out.b12 4).trans rfl⟩⟩ (fun hS => ?_)
          clear hK K
          have u0 := (blk_cell O.out.b0 0).trans rfl; have u1 := (blk_cell O.out.b0 1).trans rfl; have u2 := (blk_cell O.out.b0 2).trans rfl; have u3 := (blk_cell O.out.b0 3).trans rfl; have u4 := (blk_cell O.out.b0 4).trans rfl; have u5 := (blk_cell O.out.b0 5).trans rfl; have u6 := (blk_cell O.out.b0 6).trans rfl; have u7 := (blk_cell O.out.b0 7).trans rfl
          have z0 := blk_frozen O.out.b0 0; have z1 := blk_frozen O.out.b0 1; have z2 := blk_frozen O.out.b0 2; have z3 := blk_frozen O.out.b0 3; have z4 := blk_frozen O.out.b0 4; have z5 := blk_frozen O.out.b0 5; have z6 := blk_frozen O.out.b0 6; have z7 := blk_frozen O.out.b0 7
          refine la 5 63 (fun K hK => ?_)
          refine st ?_
          generalize hw : World.setCell _ _ _ = w30_
          replace O := Aside0.mk (O.out.st8 hw); clear hw
          refine nl hK (dn ?_)
          clear hK K hS u0 u1 u2 u3 u4 u5 u6 u7 z0 z1 z2 z3 z4 z5 z6 z7
          replace O := Aside0.mk O.out.p13
          replace O := Aside0.mk O.out.p13
          replace O := Aside0.mk O.out.p13
          replace O := Aside0.mk O.out.p13
          replace O := Aside0.mk O.out.p13
          replace O := Aside0.mk O.out.p13
          replace O := Aside0.mk O.out.p13
          replace O := Aside0.mk O.out.p13
          replace O := Aside0.mk O.out.p13
          replace O := Aside0.mk O.out.p13
          replace O := Aside0.mk O.out.p13
          replace O := Aside0.mk O.out.p13
          replace O := Aside0.mk O.out.p13
          replace O := Aside0.mk O.out.p13
          go_wp2
          go_meet
          case rel => exact ⟨_, _, _, _, _, _, _, rfl, GH0.out, O⟩
        · skip
          refine va ?_
          generalize hw : w27_.alloc _ = w31_
          replace O := Aside0.mk (O.out.of hw); clear hw
          generalize w27_.heap.size = gG at O ⊢
          refine nx hK ⟨⟨(blk_cell O.out.b1 0).trans rfl, (blk_cell O.out.b1 1).trans rfl, (blk_cell O.out.b1 2).trans rfl, (blk_cell O.out.b1 3).trans rfl, (blk_cell O.out.b1 4).trans rfl, (blk_cell O.out.b1 5).trans rfl, (blk_cell O.out.b1 6).trans rfl, (blk_cell O.out.b1 7).trans rfl⟩, ⟨(blk_cell O.out.b9 0).trans rfl, (blk_cell O.out.b9 1).trans rfl, (blk_cell O.out.b9 2).trans rfl, (blk_cell O.out.b9 3).trans rfl, (blk_cell O.out.b9 4).trans rfl⟩⟩ (fun hS => ?_)
          clear hK K
          refine on 3 31 (fun K hK => ?_)
          refine ca (HI.out _ _ _ _ _ _ _  O.out.c2 O.out.c3 O.out.c4 XH0.out) Try.func39 ?_
          rintro e w32_ ⟨vn, v0, v1, rfl, k⟩
          simp only at k
          replace O := Aside0.mk (O.out.app3 k); clear k
          obtain ⟨Gn, Gcn, rfl, Ghn⟩ := O.out.f0
          have GHn := Aside0.mk Ghn; clear Ghn
          obtain ⟨G0, Gc0, rfl, Gh0⟩ := O.out.f1
          have GH0 := Aside0.mk Gh0; clear Gh0
          obtain ⟨G1, Gc1, rfl, Gh1⟩ := O.out.f2
          have GH1 := Aside0.mk Gh1; clear Gh1
          refine ⟨_, rfl, nx hK ⟨⟨(blk_cell O.out.b4 0).trans rfl, (blk_cell O.out.b4 1).trans rfl, (blk_cell O.out.b4 2).trans rfl, (blk_cell O.out.b4 3).trans rfl, (blk_cell O.out.b4 4).trans rfl, (blk_cell O.out.b4 5).trans rfl, (blk_cell O.out.b4 6).trans rfl, (blk_cell O.out.b4 7).trans rfl⟩, ⟨(blk_cell O.out.b12 0).trans rfl, (blk_cell O.out.b12 1).trans rfl, (blk_cell O.out.b12 2).trans rfl, (blk_cell O.out.b12 3).trans rfl, (blk_cell O.out.b12 4).trans rfl⟩⟩ (fun hS => ?_)⟩
          clear hK K
          have u0 := (blk_cell O.out.b3 0).trans rfl; have u1 := (blk_cell O.out.b3 1).trans rfl; have u2 := (blk_cell O.out.b3 2).trans rfl; have u3 := (blk_cell O.out.b3 3).trans rfl; have u4 := (blk_cell O.out.b3 4).trans rfl; have u5 := (blk_cell O.out.b3 5).trans rfl; have u6 := (blk_cell O.out.b3 6).trans rfl; have u7 := (blk_cell O.out.b3 7).trans rfl
          have z0 := blk_frozen O.out.b3 0; have z1 := blk_frozen O.out.b3 1; have z2 := blk_frozen O.out.b3 2; have z3 := blk_frozen O.out.b3 3; have z4 := blk_frozen O.out.b3 4; have z5 := blk_frozen O.out.b3 5; have z6 := blk_frozen O.out.b3 6; have z7 := blk_frozen O.out.b3 7
          refine la 5 63 (fun K hK => ?_)
          refine st ?_
          generalize hw : World.setCell _ _ _ = w33_
          replace O := Aside0.mk (O.out.p3.st8 hw); clear hw
          refine nl hK (dn ?_)
          clear hK K hS u0 u1 u2 u3 u4 u5 u6 u7 z0 z1 z2 z3 z4 z5 z6 z7
          replace O := Aside0.mk O.out.p13
          replace O := Aside0.mk O.out.p13
          replace O := Aside0.mk O.out.p13
          replace O := Aside0.mk O.out.p13
          replace O := Aside0.mk O.out.p13
          replace O := Aside0.mk O.out.p13
          replace O := Aside0.mk O.out.p13
          replace O := Aside0.mk O.out.p13
          replace O := Aside0.mk O.out.p13
          replace O := Aside0.mk O.out.p13
          replace O := Aside0.mk O.out.p13
          replace O := Aside0.mk O.out.p13
          replace O := Aside0.mk O.out.p13
          replace O := Aside0.mk O.out.p13
          go_wp2
          go_meet
          case rel => exact ⟨_, _, _, _, _, _, _, rfl, GH0.out, O⟩
      · skip
        refine va ?_
        generalize hw : wd26_.alloc _ = w34_
        replace O := Aside0.mk (O.out.of hw); clear hw
        generalize wd26_.heap.size = gG at O ⊢
        refine nx hK ⟨⟨(blk_cell O.out.b1 0).trans rfl, (blk_cell O.out.b1 1).trans rfl, (blk_cell O.out.b1 2).trans rfl, (blk_cell O.out.b1 3).trans rfl, (blk_cell O.out.b1 4).trans rfl, (blk_cell O.out.b1 5).trans rfl, (blk_cell O.out.b1 6).trans rfl, (blk_cell O.out.b1 7).trans rfl⟩, ⟨(blk_cell O.out.b9 0).trans rfl, (blk_cell O.out.b9 1).trans rfl, (blk_cell O.out.b9 2).trans rfl, (blk_cell O.out.b9 3).trans rfl, (blk_cell O.out.b9 4).trans rfl⟩⟩ (fun hS => ?_)
        clear hK K
        refine on 2 23 (fun K hK => ?_)
        refine ca (toNote_c x _) Try.func87 ?_
        rintro e w35_ ⟨rfl, hb⟩
        replace O := Aside0.mk (O.out.below hb); clear hb
        refine ⟨_, rfl, nx hK ⟨⟨(blk_cell O.out.b1 0).trans rfl, (blk_cell O.out.b1 1).trans rfl, (blk_cell O.out.b1 2).trans rfl, (blk_cell O.out.b1 3).trans rfl, (blk_cell O.out.b1 4).trans rfl, (blk_cell O.out.b1 5).trans rfl, (blk_cell O.out.b1 6).trans rfl, (blk_cell O.out.b1 7).trans rfl⟩, ⟨(blk_cell O.out.b9 0).trans rfl, (blk_cell O.out.b9 1).trans rfl, (blk_cell O.out.b9 2).trans rfl, (blk_cell O.out.b9 3).trans rfl, (blk_cell O.out.b9 4).trans rfl⟩⟩ (fun hS => ?_)⟩
        clear hK K
        refine on 3 31 (fun K hK => ?_)
        refine ca (HI.out _ _ _ _ _ _ _  O.out.c2 O.out.c3 O.out.c4 XH0.out) Try.func39 ?_
        rintro e w36_ ⟨vn, v0, v1, rfl, k⟩
        simp only at k
        replace O := Aside0.mk (O.out.app3 k); clear k
        obtain ⟨Gn, Gcn, rfl, Ghn⟩ := O.out.f0
        have GHn := Aside0.mk Ghn; clear Ghn
        obtain ⟨G0, Gc0, rfl, Gh0⟩ := O.out.f1
        have GH0 := Aside0.mk Gh0; clear Gh0
        obtain ⟨G1, Gc1, rfl, Gh1⟩ := O.out.f2
        have GH1 := Aside0.mk Gh1; clear Gh1
        refine ⟨_, rfl, nx hK ⟨⟨(blk_cell O.out.b4 0).trans rfl, (blk_cell O.out.b4 1).trans rfl, (blk_cell O.out.b4 2).trans rfl, (blk_cell O.out.b4 3).trans rfl, (blk_cell O.out.b4 4).trans rfl, (blk_cell O.out.b4 5).trans rfl, (blk_cell O.out.b4 6).trans rfl, (blk_cell O.out.b4 7).trans rfl⟩, ⟨(blk_cell O.out.b12 0).trans rfl, (blk_cell O.out.b12 1).trans rfl, (blk_cell O.out.b12 2).trans rfl, (blk_cell O.out.b12 3).trans rfl, (blk_cell O.out.b12 4).trans rfl⟩⟩ (fun hS => ?_)⟩
        clear hK K
        have u0 := (blk_cell O.out.b3 0).trans rfl; have u1 := (blk_cell O.out.b3 1).trans rfl; have u2 := (blk_cell O.out.b3 2).trans rfl; have u3 := (blk_cell O.out.b3 3).trans rfl; have u4 := (blk_cell O.out.b3 4).trans rfl; have u5 := (blk_cell O.out.b3 5).trans rfl; have u6 := (blk_cell O.out.b3 6).trans rfl; have u7 := (blk_cell O.out.b3 7).trans rfl
        have z0 := blk_frozen O.out.b3 0; have z1 := blk_frozen O.out.b3 1; have z2 := blk_frozen O.out.b3 2; have z3 := blk_frozen O.out.b3 3; have z4 := blk_frozen O.out.b3 4; have z5 := blk_frozen O.out.b3 5; have z6 := blk_frozen O.out.b3 6; have z7 := blk_frozen O.out.b3 7
        refine la 5 63 (fun K hK => ?_)
        refine st ?_
        generalize hw : World.setCell _ _ _ = w37_
        replace O := Aside0.mk (O.out.p3.st8 hw); clear hw
        refine nl hK (dn ?_)
        clear hK K hS u0 u1 u2 u3 u4 u5 u6 u7 z0 z1 z2 z3 z4 z5 z6 z7
        replace O := Aside0.mk O.out.p13
        replace O := Aside0.mk O.out.p13
        replace O := Aside0.mk O.out.p13
        replace O := Aside0.mk O.out.p13
        replace O := Aside0.mk O.out.p13
        replace O := Aside0.mk O.out.p13
        replace O := Aside0.mk O.out.p13
        replace O := Aside0.mk O.out.p13
        replace O := Aside0.mk O.out.p13
        replace O := Aside0.mk O.out.p13
        replace O := Aside0.mk O.out.p13
        replace O := Aside0.mk O.out.p13
        replace O := Aside0.mk O.out.p13
        replace O := Aside0.mk O.out.p13
        go_wp2
        go_meet
        case rel => exact ⟨_, _, _, _, _, _, _, rfl, GH0.out, O⟩
    case rest =>
      clear O
      obtain ⟨Gn, G0, G1, Gcn, Gc0, Gc1, gG, rfl, Gh0, O⟩ := hcut
      have GH0 := Aside0.mk Gh0; clear Gh0
      have y0 := (blk_cell O.out.b0 0).trans rfl; have y1 := (blk_cell O.out.b0 1).trans rfl; have y2 := (blk_cell O.out.b0 2).trans rfl; have y3 := (blk_cell O.out.b0 3).trans rfl; have y4 := (blk_cell O.out.b0 4).trans rfl; have y5 := (blk_cell O.out.b0 5).trans rfl; have y6 := (blk_cell O.out.b0 6).trans rfl; have y7 := (blk_cell O.out.b0 7).trans rfl
      have z0 := (blk_cell O.out.b8 0).trans rfl; have z1 := (blk_cell O.out.b8 1).trans rfl; have z2 := (blk_cell O.out.b8 2).trans rfl; have z3 := (blk_cell O.out.b8 3).trans rfl; have z4 := (blk_cell O.out.b8 4).trans rfl; have z5 := (blk_cell O.out.b8 5).trans rfl; have z6 := (blk_cell O.out.b8 6).trans rfl; have z7 := (blk_cell O.out.b8 7).trans rfl
      go_wp2_with fail
      refine (eqOpened_t _ _ _ _ _ _ _ _ _ _ _ _ rok rlok rns rlen rgen rsafe rbs rws _ O.out.c1 O.out.c2 O.out.c3 O.out.c9 O.out.c10 O.out.c11).mono ?_
      rintro e w38_ ⟨rfl, hb⟩
      replace O := Aside0.mk (O.out.below hb); clear hb
      clear y0 y1 y2 y3 y4 y5 y6 y7 z0 z1 z2 z3 z4 z5 z6 z7
      go_upto_region 13 with fail
      have x0 := (blk_cell O.out.b4 0).trans rfl; have x1 := (blk_cell O.out.b4 1).trans rfl; have x2 := (blk_cell O.out.b4 2).trans rfl; have x3 := (blk_cell O.out.b4 3).trans rfl; have x4 := (blk_cell O.out.b4 4).trans rfl; have x5 := (blk_cell O.out.b4 5).trans rfl; have x6 := (blk_cell O.out.b4 6).trans rfl; have x7 := (blk_cell O.out.b4 7).trans rfl
      have p0 := (blk_cell O.out.b13 0).trans rfl; have p1 := (blk_cell O.out.b13 1).trans rfl; have p2 := (blk_cell O.out.b13 2).trans rfl; have p3 := (blk_cell O.out.b13 3).trans rfl; have p4 := (blk_cell O.out.b13 4).trans rfl; have p5 := (blk_cell O.out.b13 5).trans rfl; have p6 := (blk_cell O.out.b13 6).trans rfl; have p7 := (blk_cell O.out.b13 7).trans rfl
      refine sta (fun w' => (w'.cell? ⟨gX, 0, none⟩ = some (.bool ok) ∧ w'.cell? ⟨gX, 1, none⟩ = some (.bool lok) ∧ w'.cell? ⟨gX, 2, none⟩ = some (.slice Xn notes.length Xcn) ∧ w'.cell? ⟨gX, 3, none⟩ = some (.int .i64 len) ∧ w'.cell? ⟨gX, 4, none⟩ = some (.int .i64 gen) ∧ w'.cell? ⟨gX, 5, none⟩ = some (.int .i64 safe) ∧ w'.cell? ⟨gX, 6, none⟩ = some (.slice X0 bs.length Xc0) ∧ w'.cell? ⟨gX, 7, none⟩ = some (.slice X1 ws.length Xc1)) ∧ (w'.cell? ⟨w.heap.size, 0, none⟩ = some (.bool ok) ∧ w'.cell? ⟨w.heap.size, 1, none⟩ = some (.bool lok) ∧ w'.cell? ⟨w.heap.size, 2, none⟩ = some (.slice An notes.length Acn) ∧ w'.cell? ⟨w.heap.size, 3, none⟩ = some (.int .i64 len) ∧ w'.cell? ⟨w.heap.size, 4, none⟩ = some (.int .i64 gen) ∧ w'.cell? ⟨w.heap.size, 5, none⟩ = some (.int .i64 safe) ∧ w'.cell? ⟨w.heap.size, 6, none⟩ = some (.slice A0 bs.length Ac0) ∧ w'.cell? ⟨w.heap.size, 7, none⟩ = some (.slice A1 ws.length Ac1))) [] 5 ⟨⟨x0, x1, x2, x3, x4, x5, x6, x7⟩, ⟨p0, p1, p2, p3, p4, p5, p6, p7⟩⟩ (fun hS => ?_)
      clear x0 x1 x2 x3 x4 x5 x6 x7 p0 p1 p2 p3 p4 p5 p6 p7
      replace O := Aside0.mk O.out.drew
      generalize w38_.drew = wd39_ at O hS ⊢
      refine tk 0 1 hS ?_
      refine tk 1 3 hS ?_
      refine on 2 7 (fun K hK => ?_)
      refine ca (toOpened_c _ _ _ _ _ _ ok lok notes len gen safe bs ws _ (Kd.C_below HAn.out O.out.bel) (Kd.C_below HA0.out O.out.bel) (Kd.C_below HA1.out O.out.bel) HMN.out HM.out.1 HM.out.2.1 HM.out.2.2.1 HM.out.2.2.2) Try.func79 ?_
      rintro e w40_ ⟨vn, v0, v1, rfl, k⟩
      simp only at k
      replace O := Aside0.mk (O.out.app3 k); clear k
      obtain ⟨Tn, Tcn, rfl, Thn⟩ := O.out.f0
      have THn := Aside0.mk Thn; clear Thn
      obtain ⟨T0, Tc0, rfl, Th0⟩ := O.out.f1
      have TH0 := Aside0.mk Th0; clear Th0
      obtain ⟨T1, Tc1, rfl, Th1⟩ := O.out.f2
      have TH1 := Aside0.mk Th1; clear Th1
      refine ⟨_, rfl, nx hK ⟨⟨(blk_cell O.out.b7 0).trans rfl, (blk_cell O.out.b7 1).trans rfl, (blk_cell O.out.b7 2).trans rfl, (blk_cell O.out.b7 3).trans rfl, (blk_cell O.out.b7 4).trans rfl, (blk_cell O.out.b7 5).trans rfl, (blk_cell O.out.b7 6).trans rfl, (blk_cell O.out.b7 7).trans rfl⟩, ⟨(blk_cell O.out.b16 0).trans rfl, (blk_cell O.out.b16 1).trans rfl, (blk_cell O.out.b16 2).trans rfl, (blk_cell O.out.b16 3).trans rfl, (blk_cell O.out.b16 4).trans rfl, (blk_cell O.out.b16 5).trans rfl, (blk_cell O.out.b16 6).trans rfl, (blk_cell O.out.b16 7).trans rfl⟩⟩ (fun hS => ?_)⟩
      clear hK K
      refine on 3 15 (fun K hK => ?_)
      refine ca (eqOpened_t _ _ _ _ _ _ _ _ _ _ _ _ ok lok notes len gen safe bs ws _ O.out.c8 O.out.c9 O.out.c10 O.out.c0 O.out.c1 O.out.c2) Try.func80 ?_
      rintro e w41_ ⟨rfl, hb⟩
      replace O := Aside0.mk (O.out.below hb); clear hb
      refine ⟨_, rfl, nx hK ⟨⟨(blk_cell O.out.b7 0).trans rfl, (blk_cell O.out.b7 1).trans rfl, (blk_cell O.out.b7 2).trans rfl, (blk_cell O.out.b7 3).trans rfl, (blk_cell O.out.b7 4).trans rfl, (blk_cell O.out.b7 5).trans rfl, (blk_cell O.out.b7 6).trans rfl, (blk_cell O.out.b7 7).trans rfl⟩, ⟨(blk_cell O.out.b16 0).trans rfl, (blk_cell O.out.b16 1).trans rfl, (blk_cell O.out.b16 2).trans rfl, (blk_cell O.out.b16 3).trans rfl, (blk_cell O.out.b16 4).trans rfl, (blk_cell O.out.b16 5).trans rfl, (blk_cell O.out.b16 6).trans rfl, (blk_cell O.out.b16 7).trans rfl⟩⟩ (fun hS => ?_)⟩
      clear hK K hS
      refine pu 4 31 (dn ?_)
      replace O := Aside0.mk O.out.drop
      replace O := Aside0.mk O.out.drop
      replace O := Aside0.mk O.out.drop
      go_upto_region 16 with fail
      replace O := Aside0.mk O.out.p7
      replace O := Aside0.mk O.out.p7
      replace O := Aside0.mk O.out.p7
      have x0 := (blk_cell O.out.b7 0).trans rfl; have x1 := (blk_cell O.out.b7 1).trans rfl; have x2 := (blk_cell O.out.b7 2).trans rfl; have x3 := (blk_cell O.out.b7 3).trans rfl; have x4 := (blk_cell O.out.b7 4).trans rfl; have x5 := (blk_cell O.out.b7 5).trans rfl; have x6 := (blk_cell O.out.b7 6).trans rfl; have x7 := (blk_cell O.out.b7 7).trans rfl
      go_wp2_with fail
      refine (own_markOpened O.out ok lok len gen safe 1 (by omega) (by have := HCX.out; omega)).mono ?_
      rintro e w42_ ⟨rfl, hO⟩
      clear O
      have O := Aside0.mk hO; clear hO x0 x1 x2 x3 x4 x5 x6 x7
      have y0 := (blk_cell O.out.b3 0).trans rfl; have y1 := (blk_cell O.out.b3 1).trans rfl; have y2 := (blk_cell O.out.b3 2).trans rfl; have y3 := (blk_cell O.out.b3 3).trans rfl; have y4 := (blk_cell O.out.b3 4).trans rfl; have y5 := (blk_cell O.out.b3 5).trans rfl; have y6 := (blk_cell O.out.b3 6).trans rfl; have y7 := (blk_cell O.out.b3 7).trans rfl
      have z0 := (blk_cell O.out.b8 0).trans rfl; have z1 := (blk_cell O.out.b8 1).trans rfl; have z2 := (blk_cell O.out.b8 2).trans rfl; have z3 := (blk_cell O.out.b8 3).trans rfl; have z4 := (blk_cell O.out.b8 4).trans rfl; have z5 := (blk_cell O.out.b8 5).trans rfl; have z6 := (blk_cell O.out.b8 6).trans rfl; have z7 := (blk_cell O.out.b8 7).trans rfl
      go_wp2_with fail
      refine (eqOpened_t _ _ _ _ _ _ _ _ _ _ _ _ rok rlok rns rlen rgen rsafe rbs rws _ O.out.c4 O.out.c5 O.out.c6 O.out.c9 O.out.c10 O.out.c11).mono ?_
      rintro e w43_ ⟨rfl, hb⟩
      replace O := Aside0.mk (O.out.below hb); clear hb
      clear y0 y1 y2 y3 y4 y5 y6 y7 z0 z1 z2 z3 z4 z5 z6 z7
      go_upto_region 20 with fail
      replace O := Aside0.mk O.out.p6
      replace O := Aside0.mk O.out.p6
      replace O := Aside0.mk O.out.p6
      have x0 := (blk_cell O.out.b6 0).trans rfl; have x1 := (blk_cell O.out.b6 1).trans rfl; have x2 := (blk_cell O.out.b6 2).trans rfl; have x3 := (blk_cell O.out.b6 3).trans rfl; have x4 := (blk_cell O.out.b6 4).trans rfl; have x5 := (blk_cell O.out.b6 5).trans rfl; have x6 := (blk_cell O.out.b6 6).trans rfl; have x7 := (blk_cell O.out.b6 7).trans rfl
      go_wp2_with fail
      refine (own_markOpened O.out rok rlok rlen rgen rsafe 1 (by omega) (by have := HCN.out; omega)).mono ?_
      rintro e w44_ ⟨rfl, hO⟩
      clear O
      have O := Aside0.mk hO; clear hO x0 x1 x2 x3 x4 x5 x6 x7
      have x0 := (blk_cell O.out.b6 0).trans rfl; have x1 := (blk_cell O.out.b6 1).trans rfl; have x2 := (blk_cell O.out.b6 2).trans rfl; have x3 := (blk_cell O.out.b6 3).trans rfl; have x4 := (blk_cell O.out.b6 4).trans rfl; have x5 := (blk_cell O.out.b6 5).trans rfl; have x6 := (blk_cell O.out.b6 6).trans rfl; have x7 := (blk_cell O.out.b6 7).trans rfl
      go_wp2_with fail
      refine (heldOpened_c _ _ _ _ _ _ rok rlok rns rlen rgen rsafe rbs rws 1 _ _ _ _ rfl rfl rfl (by have := O.out.c0; rw [markL_len] at this; exact this) (by have := O.out.c1; rw [markL_len] at this; exact this) (by have := O.out.c2; rw [markL_len] at this; exact this) (by omega) (by have := HCN.out; omega)).mono ?_
      rintro e w45_ ⟨rfl, hb⟩
      replace O := Aside0.mk (O.out.below hb); clear hb
      clear x0 x1 x2 x3 x4 x5 x6 x7
      have hq0 : 0 ≤ 1 + cnO rns rbs rws := by omega
      have hne : ((1 + cnO rns rbs rws) != (1 + cnO rns rbs rws)) = false := (eqT rfl).2
      replace O := Aside0.mk O.out.p7.drop
      replace O := Aside0.mk O.out.p3.drop
      replace O := Aside0.mk O.out.p3.drop
      replace O := Aside0.mk O.out.p3.drop
      obtain ⟨mn, hmn⟩ : ∃ m, m = markL mkN cnN 1 rns := ⟨_, rfl⟩
      obtain ⟨m0, hm0⟩ : ∃ m, m = markL mkBS cnB (1 + cntL cnN rns) rbs := ⟨_, rfl⟩
      obtain ⟨m1, hm1⟩ : ∃ m, m = markL mkW cnW (1 + cntL cnN rns + cntL cnB rbs) rws := ⟨_, rfl⟩
      rw [← hmn, ← hm0, ← hm1] at O
      have HMn := Aside0.mk hmn; have HM0 := Aside0.mk hm0; have HM1 := Aside0.mk hm1; clear hmn hm0 hm1
      go_upto_region 27 with fail
      go_cut [12] from 13 (fun v wc => ∃ (Hn H0 H1 : Option Addr) (Hcn Hc0 Hc1 gH : Nat), v = .pointer (some ⟨gH, 0, none⟩) ∧ rbs.length ≤ Hc0 ∧ Aside0 (Own w wc [Rs.box gH 61 #[.bool rok, .bool rlok, .slice Hn rns.length Hcn, .int .i64 rlen, .int .i64 rgen, .int .i64 rsafe, .slice H0 rbs.length Hc0, .slice H1 rws.length Hc1], Rs.row rN 33 (.slice Hn rns.length Hcn) rns, Rs.row rBS 22 (.slice H0 rbs.length Hc0) rbs, Rs.row rW 147 (.slice H1 rws.length Hc1) rws, Rs.row rN 33 (.slice Gn rns.length Gcn) mn, Rs.row rBS 22 (.slice G0 rbs.length Gc0) m0, Rs.row rW 147 (.slice G1 rws.length Gc1) m1, Rs.box gG 61 #[.bool rok, .bool rlok, .slice Gn rns.length Gcn, .int .i64 rlen, .int .i64 rgen, .int .i64 rsafe, .slice G0 rbs.length Gc0, .slice G1 rws.length Gc1], Rs.box gW 61 #[.bool rok, .bool rlok, .slice Wn rns.length Wcn, .int .i64 rlen, .int .i64 rgen, .int .i64 rsafe, .slice W0 rbs.length Wc0, .slice W1 rws.length Wc1], Rs.row rN 33 (.slice Wn rns.length Wcn) rns, Rs.row rBS 22 (.slice W0 rbs.length Wc0) rbs, Rs.row rW 147 (.slice W1 rws.length Wc1) rws, Rs.box (w.heap.size + 1) 109 #[.int .i64 x.tick, .int .i64 x.kind, .int .i64 x.who, .int .i64 x.n, .string x.text], Rs.box w.heap.size 103 #[.bool ok, .bool lok, .slice An notes.length Acn, .int .i64 len, .int .i64 gen, .int .i64 safe, .slice A0 bs.length Ac0, .slice A1 ws.length Ac1]]))
      case first =>
        have p0 := (blk_cell O.out.b9 0).trans rfl; have p1 := (blk_cell O.out.b9 1).trans rfl; have p2 := (blk_cell O.out.b9 2).trans rfl; have p3 := (blk_cell O.out.b9 3).trans rfl; have p4 := (blk_cell O.out.b9 4).trans rfl; have p5 := (blk_cell O.out.b9 5).trans rfl; have p6 := (blk_cell O.out.b9 6).trans rfl; have p7 := (blk_cell O.out.b9 7).trans rfl
        have n0 := (blk_cell O.out.b8 0).trans rfl; have n1 := (blk_cell O.out.b8 1).trans rfl; have n2 := (blk_cell O.out.b8 2).trans rfl; have n3 := (blk_cell O.out.b8 3).trans rfl; have n4 := (blk_cell O.out.b8 4).trans rfl
        refine sta (fun w' => (w'.cell? ⟨w.heap.size, 0, none⟩ = some (.bool ok) ∧ w'.cell? ⟨w.heap.size, 1, none⟩ = some (.bool lok) ∧ w'.cell? ⟨w.heap.size, 2, none⟩ = some (.slice An notes.length Acn) ∧ w'.cell? ⟨w.heap.size, 3, none⟩ = some (.int .i64 len) ∧ w'.cell? ⟨w.heap.size, 4, none⟩ = some (.int .i64 gen) ∧ w'.cell? ⟨w.heap.size, 5, none⟩ = some (.int .i64 safe) ∧ w'.cell? ⟨w.heap.size, 6, none⟩ = some (.slice A0 bs.length Ac0) ∧ w'.cell? ⟨w.heap.size, 7, none⟩ = some (.slice A1 ws.length Ac1)) ∧ (w'.cell? ⟨w.heap.size + 1, 0, none⟩ = some (.int .i64 x.tick) ∧ w'.cell? ⟨w.heap.size + 1, 1, none⟩ = some (.int .i64 x.kind) ∧ w'.cell? ⟨w.heap.size + 1, 2, none⟩ = some (.int .i64 x.who) ∧ w'.cell? ⟨w.heap.size + 1, 3, none⟩ = some (.int .i64 x.n) ∧ w'.cell? ⟨w.heap.size + 1, 4, none⟩ = some (.string x.text))) [6] 7 ⟨⟨p0, p1, p2, p3, p4, p5, p6, p7⟩, ⟨n0, n1, n2, n3, n4⟩⟩ (fun hS => ?_)
        clear p0 p1 p2 p3 p4 p5 p6 p7 n0 n1 n2 n3 n4
        replace O := Aside0.mk O.out.drew
        generalize w45_.drew = wd46_ at O hS ⊢
        refine tk 0 1 hS ?_
        refine tk 2 5 hS ?_
        refine tw 1 5 7 37 (fun K hK => ?_) (fun K hK => ?_)
        · skip
          refine ca (toOpened_c _ _ _ _ _ _ ok lok notes len gen safe bs ws _ (Kd.C_below HAn.out O.out.bel) (Kd.C_below HA0.out O.out.bel) (Kd.C_below HA1.out O.out.bel) HMN.out HM.out.1 HM.out.2.1 HM.out.2.2.1 HM.out.2.2.2) Try.func79 ?_
          rintro e w47_ ⟨vn, v0, v1, rfl, k⟩
          simp only at k
          replace O := Aside0.mk (O.out.app3 k); clear k
          obtain ⟨Tn, Tcn, rfl, Thn⟩ := O.out.f0
          have THn := Aside0.mk Thn; clear Thn
          obtain ⟨T0, Tc0, rfl, Th0⟩ := O.out.f1
          have TH0 := Aside0.mk Th0; clear Th0
          obtain ⟨T1, Tc1, rfl, Th1⟩ := O.out.f2
          have TH1 := Aside0.mk Th1; clear Th1
          refine ⟨_, rfl, nx hK ⟨⟨(blk_cell O.out.b12 0).trans rfl, (blk_cell O.out.b12 1).trans rfl, (blk_cell O.out.b12 2).trans rfl, (blk_cell O.out.b12 3).trans rfl, (blk_cell O.out.b12 4).trans rfl, (blk_cell O.out.b12 5).trans rfl, (blk_cell O.out.b12 6).trans rfl, (blk_cell O.out.b12 7).trans rfl⟩, ⟨(blk_cell O.out.b11 0).trans rfl, (blk_cell O.out.b11 1).trans rfl, (blk_cell O.out.b11 2).trans rfl, (blk_cell O.out.b11 3).trans rfl, (blk_cell O.out.b11 4).trans rfl⟩⟩ (fun hS => ?_)⟩
          clear hK K
          refine tw 3 5 15 39 (fun K hK => ?_) (fun K hK => ?_)
          · skip
            refine ca (toNote_c x _) Try.func87 ?_
            rintro e w48_ ⟨rfl, hb⟩
            replace O := Aside0.mk (O.out.below hb); clear hb
            refine ⟨_, rfl, nx hK ⟨⟨(blk_cell O.out.b12 0).trans rfl, (blk_cell O.out.b12 1).trans rfl, (blk_cell O.out.b12 2).trans rfl, (blk_cell O.out.b12 3).trans rfl, (blk_cell O.out.b12 4).trans rfl, (blk_cell O.out.b12 5).trans rfl, (blk_cell O.out.b12 6).trans rfl, (blk_cell O.out.b12 7).trans rfl⟩, ⟨(blk_cell O.out.b11 0).trans rfl, (blk_cell O.out.b11 1).trans rfl, (blk_cell O.out.b11 2).trans rfl, (blk_cell O.out.b11 3).trans rfl, (blk_cell O.out.b11 4).trans rfl⟩⟩ (fun hS => ?_)⟩
            clear hK K
            refine tw 4 5 31 47 (fun K hK => ?_) (fun K hK => ?_)
            · skip
              refine ca (HI.out _ _ _ _ _ _ _  O.out.c0 O.out.c1 O.out.c2 TH0.out) Try.func39 ?_
              rintro e w49_ ⟨vn, v0, v1, rfl, k⟩
              simp only at k
              replace O := Aside0.mk (O.out.app3 k); clear k
              obtain ⟨Hn, Hcn, rfl, Hhn⟩ := O.out.f0
              have HHn := Aside0.mk Hhn; clear Hhn
              obtain ⟨H0, Hc0, rfl, Hh0⟩ := O.out.f1
              have HH0 := Aside0.mk Hh0; clear Hh0
              obtain ⟨H1, Hc1, rfl, Hh1⟩ := O.out.f2
              have HH1 := Aside0.mk Hh1; clear Hh1
              refine ⟨_, rfl, nx hK ⟨⟨(blk_cell O.out.b15 0).trans rfl, (blk_cell O.out.b15 1).trans rfl, (blk_cell O.out.b15 2).trans rfl, (blk_cell O.out.b15 3).trans rfl, (blk_cell O.out.b15 4).trans rfl, (blk_cell O.out.b15 5).trans rfl, (blk_cell O.out.b15 6).trans rfl, (blk_cell O.out.b15 7).trans rfl⟩, ⟨(blk_cell O.out.b14 0).trans rfl, (blk_cell O.out.b14 1).trans rfl, (blk_cell O.out.b14 2).trans rfl, (blk_cell O.out.b14 3).trans rfl, (blk_cell O.out.b14 4).trans rfl⟩⟩ (fun hS => ?_)⟩
              clear hK K
              refine on 5 63 (fun K hK => ?_)
              refine va ?_
              generalize hw : w49_.alloc _ = w50_
              replace O := Aside0.mk (O.out.of hw); clear hw
              generalize w49_.heap.size = gH at O ⊢
              refine nx hK ⟨⟨(blk_cell O.out.b16 0).trans rfl, (blk_cell O.out.b16 1).trans rfl, (blk_cell O.out.b16 2).trans rfl, (blk_cell O.out.b16 3).trans rfl, (blk_cell O.out.b16 4).trans rfl, (blk_cell O.out.b16 5).trans rfl, (blk_cell O.out.b16 6).trans rfl, (blk_cell O.out.b16 7).trans rfl⟩, ⟨(blk_cell O.out.b15 0).trans rfl, (blk_cell O.out.b15 1).trans rfl, (blk_cell O.out.b15 2).trans rfl, (blk_cell O.out.b15 3).trans rfl, (blk_cell O.out.b15 4).trans rfl⟩⟩ (fun hS => ?_)
              clear hK K
              have u0 := (blk_cell O.out.b0 0).trans rfl; have u1 := (blk_cell O.out.b0 1).trans rfl; have u2 := (blk_cell O.out.b0 2).trans rfl; have u3 := (blk_cell O.out.b0 3).trans rfl; have u4 := (blk_cell O.out.b0 4).trans rfl; have u5 := (blk_cell O.out.b0 5).trans rfl; have u6 := (blk_cell O.out.b0 6).trans rfl; have u7 := (blk_cell O.out.b0 7).trans rfl
              have z0 := blk_frozen O.out.b0 0; have z1 := blk_frozen O.out.b0 1; have z2 := blk_frozen O.out.b0 2; have z3 := blk_frozen O.out.b0 3; have z4 := blk_frozen O.out.b0 4; have z5 := blk_frozen O.out.b0 5; have z6 := blk_frozen O.out.b0 6; have z7 := blk_frozen O.out.b0 7
              refine la 6 127 (fun K hK => ?_)
              refine st ?_
              generalize hw : World.setCell _ _ _ = w51_
              replace O := Aside0.mk (O.out.st8 hw); clear hw
              refine nl hK (dn ?_)
              clear hK K hS u0 u1 u2 u3 u4 u5 u6 u7 z0 z1 z2 z3 z4 z5 z6 z7
              replace O := Aside0.mk O.out.p4.drop
              replace O := Aside0.mk O.out.p4.drop
              replace O := Aside0.mk O.out.p4.drop
              replace O := Aside0.mk O.out.p13
              replace O := Aside0.mk O.out.p13
              replace O := Aside0.mk O.out.p13
              replace O := Aside0.mk O.out.p13
              replace O := Aside0.mk O.out.p13
              replace O := Aside0.mk O.out.p13
              replace O := Aside0.mk O.out.p13
              replace O := Aside0.mk O.out.p13
              replace O := Aside0.mk O.out.p13
              replace O := Aside0.mk O.out.p13
              replace O := Aside0.mk O.out.p13
              replace O := Aside0.mk O.out.p13
              replace O := Aside0.mk O.out.p13
              replace O := Aside0.mk O.out.p13
              go_wp2
              go_meet
              case rel => exact ⟨_, _, _, _, _, _, _, rfl, HH0.out, O⟩
            · skip
              refine va ?_
              generalize hw : w48_.alloc _ = w52_
              replace O := Aside0.mk (O.out.of hw); clear hw
              generalize w48_.heap.size = gH at O ⊢
              refine nx hK ⟨⟨(blk_cell O.out.b13 0).trans rfl, (blk_cell O.out.b13 1).trans rfl, (blk_cell O.out.b13 2).trans rfl, (blk_cell O.out.b13 3).trans rfl, (blk_cell O.out.b13 4).trans rfl, (blk_cell O.out.b13 5).trans rfl, (blk_cell O.out.b13 6).trans rfl, (blk_cell O.out.b13 7).trans rfl⟩, ⟨(blk_cell O.out.b12 0).trans rfl, (blk_cell O.out.b12 1).trans rfl, (blk_cell O.out.b12 2).trans rfl, (blk_cell O.out.b12 3).trans rfl, (blk_cell O.out.b12 4).trans rfl⟩⟩ (fun hS => ?_)
              clear hK K
              refine on 4 63 (fun K hK => ?_)
              refine ca (HI.out _ _ _ _ _ _ _  O.out.c1 O.out.c2 O.out.c3 TH0.out) Try.func39 ?_
              rintro e w53_ ⟨vn, v0, v1, rfl, k⟩
              simp only at k
              replace O := Aside0.mk (O.out.app3 k); clear k
              obtain ⟨Hn, Hcn, rfl, Hhn⟩ := O.out.f0
              have HHn := Aside0.mk Hhn; clear Hhn
              obtain ⟨H0, Hc0, rfl, Hh0⟩ := O.out.f1
              have HH0 := Aside0.mk Hh0; clear Hh0
              obtain ⟨H1, Hc1, rfl, Hh1⟩ := O.out.f2
              have HH1 := Aside0.mk Hh1; clear Hh1
              refine ⟨_, rfl, nx hK ⟨⟨(blk_cell O.out.b16 0).trans rfl, (blk_cell O.out.b16 1).trans rfl, (blk_cell O.out.b16 2).trans rfl, (blk_cell O.out.b16 3).trans rfl, (blk_cell O.out.b16 4).trans rfl, (blk_cell O.out.b16 5).trans rfl, (blk_cell O.out.b16 6).trans rfl, (blk_cell O.out.b16 7).trans rfl⟩, ⟨(blk_cell O.out.b15 0).trans rfl, (blk_cell O.out.b15 1).trans rfl, (blk_cell O.out.b15 2).trans rfl, (blk_cell O.out.b15 3).trans rfl, (blk_cell O.out.b15 4).trans rfl⟩⟩ (fun hS => ?_)⟩
              clear hK K
              have u0 := (blk_cell O.out.b3 0).trans rfl; have u1 := (blk_cell O.out.b3 1).trans rfl; have u2 := (blk_cell O.out.b3 2).trans rfl; have u3 := (blk_cell O.out.b3 3).trans rfl; have u4 := (blk_cell O.out.b3 4).trans rfl; have u5 := (blk_cell O.out.b3 5).trans rfl; have u6 := (blk_cell O.out.b3 6).trans rfl; have u7 := (blk_cell O.out.b3 7).trans rfl
              have z0 := blk_frozen O.out.b3 0; have z1 := blk_frozen O.out.b3 1; have z2 := blk_frozen O.out.b3 2; have z3 := blk_frozen O.out.b3 3; have z4 := blk_frozen O.out.b3 4; have z5 := blk_frozen O.out.b3 5; have z6 := blk_frozen O.out.b3 6; have z7 := blk_frozen O.out.b3 7
              refine la 6 127 (fun K hK => ?_)
              refine st ?_
              generalize hw : World.setCell _ _ _ = w54_
              replace O := Aside0.mk (O.out.p3.st8 hw); clear hw
              refine nl hK (dn ?_)
              clear hK K hS u0 u1 u2 u3 u4 u5 u6 u7 z0 z1 z2 z3 z4 z5 z6 z7
              replace O := Aside0.mk O.out.p4.drop
              replace O := Aside0.mk O.out.p4.drop
              replace O := Aside0.mk O.out.p4.drop
              replace O := Aside0.mk O.out.p13
              replace O := Aside0.mk O.out.p13
              replace O := Aside0.mk O.out.p13
              replace O := Aside0.mk O.out.p13
              replace O := Aside0.mk O.out.p13
              replace O := Aside0.mk O.out.p13
              replace O := Aside0.mk O.out.p13
              replace O := Aside0.mk O.out.p13
              replace O := Aside0.mk O.out.p13
              replace O := Aside0.mk O.out.p13
              replace O := Aside0.mk O.out.p13
              replace O := Aside0.mk O.out.p13
              replace O := Aside0.mk O.out.p13
              replace O := Aside0.mk O.out.p13
              go_wp2
              go_meet
              case rel => exact ⟨_, _, _, _, _, _, _, rfl, HH0.out, O⟩
          · skip
            refine va ?_
            generalize hw : w47_.alloc _ = w55_
            replace O := Aside0.mk (O.out.of hw); clear hw
            generalize w47_.heap.size = gH at O ⊢
            refine nx hK ⟨⟨(blk_cell O.out.b13 0).trans rfl, (blk_cell O.out.b13 1).trans rfl, (blk_cell O.out.b13 2).trans rfl, (blk_cell O.out.b13 3).trans rfl, (blk_cell O.out.b13 4).trans rfl, (blk_cell O.out.b13 5).trans rfl, (blk_cell O.out.b13 6).trans rfl, (blk_cell O.out.b13 7).trans rfl⟩, ⟨(blk_cell O.out.b12 0).trans rfl, (blk_cell O.out.b12 1).trans rfl, (blk_cell O.out.b12 2).trans rfl, (blk_cell O.out.b12 3).trans rfl, (blk_cell O.out.b12 4).trans rfl⟩⟩ (fun hS => ?_)
            clear hK K
            refine on 3 47 (fun K hK => ?_)
            refine ca (toNote_c x _) Try.func87 ?_
            rintro e w56_ ⟨rfl, hb⟩
            replace O := Aside0.mk (O.out.below hb); clear hb
            refine ⟨_, rfl, nx hK ⟨⟨(blk_cell O.out.b13 0).trans rfl, (blk_cell O.out.b13 1).trans rfl, (blk_cell O.out.b13 2).trans rfl, (blk_cell O.out.b13 3).trans rfl, (blk_cell O.out.b13 4).trans rfl, (blk_cell O.out.b13 5).trans rfl, (blk_cell O.out.b13 6).trans rfl, (blk_cell O.out.b13 7).trans rfl⟩, ⟨(blk_cell O.out.b12 0).trans rfl, (blk_cell O.out.b12 1).trans rfl, (blk_cell O.out.b12 2).trans rfl, (blk_cell O.out.b12 3).trans rfl, (blk_cell O.out.b12 4).trans rfl⟩⟩ (fun hS => ?_)⟩
            clear hK K
            refine on 4 63 (fun K hK => ?_)
            refine ca (HI.out _ _ _ _ _ _ _  O.out.c1 O.out.c2 O.out.c3 TH0.out) Try.func39 ?_
            rintro e w57_ ⟨vn, v0, v1, rfl, k⟩
            simp only at k
            replace O := Aside0.mk (O.out.app3 k); clear k
            obtain ⟨Hn, Hcn, rfl, Hhn⟩ := O.out.f0
            have HHn := Aside0.mk Hhn; clear Hhn
            obtain ⟨H0, Hc0, rfl, Hh0⟩ := O.out.f1
            have HH0 := Aside0.mk Hh0; clear Hh0
            obtain ⟨H1, Hc1, rfl, Hh1⟩ := O.out.f2
            have HH1 := Aside0.mk Hh1; clear Hh1
            refine ⟨_, rfl, nx hK ⟨⟨(blk_cell O.out.b16 0).trans rfl, (blk_cell O.out.b16 1).trans rfl, (blk_cell O.out.b16 2).trans rfl, (blk_cell O.out.b16 3).trans rfl, (blk_cell O.out.b16 4).trans rfl, (blk_cell O.out.b16 5).trans rfl, (blk_cell O.out.b16 6).trans rfl, (blk_cell O.out.b16 7).trans rfl⟩, ⟨(blk_cell O.out.b15 0).trans rfl, (blk_cell O.out.b15 1).trans rfl, (blk_cell O.out.b15 2).trans rfl, (blk_cell O.out.b15 3).trans rfl, (blk_cell O.out.b15 4).trans rfl⟩⟩ (fun hS => ?_)⟩
            clear hK K
            have u0 := (blk_cell O.out.b3 0).trans rfl; have u1 := (blk_cell O.out.b3 1).trans rfl; have u2 := (blk_cell O.out.b3 2).trans rfl; have u3 := (blk_cell O.out.b3 3).trans rfl; have u4 := (blk_cell O.out.b3 4).trans rfl; have u5 := (blk_cell O.out.b3 5).trans rfl; have u6 := (blk_cell O.out.b3 6).trans rfl; have u7 := (blk_cell O.out.b3 7).trans rfl
            have z0 := blk_frozen O.out.b3 0; have z1 := blk_frozen O.out.b3 1; have z2 := blk_frozen O.out.b3 2; have z3 := blk_frozen O.out.b3 3; have z4 := blk_frozen O.out.b3 4; have z5 := blk_frozen O.out.b3 5; have z6 := blk_frozen O.out.b3 6; have z7 := blk_frozen O.out.b3 7
            refine la 6 127 (fun K hK => ?_)
            refine st ?_
            generalize hw : World.setCell _ _ _ = w58_
            replace O := Aside0.mk (O.out.p3.st8 hw); clear hw
            refine nl hK (dn ?_)
            clear hK K hS u0 u1 u2 u3 u4 u5 u6 u7 z0 z1 z2 z3 z4 z5 z6 z7
            replace O := Aside0.mk O.out.p4.drop
            replace O := Aside0.mk O.out.p4.drop
            replace O := Aside0.mk O.out.p4.drop
            replace O := Aside0.mk O.out.p13
            replace O := Aside0.mk O.out.p13
            replace O := Aside0.mk O.out.p13
            replace O := Aside0.mk O.out.p13
            replace O := Aside0.mk O.out.p13
            replace O := Aside0.mk O.out.p13
            replace O := Aside0.mk O.out.p13
            replace O := Aside0.mk O.out.p13
            replace O := Aside0.mk O.out.p13
            replace O := Aside0.mk O.out.p13
            replace O := Aside0.mk O.out.p13
            replace O := Aside0.mk O.out.p13
            replace O := Aside0.mk O.out.p13
            replace O := Aside0.mk O.out.p13
            go_wp2
            go_meet
            case rel => exact ⟨_, _, _, _, _, _, _, rfl, HH0.out, O⟩
        · skip
          refine va ?_
          generalize hw : wd46_.alloc _ = w59_
          replace O := Aside0.mk (O.out.of hw); clear hw
          generalize wd46_.heap.size = gH at O ⊢
          refine nx hK ⟨⟨(blk_cell O.out.b10 0).trans rfl, (blk_cell O.out.b10 1).trans rfl, (blk_cell O.out.b10 2).trans rfl, (blk_cell O.out.b10 3).trans rfl, (blk_cell O.out.b10 4).trans rfl, (blk_cell O.out.b10 5).trans rfl, (blk_cell O.out.b10 6).trans rfl, (blk_cell O.out.b10 7).trans rfl⟩, ⟨(blk_cell O.out.b9 0).trans rfl, (blk_cell O.out.b9 1).trans rfl, (blk_cell O.out.b9 2).trans rfl, (blk_cell O.out.b9 3).trans rfl, (blk_cell O.out.b9 4).trans rfl⟩⟩ (fun hS => ?_)
          clear hK K
          refine on 1 39 (fun K hK => ?_)
          refine ca (toOpened_c _ _ _ _ _ _ ok lok notes len gen safe bs ws _ (Kd.C_below HAn.out O.out.bel) (Kd.C_below HA0.out O.out.bel) (Kd.C_below HA1.out O.out.bel) HMN.out HM.out.1 HM.out.2.1 HM.out.2.2.1 HM.out.2.2.2) Try.func79 ?_
          rintro e w60_ ⟨vn, v0, v1, rfl, k⟩
          simp only at k
          replace O := Aside0.mk (O.out.app3 k); clear k
          obtain ⟨Tn, Tcn, rfl, Thn⟩ := O.out.f0
          have THn := Aside0.mk Thn; clear Thn
          obtain ⟨T0, Tc0, rfl, Th0⟩ := O.out.f1
          have TH0 := Aside0.mk Th0; clear Th0
          obtain ⟨T1, Tc1, rfl, Th1⟩ := O.out.f2
          have TH1 := Aside0.mk Th1; clear Th1
          refine ⟨_, rfl, nx hK ⟨⟨(blk_cell O.out.b13 0).trans rfl, (blk_cell O.out.b13 1).trans rfl, (blk_cell O.out.b13 2).trans rfl, (blk_cell O.out.b13 3).trans rfl, (blk_cell O.out.b13 4).trans rfl, (blk_cell O.out.b13 5).trans rfl, (blk_cell O.out.b13 6).trans rfl, (blk_cell O.out.b13 7).trans rfl⟩, ⟨(blk_cell O.out.b12 0).trans rfl, (blk_cell O.out.b12 1).trans rfl, (blk_cell O.out.b12 2).trans rfl, (blk_cell O.out.b12 3).trans rfl, (blk_cell O.out.b12 4).trans rfl⟩⟩ (fun hS => ?_)⟩
          clear hK K
          refine on 3 47 (fun K hK => ?_)
          refine ca (toNote_c x _) Try.func87 ?_
          rintro e w61_ ⟨rfl, hb⟩
          replace O := Aside0.mk (O.out.below hb); clear hb
          refine ⟨_, rfl, nx hK ⟨⟨(blk_cell O.out.b13 0).trans rfl, (blk_cell O.out.b13 1).trans rfl, (blk_cell O.out.b13 2).trans rfl, (blk_cell O.out.b13 3).trans rfl, (blk_cell O.out.b13 4).trans rfl, (blk_cell O.out.b13 5).trans rfl, (blk_cell O.out.b13 6).trans rfl, (blk_cell O.out.b13 7).trans rfl⟩, ⟨(blk_cell O.out.b12 0).trans rfl, (blk_cell O.out.b12 1).trans rfl, (blk_cell O.out.b12 2).trans rfl, (blk_cell O.out.b12 3).trans rfl, (blk_cell O.out.b12 4).trans rfl⟩⟩ (fun hS => ?_)⟩
          clear hK K
          refine on 4 63 (fun K hK => ?_)
          refine ca (HI.out _ _ _ _ _ _ _  O.out.c0 O.out.c1 O.out.c2 TH0.out) Try.func39 ?_
          rintro e w62_ ⟨vn, v0, v1, rfl, k⟩
          simp only at k
          replace O := Aside0.mk (O.out.app3 k); clear k
          obtain ⟨Hn, Hcn, rfl, Hhn⟩ := O.out.f0
          have HHn := Aside0.mk Hhn; clear Hhn
          obtain ⟨H0, Hc0, rfl, Hh0⟩ := O.out.f1
          have HH0 := Aside0.mk Hh0; clear Hh0
          obtain ⟨H1, Hc1, rfl, Hh1⟩ := O.out.f2
          have HH1 := Aside0.mk Hh1; clear Hh1
          refine ⟨_, rfl, nx hK ⟨⟨(blk_cell O.out.b16 0).trans rfl, (blk_cell O.out.b16 1).trans rfl, (blk_cell O.out.b16 2).trans rfl, (blk_cell O.out.b16 3).trans rfl, (blk_cell O.out.b16 4).trans rfl, (blk_cell O.out.b16 5).trans rfl, (blk_cell O.out.b16 6).trans rfl, (blk_cell O.out.b16 7).trans rfl⟩, ⟨(blk_cell O.out.b15 0).trans rfl, (blk_cell O.out.b15 1).trans rfl, (blk_cell O.out.b15 2).trans rfl, (blk_cell O.out.b15 3).trans rfl, (blk_cell O.out.b15 4).trans rfl⟩⟩ (fun hS => ?_)⟩
          clear hK K
          have u0 := (blk_cell O.out.b6 0).trans rfl; have u1 := (blk_cell O.out.b6 1).trans rfl; have u2 := (blk_cell O.out.b6 2).trans rfl; have u3 := (blk_cell O.out.b6 3).trans rfl; have u4 := (blk_cell O.out.b6 4).trans rfl; have u5 := (blk_cell O.out.b6 5).trans rfl; have u6 := (blk_cell O.out.b6 6).trans rfl; have u7 := (blk_cell O.out.b6 7).trans rfl
          have z0 := blk_frozen O.out.b6 0; have z1 := blk_frozen O.out.b6 1; have z2 := blk_frozen O.out.b6 2; have z3 := blk_frozen O.out.b6 3; have z4 := blk_frozen O.out.b6 4; have z5 := blk_frozen O.out.b6 5; have z6 := blk_frozen O.out.b6 6; have z7 := blk_frozen O.out.b6 7
          refine la 6 127 (fun K hK => ?_)
          refine st ?_
          generalize hw : World.setCell _ _ _ = w63_
          replace O := Aside0.mk (O.out.p6.st8 hw); clear hw
          refine nl hK (dn ?_)
          clear hK K hS u0 u1 u2 u3 u4 u5 u6 u7 z0 z1 z2 z3 z4 z5 z6 z7
          replace O := Aside0.mk O.out.p4.drop
          replace O := Aside0.mk O.out.p4.drop
          replace O := Aside0.mk O.out.p4.drop
          replace O := Aside0.mk O.out.p13
          replace O := Aside0.mk O.out.p13
          replace O := Aside0.mk O.out.p13
          replace O := Aside0.mk O.out.p13
          replace O := Aside0.mk O.out.p13
          replace O := Aside0.mk O.out.p13
          replace O := Aside0.mk O.out.p13
          replace O := Aside0.mk O.out.p13
          replace O := Aside0.mk O.out.p13
          replace O := Aside0.mk O.out.p13
          replace O := Aside0.mk O.out.p13
          replace O := Aside0.mk O.out.p13
          replace O := Aside0.mk O.out.p13
          replace O := Aside0.mk O.out.p13
          go_wp2
          go_meet
          case rel => exact ⟨_, _, _, _, _, _, _, rfl, HH0.out, O⟩
      case rest =>
        clear O
        obtain ⟨Hn, H0, H1, Hcn, Hc0, Hc1, gH, rfl, Hh0, O⟩ := hcut
        have HH0 := Aside0.mk Hh0; clear Hh0
        have y0 := (blk_cell O.out.b0 0).trans rfl; have y1 := (blk_cell O.out.b0 1).trans rfl; have y2 := (blk_cell O.out.b0 2).trans rfl; have y3 := (blk_cell O.out.b0 3).trans rfl; have y4 := (blk_cell O.out.b0 4).trans rfl; have y5 := (blk_cell O.out.b0 5).trans rfl; have y6 := (blk_cell O.out.b0 6).trans rfl; have y7 := (blk_cell O.out.b0 7).trans rfl
        have z0 := (blk_cell O.out.b8 0).trans rfl; have z1 := (blk_cell O.out.b8 1).trans rfl; have z2 := (blk_cell O.out.b8 2).trans rfl; have z3 := (blk_cell O.out.b8 3).trans rfl; have z4 := (blk_cell O.out.b8 4).trans rfl; have z5 := (blk_cell O.out.b8 5).trans rfl; have z6 := (blk_cell O.out.b8 6).trans rfl; have z7 := (blk_cell O.out.b8 7).trans rfl
        go_wp2_with fail
        refine (eqOpened_t _ _ _ _ _ _ _ _ _ _ _ _ rok rlok rns rlen rgen rsafe rbs rws _ O.out.c1 O.out.c2 O.out.c3 O.out.c9 O.out.c10 O.out.c11).mono ?_
        rintro e w64_ ⟨rfl, hb⟩
        replace O := Aside0.mk (O.out.below hb); clear hb
        clear y0 y1 y2 y3 y4 y5 y6 y7 z0 z1 z2 z3 z4 z5 z6 z7
        rw [HMn.out, HM0.out, HM1.out] at O
        have x0 := (blk_cell O.out.b7 0).trans rfl; have x1 := (blk_cell O.out.b7 1).trans rfl; have x2 := (blk_cell O.out.b7 2).trans rfl; have x3 := (blk_cell O.out.b7 3).trans rfl; have x4 := (blk_cell O.out.b7 4).trans rfl; have x5 := (blk_cell O.out.b7 5).trans rfl; have x6 := (blk_cell O.out.b7 6).trans rfl; have x7 := (blk_cell O.out.b7 7).trans rfl
        go_wp2_with fail
        refine (heldOpened_c _ _ _ _ _ _ rok rlok rns rlen rgen rsafe rbs rws 1 _ _ _ _ rfl rfl rfl (by have := O.out.c4; rw [markL_len] at this; exact this) (by have := O.out.c5; rw [markL_len] at this; exact this) (by have := O.out.c6; rw [markL_len] at this; exact this) (by omega) (by have := HCN.out; omega)).mono ?_
        rintro e w65_ ⟨rfl, hb⟩
        replace O := Aside0.mk (O.out.below hb); clear hb
        clear x0 x1 x2 x3 x4 x5 x6 x7
        go_wp2_with fail
        go_ret
        exact ⟨rfl, O.out.bel⟩
end Go.Proofs.Ytocdlibnmlcokaa
