/- Sync, Seen. -/
import Derived.Test.YtocdlibnmlcokaaAK
import Derived.Test.YtocdlibnmlcokaaATo
namespace Go.Proofs.Ytocdlibnmlcokaa
open Go.RowKit Go.Proofs.YtocdlibnmlcokaaW.PrintWords Go.Proofs.YtocdlibnmlcokaaW.PrintLast
set_option linter.unusedVariables false
set_option linter.unusedSimpArgs false
theorem info4 : (Try.prog.info? 4).map (fun i => (i.zero, i.size, i.bytes)) = some (some (.bool false), 1, 1) := by kernel_rfl
theorem setTo_congr (bs : List (List Int)) (ws : List Wr) (kf kg : Nat → Bool) : ∀ i, (∀ j, j < i → kf j = kg j) → setTo bs ws kf i = setTo bs ws kg i
  | 0, _ => rfl
  | i + 1, h => by simp only [setTo]; rw [h i (by omega), setTo_congr bs ws kf kg i (fun j hj => h j (by omega))]
theorem settle_all (bs : List (List Int)) (ws : List Wr) : settleL bs ws (kfL false (List.replicate ws.length true)) = settleL bs ws (kfL true []) :=
  setTo_congr bs ws _ _ _ fun j hj => by simp [kfL, hj]
set_option maxRecDepth 100000 in
set_option maxHeartbeats 2000000 in
theorem implSync_w (A0 A1 : Option Addr) (c0 c1 : Nat) (bs bs' : List (List Int)) (ws : List Wr) (w : World) (hx : rBS.d.C w A0 bs.length bs) (hy : rW.d.C w A1 ws.length ws) (hm : ws.length ≤ 10000000)
    (hcr : ∀ (g : Nat) (w' : World), rBS.d.C w' A0 bs.length bs → rW.d.C w' A1 ws.length ws → Kd.bool.C w' (some ⟨g, 0, none⟩) ws.length (List.replicate ws.length true) → Calls Try.prog 66 #[.agg #[.slice A0 bs.length c0, .slice A1 ws.length c1], .slice (some ⟨g, 0, none⟩) ws.length ws.length] w' (GotDisk w' bs' [])) :
    Calls Try.prog 63 #[.agg #[.slice A0 bs.length c0, .slice A1 ws.length c1]] w (GotDisk w bs' []) := by
  have hb0 := below_alloc (below_alloc (Below.refl w.heap.size w) (.cells #[.slice A0 bs.length c0, .slice A1 ws.length c1] 43)) (.cells #[.slice none 0 0, .slice none 0 0] 43)
  have BK1 := Aside0.mk (blk_alloc (blk_new w (.cells #[.slice A0 bs.length c0, .slice A1 ws.length c1] 43)) (.cells #[.slice none 0 0, .slice none 0 0] 43))
  have BK2 := Aside0.mk (blk_new' (w := w.alloc (.cells #[.slice A0 bs.length c0, .slice A1 ws.length c1] 43)) (.cells #[.slice none 0 0, .slice none 0 0] 43) (n := w.heap.size + 1) (by simp))
  have HX := Aside0.mk hx; have HY := Aside0.mk hy; have HM := Aside0.mk hm; have HCR := Aside0.mk hcr; have HB0 := Aside0.mk hb0
  clear hx hy hcr hb0
  go_enter Try.func63, Try.ntmps63
  go_wp2_with ((with_reducible refine gate_dst (N := 8) rfl ?_); refine Rp.mk_row Rp.bool rfl (N := 8) rfl 34 4 _ _ rfl (ws.length : Int) rfl rfl Try.underlying34 (.bool false) 1 info4 rfl (by decide) (by omega) false (fun _ => ⟨rfl, rfl⟩) (by omega) (by have := HM.out; omega) ?_; intro g w1 hg hr hb; have HG := Aside0.mk hg; have HR := Aside0.mk hr; have HB1 := Aside0.mk hb; clear hg hr hb)
  have hr0 := HR.out
  simp only [Int.toNat_natCast] at hr0
  have el : (List.replicate ws.length true).length = ws.length := List.length_replicate
  have hr1 : Rp.bool.Row 4 w1 (.slice (some ⟨g, 0, none⟩) ws.length ws.length) (fillTo false (List.replicate ws.length true) 0) [g] := by rw [fillTo_zero, el]; exact hr0
  have HR1 := Aside0.mk hr1
  replace BK1 := Aside0.mk (blk_below BK1.out HB1.out); replace BK2 := Aside0.mk (blk_below BK2.out HB1.out)
  have hgs : w.heap.size + 2 ≤ g := by have := HG.out; simp at this; omega
  have HB := Aside0.mk (below_then HB0.out (by simp; omega) HB1.out)
  clear hr0 hr1 HR HB1 HB0 HG
  go_loopg [11] ws.length (fun m vi wr => ∃ i : Int, vi = .int .i64 i ∧ Aside0 (0 ≤ i ∧ i ≤ ws.length ∧ ws.length - i.toNat ≤ m) ∧ Aside0 (Rp.bool.Row 4 wr (.slice (some ⟨g, 0, none⟩) ws.length ws.length) (fillTo false (List.replicate ws.length true) i.toNat) [g]) ∧ Aside0 (wr.heap[w.heap.size]? = some (.cells #[.slice A0 bs.length c0, .slice A1 ws.length c1] 43 (0, 0))) ∧ Aside0 (wr.heap[w.heap.size + 1]? = some (.cells #[.slice none 0 0, .slice none 0 0] 43 (0, 0))) ∧ Aside0 (Below w.heap.size w wr))
  case atStart => exact ⟨0, rfl, ⟨by simp⟩, HR1, BK1, BK2, HB⟩
  case round =>
    clear HR1 BK1 BK2 HB
    obtain ⟨i, rfl, HI, HO, BK1, BK2, HB⟩ := hrel
    by_cases hlt : i < (ws.length : Int)
    · have hi0 : 0 ≤ i := HI.out.1
      obtain ⟨cs, f, hP, _, _, hg, hcell, hfr, _, hst⟩ := Rp.Row_elem HO.out (by simp) i.toNat (by rw [fillTo_len _ _ _ (by rw [el]; omega), el]; omega)
      obtain ⟨hcs, hf⟩ := hP
      subst hcs; subst hf
      have e0 : i.toNat * Rp.bool.d.sz + 0 = i.toNat := Nat.mul_one _
      have c2 := hcell 0 _ rfl
      rw [e0] at c2
      have z1 := hfr i.toNat
      obtain ⟨fp', hr', _, _, he⟩ := hst 0 (.bool true) true [] (by decide) ⟨rfl, rfl⟩ (by simp) (by simp) (.inl rfl)
      have he := he rfl
      subst he
      have hs := fillTo_succ false (List.replicate ws.length true) (i := i.toNat) (by rw [el]; omega)
      rw [List.getElem_replicate] at hs
      rw [e0, hs] at hr'
      have HO' := Aside0.mk hr'
      have HB' := Aside0.mk (HB.out.setCell (p := ⟨g, i.toNat, none⟩) (by show w.heap.size ≤ g; omega) (.bool true))
      have BK1' := Aside0.mk (blk_far (p := ⟨g, i.toNat, none⟩) BK1.out (by show w.heap.size ≠ g; omega) (.bool true))
      have BK2' := Aside0.mk (blk_far (p := ⟨g, i.toNat, none⟩) BK2.out (by show w.heap.size + 1 ≠ g; omega) (.bool true))
      clear hst hr' e0 hg hcell hfr hs HO HB BK1 BK2
      go_wp2
      go_roundg (gk - 1)
      case measure => have := HI.out; omega
      case rel => exact ⟨i + 1, rfl, ⟨by have := HI.out; omega, by have := HI.out; omega, by have := HI.out; omega⟩, by rw [show (i + 1).toNat = i.toNat + 1 by omega]; exact HO', BK1', BK2', HB'⟩
    · have e1 := fillTo_end false (List.replicate ws.length true) (i := i.toNat) (by rw [el]; have := HI.out; omega)
      replace HO := HO.out; rw [e1] at HO
      have HC := (Rp.Row_C HO).2.2
      rw [el] at HC
      have HC := Aside0.mk HC
      have d0 := (blk_cell BK1.out 0).trans rfl; have d1 := (blk_cell BK1.out 1).trans rfl
      clear e1 el HO
      go_wp2_with fail
      refine (HCR.out g _ (Kd.C_below HX.out HB.out) (Kd.C_below HY.out HB.out) HC.out).mono ?_
      rintro e w2 ⟨v0, v1, f0, f1, rfl, r0, r1, hnd, hge, hb2⟩
      obtain ⟨W0, hW⟩ : ∃ W0, W0 = ([] : List Wr) := ⟨_, rfl⟩
      rw [← hW] at r1
      have HW := Aside0.mk hW
      clear hW
      obtain ⟨Ap, cp_, rfl, _, _⟩ := Rp.Row_reads r0
      obtain ⟨Aq, cq, rfl, _, _⟩ := Rp.Row_reads r1
      have J2 := blk_below BK2.out hb2
      have c2 := (blk_cell J2 0).trans rfl; have c3 := (blk_cell J2 1).trans rfl; have z2 := blk_frozen J2 0; have z3 := blk_frozen J2 1
      obtain ⟨I2, q2⟩ := set2 J2 (.slice Ap bs'.length cp_) (.slice Aq W0.length cq)
      have n0 := Rp.Row_not r0 J2 (by decide); have n1 := Rp.Row_not r1 J2 (by decide)
      have R0 := Aside0.mk (q2.row r0 (fun x hx hm => n0 (by simp at hm; exact hm ▸ hx))); have R1 := Aside0.mk (q2.row r1 (fun x hx hm => n1 (by simp at hm; exact hm ▸ hx)))
      have HB2 := Aside0.mk (q2.toBelow (below_then HB.out HB.out.size hb2) (Nat.le_trans HB.out.size hb2.size) (fun x hx => by simp at hx; omega))
      have HN := Aside0.mk hnd; have HG : Aside0 (∀ x ∈ f0 ++ f1, w.heap.size ≤ x) := ⟨fun x hx => by have := hge x hx; have := HB.out.size; omega⟩
      have II := Aside0.mk I2
      clear I2 q2 n0 n1 r0 r1 hnd hge hb2 J2 d0 d1
      go_wp2
      refine bodyPost_ret (results_cell_row rfl _ _ (w.heap.size + 1) 43 #[.slice Ap bs'.length cp_, .slice Aq W0.length cq] (0, 0) _ rfl II.out Try.underlying43 rfl (by kernel_rfl)) rfl ?_
      have hW := HW.out
      subst hW
      exact ⟨_, _, f0, f1, rfl, R0.out, R1.out, HN.out, HG.out, HB2.out⟩
theorem implSync_yes (A0 A1 : Option Addr) (c0 c1 : Nat) (bs : List (List Int)) (ws : List Wr) (w : World) (hx : rBS.d.C w A0 bs.length bs) (hy : rW.d.C w A1 ws.length ws) (hd : DkOk bs ws) :
    Calls Try.prog 63 #[.agg #[.slice A0 bs.length c0, .slice A1 ws.length c1]] w (GotDisk w (settleL bs ws (kfL true [])) []) := by
  refine implSync_w A0 A1 c0 c1 bs _ ws w hx hy (by have := hd.2.1; omega) fun g w' h0 h1 h2 => ?_
  have el : (List.replicate ws.length true).length = ws.length := List.length_replicate
  have := implCrash_yes A0 A1 (some ⟨g, 0, none⟩) c0 c1 ws.length bs ws (List.replicate ws.length true) w' h0 h1 (by rw [el]; exact h2) hd
  rw [settle_all, el] at this
  exact this
theorem implSync_no (A0 A1 : Option Addr) (c0 c1 : Nat) (bs : List (List Int)) (ws : List Wr) (w : World) (hx : rBS.d.C w A0 bs.length bs) (hy : rW.d.C w A1 ws.length ws) (hm : ws.length ≤ 10000000) (hd : ¬ DkOk bs ws) :
    Calls Try.prog 63 #[.agg #[.slice A0 bs.length c0, .slice A1 ws.length c1]] w (GotDisk w [] []) := by
  refine implSync_w A0 A1 c0 c1 bs _ ws w hx hy hm fun g w' h0 h1 h2 => ?_
  have el : (List.replicate ws.length true).length = ws.length := List.length_replicate
  have := implCrash_no A0 A1 (some ⟨g, 0, none⟩) c0 c1 ws.length bs ws (List.replicate ws.length true) w' h0 h1 hd
  rw [el] at this
  exact this
end Go.Proofs.Ytocdlibnmlcokaa
