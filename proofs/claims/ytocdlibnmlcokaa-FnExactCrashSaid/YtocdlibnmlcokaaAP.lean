/- Put. -/
import Derived.Test.YtocdlibnmlcokaaAC
import Derived.Test.YtocdlibnmlcokaaAD
namespace Go.Proofs.Ytocdlibnmlcokaa
open Go.RowKit Go.Proofs.YtocdlibnmlcokaaW.PrintWords Go.Proofs.YtocdlibnmlcokaaW.PrintLast
set_option linter.unusedVariables false
set_option linter.unusedSimpArgs false
def PutOk (bs : List (List Int)) (ws : List Wr) (block : Int) (b : List Int) : Prop := DkOk bs ws ∧ 0 ≤ block ∧ block < 128 ∧ b.length = 64 ∧ ws.length < 200
set_option maxRecDepth 100000 in
set_option maxHeartbeats 2000000 in
theorem implPut_no (A0 A1 A2 : Option Addr) (c0 c1 c2_ : Nat) (bs : List (List Int)) (ws : List Wr) (block : Int) (b : List Int) (w : World) (hx : rBS.d.C w A0 bs.length bs) (hy : rW.d.C w A1 ws.length ws) (hno : ¬ PutOk bs ws block b) :
    Calls Try.prog 54 #[.agg #[.slice A0 bs.length c0, .slice A1 ws.length c1], .int .i64 block, .slice A2 b.length c2_] w (GotDisk w [] []) := by
  have hb0 := below_alloc (below_alloc (Below.refl w.heap.size w) (.cells #[.slice A0 bs.length c0, .slice A1 ws.length c1] 43)) (.cells #[.slice none 0 0, .slice none 0 0] 43)
  have BK1 := Aside0.mk (blk_alloc (blk_new w (.cells #[.slice A0 bs.length c0, .slice A1 ws.length c1] 43)) (.cells #[.slice none 0 0, .slice none 0 0] 43))
  have BK2 := Aside0.mk (blk_new' (w := w.alloc (.cells #[.slice A0 bs.length c0, .slice A1 ws.length c1] 43)) (.cells #[.slice none 0 0, .slice none 0 0] 43) (n := w.heap.size + 1) (by simp))
  have HX := Aside0.mk (Kd.C_below hx hb0); have HY := Aside0.mk (Kd.C_below hy hb0); have HB0 := Aside0.mk hb0
  clear hx hy hb0
  have HNO := Aside0.mk hno; clear hno
  by_cases hd : DkOk bs ws
  · have HD := Aside0.mk hd; clear hd
    by_cases h1 : 0 ≤ block
    · by_cases h2 : block < 128
      · by_cases h3 : (b.length : Int) = 64
        · have b3 := eqT h3
          have h4 : (ws.length : Int) = 200 := by
            have := HNO.out; have hd := HD.out; unfold PutOk at this
            have hle := hd.2.1
            by_cases hlt : ws.length < 200
            · exact absurd ⟨hd, h1, h2, by omega, hlt⟩ this
            · omega
          have b4 := eqT h4
          have hge : 200 ≤ (ws.length : Int) := by omega
          have H4 := Aside0.mk h4; clear h4 h3
          go_enter Try.func54, Try.ntmps54
          go_wp2_with (first | (go_at_call 108; refine (implDiskOk_c _ _ _ _ bs ws true ⟨fun _ => HD.out, fun _ => rfl⟩ _ HX.out HY.out).mono ?_; rintro e w1 ⟨rfl, hb1⟩; have J2 := blk_below BK2.out hb1; have J1 := blk_below BK1.out hb1; have d1 := (blk_cell J1 1).trans rfl; have c2 := (blk_cell J2 0).trans rfl; have c3 := (blk_cell J2 1).trans rfl; have z2 := blk_frozen J2 0; have z3 := blk_frozen J2 1; obtain ⟨I2, q2⟩ := set2 J2 (.slice none 0 0) (.slice none 0 0); have II := Aside0.mk I2; have QQ := Aside0.mk q2; have HB1 := Aside0.mk (below_then HB0.out (by simp; omega) hb1); clear J1 J2 I2 q2 hb1))
          refine bodyPost_ret (results_cell_row rfl _ _ (w.heap.size + 1) 43 #[.slice none 0 0, .slice none 0 0] (0, 0) _ rfl II.out Try.underlying43 rfl (by kernel_rfl)) rfl ?_
          exact ⟨_, _, [], [], rfl, Rp.Row_nil _ _ _, Rp.Row_nil _ _ _, by simp, by simp, QQ.out.toBelow HB1.out HB1.out.size (fun x hx => by simp at hx; omega)⟩
        · have b3 := eqF h3
          clear h3
          go_enter Try.func54, Try.ntmps54
          go_wp2_with (first | (go_at_call 108; refine (implDiskOk_c _ _ _ _ bs ws true ⟨fun _ => HD.out, fun _ => rfl⟩ _ HX.out HY.out).mono ?_; rintro e w1 ⟨rfl, hb1⟩; have J2 := blk_below BK2.out hb1; have J1 := blk_below BK1.out hb1; have d1 := (blk_cell J1 1).trans rfl; have c2 := (blk_cell J2 0).trans rfl; have c3 := (blk_cell J2 1).trans rfl; have z2 := blk_frozen J2 0; have z3 := blk_frozen J2 1; obtain ⟨I2, q2⟩ := set2 J2 (.slice none 0 0) (.slice none 0 0); have II := Aside0.mk I2; have QQ := Aside0.mk q2; have HB1 := Aside0.mk (below_then HB0.out (by simp; omega) hb1); clear J1 J2 I2 q2 hb1))
          refine bodyPost_ret (results_cell_row rfl _ _ (w.heap.size + 1) 43 #[.slice none 0 0, .slice none 0 0] (0, 0) _ rfl II.out Try.underlying43 rfl (by kernel_rfl)) rfl ?_
          exact ⟨_, _, [], [], rfl, Rp.Row_nil _ _ _, Rp.Row_nil _ _ _, by simp, by simp, QQ.out.toBelow HB1.out HB1.out.size (fun x hx => by simp at hx; omega)⟩
      · skip
        go_enter Try.func54, Try.ntmps54
        go_wp2_with (first | (go_at_call 108; refine (implDiskOk_c _ _ _ _ bs ws true ⟨fun _ => HD.out, fun _ => rfl⟩ _ HX.out HY.out).mono ?_; rintro e w1 ⟨rfl, hb1⟩; have J2 := blk_below BK2.out hb1; have J1 := blk_below BK1.out hb1; have d1 := (blk_cell J1 1).trans rfl; have c2 := (blk_cell J2 0).trans rfl; have c3 := (blk_cell J2 1).trans rfl; have z2 := blk_frozen J2 0; have z3 := blk_frozen J2 1; obtain ⟨I2, q2⟩ := set2 J2 (.slice none 0 0) (.slice none 0 0); have II := Aside0.mk I2; have QQ := Aside0.mk q2; have HB1 := Aside0.mk (below_then HB0.out (by simp; omega) hb1); clear J1 J2 I2 q2 hb1))
        refine bodyPost_ret (results_cell_row rfl _ _ (w.heap.size + 1) 43 #[.slice none 0 0, .slice none 0 0] (0, 0) _ rfl II.out Try.underlying43 rfl (by kernel_rfl)) rfl ?_
        exact ⟨_, _, [], [], rfl, Rp.Row_nil _ _ _, Rp.Row_nil _ _ _, by simp, by simp, QQ.out.toBelow HB1.out HB1.out.size (fun x hx => by simp at hx; omega)⟩
    · skip
      go_enter Try.func54, Try.ntmps54
      go_wp2_with (first | (go_at_call 108; refine (implDiskOk_c _ _ _ _ bs ws true ⟨fun _ => HD.out, fun _ => rfl⟩ _ HX.out HY.out).mono ?_; rintro e w1 ⟨rfl, hb1⟩; have J2 := blk_below BK2.out hb1; have J1 := blk_below BK1.out hb1; have d1 := (blk_cell J1 1).trans rfl; have c2 := (blk_cell J2 0).trans rfl; have c3 := (blk_cell J2 1).trans rfl; have z2 := blk_frozen J2 0; have z3 := blk_frozen J2 1; obtain ⟨I2, q2⟩ := set2 J2 (.slice none 0 0) (.slice none 0 0); have II := Aside0.mk I2; have QQ := Aside0.mk q2; have HB1 := Aside0.mk (below_then HB0.out (by simp; omega) hb1); clear J1 J2 I2 q2 hb1))
      refine bodyPost_ret (results_cell_row rfl _ _ (w.heap.size + 1) 43 #[.slice none 0 0, .slice none 0 0] (0, 0) _ rfl II.out Try.underlying43 rfl (by kernel_rfl)) rfl ?_
      exact ⟨_, _, [], [], rfl, Rp.Row_nil _ _ _, Rp.Row_nil _ _ _, by simp, by simp, QQ.out.toBelow HB1.out HB1.out.size (fun x hx => by simp at hx; omega)⟩
  · have HD := Aside0.mk hd; clear hd
    go_enter Try.func54, Try.ntmps54
    go_wp2_with (first | (go_at_call 108; refine (implDiskOk_c _ _ _ _ bs ws false ⟨fun h => (by cases h), fun h => absurd h HD.out⟩ _ HX.out HY.out).mono ?_; rintro e w1 ⟨rfl, hb1⟩; have J2 := blk_below BK2.out hb1; have J1 := blk_below BK1.out hb1; have d1 := (blk_cell J1 1).trans rfl; have c2 := (blk_cell J2 0).trans rfl; have c3 := (blk_cell J2 1).trans rfl; have z2 := blk_frozen J2 0; have z3 := blk_frozen J2 1; obtain ⟨I2, q2⟩ := set2 J2 (.slice none 0 0) (.slice none 0 0); have II := Aside0.mk I2; have QQ := Aside0.mk q2; have HB1 := Aside0.mk (below_then HB0.out (by simp; omega) hb1); clear J1 J2 I2 q2 hb1))
    refine bodyPost_ret (results_cell_row rfl _ _ (w.heap.size + 1) 43 #[.slice none 0 0, .slice none 0 0] (0, 0) _ rfl II.out Try.underlying43 rfl (by kernel_rfl)) rfl ?_
    exact ⟨_, _, [], [], rfl, Rp.Row_nil _ _ _, Rp.Row_nil _ _ _, by simp, by simp, QQ.out.toBelow HB1.out HB1.out.size (fun x hx => by simp at hx; omega)⟩
set_option maxRecDepth 100000 in
set_option maxHeartbeats 2000000 in
theorem specPut_no (A0 A1 A2 : Option Addr) (c0 c1 c2_ : Nat) (bs : List (List Int)) (ws : List Wr) (block : Int) (b : List Int) (w : World) (hx : rBS.d.C w A0 bs.length bs) (hy : rW.d.C w A1 ws.length ws) (hno : ¬ PutOk bs ws block b) :
    Calls Try.prog 51 #[.agg #[.slice A0 bs.length c0, .slice A1 ws.length c1], .int .i64 block, .slice A2 b.length c2_] w (GotDisk w [] []) := by
  have hb0 := below_alloc (below_alloc (Below.refl w.heap.size w) (.cells #[.slice A0 bs.length c0, .slice A1 ws.length c1] 43)) (.cells #[.slice none 0 0, .slice none 0 0] 43)
  have BK1 := Aside0.mk (blk_alloc (blk_new w (.cells #[.slice A0 bs.length c0, .slice A1 ws.length c1] 43)) (.cells #[.slice none 0 0, .slice none 0 0] 43))
  have BK2 := Aside0.mk (blk_new' (w := w.alloc (.cells #[.slice A0 bs.length c0, .slice A1 ws.length c1] 43)) (.cells #[.slice none 0 0, .slice none 0 0] 43) (n := w.heap.size + 1) (by simp))
  have HX := Aside0.mk (Kd.C_below hx hb0); have HY := Aside0.mk (Kd.C_below hy hb0); have HB0 := Aside0.mk hb0
  clear hx hy hb0
  have HNO := Aside0.mk hno; clear hno
  by_cases hd : DkOk bs ws
  · have HD := Aside0.mk hd; clear hd
    by_cases h1 : 0 ≤ block
    · by_cases h2 : block < 128
      · have HR : Aside0 ((decide (0 ≤ block) && decide (block ≤ 127)) = true) := ⟨by simp; omega⟩
        by_cases h3 : (b.length : Int) = 64
        · have b3 := eqT h3
          have h4 : (ws.length : Int) = 200 := by
            have := HNO.out; have hd := HD.out; unfold PutOk at this
            have hle := hd.2.1
            by_cases hlt : ws.length < 200
            · exact absurd ⟨hd, h1, h2, by omega, hlt⟩ this
            · omega
          have b4 := eqT h4
          have hge : 200 ≤ (ws.length : Int) := by omega
          have H4 := Aside0.mk h4; clear h4 h3
          go_enter Try.func51, Try.ntmps51
          go_wp2_with (first | (go_at_call 99; refine (specDiskOk_c _ _ _ _ bs ws true ⟨fun _ => HD.out, fun _ => rfl⟩ _ HX.out HY.out).mono ?_; rintro e w1 ⟨rfl, hb1⟩; have J2 := blk_below BK2.out hb1; have J1 := blk_below BK1.out hb1; have d1 := (blk_cell J1 1).trans rfl; have c2 := (blk_cell J2 0).trans rfl; have c3 := (blk_cell J2 1).trans rfl; have z2 := blk_frozen J2 0; have z3 := blk_frozen J2 1; obtain ⟨I2, q2⟩ := set2 J2 (.slice none 0 0) (.slice none 0 0); have II := Aside0.mk I2; have QQ := Aside0.mk q2; have HB1 := Aside0.mk (below_then HB0.out (by simp; omega) hb1); clear J1 J2 I2 q2 hb1) | (go_at_call 120; refine (l1in_c _ 0 127 _).mono ?_; rintro e w1 ⟨rfl, rfl⟩; rw [HR.out]))
          refine bodyPost_ret (results_cell_row rfl _ _ (w.heap.size + 1) 43 #[.slice none 0 0, .slice none 0 0] (0, 0) _ rfl II.out Try.underlying43 rfl (by kernel_rfl)) rfl ?_
          exact ⟨_, _, [], [], rfl, Rp.Row_nil _ _ _, Rp.Row_nil _ _ _, by simp, by simp, QQ.out.toBelow HB1.out HB1.out.size (fun x hx => by simp at hx; omega)⟩
        · have b3 := eqF h3
          clear h3
          go_enter Try.func51, Try.ntmps51
          go_wp2_with (first | (go_at_call 99; refine (specDiskOk_c _ _ _ _ bs ws true ⟨fun _ => HD.out, fun _ => rfl⟩ _ HX.out HY.out).mono ?_; rintro e w1 ⟨rfl, hb1⟩; have J2 := blk_below BK2.out hb1; have J1 := blk_below BK1.out hb1; have d1 := (blk_cell J1 1).trans rfl; have c2 := (blk_cell J2 0).trans rfl; have c3 := (blk_cell J2 1).trans rfl; have z2 := blk_frozen J2 0; have z3 := blk_frozen J2 1; obtain ⟨I2, q2⟩ := set2 J2 (.slice none 0 0) (.slice none 0 0); have II := Aside0.mk I2; have QQ := Aside0.mk q2; have HB1 := Aside0.mk (below_then HB0.out (by simp; omega) hb1); clear J1 J2 I2 q2 hb1) | (go_at_call 120; refine (l1in_c _ 0 127 _).mono ?_; rintro e w1 ⟨rfl, rfl⟩; rw [HR.out]))
          refine bodyPost_ret (results_cell_row rfl _ _ (w.heap.size + 1) 43 #[.slice none 0 0, .slice none 0 0] (0, 0) _ rfl II.out Try.underlying43 rfl (by kernel_rfl)) rfl ?_
          exact ⟨_, _, [], [], rfl, Rp.Row_nil _ _ _, Rp.Row_nil _ _ _, by simp, by simp, QQ.out.toBelow HB1.out HB1.out.size (fun x hx => by simp at hx; omega)⟩
      · have HR : Aside0 ((decide (0 ≤ block) && decide (block ≤ 127)) = false) := ⟨by rw [Bool.and_eq_false_iff]; simp; omega⟩
        go_enter Try.func51, Try.ntmps51
        go_wp2_with (first | (go_at_call 99; refine (specDiskOk_c _ _ _ _ bs ws true ⟨fun _ => HD.out, fun _ => rfl⟩ _ HX.out HY.out).mono ?_; rintro e w1 ⟨rfl, hb1⟩; have J2 := blk_below BK2.out hb1; have J1 := blk_below BK1.out hb1; have d1 := (blk_cell J1 1).trans rfl; have c2 := (blk_cell J2 0).trans rfl; have c3 := (blk_cell J2 1).trans rfl; have z2 := blk_frozen J2 0; have z3 := blk_frozen J2 1; obtain ⟨I2, q2⟩ := set2 J2 (.slice none 0 0) (.slice none 0 0); have II := Aside0.mk I2; have QQ := Aside0.mk q2; have HB1 := Aside0.mk (below_then HB0.out (by simp; omega) hb1); clear J1 J2 I2 q2 hb1) | (go_at_call 120; refine (l1in_c _ 0 127 _).mono ?_; rintro e w1 ⟨rfl, rfl⟩; rw [HR.out]))
        refine bodyPost_ret (results_cell_row rfl _ _ (w.heap.size + 1) 43 #[.slice none 0 0, .slice none 0 0] (0, 0) _ rfl II.out Try.underlying43 rfl (by kernel_rfl)) rfl ?_
        exact ⟨_, _, [], [], rfl, Rp.Row_nil _ _ _, Rp.Row_nil _ _ _, by simp, by simp, QQ.out.toBelow HB1.out HB1.out.size (fun x hx => by simp at hx; omega)⟩
    · have HR : Aside0 ((decide (0 ≤ block) && decide (block ≤ 127)) = false) := ⟨by rw [Bool.and_eq_false_iff]; simp; omega⟩
      go_enter Try.func51, Try.ntmps51
      go_wp2_with (first | (go_at_call 99; refine (specDiskOk_c _ _ _ _ bs ws true ⟨fun _ => HD.out, fun _ => rfl⟩ _ HX.out HY.out).mono ?_; rintro e w1 ⟨rfl, hb1⟩; have J2 := blk_below BK2.out hb1; have J1 := blk_below BK1.out hb1; have d1 := (blk_cell J1 1).trans rfl; have c2 := (blk_cell J2 0).trans rfl; have c3 := (blk_cell J2 1).trans rfl; have z2 := blk_frozen J2 0; have z3 := blk_frozen J2 1; obtain ⟨I2, q2⟩ := set2 J2 (.slice none 0 0) (.slice none 0 0); have II := Aside0.mk I2; have QQ := Aside0.mk q2; have HB1 := Aside0.mk (below_then HB0.out (by simp; omega) hb1); clear J1 J2 I2 q2 hb1) | (go_at_call 120; refine (l1in_c _ 0 127 _).mono ?_; rintro e w1 ⟨rfl, rfl⟩; rw [HR.out]))
      refine bodyPost_ret (results_cell_row rfl _ _ (w.heap.size + 1) 43 #[.slice none 0 0, .slice none 0 0] (0, 0) _ rfl II.out Try.underlying43 rfl (by kernel_rfl)) rfl ?_
      exact ⟨_, _, [], [], rfl, Rp.Row_nil _ _ _, Rp.Row_nil _ _ _, by simp, by simp, QQ.out.toBelow HB1.out HB1.out.size (fun x hx => by simp at hx; omega)⟩
  · have HD := Aside0.mk hd; clear hd
    go_enter Try.func51, Try.ntmps51
    go_wp2_with (first | (go_at_call 99; refine (specDiskOk_c _ _ _ _ bs ws false ⟨fun h => (by cases h), fun h => absurd h HD.out⟩ _ HX.out HY.out).mono ?_; rintro e w1 ⟨rfl, hb1⟩; have J2 := blk_below BK2.out hb1; have J1 := blk_below BK1.out hb1; have d1 := (blk_cell J1 1).trans rfl; have c2 := (blk_cell J2 0).trans rfl; have c3 := (blk_cell J2 1).trans rfl; have z2 := blk_frozen J2 0; have z3 := blk_frozen J2 1; obtain ⟨I2, q2⟩ := set2 J2 (.slice none 0 0) (.slice none 0 0); have II := Aside0.mk I2; have QQ := Aside0.mk q2; have HB1 := Aside0.mk (below_then HB0.out (by simp; omega) hb1); clear J1 J2 I2 q2 hb1) | (go_at_call 120; refine (l1in_c _ 0 127 _).mono ?_; rintro e w1 ⟨rfl, rfl⟩; rw [HR.out]))
    refine bodyPost_ret (results_cell_row rfl _ _ (w.heap.size + 1) 43 #[.slice none 0 0, .slice none 0 0] (0, 0) _ rfl II.out Try.underlying43 rfl (by kernel_rfl)) rfl ?_
    exact ⟨_, _, [], [], rfl, Rp.Row_nil _ _ _, Rp.Row_nil _ _ _, by simp, by simp, QQ.out.toBelow HB1.out HB1.out.size (fun x hx => by simp at hx; omega)⟩
set_option maxRecDepth 100000 in
set_option maxHeartbeats 2000000 in
theorem implPut_yes (A0 A1 A2 : Option Addr) (c0 c1 c2_ : Nat) (bs : List (List Int)) (ws : List Wr) (block : Int) (b : List Int) (w : World) (hx : rBS.d.C w A0 bs.length bs) (hy : rW.d.C w A1 ws.length ws) (hz : kB.C w A2 b.length b) (hyes : PutOk bs ws block b) :
    Calls Try.prog 54 #[.agg #[.slice A0 bs.length c0, .slice A1 ws.length c1], .int .i64 block, .slice A2 b.length c2_] w (GotDisk w bs (ws ++ [⟨block, b⟩])) := by
  have hb0 := below_alloc (below_alloc (Below.refl w.heap.size w) (.cells #[.slice A0 bs.length c0, .slice A1 ws.length c1] 43)) (.cells #[.slice none 0 0, .slice none 0 0] 43)
  have BK1 := Aside0.mk (blk_alloc (blk_new w (.cells #[.slice A0 bs.length c0, .slice A1 ws.length c1] 43)) (.cells #[.slice none 0 0, .slice none 0 0] 43))
  have BK2 := Aside0.mk (blk_new' (w := w.alloc (.cells #[.slice A0 bs.length c0, .slice A1 ws.length c1] 43)) (.cells #[.slice none 0 0, .slice none 0 0] 43) (n := w.heap.size + 1) (by simp))
  have HX := Aside0.mk (Kd.C_below hx hb0); have HY := Aside0.mk (Kd.C_below hy hb0); have HZ := Aside0.mk (Kd.C_below hz hb0); have HB0 := Aside0.mk hb0
  clear hx hy hz hb0
  obtain ⟨hd, h1, h2, h3, h4⟩ := hyes
  have b3 := eqT (a := (b.length : Int)) (b := 64) (by omega)
  have h5 : ¬ (ws.length : Int) = 200 := by omega
  have b4 := eqF h5
  have hlt : ¬ 200 ≤ (ws.length : Int) := by omega
  have HR : Aside0 ((decide (0 ≤ block) && decide (block ≤ 127)) = true) := ⟨by simp; omega⟩
  have H3 := Aside0.mk h3
  have HD := Aside0.mk hd; clear hd h5 h3
  go_enter Try.func54, Try.ntmps54
  go_wp2_with fail
  refine (implDiskOk_c _ _ _ _ bs ws true ⟨fun _ => HD.out, fun _ => rfl⟩ _ HX.out HY.out).mono ?_
  rintro e w1 ⟨rfl, hb1⟩
  have J1 := blk_below BK1.out hb1; have J2 := blk_below BK2.out hb1
  have d0 := (blk_cell J1 0).trans rfl; have d1 := (blk_cell J1 1).trans rfl
  replace HX := Aside0.mk (Kd.C_below HX.out hb1); replace HY := Aside0.mk (Kd.C_below HY.out hb1); replace HZ := Aside0.mk (Kd.C_below HZ.out hb1)
  have HB1 := Aside0.mk (below_then HB0.out (by simp; omega) hb1); replace BK1 := Aside0.mk J1; replace BK2 := Aside0.mk J2
  clear J1 J2 hb1 HB0
  go_wp2_with fail
  refine (copyDisk_c _ _ bs _ _ ws _ HX.out HY.out (by have := HD.out.1; omega) (by have := HD.out.2.1; omega) (fun x hx => by have := HD.out.2.2.1 x hx; omega) (fun x hx => by have := HD.out.2.2.2 x hx; omega)).mono ?_
  rintro e w2 ⟨v0, v1, f0, f1, rfl, r0, r1, hnd, hge, hb2⟩
  obtain ⟨Ap, cp_, rfl, _, _⟩ := Rp.Row_reads r0
  obtain ⟨Aq, cq, rfl, _, _⟩ := Rp.Row_reads r1
  replace HZ := Aside0.mk (Kd.C_below HZ.out hb2)
  replace BK2 := Aside0.mk (blk_below BK2.out hb2)
  have HB2 := Aside0.mk (below_then HB1.out HB1.out.size hb2)
  have R0 := Aside0.mk r0; have R1 := Aside0.mk r1; have HN := Aside0.mk hnd
  have HG : Aside0 (∀ x ∈ f0 ++ f1, w.heap.size ≤ x) := ⟨fun x hx => by have := hge x hx; have := HB1.out.size; omega⟩
  clear r0 r1 hnd hge hb2 d0 d1 HB1 BK1 HX HY
  go_wp2_with fail
  generalize hw3 : w2.alloc _ = w3
  obtain ⟨k7, hb3, hs3⟩ := alloc1 hw3
  clear hw3
  have hne : w.heap.size + 1 < w2.heap.size := blk_lt BK2.out
  have BK7 := Aside0.mk (blk_drew k7)
  replace BK2 := Aside0.mk (blk_drew (blk_below BK2.out hb3))
  replace HZ := Aside0.mk (Kd.C_drew (Kd.C_below HZ.out hb3))
  replace R0 := Aside0.mk (Rp.Row_drew (Rp.Row_below R0.out hb3)); replace R1 := Aside0.mk (Rp.Row_drew (Rp.Row_below R1.out hb3))
  have hsz := HB2.out.size
  have HB3 := Aside0.mk (below_drew (below_then HB2.out HB2.out.size hb3))
  clear k7 hb3 hs3 HB2 b3 b4 hlt
  refine sta (fun w' => w'.cell? ⟨w2.heap.size, 1, none⟩ = some (.slice Aq ws.length cq)) [9] 10 ((blk_cell BK7.out 1).trans rfl) (fun hS => ?_)
  generalize w3.drew = wd at BK7 BK2 HZ R0 R1 HB3 hS ⊢
  generalize w2.heap.size = g7 at BK7 hS hne hsz ⊢
  refine pu 0 1 ?_
  refine pu 2 5 ?_
  refine pu 3 13 ?_
  refine tk 1 15 hS ?_
  refine on 4 31 (fun K hK => ?_)
  refine ca (cp_c _ _ b _ HZ.out (by have := H3.out; omega)) Try.func114 ?_
  rintro e wa ⟨va_, rfl, ⟨fa, hra, hna, hfa⟩, hba⟩
  obtain ⟨Aa, ca_, rfl, _, _⟩ := Rp.Row_reads hra
  refine ⟨_, rfl, nx hK (pw_cell_below hba hS) (fun hS => ?_)⟩
  clear hK K
  refine pu 5 63 ?_
  refine on 6 127 (fun K hK => ?_)
  refine va ?_
  refine nx hK (pw_cell_below (below_alloc (Below.refl _ _) _) hS) (fun hS => ?_)
  clear hK K
  have HOa := Rp.Row_below R1.out hba
  have BKa := blk_below BK7.out hba
  have hndd := List.nodup_append.1 HN.out
  refine on 7 255 (fun K hK => ?_)
  refine Rp.app_one_step rW (by rfl) (.tmp 34) (.tmp 39) 41 147 (.agg #[(.int .i64 0), (.slice none 0 0)]) 32 (by rfl) Try.underlying41 info147 rfl (by decide) (by omega) (.slice Aq ws.length cq) ws (⟨block, b⟩ : Wr) [.int .i64 block, .slice Aa b.length ca_] (by rfl) (by rfl) HOa (W_mk ⟨block, b⟩ hra) (Rp.nodup_new hndd.2.1 hna (Rp.Row_lt R1.out) hfa) (by have := HD.out.2.1; omega) ?_
  intro vn w4 fp1 hr1 hn1 hf1 hg1
  generalize hL : ws ++ [(⟨block, b⟩ : Wr)] = L at hr1
  have HL := Aside0.mk hL; clear hL
  obtain ⟨Av, cv, rfl, _, _⟩ := Rp.Row_reads hr1
  obtain ⟨hr3, hk3, kp3⟩ := box_app HOa BKa (by decide) hg1 hr1 1
  have BKw := blk_grown BKa hg1 (Rp.Row_ne HOa (Rp.Row_not HOa BKa (by decide)))
  refine nx hK ((blk_cell BKw 1).trans rfl) (fun hS => ?_)
  clear hK K
  refine pu 8 511 ?_
  refine la 9 1023 (fun K hK => ?_)
  have z := blk_frozen BKw 1
  refine st ?_
  refine nl hK (dn ?_)
  clear hK K z hS
  generalize w4.setCell _ _ = wf at hr3 hk3 kp3 ⊢
  have kp : Kp wd wf (f1 ++ [g7]) := ((Kp.below hba).mono (by simp)).trans kp3 (fun b hb _ => hb)
  have n0 := Rp.Row_not R0.out BK7.out (by decide)
  have m1 := Rp.Row_not R1.out BK2.out (by decide)
  have J2 := kp.blk BK2.out (by simp; exact ⟨m1, by omega⟩)
  have S0 := kp.row R0.out (fun x hx hm => by
    rcases List.mem_append.1 hm with h | h
    · exact hndd.2.2 x hx x h rfl
    · simp at h; exact n0 (h ▸ hx))
  have HB4 := kp.toBelow HB3.out HB3.out.size (fun x hx => by rcases List.mem_append.1 hx with h | h; exact HG.out x (List.mem_append_right _ h); simp at h; omega)
  have hn4 : (f0 ++ fp1).Nodup := List.nodup_append.2 ⟨hndd.1, hn1, fun a ha x hx he => by
    subst he
    have h5 := Rp.Row_lt R0.out a ha
    rcases hf1 a hx with h | h | h
    · exact hndd.2.2 a ha a h rfl
    · have := hfa a h; omega
    · have := hba.size; omega⟩
  have hg4 : ∀ x ∈ f0 ++ fp1, w.heap.size ≤ x := fun x hx => by
    rcases List.mem_append.1 hx with h | h
    · exact HG.out x (List.mem_append_left _ h)
    rcases hf1 x h with h | h | h
    · exact HG.out x (List.mem_append_right _ h)
    · have := hfa x h; have := HB3.out.size; omega
    · have := hba.size; have := HB3.out.size; omega
  have c7 := (blk_cell hk3 0).trans rfl; have c8 := (blk_cell hk3 1).trans rfl
  have c2 := (blk_cell J2 0).trans rfl; have c3 := (blk_cell J2 1).trans rfl; have z2 := blk_frozen J2 0; have z3 := blk_frozen J2 1
  obtain ⟨I2, q2⟩ := set2 J2 (.slice Ap bs.length cp_) (.slice Av L.length cv)
  have u0 := Rp.Row_not S0 J2 (by decide); have u1 := Rp.Row_not hr3 J2 (by decide)
  have T0 := Aside0.mk (q2.row S0 (fun x hx hm => u0 (by simp at hm; exact hm ▸ hx))); have T1 := Aside0.mk (q2.row hr3 (fun x hx hm => u1 (by simp at hm; exact hm ▸ hx)))
  have HB5 := Aside0.mk (q2.toBelow HB4 HB4.size (fun x hx => by simp at hx; omega))
  have II := Aside0.mk I2; have HN4 := Aside0.mk hn4; have HG4 := Aside0.mk hg4
  clear hn4 hg4 I2 q2 u0 u1 J2 S0 HB4 n0 m1 kp kp3 hk3 hr3 hr1 hn1 hf1 hg1 HOa BKa BKw hba hfa hna hra hndd
  go_wp2
  refine bodyPost_ret (results_cell_row rfl _ _ (w.heap.size + 1) 43 #[.slice Ap bs.length cp_, .slice Av L.length cv] (0, 0) _ rfl II.out Try.underlying43 rfl (by kernel_rfl)) rfl ?_
  rw [HL.out]
  exact ⟨_, _, f0, fp1, rfl, T0.out, T1.out, HN4.out, HG4.out, HB5.out⟩
set_option maxRecDepth 100000 in
set_option maxHeartbeats 2000000 in
theorem specPut_yes (A0 A1 A2 : Option Addr) (c0 c1 c2_ : Nat) (bs : List (List Int)) (ws : List Wr) (block : Int) (b : List Int) (w : World) (hx : rBS.d.C w A0 bs.length bs) (hy : rW.d.C w A1 ws.length ws) (hz : kB.C w A2 b.length b) (hyes : PutOk bs ws block b) :
    Calls Try.prog 51 #[.agg #[.slice A0 bs.length c0, .slice A1 ws.length c1], .int .i64 block, .slice A2 b.length c2_] w (GotDisk w bs (ws ++ [⟨block, b⟩])) := by
  have hb0 := below_alloc (below_alloc (Below.refl w.heap.size w) (.cells #[.slice A0 bs.length c0, .slice A1 ws.length c1] 43)) (.cells #[.slice none 0 0, .slice none 0 0] 43)
  have BK1 := Aside0.mk (blk_alloc (blk_new w (.cells #[.slice A0 bs.length c0, .slice A1 ws.length c1] 43)) (.cells #[.slice none 0 0, .slice none 0 0] 43))
  have BK2 := Aside0.mk (blk_new' (w := w.alloc (.cells #[.slice A0 bs.length c0, .slice A1 ws.length c1] 43)) (.cells #[.slice none 0 0, .slice none 0 0] 43) (n := w.heap.size + 1) (by simp))
  have HX := Aside0.mk (Kd.C_below hx hb0); have HY := Aside0.mk (Kd.C_below hy hb0); have HZ := Aside0.mk (Kd.C_below hz hb0); have HB0 := Aside0.mk hb0
  clear hx hy hz hb0
  obtain ⟨hd, h1, h2, h3, h4⟩ := hyes
  have b3 := eqT (a := (b.length : Int)) (b := 64) (by omega)
  have h5 : ¬ (ws.length : Int) = 200 := by omega
  have b4 := eqF h5
  have hlt : ¬ 200 ≤ (ws.length : Int) := by omega
  have HR : Aside0 ((decide (0 ≤ block) && decide (block ≤ 127)) = true) := ⟨by simp; omega⟩
  have H3 := Aside0.mk h3
  have HD := Aside0.mk hd; clear hd h5 h3
  go_enter Try.func51, Try.ntmps51
  go_wp2_with fail
  refine (specDiskOk_c _ _ _ _ bs ws true ⟨fun _ => HD.out, fun _ => rfl⟩ _ HX.out HY.out).mono ?_
  rintro e w1 ⟨rfl, hb1⟩
  have J1 := blk_below BK1.out hb1; have J2 := blk_below BK2.out hb1
  have d0 := (blk_cell J1 0).trans rfl; have d1 := (blk_cell J1 1).trans rfl
  replace HX := Aside0.mk (Kd.C_below HX.out hb1); replace HY := Aside0.mk (Kd.C_below HY.out hb1); replace HZ := Aside0.mk (Kd.C_below HZ.out hb1)
  have HB1 := Aside0.mk (below_then HB0.out (by simp; omega) hb1); replace BK1 := Aside0.mk J1; replace BK2 := Aside0.mk J2
  clear J1 J2 hb1 HB0
  go_wp2_with fail
  refine (l1in_c _ 0 127 _).mono ?_
  rintro e wq ⟨rfl, rfl⟩
  rw [HR.out]
  go_wp2_with fail
  refine (l2copy_c _ _ bs _ _ ws _ HX.out HY.out (by have := HD.out.1; omega) (by have := HD.out.2.1; omega) (fun x hx => by have := HD.out.2.2.1 x hx; omega) (fun x hx => by have := HD.out.2.2.2 x hx; omega)).mono ?_
  rintro e w2 ⟨v0, v1, f0, f1, rfl, r0, r1, hnd, hge, hb2⟩
  obtain ⟨Ap, cp_, rfl, _, _⟩ := Rp.Row_reads r0
  obtain ⟨Aq, cq, rfl, _, _⟩ := Rp.Row_reads r1
  replace HZ := Aside0.mk (Kd.C_below HZ.out hb2)
  replace BK2 := Aside0.mk (blk_below BK2.out hb2)
  have HB2 := Aside0.mk (below_then HB1.out HB1.out.size hb2)
  have R0 := Aside0.mk r0; have R1 := Aside0.mk r1; have HN := Aside0.mk hnd
  have HG : Aside0 (∀ x ∈ f0 ++ f1, w.heap.size ≤ x) := ⟨fun x hx => by have := hge x hx; have := HB1.out.size; omega⟩
  clear r0 r1 hnd hge hb2 d0 d1 HB1 BK1 HX HY
  go_wp2_with fail
  generalize hw3 : w2.alloc _ = w3
  obtain ⟨k7, hb3, hs3⟩ := alloc1 hw3
  clear hw3
  have hne : w.heap.size + 1 < w2.heap.size := blk_lt BK2.out
  have BK7 := Aside0.mk (blk_drew k7)
  replace BK2 := Aside0.mk (blk_drew (blk_below BK2.out hb3))
  replace HZ := Aside0.mk (Kd.C_drew (Kd.C_below HZ.out hb3))
  replace R0 := Aside0.mk (Rp.Row_drew (Rp.Row_below R0.out hb3)); replace R1 := Aside0.mk (Rp.Row_drew (Rp.Row_below R1.out hb3))
  have hsz := HB2.out.size
  have HB3 := Aside0.mk (below_drew (below_then HB2.out HB2.out.size hb3))
  clear k7 hb3 hs3 HB2 b3 b4 hlt
  refine sta (fun w' => w'.cell? ⟨w2.heap.size, 1, none⟩ = some (.slice Aq ws.length cq)) [10] 11 ((blk_cell BK7.out 1).trans rfl) (fun hS => ?_)
  generalize w3.drew = wd at BK7 BK2 HZ R0 R1 HB3 hS ⊢
  generalize w2.heap.size = g7 at BK7 hS hne hsz ⊢
  refine pu 0 1 ?_
  refine pu 2 5 ?_
  refine pu 4 21 ?_
  refine tk 1 23 hS ?_
  refine on 3 31 (fun K hK => ?_)
  refine va ?_
  refine nx hK (pw_cell_below (below_alloc (Below.refl _ _) _) hS) (fun hS2 => ?_)
  clear hK K hS2
  refine on 5 63 (fun K hK => ?_)
  refine Rp.app_row_step (by rfl) (.tmp 33) (.tmp 34) 22 5 (.int .u8 0) 1 (by rfl) Try.underlying22 info5 rfl (by decide) (.slice (some ⟨wd.heap.size, 0, none⟩) 0 0) [] b A2 b.length c2_ (by rfl) (by rfl) (empty_row wd) (Kd.C_alloc HZ.out _) (by have := H3.out; simp; omega) ?_
  intro va_ wa fa hra hna hfa0 hga0
  obtain ⟨hba, hfa⟩ := empty_after hga0 hfa0
  rw [List.nil_append] at hra
  clear hga0 hfa0
  obtain ⟨Aa, ca_, rfl, _, _⟩ := Rp.Row_reads hra
  refine nx hK (pw_cell_below hba hS) (fun hS => ?_)
  clear hK K
  refine pu 6 127 ?_
  refine on 7 255 (fun K hK => ?_)
  refine va ?_
  refine nx hK (pw_cell_below (below_alloc (Below.refl _ _) _) hS) (fun hS => ?_)
  clear hK K
  have HOa := Rp.Row_below R1.out hba
  have BKa := blk_below BK7.out hba
  have hndd := List.nodup_append.1 HN.out
  refine on 8 511 (fun K hK => ?_)
  refine Rp.app_one_step rW (by rfl) (.tmp 31) (.tmp 37) 41 147 (.agg #[(.int .i64 0), (.slice none 0 0)]) 32 (by rfl) Try.underlying41 info147 rfl (by decide) (by omega) (.slice Aq ws.length cq) ws (⟨block, b⟩ : Wr) [.int .i64 block, .slice Aa b.length ca_] (by rfl) (by rfl) HOa (W_mk ⟨block, b⟩ hra) (Rp.nodup_new hndd.2.1 hna (Rp.Row_lt R1.out) hfa) (by have := HD.out.2.1; omega) ?_
  intro vn w4 fp1 hr1 hn1 hf1 hg1
  generalize hL : ws ++ [(⟨block, b⟩ : Wr)] = L at hr1
  have HL := Aside0.mk hL; clear hL
  obtain ⟨Av, cv, rfl, _, _⟩ := Rp.Row_reads hr1
  obtain ⟨hr3, hk3, kp3⟩ := box_app HOa BKa (by decide) hg1 hr1 1
  have BKw := blk_grown BKa hg1 (Rp.Row_ne HOa (Rp.Row_not HOa BKa (by decide)))
  refine nx hK ((blk_cell BKw 1).trans rfl) (fun hS => ?_)
  clear hK K
  refine pu 9 1023 ?_
  refine la 10 2047 (fun K hK => ?_)
  have z := blk_frozen BKw 1
  refine st ?_
  refine nl hK (dn ?_)
  clear hK K z hS
  generalize w4.setCell _ _ = wf at hr3 hk3 kp3 ⊢
  have kp : Kp wd wf (f1 ++ [g7]) := ((Kp.below hba).mono (by simp)).trans kp3 (fun b hb _ => hb)
  have n0 := Rp.Row_not R0.out BK7.out (by decide)
  have m1 := Rp.Row_not R1.out BK2.out (by decide)
  have J2 := kp.blk BK2.out (by simp; exact ⟨m1, by omega⟩)
  have S0 := kp.row R0.out (fun x hx hm => by
    rcases List.mem_append.1 hm with h | h
    · exact hndd.2.2 x hx x h rfl
    · simp at h; exact n0 (h ▸ hx))
  have HB4 := kp.toBelow HB3.out HB3.out.size (fun x hx => by rcases List.mem_append.1 hx with h | h; exact HG.out x (List.mem_append_right _ h); simp at h; omega)
  have hn4 : (f0 ++ fp1).Nodup := List.nodup_append.2 ⟨hndd.1, hn1, fun a ha x hx he => by
    subst he
    have h5 := Rp.Row_lt R0.out a ha
    rcases hf1 a hx with h | h | h
    · exact hndd.2.2 a ha a h rfl
    · have := hfa a h; omega
    · have := hba.size; omega⟩
  have hg4 : ∀ x ∈ f0 ++ fp1, w.heap.size ≤ x := fun x hx => by
    rcases List.mem_append.1 hx with h | h
    · exact HG.out x (List.mem_append_left _ h)
    rcases hf1 x h with h | h | h
    · exact HG.out x (List.mem_append_right _ h)
    · have := hfa x h; have := HB3.out.size; omega
    · have := hba.size; have := HB3.out.size; omega
  have c7 := (blk_cell hk3 0).trans rfl; have c8 := (blk_cell hk3 1).trans rfl
  have c2 := (blk_cell J2 0).trans rfl; have c3 := (blk_cell J2 1).trans rfl; have z2 := blk_frozen J2 0; have z3 := blk_frozen J2 1
  obtain ⟨I2, q2⟩ := set2 J2 (.slice Ap bs.length cp_) (.slice Av L.length cv)
  have u0 := Rp.Row_not S0 J2 (by decide); have u1 := Rp.Row_not hr3 J2 (by decide)
  have T0 := Aside0.mk (q2.row S0 (fun x hx hm => u0 (by simp at hm; exact hm ▸ hx))); have T1 := Aside0.mk (q2.row hr3 (fun x hx hm => u1 (by simp at hm; exact hm ▸ hx)))
  have HB5 := Aside0.mk (q2.toBelow HB4 HB4.size (fun x hx => by simp at hx; omega))
  have II := Aside0.mk I2; have HN4 := Aside0.mk hn4; have HG4 := Aside0.mk hg4
  clear hn4 hg4 I2 q2 u0 u1 J2 S0 HB4 n0 m1 kp kp3 hk3 hr3 hr1 hn1 hf1 hg1 HOa BKa BKw hba hfa hna hra hndd
  go_wp2
  refine bodyPost_ret (results_cell_row rfl _ _ (w.heap.size + 1) 43 #[.slice Ap bs.length cp_, .slice Av L.length cv] (0, 0) _ rfl II.out Try.underlying43 rfl (by kernel_rfl)) rfl ?_
  rw [HL.out]
  exact ⟨_, _, f0, fp1, rfl, T0.out, T1.out, HN4.out, HG4.out, HB5.out⟩
end Go.Proofs.Ytocdlibnmlcokaa
