/- What the functions that FnExactNoteOk reaches tell, and its pure statement. No condition. -/
import Derived.Test.YtkhakdggfknlpaaPFnExactNoteOkx0
import Derived.Test.YtkhakdggfknlpaaPFnExactNoteOkx1
import Derived.Test.YtkhakdggfknlpaaMath
namespace Go.Proofs.Ytkhakdggfknlpaa.PFnExactNoteOk
open Go.RowKit Go.Proofs.YtkhakdggfknlpaaW.PrintWords Go.Proofs.YtkhakdggfknlpaaW.PrintLast Go.Proofs.Ytkhakdggfknlpaa.Math
set_option linter.unusedVariables false
set_option linter.unusedSimpArgs false

/-! ### laws.szNote -/
theorem laws_szNote.is (t k w n : Int) (s : ByteArray) (a : Int) (h0 : -1 ≤ a) (h1 : a ≤ 1048576) (hs : s.size ≤ maxLen) : laws_szNote.f t k w n s a = some (szT a s.size) := by
  unfold maxLen at hs
  unfold laws_szNote.f szT
  rw [w64 (by omega) (by omega)]
  split <;> rfl

/-! ### spec.l1in -/
theorem spec_l1in.is (a lo hi : Int) : spec_l1in.f a lo hi = some (decide (lo ≤ a ∧ a ≤ hi)) := by
  unfold spec_l1in.f
  by_cases h : a ≥ lo
  · rw [if_pos h]; simp [h]
  · rw [if_neg h]; simp only [ge_iff_le, Int.not_le] at h; simp [show ¬ lo ≤ a by omega]

/-! ### spec.NoteOk -/
theorem spec_NoteOk.is (t k w n : Int) (s : ByteArray) : spec_NoteOk.f t k w n s = some (noteOk t k w s) := by
  unfold spec_NoteOk.f noteOk
  simp only [spec_l1in.is, Option.bind_some, decide_eq_true_eq]
  by_cases h1 : 0 ≤ t ∧ t ≤ 1000000000
  · rw [if_pos h1]
    by_cases h2 : 0 ≤ k ∧ k ≤ 100
    · rw [if_pos h2]
      by_cases h3 : 0 ≤ w ∧ w ≤ 1000
      · rw [if_pos h3]; congr 1; apply decide_eq_decide.2; omega
      · rw [if_neg h3]; congr 1; symm; apply decide_eq_false; omega
    · rw [if_neg h2]; congr 1; symm; apply decide_eq_false; omega
  · rw [if_neg h1]; congr 1; symm; apply decide_eq_false; omega

/-! ### impl.NoteOk -/
theorem impl_NoteOk.is (t k w n : Int) (s : ByteArray) : impl_NoteOk.f t k w n s = some (noteOk t k w s) := by
  unfold impl_NoteOk.f noteOk
  repeat' split
  all_goals (congr 1; first | (symm; apply decide_eq_false; omega) | (apply decide_eq_decide.2; omega))

/-! ### laws.toNote -/
theorem laws_toNote.is (t k w n : Int) (s : ByteArray) : laws_toNote.f t k w n s = some (t, k, w, n, s) := rfl

/-! ### laws.FnExactNoteOk -/
theorem pure : laws_FnExactNoteOk.Pure := by
  intro t k w n s ⟨_, _, _, _, hs⟩
  unfold laws_FnExactNoteOk.f
  simp only [laws_szNote.is _ _ _ _ _ _ (show (-1 : Int) ≤ 1048576 by omega) (show (1048576 : Int) ≤ 1048576 by omega) hs, Option.bind_some, laws_toNote.is, spec_NoteOk.is, impl_NoteOk.is]
  split
  · rfl
  · simp

end Go.Proofs.Ytkhakdggfknlpaa.PFnExactNoteOk
