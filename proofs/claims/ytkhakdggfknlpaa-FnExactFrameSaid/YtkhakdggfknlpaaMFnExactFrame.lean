/- What the functions that FnExactFrame reaches tell, and its pure statement. No condition. -/
import Derived.Test.YtkhakdggfknlpaaPFnExactFramex0
import Derived.Test.YtkhakdggfknlpaaPFnExactFramex1
import Derived.Test.YtkhakdggfknlpaaPFnExactFramex2
import Derived.Test.YtkhakdggfknlpaaMath
namespace Go.Proofs.Ytkhakdggfknlpaa.PFnExactFrame
open Go.RowKit Go.Proofs.YtkhakdggfknlpaaW.PrintWords Go.Proofs.YtkhakdggfknlpaaW.PrintLast Go.Proofs.Ytkhakdggfknlpaa.Math
set_option linter.unusedVariables false
set_option linter.unusedSimpArgs false

/-! ### laws.szNote -/
theorem laws_szNote.is (t k w n : Int) (s : ByteArray) (a : Int) (h0 : -1 ≤ a) (h1 : a ≤ 1048576) (hs : s.size ≤ maxLen) : laws_szNote.f t k w n s a = some (szT a s.size) := by
  unfold maxLen at hs
  unfold laws_szNote.f szT
  rw [w64 (by omega) (by omega)]
  split <;> rfl

/-! ### spec.l1in -/
theorem spec_l1in.is (a lo hi : Int) : spec_l1in.f a lo hi = some (decide (lo ≤ a ∧ a ≤ hi)) := by
  unfold spec_l1in.f
  by_cases h : a ≥ lo
  · rw [if_pos h]; simp [h]
  · rw [if_neg h]; simp only [ge_iff_le, Int.not_le] at h; simp [show ¬ lo ≤ a by omega]

/-! ### spec.NoteOk -/
theorem spec_NoteOk.is (t k w n : Int) (s : ByteArray) : spec_NoteOk.f t k w n s = some (noteOk t k w s) := by
  unfold spec_NoteOk.f noteOk
  simp only [spec_l1in.is, Option.bind_some, decide_eq_true_eq]
  by_cases h1 : 0 ≤ t ∧ t ≤ 1000000000
  · rw [if_pos h1]
    by_cases h2 : 0 ≤ k ∧ k ≤ 100
    · rw [if_pos h2]
      by_cases h3 : 0 ≤ w ∧ w ≤ 1000
      · rw [if_pos h3]; congr 1; apply decide_eq_decide.2; omega
      · rw [if_neg h3]; congr 1; symm; apply decide_eq_false; omega
    · rw [if_neg h2]; congr 1; symm; apply decide_eq_false; omega
  · rw [if_neg h1]; congr 1; symm; apply decide_eq_false; omega

/-! ### impl.NoteOk -/
theorem impl_NoteOk.is (t k w n : Int) (s : ByteArray) : impl_NoteOk.f t k w n s = some (noteOk t k w s) := by
  unfold impl_NoteOk.f noteOk
  repeat' split
  all_goals (congr 1; first | (symm; apply decide_eq_false; omega) | (apply decide_eq_decide.2; omega))

/-! ### laws.toNote -/
theorem laws_toNote.is (t k w n : Int) (s : ByteArray) : laws_toNote.f t k w n s = some (t, k, w, n, s) := rfl

/-! ### laws.eqByteS -/
theorem laws_eqByteS.ev0 (a b : List Int) (hl : a.length = b.length) (hb : a.length ≤ 140737488355328) : ∀ d i : Nat, i + d = a.length → Ev (fun k => laws_eqByteS.l0 k a b (i : Int)) (decide (a.drop i = b.drop i)) := by
  intro d
  induction d with
  | zero =>
    intro i hi
    refine Ev.succ ?_
    simp only [laws_eqByteS.l0, if_neg (show ¬ ((i : Int) < (a.length : Int)) by omega)]
    rw [drop_nil a i (by omega), drop_nil b i (by omega)]
    exact Ev.now _
  | succ d ih =>
    intro i hi
    refine Ev.succ ?_
    have hr := ih (i + 1) (by omega)
    simp only [laws_eqByteS.l0, if_pos (show ((i : Int) < (a.length : Int)) by omega), if_pos (show (0 : Int) ≤ (i : Int) by omega), if_pos (show ((i : Int) < (b.length : Int)) by omega), rd_nat, w64s (show i < 9223372036854775807 by omega)]
    rw [drop_ext a b i 0 (by omega) (by omega)]
    by_cases h : a.getD i 0 = b.getD i 0
    · simp only [if_pos h]
      rw [decide_eq_true h, Bool.true_and]
      exact hr
    · simp only [if_neg h]
      rw [decide_eq_false h, Bool.false_and]
      exact Ev.now _
theorem laws_eqByteS.ev (a b : List Int) (hb : a.length ≤ 140737488355328) : Ev (fun k => laws_eqByteS.f k a b) (decide (a = b)) := by
  unfold laws_eqByteS.f
  by_cases h : a.length = b.length
  · refine Ev.pos (by omega) ?_
    have := laws_eqByteS.ev0 a b h hb a.length 0 (by omega)
    simpa using this
  · refine Ev.neg (by omega) ?_
    rw [decide_eq_false (fun e => h (by rw [e]))]
    exact Ev.now _

/-! ### laws.markByteS -/
theorem laws_markByteS.ev0 : ∀ (d : Nat) (b a : List Int) (x : Int) (i : Nat), b.length = d → a.length = i → i + d ≤ 140737488355328 → 0 ≤ x → x + d ≤ 1000000000000000 → Ev (fun k => laws_markByteS.l0 k (a ++ b) x (i : Int)) (x + d, a ++ marksB x d) := by
  intro d
  induction d with
  | zero =>
    intro b a x i hb ha hi hx hd
    refine Ev.succ ?_
    obtain rfl := List.eq_nil_of_length_eq_zero hb
    simp only [laws_markByteS.l0, List.append_nil, if_neg (show ¬ ((i : Int) < (a.length : Int)) by omega)]
    exact Ev.some (by simp [marksB])
  | succ d ih =>
    intro b a x i hb ha hi hx hd
    refine Ev.succ ?_
    obtain ⟨y, b, rfl⟩ : ∃ y b', b = y :: b' := by
      cases b with
      | nil => simp at hb
      | cons y b => exact ⟨y, b, rfl⟩
    have hl : b.length = d := by simpa using hb
    have hr := ih b (a ++ [x % 256]) (x + 1) (i + 1) hl (by simp [ha]) (by omega) (by omega) (by omega)
    simp only [laws_markByteS.l0, if_pos (show ((i : Int) < ((a ++ y :: b).length : Int)) by simp; omega), if_pos (show (0 : Int) ≤ (i : Int) by omega), w64s (show i < 9223372036854775807 by omega), Int.toNat_natCast, set_at a b y (x % 256) i ha, w64 (show (-9223372036854775808 : Int) ≤ x + 1 by omega) (show x + 1 ≤ 9223372036854775807 by omega)]
    have e : (x + ((d + 1 : Nat) : Int), a ++ marksB x (d + 1)) = (x + 1 + (d : Int), a ++ [x % 256] ++ marksB (x + 1) d) := by
      simp [marksB]; omega
    rw [e]
    exact hr
theorem laws_markByteS.ev (l : List Int) (x : Int) (hl : l.length ≤ 140737488355328) (hx : 0 ≤ x) (hd : x + l.length ≤ 1000000000000000) : Ev (fun k => laws_markByteS.f k l x) (x + l.length, marksB x l.length) := by
  unfold laws_markByteS.f
  have := laws_markByteS.ev0 l.length l [] x 0 rfl rfl (by omega) hx hd
  simpa using this

/-! ### laws.heldByteS -/
theorem laws_heldByteS.ev0 : ∀ (d : Nat) (a : List Int) (x : Int) (i : Nat), a.length = i → i + d ≤ 140737488355328 → 0 ≤ x → x + d ≤ 1000000000000000 → Ev (fun k => laws_heldByteS.l0 k (a ++ marksB x d) x (i : Int)) (x + d) := by
  intro d
  induction d with
  | zero =>
    intro a x i ha hi hx hd
    refine Ev.succ ?_
    simp only [laws_heldByteS.l0, marksB, List.append_nil, if_neg (show ¬ ((i : Int) < (a.length : Int)) by omega)]
    exact Ev.some (by simp)
  | succ d ih =>
    intro a x i ha hi hx hd
    refine Ev.succ ?_
    have hr := ih (a ++ [x % 256]) (x + 1) (i + 1) (by simp [ha]) (by omega) (by omega) (by omega)
    have hg : (a ++ marksB x (d + 1)).getD i 0 = x % 256 := by
      subst ha
      simp [marksB, List.getD]
    simp only [laws_heldByteS.l0, if_pos (show ((i : Int) < ((a ++ marksB x (d + 1)).length : Int)) by rw [List.length_append, marksB_length]; omega), if_pos (show (0 : Int) ≤ (i : Int) by omega), rd_nat, hg, if_true, w64s (show i < 9223372036854775807 by omega), w64 (show (-9223372036854775808 : Int) ≤ x + 1 by omega) (show x + 1 ≤ 9223372036854775807 by omega)]
    have e : a ++ marksB x (d + 1) = a ++ [x % 256] ++ marksB (x + 1) d := by simp [marksB]
    rw [e, show x + ((d + 1 : Nat) : Int) = x + 1 + (d : Int) by omega]
    exact hr
theorem laws_heldByteS.ev (n : Nat) (x : Int) (hl : n ≤ 140737488355328) (hx : 0 ≤ x) (hd : x + n ≤ 1000000000000000) : Ev (fun k => laws_heldByteS.f k (marksB x n) x) (x + n) := by
  unfold laws_heldByteS.f
  have := laws_heldByteS.ev0 n [] x 0 rfl (by omega) hx hd
  simpa using this

/-! ### spec.l1put -/
theorem spec_l1put.ev0 : ∀ (d : Nat) (l : List Int) (v a2 : Int) (i : Nat), (i : Int) + d = a2 → l.length + d < 140737488355328 → a2 ≤ 1000000 → Ev (fun k => spec_l1put.l0 k l v a2 (i : Int)) (l ++ lowB v d) := by
  intro d
  induction d with
  | zero =>
    intro l v a2 i hi hl ha
    refine Ev.succ ?_
    simp only [spec_l1put.l0, if_neg (show ¬ ((i : Int) < a2) by omega)]
    exact Ev.some (by simp [lowB])
  | succ d ih =>
    intro l v a2 i hi hl ha
    refine Ev.succ ?_
    have hr := ih (l ++ [v % 256]) (v / 256) a2 (i + 1) (by omega) (by simp; omega) ha
    simp only [spec_l1put.l0, if_pos (show ((i : Int) < a2) by omega), if_pos (show l.length < 140737488355328 by omega), w64s (show i < 9223372036854775807 by omega)]
    rw [show l ++ lowB v (d + 1) = l ++ [v % 256] ++ lowB (v / 256) d by simp [lowB]]
    exact hr
theorem spec_l1put.ev (l : List Int) (v : Int) (n : Nat) (hl : l.length + n < 140737488355328) (hn : n ≤ 1000000) : Ev (fun k => spec_l1put.f k l v (n : Int)) (l ++ lowB v n) := by
  unfold spec_l1put.f
  exact spec_l1put.ev0 n l v n 0 (by omega) hl (by omega)

/-! ### impl.low -/
theorem impl_low.ev0 : ∀ (d : Nat) (l : List Int) (v a2 : Int) (i : Nat), (i : Int) + d = a2 → l.length + d < 140737488355328 → a2 ≤ 1000000 → Ev (fun k => impl_low.l0 k l v a2 (i : Int)) (l ++ lowB v d) := by
  intro d
  induction d with
  | zero =>
    intro l v a2 i hi hl ha
    refine Ev.succ ?_
    simp only [impl_low.l0, if_neg (show ¬ ((i : Int) < a2) by omega)]
    exact Ev.some (by simp [lowB])
  | succ d ih =>
    intro l v a2 i hi hl ha
    refine Ev.succ ?_
    have hr := ih (l ++ [v % 256]) (v / 256) a2 (i + 1) (by omega) (by simp; omega) ha
    simp only [impl_low.l0, if_pos (show ((i : Int) < a2) by omega), if_pos (show l.length < 140737488355328 by omega), w64s (show i < 9223372036854775807 by omega)]
    rw [show l ++ lowB v (d + 1) = l ++ [v % 256] ++ lowB (v / 256) d by simp [lowB]]
    exact hr
theorem impl_low.ev (l : List Int) (v : Int) (n : Nat) (hl : l.length + n < 140737488355328) (hn : n ≤ 1000000) : Ev (fun k => impl_low.f k l v (n : Int)) (l ++ lowB v n) := by
  unfold impl_low.f
  exact impl_low.ev0 n l v n 0 (by omega) hl (by omega)

/-! ### spec.Frame -/
theorem spec_Frame.ev (t k w n : Int) (s : ByteArray) : Ev (fun r => spec_Frame.f r t k w n s) (frameM t k w n s) := by
  unfold spec_Frame.f
  simp only [spec_NoteOk.is, Option.bind_some]
  unfold frameM
  by_cases h : noteOk t k w s = true
  · simp only [if_pos h]
    have hs : 0 ≤ t ∧ t ≤ 1000000000 ∧ 0 ≤ k ∧ k ≤ 100 ∧ 0 ≤ w ∧ w ≤ 1000 ∧ s.size ≤ 200 := by unfold noteOk at h; exact of_decide_eq_true h
    refine Ev.bind (spec_l1put.ev _ _ 4 (by simp) (by omega)) ?_
    refine Ev.pos (by simp [lowB_length]) ?_
    refine Ev.bind (spec_l1put.ev _ _ 2 (by simp [lowB_length]) (by omega)) ?_
    refine Ev.bind (spec_l1put.ev _ _ 8 (by simp [lowB_length]) (by omega)) ?_
    refine Ev.pos (by simp [lowB_length]; omega) ?_
    refine Ev.some ?_
    rw [u64_wrap, u64_wrap, u64_wrap, Int.emod_eq_of_lt (a := t) (by omega) (by omega), Int.emod_eq_of_lt (a := w) (by omega) (by omega), Int.emod_eq_of_lt (a := k) (by omega) (by omega)]
  · simp only [if_neg h]
    exact Ev.now _

/-! ### impl.Frame -/
theorem impl_Frame.ev (t k w n : Int) (s : ByteArray) : Ev (fun r => impl_Frame.f r t k w n s) (frameM t k w n s) := by
  unfold impl_Frame.f
  simp only [impl_NoteOk.is, Option.bind_some]
  unfold frameM
  by_cases h : noteOk t k w s = true
  · simp only [if_pos h]
    have hs : 0 ≤ t ∧ t ≤ 1000000000 ∧ 0 ≤ k ∧ k ≤ 100 ∧ 0 ≤ w ∧ w ≤ 1000 ∧ s.size ≤ 200 := by unfold noteOk at h; exact of_decide_eq_true h
    refine Ev.bind (impl_low.ev _ _ 4 (by simp) (by omega)) ?_
    refine Ev.bind (impl_low.ev _ _ 1 (by simp [lowB_length]) (by omega)) ?_
    refine Ev.bind (impl_low.ev _ _ 2 (by simp [lowB_length]) (by omega)) ?_
    refine Ev.bind (impl_low.ev _ _ 8 (by simp [lowB_length]) (by omega)) ?_
    refine Ev.pos (by simp [lowB_length]; omega) ?_
    refine Ev.some ?_
    rw [u64_wrap, u64_wrap, u64_wrap, u64_wrap, Int.emod_eq_of_lt (a := t) (by omega) (by omega), Int.emod_eq_of_lt (a := w) (by omega) (by omega), Int.emod_eq_of_lt (a := k) (by omega) (by omega)]
    simp [lowB, Int.emod_eq_of_lt (a := k) (b := 256) (by omega) (by omega)]
  · simp only [if_neg h]
    exact Ev.now _

/-! ### laws.FnExactFrame -/
theorem frameM_len (t k w n : Int) (s : ByteArray) : (frameM t k w n s).length ≤ 217 := by
  unfold frameM
  split
  · rename_i h
    unfold noteOk at h
    have := of_decide_eq_true h
    simp [lowB_length, bytesOf_len]
    omega
  · simp
theorem pure : laws_FnExactFrame.Pure := by
  intro t k w n s ⟨_, _, _, _, hs⟩
  refine Ev.rounds ?_
  have hl := frameM_len t k w n s
  unfold laws_FnExactFrame.f
  simp only [laws_szNote.is _ _ _ _ _ _ (show (-1 : Int) ≤ 1048576 by omega) (show (1048576 : Int) ≤ 1048576 by omega) hs, Option.bind_some, laws_toNote.is]
  by_cases h0 : szT 1048576 (s.size : Int) < 0
  · exact Ev.pos h0 (Ev.now _)
  refine Ev.neg h0 ?_
  refine Ev.bind (spec_Frame.ev t k w n s) ?_
  refine Ev.bind (impl_Frame.ev t k w n s) ?_
  refine Ev.bind (laws_eqByteS.ev _ _ (by omega)) ?_
  refine Ev.pos (by simp) ?_
  refine Ev.bind (laws_markByteS.ev _ 1 (by omega) (by omega) (by omega)) ?_
  refine Ev.bind (laws_heldByteS.ev _ 1 (by omega) (by omega) (by omega)) ?_
  refine Ev.neg (by omega) ?_
  refine Ev.pos rfl ?_
  refine Ev.bind (impl_Frame.ev t k w n s) ?_
  refine Ev.bind (laws_eqByteS.ev _ _ (by omega)) ?_
  refine Ev.pos (by simp) ?_
  refine Ev.bind (laws_heldByteS.ev _ 1 (by omega) (by omega) (by omega)) ?_
  refine Ev.neg (by omega) ?_
  exact Ev.pos rfl (Ev.now _)

end Go.Proofs.Ytkhakdggfknlpaa.PFnExactFrame
