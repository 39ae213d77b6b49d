/- What the functions that FnExactReadFrame reaches tell, and its pure statement. No condition. -/
import Derived.Test.YtkhakdggfknlpaaPFnExactReadFramex0
import Derived.Test.YtkhakdggfknlpaaPFnExactReadFramex1
import Derived.Test.YtkhakdggfknlpaaPFnExactReadFramex2
import Derived.Test.YtkhakdggfknlpaaPFnExactReadFramex3
import Derived.Test.YtkhakdggfknlpaaPFnExactReadFramex4
import Derived.Test.YtkhakdggfknlpaaPFnExactReadFramex5
import Derived.Test.YtkhakdggfknlpaaMath
namespace Go.Proofs.Ytkhakdggfknlpaa.PFnExactReadFrame
open Go.RowKit Go.Proofs.YtkhakdggfknlpaaW.PrintWords Go.Proofs.YtkhakdggfknlpaaW.PrintLast Go.Proofs.Ytkhakdggfknlpaa.Math
set_option linter.unusedVariables false
set_option linter.unusedSimpArgs false

/-! ### spec.l1in -/
theorem spec_l1in.is (a lo hi : Int) : spec_l1in.f a lo hi = some (decide (lo ≤ a ∧ a ≤ hi)) := by
  unfold spec_l1in.f
  by_cases h : a ≥ lo
  · rw [if_pos h]; simp [h]
  · rw [if_neg h]; simp only [ge_iff_le, Int.not_le] at h; simp [show ¬ lo ≤ a by omega]

/-! ### spec.NoteOk -/
theorem spec_NoteOk.is (t k w n : Int) (s : ByteArray) : spec_NoteOk.f t k w n s = some (noteOk t k w s) := by
  unfold spec_NoteOk.f noteOk
  simp only [spec_l1in.is, Option.bind_some, decide_eq_true_eq]
  by_cases h1 : 0 ≤ t ∧ t ≤ 1000000000
  · rw [if_pos h1]
    by_cases h2 : 0 ≤ k ∧ k ≤ 100
    · rw [if_pos h2]
      by_cases h3 : 0 ≤ w ∧ w ≤ 1000
      · rw [if_pos h3]; congr 1; apply decide_eq_decide.2; omega
      · rw [if_neg h3]; congr 1; symm; apply decide_eq_false; omega
    · rw [if_neg h2]; congr 1; symm; apply decide_eq_false; omega
  · rw [if_neg h1]; congr 1; symm; apply decide_eq_false; omega

/-! ### impl.NoteOk -/
theorem impl_NoteOk.is (t k w n : Int) (s : ByteArray) : impl_NoteOk.f t k w n s = some (noteOk t k w s) := by
  unfold impl_NoteOk.f noteOk
  repeat' split
  all_goals (congr 1; first | (symm; apply decide_eq_false; omega) | (apply decide_eq_decide.2; omega))

/-! ### laws.eqByteS -/
theorem laws_eqByteS.ev0 (a b : List Int) (hl : a.length = b.length) (hb : a.length ≤ 140737488355328) : ∀ d i : Nat, i + d = a.length → Ev (fun k => laws_eqByteS.l0 k a b (i : Int)) (decide (a.drop i = b.drop i)) := by
  intro d
  induction d with
  | zero =>
    intro i hi
    refine Ev.succ ?_
    simp only [laws_eqByteS.l0, if_neg (show ¬ ((i : Int) < (a.length : Int)) by omega)]
    rw [drop_nil a i (by omega), drop_nil b i (by omega)]
    exact Ev.now _
  | succ d ih =>
    intro i hi
    refine Ev.succ ?_
    have hr := ih (i + 1) (by omega)
    simp only [laws_eqByteS.l0, if_pos (show ((i : Int) < (a.length : Int)) by omega), if_pos (show (0 : Int) ≤ (i : Int) by omega), if_pos (show ((i : Int) < (b.length : Int)) by omega), rd_nat, w64s (show i < 9223372036854775807 by omega)]
    rw [drop_ext a b i 0 (by omega) (by omega)]
    by_cases h : a.getD i 0 = b.getD i 0
    · simp only [if_pos h]
      rw [decide_eq_true h, Bool.true_and]
      exact hr
    · simp only [if_neg h]
      rw [decide_eq_false h, Bool.false_and]
      exact Ev.now _
theorem laws_eqByteS.ev (a b : List Int) (hb : a.length ≤ 140737488355328) : Ev (fun k => laws_eqByteS.f k a b) (decide (a = b)) := by
  unfold laws_eqByteS.f
  by_cases h : a.length = b.length
  · refine Ev.pos (by omega) ?_
    have := laws_eqByteS.ev0 a b h hb a.length 0 (by omega)
    simpa using this
  · refine Ev.neg (by omega) ?_
    rw [decide_eq_false (fun e => h (by rw [e]))]
    exact Ev.now _

/-! ### laws.toByteS -/
theorem laws_toByteS.ev0 (l : List Int) (hl : l.length ≤ 140737488355328) : ∀ d i : Nat, i + d = l.length → Ev (fun k => laws_toByteS.l0 k l (l.take i ++ List.replicate (l.length - i) 0) (i : Int)) l := by
  intro d
  induction d with
  | zero =>
    intro i hi
    refine Ev.succ ?_
    simp only [laws_toByteS.l0, if_neg (show ¬ ((i : Int) < (l.length : Int)) by omega)]
    exact Ev.some (by rw [List.take_of_length_le (by omega), show l.length - i = 0 by omega]; simp)
  | succ d ih =>
    intro i hi
    refine Ev.succ ?_
    have hr := ih (i + 1) (by omega)
    simp only [laws_toByteS.l0, if_pos (show ((i : Int) < (l.length : Int)) by omega), if_pos (show (0 : Int) ≤ (i : Int) by omega), rd_nat, w64s (show i < 9223372036854775807 by omega), Int.toNat_natCast, replicate_step l.length i (0 : Int) (by omega),
      set_at (l.take i) (List.replicate (l.length - (i + 1)) 0) 0 (l.getD i 0) i (by simp; omega)]
    rw [take_snoc l i 0 (by omega)] at hr
    refine Ev.pos (by simp; omega) hr
theorem laws_toByteS.ev (l : List Int) (hl : l.length ≤ 140737488355328) : Ev (fun k => laws_toByteS.f k l) l := by
  unfold laws_toByteS.f
  refine Ev.pos (by omega) (Ev.pos (by simp; omega) ?_)
  have := laws_toByteS.ev0 l hl l.length 0 (by omega)
  simpa using this

/-! ### laws.eqNote -/
theorem laws_eqNote.refl (t k w n : Int) (s : ByteArray) : laws_eqNote.f t k w n s t k w n s = some true := by
  unfold laws_eqNote.f
  simp

/-! ### spec.l1get -/
theorem spec_l1get.ev0 (l : List Int) (hl : l.length ≤ 8) (hb : Bs l) : ∀ (i : Nat), i ≤ l.length → Ev (fun k => spec_l1get.l0 k l (numM (l.drop i)) ((i : Int) - 1)) (numM l) := by
  intro i
  induction i with
  | zero =>
    intro hi
    refine Ev.succ ?_
    simp only [spec_l1get.l0, if_neg (show ¬ (((0 : Nat) : Int) - 1 ≥ 0) by omega)]
    exact Ev.now _
  | succ i ih =>
    intro hi
    refine Ev.succ ?_
    have hr := ih (by omega)
    have e : ((i + 1 : Nat) : Int) - 1 = (i : Int) := by omega
    have hg := hb.getD i
    have hn := numM_nonneg (hb.drop (i + 1))
    have hlt2 := numM_lt7 (hb.drop (i + 1)) (by simp; omega)
    simp only [spec_l1get.l0, e, if_pos (show (i : Int) ≥ 0 by omega), if_pos (show (0 : Int) ≤ (i : Int) by omega), if_pos (show (i : Int) < (l.length : Int) by omega), rd_nat, or_join hn hlt2 hg.1 hg.2, w64 (show (-9223372036854775808 : Int) ≤ (i : Int) - 1 by omega) (show (i : Int) - 1 ≤ 9223372036854775807 by omega)]
    rw [show l.getD i 0 + 256 * numM (l.drop (i + 1)) = numM (l.drop i) by rw [drop_cons l i 0 (by omega)]; rfl]
    exact hr
theorem spec_l1get.ev (l : List Int) (hl : l.length ≤ 8) (hb : Bs l) : Ev (fun k => spec_l1get.f k l) (numM l) := by
  unfold spec_l1get.f
  rw [w64 (by omega) (by omega)]
  have := spec_l1get.ev0 l hl hb l.length (Nat.le_refl _)
  rwa [drop_nil l l.length (Nat.le_refl _)] at this

/-! ### impl.num -/
theorem impl_num.ev0 (l : List Int) (hl : l.length ≤ 8) (hb : Bs l) : ∀ (i : Nat), i ≤ l.length → Ev (fun k => impl_num.l0 k l (numM (l.drop i)) ((i : Int) - 1)) (numM l) := by
  intro i
  induction i with
  | zero =>
    intro hi
    refine Ev.succ ?_
    simp only [impl_num.l0, if_neg (show ¬ (((0 : Nat) : Int) - 1 ≥ 0) by omega)]
    exact Ev.now _
  | succ i ih =>
    intro hi
    refine Ev.succ ?_
    have hr := ih (by omega)
    have e : ((i + 1 : Nat) : Int) - 1 = (i : Int) := by omega
    have hg := hb.getD i
    have hn := numM_nonneg (hb.drop (i + 1))
    have hlt2 := numM_lt7 (hb.drop (i + 1)) (by simp; omega)
    simp only [impl_num.l0, e, if_pos (show (i : Int) ≥ 0 by omega), if_pos (show (0 : Int) ≤ (i : Int) by omega), if_pos (show (i : Int) < (l.length : Int) by omega), rd_nat, or_join hn hlt2 hg.1 hg.2, w64 (show (-9223372036854775808 : Int) ≤ (i : Int) - 1 by omega) (show (i : Int) - 1 ≤ 9223372036854775807 by omega)]
    rw [show l.getD i 0 + 256 * numM (l.drop (i + 1)) = numM (l.drop i) by rw [drop_cons l i 0 (by omega)]; rfl]
    exact hr
theorem impl_num.ev (l : List Int) (hl : l.length ≤ 8) (hb : Bs l) : Ev (fun k => impl_num.f k l) (numM l) := by
  unfold impl_num.f
  rw [w64 (by omega) (by omega)]
  have := impl_num.ev0 l hl hb l.length (Nat.le_refl _)
  rwa [drop_nil l l.length (Nat.le_refl _)] at this

/-! ### spec.ReadFrame -/
theorem spec_ReadFrame.no (b : List Int) : Ev (fun k => spec_ReadFrame.j0 k b true) (false, 0, 0, 0, 0, (⟨#[]⟩ : ByteArray), 0) := Ev.succ (by simp only [spec_ReadFrame.j0, if_true]; exact Ev.now _)
theorem spec_ReadFrame.ev (b : List Int) (hl : b.length ≤ 140737488355328) (hb : Bs b) : Ev (fun k => spec_ReadFrame.f k b) (readM b) := by
  unfold spec_ReadFrame.f
  by_cases h1 : b.length < 17
  · rw [readM_no (fun h => by omega)]
    exact Ev.pos (by omega) (spec_ReadFrame.no b)
  refine Ev.neg (by omega) (Ev.pos (by omega) ?_)
  have e0 : rd b 0 = b.getD 0 0 := rd_nat b 0
  have e1 : rd b 1 = b.getD 1 0 := rd_nat b 1
  have e6 : rd b 6 = b.getD 6 0 := rd_nat b 6
  rw [e0]
  by_cases h2 : b.getD 0 0 = 78
  · have g1 := hb.getD 1
    have g6 := hb.getD 6
    rw [h2]
    refine Ev.succ ?_
    simp only [spec_ReadFrame.j0, e1, e6, w64 (show (-9223372036854775808 : Int) ≤ b.getD 1 0 by omega) (show b.getD 1 0 ≤ 9223372036854775807 by omega), w64 (show (-9223372036854775808 : Int) ≤ 17 + b.getD 1 0 by omega) (show 17 + b.getD 1 0 ≤ 9223372036854775807 by omega), w64 (show (-9223372036854775808 : Int) ≤ b.getD 6 0 by omega) (show b.getD 6 0 ≤ 9223372036854775807 by omega)]
    refine Ev.neg (by simp) (Ev.pos (by omega) ?_)
    by_cases h3 : (b.length : Int) < 17 + b.getD 1 0
    · rw [readM_no (fun h => by omega)]
      exact Ev.pos h3 (Ev.now _)
    refine Ev.neg h3 (Ev.pos (by omega) (Ev.pos (by omega) ?_))
    refine Ev.bind (spec_l1get.ev _ (by simp; omega) ((hb.take 6).drop 2)) (Ev.pos (by omega) (Ev.pos (by omega) (Ev.pos (by omega) ?_)))
    refine Ev.bind (spec_l1get.ev _ (by simp; omega) ((hb.take 9).drop 7)) (Ev.pos (by omega) (Ev.pos (by omega) ?_))
    refine Ev.bind (spec_l1get.ev _ (by simp; omega) ((hb.take 17).drop 9)) (Ev.pos (by omega) (Ev.pos (by omega) ?_))
    have t0 := numM_nonneg ((hb.take 6).drop 2)
    have t1 := numM_lt ((hb.take 6).drop 2)
    have t2 : ((b.take 6).drop 2).length = 4 := by simp; omega
    have w0 := numM_nonneg ((hb.take 9).drop 7)
    have w1 := numM_lt ((hb.take 9).drop 7)
    have w2 : ((b.take 9).drop 7).length = 2 := by simp; omega
    rw [t2] at t1
    rw [w2] at w1
    rw [w64 (x := numM ((b.take 6).drop 2)) (by omega) (by omega), w64 (x := numM ((b.take 9).drop 7)) (by omega) (by omega)]
    simp only [spec_NoteOk.is, Option.bind_some]
    by_cases h4 : noteOk (numM ((b.take 6).drop 2)) (b.getD 6 0) (numM ((b.take 9).drop 7)) (strOfNums ((b.take (17 + b.getD 1 0).toNat).drop 17)) = true
    · rw [readM_yes (by omega) h2 (by omega) h4]
      exact Ev.pos h4 (Ev.now _)
    · rw [readM_bad h4]
      exact Ev.neg h4 (Ev.now _)
  · rw [readM_no (fun h => h2 h.2.1), show (b.getD 0 0 != 78) = true by simpa using h2]
    exact spec_ReadFrame.no b

/-! ### impl.ReadFrame -/
theorem impl_ReadFrame.no (b : List Int) : Ev (fun k => impl_ReadFrame.j0 k b true) (false, 0, 0, 0, 0, (⟨#[]⟩ : ByteArray), 0) := Ev.succ (by simp only [impl_ReadFrame.j0, if_true]; exact Ev.now _)
theorem impl_ReadFrame.ev (b : List Int) (hl : b.length ≤ 140737488355328) (hb : Bs b) : Ev (fun k => impl_ReadFrame.f k b) (readM b) := by
  unfold impl_ReadFrame.f
  by_cases h1 : b.length < 17
  · rw [readM_no (fun h => by omega)]
    exact Ev.pos (by omega) (impl_ReadFrame.no b)
  refine Ev.neg (by omega) (Ev.pos (by omega) ?_)
  have e0 : rd b 0 = b.getD 0 0 := rd_nat b 0
  have e1 : rd b 1 = b.getD 1 0 := rd_nat b 1
  have e6 : rd b 6 = b.getD 6 0 := rd_nat b 6
  rw [e0, e1]
  by_cases h2 : b.getD 0 0 = 78
  · have g1 := hb.getD 1
    have g6 := hb.getD 6
    refine Ev.pos h2 (Ev.pos (by omega) ?_)
    rw [w64 (x := b.getD 1 0) (by omega) (by omega), w64 (x := 17 + b.getD 1 0) (by omega) (by omega)]
    by_cases h3 : (b.length : Int) < 17 + b.getD 1 0
    · rw [readM_no (fun h => by omega), decide_eq_true h3]
      exact impl_ReadFrame.no b
    rw [decide_eq_false h3]
    refine Ev.succ ?_
    simp only [impl_ReadFrame.j0, e1, e6, w64 (show (-9223372036854775808 : Int) ≤ b.getD 1 0 by omega) (show b.getD 1 0 ≤ 9223372036854775807 by omega), w64 (show (-9223372036854775808 : Int) ≤ 17 + b.getD 1 0 by omega) (show 17 + b.getD 1 0 ≤ 9223372036854775807 by omega), w64 (show (-9223372036854775808 : Int) ≤ b.getD 6 0 by omega) (show b.getD 6 0 ≤ 9223372036854775807 by omega)]
    refine Ev.neg (by simp) (Ev.pos (by omega) (Ev.pos (by omega) ?_))
    refine Ev.bind (impl_num.ev _ (by simp; omega) ((hb.take 6).drop 2)) (Ev.pos (by omega) (Ev.pos (by omega) (Ev.pos (by omega) ?_)))
    refine Ev.bind (impl_num.ev _ (by simp; omega) ((hb.take 9).drop 7)) (Ev.pos (by omega) (Ev.pos (by omega) ?_))
    refine Ev.bind (impl_num.ev _ (by simp; omega) ((hb.take 17).drop 9)) (Ev.pos (by omega) (Ev.pos (by omega) (Ev.pos (by omega) ?_)))
    have t0 := numM_nonneg ((hb.take 6).drop 2)
    have t1 := numM_lt ((hb.take 6).drop 2)
    have t2 : ((b.take 6).drop 2).length = 4 := by simp; omega
    have w0 := numM_nonneg ((hb.take 9).drop 7)
    have w1 := numM_lt ((hb.take 9).drop 7)
    have w2 : ((b.take 9).drop 7).length = 2 := by simp; omega
    rw [t2] at t1
    rw [w2] at w1
    rw [w64 (x := numM ((b.take 6).drop 2)) (by omega) (by omega), w64 (x := numM ((b.take 9).drop 7)) (by omega) (by omega)]
    have hz : (strOfNums ((b.take (17 + b.getD 1 0).toNat).drop 17)).size = (b.getD 1 0).toNat := by rw [strOfNums_size, List.length_drop, List.length_take]; omega
    rw [hz, show (((b.getD 1 0).toNat : Nat) : Int) = b.getD 1 0 by omega, w64 (x := 17 + b.getD 1 0) (by omega) (by omega)]
    simp only [impl_NoteOk.is, Option.bind_some]
    by_cases h4 : noteOk (numM ((b.take 6).drop 2)) (b.getD 6 0) (numM ((b.take 9).drop 7)) (strOfNums ((b.take (17 + b.getD 1 0).toNat).drop 17)) = true
    · rw [readM_yes (by omega) h2 (by omega) h4]
      exact Ev.pos h4 (Ev.now _)
    · rw [readM_bad h4]
      exact Ev.neg h4 (Ev.now _)
  · rw [readM_no (fun h => h2 h.2.1)]
    exact Ev.neg h2 (impl_ReadFrame.no b)

/-! ### laws.eqFramed -/
theorem laws_eqFramed.refl (o : Bool) (t k w n : Int) (s : ByteArray) (l : Int) : laws_eqFramed.f o t k w n s l o t k w n s l = some true := by
  unfold laws_eqFramed.f
  rw [if_neg (by simp), laws_eqNote.refl]
  simp

/-! ### laws.FnExactReadFrame -/
theorem pure : laws_FnExactReadFrame.Pure := by
  intro l ⟨h1, h2⟩
  refine Ev.rounds ?_
  unfold laws_FnExactReadFrame.f
  by_cases h0 : (l.length : Int) > 1048576
  · exact Ev.pos h0 (Ev.now _)
  refine Ev.neg h0 ?_
  have hb := Bs.of_wf h2
  have ht := laws_toByteS.ev l (by omega)
  refine Ev.bind ht (Ev.bind (spec_ReadFrame.ev l (by omega) hb) (Ev.bind ht (Ev.bind (impl_ReadFrame.ev l (by omega) hb) ?_)))
  simp only [laws_eqFramed.refl, Option.bind_some]
  refine Ev.pos trivial (Ev.bind ht (Ev.bind (laws_eqByteS.ev l l (by omega)) (Ev.pos (by simp) (Ev.now _))))

end Go.Proofs.Ytkhakdggfknlpaa.PFnExactReadFrame
