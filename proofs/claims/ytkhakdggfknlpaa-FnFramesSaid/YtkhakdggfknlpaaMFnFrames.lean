/- What the functions that FnFrames reaches tell, and its pure statement. No condition. -/
import Derived.Test.YtkhakdggfknlpaaPFnFramesx0
import Derived.Test.YtkhakdggfknlpaaPFnFramesx1
import Derived.Test.YtkhakdggfknlpaaPFnFramesx2
import Derived.Test.YtkhakdggfknlpaaPFnFramesx3
import Derived.Test.YtkhakdggfknlpaaPFnFramesx4
import Derived.Test.YtkhakdggfknlpaaPFnFramesx5
import Derived.Test.YtkhakdggfknlpaaPFnFramesx6
import Derived.Test.YtkhakdggfknlpaaMath
namespace Go.Proofs.Ytkhakdggfknlpaa.PFnFrames
open Go.RowKit Go.Proofs.YtkhakdggfknlpaaW.PrintWords Go.Proofs.YtkhakdggfknlpaaW.PrintLast Go.Proofs.Ytkhakdggfknlpaa.Math
set_option linter.unusedVariables false
set_option linter.unusedSimpArgs false

/-! ### spec.l1in -/
theorem spec_l1in.is (a lo hi : Int) : spec_l1in.f a lo hi = some (decide (lo ≤ a ∧ a ≤ hi)) := by
  unfold spec_l1in.f
  by_cases h : a ≥ lo
  · rw [if_pos h]; simp [h]
  · rw [if_neg h]; simp only [ge_iff_le, Int.not_le] at h; simp [show ¬ lo ≤ a by omega]

/-! ### spec.NoteOk -/
theorem spec_NoteOk.is (t k w n : Int) (s : ByteArray) : spec_NoteOk.f t k w n s = some (noteOk t k w s) := by
  unfold spec_NoteOk.f noteOk
  simp only [spec_l1in.is, Option.bind_some, decide_eq_true_eq]
  by_cases h1 : 0 ≤ t ∧ t ≤ 1000000000
  · rw [if_pos h1]
    by_cases h2 : 0 ≤ k ∧ k ≤ 100
    · rw [if_pos h2]
      by_cases h3 : 0 ≤ w ∧ w ≤ 1000
      · rw [if_pos h3]; congr 1; apply decide_eq_decide.2; omega
      · rw [if_neg h3]; congr 1; symm; apply decide_eq_false; omega
    · rw [if_neg h2]; congr 1; symm; apply decide_eq_false; omega
  · rw [if_neg h1]; congr 1; symm; apply decide_eq_false; omega

/-! ### impl.NoteOk -/
theorem impl_NoteOk.is (t k w n : Int) (s : ByteArray) : impl_NoteOk.f t k w n s = some (noteOk t k w s) := by
  unfold impl_NoteOk.f noteOk
  repeat' split
  all_goals (congr 1; first | (symm; apply decide_eq_false; omega) | (apply decide_eq_decide.2; omega))

/-! ### spec.l1put -/
theorem spec_l1put.ev0 : ∀ (d : Nat) (l : List Int) (v a2 : Int) (i : Nat), (i : Int) + d = a2 → l.length + d < 140737488355328 → a2 ≤ 1000000 → Ev (fun k => spec_l1put.l0 k l v a2 (i : Int)) (l ++ lowB v d) := by
  intro d
  induction d with
  | zero =>
    intro l v a2 i hi hl ha
    refine Ev.succ ?_
    simp only [spec_l1put.l0, if_neg (show ¬ ((i : Int) < a2) by omega)]
    exact Ev.some (by simp [lowB])
  | succ d ih =>
    intro l v a2 i hi hl ha
    refine Ev.succ ?_
    have hr := ih (l ++ [v % 256]) (v / 256) a2 (i + 1) (by omega) (by simp; omega) ha
    simp only [spec_l1put.l0, if_pos (show ((i : Int) < a2) by omega), if_pos (show l.length < 140737488355328 by omega), w64s (show i < 9223372036854775807 by omega)]
    rw [show l ++ lowB v (d + 1) = l ++ [v % 256] ++ lowB (v / 256) d by simp [lowB]]
    exact hr
theorem spec_l1put.ev (l : List Int) (v : Int) (n : Nat) (hl : l.length + n < 140737488355328) (hn : n ≤ 1000000) : Ev (fun k => spec_l1put.f k l v (n : Int)) (l ++ lowB v n) := by
  unfold spec_l1put.f
  exact spec_l1put.ev0 n l v n 0 (by omega) hl (by omega)

/-! ### impl.low -/
theorem impl_low.ev0 : ∀ (d : Nat) (l : List Int) (v a2 : Int) (i : Nat), (i : Int) + d = a2 → l.length + d < 140737488355328 → a2 ≤ 1000000 → Ev (fun k => impl_low.l0 k l v a2 (i : Int)) (l ++ lowB v d) := by
  intro d
  induction d with
  | zero =>
    intro l v a2 i hi hl ha
    refine Ev.succ ?_
    simp only [impl_low.l0, if_neg (show ¬ ((i : Int) < a2) by omega)]
    exact Ev.some (by simp [lowB])
  | succ d ih =>
    intro l v a2 i hi hl ha
    refine Ev.succ ?_
    have hr := ih (l ++ [v % 256]) (v / 256) a2 (i + 1) (by omega) (by simp; omega) ha
    simp only [impl_low.l0, if_pos (show ((i : Int) < a2) by omega), if_pos (show l.length < 140737488355328 by omega), w64s (show i < 9223372036854775807 by omega)]
    rw [show l ++ lowB v (d + 1) = l ++ [v % 256] ++ lowB (v / 256) d by simp [lowB]]
    exact hr
theorem impl_low.ev (l : List Int) (v : Int) (n : Nat) (hl : l.length + n < 140737488355328) (hn : n ≤ 1000000) : Ev (fun k => impl_low.f k l v (n : Int)) (l ++ lowB v n) := by
  unfold impl_low.f
  exact impl_low.ev0 n l v n 0 (by omega) hl (by omega)

/-! ### spec.Frame -/
theorem spec_Frame.ev (t k w n : Int) (s : ByteArray) : Ev (fun r => spec_Frame.f r t k w n s) (frameM t k w n s) := by
  unfold spec_Frame.f
  simp only [spec_NoteOk.is, Option.bind_some]
  unfold frameM
  by_cases h : noteOk t k w s = true
  · simp only [if_pos h]
    have hs : 0 ≤ t ∧ t ≤ 1000000000 ∧ 0 ≤ k ∧ k ≤ 100 ∧ 0 ≤ w ∧ w ≤ 1000 ∧ s.size ≤ 200 := by unfold noteOk at h; exact of_decide_eq_true h
    refine Ev.bind (spec_l1put.ev _ _ 4 (by simp) (by omega)) ?_
    refine Ev.pos (by simp [lowB_length]) ?_
    refine Ev.bind (spec_l1put.ev _ _ 2 (by simp [lowB_length]) (by omega)) ?_
    refine Ev.bind (spec_l1put.ev _ _ 8 (by simp [lowB_length]) (by omega)) ?_
    refine Ev.pos (by simp [lowB_length]; omega) ?_
    refine Ev.some ?_
    rw [u64_wrap, u64_wrap, u64_wrap, Int.emod_eq_of_lt (a := t) (by omega) (by omega), Int.emod_eq_of_lt (a := w) (by omega) (by omega), Int.emod_eq_of_lt (a := k) (by omega) (by omega)]
  · simp only [if_neg h]
    exact Ev.now _

/-! ### impl.Frame -/
theorem impl_Frame.ev (t k w n : Int) (s : ByteArray) : Ev (fun r => impl_Frame.f r t k w n s) (frameM t k w n s) := by
  unfold impl_Frame.f
  simp only [impl_NoteOk.is, Option.bind_some]
  unfold frameM
  by_cases h : noteOk t k w s = true
  · simp only [if_pos h]
    have hs : 0 ≤ t ∧ t ≤ 1000000000 ∧ 0 ≤ k ∧ k ≤ 100 ∧ 0 ≤ w ∧ w ≤ 1000 ∧ s.size ≤ 200 := by unfold noteOk at h; exact of_decide_eq_true h
    refine Ev.bind (impl_low.ev _ _ 4 (by simp) (by omega)) ?_
    refine Ev.bind (impl_low.ev _ _ 1 (by simp [lowB_length]) (by omega)) ?_
    refine Ev.bind (impl_low.ev _ _ 2 (by simp [lowB_length]) (by omega)) ?_
    refine Ev.bind (impl_low.ev _ _ 8 (by simp [lowB_length]) (by omega)) ?_
    refine Ev.pos (by simp [lowB_length]; omega) ?_
    refine Ev.some ?_
    rw [u64_wrap, u64_wrap, u64_wrap, u64_wrap, Int.emod_eq_of_lt (a := t) (by omega) (by omega), Int.emod_eq_of_lt (a := w) (by omega) (by omega), Int.emod_eq_of_lt (a := k) (by omega) (by omega)]
    simp [lowB, Int.emod_eq_of_lt (a := k) (b := 256) (by omega) (by omega)]
  · simp only [if_neg h]
    exact Ev.now _

/-! ### impl.num -/
theorem impl_num.ev0 (l : List Int) (hl : l.length ≤ 8) (hb : Bs l) : ∀ (i : Nat), i ≤ l.length → Ev (fun k => impl_num.l0 k l (numM (l.drop i)) ((i : Int) - 1)) (numM l) := by
  intro i
  induction i with
  | zero =>
    intro hi
    refine Ev.succ ?_
    simp only [impl_num.l0, if_neg (show ¬ (((0 : Nat) : Int) - 1 ≥ 0) by omega)]
    exact Ev.now _
  | succ i ih =>
    intro hi
    refine Ev.succ ?_
    have hr := ih (by omega)
    have e : ((i + 1 : Nat) : Int) - 1 = (i : Int) := by omega
    have hg := hb.getD i
    have hn := numM_nonneg (hb.drop (i + 1))
    have hlt2 := numM_lt7 (hb.drop (i + 1)) (by simp; omega)
    simp only [impl_num.l0, e, if_pos (show (i : Int) ≥ 0 by omega), if_pos (show (0 : Int) ≤ (i : Int) by omega), if_pos (show (i : Int) < (l.length : Int) by omega), rd_nat, or_join hn hlt2 hg.1 hg.2, w64 (show (-9223372036854775808 : Int) ≤ (i : Int) - 1 by omega) (show (i : Int) - 1 ≤ 9223372036854775807 by omega)]
    rw [show l.getD i 0 + 256 * numM (l.drop (i + 1)) = numM (l.drop i) by rw [drop_cons l i 0 (by omega)]; rfl]
    exact hr
theorem impl_num.ev (l : List Int) (hl : l.length ≤ 8) (hb : Bs l) : Ev (fun k => impl_num.f k l) (numM l) := by
  unfold impl_num.f
  rw [w64 (by omega) (by omega)]
  have := impl_num.ev0 l hl hb l.length (Nat.le_refl _)
  rwa [drop_nil l l.length (Nat.le_refl _)] at this

/-! ### impl.ReadFrame -/
theorem impl_ReadFrame.no (b : List Int) : Ev (fun k => impl_ReadFrame.j0 k b true) (false, 0, 0, 0, 0, (⟨#[]⟩ : ByteArray), 0) := Ev.succ (by simp only [impl_ReadFrame.j0, if_true]; exact Ev.now _)
theorem impl_ReadFrame.ev (b : List Int) (hl : b.length ≤ 140737488355328) (hb : Bs b) : Ev (fun k => impl_ReadFrame.f k b) (readM b) := by
  unfold impl_ReadFrame.f
  by_cases h1 : b.length < 17
  · rw [readM_no (fun h => by omega)]
    exact Ev.pos (by omega) (impl_ReadFrame.no b)
  refine Ev.neg (by omega) (Ev.pos (by omega) ?_)
  have e0 : rd b 0 = b.getD 0 0 := rd_nat b 0
  have e1 : rd b 1 = b.getD 1 0 := rd_nat b 1
  have e6 : rd b 6 = b.getD 6 0 := rd_nat b 6
  rw [e0, e1]
  by_cases h2 : b.getD 0 0 = 78
  · have g1 := hb.getD 1
    have g6 := hb.getD 6
    refine Ev.pos h2 (Ev.pos (by omega) ?_)
    rw [w64 (x := b.getD 1 0) (by omega) (by omega), w64 (x := 17 + b.getD 1 0) (by omega) (by omega)]
    by_cases h3 : (b.length : Int) < 17 + b.getD 1 0
    · rw [readM_no (fun h => by omega), decide_eq_true h3]
      exact impl_ReadFrame.no b
    rw [decide_eq_false h3]
    refine Ev.succ ?_
    simp only [impl_ReadFrame.j0, e1, e6, w64 (show (-9223372036854775808 : Int) ≤ b.getD 1 0 by omega) (show b.getD 1 0 ≤ 9223372036854775807 by omega), w64 (show (-9223372036854775808 : Int) ≤ 17 + b.getD 1 0 by omega) (show 17 + b.getD 1 0 ≤ 9223372036854775807 by omega), w64 (show (-9223372036854775808 : Int) ≤ b.getD 6 0 by omega) (show b.getD 6 0 ≤ 9223372036854775807 by omega)]
    refine Ev.neg (by simp) (Ev.pos (by omega) (Ev.pos (by omega) ?_))
    refine Ev.bind (impl_num.ev _ (by simp; omega) ((hb.take 6).drop 2)) (Ev.pos (by omega) (Ev.pos (by omega) (Ev.pos (by omega) ?_)))
    refine Ev.bind (impl_num.ev _ (by simp; omega) ((hb.take 9).drop 7)) (Ev.pos (by omega) (Ev.pos (by omega) ?_))
    refine Ev.bind (impl_num.ev _ (by simp; omega) ((hb.take 17).drop 9)) (Ev.pos (by omega) (Ev.pos (by omega) (Ev.pos (by omega) ?_)))
    have t0 := numM_nonneg ((hb.take 6).drop 2)
    have t1 := numM_lt ((hb.take 6).drop 2)
    have t2 : ((b.take 6).drop 2).length = 4 := by simp; omega
    have w0 := numM_nonneg ((hb.take 9).drop 7)
    have w1 := numM_lt ((hb.take 9).drop 7)
    have w2 : ((b.take 9).drop 7).length = 2 := by simp; omega
    rw [t2] at t1
    rw [w2] at w1
    rw [w64 (x := numM ((b.take 6).drop 2)) (by omega) (by omega), w64 (x := numM ((b.take 9).drop 7)) (by omega) (by omega)]
    have hz : (strOfNums ((b.take (17 + b.getD 1 0).toNat).drop 17)).size = (b.getD 1 0).toNat := by rw [strOfNums_size, List.length_drop, List.length_take]; omega
    rw [hz, show (((b.getD 1 0).toNat : Nat) : Int) = b.getD 1 0 by omega, w64 (x := 17 + b.getD 1 0) (by omega) (by omega)]
    simp only [impl_NoteOk.is, Option.bind_some]
    by_cases h4 : noteOk (numM ((b.take 6).drop 2)) (b.getD 6 0) (numM ((b.take 9).drop 7)) (strOfNums ((b.take (17 + b.getD 1 0).toNat).drop 17)) = true
    · rw [readM_yes (by omega) h2 (by omega) h4]
      exact Ev.pos h4 (Ev.now _)
    · rw [readM_bad h4]
      exact Ev.neg h4 (Ev.now _)
  · rw [readM_no (fun h => h2 h.2.1)]
    exact Ev.neg h2 (impl_ReadFrame.no b)

/-! ### laws.wBytes -/
theorem laws_wBytes.refl0 (a : List Int) (hb : a.length ≤ 140737488355328) : ∀ d i : Nat, i + d = a.length → Ev (fun k => laws_wBytes.l0 k a a (a.length : Int) (i : Int)) true := by
  intro d
  induction d with
  | zero =>
    intro i hi
    refine Ev.succ ?_
    simp only [laws_wBytes.l0, if_neg (show ¬ ((i : Int) < (a.length : Int)) by omega)]
    exact Ev.now _
  | succ d ih =>
    intro i hi
    refine Ev.succ ?_
    simp only [laws_wBytes.l0, if_pos (show ((i : Int) < (a.length : Int)) by omega), if_pos (show (0 : Int) ≤ (i : Int) by omega), w64s (show i < 9223372036854775807 by omega), if_true]
    exact ih (i + 1) (by omega)
theorem laws_wBytes.refl (a : List Int) (hb : a.length ≤ 140737488355328) : Ev (fun k => laws_wBytes.f k a a) true := by
  unfold laws_wBytes.f
  refine Ev.pos rfl ?_
  have := laws_wBytes.refl0 a hb a.length 0 (by omega)
  simpa using this

/-! ### spec.l5Cur.next -/
/-- A cursor's place is within reach. -/
theorem spec_l5Cur_next.is (c : List Int) (hb : Bs c) (a s : Int) (h0 : 0 ≤ a) (h1 : a ≤ 4611686018427387904) : ∃ x s', spec_l5Cur_next.f c a s = some (x, a + 1, s') ∧ 0 ≤ x ∧ x ≤ 255 := by
  unfold spec_l5Cur_next.f
  rw [w64 (x := a + 1) (by omega) (by omega)]
  by_cases h : a < (c.length : Int)
  · rw [if_pos h, if_pos h0]
    obtain ⟨j, rfl⟩ := Int.eq_ofNat_of_zero_le h0
    have hg := hb.getD j
    refine ⟨_, _, rfl, ?_⟩
    rw [rd_nat, w64 (by omega) (by omega)]
    exact hg
  · rw [if_neg h]
    refine ⟨_, _, rfl, ?_⟩
    rw [and255 _ (by rw [u64_wrap]; omega) (by rw [u64_wrap]; omega), w64 (by omega) (by omega)]
    omega

/-! ### spec.l5Cur.pick -/
theorem spec_l5Cur_pick.is (c : List Int) (hb : Bs c) (a s : Int) (n : Int) (h0 : 0 ≤ a) (h1 : a ≤ 4611686018427387000) (hn : n ≤ 1000000000) : ∃ x a' s', spec_l5Cur_pick.f c a s n = some (x, a', s') ∧ 0 ≤ x ∧ (x < n ∨ n ≤ 1 ∧ x = 0) ∧ 0 ≤ a' ∧ a ≤ a' ∧ a' ≤ a + 2 := by
  unfold spec_l5Cur_pick.f
  by_cases h : n ≤ 1
  · rw [if_pos h]
    exact ⟨0, a, s, rfl, by omega, by omega, h0, by omega, by omega⟩
  · rw [if_neg h]
    obtain ⟨x, s1, e1, hx0, hx1⟩ := spec_l5Cur_next.is c hb a s h0 (by omega)
    rw [e1]
    simp only [Option.bind_some]
    by_cases h2 : n > 200
    · rw [if_pos h2]
      obtain ⟨y, s2, e2, hy0, hy1⟩ := spec_l5Cur_next.is c hb (a + 1) s1 (by omega) (by omega)
      rw [e2]
      simp only [Option.bind_some]
      rw [if_neg (by omega), w64 (x := x * 256) (by omega) (by omega), w64 (by omega) (by omega), Int.tmod_eq_emod_of_nonneg (by omega)]
      exact ⟨_, _, _, rfl, Int.emod_nonneg _ (by omega), .inl (Int.emod_lt_of_pos _ (by omega)), by omega, by omega, by omega⟩
    · rw [if_neg h2, if_neg (by omega), Int.tmod_eq_emod_of_nonneg (by omega)]
      exact ⟨_, _, _, rfl, Int.emod_nonneg _ (by omega), .inl (Int.emod_lt_of_pos _ (by omega)), by omega, by omega, by omega⟩

/-! ### spec.l5Cur.text -/
theorem spec_l5Cur_text.ev0 (c : List Int) (hb : Bs c) : ∀ (n : Nat) (t : ByteArray) (a s : Int), t.size + n ≤ 1000000 → 0 ≤ a → a + 2 * n ≤ 4611686018427380000 → ∃ r a' s', Ev (fun k => spec_l5Cur_text.l0 k t (n : Int) c a s) (r, a', s') ∧ r.size = t.size + n ∧ 0 ≤ a' ∧ a' ≤ a + 2 * n := by
  intro n
  induction n with
  | zero =>
    intro t a s ht h0 h1
    refine ⟨t, a, s, Ev.succ ?_, by simp, h0, by omega⟩
    simp only [spec_l5Cur_text.l0, if_neg (show ¬ (((0 : Nat) : Int) > 0) by omega)]
    exact Ev.now _
  | succ n ih =>
    intro t a s ht h0 h1
    obtain ⟨x, a1, s1, e1, p1, q1, r1, t1, u1⟩ := spec_l5Cur_pick.is c hb a s 4 h0 (by omega) (by omega)
    have hz : (strOfNums [(wrap64 (97 + x)) % 256]).size = 1 := rfl
    obtain ⟨r, a2, s2, e2, hr, ha, ha'⟩ := ih (t ++ strOfNums [(wrap64 (97 + x)) % 256]) a1 s1 (by rw [ByteArray.size_append, hz]; omega) r1 (by omega)
    refine ⟨r, a2, s2, Ev.succ ?_, by rw [hr, ByteArray.size_append, hz]; omega, ha, by omega⟩
    simp only [spec_l5Cur_text.l0, if_pos (show ((n + 1 : Nat) : Int) > 0 by omega), e1, Option.bind_some, if_pos (show t.size + (strOfNums [(wrap64 (97 + x)) % 256]).size ≤ 9223372036854775807 by rw [hz]; omega), w64 (show (-9223372036854775808 : Int) ≤ ((n + 1 : Nat) : Int) - 1 by omega) (show ((n + 1 : Nat) : Int) - 1 ≤ 9223372036854775807 by omega)]
    rw [show ((n + 1 : Nat) : Int) - 1 = (n : Int) by omega]
    exact e2
theorem spec_l5Cur_text.ev1 (c : List Int) (hb : Bs c) (n a s : Int) (hn : 0 ≤ n) (hn' : n ≤ 200) (h0 : 0 ≤ a) (h1 : a ≤ 4611686018427300000) : ∃ r a' s', Ev (fun k => spec_l5Cur_text.j1 k (⟨#[]⟩ : ByteArray) n c a s) (r, a', s') ∧ r.size ≤ 200 ∧ 0 ≤ a' ∧ a' ≤ a + 400 := by
  obtain ⟨m, rfl⟩ := Int.eq_ofNat_of_zero_le hn
  obtain ⟨r, a', s', e, hr, ha, ha'⟩ := spec_l5Cur_text.ev0 c hb m (⟨#[]⟩ : ByteArray) a s (by show 0 + m ≤ _; omega) h0 (by omega)
  refine ⟨r, a', s', Ev.succ ?_, ?_, ha, by omega⟩
  · simp only [spec_l5Cur_text.j1]
    exact e
  · rw [hr]; show 0 + m ≤ _; omega
theorem spec_l5Cur_text.ev2 (c : List Int) (hb : Bs c) (n a s : Int) (hn : 0 ≤ n) (hn' : n ≤ 200) (h0 : 0 ≤ a) (h1 : a ≤ 4611686018427200000) : ∃ r a' s', Ev (fun k => spec_l5Cur_text.j0 k (⟨#[]⟩ : ByteArray) n c a s) (r, a', s') ∧ r.size ≤ 200 ∧ 0 ≤ a' ∧ a' ≤ a + 410 := by
  obtain ⟨x1, a1, s1, e1, p1, q1, r1, t1, u1⟩ := spec_l5Cur_pick.is c hb a s 30 h0 (by omega) (by omega)
  by_cases h : x1 = 0
  · obtain ⟨x2, a2, s2, e2, p2, q2, r2, t2, u2⟩ := spec_l5Cur_pick.is c hb a1 s1 2 r1 (by omega) (by omega)
    obtain ⟨r, a', s', e, hr, ha, ha'⟩ := spec_l5Cur_text.ev1 c hb (200 - x2) a2 s2 (by omega) (by omega) r2 (by omega)
    refine ⟨r, a', s', Ev.succ ?_, hr, ha, by omega⟩
    simp only [spec_l5Cur_text.j0, e1, Option.bind_some, h, if_true]
    simp only [e2, Option.bind_some]
    rw [w64 (x := 200 - x2) (by omega) (by omega)]
    exact e
  · obtain ⟨r, a', s', e, hr, ha, ha'⟩ := spec_l5Cur_text.ev1 c hb n a1 s1 hn hn' r1 (by omega)
    refine ⟨r, a', s', Ev.succ ?_, hr, ha, by omega⟩
    simp only [spec_l5Cur_text.j0, e1, Option.bind_some]
    exact Ev.neg h e
theorem spec_l5Cur_text.ev (c : List Int) (hb : Bs c) (a s : Int) (h0 : 0 ≤ a) (h1 : a ≤ 4611686018427100000) : ∃ r a' s', Ev (fun k => spec_l5Cur_text.f k c a s) (r, a', s') ∧ r.size ≤ 200 ∧ 0 ≤ a' ∧ a' ≤ a + 420 := by
  unfold spec_l5Cur_text.f
  obtain ⟨x1, a1, s1, e1, p1, q1, r1, t1, u1⟩ := spec_l5Cur_pick.is c hb a s 9 h0 (by omega) (by omega)
  obtain ⟨x2, a2, s2, e2, p2, q2, r2, t2, u2⟩ := spec_l5Cur_pick.is c hb a1 s1 6 r1 (by omega) (by omega)
  simp only [e1, e2, Option.bind_some]
  by_cases h : x2 = 0
  · obtain ⟨x3, a3, s3, e3, p3, q3, r3, t3, u3⟩ := spec_l5Cur_pick.is c hb a2 s2 80 r2 (by omega) (by omega)
    obtain ⟨r, a', s', e, hr, ha, ha'⟩ := spec_l5Cur_text.ev2 c hb x3 a3 s3 (by omega) (by omega) r3 (by omega)
    refine ⟨r, a', s', ?_, hr, ha, by omega⟩
    simp only [e3, Option.bind_some]
    exact Ev.pos h e
  · obtain ⟨r, a', s', e, hr, ha, ha'⟩ := spec_l5Cur_text.ev2 c hb x1 a2 s2 (by omega) (by omega) r2 (by omega)
    exact ⟨r, a', s', Ev.neg h e, hr, ha, by omega⟩

/-! ### spec.l5Cur.whole -/
theorem spec_l5Cur_whole.is (c : List Int) (hb : Bs c) (a s : Int) (h0 : 0 ≤ a) (h1 : a ≤ 4611686018427300000) : ∃ x a' s', spec_l5Cur_whole.f c a s = some (x, a', s') ∧ -9223372036854775808 ≤ x ∧ x ≤ 9223372036854775807 ∧ 0 ≤ a' ∧ a' ≤ a + 4 := by
  unfold spec_l5Cur_whole.f
  obtain ⟨x1, a1, s1, e1, p1, q1, r1, t1, u1⟩ := spec_l5Cur_pick.is c hb a s 6 h0 (by omega) (by omega)
  simp only [e1, Option.bind_some]
  by_cases h2 : x1 = 0
  · obtain ⟨x2, a2, s2, e2, p2, q2, r2, t2, u2⟩ := spec_l5Cur_pick.is c hb a1 s1 3 r1 (by omega) (by omega)
    rw [if_pos h2, e2]
    exact ⟨_, _, _, rfl, by rw [w64 (by omega) (by omega)]; omega, by rw [w64 (by omega) (by omega)]; omega, r2, by simp only; omega⟩
  rw [if_neg h2]
  by_cases h3 : x1 = 1
  · obtain ⟨x2, a2, s2, e2, p2, q2, r2, t2, u2⟩ := spec_l5Cur_pick.is c hb a1 s1 3 r1 (by omega) (by omega)
    rw [if_pos h3, e2]
    exact ⟨_, _, _, rfl, by rw [w64 (by omega) (by omega)]; omega, by rw [w64 (by omega) (by omega)]; omega, r2, by simp only; omega⟩
  rw [if_neg h3]
  by_cases h4 : x1 = 2
  · obtain ⟨x2, a2, s2, e2, p2, q2, r2, t2, u2⟩ := spec_l5Cur_pick.is c hb a1 s1 70000 r1 (by omega) (by omega)
    rw [if_pos h4, e2]
    exact ⟨_, _, _, rfl, by rw [w64 (by omega) (by omega)]; omega, by rw [w64 (by omega) (by omega)]; omega, r2, by simp only; omega⟩
  rw [if_neg h4]
  obtain ⟨x2, a2, s2, e2, p2, q2, r2, t2, u2⟩ := spec_l5Cur_pick.is c hb a1 s1 12 r1 (by omega) (by omega)
  rw [e2]
  exact ⟨_, _, _, rfl, by rw [w64 (by omega) (by omega)]; omega, by rw [w64 (by omega) (by omega)]; omega, r2, by simp only; omega⟩

/-! ### spec.l5Cur.note -/
theorem spec_l5Cur_note.ev (c : List Int) (hb : Bs c) (a s : Int) (h0 : 0 ≤ a) (h1 : a ≤ 4611686018427000000) : ∃ t k w n x a' s', Ev (fun r => spec_l5Cur_note.f r c a s) (t, k, w, n, x, a', s') ∧ noteOk t k w x = true ∧ t < 200 ∧ k < 5 ∧ w < 6 ∧ -9223372036854775808 ≤ n ∧ n ≤ 9223372036854775807 ∧ 0 ≤ a' ∧ a' ≤ a + 440 := by
  unfold spec_l5Cur_note.f
  obtain ⟨x1, a1, s1, e1, p1, q1, r1, t1, u1⟩ := spec_l5Cur_pick.is c hb a s 200 h0 (by omega) (by omega)
  obtain ⟨x2, a2, s2, e2, p2, q2, r2, t2, u2⟩ := spec_l5Cur_pick.is c hb a1 s1 5 r1 (by omega) (by omega)
  obtain ⟨x3, a3, s3, e3, p3, q3, r3, t3, u3⟩ := spec_l5Cur_pick.is c hb a2 s2 6 r2 (by omega) (by omega)
  obtain ⟨x4, a4, s4, e4, p4, q4, r4, t4, u4⟩ := spec_l5Cur_pick.is c hb a3 s3 50 r3 (by omega) (by omega)
  obtain ⟨x, a5, s5, e5, hx, r5, u5⟩ := spec_l5Cur_text.ev c hb a4 s4 r4 (by omega)
  obtain ⟨x6, a6, s6, e6, p6, q6, r6, t6, u6⟩ := spec_l5Cur_pick.is c hb a5 s5 8 r5 (by omega) (by omega)
  simp only [e1, e2, e3, e4, Option.bind_some]
  have hok : noteOk x1 x2 x3 x = true := decide_eq_true (by omega)
  by_cases h : x6 = 0
  · obtain ⟨x7, a7, s7, e7, p7, q7, r7, u7⟩ := spec_l5Cur_whole.is c hb a6 s6 r6 (by omega)
    refine ⟨x1, x2, x3, x7, x, a7, s7, ?_, hok, by omega, by omega, by omega, p7, q7, r7, by omega⟩
    refine Ev.bind e5 ?_
    simp only [e6, Option.bind_some]
    refine Ev.pos h ?_
    simp only [e7, Option.bind_some]
    exact Ev.now _
  · refine ⟨x1, x2, x3, x4 - 10, x, a6, s6, ?_, hok, by omega, by omega, by omega, by omega, by omega, r6, by omega⟩
    refine Ev.bind e5 ?_
    simp only [e6, Option.bind_some]
    rw [w64 (x := x4 - 10) (by omega) (by omega)]
    exact Ev.neg h (Ev.now _)

/-! ### spec.Notes -/
/-- A note that may be written, its number within reach. -/
def okN (n : S27) : Prop := noteOk n.f0 n.f1 n.f2 n.f4 = true ∧ -9223372036854775808 ≤ n.f3 ∧ n.f3 ≤ 9223372036854775807
theorem spec_Notes.ev0 (c : List Int) (hb : Bs c) : ∀ (n : Nat) (out : List S27) (a s : Int), out.length + n ≤ 1000 → (∀ x ∈ out, okN x ∧ x.f1 < 5) → 0 ≤ a → a + 500 * n ≤ 4611686018426000000 → ∃ r, Ev (fun k => spec_Notes.l0 k out (n : Int) c a s) r ∧ r.length = out.length + n ∧ ∀ x ∈ r, okN x ∧ x.f1 < 5 := by
  intro n
  induction n with
  | zero =>
    intro out a s ho hn h0 h1
    refine ⟨out, Ev.succ ?_, by simp, hn⟩
    simp only [spec_Notes.l0, if_neg (show ¬ (((0 : Nat) : Int) > 0) by omega)]
    exact Ev.now _
  | succ n ih =>
    intro out a s ho hn h0 h1
    obtain ⟨t, k, w, m, x, a1, s1, e1, hok, ht, hk, hw, hm0, hm1, r1, u1⟩ := spec_l5Cur_note.ev c hb a s h0 (by omega)
    obtain ⟨r, e2, hr, hr'⟩ := ih (out ++ [⟨t, k, w, m, x⟩]) a1 s1 (by simp; omega) (by
      intro y hy
      rcases List.mem_append.1 hy with hy | hy
      · exact hn y hy
      · rw [List.mem_singleton.1 hy]; exact ⟨⟨hok, hm0, hm1⟩, hk⟩) r1 (by omega)
    refine ⟨r, Ev.succ ?_, by rw [hr]; simp; omega, hr'⟩
    simp only [spec_Notes.l0, if_pos (show ((n + 1 : Nat) : Int) > 0 by omega), w64 (show (-9223372036854775808 : Int) ≤ ((n + 1 : Nat) : Int) - 1 by omega) (show ((n + 1 : Nat) : Int) - 1 ≤ 9223372036854775807 by omega)]
    refine Ev.bind e1 (Ev.pos (by omega) ?_)
    rw [show ((n + 1 : Nat) : Int) - 1 = (n : Int) by omega]
    exact e2
theorem spec_Notes.ev (c : List Int) (hb : Bs c) : ∃ r, Ev (fun k => spec_Notes.f k c) r ∧ r.length ≤ 11 ∧ ∀ x ∈ r, okN x ∧ x.f1 < 5 := by
  unfold spec_Notes.f
  obtain ⟨x1, a1, s1, e1, p1, q1, r1, t1, u1⟩ := spec_l5Cur_pick.is c hb 0 0 12 (by omega) (by omega) (by omega)
  obtain ⟨m, rfl⟩ := Int.eq_ofNat_of_zero_le p1
  obtain ⟨r, e2, hr, hr'⟩ := spec_Notes.ev0 c hb m [] a1 s1 (by simp; omega) (by simp) r1 (by omega)
  refine ⟨r, ?_, by simp at hr; omega, hr'⟩
  simp only [e1, Option.bind_some]
  exact e2

/-! ### laws.FnFrames -/
def frameN (n : S27) : List Int := frameM n.f0 n.f1 n.f2 n.f3 n.f4
def frs : List S27 → List Int
  | [] => []
  | n :: l => frameN n ++ frs l
theorem frs_append (a b : List S27) : frs (a ++ b) = frs a ++ frs b := by
  induction a with
  | nil => rfl
  | cons x a ih => simp [frs, ih]
theorem frs_Bs (l : List S27) : Bs (frs l) := by
  induction l with
  | nil => intro x hx; simp [frs] at hx
  | cons n l ih => exact (frameM_Bs _ _ _ _ _).append ih
theorem frs_len (l : List S27) (h : ∀ x ∈ l, okN x ∧ x.f1 < 5) : (frs l).length ≤ 217 * l.length := by
  induction l with
  | nil => simp [frs]
  | cons n l ih =>
    have h1 := ih (fun x hx => h x (List.mem_cons_of_mem _ hx))
    have h2 := (h n List.mem_cons_self).1.1
    have h3 := (noteOk_is h2).2.2.2.2.2.2
    have h4 := frameM_size (n := n.f3) h2
    simp only [frs, List.length_append, List.length_cons, frameN]
    omega
theorem fr1 (ns : List S27) (hn : ∀ x ∈ ns, okN x ∧ x.f1 < 5) (hl : ns.length ≤ 11) : ∀ (d i : Nat), i + d = ns.length → Ev (fun k => laws_FnFrames.l1 k (frs ns) ((frs (ns.take i)).length : Int) ns (ns.length : Int) (i : Int)) true := by
  have hlen := frs_len ns hn
  have hcut : ∀ i, frs ns = frs (ns.take i) ++ frs (ns.drop i) := fun i => by rw [← frs_append, List.take_append_drop]
  intro d
  induction d with
  | zero =>
    intro i hi
    refine Ev.succ ?_
    simp only [laws_FnFrames.l1, if_neg (show ¬ ((i : Int) < (ns.length : Int)) by omega)]
    rw [List.take_of_length_le (by omega)]
    exact Ev.some (by simp)
  | succ d ih =>
    intro i hi
    refine Ev.succ ?_
    have hr := ih (i + 1) (by omega)
    have hrd : rd_T27 ns (i : Int) = ns.getD i z27 := by simp [rd_T27]
    have hm := hn _ (getD_mem ns i z27 (by omega))
    have hc := hcut i
    have hcl := congrArg List.length hc
    rw [List.length_append] at hcl
    have hd : (frs ns).drop (frs (ns.take i)).length = frameN (ns.getD i z27) ++ frs (ns.drop (i + 1)) := by
      rw [hc, List.drop_left, drop_cons ns i z27 (by omega)]; rfl
    have hf := readM_frame (n := (ns.getD i z27).f3) hm.1.1 ⟨hm.1.2.1, hm.1.2.2⟩ (frs (ns.drop (i + 1)))
    have hz := frameM_size (n := (ns.getD i z27).f3) hm.1.1
    have hs := (noteOk_is hm.1.1).2.2.2.2.2.2
    have hdl := congrArg List.length hd
    rw [List.length_drop, List.length_append, frameN, hz] at hdl
    have htk : ((frs (ns.take (i + 1))).length : Int) = (frs (ns.take i)).length + (17 + ((ns.getD i z27).f4.size : Int)) := by
      rw [take_snoc ns i z27 (by omega), frs_append, List.length_append]
      simp only [frs, List.append_nil, frameN, hz]
      omega
    simp only [laws_FnFrames.l1, if_pos (show ((i : Int) < (ns.length : Int)) by omega), if_pos (show (0 : Int) ≤ (i : Int) by omega), hrd, w64s (show i < 9223372036854775807 by omega)]
    refine Ev.pos (by omega) (Ev.pos (by omega) ?_)
    rw [Int.toNat_natCast, hd]
    refine Ev.bind (impl_ReadFrame.ev _ (by rw [← hd, List.length_drop]; omega) ((frameM_Bs _ _ _ _ _).append (frs_Bs _))) ?_
    rw [frameN, hf]
    refine Ev.pos rfl (Ev.neg (by simp) (Ev.neg (by simp only; omega) ?_))
    simp only [w64 (show (-9223372036854775808 : Int) ≤ ((frs (ns.take i)).length : Int) + (17 + ((ns.getD i z27).f4.size : Int)) by omega) (show ((frs (ns.take i)).length : Int) + (17 + ((ns.getD i z27).f4.size : Int)) ≤ 9223372036854775807 by omega)]
    refine Ev.neg (by omega) ?_
    rw [← htk]
    exact hr
theorem fr0 (ns : List S27) (hn : ∀ x ∈ ns, okN x ∧ x.f1 < 5) (hl : ns.length ≤ 11) : ∀ (d i : Nat), i + d = ns.length → Ev (fun k => laws_FnFrames.l0 k (frs (ns.take i)) ns ns (ns.length : Int) (i : Int)) true := by
  have hlen := frs_len ns hn
  intro d
  induction d with
  | zero =>
    intro i hi
    refine Ev.succ ?_
    simp only [laws_FnFrames.l0, if_neg (show ¬ ((i : Int) < (ns.length : Int)) by omega)]
    rw [List.take_of_length_le (by omega)]
    have := fr1 ns hn hl ns.length 0 (by omega)
    simpa [frs] using this
  | succ d ih =>
    intro i hi
    refine Ev.succ ?_
    have hr := ih (i + 1) (by omega)
    have hrd : rd_T27 ns (i : Int) = ns.getD i z27 := by simp [rd_T27]
    have hm := hn _ (getD_mem ns i z27 (by omega))
    have hz := frameM_size (n := (ns.getD i z27).f3) hm.1.1
    have hs := (noteOk_is hm.1.1).2.2.2.2.2.2
    have hf := readM_frame (n := (ns.getD i z27).f3) hm.1.1 ⟨hm.1.2.1, hm.1.2.2⟩ []
    rw [List.append_nil] at hf
    have htk : frs (ns.take (i + 1)) = frs (ns.take i) ++ frameM (ns.getD i z27).f0 (ns.getD i z27).f1 (ns.getD i z27).f2 (ns.getD i z27).f3 (ns.getD i z27).f4 := by
      rw [take_snoc ns i z27 (by omega), frs_append]
      simp [frs, frameN]
    have hcl := frs_len (ns.take i) (fun x hx => hn x (List.mem_of_mem_take hx))
    have htl : (ns.take i).length ≤ 11 := by rw [List.length_take]; omega
    simp only [laws_FnFrames.l0, if_pos (show ((i : Int) < (ns.length : Int)) by omega), if_pos (show (0 : Int) ≤ (i : Int) by omega), hrd]
    refine Ev.bind (impl_Frame.ev ..) (Ev.bind (spec_Frame.ev ..) (Ev.bind (laws_wBytes.refl _ (by omega)) (Ev.pos rfl ?_)))
    refine Ev.succ ?_
    simp only [laws_FnFrames.j2, w64s (show i < 9223372036854775807 by omega)]
    refine Ev.neg (by rw [hz]; simp only [beq_iff_eq]; omega) (Ev.pos (by omega) (Ev.bind (impl_ReadFrame.ev _ (by omega) (frameM_Bs _ _ _ _ _)) ?_))
    rw [hf]
    refine Ev.pos rfl (Ev.neg (by simp) (Ev.pos (by simp only; omega) ?_))
    rw [hz, w64 (by omega) (by omega)]
    refine Ev.pos (by omega) (Ev.pos (by omega) ?_)
    refine Ev.bind (impl_ReadFrame.ev _ (by rw [List.length_take]; omega) ((frameM_Bs _ _ _ _ _).take _)) ?_
    have hsh := readM_short (n := (ns.getD i z27).f3) hm.1.1 (((17 + (ns.getD i z27).f4.size : Nat) : Int) - 1).toNat (by omega)
    rw [hsh]
    refine Ev.neg (by simp) ?_
    rw [← htk]
    exact hr
theorem pure : laws_FnFrames.Pure := by
  intro c m ⟨h1, h2⟩ ⟨h3, h4⟩
  refine Ev.rounds ?_
  have hc := Bs.of_wf h2
  have triv : Ev (fun k => laws_FnFrames.j0 k c true) true := Ev.succ (by simp only [laws_FnFrames.j0, if_true]; exact Ev.now _)
  unfold laws_FnFrames.f
  by_cases h5 : (c.length : Int) > 1048576
  · exact Ev.pos h5 triv
  refine Ev.neg h5 ?_
  by_cases h6 : (m.length : Int) > 1048576
  · rw [decide_eq_true h6]; exact triv
  rw [decide_eq_false h6]
  obtain ⟨ns, e, hl, hn⟩ := spec_Notes.ev c hc
  refine Ev.succ ?_
  simp only [laws_FnFrames.j0]
  refine Ev.neg (by simp) (Ev.bind e ?_)
  exact fr0 ns hn hl ns.length 0 (by omega)

end Go.Proofs.Ytkhakdggfknlpaa.PFnFrames
