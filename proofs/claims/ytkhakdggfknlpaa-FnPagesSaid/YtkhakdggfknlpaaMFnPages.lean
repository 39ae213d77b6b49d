/- What the functions that FnPages reaches tell, and its pure statement. No condition. -/
import Derived.Test.YtkhakdggfknlpaaPFnPagesx0
import Derived.Test.YtkhakdggfknlpaaPFnPagesx1
import Derived.Test.YtkhakdggfknlpaaPFnPagesx2
import Derived.Test.YtkhakdggfknlpaaPFnPagesx3
import Derived.Test.YtkhakdggfknlpaaPFnPagesx4
import Derived.Test.YtkhakdggfknlpaaPFnPagesx5
import Derived.Test.YtkhakdggfknlpaaMath
namespace Go.Proofs.Ytkhakdggfknlpaa.PFnPages
open Go.RowKit Go.Proofs.YtkhakdggfknlpaaW.PrintWords Go.Proofs.YtkhakdggfknlpaaW.PrintLast Go.Proofs.Ytkhakdggfknlpaa.Math
set_option linter.unusedVariables false
set_option linter.unusedSimpArgs false

/-! ### spec.l1in -/
theorem spec_l1in.is (a lo hi : Int) : spec_l1in.f a lo hi = some (decide (lo ≤ a ∧ a ≤ hi)) := by
  unfold spec_l1in.f
  by_cases h : a ≥ lo
  · rw [if_pos h]; simp [h]
  · rw [if_neg h]; simp only [ge_iff_le, Int.not_le] at h; simp [show ¬ lo ≤ a by omega]

/-! ### spec.l1put -/
theorem spec_l1put.ev0 : ∀ (d : Nat) (l : List Int) (v a2 : Int) (i : Nat), (i : Int) + d = a2 → l.length + d < 140737488355328 → a2 ≤ 1000000 → Ev (fun k => spec_l1put.l0 k l v a2 (i : Int)) (l ++ lowB v d) := by
  intro d
  induction d with
  | zero =>
    intro l v a2 i hi hl ha
    refine Ev.succ ?_
    simp only [spec_l1put.l0, if_neg (show ¬ ((i : Int) < a2) by omega)]
    exact Ev.some (by simp [lowB])
  | succ d ih =>
    intro l v a2 i hi hl ha
    refine Ev.succ ?_
    have hr := ih (l ++ [v % 256]) (v / 256) a2 (i + 1) (by omega) (by simp; omega) ha
    simp only [spec_l1put.l0, if_pos (show ((i : Int) < a2) by omega), if_pos (show l.length < 140737488355328 by omega), w64s (show i < 9223372036854775807 by omega)]
    rw [show l ++ lowB v (d + 1) = l ++ [v % 256] ++ lowB (v / 256) d by simp [lowB]]
    exact hr
theorem spec_l1put.ev (l : List Int) (v : Int) (n : Nat) (hl : l.length + n < 140737488355328) (hn : n ≤ 1000000) : Ev (fun k => spec_l1put.f k l v (n : Int)) (l ++ lowB v n) := by
  unfold spec_l1put.f
  exact spec_l1put.ev0 n l v n 0 (by omega) hl (by omega)

/-! ### impl.low -/
theorem impl_low.ev0 : ∀ (d : Nat) (l : List Int) (v a2 : Int) (i : Nat), (i : Int) + d = a2 → l.length + d < 140737488355328 → a2 ≤ 1000000 → Ev (fun k => impl_low.l0 k l v a2 (i : Int)) (l ++ lowB v d) := by
  intro d
  induction d with
  | zero =>
    intro l v a2 i hi hl ha
    refine Ev.succ ?_
    simp only [impl_low.l0, if_neg (show ¬ ((i : Int) < a2) by omega)]
    exact Ev.some (by simp [lowB])
  | succ d ih =>
    intro l v a2 i hi hl ha
    refine Ev.succ ?_
    have hr := ih (l ++ [v % 256]) (v / 256) a2 (i + 1) (by omega) (by simp; omega) ha
    simp only [impl_low.l0, if_pos (show ((i : Int) < a2) by omega), if_pos (show l.length < 140737488355328 by omega), w64s (show i < 9223372036854775807 by omega)]
    rw [show l ++ lowB v (d + 1) = l ++ [v % 256] ++ lowB (v / 256) d by simp [lowB]]
    exact hr
theorem impl_low.ev (l : List Int) (v : Int) (n : Nat) (hl : l.length + n < 140737488355328) (hn : n ≤ 1000000) : Ev (fun k => impl_low.f k l v (n : Int)) (l ++ lowB v n) := by
  unfold impl_low.f
  exact impl_low.ev0 n l v n 0 (by omega) hl (by omega)

/-! ### spec.l2check -/
theorem spec_l2check.ev0 (l : List Int) (hl : l.length ≤ 140737488355328) : ∀ (d i : Nat) (s : Int), i + d = l.length → Ev (fun k => spec_l2check.l0 k s l (l.length : Int) (i : Int)) (checkFrom i s (l.drop i)) := by
  intro d
  induction d with
  | zero =>
    intro i s hi
    refine Ev.succ ?_
    simp only [spec_l2check.l0, if_neg (show ¬ ((i : Int) < (l.length : Int)) by omega)]
    rw [drop_nil l i (by omega)]
    exact Ev.now _
  | succ d ih =>
    intro i s hi
    refine Ev.succ ?_
    simp only [spec_l2check.l0, if_pos (show ((i : Int) < (l.length : Int)) by omega), if_pos (show (0 : Int) ≤ (i : Int) by omega), rd_nat, w64s (show i < 9223372036854775807 by omega)]
    rw [drop_cons l i 0 (by omega)]
    simp only [checkFrom]
    by_cases h : i = 1
    · refine Ev.pos (by omega) ?_
      rw [if_pos h]
      exact ih (i + 1) s (by omega)
    · refine Ev.neg (by omega) ?_
      rw [if_neg h]
      exact ih (i + 1) _ (by omega)
theorem spec_l2check.ev (l : List Int) (hl : l.length ≤ 140737488355328) : Ev (fun k => spec_l2check.f k l) (checkFrom 0 0 l) := by
  unfold spec_l2check.f
  have := spec_l2check.ev0 l hl l.length 0 0 (by omega)
  simpa using this

/-! ### impl.check -/
theorem impl_check.ev0 (l : List Int) (hl : l.length ≤ 140737488355328) : ∀ (d i : Nat) (s : Int), i + d = l.length → Ev (fun k => impl_check.l0 k s l (l.length : Int) (i : Int)) (checkFrom i s (l.drop i)) := by
  intro d
  induction d with
  | zero =>
    intro i s hi
    refine Ev.succ ?_
    simp only [impl_check.l0, if_neg (show ¬ ((i : Int) < (l.length : Int)) by omega)]
    rw [drop_nil l i (by omega)]
    exact Ev.now _
  | succ d ih =>
    intro i s hi
    refine Ev.succ ?_
    simp only [impl_check.l0, if_pos (show ((i : Int) < (l.length : Int)) by omega), if_pos (show (0 : Int) ≤ (i : Int) by omega), rd_nat, w64s (show i < 9223372036854775807 by omega)]
    rw [drop_cons l i 0 (by omega)]
    simp only [checkFrom]
    by_cases h : i = 1
    · refine Ev.pos (by omega) ?_
      rw [if_pos h]
      exact ih (i + 1) s (by omega)
    · refine Ev.neg (by omega) ?_
      rw [if_neg h]
      exact ih (i + 1) _ (by omega)
theorem impl_check.ev (l : List Int) (hl : l.length ≤ 140737488355328) : Ev (fun k => impl_check.f k l) (checkFrom 0 0 l) := by
  unfold impl_check.f
  have := impl_check.ev0 l hl l.length 0 0 (by omega)
  simpa using this

/-! ### spec.PageBlock -/
theorem spec_PageBlock.pad : ∀ (d : Nat) (l : List Int), l.length + d = 64 → 1 < l.length → Ev (fun k => spec_PageBlock.l0 k l) ((l ++ List.replicate d 0).set 1 (checkFrom 0 0 (l ++ List.replicate d 0))) := by
  intro d
  induction d with
  | zero =>
    intro l hl h1
    refine Ev.succ ?_
    simp only [spec_PageBlock.l0, if_neg (show ¬ ((l.length : Int) < 64) by omega)]
    refine Ev.bind (spec_l2check.ev l (by omega)) ?_
    refine Ev.pos (by omega) ?_
    exact Ev.some (by simp)
  | succ d ih =>
    intro l hl h1
    refine Ev.succ ?_
    have hr := ih (l ++ [0]) (by simp; omega) (by simp; omega)
    simp only [spec_PageBlock.l0, if_pos (show ((l.length : Int) < 64) by omega), if_pos (show l.length < 140737488355328 by omega)]
    rw [show l ++ List.replicate (d + 1) 0 = l ++ [0] ++ List.replicate d 0 by simp [List.replicate_succ]]
    exact hr
theorem spec_PageBlock.ev (b : Bool) (g : Int) (l : List Int) (hg : -9223372036854775808 ≤ g ∧ g ≤ 9223372036854775807) : Ev (fun k => spec_PageBlock.f k b g l) (pageM b g l) := by
  unfold spec_PageBlock.f
  simp only [spec_l1in.is, Option.bind_some, decide_eq_true_eq]
  unfold pageM
  have no : Ev (fun k => spec_PageBlock.j0 k true b g l) [] := Ev.succ (by simp only [spec_PageBlock.j0, if_true]; exact Ev.now _)
  by_cases h1 : b = true
  · refine Ev.pos h1 ?_
    by_cases h2 : 1 ≤ g ∧ g ≤ 1000000000
    · refine Ev.pos h2 ?_
      by_cases h3 : l.length ≤ 56
      · rw [if_pos ⟨h1, h2.1, h2.2, h3⟩]
        refine Ev.succ ?_
        simp only [spec_PageBlock.j0]
        refine Ev.neg (by simp; omega) ?_
        refine Ev.bind (spec_l1put.ev _ _ 4 (by simp) (by omega)) ?_
        simp only [Option.bind_some]
        refine Ev.pos (by simp [lowB_length]) ?_
        refine Ev.pos (by simp [lowB_length]; omega) ?_
        rw [u64_wrap, Int.emod_eq_of_lt (a := g) (by omega) (by omega), Int.emod_eq_of_lt (a := (l.length : Int)) (by omega) (by omega)]
        have := spec_PageBlock.pad (56 - l.length) ([76, 0] ++ lowB g 4 ++ [(l.length : Int), 0] ++ l) (by simp [lowB_length]; omega) (by simp)
        exact this
      · rw [if_neg (fun h => h3 h.2.2.2), decide_eq_true (by omega)]
        exact no
    · rw [if_neg (fun h => h2 ⟨h.2.1, h.2.2.1⟩)]
      exact Ev.neg h2 no
  · rw [if_neg (fun h => h1 h.1)]
    exact Ev.neg h1 no

/-! ### impl.PageBlock -/
theorem impl_PageBlock.ev (b : Bool) (g : Int) (l : List Int) (hg : -9223372036854775808 ≤ g ∧ g ≤ 9223372036854775807) : Ev (fun k => impl_PageBlock.f k b g l) (pageM b g l) := by
  unfold impl_PageBlock.f
  unfold pageM
  have no : Ev (fun k => impl_PageBlock.j0 k true b g l) [] := Ev.succ (by simp only [impl_PageBlock.j0, if_true]; exact Ev.now _)
  by_cases h1 : b = true
  · refine Ev.pos h1 ?_
    by_cases h2 : 1 ≤ g
    · refine Ev.neg (by omega) ?_
      by_cases h2' : g ≤ 1000000000
      · refine Ev.neg (by omega) ?_
        by_cases h3 : l.length ≤ 56
        · rw [if_pos ⟨h1, h2, h2', h3⟩]
          refine Ev.succ ?_
          simp only [impl_PageBlock.j0]
          refine Ev.neg (by simp; omega) ?_
          refine Ev.bind (impl_low.ev _ _ 4 (by simp) (by omega)) ?_
          simp only [Option.bind_some]
          refine Ev.pos (by simp [lowB_length]) ?_
          refine Ev.pos (by simp [lowB_length]; omega) ?_
          rw [u64_wrap, Int.emod_eq_of_lt (a := g) (by omega) (by omega), Int.emod_eq_of_lt (a := (l.length : Int)) (by omega) (by omega)]
          have hx : ([76, 0] ++ lowB g 4 ++ [(l.length : Int), 0] ++ l).length = 8 + l.length := by simp [lowB_length]; omega
          have hw : wrap64 (64 - (([76, 0] ++ lowB g 4 ++ [(l.length : Int), 0] ++ l).length : Int)) = ((56 - l.length : Nat) : Int) := by rw [hx, w64 (by omega) (by omega)]; omega
          simp only [hw, Int.toNat_natCast]
          refine Ev.pos (by omega) ?_
          refine Ev.pos (by rw [hx]; omega) ?_
          refine Ev.bind (impl_check.ev _ (by rw [List.length_append, hx]; simp; omega)) ?_
          refine Ev.pos (by rw [List.length_append, hx]; simp; omega) ?_
          exact Ev.now _
        · rw [if_neg (fun h => h3 h.2.2.2), decide_eq_true (by omega)]
          exact no
      · rw [if_neg (fun h => h2' h.2.2.1)]
        exact Ev.pos (by omega) no
    · rw [if_neg (fun h => h2 h.2.1)]
      exact Ev.pos (by omega) no
  · rw [if_neg (fun h => h1 h.1)]
    exact Ev.neg h1 no

/-! ### impl.num -/
theorem impl_num.ev0 (l : List Int) (hl : l.length ≤ 8) (hb : Bs l) : ∀ (i : Nat), i ≤ l.length → Ev (fun k => impl_num.l0 k l (numM (l.drop i)) ((i : Int) - 1)) (numM l) := by
  intro i
  induction i with
  | zero =>
    intro hi
    refine Ev.succ ?_
    simp only [impl_num.l0, if_neg (show ¬ (((0 : Nat) : Int) - 1 ≥ 0) by omega)]
    exact Ev.now _
  | succ i ih =>
    intro hi
    refine Ev.succ ?_
    have hr := ih (by omega)
    have e : ((i + 1 : Nat) : Int) - 1 = (i : Int) := by omega
    have hg := hb.getD i
    have hn := numM_nonneg (hb.drop (i + 1))
    have hlt2 := numM_lt7 (hb.drop (i + 1)) (by simp; omega)
    simp only [impl_num.l0, e, if_pos (show (i : Int) ≥ 0 by omega), if_pos (show (0 : Int) ≤ (i : Int) by omega), if_pos (show (i : Int) < (l.length : Int) by omega), rd_nat, or_join hn hlt2 hg.1 hg.2, w64 (show (-9223372036854775808 : Int) ≤ (i : Int) - 1 by omega) (show (i : Int) - 1 ≤ 9223372036854775807 by omega)]
    rw [show l.getD i 0 + 256 * numM (l.drop (i + 1)) = numM (l.drop i) by rw [drop_cons l i 0 (by omega)]; rfl]
    exact hr
theorem impl_num.ev (l : List Int) (hl : l.length ≤ 8) (hb : Bs l) : Ev (fun k => impl_num.f k l) (numM l) := by
  unfold impl_num.f
  rw [w64 (by omega) (by omega)]
  have := impl_num.ev0 l hl hb l.length (Nat.le_refl _)
  rwa [drop_nil l l.length (Nat.le_refl _)] at this

/-! ### impl.cp -/
theorem impl_cp.is (l : List Int) (hl : l.length < 140737488355328) : impl_cp.f l = some l := by
  unfold impl_cp.f
  rw [if_pos (by simpa using hl)]
  simp

/-! ### impl.PageOf -/
theorem impl_PageOf.no (b : List Int) : Ev (fun k => impl_PageOf.j0 k b true) (false, 0, []) := Ev.succ (by simp only [impl_PageOf.j0, if_true]; exact Ev.now _)
theorem impl_PageOf.ev (b : List Int) (hl : b.length ≤ 140737488355328) (hb : Bs b) : Ev (fun k => impl_PageOf.f k b) (pageOfM b) := by
  unfold impl_PageOf.f
  by_cases h1 : b.length = 64
  · refine Ev.pos (by omega) (Ev.pos (by omega) ?_)
    have e6 : rd b 6 = b.getD 6 0 := rd_nat b 6
    have g6 := hb.getD 6
    rw [e6]
    by_cases h2 : b.getD 6 0 ≤ 56
    · rw [decide_eq_false (by omega)]
      refine Ev.succ ?_
      simp only [impl_PageOf.j0, e6, w64 (show (-9223372036854775808 : Int) ≤ b.getD 6 0 by omega) (show b.getD 6 0 ≤ 9223372036854775807 by omega), w64 (show (-9223372036854775808 : Int) ≤ 8 + b.getD 6 0 by omega) (show 8 + b.getD 6 0 ≤ 9223372036854775807 by omega)]
      have t0 := numM_nonneg ((hb.take 6).drop 2)
      have t1 := numM_lt7 ((hb.take 6).drop 2) (by simp; omega)
      refine Ev.neg (by simp) (Ev.pos (by omega) (Ev.pos (by omega) ?_))
      refine Ev.bind (impl_num.ev _ (by simp; omega) ((hb.take 6).drop 2)) (Ev.pos (by omega) (Ev.pos (by omega) (Ev.pos (by omega) ?_)))
      refine Ev.bind (Ev.ok (impl_cp.is _ (by simp; omega))) ?_
      rw [w64 (x := numM ((b.take 6).drop 2)) (by omega) (by omega)]
      refine Ev.bind (impl_PageBlock.ev true _ _ (by omega)) ?_
      rw [pageOfM_eq h1 h2]
      by_cases h3 : pageM true (numM ((b.take 6).drop 2)) ((b.take (8 + b.getD 6 0).toNat).drop 8) = b
      · rw [if_pos h3]
        exact Ev.pos (by rw [h3]) (Ev.now _)
      · rw [if_neg h3]
        refine Ev.neg (fun e => h3 ?_) (Ev.now _)
        exact strOfNums_inj (pageM_Bs ((hb.take _).drop 8)) hb (toList_inj e)
    · rw [decide_eq_true (by omega), pageOfM_no (fun h => h2 h.2)]
      exact impl_PageOf.no b
  · rw [pageOfM_no (fun h => h1 h.1)]
    exact Ev.neg (by omega) (impl_PageOf.no b)

/-! ### laws.wBytes -/
theorem laws_wBytes.refl0 (a : List Int) (hb : a.length ≤ 140737488355328) : ∀ d i : Nat, i + d = a.length → Ev (fun k => laws_wBytes.l0 k a a (a.length : Int) (i : Int)) true := by
  intro d
  induction d with
  | zero =>
    intro i hi
    refine Ev.succ ?_
    simp only [laws_wBytes.l0, if_neg (show ¬ ((i : Int) < (a.length : Int)) by omega)]
    exact Ev.now _
  | succ d ih =>
    intro i hi
    refine Ev.succ ?_
    simp only [laws_wBytes.l0, if_pos (show ((i : Int) < (a.length : Int)) by omega), if_pos (show (0 : Int) ≤ (i : Int) by omega), w64s (show i < 9223372036854775807 by omega), if_true]
    exact ih (i + 1) (by omega)
theorem laws_wBytes.refl (a : List Int) (hb : a.length ≤ 140737488355328) : Ev (fun k => laws_wBytes.f k a a) true := by
  unfold laws_wBytes.f
  refine Ev.pos rfl ?_
  have := laws_wBytes.refl0 a hb a.length 0 (by omega)
  simpa using this

/-! ### laws.wByte -/
theorem laws_wByte.is (l : List Int) (i : Int) (hi : 0 ≤ i) (hl : l.length ≤ 1048576) (hb : Bs l) : ∃ r, laws_wByte.f l i = some r ∧ 0 ≤ r ∧ r ≤ 255 := by
  unfold laws_wByte.f
  by_cases h : (l.length : Int) = 0
  · exact ⟨0, if_pos h, by omega, by omega⟩
  · rw [if_neg h, Int.tmod_eq_emod_of_nonneg hi]
    have h1 := Int.emod_nonneg i h
    have h2 := Int.emod_lt_of_pos i (show (0 : Int) < (l.length : Int) by omega)
    rw [if_pos h1, if_pos h2]
    obtain ⟨j, hj⟩ := Int.eq_ofNat_of_zero_le h1
    rw [hj]
    have := hb.getD j
    refine ⟨_, rfl, ?_⟩
    rw [rd_nat, w64 (by omega) (by omega)]
    exact this

/-! ### spec.l5Cur.next -/
/-- A cursor's place is within reach. -/
theorem spec_l5Cur_next.is (c : List Int) (hb : Bs c) (a s : Int) (h0 : 0 ≤ a) (h1 : a ≤ 4611686018427387904) : ∃ x s', spec_l5Cur_next.f c a s = some (x, a + 1, s') ∧ 0 ≤ x ∧ x ≤ 255 := by
  unfold spec_l5Cur_next.f
  rw [w64 (x := a + 1) (by omega) (by omega)]
  by_cases h : a < (c.length : Int)
  · rw [if_pos h, if_pos h0]
    obtain ⟨j, rfl⟩ := Int.eq_ofNat_of_zero_le h0
    have hg := hb.getD j
    refine ⟨_, _, rfl, ?_⟩
    rw [rd_nat, w64 (by omega) (by omega)]
    exact hg
  · rw [if_neg h]
    refine ⟨_, _, rfl, ?_⟩
    rw [and255 _ (by rw [u64_wrap]; omega) (by rw [u64_wrap]; omega), w64 (by omega) (by omega)]
    omega

/-! ### spec.l5Cur.pick -/
theorem spec_l5Cur_pick.is (c : List Int) (hb : Bs c) (a s : Int) (n : Int) (h0 : 0 ≤ a) (h1 : a ≤ 4611686018427387000) (hn : n ≤ 1000000000) : ∃ x a' s', spec_l5Cur_pick.f c a s n = some (x, a', s') ∧ 0 ≤ x ∧ (x < n ∨ n ≤ 1 ∧ x = 0) ∧ 0 ≤ a' ∧ a ≤ a' ∧ a' ≤ a + 2 := by
  unfold spec_l5Cur_pick.f
  by_cases h : n ≤ 1
  · rw [if_pos h]
    exact ⟨0, a, s, rfl, by omega, by omega, h0, by omega, by omega⟩
  · rw [if_neg h]
    obtain ⟨x, s1, e1, hx0, hx1⟩ := spec_l5Cur_next.is c hb a s h0 (by omega)
    rw [e1]
    simp only [Option.bind_some]
    by_cases h2 : n > 200
    · rw [if_pos h2]
      obtain ⟨y, s2, e2, hy0, hy1⟩ := spec_l5Cur_next.is c hb (a + 1) s1 (by omega) (by omega)
      rw [e2]
      simp only [Option.bind_some]
      rw [if_neg (by omega), w64 (x := x * 256) (by omega) (by omega), w64 (by omega) (by omega), Int.tmod_eq_emod_of_nonneg (by omega)]
      exact ⟨_, _, _, rfl, Int.emod_nonneg _ (by omega), .inl (Int.emod_lt_of_pos _ (by omega)), by omega, by omega, by omega⟩
    · rw [if_neg h2, if_neg (by omega), Int.tmod_eq_emod_of_nonneg (by omega)]
      exact ⟨_, _, _, rfl, Int.emod_nonneg _ (by omega), .inl (Int.emod_lt_of_pos _ (by omega)), by omega, by omega, by omega⟩

/-! ### spec.l5Cur.bytes -/
theorem spec_l5Cur_bytes.ev0 (c : List Int) (hb : Bs c) : ∀ (n : Nat) (out : List Int) (a s : Int), out.length + n ≤ 1000000000 → Bs out → 0 ≤ a → a + n ≤ 4611686018427387000 → ∃ l s', Ev (fun k => spec_l5Cur_bytes.l0 k (n : Int) out c a s) (l, a + n, s') ∧ Bs l ∧ l.length = out.length + n := by
  intro n
  induction n with
  | zero =>
    intro out a s ho hbo h0 h1
    refine ⟨out, s, Ev.succ ?_, hbo, by simp⟩
    simp only [spec_l5Cur_bytes.l0, if_neg (show ¬ (((0 : Nat) : Int) > 0) by omega)]
    exact Ev.some (by simp)
  | succ n ih =>
    intro out a s ho hbo h0 h1
    obtain ⟨x, s1, e1, hx0, hx1⟩ := spec_l5Cur_next.is c hb a s h0 (by omega)
    obtain ⟨l, s2, e2, hl, hll⟩ := ih (out ++ [x % 256]) (a + 1) s1 (by simp; omega) (hbo.append (by intro y hy; simp at hy; omega)) (by omega) (by omega)
    refine ⟨l, s2, Ev.succ ?_, hl, by rw [hll]; simp; omega⟩
    simp only [spec_l5Cur_bytes.l0, if_pos (show ((n + 1 : Nat) : Int) > 0 by omega), e1, Option.bind_some, if_pos (show out.length < 140737488355328 by omega), w64 (show (-9223372036854775808 : Int) ≤ ((n + 1 : Nat) : Int) - 1 by omega) (show ((n + 1 : Nat) : Int) - 1 ≤ 9223372036854775807 by omega)]
    rw [show ((n + 1 : Nat) : Int) - 1 = (n : Int) by omega, show a + ((n + 1 : Nat) : Int) = a + 1 + (n : Int) by omega]
    exact e2
theorem spec_l5Cur_bytes.ev (c : List Int) (hb : Bs c) (n a s : Int) (hn : 0 ≤ n) (hn' : n ≤ 1000000) (h0 : 0 ≤ a) (h1 : a ≤ 4611686018426387000) : ∃ l s', Ev (fun k => spec_l5Cur_bytes.f k c a s n) (l, a + n, s') ∧ Bs l ∧ (l.length : Int) = n := by
  obtain ⟨m, rfl⟩ := Int.eq_ofNat_of_zero_le hn
  obtain ⟨l, s', e, hl, hll⟩ := spec_l5Cur_bytes.ev0 c hb m [] a s (by simp; omega) (by intro y hy; simp at hy) h0 (by omega)
  refine ⟨l, s', ?_, hl, by simp at hll; omega⟩
  unfold spec_l5Cur_bytes.f
  exact e

/-! ### spec.l5Cur.page -/
theorem spec_l5Cur_page.ev (c : List Int) (hb : Bs c) (a s : Int) (h0 : 0 ≤ a) (h1 : a ≤ 4611686018420000000) : ∃ o g l a' s', Ev (fun k => spec_l5Cur_page.f k c a s) (o, g, l, a', s') ∧ Bs l ∧ l.length ≤ 57 ∧ -1 ≤ g ∧ g ≤ 1000000001 ∧ 0 ≤ a' ∧ a' ≤ a + 200 := by
  unfold spec_l5Cur_page.f
  obtain ⟨x1, a1, s1, e1, p1, q1, r1, t1, u1⟩ := spec_l5Cur_pick.is c hb a s 12 h0 (by omega) (by omega)
  obtain ⟨x2, a2, s2, e2, p2, q2, r2, t2, u2⟩ := spec_l5Cur_pick.is c hb a1 s1 9 r1 (by omega) (by omega)
  obtain ⟨x3, a3, s3, e3, p3, q3, r3, t3, u3⟩ := spec_l5Cur_pick.is c hb a2 s2 30 r2 (by omega) (by omega)
  obtain ⟨l, s4, e4, bl, ll⟩ := spec_l5Cur_bytes.ev c hb x3 a3 s3 p3 (by omega) r3 (by omega)
  obtain ⟨x5, a5, s5, e5, p5, q5, r5, t5, u5⟩ := spec_l5Cur_pick.is c hb (a3 + x3) s4 14 (by omega) (by omega) (by omega)
  simp only [e1, e2, e3, Option.bind_some]
  by_cases h5 : x5 = 0
  · obtain ⟨x6, a6, s6, e6, p6, q6, r6, t6, u6⟩ := spec_l5Cur_pick.is c hb a5 s5 4 r5 (by omega) (by omega)
    refine ⟨decide (x1 > 0), rd [(-1), 0, 1000000000, 1000000001] x6, l, a6, s6, ?_, bl, by omega, ?_, ?_, r6, by omega⟩
    · refine Ev.bind e4 ?_
      simp only [e5, Option.bind_some]
      refine Ev.pos h5 ?_
      simp only [e6, Option.bind_some]
      exact Ev.pos p6 (Ev.pos (by simp; omega) (Ev.now _))
    · have : x6 = 0 ∨ x6 = 1 ∨ x6 = 2 ∨ x6 = 3 := by omega
      rcases this with rfl | rfl | rfl | rfl <;> decide
    · have : x6 = 0 ∨ x6 = 1 ∨ x6 = 2 ∨ x6 = 3 := by omega
      rcases this with rfl | rfl | rfl | rfl <;> decide
  · by_cases h6 : x5 = 1
    · obtain ⟨x6, a6, s6, e6, p6, q6, r6, t6, u6⟩ := spec_l5Cur_pick.is c hb a5 s5 2 r5 (by omega) (by omega)
      obtain ⟨l7, s7, e7, bl7, ll7⟩ := spec_l5Cur_bytes.ev c hb (56 + x6) a6 s6 (by omega) (by omega) r6 (by omega)
      refine ⟨decide (x1 > 0), 1 + x2, l7, a6 + (56 + x6), s7, ?_, bl7, by omega, by omega, by omega, by omega, by omega⟩
      refine Ev.bind e4 ?_
      simp only [e5, Option.bind_some]
      refine Ev.neg h5 (Ev.pos h6 ?_)
      simp only [e6, Option.bind_some]
      rw [w64 (x := 56 + x6) (by omega) (by omega), w64 (x := 1 + x2) (by omega) (by omega)]
      exact Ev.bind e7 (Ev.now _)
    · refine ⟨decide (x1 > 0), 1 + x2, l, a5, s5, ?_, bl, by omega, by omega, by omega, r5, by omega⟩
      refine Ev.bind e4 ?_
      simp only [e5, Option.bind_some]
      rw [w64 (x := 1 + x2) (by omega) (by omega)]
      exact Ev.neg h5 (Ev.neg h6 (Ev.now _))

/-! ### spec.DrawPageBlock -/
theorem spec_DrawPageBlock.ev (c : List Int) (hb : Bs c) : ∃ o g l, Ev (fun k => spec_DrawPageBlock.f k c) (o, g, l) ∧ Bs l ∧ l.length ≤ 57 ∧ -1 ≤ g ∧ g ≤ 1000000001 := by
  obtain ⟨o, g, l, a', s', e, hl, hll, h1, h2, _⟩ := spec_l5Cur_page.ev c hb 0 0 (by omega) (by omega)
  refine ⟨o, g, l, ?_, hl, hll, h1, h2⟩
  unfold spec_DrawPageBlock.f
  exact Ev.bind e (Ev.now _)

/-! ### laws.FnPages -/
theorem pure : laws_FnPages.Pure := by
  intro c m ⟨h1, h2⟩ ⟨h3, h4⟩
  refine Ev.rounds ?_
  have hc := Bs.of_wf h2
  have hm := Bs.of_wf h4
  have triv : Ev (fun k => laws_FnPages.j0 k c m true) true := Ev.succ (by simp only [laws_FnPages.j0, if_true]; exact Ev.now _)
  unfold laws_FnPages.f
  by_cases h5 : (c.length : Int) > 1048576
  · exact Ev.pos h5 triv
  refine Ev.neg h5 ?_
  by_cases h6 : (m.length : Int) > 1048576
  · rw [decide_eq_true h6]; exact triv
  rw [decide_eq_false h6]
  obtain ⟨o, g, l, e, bl, ll, g0, g1⟩ := spec_DrawPageBlock.ev c hc
  have hlen := pageM_len o g l
  refine Ev.succ ?_
  simp only [laws_FnPages.j0]
  refine Ev.neg (by simp) (Ev.bind e (Ev.bind (impl_PageBlock.ev o g l (by omega)) (Ev.bind (spec_PageBlock.ev o g l (by omega)) (Ev.bind (laws_wBytes.refl _ (by omega)) (Ev.pos rfl ?_)))))
  have hB : Bs (pageM o g l) := pageM_Bs bl
  by_cases h7 : (pageM o g l).length = 0
  · refine Ev.pos (by omega) (Ev.bind (impl_PageOf.ev _ (by omega) hB) ?_)
    rw [List.eq_nil_of_length_eq_zero h7]
    exact Ev.now _
  · refine Ev.neg (by omega) (Ev.bind (impl_PageOf.ev _ (by omega) hB) ?_)
    obtain ⟨_, _, ho, hg0, hg1, hl⟩ := pageM_is (b := o) (g := g) (l := l) rfl (fun e => h7 (by rw [e]; rfl))
    subst ho
    have hp := pageOf_pageM hg0 hg1 hl
    have hl64 : (pageM true g l).length = 64 := (pageM_is (b := true) (g := g) (l := l) rfl (fun e => h7 (by rw [e]; rfl))).1
    rw [hp]
    refine Ev.pos rfl (Ev.pos rfl (Ev.bind (laws_wBytes.refl l (by omega)) ?_))
    refine Ev.succ ?_
    simp only [laws_FnPages.j1]
    obtain ⟨w0, ew0, p0, q0⟩ := laws_wByte.is m 0 (by omega) (by omega) hm
    obtain ⟨w1, ew1, p1, q1⟩ := laws_wByte.is m 1 (by omega) (by omega) hm
    simp only [ew0, ew1, Option.bind_some, hl64]
    rw [Int.tmod_eq_emod_of_nonneg p0, Int.tmod_eq_emod_of_nonneg p1]
    have hi : (((64 : Nat) : Int)) = 64 := rfl
    rw [hi]
    have hj0 : 0 ≤ w0 % 64 := Int.emod_nonneg _ (by omega)
    obtain ⟨j, hj⟩ := Int.eq_ofNat_of_zero_le hj0
    have hj1 : j < 64 := by omega
    have hgj := hB.getD j
    refine Ev.neg (by simp) (Ev.neg (by omega) (Ev.pos hj0 (Ev.pos (by omega) ?_)))
    have hrd : rd (pageM true g l) (w0 % 64) = (pageM true g l).getD j 0 := by rw [hj]; exact rd_nat _ _
    rw [hrd, hj, w64 (x := 1 + w1 % 255) (by omega) (by omega)]
    have hb' : Bs ((pageM true g l).set j (((pageM true g l).getD j 0 + (1 + w1 % 255) % 256) % 256)) := by
      intro x hx
      rcases List.mem_or_eq_of_mem_set hx with hx | rfl
      · exact hB x hx
      · omega
    refine Ev.bind (impl_PageOf.ev _ (by rw [List.length_set]; omega) hb') ?_
    refine Ev.some ?_
    have := pageOf_changed (b := pageM true g l) (by rw [hp]) hB j (((pageM true g l).getD j 0 + (1 + w1 % 255) % 256) % 256) hj1 (by omega) (by omega)
    rw [Int.toNat_natCast, this]
    rfl

end Go.Proofs.Ytkhakdggfknlpaa.PFnPages
