/- What the functions that FnExactPageOf reaches tell, and its pure statement. No condition. -/
import Derived.Test.YtkhakdggfknlpaaPFnExactPageOfx0
import Derived.Test.YtkhakdggfknlpaaPFnExactPageOfx1
import Derived.Test.YtkhakdggfknlpaaPFnExactPageOfx2
import Derived.Test.YtkhakdggfknlpaaPFnExactPageOfx3
import Derived.Test.YtkhakdggfknlpaaPFnExactPageOfx4
import Derived.Test.YtkhakdggfknlpaaPFnExactPageOfx5
import Derived.Test.YtkhakdggfknlpaaPFnExactPageOfx6
import Derived.Test.YtkhakdggfknlpaaMath
namespace Go.Proofs.Ytkhakdggfknlpaa.PFnExactPageOf
open Go.RowKit Go.Proofs.YtkhakdggfknlpaaW.PrintWords Go.Proofs.YtkhakdggfknlpaaW.PrintLast Go.Proofs.Ytkhakdggfknlpaa.Math
set_option linter.unusedVariables false
set_option linter.unusedSimpArgs false

/-! ### spec.l1in -/
theorem spec_l1in.is (a lo hi : Int) : spec_l1in.f a lo hi = some (decide (lo ≤ a ∧ a ≤ hi)) := by
  unfold spec_l1in.f
  by_cases h : a ≥ lo
  · rw [if_pos h]; simp [h]
  · rw [if_neg h]; simp only [ge_iff_le, Int.not_le] at h; simp [show ¬ lo ≤ a by omega]

/-! ### laws.eqByteS -/
theorem laws_eqByteS.ev0 (a b : List Int) (hl : a.length = b.length) (hb : a.length ≤ 140737488355328) : ∀ d i : Nat, i + d = a.length → Ev (fun k => laws_eqByteS.l0 k a b (i : Int)) (decide (a.drop i = b.drop i)) := by
  intro d
  induction d with
  | zero =>
    intro i hi
    refine Ev.succ ?_
    simp only [laws_eqByteS.l0, if_neg (show ¬ ((i : Int) < (a.length : Int)) by omega)]
    rw [drop_nil a i (by omega), drop_nil b i (by omega)]
    exact Ev.now _
  | succ d ih =>
    intro i hi
    refine Ev.succ ?_
    have hr := ih (i + 1) (by omega)
    simp only [laws_eqByteS.l0, if_pos (show ((i : Int) < (a.length : Int)) by omega), if_pos (show (0 : Int) ≤ (i : Int) by omega), if_pos (show ((i : Int) < (b.length : Int)) by omega), rd_nat, w64s (show i < 9223372036854775807 by omega)]
    rw [drop_ext a b i 0 (by omega) (by omega)]
    by_cases h : a.getD i 0 = b.getD i 0
    · simp only [if_pos h]
      rw [decide_eq_true h, Bool.true_and]
      exact hr
    · simp only [if_neg h]
      rw [decide_eq_false h, Bool.false_and]
      exact Ev.now _
theorem laws_eqByteS.ev (a b : List Int) (hb : a.length ≤ 140737488355328) : Ev (fun k => laws_eqByteS.f k a b) (decide (a = b)) := by
  unfold laws_eqByteS.f
  by_cases h : a.length = b.length
  · refine Ev.pos (by omega) ?_
    have := laws_eqByteS.ev0 a b h hb a.length 0 (by omega)
    simpa using this
  · refine Ev.neg (by omega) ?_
    rw [decide_eq_false (fun e => h (by rw [e]))]
    exact Ev.now _

/-! ### laws.markByteS -/
theorem laws_markByteS.ev0 : ∀ (d : Nat) (b a : List Int) (x : Int) (i : Nat), b.length = d → a.length = i → i + d ≤ 140737488355328 → 0 ≤ x → x + d ≤ 1000000000000000 → Ev (fun k => laws_markByteS.l0 k (a ++ b) x (i : Int)) (x + d, a ++ marksB x d) := by
  intro d
  induction d with
  | zero =>
    intro b a x i hb ha hi hx hd
    refine Ev.succ ?_
    obtain rfl := List.eq_nil_of_length_eq_zero hb
    simp only [laws_markByteS.l0, List.append_nil, if_neg (show ¬ ((i : Int) < (a.length : Int)) by omega)]
    exact Ev.some (by simp [marksB])
  | succ d ih =>
    intro b a x i hb ha hi hx hd
    refine Ev.succ ?_
    obtain ⟨y, b, rfl⟩ : ∃ y b', b = y :: b' := by
      cases b with
      | nil => simp at hb
      | cons y b => exact ⟨y, b, rfl⟩
    have hl : b.length = d := by simpa using hb
    have hr := ih b (a ++ [x % 256]) (x + 1) (i + 1) hl (by simp [ha]) (by omega) (by omega) (by omega)
    simp only [laws_markByteS.l0, if_pos (show ((i : Int) < ((a ++ y :: b).length : Int)) by simp; omega), if_pos (show (0 : Int) ≤ (i : Int) by omega), w64s (show i < 9223372036854775807 by omega), Int.toNat_natCast, set_at a b y (x % 256) i ha, w64 (show (-9223372036854775808 : Int) ≤ x + 1 by omega) (show x + 1 ≤ 9223372036854775807 by omega)]
    have e : (x + ((d + 1 : Nat) : Int), a ++ marksB x (d + 1)) = (x + 1 + (d : Int), a ++ [x % 256] ++ marksB (x + 1) d) := by
      simp [marksB]; omega
    rw [e]
    exact hr
theorem laws_markByteS.ev (l : List Int) (x : Int) (hl : l.length ≤ 140737488355328) (hx : 0 ≤ x) (hd : x + l.length ≤ 1000000000000000) : Ev (fun k => laws_markByteS.f k l x) (x + l.length, marksB x l.length) := by
  unfold laws_markByteS.f
  have := laws_markByteS.ev0 l.length l [] x 0 rfl rfl (by omega) hx hd
  simpa using this

/-! ### laws.heldByteS -/
theorem laws_heldByteS.ev0 : ∀ (d : Nat) (a : List Int) (x : Int) (i : Nat), a.length = i → i + d ≤ 140737488355328 → 0 ≤ x → x + d ≤ 1000000000000000 → Ev (fun k => laws_heldByteS.l0 k (a ++ marksB x d) x (i : Int)) (x + d) := by
  intro d
  induction d with
  | zero =>
    intro a x i ha hi hx hd
    refine Ev.succ ?_
    simp only [laws_heldByteS.l0, marksB, List.append_nil, if_neg (show ¬ ((i : Int) < (a.length : Int)) by omega)]
    exact Ev.some (by simp)
  | succ d ih =>
    intro a x i ha hi hx hd
    refine Ev.succ ?_
    have hr := ih (a ++ [x % 256]) (x + 1) (i + 1) (by simp [ha]) (by omega) (by omega) (by omega)
    have hg : (a ++ marksB x (d + 1)).getD i 0 = x % 256 := by
      subst ha
      simp [marksB, List.getD]
    simp only [laws_heldByteS.l0, if_pos (show ((i : Int) < ((a ++ marksB x (d + 1)).length : Int)) by rw [List.length_append, marksB_length]; omega), if_pos (show (0 : Int) ≤ (i : Int) by omega), rd_nat, hg, if_true, w64s (show i < 9223372036854775807 by omega), w64 (show (-9223372036854775808 : Int) ≤ x + 1 by omega) (show x + 1 ≤ 9223372036854775807 by omega)]
    have e : a ++ marksB x (d + 1) = a ++ [x % 256] ++ marksB (x + 1) d := by simp [marksB]
    rw [e, show x + ((d + 1 : Nat) : Int) = x + 1 + (d : Int) by omega]
    exact hr
theorem laws_heldByteS.ev (n : Nat) (x : Int) (hl : n ≤ 140737488355328) (hx : 0 ≤ x) (hd : x + n ≤ 1000000000000000) : Ev (fun k => laws_heldByteS.f k (marksB x n) x) (x + n) := by
  unfold laws_heldByteS.f
  have := laws_heldByteS.ev0 n [] x 0 rfl (by omega) hx hd
  simpa using this

/-! ### spec.l1put -/
theorem spec_l1put.ev0 : ∀ (d : Nat) (l : List Int) (v a2 : Int) (i : Nat), (i : Int) + d = a2 → l.length + d < 140737488355328 → a2 ≤ 1000000 → Ev (fun k => spec_l1put.l0 k l v a2 (i : Int)) (l ++ lowB v d) := by
  intro d
  induction d with
  | zero =>
    intro l v a2 i hi hl ha
    refine Ev.succ ?_
    simp only [spec_l1put.l0, if_neg (show ¬ ((i : Int) < a2) by omega)]
    exact Ev.some (by simp [lowB])
  | succ d ih =>
    intro l v a2 i hi hl ha
    refine Ev.succ ?_
    have hr := ih (l ++ [v % 256]) (v / 256) a2 (i + 1) (by omega) (by simp; omega) ha
    simp only [spec_l1put.l0, if_pos (show ((i : Int) < a2) by omega), if_pos (show l.length < 140737488355328 by omega), w64s (show i < 9223372036854775807 by omega)]
    rw [show l ++ lowB v (d + 1) = l ++ [v % 256] ++ lowB (v / 256) d by simp [lowB]]
    exact hr
theorem spec_l1put.ev (l : List Int) (v : Int) (n : Nat) (hl : l.length + n < 140737488355328) (hn : n ≤ 1000000) : Ev (fun k => spec_l1put.f k l v (n : Int)) (l ++ lowB v n) := by
  unfold spec_l1put.f
  exact spec_l1put.ev0 n l v n 0 (by omega) hl (by omega)

/-! ### impl.low -/
theorem impl_low.ev0 : ∀ (d : Nat) (l : List Int) (v a2 : Int) (i : Nat), (i : Int) + d = a2 → l.length + d < 140737488355328 → a2 ≤ 1000000 → Ev (fun k => impl_low.l0 k l v a2 (i : Int)) (l ++ lowB v d) := by
  intro d
  induction d with
  | zero =>
    intro l v a2 i hi hl ha
    refine Ev.succ ?_
    simp only [impl_low.l0, if_neg (show ¬ ((i : Int) < a2) by omega)]
    exact Ev.some (by simp [lowB])
  | succ d ih =>
    intro l v a2 i hi hl ha
    refine Ev.succ ?_
    have hr := ih (l ++ [v % 256]) (v / 256) a2 (i + 1) (by omega) (by simp; omega) ha
    simp only [impl_low.l0, if_pos (show ((i : Int) < a2) by omega), if_pos (show l.length < 140737488355328 by omega), w64s (show i < 9223372036854775807 by omega)]
    rw [show l ++ lowB v (d + 1) = l ++ [v % 256] ++ lowB (v / 256) d by simp [lowB]]
    exact hr
theorem impl_low.ev (l : List Int) (v : Int) (n : Nat) (hl : l.length + n < 140737488355328) (hn : n ≤ 1000000) : Ev (fun k => impl_low.f k l v (n : Int)) (l ++ lowB v n) := by
  unfold impl_low.f
  exact impl_low.ev0 n l v n 0 (by omega) hl (by omega)

/-! ### laws.toByteS -/
theorem laws_toByteS.ev0 (l : List Int) (hl : l.length ≤ 140737488355328) : ∀ d i : Nat, i + d = l.length → Ev (fun k => laws_toByteS.l0 k l (l.take i ++ List.replicate (l.length - i) 0) (i : Int)) l := by
  intro d
  induction d with
  | zero =>
    intro i hi
    refine Ev.succ ?_
    simp only [laws_toByteS.l0, if_neg (show ¬ ((i : Int) < (l.length : Int)) by omega)]
    exact Ev.some (by rw [List.take_of_length_le (by omega), show l.length - i = 0 by omega]; simp)
  | succ d ih =>
    intro i hi
    refine Ev.succ ?_
    have hr := ih (i + 1) (by omega)
    simp only [laws_toByteS.l0, if_pos (show ((i : Int) < (l.length : Int)) by omega), if_pos (show (0 : Int) ≤ (i : Int) by omega), rd_nat, w64s (show i < 9223372036854775807 by omega), Int.toNat_natCast, replicate_step l.length i (0 : Int) (by omega),
      set_at (l.take i) (List.replicate (l.length - (i + 1)) 0) 0 (l.getD i 0) i (by simp; omega)]
    rw [take_snoc l i 0 (by omega)] at hr
    refine Ev.pos (by simp; omega) hr
theorem laws_toByteS.ev (l : List Int) (hl : l.length ≤ 140737488355328) : Ev (fun k => laws_toByteS.f k l) l := by
  unfold laws_toByteS.f
  refine Ev.pos (by omega) (Ev.pos (by simp; omega) ?_)
  have := laws_toByteS.ev0 l hl l.length 0 (by omega)
  simpa using this

/-! ### laws.eqPage -/
theorem laws_eqPage.refl (b : Bool) (g : Int) (l : List Int) (hl : l.length ≤ 140737488355328) : Ev (fun k => laws_eqPage.f k b g l b g l) true := by
  unfold laws_eqPage.f
  refine Ev.neg (by simp) (Ev.pos rfl ?_)
  refine Ev.bind (laws_eqByteS.ev l l hl) ?_
  exact Ev.pos (by simp) (Ev.now _)

/-! ### laws.markPage -/
theorem laws_markPage.ev (b : Bool) (g : Int) (l : List Int) (x : Int) (hl : l.length ≤ 140737488355328) (hx : 0 ≤ x) (hd : x + l.length ≤ 1000000000000000) : Ev (fun k => laws_markPage.f k b g l x) (x + l.length, marksB x l.length) := by
  unfold laws_markPage.f
  exact Ev.bind (laws_markByteS.ev l x hl hx hd) (Ev.now _)

/-! ### spec.l2check -/
theorem spec_l2check.ev0 (l : List Int) (hl : l.length ≤ 140737488355328) : ∀ (d i : Nat) (s : Int), i + d = l.length → Ev (fun k => spec_l2check.l0 k s l (l.length : Int) (i : Int)) (checkFrom i s (l.drop i)) := by
  intro d
  induction d with
  | zero =>
    intro i s hi
    refine Ev.succ ?_
    simp only [spec_l2check.l0, if_neg (show ¬ ((i : Int) < (l.length : Int)) by omega)]
    rw [drop_nil l i (by omega)]
    exact Ev.now _
  | succ d ih =>
    intro i s hi
    refine Ev.succ ?_
    simp only [spec_l2check.l0, if_pos (show ((i : Int) < (l.length : Int)) by omega), if_pos (show (0 : Int) ≤ (i : Int) by omega), rd_nat, w64s (show i < 9223372036854775807 by omega)]
    rw [drop_cons l i 0 (by omega)]
    simp only [checkFrom]
    by_cases h : i = 1
    · refine Ev.pos (by omega) ?_
      rw [if_pos h]
      exact ih (i + 1) s (by omega)
    · refine Ev.neg (by omega) ?_
      rw [if_neg h]
      exact ih (i + 1) _ (by omega)
theorem spec_l2check.ev (l : List Int) (hl : l.length ≤ 140737488355328) : Ev (fun k => spec_l2check.f k l) (checkFrom 0 0 l) := by
  unfold spec_l2check.f
  have := spec_l2check.ev0 l hl l.length 0 0 (by omega)
  simpa using this

/-! ### impl.check -/
theorem impl_check.ev0 (l : List Int) (hl : l.length ≤ 140737488355328) : ∀ (d i : Nat) (s : Int), i + d = l.length → Ev (fun k => impl_check.l0 k s l (l.length : Int) (i : Int)) (checkFrom i s (l.drop i)) := by
  intro d
  induction d with
  | zero =>
    intro i s hi
    refine Ev.succ ?_
    simp only [impl_check.l0, if_neg (show ¬ ((i : Int) < (l.length : Int)) by omega)]
    rw [drop_nil l i (by omega)]
    exact Ev.now _
  | succ d ih =>
    intro i s hi
    refine Ev.succ ?_
    simp only [impl_check.l0, if_pos (show ((i : Int) < (l.length : Int)) by omega), if_pos (show (0 : Int) ≤ (i : Int) by omega), rd_nat, w64s (show i < 9223372036854775807 by omega)]
    rw [drop_cons l i 0 (by omega)]
    simp only [checkFrom]
    by_cases h : i = 1
    · refine Ev.pos (by omega) ?_
      rw [if_pos h]
      exact ih (i + 1) s (by omega)
    · refine Ev.neg (by omega) ?_
      rw [if_neg h]
      exact ih (i + 1) _ (by omega)
theorem impl_check.ev (l : List Int) (hl : l.length ≤ 140737488355328) : Ev (fun k => impl_check.f k l) (checkFrom 0 0 l) := by
  unfold impl_check.f
  have := impl_check.ev0 l hl l.length 0 0 (by omega)
  simpa using this

/-! ### spec.PageBlock -/
theorem spec_PageBlock.pad : ∀ (d : Nat) (l : List Int), l.length + d = 64 → 1 < l.length → Ev (fun k => spec_PageBlock.l0 k l) ((l ++ List.replicate d 0).set 1 (checkFrom 0 0 (l ++ List.replicate d 0))) := by
  intro d
  induction d with
  | zero =>
    intro l hl h1
    refine Ev.succ ?_
    simp only [spec_PageBlock.l0, if_neg (show ¬ ((l.length : Int) < 64) by omega)]
    refine Ev.bind (spec_l2check.ev l (by omega)) ?_
    refine Ev.pos (by omega) ?_
    exact Ev.some (by simp)
  | succ d ih =>
    intro l hl h1
    refine Ev.succ ?_
    have hr := ih (l ++ [0]) (by simp; omega) (by simp; omega)
    simp only [spec_PageBlock.l0, if_pos (show ((l.length : Int) < 64) by omega), if_pos (show l.length < 140737488355328 by omega)]
    rw [show l ++ List.replicate (d + 1) 0 = l ++ [0] ++ List.replicate d 0 by simp [List.replicate_succ]]
    exact hr
theorem spec_PageBlock.ev (b : Bool) (g : Int) (l : List Int) (hg : -9223372036854775808 ≤ g ∧ g ≤ 9223372036854775807) : Ev (fun k => spec_PageBlock.f k b g l) (pageM b g l) := by
  unfold spec_PageBlock.f
  simp only [spec_l1in.is, Option.bind_some, decide_eq_true_eq]
  unfold pageM
  have no : Ev (fun k => spec_PageBlock.j0 k true b g l) [] := Ev.succ (by simp only [spec_PageBlock.j0, if_true]; exact Ev.now _)
  by_cases h1 : b = true
  · refine Ev.pos h1 ?_
    by_cases h2 : 1 ≤ g ∧ g ≤ 1000000000
    · refine Ev.pos h2 ?_
      by_cases h3 : l.length ≤ 56
      · rw [if_pos ⟨h1, h2.1, h2.2, h3⟩]
        refine Ev.succ ?_
        simp only [spec_PageBlock.j0]
        refine Ev.neg (by simp; omega) ?_
        refine Ev.bind (spec_l1put.ev _ _ 4 (by simp) (by omega)) ?_
        simp only [Option.bind_some]
        refine Ev.pos (by simp [lowB_length]) ?_
        refine Ev.pos (by simp [lowB_length]; omega) ?_
        rw [u64_wrap, Int.emod_eq_of_lt (a := g) (by omega) (by omega), Int.emod_eq_of_lt (a := (l.length : Int)) (by omega) (by omega)]
        have := spec_PageBlock.pad (56 - l.length) ([76, 0] ++ lowB g 4 ++ [(l.length : Int), 0] ++ l) (by simp [lowB_length]; omega) (by simp)
        exact this
      · rw [if_neg (fun h => h3 h.2.2.2), decide_eq_true (by omega)]
        exact no
    · rw [if_neg (fun h => h2 ⟨h.2.1, h.2.2.1⟩)]
      exact Ev.neg h2 no
  · rw [if_neg (fun h => h1 h.1)]
    exact Ev.neg h1 no

/-! ### impl.PageBlock -/
theorem impl_PageBlock.ev (b : Bool) (g : Int) (l : List Int) (hg : -9223372036854775808 ≤ g ∧ g ≤ 9223372036854775807) : Ev (fun k => impl_PageBlock.f k b g l) (pageM b g l) := by
  unfold impl_PageBlock.f
  unfold pageM
  have no : Ev (fun k => impl_PageBlock.j0 k true b g l) [] := Ev.succ (by simp only [impl_PageBlock.j0, if_true]; exact Ev.now _)
  by_cases h1 : b = true
  · refine Ev.pos h1 ?_
    by_cases h2 : 1 ≤ g
    · refine Ev.neg (by omega) ?_
      by_cases h2' : g ≤ 1000000000
      · refine Ev.neg (by omega) ?_
        by_cases h3 : l.length ≤ 56
        · rw [if_pos ⟨h1, h2, h2', h3⟩]
          refine Ev.succ ?_
          simp only [impl_PageBlock.j0]
          refine Ev.neg (by simp; omega) ?_
          refine Ev.bind (impl_low.ev _ _ 4 (by simp) (by omega)) ?_
          simp only [Option.bind_some]
          refine Ev.pos (by simp [lowB_length]) ?_
          refine Ev.pos (by simp [lowB_length]; omega) ?_
          rw [u64_wrap, Int.emod_eq_of_lt (a := g) (by omega) (by omega), Int.emod_eq_of_lt (a := (l.length : Int)) (by omega) (by omega)]
          have hx : ([76, 0] ++ lowB g 4 ++ [(l.length : Int), 0] ++ l).length = 8 + l.length := by simp [lowB_length]; omega
          have hw : wrap64 (64 - (([76, 0] ++ lowB g 4 ++ [(l.length : Int), 0] ++ l).length : Int)) = ((56 - l.length : Nat) : Int) := by rw [hx, w64 (by omega) (by omega)]; omega
          simp only [hw, Int.toNat_natCast]
          refine Ev.pos (by omega) ?_
          refine Ev.pos (by rw [hx]; omega) ?_
          refine Ev.bind (impl_check.ev _ (by rw [List.length_append, hx]; simp; omega)) ?_
          refine Ev.pos (by rw [List.length_append, hx]; simp; omega) ?_
          exact Ev.now _
        · rw [if_neg (fun h => h3 h.2.2.2), decide_eq_true (by omega)]
          exact no
      · rw [if_neg (fun h => h2' h.2.2.1)]
        exact Ev.pos (by omega) no
    · rw [if_neg (fun h => h2 h.2.1)]
      exact Ev.pos (by omega) no
  · rw [if_neg (fun h => h1 h.1)]
    exact Ev.neg h1 no

/-! ### spec.l1get -/
theorem spec_l1get.ev0 (l : List Int) (hl : l.length ≤ 8) (hb : Bs l) : ∀ (i : Nat), i ≤ l.length → Ev (fun k => spec_l1get.l0 k l (numM (l.drop i)) ((i : Int) - 1)) (numM l) := by
  intro i
  induction i with
  | zero =>
    intro hi
    refine Ev.succ ?_
    simp only [spec_l1get.l0, if_neg (show ¬ (((0 : Nat) : Int) - 1 ≥ 0) by omega)]
    exact Ev.now _
  | succ i ih =>
    intro hi
    refine Ev.succ ?_
    have hr := ih (by omega)
    have e : ((i + 1 : Nat) : Int) - 1 = (i : Int) := by omega
    have hg := hb.getD i
    have hn := numM_nonneg (hb.drop (i + 1))
    have hlt2 := numM_lt7 (hb.drop (i + 1)) (by simp; omega)
    simp only [spec_l1get.l0, e, if_pos (show (i : Int) ≥ 0 by omega), if_pos (show (0 : Int) ≤ (i : Int) by omega), if_pos (show (i : Int) < (l.length : Int) by omega), rd_nat, or_join hn hlt2 hg.1 hg.2, w64 (show (-9223372036854775808 : Int) ≤ (i : Int) - 1 by omega) (show (i : Int) - 1 ≤ 9223372036854775807 by omega)]
    rw [show l.getD i 0 + 256 * numM (l.drop (i + 1)) = numM (l.drop i) by rw [drop_cons l i 0 (by omega)]; rfl]
    exact hr
theorem spec_l1get.ev (l : List Int) (hl : l.length ≤ 8) (hb : Bs l) : Ev (fun k => spec_l1get.f k l) (numM l) := by
  unfold spec_l1get.f
  rw [w64 (by omega) (by omega)]
  have := spec_l1get.ev0 l hl hb l.length (Nat.le_refl _)
  rwa [drop_nil l l.length (Nat.le_refl _)] at this

/-! ### impl.num -/
theorem impl_num.ev0 (l : List Int) (hl : l.length ≤ 8) (hb : Bs l) : ∀ (i : Nat), i ≤ l.length → Ev (fun k => impl_num.l0 k l (numM (l.drop i)) ((i : Int) - 1)) (numM l) := by
  intro i
  induction i with
  | zero =>
    intro hi
    refine Ev.succ ?_
    simp only [impl_num.l0, if_neg (show ¬ (((0 : Nat) : Int) - 1 ≥ 0) by omega)]
    exact Ev.now _
  | succ i ih =>
    intro hi
    refine Ev.succ ?_
    have hr := ih (by omega)
    have e : ((i + 1 : Nat) : Int) - 1 = (i : Int) := by omega
    have hg := hb.getD i
    have hn := numM_nonneg (hb.drop (i + 1))
    have hlt2 := numM_lt7 (hb.drop (i + 1)) (by simp; omega)
    simp only [impl_num.l0, e, if_pos (show (i : Int) ≥ 0 by omega), if_pos (show (0 : Int) ≤ (i : Int) by omega), if_pos (show (i : Int) < (l.length : Int) by omega), rd_nat, or_join hn hlt2 hg.1 hg.2, w64 (show (-9223372036854775808 : Int) ≤ (i : Int) - 1 by omega) (show (i : Int) - 1 ≤ 9223372036854775807 by omega)]
    rw [show l.getD i 0 + 256 * numM (l.drop (i + 1)) = numM (l.drop i) by rw [drop_cons l i 0 (by omega)]; rfl]
    exact hr
theorem impl_num.ev (l : List Int) (hl : l.length ≤ 8) (hb : Bs l) : Ev (fun k => impl_num.f k l) (numM l) := by
  unfold impl_num.f
  rw [w64 (by omega) (by omega)]
  have := impl_num.ev0 l hl hb l.length (Nat.le_refl _)
  rwa [drop_nil l l.length (Nat.le_refl _)] at this

/-! ### impl.cp -/
theorem impl_cp.is (l : List Int) (hl : l.length < 140737488355328) : impl_cp.f l = some l := by
  unfold impl_cp.f
  rw [if_pos (by simpa using hl)]
  simp

/-! ### laws.heldPage -/
theorem laws_heldPage.ev (b : Bool) (g : Int) (n : Nat) (x : Int) (hl : n ≤ 140737488355328) (hx : 0 ≤ x) (hd : x + n ≤ 1000000000000000) : Ev (fun k => laws_heldPage.f k b g (marksB x n) x) (x + n) := by
  unfold laws_heldPage.f
  refine Ev.bind (laws_heldByteS.ev n x hl hx hd) ?_
  exact Ev.neg (by omega) (Ev.now _)

/-! ### spec.PageOf -/
theorem spec_PageOf.ev1 (a b : List Int) (hl : a.length = b.length) (hb : a.length ≤ 140737488355328) (o : Bool) (g : Int) (l : List Int) : ∀ d i : Nat, i + d = a.length → Ev (fun k => spec_PageOf.l0 k b a (a.length : Int) (i : Int) o g l) (if a.drop i = b.drop i then (o, g, l) else (false, 0, [])) := by
  intro d
  induction d with
  | zero =>
    intro i hi
    refine Ev.succ ?_
    simp only [spec_PageOf.l0, if_neg (show ¬ ((i : Int) < (a.length : Int)) by omega)]
    rw [drop_nil a i (by omega), drop_nil b i (by omega), if_pos rfl]
    exact Ev.now _
  | succ d ih =>
    intro i hi
    refine Ev.succ ?_
    have hr := ih (i + 1) (by omega)
    simp only [spec_PageOf.l0, if_pos (show ((i : Int) < (a.length : Int)) by omega), if_pos (show (0 : Int) ≤ (i : Int) by omega), if_pos (show ((i : Int) < (b.length : Int)) by omega), rd_nat, w64s (show i < 9223372036854775807 by omega)]
    rw [drop_cons a i 0 (by omega), drop_cons b i 0 (by omega)]
    by_cases h : a.getD i 0 = b.getD i 0
    · refine Ev.pos h ?_
      rw [h]
      simp only [List.cons.injEq, true_and]
      exact hr
    · rw [if_neg (fun e => h (List.cons.inj e).1)]
      exact Ev.neg h (Ev.now _)
theorem spec_PageOf.no (b : List Int) : Ev (fun k => spec_PageOf.j0 k b true) (false, 0, []) := Ev.succ (by simp only [spec_PageOf.j0, if_true]; exact Ev.now _)
theorem spec_PageOf.ev (b : List Int) (hl : b.length ≤ 140737488355328) (hb : Bs b) : Ev (fun k => spec_PageOf.f k b) (pageOfM b) := by
  unfold spec_PageOf.f
  by_cases h1 : b.length = 64
  · refine Ev.pos (by omega) (Ev.pos (by omega) ?_)
    have e6 : rd b 6 = b.getD 6 0 := rd_nat b 6
    have g6 := hb.getD 6
    rw [e6, w64 (x := b.getD 6 0) (by omega) (by omega)]
    by_cases h2 : b.getD 6 0 ≤ 56
    · rw [decide_eq_false (by omega)]
      refine Ev.succ ?_
      simp only [spec_PageOf.j0, Option.bind_some, e6, w64 (show (-9223372036854775808 : Int) ≤ b.getD 6 0 by omega) (show b.getD 6 0 ≤ 9223372036854775807 by omega), w64 (show (-9223372036854775808 : Int) ≤ 8 + b.getD 6 0 by omega) (show 8 + b.getD 6 0 ≤ 9223372036854775807 by omega)]
      have t0 := numM_nonneg ((hb.take 6).drop 2)
      have t1 := numM_lt7 ((hb.take 6).drop 2) (by simp; omega)
      refine Ev.neg (by simp) (Ev.pos (by omega) (Ev.pos (by omega) ?_))
      refine Ev.bind (spec_l1get.ev _ (by simp; omega) ((hb.take 6).drop 2)) (Ev.pos (by omega) (Ev.pos (by omega) (Ev.pos (by omega) (Ev.pos (by simp; omega) ?_))))
      simp only [List.nil_append]
      rw [w64 (x := numM ((b.take 6).drop 2)) (by omega) (by omega)]
      refine Ev.bind (spec_PageBlock.ev true _ _ (by omega)) ?_
      by_cases h3 : (pageM true (numM ((b.take 6).drop 2)) ((b.take (8 + b.getD 6 0).toNat).drop 8)).length = b.length
      · refine Ev.pos (by omega) ?_
        have h4 := spec_PageOf.ev1 (pageM true (numM ((b.take 6).drop 2)) ((b.take (8 + b.getD 6 0).toNat).drop 8)) b h3 (by omega) true (numM ((b.take 6).drop 2)) ((b.take (8 + b.getD 6 0).toNat).drop 8) _ 0 (Nat.zero_add _)
        simp only [List.drop_zero] at h4
        rw [pageOfM_eq h1 h2]
        exact h4
      · rw [pageOfM_eq h1 h2, if_neg (fun e => h3 (by rw [e]))]
        exact Ev.neg (by omega) (Ev.now _)
    · rw [decide_eq_true (by omega), pageOfM_no (fun h => h2 h.2)]
      exact spec_PageOf.no b
  · rw [pageOfM_no (fun h => h1 h.1)]
    exact Ev.neg (by omega) (spec_PageOf.no b)

/-! ### impl.PageOf -/
theorem impl_PageOf.no (b : List Int) : Ev (fun k => impl_PageOf.j0 k b true) (false, 0, []) := Ev.succ (by simp only [impl_PageOf.j0, if_true]; exact Ev.now _)
theorem impl_PageOf.ev (b : List Int) (hl : b.length ≤ 140737488355328) (hb : Bs b) : Ev (fun k => impl_PageOf.f k b) (pageOfM b) := by
  unfold impl_PageOf.f
  by_cases h1 : b.length = 64
  · refine Ev.pos (by omega) (Ev.pos (by omega) ?_)
    have e6 : rd b 6 = b.getD 6 0 := rd_nat b 6
    have g6 := hb.getD 6
    rw [e6]
    by_cases h2 : b.getD 6 0 ≤ 56
    · rw [decide_eq_false (by omega)]
      refine Ev.succ ?_
      simp only [impl_PageOf.j0, e6, w64 (show (-9223372036854775808 : Int) ≤ b.getD 6 0 by omega) (show b.getD 6 0 ≤ 9223372036854775807 by omega), w64 (show (-9223372036854775808 : Int) ≤ 8 + b.getD 6 0 by omega) (show 8 + b.getD 6 0 ≤ 9223372036854775807 by omega)]
      have t0 := numM_nonneg ((hb.take 6).drop 2)
      have t1 := numM_lt7 ((hb.take 6).drop 2) (by simp; omega)
      refine Ev.neg (by simp) (Ev.pos (by omega) (Ev.pos (by omega) ?_))
      refine Ev.bind (impl_num.ev _ (by simp; omega) ((hb.take 6).drop 2)) (Ev.pos (by omega) (Ev.pos (by omega) (Ev.pos (by omega) ?_)))
      refine Ev.bind (Ev.ok (impl_cp.is _ (by simp; omega))) ?_
      rw [w64 (x := numM ((b.take 6).drop 2)) (by omega) (by omega)]
      refine Ev.bind (impl_PageBlock.ev true _ _ (by omega)) ?_
      rw [pageOfM_eq h1 h2]
      by_cases h3 : pageM true (numM ((b.take 6).drop 2)) ((b.take (8 + b.getD 6 0).toNat).drop 8) = b
      · rw [if_pos h3]
        exact Ev.pos (by rw [h3]) (Ev.now _)
      · rw [if_neg h3]
        refine Ev.neg (fun e => h3 ?_) (Ev.now _)
        exact strOfNums_inj (pageM_Bs ((hb.take _).drop 8)) hb (toList_inj e)
    · rw [decide_eq_true (by omega), pageOfM_no (fun h => h2 h.2)]
      exact impl_PageOf.no b
  · rw [pageOfM_no (fun h => h1 h.1)]
    exact Ev.neg (by omega) (impl_PageOf.no b)

/-! ### laws.FnExactPageOf -/
theorem pure : laws_FnExactPageOf.Pure := by
  intro l ⟨h1, h2⟩
  refine Ev.rounds ?_
  unfold laws_FnExactPageOf.f
  by_cases h0 : (l.length : Int) > 1048576
  · exact Ev.pos h0 (Ev.now _)
  refine Ev.neg h0 ?_
  have hb := Bs.of_wf h2
  have ht := laws_toByteS.ev l (by omega)
  have hp := pageOfM_len l
  refine Ev.bind ht (Ev.bind (spec_PageOf.ev l (by omega) hb) (Ev.bind ht (Ev.bind (impl_PageOf.ev l (by omega) hb) ?_)))
  refine Ev.bind (laws_eqPage.refl _ _ _ (by omega)) (Ev.pos rfl ?_)
  refine Ev.bind ht (Ev.bind (laws_eqByteS.ev l l (by omega)) (Ev.pos (by simp) ?_))
  refine Ev.bind (laws_markByteS.ev _ 1 (by omega) (by omega) (by omega)) ?_
  refine Ev.neg (by simp only; omega) ?_
  refine Ev.bind (laws_eqPage.refl _ _ _ (by omega)) ?_
  refine Ev.succ ?_
  simp only [laws_FnExactPageOf.j0]
  refine Ev.neg (by simp) ?_
  refine Ev.bind (laws_markPage.ev _ _ _ 1 (by omega) (by omega) (by omega)) ?_
  refine Ev.bind (laws_heldPage.ev _ _ _ 1 (by omega) (by omega) (by omega)) ?_
  refine Ev.neg (by omega) (Ev.pos rfl ?_)
  refine Ev.bind ht (Ev.bind (impl_PageOf.ev l (by omega) hb) ?_)
  refine Ev.bind (laws_eqPage.refl _ _ _ (by omega)) (Ev.pos rfl ?_)
  refine Ev.bind (laws_heldPage.ev _ _ _ 1 (by omega) (by omega) (by omega)) ?_
  exact Ev.neg (by omega) (Ev.pos rfl (Ev.now _))

end Go.Proofs.Ytkhakdggfknlpaa.PFnExactPageOf
