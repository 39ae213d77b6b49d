/- What the functions that FnExactDiskOk reaches tell, and its pure statement. No condition. -/
import Derived.Test.YtkhakdggfknlpaaPFnExactDiskOkx0
import Derived.Test.YtkhakdggfknlpaaPFnExactDiskOkx1
import Derived.Test.YtkhakdggfknlpaaPFnExactDiskOkx2
import Derived.Test.YtkhakdggfknlpaaPFnExactDiskOkx3
import Derived.Test.YtkhakdggfknlpaaPFnExactDiskOkx4
import Derived.Test.YtkhakdggfknlpaaMath
namespace Go.Proofs.Ytkhakdggfknlpaa.PFnExactDiskOk
open Go.RowKit Go.Proofs.YtkhakdggfknlpaaW.PrintWords Go.Proofs.YtkhakdggfknlpaaW.PrintLast Go.Proofs.Ytkhakdggfknlpaa.Math
set_option linter.unusedVariables false
set_option linter.unusedSimpArgs false

/-! ### spec.l1in -/
theorem spec_l1in.is (a lo hi : Int) : spec_l1in.f a lo hi = some (decide (lo ≤ a ∧ a ≤ hi)) := by
  unfold spec_l1in.f
  by_cases h : a ≥ lo
  · rw [if_pos h]; simp [h]
  · rw [if_neg h]; simp only [ge_iff_le, Int.not_le] at h; simp [show ¬ lo ≤ a by omega]

/-! ### laws.eqByteS -/
theorem laws_eqByteS.ev0 (a b : List Int) (hl : a.length = b.length) (hb : a.length ≤ 140737488355328) : ∀ d i : Nat, i + d = a.length → Ev (fun k => laws_eqByteS.l0 k a b (i : Int)) (decide (a.drop i = b.drop i)) := by
  intro d
  induction d with
  | zero =>
    intro i hi
    refine Ev.succ ?_
    simp only [laws_eqByteS.l0, if_neg (show ¬ ((i : Int) < (a.length : Int)) by omega)]
    rw [drop_nil a i (by omega), drop_nil b i (by omega)]
    exact Ev.now _
  | succ d ih =>
    intro i hi
    refine Ev.succ ?_
    have hr := ih (i + 1) (by omega)
    simp only [laws_eqByteS.l0, if_pos (show ((i : Int) < (a.length : Int)) by omega), if_pos (show (0 : Int) ≤ (i : Int) by omega), if_pos (show ((i : Int) < (b.length : Int)) by omega), rd_nat, w64s (show i < 9223372036854775807 by omega)]
    rw [drop_ext a b i 0 (by omega) (by omega)]
    by_cases h : a.getD i 0 = b.getD i 0
    · simp only [if_pos h]
      rw [decide_eq_true h, Bool.true_and]
      exact hr
    · simp only [if_neg h]
      rw [decide_eq_false h, Bool.false_and]
      exact Ev.now _
theorem laws_eqByteS.ev (a b : List Int) (hb : a.length ≤ 140737488355328) : Ev (fun k => laws_eqByteS.f k a b) (decide (a = b)) := by
  unfold laws_eqByteS.f
  by_cases h : a.length = b.length
  · refine Ev.pos (by omega) ?_
    have := laws_eqByteS.ev0 a b h hb a.length 0 (by omega)
    simpa using this
  · refine Ev.neg (by omega) ?_
    rw [decide_eq_false (fun e => h (by rw [e]))]
    exact Ev.now _

/-! ### laws.szByteS -/
theorem laws_szByteS.is (l : List Int) (a : Int) (h0 : -1 ≤ a) (h1 : a ≤ 1048576) (hs : l.length ≤ maxLen) : laws_szByteS.f l a = some (szT a l.length) := by
  unfold maxLen at hs
  unfold laws_szByteS.f szT
  rw [w64 (by omega) (by omega)]
  split <;> rfl

/-! ### laws.toByteS -/
theorem laws_toByteS.ev0 (l : List Int) (hl : l.length ≤ 140737488355328) : ∀ d i : Nat, i + d = l.length → Ev (fun k => laws_toByteS.l0 k l (l.take i ++ List.replicate (l.length - i) 0) (i : Int)) l := by
  intro d
  induction d with
  | zero =>
    intro i hi
    refine Ev.succ ?_
    simp only [laws_toByteS.l0, if_neg (show ¬ ((i : Int) < (l.length : Int)) by omega)]
    exact Ev.some (by rw [List.take_of_length_le (by omega), show l.length - i = 0 by omega]; simp)
  | succ d ih =>
    intro i hi
    refine Ev.succ ?_
    have hr := ih (i + 1) (by omega)
    simp only [laws_toByteS.l0, if_pos (show ((i : Int) < (l.length : Int)) by omega), if_pos (show (0 : Int) ≤ (i : Int) by omega), rd_nat, w64s (show i < 9223372036854775807 by omega), Int.toNat_natCast, replicate_step l.length i (0 : Int) (by omega),
      set_at (l.take i) (List.replicate (l.length - (i + 1)) 0) 0 (l.getD i 0) i (by simp; omega)]
    rw [take_snoc l i 0 (by omega)] at hr
    refine Ev.pos (by simp; omega) hr
theorem laws_toByteS.ev (l : List Int) (hl : l.length ≤ 140737488355328) : Ev (fun k => laws_toByteS.f k l) l := by
  unfold laws_toByteS.f
  refine Ev.pos (by omega) (Ev.pos (by simp; omega) ?_)
  have := laws_toByteS.ev0 l hl l.length 0 (by omega)
  simpa using this

/-! ### laws.szByteSS -/
theorem laws_szByteSS.ev0 (l : List (List Int)) (hl : l.length ≤ 9223372036854775806) (hw : ∀ x ∈ l, x.length ≤ maxLen) : ∀ (d i : Nat) (a : Int), -1 ≤ a → a ≤ 1048576 → i + d = l.length → Ev (fun k => laws_szByteSS.l0 k l a (i : Int)) (szAll a ((l.drop i).map fun x => (x.length : Int))) := by
  intro d
  induction d with
  | zero =>
    intro i a h0 h1 hi
    refine Ev.succ ?_
    simp only [laws_szByteSS.l0, if_neg (show ¬ ((i : Int) < (l.length : Int)) by omega)]
    rw [drop_nil l i (by omega)]
    exact Ev.now _
  | succ d ih =>
    intro i a h0 h1 hi
    refine Ev.succ ?_
    have hx : l.getD i [] ∈ l := getD_mem l i [] (by omega)
    have hrd : rd_L1 l (i : Int) = l.getD i [] := by simp [rd_L1]
    simp only [laws_szByteSS.l0, if_pos (show ((i : Int) < (l.length : Int)) by omega), if_pos (show (0 : Int) ≤ (i : Int) by omega), hrd, laws_szByteS.is _ _ h0 h1 (hw _ hx), Option.bind_some, w64s (show i < 9223372036854775807 by omega)]
    rw [drop_cons l i [] (by omega), List.map_cons, szAll_cons]
    by_cases h : szT a ((l.getD i []).length : Int) < 0
    · rw [if_pos h]; exact Ev.pos h (Ev.now _)
    · rw [if_neg h]
      refine Ev.neg h (ih (i + 1) _ szT_ge ?_ (by omega))
      have := (szT_pos (a := a) (m := ((l.getD i []).length : Int)) (by omega)).1
      omega
theorem laws_szByteSS.ev (l : List (List Int)) (a : Int) (h0 : -1 ≤ a) (h1 : a ≤ 1048576) (hl : l.length ≤ maxLen) (hw : ∀ x ∈ l, x.length ≤ maxLen) : Ev (fun k => laws_szByteSS.f k l a) (szAll a ((l.length : Int) :: l.map fun x => (x.length : Int))) := by
  unfold laws_szByteSS.f
  have hl' : l.length ≤ 9223372036854775807 := hl
  rw [w64 (by omega) (by omega), szAll_cons]
  by_cases h : a - (l.length : Int) < 0
  · rw [if_pos (show szT a (l.length : Int) < 0 by unfold szT; rw [if_pos h]; omega)]
    exact Ev.pos h (Ev.now _)
  · have e : szT a (l.length : Int) = a - l.length := by unfold szT; rw [if_neg h]
    rw [e, if_neg h]
    refine Ev.neg h ?_
    have := laws_szByteSS.ev0 l (by omega) hw l.length 0 (a - l.length) (by omega) (by omega) (by omega)
    simpa using this

/-! ### laws.szWrite -/
theorem laws_szWrite.is (b : Int) (l : List Int) (a : Int) (h0 : -1 ≤ a) (h1 : a ≤ 1048576) (hs : l.length ≤ maxLen) : laws_szWrite.f b l a = some (szT a l.length) := by
  unfold laws_szWrite.f
  rw [laws_szByteS.is l a h0 h1 hs]
  simp only [Option.bind_some]
  exact neg1 szT_ge

/-! ### laws.szWriteS -/
theorem laws_szWriteS.ev0 (l : List S119) (hl : l.length ≤ 9223372036854775806) (hw : ∀ x ∈ l, x.f1.length ≤ maxLen) : ∀ (d i : Nat) (a : Int), -1 ≤ a → a ≤ 1048576 → i + d = l.length → Ev (fun k => laws_szWriteS.l0 k l a (i : Int)) (szAll a ((l.drop i).map fun x => (x.f1.length : Int))) := by
  intro d
  induction d with
  | zero =>
    intro i a h0 h1 hi
    refine Ev.succ ?_
    simp only [laws_szWriteS.l0, if_neg (show ¬ ((i : Int) < (l.length : Int)) by omega)]
    rw [drop_nil l i (by omega)]
    exact Ev.now _
  | succ d ih =>
    intro i a h0 h1 hi
    refine Ev.succ ?_
    have hx : l.getD i z119 ∈ l := getD_mem l i _ (by omega)
    have hrd : rd_T119 l (i : Int) = l.getD i z119 := by simp [rd_T119]
    simp only [laws_szWriteS.l0, if_pos (show ((i : Int) < (l.length : Int)) by omega), if_pos (show (0 : Int) ≤ (i : Int) by omega), hrd, laws_szWrite.is _ _ _ h0 h1 (hw _ hx), Option.bind_some, w64s (show i < 9223372036854775807 by omega)]
    rw [drop_cons l i z119 (by omega), List.map_cons, szAll_cons]
    by_cases h : szT a ((l.getD i z119).f1.length : Int) < 0
    · rw [if_pos h]; exact Ev.pos h (Ev.now _)
    · rw [if_neg h]
      refine Ev.neg h (ih (i + 1) _ szT_ge ?_ (by omega))
      have := (szT_pos (a := a) (m := ((l.getD i z119).f1.length : Int)) (by omega)).1
      omega
theorem laws_szWriteS.ev (l : List S119) (a : Int) (h0 : -1 ≤ a) (h1 : a ≤ 1048576) (hl : l.length ≤ maxLen) (hw : ∀ x ∈ l, x.f1.length ≤ maxLen) : Ev (fun k => laws_szWriteS.f k l a) (szAll a ((l.length : Int) :: l.map fun x => (x.f1.length : Int))) := by
  unfold laws_szWriteS.f
  have hl' : l.length ≤ 9223372036854775807 := hl
  rw [w64 (by omega) (by omega), szAll_cons]
  by_cases h : a - (l.length : Int) < 0
  · rw [if_pos (show szT a (l.length : Int) < 0 by unfold szT; rw [if_pos h]; omega)]
    exact Ev.pos h (Ev.now _)
  · have e : szT a (l.length : Int) = a - l.length := by unfold szT; rw [if_neg h]
    rw [e, if_neg h]
    refine Ev.neg h ?_
    have := laws_szWriteS.ev0 l (by omega) hw l.length 0 (a - l.length) (by omega) (by omega) (by omega)
    simpa using this

/-! ### laws.szDisk -/
/-- A disk of the form's reach. -/
def wfDisk (bs : List (List Int)) (ws : List S119) : Prop := (bs.length ≤ maxLen ∧ ∀ x ∈ bs, x.length ≤ maxLen) ∧ (ws.length ≤ maxLen ∧ ∀ x ∈ ws, x.f1.length ≤ maxLen)
def szDiskM (a : Int) (bs : List (List Int)) (ws : List S119) : Int := szAll (szAll a ((bs.length : Int) :: bs.map fun x => (x.length : Int))) ((ws.length : Int) :: ws.map fun x => (x.f1.length : Int))
theorem szs_nonneg {α : Type} (f : α → Nat) (l : List α) (m : Nat) : ∀ x ∈ ((m : Int) :: l.map fun x => (f x : Int)), (0 : Int) ≤ x := by
  intro x hx
  rcases List.mem_cons.1 hx with rfl | hx
  · omega
  · obtain ⟨y, _, rfl⟩ := List.mem_map.1 hx; omega
theorem laws_szDisk.ev (bs : List (List Int)) (ws : List S119) (a : Int) (h0 : 0 ≤ a) (h1 : a ≤ 1048576) (hw : wfDisk bs ws) : ∃ r, Ev (fun k => laws_szDisk.f k bs ws a) r ∧ -1 ≤ r ∧ r ≤ a ∧ (0 ≤ r → r = a - bs.length - (bs.map fun x => (x.length : Int)).sum - ws.length - (ws.map fun x => (x.f1.length : Int)).sum ∧ (bs.length : Int) ≤ a ∧ (ws.length : Int) ≤ a ∧ (∀ x ∈ bs, (x.length : Int) ≤ a) ∧ ∀ x ∈ ws, (x.f1.length : Int) ≤ a) := by
  have n1 := szs_nonneg List.length bs bs.length
  have n2 := szs_nonneg (fun x : S119 => x.f1.length) ws ws.length
  have hA := laws_szByteSS.ev bs a (by omega) h1 hw.1.1 hw.1.2
  have hAl := szAll_le a _ h0 n1
  have hAg := szAll_ge a ((bs.length : Int) :: bs.map fun x => (x.length : Int)) (by omega)
  by_cases hs : szAll a ((bs.length : Int) :: bs.map fun x => (x.length : Int)) < 0
  · refine ⟨-1, ?_, by omega, by omega, fun h => by omega⟩
    unfold laws_szDisk.f
    exact Ev.bind hA (Ev.pos hs (Ev.now _))
  · have hB := laws_szWriteS.ev ws (szAll a ((bs.length : Int) :: bs.map fun x => (x.length : Int))) (by omega) (by omega) hw.2.1 hw.2.2
    have hBl := szAll_le (szAll a ((bs.length : Int) :: bs.map fun x => (x.length : Int))) _ (by omega) n2
    have hBg := szAll_ge (szAll a ((bs.length : Int) :: bs.map fun x => (x.length : Int))) ((ws.length : Int) :: ws.map fun x => (x.f1.length : Int)) (by omega)
    refine ⟨_, ?_, hBg, by omega, fun h => ?_⟩
    · unfold laws_szDisk.f
      refine Ev.bind hA (Ev.neg hs (Ev.bind hB ?_))
      exact Ev.ok (neg1 hBg)
    · obtain ⟨p1, p2⟩ := szAll_pos h0 n1 (by omega)
      obtain ⟨q1, q2⟩ := szAll_pos (by omega) n2 h
      rw [List.sum_cons] at p1 q1
      refine ⟨by omega, p2 _ List.mem_cons_self, ?_, fun x hx => p2 _ (List.mem_cons_of_mem _ (List.mem_map.2 ⟨x, hx, rfl⟩)), fun x hx => ?_⟩
      · have := q2 _ List.mem_cons_self; omega
      · have := q2 _ (List.mem_cons_of_mem _ (List.mem_map.2 ⟨x, hx, rfl⟩)); omega

/-! ### laws.toByteSS -/
theorem laws_toByteSS.ev0 (l : List (List Int)) (hl : l.length ≤ 11728124029610) (hw : ∀ x ∈ l, x.length ≤ 140737488355328) : ∀ d i : Nat, i + d = l.length → Ev (fun k => laws_toByteSS.l0 k l (l.take i ++ List.replicate (l.length - i) []) (i : Int)) l := by
  intro d
  induction d with
  | zero =>
    intro i hi
    refine Ev.succ ?_
    simp only [laws_toByteSS.l0, if_neg (show ¬ ((i : Int) < (l.length : Int)) by omega)]
    exact Ev.some (by rw [List.take_of_length_le (by omega), show l.length - i = 0 by omega]; simp)
  | succ d ih =>
    intro i hi
    refine Ev.succ ?_
    have hr := ih (i + 1) (by omega)
    have hrd : rd_L1 l (i : Int) = l.getD i [] := by simp [rd_L1]
    simp only [laws_toByteSS.l0, if_pos (show ((i : Int) < (l.length : Int)) by omega), if_pos (show (0 : Int) ≤ (i : Int) by omega), hrd, w64s (show i < 9223372036854775807 by omega), Int.toNat_natCast, replicate_step l.length i ([] : List Int) (by omega)]
    refine Ev.bind (laws_toByteS.ev _ (hw _ (getD_mem l i [] (by omega)))) ?_
    refine Ev.pos (by simp; omega) ?_
    simp only [set_at (l.take i) (List.replicate (l.length - (i + 1)) []) [] (l.getD i []) i (by simp; omega)]
    rw [take_snoc l i [] (by omega)] at hr
    exact hr
theorem laws_toByteSS.ev (l : List (List Int)) (hl : l.length ≤ 11728124029610) (hw : ∀ x ∈ l, x.length ≤ 140737488355328) : Ev (fun k => laws_toByteSS.f k l) l := by
  unfold laws_toByteSS.f
  refine Ev.pos (by omega) (Ev.pos (by simp; omega) ?_)
  have := laws_toByteSS.ev0 l hl hw l.length 0 (by omega)
  simpa using this

/-! ### laws.toWrite -/
theorem laws_toWrite.ev (b : Int) (l : List Int) (hl : l.length ≤ 140737488355328) : Ev (fun k => laws_toWrite.f k b l) (b, l) := by
  unfold laws_toWrite.f
  exact Ev.bind (laws_toByteS.ev l hl) (Ev.now _)

/-! ### laws.toWriteS -/
def toW (x : S119) : S104 := ⟨x.f0, x.f1⟩
theorem laws_toWriteS.ev0 (l : List S119) (hl : l.length ≤ 8796093022208) (hw : ∀ x ∈ l, x.f1.length ≤ 140737488355328) : ∀ d i : Nat, i + d = l.length → Ev (fun k => laws_toWriteS.l0 k l ((l.map toW).take i ++ List.replicate (l.length - i) z104) (i : Int)) (l.map toW) := by
  intro d
  induction d with
  | zero =>
    intro i hi
    refine Ev.succ ?_
    simp only [laws_toWriteS.l0, if_neg (show ¬ ((i : Int) < (l.length : Int)) by omega)]
    exact Ev.some (by rw [List.take_of_length_le (by simp; omega), show l.length - i = 0 by omega]; simp)
  | succ d ih =>
    intro i hi
    refine Ev.succ ?_
    have hr := ih (i + 1) (by omega)
    have hrd : rd_T119 l (i : Int) = l.getD i z119 := by simp [rd_T119]
    simp only [laws_toWriteS.l0, if_pos (show ((i : Int) < (l.length : Int)) by omega), if_pos (show (0 : Int) ≤ (i : Int) by omega), hrd, w64s (show i < 9223372036854775807 by omega), Int.toNat_natCast, replicate_step l.length i z104 (by omega)]
    refine Ev.bind (laws_toWrite.ev _ _ (hw _ (getD_mem l i _ (by omega)))) ?_
    refine Ev.pos (by simp; omega) ?_
    simp only [set_at ((l.map toW).take i) (List.replicate (l.length - (i + 1)) z104) z104 (⟨(l.getD i z119).f0, (l.getD i z119).f1⟩ : S104) i (by simp; omega)]
    rw [take_snoc (l.map toW) i (toW z119) (by simp; omega), getD_map] at hr
    exact hr
theorem laws_toWriteS.ev (l : List S119) (hl : l.length ≤ 8796093022208) (hw : ∀ x ∈ l, x.f1.length ≤ 140737488355328) : Ev (fun k => laws_toWriteS.f k l) (l.map toW) := by
  unfold laws_toWriteS.f
  refine Ev.pos (by omega) (Ev.pos (by simp; omega) ?_)
  have := laws_toWriteS.ev0 l hl hw l.length 0 (by omega)
  simpa using this

/-! ### laws.toDisk -/
theorem laws_toDisk.ev (bs : List (List Int)) (ws : List S119) (h1 : bs.length ≤ 1048576) (h2 : ∀ x ∈ bs, x.length ≤ 1048576) (h3 : ws.length ≤ 1048576) (h4 : ∀ x ∈ ws, x.f1.length ≤ 1048576) : Ev (fun k => laws_toDisk.f k bs ws) (bs, ws.map toW) := by
  unfold laws_toDisk.f
  refine Ev.bind (laws_toByteSS.ev bs (by omega) (fun x hx => by have := h2 x hx; omega)) ?_
  refine Ev.bind (laws_toWriteS.ev ws (by omega) (fun x hx => by have := h4 x hx; omega)) ?_
  exact Ev.now _

/-! ### laws.eqByteSS -/
theorem laws_eqByteSS.refl0 (a : List (List Int)) (hb : a.length ≤ 140737488355328) (hw : ∀ x ∈ a, x.length ≤ 140737488355328) : ∀ d i : Nat, i + d = a.length → Ev (fun k => laws_eqByteSS.l0 k a a (i : Int)) true := by
  intro d
  induction d with
  | zero =>
    intro i hi
    refine Ev.succ ?_
    simp only [laws_eqByteSS.l0, if_neg (show ¬ ((i : Int) < (a.length : Int)) by omega)]
    exact Ev.now _
  | succ d ih =>
    intro i hi
    refine Ev.succ ?_
    have hrd : rd_L1 a (i : Int) = a.getD i [] := by simp [rd_L1]
    simp only [laws_eqByteSS.l0, if_pos (show ((i : Int) < (a.length : Int)) by omega), if_pos (show (0 : Int) ≤ (i : Int) by omega), hrd, w64s (show i < 9223372036854775807 by omega)]
    refine Ev.bind (laws_eqByteS.ev _ _ (hw _ (getD_mem a i [] (by omega)))) ?_
    exact Ev.pos (by simp) (ih (i + 1) (by omega))
theorem laws_eqByteSS.refl (a : List (List Int)) (hb : a.length ≤ 140737488355328) (hw : ∀ x ∈ a, x.length ≤ 140737488355328) : Ev (fun k => laws_eqByteSS.f k a a) true := by
  unfold laws_eqByteSS.f
  refine Ev.pos rfl ?_
  have := laws_eqByteSS.refl0 a hb hw a.length 0 (by omega)
  simpa using this

/-! ### laws.eqWrite -/
theorem laws_eqWrite.refl (b : Int) (l : List Int) (hl : l.length ≤ 140737488355328) : Ev (fun k => laws_eqWrite.f k b l b l) true := by
  unfold laws_eqWrite.f
  refine Ev.pos rfl ?_
  refine Ev.bind (laws_eqByteS.ev l l hl) ?_
  exact Ev.pos (by simp) (Ev.now _)

/-! ### laws.eqWriteS -/
theorem laws_eqWriteS.refl0 (a : List S104) (hb : a.length ≤ 140737488355328) (hw : ∀ x ∈ a, x.f1.length ≤ 140737488355328) : ∀ d i : Nat, i + d = a.length → Ev (fun k => laws_eqWriteS.l0 k a a (i : Int)) true := by
  intro d
  induction d with
  | zero =>
    intro i hi
    refine Ev.succ ?_
    simp only [laws_eqWriteS.l0, if_neg (show ¬ ((i : Int) < (a.length : Int)) by omega)]
    exact Ev.now _
  | succ d ih =>
    intro i hi
    refine Ev.succ ?_
    have hrd : rd_T104 a (i : Int) = a.getD i z104 := by simp [rd_T104]
    simp only [laws_eqWriteS.l0, if_pos (show ((i : Int) < (a.length : Int)) by omega), if_pos (show (0 : Int) ≤ (i : Int) by omega), hrd, w64s (show i < 9223372036854775807 by omega)]
    refine Ev.bind (laws_eqWrite.refl _ _ (hw _ (getD_mem a i _ (by omega)))) ?_
    exact Ev.pos rfl (ih (i + 1) (by omega))
theorem laws_eqWriteS.refl (a : List S104) (hb : a.length ≤ 140737488355328) (hw : ∀ x ∈ a, x.f1.length ≤ 140737488355328) : Ev (fun k => laws_eqWriteS.f k a a) true := by
  unfold laws_eqWriteS.f
  refine Ev.pos rfl ?_
  have := laws_eqWriteS.refl0 a hb hw a.length 0 (by omega)
  simpa using this

/-! ### laws.eqDisk -/
theorem laws_eqDisk.refl (bs : List (List Int)) (ws : List S104) (h1 : bs.length ≤ 140737488355328) (h2 : ∀ x ∈ bs, x.length ≤ 140737488355328) (h3 : ws.length ≤ 140737488355328) (h4 : ∀ x ∈ ws, x.f1.length ≤ 140737488355328) : Ev (fun k => laws_eqDisk.f k bs ws bs ws) true := by
  unfold laws_eqDisk.f
  refine Ev.bind (laws_eqByteSS.refl bs h1 h2) (Ev.pos rfl ?_)
  refine Ev.bind (laws_eqWriteS.refl ws h3 h4) (Ev.pos rfl (Ev.now _))

/-! ### spec.DiskOk -/
/-- A disk that is right. -/
def diskOk (bs : List (List Int)) (ws : List S104) : Bool := decide (bs.length = 128 ∧ ws.length ≤ 200) && bs.all (fun b => decide (b.length = 64)) && ws.all (fun w => decide (0 ≤ w.f0 ∧ w.f0 ≤ 127 ∧ w.f1.length = 64))
theorem spec_DiskOk.ev1 (ws : List S104) (hb : ws.length ≤ 140737488355328) : ∀ d i : Nat, i + d = ws.length → Ev (fun k => spec_DiskOk.l1 k ws (ws.length : Int) (i : Int)) ((ws.drop i).all (fun w => decide (0 ≤ w.f0 ∧ w.f0 ≤ 127 ∧ w.f1.length = 64))) := by
  intro d
  induction d with
  | zero =>
    intro i hi
    refine Ev.succ ?_
    simp only [spec_DiskOk.l1, if_neg (show ¬ ((i : Int) < (ws.length : Int)) by omega)]
    rw [drop_nil ws i (by omega)]
    exact Ev.now _
  | succ d ih =>
    intro i hi
    refine Ev.succ ?_
    have hrd : rd_T104 ws (i : Int) = ws.getD i z104 := by simp [rd_T104]
    simp only [spec_DiskOk.l1, if_pos (show ((i : Int) < (ws.length : Int)) by omega), if_pos (show (0 : Int) ≤ (i : Int) by omega), hrd, spec_l1in.is, Option.bind_some, decide_eq_true_eq, w64s (show i < 9223372036854775807 by omega)]
    rw [drop_cons ws i z104 (by omega), List.all_cons]
    by_cases h1 : 0 ≤ (ws.getD i z104).f0 ∧ (ws.getD i z104).f0 ≤ 127
    · refine Ev.pos h1 ?_
      by_cases h2 : (ws.getD i z104).f1.length = 64
      · refine Ev.pos (by omega) ?_
        rw [decide_eq_true ⟨h1.1, h1.2, h2⟩, Bool.true_and]
        exact ih (i + 1) (by omega)
      · rw [decide_eq_false (fun h => h2 h.2.2), Bool.false_and]
        exact Ev.neg (by omega) (Ev.now _)
    · rw [decide_eq_false (fun h => h1 ⟨h.1, h.2.1⟩), Bool.false_and]
      exact Ev.neg h1 (Ev.now _)
theorem spec_DiskOk.ev0 (bs : List (List Int)) (ws : List S104) (hb : bs.length ≤ 140737488355328) (hw : ws.length ≤ 140737488355328) : ∀ d i : Nat, i + d = bs.length → Ev (fun k => spec_DiskOk.l0 k bs (bs.length : Int) (i : Int) bs ws) ((bs.drop i).all (fun b => decide (b.length = 64)) && ws.all (fun w => decide (0 ≤ w.f0 ∧ w.f0 ≤ 127 ∧ w.f1.length = 64))) := by
  intro d
  induction d with
  | zero =>
    intro i hi
    refine Ev.succ ?_
    simp only [spec_DiskOk.l0, if_neg (show ¬ ((i : Int) < (bs.length : Int)) by omega)]
    rw [drop_nil bs i (by omega), List.all_nil, Bool.true_and]
    have := spec_DiskOk.ev1 ws hw ws.length 0 (by omega)
    simpa using this
  | succ d ih =>
    intro i hi
    refine Ev.succ ?_
    have hrd : rd_L1 bs (i : Int) = bs.getD i [] := by simp [rd_L1]
    simp only [spec_DiskOk.l0, if_pos (show ((i : Int) < (bs.length : Int)) by omega), if_pos (show (0 : Int) ≤ (i : Int) by omega), hrd, w64s (show i < 9223372036854775807 by omega)]
    rw [drop_cons bs i [] (by omega), List.all_cons]
    by_cases h1 : (bs.getD i []).length = 64
    · refine Ev.pos (by omega) ?_
      rw [decide_eq_true h1, Bool.true_and]
      exact ih (i + 1) (by omega)
    · rw [decide_eq_false h1, Bool.false_and, Bool.false_and]
      exact Ev.neg (by omega) (Ev.now _)
theorem spec_DiskOk.ev (bs : List (List Int)) (ws : List S104) (hb : bs.length ≤ 140737488355328) (hw : ws.length ≤ 140737488355328) : Ev (fun k => spec_DiskOk.f k bs ws) (diskOk bs ws) := by
  unfold spec_DiskOk.f diskOk
  by_cases h1 : bs.length = 128
  · refine Ev.pos (by omega) ?_
    refine Ev.succ ?_
    simp only [spec_DiskOk.j0]
    by_cases h2 : ws.length ≤ 200
    · refine Ev.neg (by simp; omega) ?_
      rw [decide_eq_true ⟨h1, h2⟩, Bool.true_and]
      have := spec_DiskOk.ev0 bs ws hb hw bs.length 0 (by omega)
      simpa using this
    · rw [show decide (bs.length = 128 ∧ ws.length ≤ 200) = false from decide_eq_false (fun h => h2 h.2), Bool.false_and, Bool.false_and]
      exact Ev.pos (by simp; omega) (Ev.now _)
  · rw [show decide (bs.length = 128 ∧ ws.length ≤ 200) = false from decide_eq_false (fun h => h1 h.1), Bool.false_and, Bool.false_and]
    refine Ev.neg (by omega) ?_
    refine Ev.succ ?_
    simp only [spec_DiskOk.j0, if_true]
    exact Ev.now _

/-! ### impl.DiskOk -/
theorem impl_DiskOk.ev1 (ws : List S104) (hb : ws.length ≤ 140737488355328) : ∀ d i : Nat, i + d = ws.length → Ev (fun k => impl_DiskOk.l1 k ws (ws.length : Int) (i : Int)) ((ws.drop i).all (fun w => decide (0 ≤ w.f0 ∧ w.f0 ≤ 127 ∧ w.f1.length = 64))) := by
  intro d
  induction d with
  | zero =>
    intro i hi
    refine Ev.succ ?_
    simp only [impl_DiskOk.l1, if_neg (show ¬ ((i : Int) < (ws.length : Int)) by omega)]
    rw [drop_nil ws i (by omega)]
    exact Ev.now _
  | succ d ih =>
    intro i hi
    refine Ev.succ ?_
    have hrd : rd_T104 ws (i : Int) = ws.getD i z104 := by simp [rd_T104]
    simp only [impl_DiskOk.l1, if_pos (show ((i : Int) < (ws.length : Int)) by omega), if_pos (show (0 : Int) ≤ (i : Int) by omega), hrd, w64s (show i < 9223372036854775807 by omega)]
    rw [drop_cons ws i z104 (by omega), List.all_cons]
    by_cases h1 : 0 ≤ (ws.getD i z104).f0
    · refine Ev.neg (by omega) ?_
      by_cases h3 : (ws.getD i z104).f0 ≤ 127
      · refine Ev.neg (by omega) ?_
        by_cases h2 : (ws.getD i z104).f1.length = 64
        · refine Ev.pos (by omega) ?_
          rw [decide_eq_true ⟨h1, h3, h2⟩, Bool.true_and]
          exact ih (i + 1) (by omega)
        · rw [decide_eq_false (fun h => h2 h.2.2), Bool.false_and]
          exact Ev.neg (by omega) (Ev.now _)
      · rw [decide_eq_false (fun h => h3 h.2.1), Bool.false_and]
        exact Ev.pos (by omega) (Ev.now _)
    · rw [decide_eq_false (fun h => h1 h.1), Bool.false_and]
      exact Ev.pos (by omega) (Ev.now _)
theorem impl_DiskOk.ev0 (bs : List (List Int)) (ws : List S104) (hb : bs.length ≤ 140737488355328) (hw : ws.length ≤ 140737488355328) : ∀ d i : Nat, i + d = bs.length → Ev (fun k => impl_DiskOk.l0 k bs (bs.length : Int) (i : Int) bs ws) ((bs.drop i).all (fun b => decide (b.length = 64)) && ws.all (fun w => decide (0 ≤ w.f0 ∧ w.f0 ≤ 127 ∧ w.f1.length = 64))) := by
  intro d
  induction d with
  | zero =>
    intro i hi
    refine Ev.succ ?_
    simp only [impl_DiskOk.l0, if_neg (show ¬ ((i : Int) < (bs.length : Int)) by omega)]
    rw [drop_nil bs i (by omega), List.all_nil, Bool.true_and]
    have := impl_DiskOk.ev1 ws hw ws.length 0 (by omega)
    simpa using this
  | succ d ih =>
    intro i hi
    refine Ev.succ ?_
    have hrd : rd_L1 bs (i : Int) = bs.getD i [] := by simp [rd_L1]
    simp only [impl_DiskOk.l0, if_pos (show ((i : Int) < (bs.length : Int)) by omega), if_pos (show (0 : Int) ≤ (i : Int) by omega), hrd, w64s (show i < 9223372036854775807 by omega)]
    rw [drop_cons bs i [] (by omega), List.all_cons]
    by_cases h1 : (bs.getD i []).length = 64
    · refine Ev.pos (by omega) ?_
      rw [decide_eq_true h1, Bool.true_and]
      exact ih (i + 1) (by omega)
    · rw [decide_eq_false h1, Bool.false_and, Bool.false_and]
      exact Ev.neg (by omega) (Ev.now _)
theorem impl_DiskOk.ev (bs : List (List Int)) (ws : List S104) (hb : bs.length ≤ 140737488355328) (hw : ws.length ≤ 140737488355328) : Ev (fun k => impl_DiskOk.f k bs ws) (diskOk bs ws) := by
  unfold impl_DiskOk.f diskOk
  by_cases h1 : bs.length = 128
  · refine Ev.pos (by omega) ?_
    refine Ev.succ ?_
    simp only [impl_DiskOk.j0]
    by_cases h2 : ws.length ≤ 200
    · refine Ev.neg (by simp; omega) ?_
      rw [decide_eq_true ⟨h1, h2⟩, Bool.true_and]
      have := impl_DiskOk.ev0 bs ws hb hw bs.length 0 (by omega)
      simpa using this
    · rw [show decide (bs.length = 128 ∧ ws.length ≤ 200) = false from decide_eq_false (fun h => h2 h.2), Bool.false_and, Bool.false_and]
      exact Ev.pos (by simp; omega) (Ev.now _)
  · rw [show decide (bs.length = 128 ∧ ws.length ≤ 200) = false from decide_eq_false (fun h => h1 h.1), Bool.false_and, Bool.false_and]
    refine Ev.neg (by omega) ?_
    refine Ev.succ ?_
    simp only [impl_DiskOk.j0, if_true]
    exact Ev.now _

/-! ### laws.FnExactDiskOk -/
theorem pure : laws_FnExactDiskOk.Pure := by
  intro bs ws ⟨⟨h1, h2⟩, h3, h4⟩
  refine Ev.rounds ?_
  unfold laws_FnExactDiskOk.f
  obtain ⟨r, hr, hr0, hr1, hr2⟩ := laws_szDisk.ev bs ws 1048576 (by omega) (by omega) ⟨⟨h1, fun x hx => (h2 x hx).1⟩, h3, fun x hx => (h4 x hx).2.1⟩
  refine Ev.bind hr ?_
  by_cases h0 : r < 0
  · exact Ev.pos h0 (Ev.now _)
  refine Ev.neg h0 ?_
  obtain ⟨_, a1, a2, a3, a4⟩ := hr2 (by omega)
  have ht := laws_toDisk.ev bs ws (by omega) (fun x hx => by have := a3 x hx; omega) (by omega) (fun x hx => by have := a4 x hx; omega)
  have e2 : ∀ x ∈ bs, x.length ≤ 140737488355328 := fun x hx => by have := a3 x hx; omega
  have e4 : ∀ x ∈ ws.map toW, x.f1.length ≤ 140737488355328 := fun x hx => by
    obtain ⟨y, hy, rfl⟩ := List.mem_map.1 hx
    have := a4 y hy
    show y.f1.length ≤ _
    omega
  have e3 : (ws.map toW).length ≤ 140737488355328 := by simp; omega
  have e1 : bs.length ≤ 140737488355328 := by omega
  refine Ev.bind ht (Ev.bind (spec_DiskOk.ev bs (ws.map toW) e1 e3) (Ev.bind ht (Ev.bind (impl_DiskOk.ev bs (ws.map toW) e1 e3) ?_)))
  refine Ev.neg (by simp) (Ev.bind ht (Ev.bind (laws_eqDisk.refl bs (ws.map toW) e1 e2 e3 e4) ?_))
  exact Ev.pos rfl (Ev.now _)

end Go.Proofs.Ytkhakdggfknlpaa.PFnExactDiskOk
