/- What the functions that FnExactCounts reaches tell, and its pure statement. No condition. -/
import Derived.Test.YtkhakdggfknlpaaPFnExactCountsx0
import Derived.Test.YtkhakdggfknlpaaPFnExactCountsx1
import Derived.Test.YtkhakdggfknlpaaPFnExactCountsx2
import Derived.Test.YtkhakdggfknlpaaPFnExactCountsx3
import Derived.Test.YtkhakdggfknlpaaMath
namespace Go.Proofs.Ytkhakdggfknlpaa.PFnExactCounts
open Go.RowKit Go.Proofs.YtkhakdggfknlpaaW.PrintWords Go.Proofs.YtkhakdggfknlpaaW.PrintLast Go.Proofs.Ytkhakdggfknlpaa.Math
set_option linter.unusedVariables false
set_option linter.unusedSimpArgs false

/-! ### laws.szNote -/
theorem laws_szNote.is (t k w n : Int) (s : ByteArray) (a : Int) (h0 : -1 ≤ a) (h1 : a ≤ 1048576) (hs : s.size ≤ maxLen) : laws_szNote.f t k w n s a = some (szT a s.size) := by
  unfold maxLen at hs
  unfold laws_szNote.f szT
  rw [w64 (by omega) (by omega)]
  split <;> rfl

/-! ### laws.toNote -/
theorem laws_toNote.is (t k w n : Int) (s : ByteArray) : laws_toNote.f t k w n s = some (t, k, w, n, s) := rfl

/-! ### laws.szNoteS -/
def wfNotes (l : List S24) : Prop := l.length ≤ maxLen ∧ ∀ x ∈ l, x.f4.size ≤ maxLen
theorem laws_szNoteS.ev0 (l : List S24) (hl : l.length ≤ 9223372036854775806) (hw : ∀ x ∈ l, x.f4.size ≤ maxLen) : ∀ (d i : Nat) (a : Int), -1 ≤ a → a ≤ 1048576 → i + d = l.length → Ev (fun k => laws_szNoteS.l0 k l a (i : Int)) (szAll a ((l.drop i).map fun x => (x.f4.size : Int))) := by
  intro d
  induction d with
  | zero =>
    intro i a h0 h1 hi
    refine Ev.succ ?_
    simp only [laws_szNoteS.l0, if_neg (show ¬ ((i : Int) < (l.length : Int)) by omega)]
    rw [drop_nil l i (by omega)]
    exact Ev.now _
  | succ d ih =>
    intro i a h0 h1 hi
    refine Ev.succ ?_
    have hx : l.getD i z24 ∈ l := getD_mem l i _ (by omega)
    have hrd : rd_T24 l (i : Int) = l.getD i z24 := by simp [rd_T24]
    simp only [laws_szNoteS.l0, if_pos (show ((i : Int) < (l.length : Int)) by omega), if_pos (show (0 : Int) ≤ (i : Int) by omega), hrd, laws_szNote.is _ _ _ _ _ _ h0 h1 (hw _ hx), Option.bind_some, w64s (show i < 9223372036854775807 by omega)]
    rw [drop_cons l i z24 (by omega), List.map_cons, szAll_cons]
    by_cases h : szT a ((l.getD i z24).f4.size : Int) < 0
    · rw [if_pos h]; exact Ev.pos h (Ev.now _)
    · rw [if_neg h]
      refine Ev.neg h (ih (i + 1) _ szT_ge ?_ (by omega))
      have := (szT_pos (a := a) (m := ((l.getD i z24).f4.size : Int)) (by omega)).1
      omega
theorem laws_szNoteS.ev' (l : List S24) (a : Int) (h0 : -1 ≤ a) (h1 : a ≤ 1048576) (hw : wfNotes l) : Ev (fun k => laws_szNoteS.f k l a) (szAll a ((l.length : Int) :: l.map fun x => (x.f4.size : Int))) := by
  unfold laws_szNoteS.f
  have hl' : l.length ≤ 9223372036854775807 := hw.1
  rw [w64 (by omega) (by omega), szAll_cons]
  by_cases h : a - (l.length : Int) < 0
  · rw [if_pos (show szT a (l.length : Int) < 0 by unfold szT; rw [if_pos h]; omega)]
    exact Ev.pos h (Ev.now _)
  · have e : szT a (l.length : Int) = a - l.length := by unfold szT; rw [if_neg h]
    rw [e, if_neg h]
    refine Ev.neg h ?_
    have := laws_szNoteS.ev0 l (by omega) hw.2 l.length 0 (a - l.length) (by omega) (by omega) (by omega)
    simpa using this
theorem szs_notes (l : List S24) (m : Nat) : ∀ x ∈ ((m : Int) :: l.map fun x => (x.f4.size : Int)), (0 : Int) ≤ x := by
  intro x hx
  rcases List.mem_cons.1 hx with rfl | hx
  · omega
  · obtain ⟨y, _, rfl⟩ := List.mem_map.1 hx; omega
theorem laws_szNoteS.ev (l : List S24) (a : Int) (h0 : 0 ≤ a) (h1 : a ≤ 1048576) (hw : wfNotes l) : ∃ r, Ev (fun k => laws_szNoteS.f k l a) r ∧ -1 ≤ r ∧ r ≤ a ∧ (0 ≤ r → (l.length : Int) + r ≤ a ∧ ∀ x ∈ l, (x.f4.size : Int) ≤ a) := by
  have n1 := szs_notes l l.length
  refine ⟨_, laws_szNoteS.ev' l a (by omega) h1 hw, szAll_ge _ _ (by omega), szAll_le _ _ h0 n1, fun h => ?_⟩
  obtain ⟨p1, p2⟩ := szAll_pos h0 n1 h
  refine ⟨?_, fun x hx => p2 _ (List.mem_cons_of_mem _ (List.mem_map.2 ⟨x, hx, rfl⟩))⟩
  have hs : (0 : Int) ≤ (l.map fun x => (x.f4.size : Int)).sum := by
    clear p1 p2 n1 h hw
    induction l with
    | nil => simp
    | cons x l ih => simp only [List.map_cons, List.sum_cons]; omega
  rw [List.sum_cons] at p1
  omega

/-! ### laws.toNoteS -/
def toN (x : S24) : S27 := ⟨x.f0, x.f1, x.f2, x.f3, x.f4⟩
theorem laws_toNoteS.ev0 (l : List S24) (hl : l.length ≤ 5864062014805) : ∀ d i : Nat, i + d = l.length → Ev (fun k => laws_toNoteS.l0 k l ((l.map toN).take i ++ List.replicate (l.length - i) z27) (i : Int)) (l.map toN) := by
  intro d
  induction d with
  | zero =>
    intro i hi
    refine Ev.succ ?_
    simp only [laws_toNoteS.l0, if_neg (show ¬ ((i : Int) < (l.length : Int)) by omega)]
    exact Ev.some (by rw [List.take_of_length_le (by simp; omega), show l.length - i = 0 by omega]; simp)
  | succ d ih =>
    intro i hi
    refine Ev.succ ?_
    have hr := ih (i + 1) (by omega)
    have hrd : rd_T24 l (i : Int) = l.getD i z24 := by simp [rd_T24]
    simp only [laws_toNoteS.l0, if_pos (show ((i : Int) < (l.length : Int)) by omega), if_pos (show (0 : Int) ≤ (i : Int) by omega), hrd, laws_toNote.is, Option.bind_some, w64s (show i < 9223372036854775807 by omega), Int.toNat_natCast, replicate_step l.length i z27 (by omega)]
    refine Ev.pos (by simp; omega) ?_
    simp only [set_at ((l.map toN).take i) (List.replicate (l.length - (i + 1)) z27) z27 (⟨(l.getD i z24).f0, (l.getD i z24).f1, (l.getD i z24).f2, (l.getD i z24).f3, (l.getD i z24).f4⟩ : S27) i (by simp; omega)]
    rw [take_snoc (l.map toN) i (toN z24) (by simp; omega), getD_map] at hr
    exact hr
theorem laws_toNoteS.ev (l : List S24) (hl : l.length ≤ 5864062014805) : Ev (fun k => laws_toNoteS.f k l) (l.map toN) := by
  unfold laws_toNoteS.f
  refine Ev.pos (by omega) (Ev.pos (by simp; omega) ?_)
  have := laws_toNoteS.ev0 l hl l.length 0 (by omega)
  simpa using this

/-! ### laws.eqNote -/
theorem laws_eqNote.refl (t k w n : Int) (s : ByteArray) : laws_eqNote.f t k w n s t k w n s = some true := by
  unfold laws_eqNote.f
  simp

/-! ### laws.eqNoteS -/
theorem laws_eqNoteS.refl0 (a : List S27) (hb : a.length ≤ 140737488355328) : ∀ d i : Nat, i + d = a.length → Ev (fun k => laws_eqNoteS.l0 k a a (i : Int)) true := by
  intro d
  induction d with
  | zero =>
    intro i hi
    refine Ev.succ ?_
    simp only [laws_eqNoteS.l0, if_neg (show ¬ ((i : Int) < (a.length : Int)) by omega)]
    exact Ev.now _
  | succ d ih =>
    intro i hi
    refine Ev.succ ?_
    simp only [laws_eqNoteS.l0, if_pos (show ((i : Int) < (a.length : Int)) by omega), if_pos (show (0 : Int) ≤ (i : Int) by omega), w64s (show i < 9223372036854775807 by omega), laws_eqNote.refl, Option.bind_some]
    exact Ev.pos trivial (ih (i + 1) (by omega))
theorem laws_eqNoteS.refl (a : List S27) (hb : a.length ≤ 140737488355328) : Ev (fun k => laws_eqNoteS.f k a a) true := by
  unfold laws_eqNoteS.f
  refine Ev.pos rfl ?_
  have := laws_eqNoteS.refl0 a hb a.length 0 (by omega)
  simpa using this

/-! ### laws.markText -/
theorem laws_markText.ev0 : ∀ (n : Nat) (x : Int) (s : ByteArray), x.toNat ≤ n → s.size + n ≤ 4611686018427387904 → ∃ r, Ev (fun k => laws_markText.l0 k x s) r := by
  intro n
  induction n with
  | zero =>
    intro x s hx hs
    refine ⟨(⟨#[109]⟩ : ByteArray) ++ s, Ev.succ ?_⟩
    simp only [laws_markText.l0, if_neg (show ¬ (x > 0) by omega)]
    exact Ev.pos (by omega) (Ev.now _)
  | succ n ih =>
    intro x s hx hs
    by_cases h : x > 0
    · have hd : 0 ≤ x / 10 ∧ x / 10 < x := by omega
      have h1 : (strOfNums [(wrap64 (48 + (Int.tmod x 10))) % 256]).size = 1 := rfl
      obtain ⟨r, hr⟩ := ih (wrap64 (Int.tdiv x 10)) (strOfNums [(wrap64 (48 + (Int.tmod x 10))) % 256] ++ s) (by
        rw [Int.tdiv_eq_ediv_of_nonneg (by omega)]
        unfold wrap64
        omega) (by rw [ByteArray.size_append, h1]; omega)
      refine ⟨r, Ev.succ ?_⟩
      simp only [laws_markText.l0, if_pos h, Option.bind_some]
      exact Ev.pos (by rw [h1]; omega) hr
    · refine ⟨(⟨#[109]⟩ : ByteArray) ++ s, Ev.succ ?_⟩
      simp only [laws_markText.l0, if_neg h]
      exact Ev.pos (by omega) (Ev.now _)
theorem laws_markText.ev1 (x : Int) (hx : x ≤ 1000000000000000) : ∃ r, Ev (fun k => laws_markText.f k x) r := by
  unfold laws_markText.f
  by_cases h : x ≤ 0
  · exact ⟨_, Ev.pos h (Ev.now _)⟩
  · obtain ⟨r, hr⟩ := laws_markText.ev0 x.toNat x (⟨#[]⟩ : ByteArray) (Nat.le_refl _) (by
      show 0 + x.toNat ≤ _
      omega)
    exact ⟨r, Ev.neg h hr⟩
open Classical in
/-- The text of a mark. -/
noncomputable def mtext (x : Int) : ByteArray := if h : ∃ r, Ev (fun k => laws_markText.f k x) r then Classical.choose h else ByteArray.empty
theorem laws_markText.ev (x : Int) (hx : x ≤ 1000000000000000) : Ev (fun k => laws_markText.f k x) (mtext x) := by
  have h := laws_markText.ev1 x hx
  unfold mtext
  rw [dif_pos h]
  exact Classical.choose_spec h

/-! ### laws.markNoteS -/
noncomputable def marksN (k : Int) : Nat → List S27
  | 0 => []
  | n + 1 => ⟨k, k + 1, k + 2, k + 3, mtext (k + 4)⟩ :: marksN (k + 5) n
theorem marksN_length (k : Int) (n : Nat) : (marksN k n).length = n := by
  induction n generalizing k with
  | zero => rfl
  | succ n ih => simp [marksN, ih]
theorem laws_markNoteS.ev0 : ∀ (d : Nat) (b a : List S27) (x : Int) (i : Nat), b.length = d → a.length = i → i + d ≤ 140737488355328 → 0 ≤ x → x + 5 * d ≤ 100000000000000 → Ev (fun k => laws_markNoteS.l0 k (a ++ b) x (i : Int)) (x + 5 * d, a ++ marksN x d) := by
  intro d
  induction d with
  | zero =>
    intro b a x i hb ha hi hx hd
    refine Ev.succ ?_
    obtain rfl := List.eq_nil_of_length_eq_zero hb
    simp only [laws_markNoteS.l0, List.append_nil, if_neg (show ¬ ((i : Int) < (a.length : Int)) by omega)]
    exact Ev.some (by simp [marksN])
  | succ d ih =>
    intro b a x i hb ha hi hx hd
    refine Ev.succ ?_
    obtain ⟨y, b, rfl⟩ : ∃ y b', b = y :: b' := by
      cases b with
      | nil => simp at hb
      | cons y b => exact ⟨y, b, rfl⟩
    have hl : b.length = d := by simpa using hb
    have hr := ih b (a ++ [⟨x, x + 1, x + 2, x + 3, mtext (x + 4)⟩]) (x + 5) (i + 1) hl (by simp [ha]) (by omega) (by omega) (by omega)
    have hs : ∀ z z' : S27, (a ++ z :: b).set i z' = a ++ z' :: b := fun z z' => by subst ha; simp
    have hg : ∀ z : S27, rd_T27 (a ++ z :: b) (i : Int) = z := fun z => by subst ha; simp [rd_T27]
    simp only [laws_markNoteS.l0, if_pos (show ((i : Int) < ((a ++ y :: b).length : Int)) by simp; omega), if_pos (show (0 : Int) ≤ (i : Int) by omega), w64s (show i < 9223372036854775807 by omega), Int.toNat_natCast, Option.bind_some, hs, hg,
      w64 (show (-9223372036854775808 : Int) ≤ x + 1 by omega) (show x + 1 ≤ 9223372036854775807 by omega), w64 (show (-9223372036854775808 : Int) ≤ x + 1 + 1 by omega) (show x + 1 + 1 ≤ 9223372036854775807 by omega), w64 (show (-9223372036854775808 : Int) ≤ x + 1 + 1 + 1 by omega) (show x + 1 + 1 + 1 ≤ 9223372036854775807 by omega),
      w64 (show (-9223372036854775808 : Int) ≤ x + 1 + 1 + 1 + 1 by omega) (show x + 1 + 1 + 1 + 1 ≤ 9223372036854775807 by omega), w64 (show (-9223372036854775808 : Int) ≤ x + 1 + 1 + 1 + 1 + 1 by omega) (show x + 1 + 1 + 1 + 1 + 1 ≤ 9223372036854775807 by omega)]
    refine Ev.bind (laws_markText.ev _ (by omega)) ?_
    have e : (x + 5 * ((d + 1 : Nat) : Int), a ++ marksN x (d + 1)) = (x + 5 + 5 * (d : Int), a ++ [⟨x, x + 1, x + 2, x + 3, mtext (x + 4)⟩] ++ marksN (x + 5) d) := by
      simp [marksN]; omega
    rw [e]
    rw [show x + 1 + 1 = x + 2 by omega, show x + 2 + 1 = x + 3 by omega, show x + 3 + 1 = x + 4 by omega, show x + 4 + 1 = x + 5 by omega, show a ++ (⟨x, x + 1, x + 2, x + 3, mtext (x + 4)⟩ : S27) :: b = a ++ [⟨x, x + 1, x + 2, x + 3, mtext (x + 4)⟩] ++ b by simp]
    exact hr
theorem laws_markNoteS.ev (l : List S27) (x : Int) (hl : l.length ≤ 140737488355328) (hx : 0 ≤ x) (hd : x + 5 * l.length ≤ 100000000000000) : Ev (fun k => laws_markNoteS.f k l x) (x + 5 * l.length, marksN x l.length) := by
  unfold laws_markNoteS.f
  have := laws_markNoteS.ev0 l.length l [] x 0 rfl rfl (by omega) hx hd
  simpa using this

/-! ### impl.Counts spec.Counts -/
/-- How many notes of this kind there are, and their sum, c and s before them. -/
def countAt (kind : Int) (c s : Int) : List S27 → Int × Int
  | [] => (c, s)
  | n :: l => if n.f1 = kind then countAt kind (c + 1) (wrap64 (s + n.f3)) l else countAt kind c s l
def countsM (l : List S27) : Nat → Int → List S108
  | 0, _ => []
  | d + 1, x => (if (countAt x 0 0 l).1 > 0 then [⟨x, (countAt x 0 0 l).1, (countAt x 0 0 l).2⟩] else []) ++ countsM l d (x + 1)
theorem countsM_length (l : List S27) : ∀ d x, (countsM l d x).length ≤ d := by
  intro d
  induction d with
  | zero => intro x; simp [countsM]
  | succ d ih =>
    intro x
    have := ih (x + 1)
    simp only [countsM, List.length_append]
    split <;> simp <;> omega

/-! ### spec.Counts -/
theorem spec_Counts.ev1 (l : List S27) (hl : l.length ≤ 140737488355328) (acc : List S108) (x : Int) (r : List S108) : ∀ (d i : Nat) (c s : Int), 0 ≤ c → c + d ≤ 140737488355328 → i + d = l.length →
    Ev (fun k => if (countAt x c s (l.drop i)).1 > 0 then (if acc.length < 5864062014805 then (spec_Counts.l0 k l (acc ++ [(⟨x, (countAt x c s (l.drop i)).1, (countAt x c s (l.drop i)).2⟩ : S108)]) (wrap64 (x + 1))) else none) else spec_Counts.l0 k l acc (wrap64 (x + 1))) r →
    Ev (fun k => spec_Counts.l1 k l acc x l (l.length : Int) (i : Int) x c s) r := by
  intro d
  induction d with
  | zero =>
    intro i c s hc hcd hi hr
    refine Ev.succ ?_
    simp only [spec_Counts.l1, if_neg (show ¬ ((i : Int) < (l.length : Int)) by omega)]
    rw [drop_nil l i (by omega)] at hr
    exact hr
  | succ d ih =>
    intro i c s hc hcd hi hr
    refine Ev.succ ?_
    have hrd : rd_T27 l (i : Int) = l.getD i z27 := by simp [rd_T27]
    simp only [spec_Counts.l1, if_pos (show ((i : Int) < (l.length : Int)) by omega), if_pos (show (0 : Int) ≤ (i : Int) by omega), hrd, w64s (show i < 9223372036854775807 by omega), w64 (show (-9223372036854775808 : Int) ≤ c + 1 by omega) (show c + 1 ≤ 9223372036854775807 by omega)]
    rw [drop_cons l i z27 (by omega)] at hr
    simp only [countAt] at hr
    by_cases h : (l.getD i z27).f1 = x
    · refine Ev.pos h (ih (i + 1) _ _ (by omega) (by omega) (by omega) ?_)
      simp only [if_pos h] at hr
      exact hr
    · refine Ev.neg h (ih (i + 1) _ _ (by omega) (by omega) (by omega) ?_)
      simp only [if_neg h] at hr
      exact hr
theorem spec_Counts.ev0 (l : List S27) (hl : l.length ≤ 70368744177664) : ∀ (d : Nat) (x : Int) (acc : List S108), x + d = 101 → 0 ≤ x → (acc.length : Int) ≤ x → Ev (fun k => spec_Counts.l0 k l acc x) (acc ++ countsM l d x) := by
  intro d
  induction d with
  | zero =>
    intro x acc hx h0 ha
    refine Ev.succ ?_
    simp only [spec_Counts.l0, if_neg (show ¬ (x ≤ 100) by omega)]
    exact Ev.some (by simp [countsM])
  | succ d ih =>
    intro x acc hx h0 ha
    refine Ev.succ ?_
    simp only [spec_Counts.l0, if_pos (show x ≤ 100 by omega)]
    refine spec_Counts.ev1 l (by omega) acc x _ l.length 0 0 0 (by omega) (by omega) (by omega) ?_
    simp only [List.drop_zero, countsM, w64 (show (-9223372036854775808 : Int) ≤ x + 1 by omega) (show x + 1 ≤ 9223372036854775807 by omega)]
    by_cases h : (countAt x 0 0 l).1 > 0
    · refine Ev.pos h (Ev.pos (by omega) ?_)
      rw [if_pos h, ← List.append_assoc]
      exact ih (x + 1) _ (by omega) (by omega) (by simp; omega)
    · refine Ev.neg h ?_
      rw [if_neg h, List.nil_append]
      exact ih (x + 1) _ (by omega) (by omega) (by omega)
theorem spec_Counts.ev (l : List S27) (hl : l.length ≤ 70368744177664) : Ev (fun k => spec_Counts.f k l) (countsM l 101 0) := by
  unfold spec_Counts.f
  exact spec_Counts.ev0 l hl 101 0 [] (by omega) (by omega) (by simp)

/-! ### impl.Counts -/
theorem impl_Counts.ev1 (l : List S27) (hl : l.length ≤ 140737488355328) (acc : List S108) (x : Int) (r : List S108) : ∀ (d i : Nat) (c s : Int), 0 ≤ c → c + d ≤ 140737488355328 → i + d = l.length →
    Ev (fun k => if (countAt x c s (l.drop i)).1 > 0 then (if acc.length < 5864062014805 then (impl_Counts.l0 k l (acc ++ [(⟨x, (countAt x c s (l.drop i)).1, (countAt x c s (l.drop i)).2⟩ : S108)]) (wrap64 (x + 1))) else none) else impl_Counts.l0 k l acc (wrap64 (x + 1))) r →
    Ev (fun k => impl_Counts.l1 k l acc x l (l.length : Int) (i : Int) x c s) r := by
  intro d
  induction d with
  | zero =>
    intro i c s hc hcd hi hr
    refine Ev.succ ?_
    simp only [impl_Counts.l1, if_neg (show ¬ ((i : Int) < (l.length : Int)) by omega)]
    rw [drop_nil l i (by omega)] at hr
    exact hr
  | succ d ih =>
    intro i c s hc hcd hi hr
    refine Ev.succ ?_
    have hrd : rd_T27 l (i : Int) = l.getD i z27 := by simp [rd_T27]
    simp only [impl_Counts.l1, if_pos (show ((i : Int) < (l.length : Int)) by omega), if_pos (show (0 : Int) ≤ (i : Int) by omega), hrd, w64s (show i < 9223372036854775807 by omega), w64 (show (-9223372036854775808 : Int) ≤ c + 1 by omega) (show c + 1 ≤ 9223372036854775807 by omega)]
    rw [drop_cons l i z27 (by omega)] at hr
    simp only [countAt] at hr
    by_cases h : (l.getD i z27).f1 = x
    · refine Ev.pos h (ih (i + 1) _ _ (by omega) (by omega) (by omega) ?_)
      simp only [if_pos h] at hr
      exact hr
    · refine Ev.neg h (ih (i + 1) _ _ (by omega) (by omega) (by omega) ?_)
      simp only [if_neg h] at hr
      exact hr
theorem impl_Counts.ev0 (l : List S27) (hl : l.length ≤ 70368744177664) : ∀ (d : Nat) (x : Int) (acc : List S108), x + d = 101 → 0 ≤ x → (acc.length : Int) ≤ x → Ev (fun k => impl_Counts.l0 k l acc x) (acc ++ countsM l d x) := by
  intro d
  induction d with
  | zero =>
    intro x acc hx h0 ha
    refine Ev.succ ?_
    simp only [impl_Counts.l0, if_neg (show ¬ (x ≤ 100) by omega)]
    exact Ev.some (by simp [countsM])
  | succ d ih =>
    intro x acc hx h0 ha
    refine Ev.succ ?_
    simp only [impl_Counts.l0, if_pos (show x ≤ 100 by omega)]
    refine impl_Counts.ev1 l (by omega) acc x _ l.length 0 0 0 (by omega) (by omega) (by omega) ?_
    simp only [List.drop_zero, countsM, w64 (show (-9223372036854775808 : Int) ≤ x + 1 by omega) (show x + 1 ≤ 9223372036854775807 by omega)]
    by_cases h : (countAt x 0 0 l).1 > 0
    · refine Ev.pos h (Ev.pos (by omega) ?_)
      rw [if_pos h, ← List.append_assoc]
      exact ih (x + 1) _ (by omega) (by omega) (by simp; omega)
    · refine Ev.neg h ?_
      rw [if_neg h, List.nil_append]
      exact ih (x + 1) _ (by omega) (by omega) (by omega)
theorem impl_Counts.ev (l : List S27) (hl : l.length ≤ 70368744177664) : Ev (fun k => impl_Counts.f k l) (countsM l 101 0) := by
  unfold impl_Counts.f
  exact impl_Counts.ev0 l hl 101 0 [] (by omega) (by omega) (by simp)

/-! ### laws.eqCount -/
theorem laws_eqCount.refl (t k w : Int) : laws_eqCount.f t k w t k w = some true := by
  unfold laws_eqCount.f
  simp

/-! ### laws.eqCountS -/
theorem laws_eqCountS.refl0 (a : List S108) (hb : a.length ≤ 140737488355328) : ∀ d i : Nat, i + d = a.length → Ev (fun k => laws_eqCountS.l0 k a a (i : Int)) true := by
  intro d
  induction d with
  | zero =>
    intro i hi
    refine Ev.succ ?_
    simp only [laws_eqCountS.l0, if_neg (show ¬ ((i : Int) < (a.length : Int)) by omega)]
    exact Ev.now _
  | succ d ih =>
    intro i hi
    refine Ev.succ ?_
    simp only [laws_eqCountS.l0, if_pos (show ((i : Int) < (a.length : Int)) by omega), if_pos (show (0 : Int) ≤ (i : Int) by omega), w64s (show i < 9223372036854775807 by omega), laws_eqCount.refl, Option.bind_some]
    exact Ev.pos trivial (ih (i + 1) (by omega))
theorem laws_eqCountS.refl (a : List S108) (hb : a.length ≤ 140737488355328) : Ev (fun k => laws_eqCountS.f k a a) true := by
  unfold laws_eqCountS.f
  refine Ev.pos rfl ?_
  have := laws_eqCountS.refl0 a hb a.length 0 (by omega)
  simpa using this

/-! ### laws.markCountS -/
def marksC (k : Int) : Nat → List S108
  | 0 => []
  | n + 1 => ⟨k, k + 1, k + 2⟩ :: marksC (k + 3) n
theorem marksC_length (k : Int) (n : Nat) : (marksC k n).length = n := by
  induction n generalizing k with
  | zero => rfl
  | succ n ih => simp [marksC, ih]
theorem laws_markCountS.ev0 : ∀ (d : Nat) (b a : List S108) (x : Int) (i : Nat), b.length = d → a.length = i → i + d ≤ 140737488355328 → 0 ≤ x → x + 3 * d ≤ 1000000000000000 → Ev (fun k => laws_markCountS.l0 k (a ++ b) x (i : Int)) (x + 3 * d, a ++ marksC x d) := by
  intro d
  induction d with
  | zero =>
    intro b a x i hb ha hi hx hd
    refine Ev.succ ?_
    obtain rfl := List.eq_nil_of_length_eq_zero hb
    simp only [laws_markCountS.l0, List.append_nil, if_neg (show ¬ ((i : Int) < (a.length : Int)) by omega)]
    exact Ev.some (by simp [marksC])
  | succ d ih =>
    intro b a x i hb ha hi hx hd
    refine Ev.succ ?_
    obtain ⟨y, b, rfl⟩ : ∃ y b', b = y :: b' := by
      cases b with
      | nil => simp at hb
      | cons y b => exact ⟨y, b, rfl⟩
    have hl : b.length = d := by simpa using hb
    have hr := ih b (a ++ [⟨x, x + 1, x + 2⟩]) (x + 3) (i + 1) hl (by simp [ha]) (by omega) (by omega) (by omega)
    have hs : ∀ z z' : S108, (a ++ z :: b).set i z' = a ++ z' :: b := fun z z' => by subst ha; simp
    have hg : ∀ z : S108, rd_T108 (a ++ z :: b) (i : Int) = z := fun z => by subst ha; simp [rd_T108]
    simp only [laws_markCountS.l0, if_pos (show ((i : Int) < ((a ++ y :: b).length : Int)) by simp; omega), if_pos (show (0 : Int) ≤ (i : Int) by omega), w64s (show i < 9223372036854775807 by omega), Int.toNat_natCast, Option.bind_some, hs, hg,
      w64 (show (-9223372036854775808 : Int) ≤ x + 1 by omega) (show x + 1 ≤ 9223372036854775807 by omega), w64 (show (-9223372036854775808 : Int) ≤ x + 1 + 1 by omega) (show x + 1 + 1 ≤ 9223372036854775807 by omega), w64 (show (-9223372036854775808 : Int) ≤ x + 1 + 1 + 1 by omega) (show x + 1 + 1 + 1 ≤ 9223372036854775807 by omega)]
    have e : (x + 3 * ((d + 1 : Nat) : Int), a ++ marksC x (d + 1)) = (x + 3 + 3 * (d : Int), a ++ [⟨x, x + 1, x + 2⟩] ++ marksC (x + 3) d) := by
      simp [marksC]; omega
    rw [e]
    rw [show x + 1 + 1 = x + 2 by omega, show x + 2 + 1 = x + 3 by omega, show a ++ (⟨x, x + 1, x + 2⟩ : S108) :: b = a ++ [⟨x, x + 1, x + 2⟩] ++ b by simp]
    exact hr
theorem laws_markCountS.ev (l : List S108) (x : Int) (hl : l.length ≤ 140737488355328) (hx : 0 ≤ x) (hd : x + 3 * l.length ≤ 1000000000000000) : Ev (fun k => laws_markCountS.f k l x) (x + 3 * l.length, marksC x l.length) := by
  unfold laws_markCountS.f
  have := laws_markCountS.ev0 l.length l [] x 0 rfl rfl (by omega) hx hd
  simpa using this

/-! ### laws.heldCountS -/
theorem laws_heldCountS.ev0 : ∀ (d : Nat) (a : List S108) (x : Int) (i : Nat), a.length = i → i + d ≤ 140737488355328 → 0 ≤ x → x + 3 * d ≤ 1000000000000000 → Ev (fun k => laws_heldCountS.l0 k (a ++ marksC x d) x (i : Int)) (x + 3 * d) := by
  intro d
  induction d with
  | zero =>
    intro a x i ha hi hx hd
    refine Ev.succ ?_
    simp only [laws_heldCountS.l0, marksC, List.append_nil, if_neg (show ¬ ((i : Int) < (a.length : Int)) by omega)]
    exact Ev.some (by simp)
  | succ d ih =>
    intro a x i ha hi hx hd
    refine Ev.succ ?_
    have hr := ih (a ++ [⟨x, x + 1, x + 2⟩]) (x + 3) (i + 1) (by simp [ha]) (by omega) (by omega) (by omega)
    have hg : rd_T108 (a ++ marksC x (d + 1)) (i : Int) = ⟨x, x + 1, x + 2⟩ := by
      subst ha
      simp [marksC, rd_T108]
    simp only [laws_heldCountS.l0, if_pos (show ((i : Int) < ((a ++ marksC x (d + 1)).length : Int)) by rw [List.length_append, marksC_length]; omega), if_pos (show (0 : Int) ≤ (i : Int) by omega), hg, if_true, w64s (show i < 9223372036854775807 by omega),
      w64 (show (-9223372036854775808 : Int) ≤ x + 1 by omega) (show x + 1 ≤ 9223372036854775807 by omega), w64 (show (-9223372036854775808 : Int) ≤ x + 1 + 1 by omega) (show x + 1 + 1 ≤ 9223372036854775807 by omega), w64 (show (-9223372036854775808 : Int) ≤ x + 1 + 1 + 1 by omega) (show x + 1 + 1 + 1 ≤ 9223372036854775807 by omega)]
    refine Ev.pos (by omega) ?_
    have e : a ++ marksC x (d + 1) = a ++ [⟨x, x + 1, x + 2⟩] ++ marksC (x + 3) d := by simp [marksC]
    rw [e, show x + 3 * ((d + 1 : Nat) : Int) = x + 3 + 3 * (d : Int) by omega, show x + 1 + 1 + 1 = x + 3 by omega]
    exact hr
theorem laws_heldCountS.ev (n : Nat) (x : Int) (hl : n ≤ 140737488355328) (hx : 0 ≤ x) (hd : x + 3 * n ≤ 1000000000000000) : Ev (fun k => laws_heldCountS.f k (marksC x n) x) (x + 3 * n) := by
  unfold laws_heldCountS.f
  have := laws_heldCountS.ev0 n [] x 0 rfl (by omega) hx hd
  simpa using this

/-! ### laws.FnExactCounts -/
theorem pure : laws_FnExactCounts.Pure := by
  intro l ⟨h1, h2⟩
  refine Ev.rounds ?_
  unfold laws_FnExactCounts.f
  obtain ⟨r, hr, hr0, hr1, hr2⟩ := laws_szNoteS.ev l 1048576 (by omega) (by omega) ⟨h1, fun x hx => (h2 x hx).2.2.2.2⟩
  refine Ev.bind hr ?_
  by_cases h0 : r < 0
  · exact Ev.pos h0 (Ev.now _)
  refine Ev.neg h0 ?_
  have hl : l.length ≤ 1048576 := by have := (hr2 (by omega)).1; omega
  have ht := laws_toNoteS.ev l (by omega)
  have hm : (l.map toN).length ≤ 1048576 := by simpa using hl
  have hc : (countsM (l.map toN) 101 0).length ≤ 101 := countsM_length _ _ _
  refine Ev.bind ht (Ev.bind (spec_Counts.ev _ (by omega)) (Ev.bind ht (Ev.bind (impl_Counts.ev _ (by omega)) ?_)))
  refine Ev.bind (laws_eqCountS.refl _ (by omega)) (Ev.pos rfl ?_)
  refine Ev.bind ht (Ev.bind (laws_eqNoteS.refl _ (by omega)) (Ev.pos rfl ?_))
  refine Ev.bind (laws_markNoteS.ev _ 1 (by omega) (by omega) (by omega)) ?_
  refine Ev.neg (by simp only; omega) ?_
  refine Ev.bind (laws_eqCountS.refl _ (by omega)) ?_
  refine Ev.succ ?_
  simp only [laws_FnExactCounts.j0]
  refine Ev.neg (by simp) ?_
  refine Ev.bind (laws_markCountS.ev _ 1 (by omega) (by omega) (by omega)) ?_
  refine Ev.bind (laws_heldCountS.ev _ 1 (by omega) (by omega) (by omega)) ?_
  refine Ev.neg (by omega) ?_
  refine Ev.pos rfl ?_
  refine Ev.bind ht (Ev.bind (impl_Counts.ev _ (by omega)) ?_)
  refine Ev.bind (laws_eqCountS.refl _ (by omega)) (Ev.pos rfl ?_)
  refine Ev.bind (laws_heldCountS.ev _ 1 (by omega) (by omega) (by omega)) ?_
  refine Ev.neg (by omega) ?_
  exact Ev.pos rfl (Ev.now _)

end Go.Proofs.Ytkhakdggfknlpaa.PFnExactCounts
