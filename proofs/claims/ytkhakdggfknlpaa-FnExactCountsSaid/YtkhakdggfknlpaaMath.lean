/- Plain lemmas on numbers, lists and rounds, for all the pure statements of this seat. No condition. -/
import Derived.Test.YtkhakdggfknlpaaWWords
import Derived.Test.YtkhakdggfknlpaaWMore
namespace Go.Proofs.Ytkhakdggfknlpaa.Math
open Go.RowKit Go.Proofs.YtkhakdggfknlpaaW.PrintWords Go.Proofs.YtkhakdggfknlpaaW.PrintLast
set_option linter.unusedVariables false

theorem w64 {x : Int} (h : -9223372036854775808 ≤ x) (h' : x ≤ 9223372036854775807) : wrap64 x = x := by
  unfold wrap64
  omega
theorem w64s {i : Nat} (h : i < 9223372036854775807) : wrap64 ((i : Int) + 1) = ((i + 1 : Nat) : Int) := by
  rw [w64 (by omega) (by omega)]
  omega
theorem wf_i64 {x : Int} (h : (Lit.int .i64 x).wf = true) : -9223372036854775808 ≤ x ∧ x ≤ 9223372036854775807 := by
  simp only [Lit.wf, Bool.and_eq_true, decide_eq_true_eq] at h
  have h2 : IntKind.i64.max = 9223372036854775807 := rfl
  have h3 : IntKind.i64.min = -9223372036854775808 := rfl
  omega
theorem wf_u8 {x : Int} (h : (Lit.int .u8 x).wf = true) : 0 ≤ x ∧ x ≤ 255 := by
  simp only [Lit.wf, Bool.and_eq_true, decide_eq_true_eq] at h
  have h2 : IntKind.u8.max = 255 := rfl
  have h3 : IntKind.u8.min = 0 := rfl
  omega
theorem rd_nat (l : List Int) (i : Nat) : rd l (i : Int) = l.getD i 0 := by simp [rd]

/-! ### rounds -/
theorem Ev.succ {α : Type} {g : Nat → Option α} {r : α} (h : Ev (fun k => g (k + 1)) r) : Ev g r := Ev.step (fun _ => rfl) h
theorem Ev.some {α : Type} {r r' : α} (h : r = r') : Ev (fun _ => Option.some r) r' := h ▸ Ev.now r
theorem Ev.ok {α : Type} {g : Option α} {r : α} (h : g = Option.some r) : Ev (fun _ => g) r := h ▸ Ev.now r
theorem Ev.pos {α : Type} {c : Prop} [Decidable c] {g f : Nat → Option α} {r : α} (hc : c) (h : Ev g r) : Ev (fun k => if c then g k else f k) r := by
  simp only [if_pos hc]
  exact h
theorem Ev.neg {α : Type} {c : Prop} [Decidable c] {g f : Nat → Option α} {r : α} (hc : ¬ c) (h : Ev f r) : Ev (fun k => if c then g k else f k) r := by
  simp only [if_neg hc]
  exact h

/-! ### lists by index -/
theorem drop_cons {α : Type} (l : List α) (i : Nat) (d : α) (h : i < l.length) : l.drop i = l.getD i d :: l.drop (i + 1) := by
  rw [List.drop_eq_getElem_cons h]
  simp [List.getD, List.getElem?_eq_getElem h]
theorem drop_nil {α : Type} (l : List α) (i : Nat) (h : l.length ≤ i) : l.drop i = [] := List.drop_eq_nil_of_le h
theorem take_snoc {α : Type} (l : List α) (i : Nat) (d : α) (h : i < l.length) : l.take (i + 1) = l.take i ++ [l.getD i d] := by
  rw [List.take_add_one]
  simp [List.getD, List.getElem?_eq_getElem h]
theorem drop_ext {α : Type} [DecidableEq α] (a b : List α) (i : Nat) (d : α) (ha : i < a.length) (hb : i < b.length) : decide (a.drop i = b.drop i) = (decide (a.getD i d = b.getD i d) && decide (a.drop (i + 1) = b.drop (i + 1))) := by
  rw [drop_cons a i d ha, drop_cons b i d hb]
  simp
theorem getD_mem {α : Type} (l : List α) (i : Nat) (d : α) (h : i < l.length) : l.getD i d ∈ l := by
  simp [List.getD, List.getElem?_eq_getElem h]
theorem getD_map {α β : Type} (f : α → β) (l : List α) (i : Nat) (d : α) : (l.map f).getD i (f d) = f (l.getD i d) := by
  simp only [List.getD, List.getElem?_map]
  cases l[i]? <;> rfl
/-- A store behind what was written. -/
theorem set_at {α : Type} (a b : List α) (x y : α) (i : Nat) (h : a.length = i) : (a ++ x :: b).set i y = (a ++ [y]) ++ b := by
  subst h
  simp
theorem replicate_step {α : Type} (n i : Nat) (d : α) (h : i < n) : List.replicate (n - i) d = d :: List.replicate (n - (i + 1)) d := by
  obtain ⟨m, rfl⟩ : ∃ m, n = i + 1 + m := ⟨n - (i + 1), by omega⟩
  rw [show i + 1 + m - i = m + 1 by omega, show i + 1 + m - (i + 1) = m by omega, List.replicate_succ]

/-! ### sizes -/
def szT (a m : Int) : Int := if a - m < 0 then -1 else a - m
theorem szT_pos {a m : Int} (h : 0 ≤ szT a m) : szT a m = a - m ∧ m ≤ a := by
  unfold szT at *
  split at h
  · omega
  · rename_i h1; rw [if_neg h1]; omega
theorem szT_le {a m : Int} (h : 0 ≤ m) (ha : 0 ≤ a) : szT a m ≤ a := by
  unfold szT
  split <;> omega
theorem szT_ge {a m : Int} : -1 ≤ szT a m := by
  unfold szT
  split <;> omega
theorem neg1 {r : Int} (h : -1 ≤ r) : (if r < 0 then Option.some (-1 : Int) else Option.some r) = Option.some r := by
  split
  · congr 1; omega
  · rfl

/-! ### notes and frames -/
def noteOk (t k w : Int) (s : ByteArray) : Bool := decide (0 ≤ t ∧ t ≤ 1000000000 ∧ 0 ≤ k ∧ k ≤ 100 ∧ 0 ≤ w ∧ w ≤ 1000 ∧ s.size ≤ 200)
/-- The lowest n bytes of v, the lowest first. -/
def lowB (v : Int) : Nat → List Int
  | 0 => []
  | n + 1 => v % 256 :: lowB (v / 256) n
theorem lowB_length (v : Int) (n : Nat) : (lowB v n).length = n := by
  induction n generalizing v with
  | zero => rfl
  | succ n ih => simp [lowB, ih]
def frameM (t k w n : Int) (s : ByteArray) : List Int :=
  if noteOk t k w s = true then [78, (s.size : Int) % 256] ++ lowB t 4 ++ [k] ++ lowB w 2 ++ lowB (n % 18446744073709551616) 8 ++ bytesOf s else []
theorem u64_wrap (x : Int) : IntKind.u64.wrap x = x % 18446744073709551616 := by
  unfold IntKind.wrap
  simp [IntKind.signed, IntKind.bits]
theorem bytesOf_len (s : ByteArray) : (bytesOf s).length = s.size := bytesOf_length s

/-! ### marks -/
/-- What is marked: from k on, by ones. -/
def marksB (k : Int) : Nat → List Int
  | 0 => []
  | n + 1 => k % 256 :: marksB (k + 1) n
theorem marksB_length (k : Int) (n : Nat) : (marksB k n).length = n := by
  induction n generalizing k with
  | zero => rfl
  | succ n ih => simp [marksB, ih]

/-! ### pages -/
/-- The check from place i on, s before it. -/
def checkFrom (i : Nat) (s : Int) : List Int → Int
  | [] => s
  | x :: l => checkFrom (i + 1) (if i = 1 then s else (s + x) % 256) l
/-- A page's block but for the check. -/
def rawPage (g : Int) (l : List Int) : List Int := [76, 0] ++ lowB g 4 ++ [(l.length : Int), 0] ++ l ++ List.replicate (56 - l.length) 0
def pageM (b : Bool) (g : Int) (l : List Int) : List Int :=
  if b = true ∧ 1 ≤ g ∧ g ≤ 1000000000 ∧ l.length ≤ 56 then (rawPage g l).set 1 (checkFrom 0 0 (rawPage g l)) else []
theorem rawPage_len (g : Int) (l : List Int) (h : l.length ≤ 56) : (rawPage g l).length = 64 := by
  simp [rawPage, lowB_length]
  omega
theorem pageM_len (b : Bool) (g : Int) (l : List Int) : (pageM b g l).length ≤ 64 := by
  unfold pageM
  split
  · rename_i h
    rw [List.length_set, rawPage_len g l h.2.2.2]
    omega
  · simp

/-! ### sizes of lists -/
/-- What is left of a when pieces of these sizes are taken off one by one; -1 when it does not do. -/
def szAll (a : Int) : List Int → Int
  | [] => a
  | m :: l => if szT a m < 0 then -1 else szAll (szT a m) l
theorem szAll_ge (a : Int) (l : List Int) (h : -1 ≤ a) : -1 ≤ szAll a l := by
  induction l generalizing a with
  | nil => exact h
  | cons m l ih =>
    unfold szAll
    split
    · omega
    · exact ih _ szT_ge
theorem szAll_le (a : Int) (l : List Int) (h : 0 ≤ a) (hl : ∀ m ∈ l, 0 ≤ m) : szAll a l ≤ a := by
  induction l generalizing a with
  | nil => exact Int.le_refl _
  | cons m l ih =>
    unfold szAll
    have h1 := szT_le (hl m List.mem_cons_self) h
    split
    · omega
    · have := ih (szT a m) (by omega) (fun x hx => hl x (List.mem_cons_of_mem _ hx))
      omega
theorem szAll_pos {a : Int} {l : List Int} (ha : 0 ≤ a) (hl : ∀ m ∈ l, 0 ≤ m) (h : 0 ≤ szAll a l) : szAll a l = a - l.sum ∧ ∀ m ∈ l, m ≤ a := by
  induction l generalizing a with
  | nil => simp [szAll]
  | cons m l ih =>
    unfold szAll at h ⊢
    by_cases h0 : szT a m < 0
    · rw [if_pos h0] at h; omega
    · rw [if_neg h0] at h ⊢
      obtain ⟨h1, h2⟩ := szT_pos (a := a) (m := m) (by omega)
      have hm := hl m List.mem_cons_self
      obtain ⟨h3, h4⟩ := ih (by omega) (fun x hx => hl x (List.mem_cons_of_mem _ hx)) h
      refine ⟨by rw [h3, h1, List.sum_cons]; omega, fun x hx => ?_⟩
      rcases List.mem_cons.1 hx with rfl | hx
      · omega
      · have := h4 x hx; omega
theorem szAll_cons (a m : Int) (l : List Int) : szAll a (m :: l) = if szT a m < 0 then -1 else szAll (szT a m) l := rfl
end Go.Proofs.Ytkhakdggfknlpaa.Math
