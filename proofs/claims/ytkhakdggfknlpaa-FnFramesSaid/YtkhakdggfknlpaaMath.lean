/- Plain lemmas on numbers, lists and rounds, for all the pure statements of this seat. No condition. -/
import Derived.Test.YtkhakdggfknlpaaWWords
import Derived.Test.YtkhakdggfknlpaaWMore
import Derived.Laws.BitsLemmas
import Derived.Laws.BytesArg
import Derived.Laws.Strings
namespace Go.Proofs.Ytkhakdggfknlpaa.Math
open Go.RowKit Go.Proofs.YtkhakdggfknlpaaW.PrintWords Go.Proofs.YtkhakdggfknlpaaW.PrintLast
set_option linter.unusedVariables false
set_option linter.unusedSimpArgs false

theorem w64 {x : Int} (h : -9223372036854775808 ≤ x) (h' : x ≤ 9223372036854775807) : wrap64 x = x := by
  unfold wrap64
  omega
theorem w64s {i : Nat} (h : i < 9223372036854775807) : wrap64 ((i : Int) + 1) = ((i + 1 : Nat) : Int) := by
  rw [w64 (by omega) (by omega)]
  omega
theorem wf_i64 {x : Int} (h : (Lit.int .i64 x).wf = true) : -9223372036854775808 ≤ x ∧ x ≤ 9223372036854775807 := by
  simp only [Lit.wf, Bool.and_eq_true, decide_eq_true_eq] at h
  have h2 : IntKind.i64.max = 9223372036854775807 := rfl
  have h3 : IntKind.i64.min = -9223372036854775808 := rfl
  omega
theorem wf_u8 {x : Int} (h : (Lit.int .u8 x).wf = true) : 0 ≤ x ∧ x ≤ 255 := by
  simp only [Lit.wf, Bool.and_eq_true, decide_eq_true_eq] at h
  have h2 : IntKind.u8.max = 255 := rfl
  have h3 : IntKind.u8.min = 0 := rfl
  omega
theorem rd_nat (l : List Int) (i : Nat) : rd l (i : Int) = l.getD i 0 := by simp [rd]

/-! ### rounds -/
theorem Ev.succ {α : Type} {g : Nat → Option α} {r : α} (h : Ev (fun k => g (k + 1)) r) : Ev g r := Ev.step (fun _ => rfl) h
theorem Ev.some {α : Type} {r r' : α} (h : r = r') : Ev (fun _ => Option.some r) r' := h ▸ Ev.now r
theorem Ev.ok {α : Type} {g : Option α} {r : α} (h : g = Option.some r) : Ev (fun _ => g) r := h ▸ Ev.now r
theorem Ev.pos {α : Type} {c : Prop} [Decidable c] {g f : Nat → Option α} {r : α} (hc : c) (h : Ev g r) : Ev (fun k => if c then g k else f k) r := by
  simp only [if_pos hc]
  exact h
theorem Ev.neg {α : Type} {c : Prop} [Decidable c] {g f : Nat → Option α} {r : α} (hc : ¬ c) (h : Ev f r) : Ev (fun k => if c then g k else f k) r := by
  simp only [if_neg hc]
  exact h

/-! ### lists by index -/
theorem drop_cons {α : Type} (l : List α) (i : Nat) (d : α) (h : i < l.length) : l.drop i = l.getD i d :: l.drop (i + 1) := by
  rw [List.drop_eq_getElem_cons h]
  simp [List.getD, List.getElem?_eq_getElem h]
theorem drop_nil {α : Type} (l : List α) (i : Nat) (h : l.length ≤ i) : l.drop i = [] := List.drop_eq_nil_of_le h
theorem take_snoc {α : Type} (l : List α) (i : Nat) (d : α) (h : i < l.length) : l.take (i + 1) = l.take i ++ [l.getD i d] := by
  rw [List.take_add_one]
  simp [List.getD, List.getElem?_eq_getElem h]
theorem drop_ext {α : Type} [DecidableEq α] (a b : List α) (i : Nat) (d : α) (ha : i < a.length) (hb : i < b.length) : decide (a.drop i = b.drop i) = (decide (a.getD i d = b.getD i d) && decide (a.drop (i + 1) = b.drop (i + 1))) := by
  rw [drop_cons a i d ha, drop_cons b i d hb]
  simp
theorem getD_mem {α : Type} (l : List α) (i : Nat) (d : α) (h : i < l.length) : l.getD i d ∈ l := by
  simp [List.getD, List.getElem?_eq_getElem h]
theorem getD_map {α β : Type} (f : α → β) (l : List α) (i : Nat) (d : α) : (l.map f).getD i (f d) = f (l.getD i d) := by
  simp only [List.getD, List.getElem?_map]
  cases l[i]? <;> rfl
/-- A store behind what was written. -/
theorem set_at {α : Type} (a b : List α) (x y : α) (i : Nat) (h : a.length = i) : (a ++ x :: b).set i y = (a ++ [y]) ++ b := by
  subst h
  simp
theorem replicate_step {α : Type} (n i : Nat) (d : α) (h : i < n) : List.replicate (n - i) d = d :: List.replicate (n - (i + 1)) d := by
  obtain ⟨m, rfl⟩ : ∃ m, n = i + 1 + m := ⟨n - (i + 1), by omega⟩
  rw [show i + 1 + m - i = m + 1 by omega, show i + 1 + m - (i + 1) = m by omega, List.replicate_succ]

/-! ### sizes -/
def szT (a m : Int) : Int := if a - m < 0 then -1 else a - m
theorem szT_pos {a m : Int} (h : 0 ≤ szT a m) : szT a m = a - m ∧ m ≤ a := by
  unfold szT at *
  split at h
  · omega
  · rename_i h1; rw [if_neg h1]; omega
theorem szT_le {a m : Int} (h : 0 ≤ m) (ha : 0 ≤ a) : szT a m ≤ a := by
  unfold szT
  split <;> omega
theorem szT_ge {a m : Int} : -1 ≤ szT a m := by
  unfold szT
  split <;> omega
theorem neg1 {r : Int} (h : -1 ≤ r) : (if r < 0 then Option.some (-1 : Int) else Option.some r) = Option.some r := by
  split
  · congr 1; omega
  · rfl

/-! ### notes and frames -/
def noteOk (t k w : Int) (s : ByteArray) : Bool := decide (0 ≤ t ∧ t ≤ 1000000000 ∧ 0 ≤ k ∧ k ≤ 100 ∧ 0 ≤ w ∧ w ≤ 1000 ∧ s.size ≤ 200)
/-- The lowest n bytes of v, the lowest first. -/
def lowB (v : Int) : Nat → List Int
  | 0 => []
  | n + 1 => v % 256 :: lowB (v / 256) n
theorem lowB_length (v : Int) (n : Nat) : (lowB v n).length = n := by
  induction n generalizing v with
  | zero => rfl
  | succ n ih => simp [lowB, ih]
def frameM (t k w n : Int) (s : ByteArray) : List Int :=
  if noteOk t k w s = true then [78, (s.size : Int) % 256] ++ lowB t 4 ++ [k] ++ lowB w 2 ++ lowB (n % 18446744073709551616) 8 ++ bytesOf s else []
theorem u64_wrap (x : Int) : IntKind.u64.wrap x = x % 18446744073709551616 := by
  unfold IntKind.wrap
  simp [IntKind.signed, IntKind.bits]
theorem bytesOf_len (s : ByteArray) : (bytesOf s).length = s.size := bytesOf_length s

/-! ### marks -/
/-- What is marked: from k on, by ones. -/
def marksB (k : Int) : Nat → List Int
  | 0 => []
  | n + 1 => k % 256 :: marksB (k + 1) n
theorem marksB_length (k : Int) (n : Nat) : (marksB k n).length = n := by
  induction n generalizing k with
  | zero => rfl
  | succ n ih => simp [marksB, ih]

/-! ### pages -/
/-- The check from place i on, s before it. -/
def checkFrom (i : Nat) (s : Int) : List Int → Int
  | [] => s
  | x :: l => checkFrom (i + 1) (if i = 1 then s else (s + x) % 256) l
/-- A page's block but for the check. -/
def rawPage (g : Int) (l : List Int) : List Int := [76, 0] ++ lowB g 4 ++ [(l.length : Int), 0] ++ l ++ List.replicate (56 - l.length) 0
def pageM (b : Bool) (g : Int) (l : List Int) : List Int :=
  if b = true ∧ 1 ≤ g ∧ g ≤ 1000000000 ∧ l.length ≤ 56 then (rawPage g l).set 1 (checkFrom 0 0 (rawPage g l)) else []
theorem rawPage_len (g : Int) (l : List Int) (h : l.length ≤ 56) : (rawPage g l).length = 64 := by
  simp [rawPage, lowB_length]
  omega
theorem pageM_len (b : Bool) (g : Int) (l : List Int) : (pageM b g l).length ≤ 64 := by
  unfold pageM
  split
  · rename_i h
    rw [List.length_set, rawPage_len g l h.2.2.2]
    omega
  · simp

/-! ### sizes of lists -/
/-- What is left of a when pieces of these sizes are taken off one by one; -1 when it does not do. -/
def szAll (a : Int) : List Int → Int
  | [] => a
  | m :: l => if szT a m < 0 then -1 else szAll (szT a m) l
theorem szAll_ge (a : Int) (l : List Int) (h : -1 ≤ a) : -1 ≤ szAll a l := by
  induction l generalizing a with
  | nil => exact h
  | cons m l ih =>
    unfold szAll
    split
    · omega
    · exact ih _ szT_ge
theorem szAll_le (a : Int) (l : List Int) (h : 0 ≤ a) (hl : ∀ m ∈ l, 0 ≤ m) : szAll a l ≤ a := by
  induction l generalizing a with
  | nil => exact Int.le_refl _
  | cons m l ih =>
    unfold szAll
    have h1 := szT_le (hl m List.mem_cons_self) h
    split
    · omega
    · have := ih (szT a m) (by omega) (fun x hx => hl x (List.mem_cons_of_mem _ hx))
      omega
theorem szAll_pos {a : Int} {l : List Int} (ha : 0 ≤ a) (hl : ∀ m ∈ l, 0 ≤ m) (h : 0 ≤ szAll a l) : szAll a l = a - l.sum ∧ ∀ m ∈ l, m ≤ a := by
  induction l generalizing a with
  | nil => simp [szAll]
  | cons m l ih =>
    unfold szAll at h ⊢
    by_cases h0 : szT a m < 0
    · rw [if_pos h0] at h; omega
    · rw [if_neg h0] at h ⊢
      obtain ⟨h1, h2⟩ := szT_pos (a := a) (m := m) (by omega)
      have hm := hl m List.mem_cons_self
      obtain ⟨h3, h4⟩ := ih (by omega) (fun x hx => hl x (List.mem_cons_of_mem _ hx)) h
      refine ⟨by rw [h3, h1, List.sum_cons]; omega, fun x hx => ?_⟩
      rcases List.mem_cons.1 hx with rfl | hx
      · omega
      · have := h4 x hx; omega
theorem szAll_cons (a m : Int) (l : List Int) : szAll a (m :: l) = if szT a m < 0 then -1 else szAll (szT a m) l := rfl

/-! ### numbers of some bytes -/
def Bs (l : List Int) : Prop := ∀ x ∈ l, 0 ≤ x ∧ x ≤ 255
theorem Bs.drop {l : List Int} (h : Bs l) (n : Nat) : Bs (l.drop n) := fun x hx => h x (List.mem_of_mem_drop hx)
theorem Bs.take {l : List Int} (h : Bs l) (n : Nat) : Bs (l.take n) := fun x hx => h x (List.mem_of_mem_take hx)
theorem Bs.append {a b : List Int} (ha : Bs a) (hb : Bs b) : Bs (a ++ b) := fun x hx => (List.mem_append.1 hx).elim (ha x) (hb x)
theorem Bs.getD {l : List Int} (h : Bs l) (i : Nat) : 0 ≤ l.getD i 0 ∧ l.getD i 0 ≤ 255 := by
  by_cases hi : i < l.length
  · exact h _ (getD_mem l i 0 hi)
  · simp [List.getD, List.getElem?_eq_none (Nat.le_of_not_lt hi)]
theorem Bs.of_wf {l : List Int} (h : ∀ x ∈ l, (Lit.int .u8 x).wf = true) : Bs l := fun x hx => wf_u8 (h x hx)
def numM : List Int → Int
  | [] => 0
  | x :: l => x + 256 * numM l
theorem numM_nonneg {l : List Int} (h : Bs l) : 0 ≤ numM l := by
  induction l with
  | nil => simp [numM]
  | cons x l ih =>
    have h1 := ih (fun y hy => h y (List.mem_cons_of_mem _ hy))
    have h2 := h x List.mem_cons_self
    simp only [numM]; omega
theorem numM_lt {l : List Int} (h : Bs l) : numM l < 256 ^ l.length := by
  induction l with
  | nil => simp [numM]
  | cons x l ih =>
    have h1 := ih (fun y hy => h y (List.mem_cons_of_mem _ hy))
    have h2 := h x List.mem_cons_self
    simp only [numM, List.length_cons, Int.pow_succ]
    omega
theorem numM_lt7 {l : List Int} (h : Bs l) (hl : l.length < 8) : numM l < 72057594037927936 := by
  have h1 := numM_lt h
  have h2 : ∀ n : Nat, n < 8 → (256 : Int) ^ n ≤ 72057594037927936 := by decide
  have h3 := h2 _ hl
  omega
theorem or_join {v b : Int} (hv : 0 ≤ v) (hv' : v < 72057594037927936) (hb : 0 ≤ b) (hb' : b ≤ 255) : Go.bits .or .u64 (IntKind.u64.wrap (v * 256)) (IntKind.u64.wrap b) = b + 256 * v := by
  rw [u64_wrap, u64_wrap, Int.emod_eq_of_lt (a := v * 256) (by omega) (by omega), Int.emod_eq_of_lt (a := b) (by omega) (by omega)]
  rw [Go.bits_join .u64 64 (by decide) (fun n h0 h1 => by rw [u64_wrap]; exact Int.emod_eq_of_lt h0 h1) 8 (v * 256) b (by omega) (by omega) (by omega) hb (by omega) (by omega)]
  omega
theorem and255 (x : Int) (h0 : 0 ≤ x) (h1 : x < 18446744073709551616) : Go.bits .and .u64 x 255 = x % 256 :=
  Go.bits_mask .u64 64 (by decide) (fun n h0 h1 => by rw [u64_wrap]; exact Int.emod_eq_of_lt h0 h1) 8 (by decide) x h0 h1
theorem strOfNums_size (l : List Int) : (strOfNums l).size = l.length := by
  simp [strOfNums, ByteArray.size]
/-- The note that a frame at the beginning of b tells: (Ok, its fields, Len). -/
def readM (b : List Int) : Bool × Int × Int × Int × Int × ByteArray × Int :=
  let t := numM ((b.take 6).drop 2)
  let w := numM ((b.take 9).drop 7)
  let n := wrap64 (numM ((b.take 17).drop 9))
  let s := strOfNums ((b.take (17 + b.getD 1 0).toNat).drop 17)
  if 17 ≤ b.length ∧ b.getD 0 0 = 78 ∧ 17 + b.getD 1 0 ≤ b.length ∧ noteOk t (b.getD 6 0) w s = true then (true, t, b.getD 6 0, w, n, s, 17 + b.getD 1 0) else (false, 0, 0, 0, 0, (⟨#[]⟩ : ByteArray), 0)
theorem readM_no {b : List Int} (h : ¬ (17 ≤ b.length ∧ b.getD 0 0 = 78 ∧ 17 + b.getD 1 0 ≤ b.length)) : readM b = (false, 0, 0, 0, 0, (⟨#[]⟩ : ByteArray), 0) := by
  unfold readM
  exact if_neg (fun h' => h ⟨h'.1, h'.2.1, h'.2.2.1⟩)
theorem readM_yes {b : List Int} (h1 : 17 ≤ b.length) (h2 : b.getD 0 0 = 78) (h3 : 17 + b.getD 1 0 ≤ b.length) (h4 : noteOk (numM ((b.take 6).drop 2)) (b.getD 6 0) (numM ((b.take 9).drop 7)) (strOfNums ((b.take (17 + b.getD 1 0).toNat).drop 17)) = true) :
    readM b = (true, numM ((b.take 6).drop 2), b.getD 6 0, numM ((b.take 9).drop 7), wrap64 (numM ((b.take 17).drop 9)), strOfNums ((b.take (17 + b.getD 1 0).toNat).drop 17), 17 + b.getD 1 0) := if_pos ⟨h1, h2, h3, h4⟩
theorem readM_bad {b : List Int} (h4 : ¬ noteOk (numM ((b.take 6).drop 2)) (b.getD 6 0) (numM ((b.take 9).drop 7)) (strOfNums ((b.take (17 + b.getD 1 0).toNat).drop 17)) = true) : readM b = (false, 0, 0, 0, 0, (⟨#[]⟩ : ByteArray), 0) := if_neg (fun h => h4 h.2.2.2)
/-- The page whose block b is. -/
def pageOfM (b : List Int) : Bool × Int × List Int :=
  let g := numM ((b.take 6).drop 2)
  let l := (b.take (8 + b.getD 6 0).toNat).drop 8
  if b.length = 64 ∧ b.getD 6 0 ≤ 56 ∧ pageM true g l = b then (true, g, l) else (false, 0, [])
theorem pageOfM_eq {b : List Int} (h1 : b.length = 64) (h2 : b.getD 6 0 ≤ 56) : pageOfM b = if pageM true (numM ((b.take 6).drop 2)) ((b.take (8 + b.getD 6 0).toNat).drop 8) = b then (true, numM ((b.take 6).drop 2), (b.take (8 + b.getD 6 0).toNat).drop 8) else (false, 0, []) := by
  unfold pageOfM
  by_cases h3 : pageM true (numM ((b.take 6).drop 2)) ((b.take (8 + b.getD 6 0).toNat).drop 8) = b
  · rw [if_pos h3]; exact if_pos ⟨h1, h2, h3⟩
  · rw [if_neg h3]; exact if_neg (fun h => h3 h.2.2)
theorem pageOfM_no {b : List Int} (h : ¬ (b.length = 64 ∧ b.getD 6 0 ≤ 56)) : pageOfM b = (false, 0, []) := by
  unfold pageOfM
  exact if_neg (fun h' => h ⟨h'.1, h'.2.1⟩)
theorem pageOfM_len (b : List Int) : (pageOfM b).2.2.length ≤ 56 := by
  by_cases h : b.length = 64 ∧ b.getD 6 0 ≤ 56
  · rw [pageOfM_eq h.1 h.2]
    split
    · simp; omega
    · simp
  · rw [pageOfM_no h]; simp
theorem toList_inj {a b : ByteArray} (h : a.toList = b.toList) : a = b := by
  rw [ByteArray.toList_eq, ByteArray.toList_eq] at h
  cases a; cases b
  simp_all
theorem lowB_Bs (v : Int) (n : Nat) : Bs (lowB v n) := by
  induction n generalizing v with
  | zero => intro x hx; simp [lowB] at hx
  | succ n ih =>
    intro x hx
    rcases List.mem_cons.1 hx with rfl | hx
    · omega
    · exact ih _ x hx
theorem checkFrom_range : ∀ (l : List Int) (i : Nat) (s : Int), 0 ≤ s → s ≤ 255 → 0 ≤ checkFrom i s l ∧ checkFrom i s l ≤ 255 := by
  intro l
  induction l with
  | nil => intro i s h0 h1; exact ⟨h0, h1⟩
  | cons x l ih =>
    intro i s h0 h1
    unfold checkFrom
    by_cases h : i = 1
    · rw [if_pos h]; exact ih _ _ h0 h1
    · rw [if_neg h]; exact ih _ _ (by omega) (by omega)
theorem rawPage_Bs {g : Int} {l : List Int} (h : Bs l) (hl : l.length ≤ 56) : Bs (rawPage g l) := by
  unfold rawPage
  refine (((Bs.append ?_ (lowB_Bs _ _)).append ?_).append h).append ?_
  · intro x hx
    simp at hx
    omega
  · intro x hx
    simp at hx
    omega
  · intro x hx
    have := (List.mem_replicate.1 hx).2
    omega
theorem pageM_Bs {b : Bool} {g : Int} {l : List Int} (h : Bs l) : Bs (pageM b g l) := by
  unfold pageM
  split
  · rename_i hc
    intro x hx
    rcases List.mem_or_eq_of_mem_set hx with hx | rfl
    · exact rawPage_Bs h hc.2.2.2 x hx
    · exact checkFrom_range _ _ _ (by omega) (by omega)
  · intro x hx; simp at hx
/-- Bytes are told by their text. -/
theorem strOfNums_inj {a b : List Int} (ha : Bs a) (hb : Bs b) (h : strOfNums a = strOfNums b) : a = b := by
  have h1 : (a.map fun n => UInt8.ofNat n.toNat) = b.map fun n => UInt8.ofNat n.toNat := by
    have := congrArg (fun s : ByteArray => s.data.toList) h
    simpa [strOfNums] using this
  apply List.ext_getElem?
  intro i
  have h2 := congrArg (fun l => l[i]?) h1
  simp only [List.getElem?_map] at h2
  cases ea : a[i]? with
  | none =>
    cases eb : b[i]? with
    | none => rfl
    | some y => rw [ea, eb] at h2; simp at h2
  | some x =>
    cases eb : b[i]? with
    | none => rw [ea, eb] at h2; simp at h2
    | some y =>
      rw [ea, eb] at h2
      simp only [Option.map_some, Option.some.injEq] at h2
      have hx := ha x (List.mem_of_getElem? ea)
      have hy := hb y (List.mem_of_getElem? eb)
      have h3 := congrArg UInt8.toNat h2
      simp only [UInt8.toNat_ofNat'] at h3
      congr 1
      omega

/-! ### the check: a changed byte is seen -/
def sumX : Nat → List Int → Int
  | _, [] => 0
  | i, x :: l => (if i = 1 then 0 else x) + sumX (i + 1) l
theorem checkFrom_sum : ∀ (l : List Int) (i : Nat) (s : Int), 0 ≤ s → s ≤ 255 → checkFrom i s l = (s + sumX i l) % 256 := by
  intro l
  induction l with
  | nil => intro i s h0 h1; simp only [checkFrom, sumX]; omega
  | cons x l ih =>
    intro i s h0 h1
    simp only [checkFrom, sumX]
    by_cases h : i = 1
    · rw [if_pos h, if_pos h, ih _ _ h0 h1]; omega
    · rw [if_neg h, if_neg h, ih _ _ (by omega) (by omega)]; omega
theorem sumX_set : ∀ (l : List Int) (i j : Nat) (y : Int), j < l.length → sumX i (l.set j y) = sumX i l + (if i + j = 1 then 0 else y - l.getD j 0) := by
  intro l
  induction l with
  | nil => intro i j y h; simp at h
  | cons x l ih =>
    intro i j y h
    cases j with
    | zero =>
      simp only [List.set_cons_zero, sumX, Nat.add_zero, List.getD_cons_zero]
      by_cases h1 : i = 1
      · simp [h1]
      · simp [h1]; omega
    | succ j =>
      simp only [List.set_cons_succ, sumX, List.getD_cons_succ]
      rw [ih (i + 1) j y (by simpa using h), show i + 1 + j = i + (j + 1) by omega]
      omega
/-- What a page's block is: 64 bytes with their check. -/
theorem pageM_is {b : Bool} {g : Int} {l x : List Int} (h : pageM b g l = x) (hx : x ≠ []) : x.length = 64 ∧ x.getD 1 0 = checkFrom 0 0 x ∧ b = true ∧ 1 ≤ g ∧ g ≤ 1000000000 ∧ l.length ≤ 56 := by
  unfold pageM at h
  by_cases hc : b = true ∧ 1 ≤ g ∧ g ≤ 1000000000 ∧ l.length ≤ 56
  · rw [if_pos hc] at h
    subst h
    have hl := rawPage_len g l hc.2.2.2
    refine ⟨by rw [List.length_set, hl], ?_, hc⟩
    have h1 : checkFrom 0 0 ((rawPage g l).set 1 (checkFrom 0 0 (rawPage g l))) = checkFrom 0 0 (rawPage g l) := by
      rw [checkFrom_sum _ 0 0 (by omega) (by omega), checkFrom_sum (rawPage g l) 0 0 (by omega) (by omega), sumX_set _ _ _ _ (by omega)]
      simp
    rw [h1]
    simp [List.getD, List.getElem?_set, hl]
  · rw [if_neg hc] at h
    exact absurd h.symm hx
theorem numM_low2 {v : Int} (h0 : 0 ≤ v) (h1 : v < 65536) : numM (lowB v 2) = v := by
  simp only [lowB, numM]; omega
theorem numM_low4 {v : Int} (h0 : 0 ≤ v) (h1 : v < 4294967296) : numM (lowB v 4) = v := by
  simp only [lowB, numM]; omega
theorem numM_low8 {v : Int} (h0 : 0 ≤ v) (h1 : v < 18446744073709551616) : numM (lowB v 8) = v := by
  simp only [lowB, numM]; omega
theorem rawPage_parts (g : Int) (l : List Int) (c : Int) : (rawPage g l).set 1 c = [76, c] ++ lowB g 4 ++ [(l.length : Int), 0] ++ l ++ List.replicate (56 - l.length) 0 := by
  simp [rawPage]
/-- A page is read back from its block. -/
theorem pageOf_pageM {g : Int} {l : List Int} (h1 : 1 ≤ g) (h2 : g ≤ 1000000000) (h3 : l.length ≤ 56) : pageOfM (pageM true g l) = (true, g, l) := by
  have hp : pageM true g l = [76, checkFrom 0 0 (rawPage g l)] ++ lowB g 4 ++ [(l.length : Int), 0] ++ l ++ List.replicate (56 - l.length) 0 := by
    unfold pageM
    rw [if_pos ⟨rfl, h1, h2, h3⟩, rawPage_parts]
  have hlen : (pageM true g l).length = 64 := by rw [hp]; simp [lowB_length]; omega
  have h6 : (pageM true g l).getD 6 0 = l.length := by rw [hp]; simp [lowB]
  have hg : ((pageM true g l).take 6).drop 2 = lowB g 4 := by rw [hp]; simp [lowB]
  have hl : ((pageM true g l).take (8 + (pageM true g l).getD 6 0).toNat).drop 8 = l := by
    rw [h6, show (8 + (l.length : Int)).toNat = 8 + l.length by omega, hp]
    rw [List.take_left' (by simp [lowB_length]; omega)]
    exact List.drop_left' (by simp [lowB_length])
  rw [pageOfM_eq hlen (by rw [h6]; omega), hg, hl, numM_low4 (by omega) (by omega), if_pos rfl]
/-- What is told of a page is its block. -/
theorem pageOfM_ok {b : List Int} (h : (pageOfM b).1 = true) : b.length = 64 ∧ pageM true (pageOfM b).2.1 (pageOfM b).2.2 = b := by
  by_cases hc : b.length = 64 ∧ b.getD 6 0 ≤ 56
  · rw [pageOfM_eq hc.1 hc.2] at h ⊢
    by_cases h3 : pageM true (numM ((b.take 6).drop 2)) ((b.take (8 + b.getD 6 0).toNat).drop 8) = b
    · rw [if_pos h3]; exact ⟨hc.1, h3⟩
    · rw [if_neg h3] at h; simp at h
  · rw [pageOfM_no hc] at h; simp at h
/-- With one byte changed there is none. -/
theorem pageOf_changed {b : List Int} (h : (pageOfM b).1 = true) (hb : Bs b) (i : Nat) (y : Int) (hi : i < 64) (hy : 0 ≤ y ∧ y ≤ 255) (hne : y ≠ b.getD i 0) : (pageOfM (b.set i y)).1 = false := by
  cases hc : (pageOfM (b.set i y)).1 with
  | false => rfl
  | true =>
    exfalso
    obtain ⟨l1, e1⟩ := pageOfM_ok h
    obtain ⟨l2, e2⟩ := pageOfM_ok hc
    obtain ⟨_, c1, _⟩ := pageM_is e1 (fun e => by rw [e] at l1; simp at l1)
    obtain ⟨_, c2, _⟩ := pageM_is e2 (fun e => by rw [e] at l2; simp at l2)
    have hs := sumX_set b 0 i y (by omega)
    rw [checkFrom_sum _ 0 0 (by omega) (by omega)] at c1 c2
    have hbi := hb.getD i
    have g1 : (b.set i y).getD 1 0 = if i = 1 then y else b.getD 1 0 := by
      by_cases h1 : i = 1
      · subst h1
        rw [if_pos rfl]
        simp [List.getD, List.getElem?_set, l1]
      · rw [if_neg h1]
        simp [List.getD, List.getElem?_set, h1]
    rw [g1] at c2
    by_cases h1 : i = 1
    · subst h1
      rw [if_pos rfl] at c2
      rw [if_pos rfl] at hs
      exact hne (by omega)
    · rw [if_neg h1] at c2
      rw [if_neg (by omega)] at hs
      omega

/-! ### a note is read back from its frame -/
theorem noteOk_is {t k w : Int} {s : ByteArray} (h : noteOk t k w s = true) : 0 ≤ t ∧ t ≤ 1000000000 ∧ 0 ≤ k ∧ k ≤ 100 ∧ 0 ≤ w ∧ w ≤ 1000 ∧ s.size ≤ 200 := of_decide_eq_true h
theorem bytesOf_Bs (s : ByteArray) : Bs (bytesOf s) := by
  intro x hx
  obtain ⟨b, _, rfl⟩ := List.mem_map.1 hx
  have := b.toNat_lt
  omega
theorem strOf_bytesOf (s : ByteArray) : strOfNums (bytesOf s) = s := by
  obtain ⟨⟨l⟩⟩ := s
  simp only [strOfNums, bytesOf, List.map_map]
  congr 2
  have : ((fun n : Int => UInt8.ofNat n.toNat) ∘ fun b : UInt8 => ((b.toNat : Nat) : Int)) = id := by
    funext b
    simp
  rw [this]
  simp
def headM (t k w n : Int) (m : Nat) : List Int := [78, (m : Int)] ++ lowB t 4 ++ [k] ++ lowB w 2 ++ lowB (n % 18446744073709551616) 8
theorem headM_len (t k w n : Int) (m : Nat) : (headM t k w n m).length = 17 := by simp [headM, lowB_length]
theorem frameM_ok {t k w n : Int} {s : ByteArray} (h : noteOk t k w s = true) : frameM t k w n s = headM t k w n s.size ++ bytesOf s := by
  have := noteOk_is h
  unfold frameM headM
  rw [if_pos h, Int.emod_eq_of_lt (a := (s.size : Int)) (by omega) (by omega)]
theorem frameM_size {t k w n : Int} {s : ByteArray} (h : noteOk t k w s = true) : (frameM t k w n s).length = 17 + s.size := by
  rw [frameM_ok h, List.length_append, headM_len, bytesOf_len]
theorem frameM_Bs (t k w n : Int) (s : ByteArray) : Bs (frameM t k w n s) := by
  by_cases h : noteOk t k w s = true
  · have := noteOk_is h
    rw [frameM_ok h]
    unfold headM
    refine (((((Bs.append ?_ (lowB_Bs _ _)).append ?_).append (lowB_Bs _ _)).append (lowB_Bs _ _)).append (bytesOf_Bs s))
    · intro x hx; simp at hx; omega
    · intro x hx; simp at hx; omega
  · unfold frameM
    rw [if_neg h]
    intro x hx; simp at hx
/-- What stands in front of a list that begins with a frame's head. -/
theorem head_gets (t k w n : Int) (m : Nat) (r : List Int) : (headM t k w n m ++ r).getD 0 0 = 78 ∧ (headM t k w n m ++ r).getD 1 0 = m ∧ (headM t k w n m ++ r).getD 6 0 = k ∧
    ((headM t k w n m ++ r).take 6).drop 2 = lowB t 4 ∧ ((headM t k w n m ++ r).take 9).drop 7 = lowB w 2 ∧ ((headM t k w n m ++ r).take 17).drop 9 = lowB (n % 18446744073709551616) 8 := by
  simp [headM, lowB]
theorem readM_frame {t k w n : Int} {s : ByteArray} (h : noteOk t k w s = true) (hn : -9223372036854775808 ≤ n ∧ n ≤ 9223372036854775807) (r : List Int) : readM (frameM t k w n s ++ r) = (true, t, k, w, n, s, 17 + (s.size : Int)) := by
  have ho := noteOk_is h
  rw [frameM_ok h, List.append_assoc]
  obtain ⟨g0, g1, g6, e1, e2, e3⟩ := head_gets t k w n s.size (bytesOf s ++ r)
  have hs : ((headM t k w n s.size ++ (bytesOf s ++ r)).take (17 + (headM t k w n s.size ++ (bytesOf s ++ r)).getD 1 0).toNat).drop 17 = bytesOf s := by
    rw [g1, ← List.append_assoc, List.take_left' (by rw [List.length_append, headM_len, bytesOf_len]; omega)]
    exact List.drop_left' (headM_len ..)
  have hl : (headM t k w n s.size ++ (bytesOf s ++ r)).length = 17 + s.size + r.length := by simp [headM_len, bytesOf_len]; omega
  have h4 : noteOk (numM (((headM t k w n s.size ++ (bytesOf s ++ r)).take 6).drop 2)) ((headM t k w n s.size ++ (bytesOf s ++ r)).getD 6 0) (numM (((headM t k w n s.size ++ (bytesOf s ++ r)).take 9).drop 7)) (strOfNums (((headM t k w n s.size ++ (bytesOf s ++ r)).take (17 + (headM t k w n s.size ++ (bytesOf s ++ r)).getD 1 0).toNat).drop 17)) = true := by
    rw [hs, e1, e2, g6, numM_low4 (by omega) (by omega), numM_low2 (by omega) (by omega), strOf_bytesOf]
    exact h
  rw [readM_yes (by omega) g0 (by rw [g1]; omega) h4, hs, e1, e2, e3, g6, g1, numM_low4 (by omega) (by omega), numM_low2 (by omega) (by omega), numM_low8 (by omega) (by omega), strOf_bytesOf]
  congr 5
  unfold wrap64
  omega
/-- A frame that lacks something at its end is none. -/
theorem readM_short {t k w n : Int} {s : ByteArray} (h : noteOk t k w s = true) (m : Nat) (hm : m < 17 + s.size) : (readM ((frameM t k w n s).take m)).1 = false := by
  have hl : ((frameM t k w n s).take m).length = m := by rw [List.length_take, frameM_size h]; omega
  rw [readM_no]
  rintro ⟨h1, _, h3⟩
  have g1 : ((frameM t k w n s).take m).getD 1 0 = s.size := by
    have := (head_gets t k w n s.size (bytesOf s)).2.1
    rw [frameM_ok h, ← this]
    simp only [List.getD, List.getElem?_take, if_pos (show 1 < m by omega)]
  rw [g1] at h3
  omega
end Go.Proofs.Ytkhakdggfknlpaa.Math
