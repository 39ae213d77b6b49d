/- Objects in the law's own variables. -/
import Derived.Test.YtocdlibnmlcokaaA9
import Derived.Test.YtocdlibnmlcokaaAE
namespace Go.Proofs.Ytocdlibnmlcokaa
open Go.RowKit Go.Proofs.YtocdlibnmlcokaaW.PrintWords Go.Proofs.YtocdlibnmlcokaaW.PrintLast
set_option linter.unusedVariables false
/-- A disk in the variable b; its rows lie in lo .. hi - 1, apart from one another. -/
def ObD (w : World) (lo hi b : Nat) (bs : List (List Int)) (ws : List Wr) : Prop :=
  ∃ A0 c0 A1 c1 f0 f1, w.heap[b]? = some (.cells #[.slice A0 bs.length c0, .slice A1 ws.length c1] 43 (0, 0)) ∧ rBS.Row 22 w (.slice A0 bs.length c0) bs f0 ∧ rW.Row 147 w (.slice A1 ws.length c1) ws f1 ∧ (f0 ++ f1).Nodup ∧ (∀ x ∈ f0 ++ f1, lo ≤ x ∧ x < hi) ∧ hi ≤ b ∧ lo ≤ hi
theorem ObD.kp {w w1 : World} {lo hi b : Nat} {bs : List (List Int)} {ws : List Wr} {S : List Nat} (h : ObD w lo hi b bs ws) (k : Kp w w1 S) (hS : ∀ x ∈ S, x < lo ∨ (hi ≤ x ∧ x ≠ b)) (hlb : lo ≤ b := by omega) : ObD w1 lo hi b bs ws := by
  obtain ⟨A0, c0, A1, c1, f0, f1, hb, h0, h1, hn, hr, hhb, hlh⟩ := h
  refine ⟨A0, c0, A1, c1, f0, f1, k.blk hb (fun hm => ?_), k.row h0 (fun x hx hm => ?_), k.row h1 (fun x hx hm => ?_), hn, hr, hhb, hlh⟩
  · have := hS b hm; omega
  · have := hS x hm; have := hr x (List.mem_append_left _ hx); omega
  · have := hS x hm; have := hr x (List.mem_append_right _ hx); omega
theorem ObD.below {w w1 : World} {lo hi b : Nat} {bs : List (List Int)} {ws : List Wr} (h : ObD w lo hi b bs ws) (k : Below w.heap.size w w1) : ObD w1 lo hi b bs ws := by
  have hlb : lo ≤ b := by obtain ⟨_, _, _, _, _, _, _, _, _, _, _, h1, h2⟩ := h; omega
  exact h.kp (Kp.below k) (by simp) hlb
/-- What a call has handed back, in a variable. -/
theorem obD_new {w0 w w1 : World} {v0 v1 : Value} {bs : List (List Int)} {ws : List Wr} {f0 f1 : List Nat} (h0 : rBS.Row 22 w v0 bs f0) (h1 : rW.Row 147 w v1 ws f1) (hn : (f0 ++ f1).Nodup) (hl : ∀ b ∈ f0 ++ f1, w0.heap.size ≤ b) (hb : Below w0.heap.size w0 w) (hw : w.alloc (.cells #[v0, v1] 43) = w1) :
    ObD w1 w0.heap.size w.heap.size w.heap.size bs ws ∧ Below w0.heap.size w0 w1 ∧ w1.heap.size = w.heap.size + 1 ∧ w0.heap.size ≤ w.heap.size := by
  obtain ⟨A0, c0, rfl, _, _⟩ := Rp.Row_reads h0
  obtain ⟨A1, c1, rfl, _, _⟩ := Rp.Row_reads h1
  obtain ⟨hk, hb1, hs⟩ := alloc1 hw
  refine ⟨⟨A0, c0, A1, c1, f0, f1, hk, Rp.Row_below h0 hb1, Rp.Row_below h1 hb1, hn, fun x hx => ⟨hl x hx, ?_⟩, Nat.le_refl _, hb.size⟩, below_then hb hb.size hb1, hs, hb.size⟩
  rcases List.mem_append.1 hx with h | h
  · exact Rp.Row_lt h0 x h
  · exact Rp.Row_lt h1 x h
/-- Marked. -/
theorem obD_marked {w w1 : World} {lo hi b : Nat} {v0 v1 : Value} {bs' : List (List Int)} {ws' : List Wr} {f0 f1 : List Nat} (hb : w.heap[b]? = some (.cells #[v0, v1] 43 (0, 0))) (h0 : rBS.Row 22 w1 v0 bs' f0) (h1 : rW.Row 147 w1 v1 ws' f1) (hn : (f0 ++ f1).Nodup) (hr : ∀ x ∈ f0 ++ f1, lo ≤ x ∧ x < hi) (hhb : hi ≤ b) (hlh : lo ≤ hi) (k : Kp w w1 (f0 ++ f1)) : ObD w1 lo hi b bs' ws' := by
  obtain ⟨A0, c0, rfl, _, _⟩ := Rp.Row_reads h0
  obtain ⟨A1, c1, rfl, _, _⟩ := Rp.Row_reads h1
  exact ⟨A0, c0, A1, c1, f0, f1, k.blk hb (fun hm => by have := hr b hm; omega), h0, h1, hn, hr, hhb, hlh⟩
theorem ObD.blt {w : World} {lo hi b : Nat} {bs : List (List Int)} {ws : List Wr} (h : ObD w lo hi b bs ws) : b < w.heap.size ∧ hi ≤ b ∧ lo ≤ hi := by
  obtain ⟨_, _, _, _, _, _, hk, _, _, _, _, h1, h2⟩ := h
  exact ⟨blk_lt hk, h1, h2⟩
/-- All but what lies in l .. u - 1 is kept. -/
theorem ObD.kpR {w w1 : World} {lo hi b l u : Nat} {bs : List (List Int)} {ws : List Wr} {S : List Nat} (h : ObD w lo hi b bs ws) (k : Kp w w1 S) (hS : ∀ x ∈ S, l ≤ x ∧ x < u) (ho : u ≤ lo ∨ b < l) : ObD w1 lo hi b bs ws := by
  obtain ⟨_, h2, h3⟩ := h.blt
  exact h.kp k (fun x hx => by have := hS x hx; omega) (by omega)
/-- A row in a slot. -/
def ObR {α : Type} (r : Rp α) (e : Nat) (w : World) (lo hi : Nat) (v : Value) (xs : List α) : Prop := ∃ fp, r.Row e w v xs fp ∧ fp.Nodup ∧ (∀ x ∈ fp, lo ≤ x ∧ x < hi)
section
variable {α : Type} {r : Rp α} {e lo hi l u : Nat} {w w0 w1 : World} {v : Value} {xs xs' : List α} {S : List Nat}
theorem ObR.kpR (h : ObR r e w lo hi v xs) (k : Kp w w1 S) (hS : ∀ x ∈ S, l ≤ x ∧ x < u) (ho : u ≤ lo ∨ hi ≤ l) : ObR r e w1 lo hi v xs := by
  obtain ⟨fp, hr, hn, hx⟩ := h
  exact ⟨fp, k.row hr (fun x hx' hm => by have := hS x hm; have := hx x hx'; omega), hn, hx⟩
theorem ObR.below (h : ObR r e w lo hi v xs) (k : Below w.heap.size w w1) : ObR r e w1 lo hi v xs := by
  obtain ⟨fp, hr, hn, hx⟩ := h
  exact ⟨fp, Rp.Row_below hr k, hn, hx⟩
theorem obR_new (h : Rp.Got r e w0.heap.size w v xs) (hb : Below w0.heap.size w0 w) : ObR r e w w0.heap.size w.heap.size v xs ∧ w0.heap.size ≤ w.heap.size := by
  obtain ⟨fp, hr, hn, hx⟩ := h
  exact ⟨⟨fp, hr, hn, fun x hx' => ⟨hx x hx', Rp.Row_lt hr x hx'⟩⟩, hb.size⟩
theorem ObR.C {A : Option Addr} {n c : Nat} (h : ObR r e w lo hi (.slice A n c) xs) : n = xs.length ∧ xs.length ≤ c ∧ r.d.C w A xs.length xs := by
  obtain ⟨fp, hr, _, _⟩ := h
  exact Rp.Row_C hr
end
end Go.Proofs.Ytocdlibnmlcokaa
