/- Rows in the law's own slots. -/
import Derived.Test.YtocdlibnmlcokaaAQ
namespace Go.Proofs.Ytocdlibnmlcokaa
open Go.RowKit Go.Proofs.YtocdlibnmlcokaaW.PrintWords Go.Proofs.YtocdlibnmlcokaaW.PrintLast
set_option linter.unusedVariables false
/-- A row in a slot, its parts between lo and hi - 1. -/
structure ObQ {α : Type} (r : Rp α) (e : Nat) (w : World) (lo hi : Nat) (v : Value) (xs : List α) : Prop where
  o : ObR r e w lo hi v xs
  lh : lo ≤ hi
  hw : hi ≤ w.heap.size
section
variable {α : Type} {r : Rp α} {e lo hi l u : Nat} {w w0 w1 : World} {v : Value} {xs xs' : List α} {S fp : List Nat}
theorem ObQ.kpR (h : ObQ r e w lo hi v xs) (k : Kp w w1 S) (hS : ∀ x ∈ S, l ≤ x ∧ x < u) (ho : u ≤ lo ∨ hi ≤ l) : ObQ r e w1 lo hi v xs :=
  ⟨h.o.kpR k hS ho, h.lh, Nat.le_trans h.hw k.size⟩
theorem ObQ.below (h : ObQ r e w lo hi v xs) (k : Below w.heap.size w w1) : ObQ r e w1 lo hi v xs := ⟨h.o.below k, h.lh, Nat.le_trans h.hw k.size⟩
theorem obQ_new (hr : r.Row e w v xs fp) (hn : fp.Nodup) (hx : ∀ b ∈ fp, w0.heap.size ≤ b) (hb : Below w0.heap.size w0 w) : ObQ r e w w0.heap.size w.heap.size v xs :=
  ⟨⟨fp, hr, hn, fun x hx' => ⟨hx x hx', Rp.Row_lt hr x hx'⟩⟩, hb.size, Nat.le_refl _⟩
theorem ObQ.C {A : Option Addr} {n c : Nat} (h : ObQ r e w lo hi (.slice A n c) xs) : r.d.C w A n xs := by
  obtain ⟨h1, _, h3⟩ := h.o.C
  rw [h1]; exact h3
theorem ObQ.marked (h : ObQ r e w lo hi v xs) (hr : r.Row e w1 v xs' fp) (hn : fp.Nodup) (hx : ∀ x ∈ fp, lo ≤ x ∧ x < hi) (k : Kp w w1 fp) : ObQ r e w1 lo hi v xs' :=
  ⟨⟨fp, hr, hn, hx⟩, h.lh, Nat.le_trans h.hw k.size⟩
end
theorem cnD_put {bs : List (List Int)} {ws : List Wr} {block : Int} {b : List Int} (h : PutOk bs ws block b) : cnD bs (ws ++ [⟨block, b⟩]) ≤ 100000000 := by
  obtain ⟨hd, _, _, h3, h4⟩ := h
  have h0 := cnB_of ⟨hd.1, hd.2.2.1⟩
  have h1 := cntL_bound (cnt := cnW) (m := 65) (by omega) ws (fun x hx => by have := (hd.2.2.2 x hx).2.2; unfold cnW; omega)
  unfold cnD; rw [cntL_append]; simp only [cntL, cnW]; omega
end Go.Proofs.Ytocdlibnmlcokaa
