/- Contracts and words that the laws rest on, part 1: for every world; conditions as each theorem says. -/
import Derived.Below
import Derived.Deep.Draws
import Derived.Deep.AppendLies
import Derived.Maps.AppendAt
import Derived.OwnWalk
import Derived.Laws.BytesArg
import Derived.Laws.MakeOwn
import Derived.Laws.OwnMore
import Derived.Deep.OwnRows
import Derived.Tactics
import Derived.Lib.ConvBytes
import Derived.Laws.Slices
import Derived.WalkKit
import Derived.KernelRfl
import Derived.RowKit3
import Derived.Deep.LoopGhost
import Derived.Deep.QuietTactic
import Derived.BigQuiet
import Derived.WideLaws
import Derived.Deep.DeepCutAuto
import Derived.Deep.CutBlock
import Derived.Deep.RegionHeld3
import Derived.Laws.Rows
import Derived.Lib.AppendStr
import Derived.ArgAppend
import Derived.Laws.IdiomCopy
import Derived.RowKit
import Derived.OrdersHeld
import Derived.Laws.BitsLemmas
import Derived.Test.YtocdlibnmlcokaaProg
import Derived.Laws.Strings
set_option linter.unusedVariables false
set_option linter.unusedSimpArgs false
namespace Go.Proofs.YtocdlibnmlcokaaW.PrintWords
open Go.RowKit
structure Aside0 (p : Prop) : Prop where mk :: (out : p)
structure Drawn0 (w w' : World) : Prop where mk :: (out : ∃ n, w' = w.drewN n)
theorem Drawn0.refl (w : World) : Drawn0 w w := ⟨⟨0, rfl⟩⟩
theorem Drawn0.step {w w' : World} (h : Drawn0 w w') (n : Nat) : Drawn0 w (w'.drewN n) := by
  obtain ⟨m, rfl⟩ := h
  exact ⟨⟨m + n, World.drewN_drewN ..⟩⟩
theorem Drawn0.grown {w w' : World} (h : Drawn0 w w') : Grown w w' := by
  obtain ⟨n, rfl⟩ := h
  induction n with
  | zero => exact Grown.refl _
  | succ n ih => rw [← World.drew_drewN]; exact Grown.drew ih
theorem Drawn0.below {w w' : World} (h : Drawn0 w w') : Below w.heap.size w w' := by
  obtain ⟨n, rfl⟩ := h
  induction n with
  | zero => exact Below.refl _ _
  | succ n ih => rw [← World.drew_drewN]; exact ih.drew
def rd (xs : List Int) (i : Int) : Int := xs.getD i.toNat 0
theorem below_alloc {w W : World} (h : Below w.heap.size w W) (o : Obj) : Below w.heap.size w (W.alloc o) := h.alloc h.size o
theorem below_drew {B : Nat} {w W : World} (h : Below B w W) : Below B w W.drew := ⟨h.os, h.tape, h.output, h.size, h.block⟩
theorem pw_below_drewN {B : Nat} {w W : World} (h : Below B w W) (n : Nat) : Below B w (W.drewN n) := ⟨h.os, h.tape, h.output, h.size, h.block⟩
theorem below_then {B : Nat} {w w1 w2 : World} (h : Below B w w1) (hB : B ≤ w1.heap.size) (k : Below w1.heap.size w1 w2) : Below B w w2 :=
  h.trans ⟨k.os, k.tape, k.output, k.size, fun i hi => k.block i (Nat.lt_of_lt_of_le hi hB)⟩
theorem grown_of_below {w w1 : World} (h : Below w.heap.size w w1) (row : Option Nat) : w.grownBy w1 row := ⟨h.os, h.tape, h.output, h.size, fun i hi _ => h.block i hi⟩
theorem pw_cell_below {w w1 : World} (h : Below w.heap.size w w1) {a : Addr} {v : Value} (hc : w.cell? a = some v) : w1.cell? a = some v := (h.cell (World.block_lt_of_cell? w a hc)).trans hc
theorem add_plain (g j : Nat) : (⟨g, 0, none⟩ : Addr).add j = ⟨g, j, none⟩ := by unfold Addr.add; split <;> simp_all
def ReadsInt (w : World) (k : IntKind) (A : Option Addr) (n : Nat) (xs : List Int) : Prop :=
  xs.length = n ∧ n ≤ 9223372036854775807 ∧ (0 < n → ∃ ad, A = some ad ∧ ∀ j, j < n → w.cell? (ad.add j) = some (.int k (xs.getD j 0)))
theorem ReadsInt.at_ {w : World} {k : IntKind} {A : Option Addr} {n : Nat} {xs : List Int} (h : ReadsInt w k A n xs) (i : Int) (h0 : 0 ≤ i) (h1 : i < n) : ∃ ad, A = some ad ∧ w.cell? (ad.add i.toNat) = some (.int k (rd xs i)) := by
  obtain ⟨ad, e, hc⟩ := h.2.2 (by omega)
  exact ⟨ad, e, hc _ (by omega)⟩
theorem ReadsInt.below {w w1 : World} {k : IntKind} {A : Option Addr} {n : Nat} {xs : List Int} (h : ReadsInt w k A n xs) (hb : Below w.heap.size w w1) : ReadsInt w1 k A n xs :=
  ⟨h.1, h.2.1, fun hn => by
    obtain ⟨ad, e, hc⟩ := h.2.2 hn
    exact ⟨ad, e, fun j hj => pw_cell_below hb (hc j hj)⟩⟩
theorem own_nil (W : World) (base : Nat) (e : TypeId) (size : Nat) : W.ownsRow base e size (.slice none 0 0) 0 [] := ⟨by simp, .inl ⟨rfl, rfl⟩⟩
theorem own_base {w : World} {base : Nat} {e : TypeId} {size n : Nat} {v : Value} {xs : List Value} (h : w.ownsRow base e size v n xs) (k : Nat) (hk : v.ownBlock = some k) : base ≤ k := by
  rcases h.2 with ⟨rfl, _⟩ | ⟨g, cap, cur, rfl, hb, _⟩
  · simp [Value.ownBlock] at hk
  · have : g = k := by simpa [Value.ownBlock] using hk
    omega
theorem own_lt {w : World} {base : Nat} {e : TypeId} {size n : Nat} {v : Value} {xs : List Value} (h : w.ownsRow base e size v n xs) (k : Nat) (hk : v.ownBlock = some k) : k < w.heap.size := by
  rcases h.2 with ⟨rfl, _⟩ | ⟨g, cap, cur, rfl, hb, hh, _⟩
  · simp [Value.ownBlock] at hk
  · have : g = k := by simpa [Value.ownBlock] using hk
    subst this
    exact (Array.getElem?_eq_some_iff.1 hh).1
theorem pw_own_below {w w1 : World} {base : Nat} {e : TypeId} {size n : Nat} {v : Value} {xs : List Value} (h : w.ownsRow base e size v n xs) (hb : Below w.heap.size w w1) : w1.ownsRow base e size v n xs :=
  h.kept (grown_of_below hb none) (by cases v.ownBlock <;> simp)
section
variable {P : Program} {ops : Array Oper} {rest : List Oper} {o : Oper} {a : Act} {Q : Exit → Act → World → Prop}
end
section
variable {P : Program}
end
section
variable {P : Program} {ops : Array Oper} {rest : List Oper} {o : Oper} {a : Act} {Q : Exit → Act → World → Prop}
end
def bytesOf (s : ByteArray) : List Int := s.data.toList.map fun b => (b.toNat : Int)
theorem data_length (s : ByteArray) : s.data.toList.length = s.size := by rw [Array.length_toList]; rfl
theorem bytesOf_length (s : ByteArray) : (bytesOf s).length = s.size := by rw [bytesOf, List.length_map, data_length]
theorem ReadsInt.take_ {w : World} {k : IntKind} {A : Option Addr} {n : Nat} {xs : List Int} (h : ReadsInt w k A n xs) (i : Nat) (hi : i ≤ n) : ReadsInt w k A i (xs.take i) := by
  refine ⟨by rw [List.length_take, h.1]; omega, by have := h.2.1; omega, fun hp => ?_⟩
  obtain ⟨ad, e, hc⟩ := h.2.2 (by omega)
  refine ⟨ad, e, fun j hj => ?_⟩
  rw [hc j (by omega)]
  simp [List.getD_eq_getElem?_getD, hj]
theorem ReadsInt.drop_ {w : World} {k : IntKind} {A : Option Addr} {n c : Nat} {xs : List Int} (h : ReadsInt w k A n xs) (i : Nat) (hi : i ≤ n) (hc : n ≤ c) : ReadsInt w k (if c = i then A else A.map (·.add i)) (n - i) (xs.drop i) := by
  refine ⟨by rw [List.length_drop, h.1], by have := h.2.1; omega, fun hp => ?_⟩
  obtain ⟨ad, rfl, hcell⟩ := h.2.2 (by omega)
  rw [if_neg (by omega)]
  refine ⟨ad.add i, rfl, fun j hj => ?_⟩
  have ha : (ad.add i).add j = ad.add (i + j) := by
    unfold Addr.add
    by_cases h1 : i = 0 <;> by_cases h2 : j = 0 <;> simp [h1, h2, Nat.add_assoc]
  rw [ha, hcell (i + j) (by omega)]
  simp [List.getD_eq_getElem?_getD, List.getElem?_drop]
def LeO {α : Type} (a b : Option α) : Prop := ∀ r, a = some r → b = some r
theorem LeO.refl {α : Type} (a : Option α) : LeO a a := fun _ h => h
theorem LeO.none {α : Type} (b : Option α) : LeO Option.none b := fun _ h => by cases h
theorem LeO.trans {α : Type} {a b c : Option α} (h : LeO a b) (k : LeO b c) : LeO a c := fun r hr => k r (h r hr)
theorem LeO.map {α β : Type} {a a' : Option α} (f : α → β) (h : LeO a a') : LeO (a.map f) (a'.map f) := by
  intro r hr
  obtain ⟨x, hx, hf⟩ := Option.map_eq_some_iff.1 hr
  exact Option.map_eq_some_iff.2 ⟨x, h x hx, hf⟩
theorem more_rounds {α : Type} {g : Nat → Option α} (h : ∀ k, LeO (g k) (g (k + 1))) (k : Nat) : ∀ j, LeO (g k) (g (k + j))
  | 0 => LeO.refl _
  | j + 1 => (more_rounds h k j).trans (h (k + j))
theorem at_rounds {α : Type} {g : Nat → Option α} (h : ∀ k, LeO (g k) (g (k + 1))) {k k' : Nat} (hk : k ≤ k') {r : α} (hr : g k = some r) : g k' = some r := by
  have := more_rounds h k (k' - k) r hr
  rwa [Nat.add_sub_cancel' hk] at this
def Reps {α : Type} (R : α → List Value → Prop) (size : Nat) (ps : List α) (cs : List Value) : Prop :=
  cs.length = ps.length * size ∧ ∀ j p, ps[j]? = some p → R p ((cs.drop (j * size)).take size)
theorem Reps.none {α : Type} (R : α → List Value → Prop) (size : Nat) : Reps R size [] [] := ⟨by simp, fun j p h => by simp at h⟩
theorem Reps.snoc {α : Type} {R : α → List Value → Prop} {size : Nat} {ps : List α} {cs c : List Value} {p : α} (h : Reps R size ps cs) (hp : R p c) (hc : c.length = size) : Reps R size (ps ++ [p]) (cs ++ c) := by
  refine ⟨by rw [List.length_append, h.1, hc, List.length_append, List.length_singleton, Nat.add_mul, Nat.one_mul], fun j q hq => ?_⟩
  rcases Nat.lt_or_ge j ps.length with hj | hj
  · rw [List.getElem?_append_left hj] at hq
    have h1 : j * size + size ≤ cs.length := by rw [h.1, ← Nat.succ_mul]; exact Nat.mul_le_mul_right _ hj
    have h2 := h.2 j q hq
    rw [List.drop_append_of_le_length (by omega), List.take_append_of_le_length (by rw [List.length_drop]; omega)]
    exact h2
  · have hj' : j = ps.length := by
      have := (List.getElem?_eq_some_iff.1 hq).1
      rw [List.length_append, List.length_singleton] at this
      omega
    subst hj'
    have hq' : p = q := by simpa using hq
    subst hq'
    rw [← h.1, List.drop_left, ← hc, List.take_length]
    exact hp
theorem Reps.imp_ {α : Type} {R R' : α → List Value → Prop} {size : Nat} {ps : List α} {cs : List Value} (h : Reps R size ps cs) (hR : ∀ p c, R p c → R' p c) : Reps R' size ps cs := ⟨h.1, fun j p hj => hR _ _ (h.2 j p hj)⟩
def ReadsRow {α : Type} (R : α → List Value → Prop) (size : Nat) (w : World) (A : Option Addr) (n : Nat) (ps : List α) : Prop :=
  ps.length = n ∧ n ≤ 9223372036854775807 ∧ (0 < n → ∃ ad, A = some ad ∧ ∀ j p, ps[j]? = some p → ∃ c, c.length = size ∧ R p c ∧ ∀ i u, c[i]? = some u → w.cell? (ad.add (j * size + i)) = some u)
theorem ReadsRow.get_ {α : Type} {R : α → List Value → Prop} {size : Nat} {w : World} {A : Option Addr} {n : Nat} {ps : List α} (h : ReadsRow R size w A n ps) (d : α) (i : Int) (h0 : 0 ≤ i) (h1 : i < n) :
    ∃ ad c, A = some ad ∧ c.length = size ∧ R (ps.getD i.toNat d) c ∧ ∀ j u, c[j]? = some u → w.cell? (ad.add (i.toNat * size + j)) = some u := by
  obtain ⟨ad, e, hc⟩ := h.2.2 (by omega)
  have hl : i.toNat < ps.length := by have := h.1; omega
  obtain ⟨c, hs, hr, hcell⟩ := hc i.toNat _ (List.getElem?_eq_getElem hl)
  refine ⟨ad, c, e, hs, ?_, hcell⟩
  rw [List.getD_eq_getElem?_getD, List.getElem?_eq_getElem hl]
  exact hr
theorem ReadsRow.imp_ {α : Type} {R R' : α → List Value → Prop} {size : Nat} {w w1 : World} {A : Option Addr} {n : Nat} {ps : List α} (h : ReadsRow R size w A n ps) (hb : Below w.heap.size w w1) (hR : ∀ p c, R p c → R' p c) : ReadsRow R' size w1 A n ps :=
  ⟨h.1, h.2.1, fun hn => by
    obtain ⟨ad, e, hc⟩ := h.2.2 hn
    refine ⟨ad, e, fun j p hj => ?_⟩
    obtain ⟨c, hs, hr, hcell⟩ := hc j p hj
    exact ⟨c, hs, hR _ _ hr, fun i u hu => pw_cell_below hb (hcell i u hu)⟩⟩
theorem own_reads_row {α : Type} {R : α → List Value → Prop} {w : World} {base n size : Nat} {e : TypeId} {v : Value} {ps : List α} {cs : List Value} (h : w.ownsRow base e size v n cs) (hR : Reps R size ps cs) (hn : ps.length = n) :
    ∃ A c, v = .slice A n c ∧ ReadsRow R size w A n ps := by
  rcases Nat.eq_zero_or_pos n with h0 | h0
  · rcases h.2 with ⟨rfl, rfl⟩ | ⟨g, cap, cur, rfl, _⟩
    · exact ⟨none, 0, rfl, hn, by omega, fun hp => absurd hp (by omega)⟩
    · exact ⟨_, cap, rfl, hn, by omega, fun hp => absurd hp (by omega)⟩
  · obtain ⟨g, cap, rfl, _, _⟩ := h.form h0
    have hm : n ≤ 9223372036854775807 := by
      rcases h.2 with ⟨_, h1⟩ | ⟨g', cap', cur, he, _, _, h1, h2, _⟩
      · omega
      · simp only [maxLen] at h2
        omega
    refine ⟨_, cap, rfl, hn, hm, fun _ => ⟨_, rfl, fun j p hj => ⟨(cs.drop (j * size)).take size, ?_, hR.2 j p hj, fun i u hu => ?_⟩⟩⟩
    · have hjl := (List.getElem?_eq_some_iff.1 hj).1
      have h1 : j * size + size ≤ cs.length := by rw [hR.1, ← Nat.succ_mul]; exact Nat.mul_le_mul_right _ hjl
      rw [List.length_take, List.length_drop]
      omega
    · refine h.cells (g := g) rfl _ u ?_
      rw [List.getElem?_take] at hu
      split at hu
      · rw [List.getElem?_drop] at hu
        exact hu
      · cases hu
theorem add_field (ad : Addr) (m j : Nat) (hj : 0 < j) : ad.add (m + j) = ⟨(ad.add m).block, (ad.add m).off + j, none⟩ := by
  unfold Addr.add
  by_cases hm : m = 0
  · subst hm
    simp [Nat.ne_of_gt hj]
  · simp [hm, Nat.add_assoc]
section
variable {P : Program} {ops : Array Oper} {rest : List Oper} {o : Oper} {a : Act} {Q : Exit → Act → World → Prop}
theorem print_append_cells {w0 W : World} (base : Nat) (hgd : o.guard = none) (s x : Operand) (t e : TypeId) (z : Value) (size bytes : Nat)
    (ho : o.op = .call { callee := .builtin .append, args := #[s, x], argTypes := #[t, t] })
    (ht : P.underlying t = some (.slice e)) (hinfo : (P.info? e).map (fun i => (i.zero, i.size, i.bytes)) = some (some z, size, bytes)) (hz : z.cells.size = size) (hs0 : 0 < size) (hb0 : 0 < bytes)
    (v : Value) (n : Nat) (xs ys : List Value) (hs : a.eval s = v) (hx : a.eval x = .slice (some ⟨W.heap.size, 0, none⟩) 1 1) (hys : ys.length = size) (h1 : ∀ u ∈ ys, u.oneCell' = true)
    (HO : W.ownsRow base e size v n xs) (HB : Below base w0 W) (hbase : base ≤ W.heap.size) (hl : (n + 1) * bytes ≤ 140737488355328)
    (h : ∀ v1 w1, w1.ownsRow base e size v1 (n + 1) (xs ++ ys) → Below base w0 w1 → W.grownBy w1 v.ownBlock → (v1.ownBlock = v.ownBlock ∨ ∃ b, v1.ownBlock = some b ∧ W.heap.size ≤ b) → wpList P ops Q rest (a.put o.dst v1) w1) :
    wpList P ops Q (o :: rest) a (W.alloc (.cells ys.toArray e)) := by
  obtain ⟨i0, hi, hzz⟩ := Option.map_eq_some_iff.1 hinfo
  simp only [Prod.mk.injEq] at hzz
  obtain ⟨hz0, hz1, hz2⟩ := hzz
  have hlen : n + 1 ≤ 140737488355328 := Nat.le_trans (Nat.le_mul_of_pos_right _ hb0) hl
  refine wpList_append_own_at (W.alloc (.cells ys.toArray e)) hgd s x t ho base e i0 z size bytes ht hi hz0 hz1 hz2 hz hs0 v n xs hs (HO.alloc _) ⟨W.heap.size, 0, none⟩ 1 1 ys hx (by rw [hys]; simp)
    (by simpa using World.news_of_block (cs := ys.toArray) (t := e) (fr := (0, 0)) (heap_alloc_new W (.cells ys.toArray e))) h1 (by simp only [maxLen]; omega) hl (by simp; omega) ?_
  intro v1 w1 hown hg _ hat
  refine h v1 w1 hown ((HB.alloc hbase _).grown hg (by simp; omega) (own_base HO)) (World.grownBy.trans (World.grownBy_alloc W _ _) hg) ?_
  rcases hat with hat | hat
  · exact .inl hat
  · exact .inr ⟨_, hat, by simp⟩
end
theorem blk_set {w : World} {g : Nat} {t : TypeId} {cs : Array Value} (h : w.heap[g]? = some (.cells cs t (0, 0))) (i : Nat) (u : Value) : (w.setCell ⟨g, i, none⟩ u).heap[g]? = some (.cells (cs.setIfInBounds i u) t (0, 0)) := by
  simp [World.setCell, Array.getElem?_modify, h]
theorem blk_far {w : World} {g : Nat} {t : TypeId} {cs : Array Value} (h : w.heap[g]? = some (.cells cs t (0, 0))) {p : Addr} (hp : g ≠ p.block) (u : Value) : (w.setCell p u).heap[g]? = some (.cells cs t (0, 0)) := (Below.heap_setCell w p u g hp).trans h
theorem blk_lt {w : World} {g : Nat} {o : Obj} (h : w.heap[g]? = some o) : g < w.heap.size := (Array.getElem?_eq_some_iff.1 h).1
theorem blk_cell {w : World} {g : Nat} {t : TypeId} {cs : Array Value} (h : w.heap[g]? = some (.cells cs t (0, 0))) (i : Nat) : w.cell? ⟨g, i, none⟩ = cs[i]? := cell_of_row w g i cs t (0, 0) h
theorem blk_frozen {w : World} {g : Nat} {t : TypeId} {cs : Array Value} (h : w.heap[g]? = some (.cells cs t (0, 0))) (i : Nat) : w.frozen? ⟨g, i, none⟩ = false := by simp [World.frozen?, h]
theorem blk_grown {w w1 : World} {g : Nat} {o : Obj} {row : Option Nat} (h : w.heap[g]? = some o) (hg : w.grownBy w1 row) (hne : some g ≠ row) : w1.heap[g]? = some o := (hg.block g (blk_lt h) hne).trans h
def KeepBut (w w' : World) (g : Nat) (row : Option Nat) : Prop := w.heap.size ≤ w'.heap.size ∧ ∀ i, i < w.heap.size → i ≠ g → some i ≠ row → w'.heap[i]? = w.heap[i]?
theorem KeepBut.refl (w : World) (g : Nat) (row : Option Nat) : KeepBut w w g row := ⟨Nat.le_refl _, fun _ _ _ _ => rfl⟩
theorem KeepBut.of_below {w w1 : World} (h : Below w.heap.size w w1) (g : Nat) (row : Option Nat) : KeepBut w w1 g row := ⟨h.size, fun i hi _ _ => h.block i hi⟩
theorem KeepBut.trans {w w1 w2 : World} {g : Nat} {row row1 : Option Nat} (h : KeepBut w w1 g row) (k : KeepBut w1 w2 g row1) (hr : row1 = row ∨ ∃ b, row1 = some b ∧ w.heap.size ≤ b) : KeepBut w w2 g row :=
  ⟨Nat.le_trans h.1 k.1, fun i hi hg hn => by
    refine (k.2 i (Nat.lt_of_lt_of_le hi h.1) hg ?_).trans (h.2 i hi hg hn)
    rcases hr with rfl | ⟨b, rfl, hb⟩
    · exact hn
    · intro e
      injection e with e
      omega⟩
theorem KeepBut.blk {w w1 : World} {g g' : Nat} {row : Option Nat} {o : Obj} (h : KeepBut w w1 g row) (hb : w.heap[g']? = some o) (hg : g' ≠ g) (hr : some g' ≠ row) : w1.heap[g']? = some o := (h.2 g' (blk_lt hb) hg hr).trans hb
theorem KeepBut.own {w w1 : World} {g : Nat} {row : Option Nat} {base : Nat} {e : TypeId} {size n : Nat} {v : Value} {xs : List Value} (h : KeepBut w w1 g row) (ho : w.ownsRow base e size v n xs) (hg : v.ownBlock ≠ some g) (hr : v.ownBlock = none ∨ v.ownBlock ≠ row) : w1.ownsRow base e size v n xs := by
  obtain ⟨h1, h2⟩ := ho
  refine ⟨h1, ?_⟩
  rcases h2 with h2 | ⟨b, cap, cur, rfl, hb, hh, r⟩
  · exact .inl h2
  · refine .inr ⟨b, cap, cur, rfl, hb, h.blk hh ?_ ?_, r⟩
    · intro e
      exact hg (by rw [← e]; rfl)
    · rcases hr with hr | hr
      · simp [Value.ownBlock] at hr
      · exact hr
def Ev {α : Type} (g : Nat → Option α) (r : α) : Prop := ∃ K, ∀ k, K ≤ k → g k = some r
theorem Ev.of {α : Type} {g : Nat → Option α} {r : α} (hg : ∀ k, LeO (g k) (g (k + 1))) {k : Nat} (h : g k = some r) : Ev g r := ⟨k, fun _ hk => at_rounds hg hk h⟩
theorem Ev.now {α : Type} (r : α) : Ev (fun _ => some r) r := ⟨0, fun _ _ => rfl⟩
theorem Ev.step {α : Type} {g f : Nat → Option α} {r : α} (h : ∀ k, g (k + 1) = f k) (k : Ev f r) : Ev g r := by
  obtain ⟨K, k⟩ := k
  refine ⟨K + 1, fun n hn => ?_⟩
  obtain ⟨m, rfl⟩ : ∃ m, n = m + 1 := ⟨n - 1, by omega⟩
  rw [h]
  exact k m (by omega)
theorem Ev.congr {α : Type} {g f : Nat → Option α} {r : α} (h : ∀ k, g k = f k) (k : Ev f r) : Ev g r := by
  obtain ⟨K, k⟩ := k
  exact ⟨K, fun n hn => (h n).trans (k n hn)⟩
section
variable {P : Program} {ops : Array Oper} {o : Oper} {a : Act} {Q : Exit → Act → World → Prop} {K : Act → World → Prop}
theorem step_append_cells {w0 W : World} (base : Nat) (hw : Region.wanted o (yielded ops a.tmps) = true) (s x : Operand) (t e : TypeId) (z : Value) (size bytes : Nat)
    (ho : o.op = .call { callee := .builtin .append, args := #[s, x], argTypes := #[t, t] })
    (ht : P.underlying t = some (.slice e)) (hinfo : (P.info? e).map (fun i => (i.zero, i.size, i.bytes)) = some (some z, size, bytes)) (hz : z.cells.size = size) (hs0 : 0 < size) (hb0 : 0 < bytes)
    (v : Value) (n : Nat) (xs ys : List Value) (hs : a.eval s = v) (hx : a.eval x = .slice (some ⟨W.heap.size, 0, none⟩) 1 1) (hys : ys.length = size) (h1 : ∀ u ∈ ys, u.oneCell' = true)
    (HO : W.ownsRow base e size v n xs) (HB : Below base w0 W) (hbase : base ≤ W.heap.size) (hl : (n + 1) * bytes ≤ 140737488355328)
    (h : ∀ v1 w1, w1.ownsRow base e size v1 (n + 1) (xs ++ ys) → Below base w0 w1 → W.grownBy w1 v.ownBlock → (v1.ownBlock = v.ownBlock ∨ ∃ b, v1.ownBlock = some b ∧ W.heap.size ≤ b) → K (a.put o.dst v1) w1) :
    if Region.wanted o (yielded ops a.tmps) = true then Oper.wp P o a (W.alloc (.cells ys.toArray e)) K Q else K (a.put o.dst undef) (W.alloc (.cells ys.toArray e)) := by
  obtain ⟨i0, hi, hzz⟩ := Option.map_eq_some_iff.1 hinfo
  simp only [Prod.mk.injEq] at hzz
  obtain ⟨hz0, hz1, hz2⟩ := hzz
  have hlen : n + 1 ≤ 140737488355328 := Nat.le_trans (Nat.le_mul_of_pos_right _ hb0) hl
  rw [if_pos hw]
  obtain ⟨v1, w1, hr, hown, hg, _, hat⟩ := run_append_own_at (P := P) (W.alloc (.cells ys.toArray e)) base t o.type e i0 z size bytes ht hi hz0 hz1 hz2 hz hs0 v n xs (HO.alloc _) ⟨W.heap.size, 0, none⟩ 1 1 ys (by rw [hys]; simp)
    (by simpa using World.news_of_block (cs := ys.toArray) (t := e) (fr := (0, 0)) (heap_alloc_new W (.cells ys.toArray e))) h1 (by simp only [maxLen]; omega) hl (by simp; omega)
  unfold Oper.wp execOp
  simp only [ho, resolve, invoke, builtin, Sem.run_bind, Sem.run_pure, Result.andThen_ok, List.map_toArray, List.map_cons, List.map_nil, hs, hx, hr]
  refine h v1 w1 hown ((HB.alloc hbase _).grown hg (by simp; omega) (own_base HO)) (World.grownBy.trans (World.grownBy_alloc W _ _) hg) ?_
  rcases hat with hat | hat
  · exact .inl hat
  · exact .inr ⟨_, hat, by simp⟩
end
theorem own_weaken {w : World} {base base' : Nat} {e : TypeId} {size n : Nat} {v : Value} {xs : List Value} (h : w.ownsRow base e size v n xs) (hb : base' ≤ base) : w.ownsRow base' e size v n xs := by
  obtain ⟨h1, h2⟩ := h
  refine ⟨h1, ?_⟩
  rcases h2 with h2 | ⟨g, cap, cur, rfl, hg, r⟩
  · exact .inl h2
  · exact .inr ⟨g, cap, cur, rfl, Nat.le_trans hb hg, r⟩
section
variable {α : Type} {enc : α → Value} {d : α}
def encs (enc : α → Value) (xs : List α) : List Value := xs.map enc
def rdOf (d : α) (xs : List α) (i : Int) : α := xs.getD i.toNat d
theorem encs_length (xs : List α) : (encs enc xs).length = xs.length := by simp [encs]
theorem encs_get (xs : List α) (j : Nat) (h : j < xs.length) : (encs enc xs)[j]? = some (enc (xs.getD j d)) := by
  simp [encs, List.getElem?_eq_getElem h, List.getD_eq_getElem?_getD]
def ReadsOf (enc : α → Value) (d : α) (w : World) (A : Option Addr) (n : Nat) (xs : List α) : Prop :=
  xs.length = n ∧ n ≤ 9223372036854775807 ∧ (0 < n → ∃ ad, A = some ad ∧ ∀ j, j < n → w.cell? (ad.add j) = some (enc (xs.getD j d)))
theorem ReadsOf.at_ {w : World} {A : Option Addr} {n : Nat} {xs : List α} (h : ReadsOf enc d w A n xs) (i : Int) (h0 : 0 ≤ i) (h1 : i < n) : ∃ ad, A = some ad ∧ w.cell? (ad.add i.toNat) = some (enc (rdOf d xs i)) := by
  obtain ⟨ad, e, hc⟩ := h.2.2 (by omega)
  exact ⟨ad, e, hc _ (by omega)⟩
theorem ReadsOf.below {w w1 : World} {A : Option Addr} {n : Nat} {xs : List α} (h : ReadsOf enc d w A n xs) (hb : Below w.heap.size w w1) : ReadsOf enc d w1 A n xs :=
  ⟨h.1, h.2.1, fun hn => by
    obtain ⟨ad, e, hc⟩ := h.2.2 hn
    exact ⟨ad, e, fun j hj => pw_cell_below hb (hc j hj)⟩⟩
theorem ReadsOf.take_ {w : World} {A : Option Addr} {n : Nat} {xs : List α} (h : ReadsOf enc d w A n xs) (i : Nat) (hi : i ≤ n) : ReadsOf enc d w A i (xs.take i) := by
  refine ⟨by rw [List.length_take, h.1]; omega, by have := h.2.1; omega, fun hp => ?_⟩
  obtain ⟨ad, e, hc⟩ := h.2.2 (by omega)
  refine ⟨ad, e, fun j hj => ?_⟩
  rw [hc j (by omega)]
  simp [List.getD_eq_getElem?_getD, hj]
theorem ReadsOf.drop_ {w : World} {A : Option Addr} {n c : Nat} {xs : List α} (h : ReadsOf enc d w A n xs) (i : Nat) (hi : i ≤ n) (hc : n ≤ c) : ReadsOf enc d w (if c = i then A else A.map (·.add i)) (n - i) (xs.drop i) := by
  refine ⟨by rw [List.length_drop, h.1], by have := h.2.1; omega, fun hp => ?_⟩
  obtain ⟨ad, rfl, hcell⟩ := h.2.2 (by omega)
  rw [if_neg (by omega)]
  refine ⟨ad.add i, rfl, fun j hj => ?_⟩
  have ha : (ad.add i).add j = ad.add (i + j) := by
    unfold Addr.add
    by_cases h1 : i = 0 <;> by_cases h2 : j = 0 <;> simp [h1, h2, Nat.add_assoc]
  rw [ha, hcell (i + j) (by omega)]
  simp [List.getD_eq_getElem?_getD, List.getElem?_drop]
end
section
variable {α : Type} {P : Program} {ops : Array Oper} {rest : List Oper} {o : Oper} {a : Act} {Q : Exit → Act → World → Prop}
theorem print_append_row_of {w0 W : World} (enc : α → Value) (d : α) (base : Nat) (hgd : o.guard = none) (s x : Operand) (t e : TypeId) (z : Value) (bytes : Nat)
    (ho : o.op = .call { callee := .builtin .append, args := #[s, x], argTypes := #[t, t] })
    (ht : P.underlying t = some (.slice e)) (hinfo : (P.info? e).map (fun i => (i.zero, i.size, i.bytes)) = some (some z, 1, bytes)) (hz : z.cells.size = 1) (hb0 : 0 < bytes) (h1 : ∀ x : α, (enc x).oneCell' = true)
    (v : Value) (xs ys : List α) (A : Option Addr) (m c : Nat) (hs : a.eval s = v) (hx : a.eval x = .slice A m c)
    (HO : W.ownsRow base e 1 v xs.length (encs enc xs)) (HR : ReadsOf enc d W A m ys) (HB : Below base w0 W) (hbase : base ≤ W.heap.size) (hl : (xs.length + m) * bytes ≤ 140737488355328)
    (h : ∀ v1 w1, w1.ownsRow base e 1 v1 (xs ++ ys).length (encs enc (xs ++ ys)) → Below base w0 w1 → W.grownBy w1 v.ownBlock → (v1.ownBlock = v.ownBlock ∨ ∃ b, v1.ownBlock = some b ∧ W.heap.size ≤ b) → wpList P ops Q rest (a.put o.dst v1) w1) :
    wpList P ops Q (o :: rest) a W := by
  obtain ⟨i0, hi, hzz⟩ := Option.map_eq_some_iff.1 hinfo
  simp only [Prod.mk.injEq] at hzz
  obtain ⟨hz0, hz1, hz2⟩ := hzz
  have hm : ys.length = m := HR.1
  have hlen : xs.length + m ≤ 140737488355328 := Nat.le_trans (Nat.le_mul_of_pos_right _ hb0) hl
  have hrun : ∃ v1 w1, (Builtin.append_ #[t, t] o.type #[v, .slice A m c]).run P W = .ok v1 w1 ∧ w1.ownsRow base e 1 v1 (xs ++ ys).length (encs enc (xs ++ ys)) ∧ W.grownBy w1 v.ownBlock ∧ (v1.ownBlock = v.ownBlock ∨ v1.ownBlock = some W.heap.size) := by
    rcases A with _ | ad
    · have h0 : m = 0 := by
        rcases Nat.eq_zero_or_pos m with h0 | h0
        · exact h0
        · obtain ⟨ad, h, _⟩ := HR.2.2 h0
          cases h
      subst h0
      obtain rfl : ys = [] := List.eq_nil_of_length_eq_zero hm
      refine ⟨v, W, ?_, by simpa using HO, World.grownBy.refl W _, .inl rfl⟩
      rcases HO.2 with ⟨rfl, hn⟩ | ⟨g, cap, cur, rfl, _, _, hnc, _⟩
      · simp [Builtin.append_, run_underlying ht, sizeOf, typeInfo, hi, Builtin.lenOf, Builtin.firstCells]
      · simp [Builtin.append_, run_underlying ht, sizeOf, typeInfo, hi, Builtin.lenOf, Builtin.firstCells, hnc, storeCells]
    · have hcells : ∀ j u, (encs enc ys)[j]? = some u → W.cell? (ad.add j) = some u := by
        intro j u hu
        have hj : j < ys.length := by
          rcases Nat.lt_or_ge j ys.length with h | h
          · exact h
          · simp [encs, List.getElem?_eq_none h] at hu
        obtain ⟨ad', h', hc⟩ := HR.2.2 (by omega)
        injection h' with h'
        subst h'
        rw [encs_get (d := d) ys j hj] at hu
        rw [← hu]
        exact hc j (by omega)
      obtain ⟨v1, w1, hr, h2, h3, _, h5⟩ := run_append_own_at (P := P) W base t o.type e i0 z 1 bytes ht hi hz0 hz1 hz2 hz (by omega) v xs.length (encs enc xs) HO ad m c (encs enc ys) (by simp [encs, hm]) hcells
        (by intro u hu; simp only [encs, List.mem_map] at hu; obtain ⟨q, _, rfl⟩ := hu; exact h1 q) (by simp only [maxLen]; omega) hl hbase
      exact ⟨v1, w1, hr, by simpa [encs, hm] using h2, h3, h5⟩
  obtain ⟨v1, w1, hr, hown, hg, hat⟩ := hrun
  refine wpList_plain hgd fun K hK => ?_
  unfold Oper.wp execOp
  simp only [ho, resolve, invoke, builtin, Sem.run_bind, Sem.run_pure, Result.andThen_ok, List.map_toArray, List.map_cons, List.map_nil, hs, hx, hr]
  refine hK _ _ (h v1 w1 hown (HB.grown hg hbase (own_base HO)) hg ?_)
  rcases hat with hat | hat
  · exact .inl hat
  · exact .inr ⟨_, hat, Nat.le_refl _⟩
end
theorem blk_alloc {w : World} {g : Nat} {o : Obj} (h : w.heap[g]? = some o) (o' : Obj) : (w.alloc o').heap[g]? = some o := (Below.heap_alloc w o' g (blk_lt h)).trans h
theorem blk_drew {w : World} {g : Nat} {o : Obj} (h : w.heap[g]? = some o) : w.drew.heap[g]? = some o := h
theorem blk_drewN {w : World} {g : Nat} {o : Obj} (h : w.heap[g]? = some o) (n : Nat) : (w.drewN n).heap[g]? = some o := h
theorem blk_below {w w1 : World} {g : Nat} {o : Obj} (h : w.heap[g]? = some o) (hb : Below w.heap.size w w1) : w1.heap[g]? = some o := (hb.block g (blk_lt h)).trans h
theorem blk_new (w : World) (o : Obj) : (w.alloc o).heap[w.heap.size]? = some o := heap_alloc_new w o
section
variable {P : Program}
theorem results_ct {fn : Func} {p u : Tmp} {ty : TypeId} (h : fn.results = #[.cell p ty, .tmp u]) (tmps : Array Value) (w : World) (g : Nat) (t : TypeId) (cs : Array Value) (fr : Nat × Nat) (d : TypeDesc)
    (hp : tmps.getD p undef = .pointer (some ⟨g, 0, none⟩)) (hg : w.heap[g]? = some (.cells cs t fr))
    (hu : P.underlying ty = some d) (hd : (match d with | .struct _ | .array _ _ => true | _ => false) = true) (hi : (P.info? ty).map (·.size) = some cs.size) :
    (results fn tmps).run P w = .ok (.tuple #[.agg cs, tmps.getD u undef]) w := by
  have hp' : tmps[p]?.getD undef = .pointer (some ⟨g, 0, none⟩) := by simpa using hp
  simp [results, h, hp', asAddr, run_loadVar_row w g t ty cs fr d hg hu hd hi]
end
theorem own_le {w : World} {base n m c size : Nat} {e : TypeId} {A : Option Addr} {xs : List Value} (h : w.ownsRow base e size (.slice A m c) n xs) : m ≤ c := by
  rcases h.2 with ⟨he, _⟩ | ⟨g, cap, cur, he, _, _, hnc, _⟩
  · injection he with _ h2 h3
    omega
  · injection he with _ h2 h3
    omega
def OwnRow {α : Type} (R : α → List Value → Prop) (e : TypeId) (size : Nat) (w : World) (base : Nat) (v : Value) (ps : List α) : Prop :=
  ∃ inner, w.ownsRow base e size v ps.length inner ∧ Reps R size ps inner
section
variable {α : Type} {R R' : α → List Value → Prop} {e : TypeId} {size : Nat} {w w1 : World} {base : Nat} {v : Value} {ps : List α}
theorem OwnRow.imp_ (h : OwnRow R e size w base v ps) (hR : ∀ p c, R p c → R' p c) : OwnRow R' e size w base v ps := by
  obtain ⟨inner, ho, hr⟩ := h
  exact ⟨inner, ho, hr.imp_ hR⟩
theorem OwnRow.below (h : OwnRow R e size w base v ps) (hb : Below w.heap.size w w1) : OwnRow R e size w1 base v ps := by
  obtain ⟨inner, ho, hr⟩ := h
  exact ⟨inner, pw_own_below ho hb, hr⟩
theorem OwnRow.reads (h : OwnRow R e size w base v ps) : ∃ A c, v = .slice A ps.length c ∧ ps.length ≤ c ∧ ReadsRow R size w A ps.length ps := by
  obtain ⟨inner, ho, hr⟩ := h
  obtain ⟨A, c, rfl, hrow⟩ := own_reads_row ho hr rfl
  exact ⟨A, c, rfl, own_le ho, hrow⟩
theorem OwnRow.lit (W : World) (base : Nat) {inner : List Value} (hr : Reps R size ps inner) (hb : base ≤ W.heap.size) (hm : ps.length ≤ 9223372036854775807) :
    OwnRow R e size (W.alloc (.cells inner.toArray e)) base (.slice (some ⟨W.heap.size, 0, none⟩) ps.length ps.length) ps := by
  have h := World.ownsRow_lit (base := base) (e := e) (size := size) W inner.toArray ps.length hb (by simpa [maxLen] using hm) (by simpa using hr.1)
  exact ⟨inner, by simpa using h, hr⟩
end
section
variable {P : Program} {ops : Array Oper} {rest : List Oper} {o : Oper} {a : Act} {Q : Exit → Act → World → Prop} {α : Type} {R : α → List Value → Prop}
theorem OwnRow.append {w0 W : World} (base : Nat) (hgd : o.guard = none) (s x : Operand) (t e : TypeId) (z : Value) (size bytes : Nat)
    (ho : o.op = .call { callee := .builtin .append, args := #[s, x], argTypes := #[t, t] })
    (ht : P.underlying t = some (.slice e)) (hinfo : (P.info? e).map (fun i => (i.zero, i.size, i.bytes)) = some (some z, size, bytes)) (hz : z.cells.size = size) (hs0 : 0 < size) (hb0 : 0 < bytes)
    (v : Value) (ps : List α) (p : α) (cs : List Value) (hs : a.eval s = v) (hx : a.eval x = .slice (some ⟨W.heap.size, 0, none⟩) 1 1) (hp : R p cs) (hcs : cs.length = size) (h1 : ∀ u ∈ cs, u.oneCell' = true)
    (HO : OwnRow R e size W base v ps) (HB : Below base w0 W) (hbase : base ≤ W.heap.size) (hl : (ps.length + 1) * bytes ≤ 140737488355328)
    (h : ∀ v1 w1, OwnRow R e size w1 base v1 (ps ++ [p]) → Below base w0 w1 → W.grownBy w1 v.ownBlock → (v1.ownBlock = v.ownBlock ∨ ∃ b, v1.ownBlock = some b ∧ W.heap.size ≤ b) → wpList P ops Q rest (a.put o.dst v1) w1) :
    wpList P ops Q (o :: rest) a (W.alloc (.cells cs.toArray e)) := by
  obtain ⟨inner, hown, hr⟩ := HO
  refine print_append_cells base hgd s x t e z size bytes ho ht hinfo hz hs0 hb0 v ps.length inner cs hs hx hcs h1 hown HB hbase hl ?_
  intro v1 w1 hown1 hb1 hg1 hat1
  exact h v1 w1 ⟨inner ++ cs, by rw [List.length_append, List.length_singleton]; exact hown1, hr.snoc hp hcs⟩ hb1 hg1 hat1
end
section
variable {P : Program} {ops : Array Oper} {o : Oper} {a : Act} {Q : Exit → Act → World → Prop} {K : Act → World → Prop} {α : Type} {R : α → List Value → Prop}
end
theorem ReadsRow.inner_ {α : Type} {R : α → List Value → Prop} {size : Nat} {w : World} {ad : Addr} {n : Nat} {ps : List α} (h : ReadsRow R size w (some ad) n ps) :
    ∃ inner, Reps R size ps inner ∧ ∀ j u, inner[j]? = some u → w.cell? (ad.add j) = some u := by
  have key : ∀ m, m ≤ ps.length → ∃ inner, Reps R size (ps.take m) inner ∧ ∀ j u, inner[j]? = some u → w.cell? (ad.add j) = some u := by
    intro m
    induction m with
    | zero => exact fun _ => ⟨[], Reps.none _ _, fun j u hu => by simp at hu⟩
    | succ m ih =>
      intro hm
      obtain ⟨inner, hr, hc⟩ := ih (by omega)
      obtain ⟨ad', he, hcell⟩ := h.2.2 (by have := h.1; omega)
      injection he with he
      subst he
      obtain ⟨c, hcl, hp, hcc⟩ := hcell m _ (List.getElem?_eq_getElem (show m < ps.length by omega))
      refine ⟨inner ++ c, ?_, fun j u hu => ?_⟩
      · rw [List.take_succ_eq_append_getElem (show m < ps.length by omega)]
        exact hr.snoc hp hcl
      · have hil : inner.length = m * size := by rw [hr.1, List.length_take, Nat.min_eq_left (by omega)]
        rcases Nat.lt_or_ge j inner.length with hj | hj
        · rw [List.getElem?_append_left hj] at hu
          exact hc j u hu
        · rw [List.getElem?_append_right hj] at hu
          have := hcc (j - inner.length) u hu
          rwa [hil, Nat.add_sub_cancel' (by omega)] at this
  obtain ⟨inner, hr, hc⟩ := key ps.length (Nat.le_refl _)
  rw [List.take_length] at hr
  exact ⟨inner, hr, hc⟩
section
variable {α : Type} {P : Program}
theorem print_mid_of (enc : α → Value) (d : α) (t e : TypeId) (kl kh : IntKind) {i : TypeInfo} (ht : P.underlying t = some (.slice e)) (hi : P.info? e = some i) (hsz : i.size = 1) (A : Option Addr) (c : Nat) (xs : List α) (a b : Int) (h0 : 0 ≤ a) (h1 : a ≤ b) (hm : b ≤ xs.length) (hc : xs.length ≤ c) :
    ∃ A' : Option Addr, (∀ W : World, (Instr.slice t (.slice A xs.length c) (some (.int kl a)) (some (.int kh b)) none).run P W = .ok (.slice A' ((xs.take b.toNat).drop a.toNat).length (c - a.toNat)) W) ∧
      (∀ w : World, ReadsOf enc d w A xs.length xs → ReadsOf enc d w A' ((xs.take b.toNat).drop a.toNat).length ((xs.take b.toNat).drop a.toNat)) ∧ ((xs.take b.toNat).drop a.toNat).length ≤ c - a.toNat := by
  have hlt : (xs.take b.toNat).length = b.toNat := by rw [List.length_take]; omega
  have hl : ((xs.take b.toNat).drop a.toNat).length = b.toNat - a.toNat := by rw [List.length_drop, hlt]
  refine ⟨if c = a.toNat then A else A.map (·.add a.toNat), fun W => ?_, fun w h => ?_, by rw [hl]; omega⟩
  · have hel : P.elem t = e := by simp [Program.elem, ht]
    have hu : P.underlying t = some (.slice (P.elem t)) := by rw [hel]; exact ht
    rw [run_slice_lh W t A xs.length c hu kl kh a b h0 h1 (by omega), hel, hl]
    simp [sizeOf, typeInfo, hi, hsz, sliced, Result.andThen]
  · have h2 := (h.take_ b.toNat (by omega)).drop_ (c := c) a.toNat (by omega) (by omega)
    rw [hl]
    exact h2
end
section
variable {P : Program} {ops : Array Oper} {rest : List Oper} {o : Oper} {a : Act} {Q : Exit → Act → World → Prop}
end
structure Kd (α : Type) where
  sz : Nat
  E : List Nat
  K : World → α → List Value → Prop
  M : World → Nat → (Nat → Prop) → α → List Value → Prop
  K_len : ∀ {w x cs}, K w x cs → cs.length = sz
  K_one : ∀ {w x cs}, K w x cs → ∀ u ∈ cs, u.oneCell' = true
  K_below : ∀ {w w1 : World} {x cs}, Below w.heap.size w w1 → K w x cs → K w1 x cs
  K_of_M : ∀ {w base ok x cs}, M w base ok x cs → K w x cs
  M_mono : ∀ {w base ok ok' x cs}, (∀ k, ok k → ok' k) → M w base ok x cs → M w base ok' x cs
  M_bound : ∀ {w : World} {base ok x cs}, M w base ok x cs → M w base (fun k => ok k ∧ base ≤ k ∧ k < w.heap.size ∧ ∃ q, q ∈ E ∧ ∃ cells, w.heap[k]? = some (.cells cells q (0, 0))) x cs
  M_move : ∀ {w w1 : World} {base ok x cs}, (∀ k, ok k → w1.heap[k]? = w.heap[k]?) → M w base ok x cs → M w1 base ok x cs
  M_lower : ∀ {w base base' ok x cs}, base' ≤ base → M w base ok x cs → M w base' ok x cs
theorem own_move {w w1 : World} {base : Nat} {e : TypeId} {size n : Nat} {v : Value} {xs : List Value} (h : w.ownsRow base e size v n xs) (hm : ∀ k, v.ownBlock = some k → w1.heap[k]? = w.heap[k]?) : w1.ownsRow base e size v n xs := by
  obtain ⟨h1, h2⟩ := h
  refine ⟨h1, ?_⟩
  rcases h2 with h2 | ⟨g, cap, cur, rfl, hg, hh, r⟩
  · exact .inl h2
  · exact .inr ⟨g, cap, cur, rfl, hg, (hm g (by simp [Value.ownBlock])).trans hh, r⟩
theorem own_typed {w : World} {base : Nat} {e : TypeId} {size n : Nat} {v : Value} {xs : List Value} (h : w.ownsRow base e size v n xs) (k : Nat) (hk : v.ownBlock = some k) : ∃ cells, w.heap[k]? = some (.cells cells e (0, 0)) := by
  rcases h.2 with ⟨rfl, _⟩ | ⟨g, cap, cur, rfl, hg, hh, r⟩
  · simp [Value.ownBlock] at hk
  · have : g = k := by simpa [Value.ownBlock] using hk
    subst this
    exact ⟨cur, hh⟩
namespace Kd
def C {α : Type} (d : Kd α) (w : World) (A : Option Addr) (n : Nat) (xs : List α) : Prop := ReadsRow (d.K w) d.sz w A n xs
def R {α : Type} (d : Kd α) (e : Nat) (w : World) (base : Nat) (ok : Nat → Prop) (v : Value) (xs : List α) : Prop :=
  (∀ k, v.ownBlock = some k → ok k) ∧ OwnRow (d.M w base (fun k => ok k ∧ some k ≠ v.ownBlock)) e d.sz w base v xs
section
variable {α : Type} {d : Kd α} {e : Nat} {w w1 : World} {base : Nat} {ok ok' : Nat → Prop} {v : Value} {xs : List α}
theorem C_below {A : Option Addr} {n : Nat} (h : d.C w A n xs) (hb : Below w.heap.size w w1) : d.C w1 A n xs := ReadsRow.imp_ h hb (fun _ _ hp => d.K_below hb hp)
theorem R_mono (h : d.R e w base ok v xs) (hok : ∀ k, ok k → ok' k) : d.R e w base ok' v xs := ⟨fun k hk => hok k (h.1 k hk), h.2.imp_ (fun _ _ hp => d.M_mono (fun k hk => ⟨hok k hk.1, hk.2⟩) hp)⟩
theorem R_bound (h : d.R e w base ok v xs) : d.R e w base (fun k => ok k ∧ base ≤ k ∧ k < w.heap.size ∧ ∃ q, q ∈ e :: d.E ∧ ∃ cells, w.heap[k]? = some (.cells cells q (0, 0))) v xs := by
  obtain ⟨h0, inner, ho, hr⟩ := h
  refine ⟨fun k hk => ?_, inner, ho, hr.imp_ (fun _ _ hp => d.M_mono (fun k hk => ?_) (d.M_bound hp))⟩
  · obtain ⟨cells, hc⟩ := own_typed ho k hk
    exact ⟨h0 k hk, own_base ho k hk, own_lt ho k hk, e, List.mem_cons_self, cells, hc⟩
  · obtain ⟨⟨h1, h2⟩, h3, h4, q, hq, hc⟩ := hk
    exact ⟨⟨h1, h3, h4, q, List.mem_cons_of_mem _ hq, hc⟩, h2⟩
theorem R_move (h : d.R e w base ok v xs) (hm : ∀ k, ok k → w1.heap[k]? = w.heap[k]?) : d.R e w1 base ok v xs := by
  obtain ⟨h0, inner, ho, hr⟩ := h
  exact ⟨h0, inner, own_move ho (fun k hk => hm k (h0 k hk)), hr.imp_ (fun _ _ hp => d.M_move (fun k hk => hm k hk.1) hp)⟩
theorem R_lower {base' : Nat} (h : d.R e w base ok v xs) (hb : base' ≤ base) : d.R e w base' ok v xs := by
  obtain ⟨h0, inner, ho, hr⟩ := h
  exact ⟨h0, inner, own_weaken ho hb, hr.imp_ (fun _ _ hp => d.M_lower hb hp)⟩
theorem R_reads (h : d.R e w base ok v xs) : ∃ A c, v = .slice A xs.length c ∧ xs.length ≤ c ∧ d.C w A xs.length xs := by
  obtain ⟨A, c, he, hl, hr⟩ := OwnRow.reads h.2
  exact ⟨A, c, he, hl, hr.imp_ (Below.refl _ _) (fun _ _ hp => d.K_of_M hp)⟩
end
def scalar {α : Type} (enc : α → Value) (h1 : ∀ x, (enc x).oneCell' = true) : Kd α where
  sz := 1
  E := []
  K := fun _ x cs => cs = [enc x]
  M := fun _ _ _ x cs => cs = [enc x]
  K_len := fun h => by rw [h]; rfl
  K_one := fun h u hu => by
    rw [h] at hu
    rw [List.mem_singleton.1 hu]
    exact h1 _
  K_below := fun _ h => h
  K_of_M := fun h => h
  M_mono := fun _ h => h
  M_bound := fun h => h
  M_move := fun _ h => h
  M_lower := fun _ h => h
def int (k : IntKind) : Kd Int := scalar (Value.int k) (fun _ => rfl)
def bool : Kd Bool := scalar Value.bool (fun _ => rfl)
def string : Kd ByteArray := scalar Value.string (fun _ => rfl)
def slice {α : Type} (e : Nat) (d : Kd α) : Kd (List α) where
  sz := 1
  E := e :: d.E
  K := fun w xs cs => ∃ A c, cs = [.slice A xs.length c] ∧ xs.length ≤ c ∧ d.C w A xs.length xs
  M := fun w base ok xs cs => ∃ v, cs = [v] ∧ d.R e w base ok v xs
  K_len := by
    rintro w x cs ⟨A, c, rfl, _⟩
    rfl
  K_one := by
    rintro w x cs ⟨A, c, rfl, _⟩ u hu
    rw [List.mem_singleton.1 hu]
    rfl
  K_below := by
    rintro w w1 x cs hb ⟨A, c, rfl, hl, hr⟩
    exact ⟨A, c, rfl, hl, C_below hr hb⟩
  K_of_M := by
    rintro w base ok x cs ⟨v, rfl, h⟩
    obtain ⟨A, c, rfl, hl, hr⟩ := R_reads h
    exact ⟨A, c, rfl, hl, hr⟩
  M_mono := by
    rintro w base ok ok' x cs hok ⟨v, rfl, h⟩
    exact ⟨v, rfl, R_mono h hok⟩
  M_bound := by
    rintro w base ok x cs ⟨v, rfl, h⟩
    exact ⟨v, rfl, R_bound h⟩
  M_move := by
    rintro w w1 base ok x cs hm ⟨v, rfl, h⟩
    exact ⟨v, rfl, R_move h hm⟩
  M_lower := by
    rintro w base base' ok x cs hb ⟨v, rfl, h⟩
    exact ⟨v, rfl, R_lower h hb⟩
def pair {α β : Type} (a : Kd α) (b : Kd β) : Kd (α × β) where
  sz := a.sz + b.sz
  E := a.E ++ b.E
  K := fun w x cs => ∃ c0 c1, cs = c0 ++ c1 ∧ a.K w x.1 c0 ∧ b.K w x.2 c1
  M := fun w base ok x cs => ∃ c0 c1, cs = c0 ++ c1 ∧ a.M w base ok x.1 c0 ∧ b.M w base ok x.2 c1
  K_len := by
    rintro w x cs ⟨c0, c1, rfl, h0, h1⟩
    rw [List.length_append, a.K_len h0, b.K_len h1]
  K_one := by
    rintro w x cs ⟨c0, c1, rfl, h0, h1⟩ u hu
    rcases List.mem_append.1 hu with hu | hu
    · exact a.K_one h0 u hu
    · exact b.K_one h1 u hu
  K_below := by
    rintro w w1 x cs hb ⟨c0, c1, rfl, h0, h1⟩
    exact ⟨c0, c1, rfl, a.K_below hb h0, b.K_below hb h1⟩
  K_of_M := by
    rintro w base ok x cs ⟨c0, c1, rfl, h0, h1⟩
    exact ⟨c0, c1, rfl, a.K_of_M h0, b.K_of_M h1⟩
  M_mono := by
    rintro w base ok ok' x cs hok ⟨c0, c1, rfl, h0, h1⟩
    exact ⟨c0, c1, rfl, a.M_mono hok h0, b.M_mono hok h1⟩
  M_bound := by
    rintro w base ok x cs ⟨c0, c1, rfl, h0, h1⟩
    refine ⟨c0, c1, rfl, a.M_mono ?_ (a.M_bound h0), b.M_mono ?_ (b.M_bound h1)⟩
    · rintro k ⟨h2, h3, h4, q, hq, hc⟩
      exact ⟨h2, h3, h4, q, List.mem_append_left _ hq, hc⟩
    · rintro k ⟨h2, h3, h4, q, hq, hc⟩
      exact ⟨h2, h3, h4, q, List.mem_append_right _ hq, hc⟩
  M_move := by
    rintro w w1 base ok x cs hm ⟨c0, c1, rfl, h0, h1⟩
    exact ⟨c0, c1, rfl, a.M_move hm h0, b.M_move hm h1⟩
  M_lower := by
    rintro w base base' ok x cs hb ⟨c0, c1, rfl, h0, h1⟩
    exact ⟨c0, c1, rfl, a.M_lower hb h0, b.M_lower hb h1⟩
def iso {α β : Type} (d : Kd α) (f : β → α) : Kd β where
  sz := d.sz
  E := d.E
  K := fun w x cs => d.K w (f x) cs
  M := fun w base ok x cs => d.M w base ok (f x) cs
  K_len := d.K_len
  K_one := d.K_one
  K_below := d.K_below
  K_of_M := d.K_of_M
  M_mono := d.M_mono
  M_bound := d.M_bound
  M_move := d.M_move
  M_lower := d.M_lower
def bot {α : Type} (sz : Nat) (E : List Nat) : Kd α where
  sz := sz
  E := E
  K := fun _ _ _ => False
  M := fun _ _ _ _ _ => False
  K_len := fun h => h.elim
  K_one := fun h => h.elim
  K_below := fun _ h => h
  K_of_M := fun h => h
  M_mono := fun _ h => h
  M_bound := fun h => h
  M_move := fun _ h => h
  M_lower := fun _ h => h
def upto {α : Type} (F : Kd α → Kd α) (sz : Nat) (E : List Nat) : Nat → Kd α
  | 0 => bot sz E
  | n + 1 => F (upto F sz E n)
theorem C_get {α : Type} {d : Kd α} {w : World} {A : Option Addr} {n : Nat} {xs : List α} (h : d.C w A n xs) (z : α) (i : Int) (h0 : 0 ≤ i) (h1 : i < n) :
    ∃ ad c, A = some ad ∧ c.length = d.sz ∧ d.K w (xs.getD i.toNat z) c ∧ ∀ j u, c[j]? = some u → w.cell? (ad.add (i.toNat * d.sz + j)) = some u := ReadsRow.get_ h z i h0 h1
section
variable {P : Program} {ops : Array Oper} {rest : List Oper} {o : Oper} {a : Act} {Q : Exit → Act → World → Prop} {α : Type}
end
section
variable {P : Program} {ops : Array Oper} {o : Oper} {a : Act} {Q : Exit → Act → World → Prop} {Kc : Act → World → Prop} {α : Type}
end
theorem reps_scalar {α : Type} {enc : α → Value} (xs : List α) : Reps (fun (x : α) (cs : List Value) => cs = [enc x]) 1 xs (encs enc xs) := by
  refine ⟨by simp [encs], fun j p hj => ?_⟩
  obtain ⟨hl, hp⟩ := List.getElem?_eq_some_iff.1 hj
  have hl' : j < (encs enc xs).length := by rw [encs_length]; exact hl
  rw [Nat.mul_one, List.drop_eq_getElem_cons hl']
  simp [encs, hp]
theorem R_of_own {α : Type} {enc : α → Value} {h1 : ∀ x, (enc x).oneCell' = true} {e : Nat} {w : World} {base : Nat} {ok : Nat → Prop} {v : Value} {xs : List α} (ho : w.ownsRow base e 1 v xs.length (encs enc xs)) (hok : ∀ k, v.ownBlock = some k → ok k) : (scalar enc h1).R e w base ok v xs := ⟨hok, encs enc xs, ho, reps_scalar xs⟩
theorem own_of_R {α : Type} {enc : α → Value} {h1 : ∀ x, (enc x).oneCell' = true} {e : Nat} {w : World} {base : Nat} {ok : Nat → Prop} {v : Value} {xs : List α} (h : (scalar enc h1).R e w base ok v xs) : w.ownsRow base e 1 v xs.length (encs enc xs) := by
  obtain ⟨_, inner, ho, hr⟩ := h
  have : inner = encs enc xs := by
    apply List.ext_getElem?
    intro j
    rcases Nat.lt_or_ge j xs.length with hj | hj
    · have h2 := hr.2 j _ (List.getElem?_eq_getElem hj)
      have hl : j < inner.length := by have := hr.1; simp [scalar] at this; omega
      have h3 : (inner.drop (j * 1)).take 1 = [enc xs[j]] := h2
      rw [Nat.mul_one, List.drop_eq_getElem_cons hl] at h3
      have h4 : inner[j] = enc xs[j] := by
        have h5 := congrArg List.head? h3
        rw [List.take_succ_cons] at h5
        exact Option.some.inj h5
      rw [List.getElem?_eq_getElem hl, h4]
      simp [encs, List.getElem?_eq_getElem hj]
    · have h3 : inner.length = xs.length := by have := hr.1; simp [scalar] at this; omega
      rw [List.getElem?_eq_none (by omega), List.getElem?_eq_none (by rw [encs_length]; omega)]
  rw [← this]
  exact ho
theorem C_of_reads {α : Type} {enc : α → Value} {d : α} {h1 : ∀ x, (enc x).oneCell' = true} {w : World} {A : Option Addr} {n : Nat} {xs : List α} (h : ReadsOf enc d w A n xs) : (scalar enc h1).C w A n xs := by
  refine ⟨h.1, h.2.1, fun hn => ?_⟩
  obtain ⟨ad, e, hc⟩ := h.2.2 hn
  refine ⟨ad, e, fun j p hj => ⟨[enc p], rfl, rfl, fun i u hu => ?_⟩⟩
  obtain ⟨hl, hp⟩ := List.getElem?_eq_some_iff.1 hj
  have h2 := hc j (by have := h.1; omega)
  rw [List.getD_eq_getElem?_getD, hj] at h2
  cases i with
  | zero =>
    have : enc p = u := by simpa using hu
    subst this
    simpa [scalar] using h2
  | succ i => simp at hu
theorem reads_of_C {α : Type} {enc : α → Value} {d : α} {h1 : ∀ x, (enc x).oneCell' = true} {w : World} {A : Option Addr} {n : Nat} {xs : List α} (h : (scalar enc h1).C w A n xs) : ReadsOf enc d w A n xs := by
  refine ⟨h.1, h.2.1, fun hn => ?_⟩
  obtain ⟨ad, e, hc⟩ := h.2.2 hn
  refine ⟨ad, e, fun j hj => ?_⟩
  have hl : j < xs.length := by have := h.1; omega
  obtain ⟨c, _, hK, hcell⟩ := hc j _ (List.getElem?_eq_getElem hl)
  have hK' : c = [enc xs[j]] := hK
  subst hK'
  have := hcell 0 _ rfl
  simpa [scalar, List.getD_eq_getElem?_getD, List.getElem?_eq_getElem hl] using this
end Kd
namespace Kd
structure Mono {α β : Type} (F : Kd α → Kd β) : Prop where
  sz : ∀ d d' : Kd α, d.sz = d'.sz → (F d).sz = (F d').sz
  K : ∀ d d' : Kd α, d.sz = d'.sz → (∀ w x cs, d.K w x cs → d'.K w x cs) → ∀ w x cs, (F d).K w x cs → (F d').K w x cs
  M : ∀ d d' : Kd α, d.sz = d'.sz → (∀ w base ok x cs, d.M w base ok x cs → d'.M w base ok x cs) → ∀ w base ok x cs, (F d).M w base ok x cs → (F d').M w base ok x cs
section
variable {α : Type} {F : Kd α → Kd α} {sz : Nat} {E : List Nat} {hs : ∀ n, (upto F sz E n).sz = sz} {hE : ∀ n q, q ∈ (upto F sz E n).E → q ∈ E}
end
end Kd
namespace Kd
end Kd
namespace Kd
section
variable {α β : Type} {d : Kd α} {d' : Kd β} {e e' : Nat} {w w1 W : World} {base b b' : Nat} {ok ok' okv oku : Nat → Prop} {v u : Value} {xs : List α} {ys : List β}
theorem C_alloc {A : Option Addr} {n : Nat} (h : d.C w A n xs) (o : Obj) : d.C (w.alloc o) A n xs := C_below h (below_alloc (Below.refl _ _) o)
theorem C_drew {A : Option Addr} {n : Nat} (h : d.C w A n xs) : d.C w.drew A n xs := C_below h (below_drew (Below.refl _ _))
end
section
variable {w W : World} {A : Option Addr} {n : Nat}
theorem at_int {k : IntKind} {xs : List Int} (h : (Kd.int k).C w A n xs) (i : Int) (h0 : 0 ≤ i) (h1 : i < n) : ∃ ad, A = some ad ∧ w.cell? (ad.add i.toNat) = some (.int k (rd xs i)) :=
  ReadsOf.at_ (reads_of_C (enc := Value.int k) (d := (0 : Int)) (h1 := fun _ => rfl) h) i h0 h1
theorem at_bool {xs : List Bool} (h : Kd.bool.C w A n xs) (i : Int) (h0 : 0 ≤ i) (h1 : i < n) : ∃ ad, A = some ad ∧ w.cell? (ad.add i.toNat) = some (.bool (rdOf false xs i)) :=
  ReadsOf.at_ (reads_of_C (enc := Value.bool) (d := false) (h1 := fun _ => rfl) h) i h0 h1
variable {α : Type} {enc : α → Value} {h1 : ∀ x, (enc x).oneCell' = true} {e base g cap : Nat} {ok : Nat → Prop} {xs : List α}
end
section
variable {P : Program} {ops : Array Oper} {rest : List Oper} {o : Oper} {a : Act} {Q : Exit → Act → World → Prop}
theorem event_run {W w1 : World} {v : Value} (hgd : o.guard = none) (hrun : (execOp a.eval o).run P W = .ok (.value v) w1) (h : wpList P ops Q rest (a.put o.dst v) w1) : wpList P ops Q (o :: rest) a W := by
  refine wpList_plain hgd fun K hK => ?_
  unfold Oper.wp
  rw [hrun]
  exact hK _ _ h
variable {α : Type}
end
end Kd
theorem own_take {w : World} {base n m c size : Nat} {e : TypeId} {A : Option Addr} {xs : List Value} (h : w.ownsRow base e size (.slice A n c) n xs) (hm : m ≤ n) : w.ownsRow base e size (.slice A m c) m (xs.take (m * size)) := by
  obtain ⟨h1, h2⟩ := h
  refine ⟨by rw [List.length_take, h1]; exact Nat.min_eq_left (Nat.mul_le_mul_right _ hm), ?_⟩
  rcases h2 with ⟨he, h0⟩ | ⟨g, cap, cur, he, hb, hh, hnc, hcm, hcs, ht⟩
  · injection he with ha _ hc
    subst ha; subst hc
    exact .inl ⟨by rw [show m = 0 by omega], by omega⟩
  · injection he with ha _ hc
    subst ha; subst hc
    refine .inr ⟨g, c, cur, rfl, hb, hh, by omega, hcm, hcs, ?_⟩
    rw [← ht, List.take_take, Nat.min_eq_left (Nat.mul_le_mul_right _ hm)]
section
variable {P : Program}
theorem cut_to (t e : TypeId) (kh : IntKind) {i : TypeInfo} (ht : P.underlying t = some (.slice e)) (hi : P.info? e = some i) (A : Option Addr) (n c : Nat) (j : Int) (h0 : 0 ≤ j) (hm : j ≤ n) (hc : n ≤ c) :
    ∀ W : World, (Instr.slice t (.slice A n c) none (some (.int kh j)) none).run P W = .ok (.slice A j.toNat c) W := by
  intro W
  have hel : P.elem t = e := by simp [Program.elem, ht]
  have hu : P.underlying t = some (.slice (P.elem t)) := by rw [hel]; exact ht
  have ha : (A.map fun x => x.add 0) = A := by cases A <;> simp [Addr.add]
  rw [run_slice_h W t A n c hu kh j h0 (by omega), hel]
  simp [sizeOf, typeInfo, hi, sliced, Result.andThen, ha]
theorem cut_from (t e : TypeId) (kl : IntKind) {i : TypeInfo} (ht : P.underlying t = some (.slice e)) (hi : P.info? e = some i) (size : Nat) (hsz : i.size = size) (A : Option Addr) (n c : Nat) (j : Int) (h0 : 0 ≤ j) (hm : j ≤ n) :
    ∀ W : World, (Instr.slice t (.slice A n c) (some (.int kl j)) none none).run P W = .ok (.slice (if c = j.toNat then A else A.map (·.add (j.toNat * size))) (n - j.toNat) (c - j.toNat)) W := by
  intro W
  have hel : P.elem t = e := by simp [Program.elem, ht]
  have hu : P.underlying t = some (.slice (P.elem t)) := by rw [hel]; exact ht
  rw [run_slice_l W t A n c hu kl j h0 hm, hel]
  simp [sizeOf, typeInfo, hi, hsz, sliced, Result.andThen]
end
def QRow (w : World) (base : Nat) (e : TypeId) (size : Nat) (v : Value) (n : Nat) (xs : List Value) : Prop :=
  xs.length = n * size ∧
  ((n = 0 ∧ ∃ A, v = .slice A 0 0 ∧ ∀ a, A = some a → base ≤ a.block ∧ ∃ cur, w.heap[a.block]? = some (.cells cur e (0, 0))) ∨
   ∃ g off cap cur, v = .slice (some ⟨g, off * size, none⟩) n cap ∧ base ≤ g ∧ w.heap[g]? = some (.cells cur e (0, 0)) ∧ n ≤ cap ∧ off + cap ≤ maxLen ∧ cur.size = (off + cap) * size ∧ (cur.toList.drop (off * size)).take (n * size) = xs)
section
variable {w w1 : World} {base n size : Nat} {e : TypeId} {v : Value} {xs : List Value}
theorem setCells_far {g : Nat} : ∀ (vs : List Value) (o : Nat) {w : World} (k : Nat), k ≠ g → (w.setCells g o vs).heap[k]? = w.heap[k]?
  | [], _, _, _, _ => rfl
  | v :: r, o, w, k, hk => by
    rw [World.setCells, setCells_far r (o + 1) k hk]
    exact Below.heap_setCell w ⟨g, o, none⟩ v k hk
theorem setCells_same (g : Nat) : ∀ (vs : List Value) (o : Nat) (w : World), (w.setCells g o vs).os = w.os ∧ (w.setCells g o vs).tape = w.tape ∧ (w.setCells g o vs).output = w.output ∧ (w.setCells g o vs).heap.size = w.heap.size
  | [], _, _ => ⟨rfl, rfl, rfl, rfl⟩
  | v :: r, o, w => by
    obtain ⟨h1, h2, h3, h4⟩ := setCells_same g r (o + 1) (w.setCell ⟨g, o, none⟩ v)
    rw [World.setCells]
    exact ⟨h1, h2, h3, by rw [h4]; simp [World.setCell]⟩
theorem setCells_row {g : Nat} {e : TypeId} : ∀ (vs : List Value) (o : Nat) (w : World) (cur : Array Value), w.heap[g]? = some (.cells cur e (0, 0)) → o + vs.length ≤ cur.size →
    ∃ cur', (w.setCells g o vs).heap[g]? = some (.cells cur' e (0, 0)) ∧ cur'.size = cur.size ∧ cur'.toList = cur.toList.take o ++ vs ++ cur.toList.drop (o + vs.length)
  | [], o, w, cur, h, _ => ⟨cur, h, rfl, by simp⟩
  | v :: r, o, w, cur, h, hl => by
    have h2 := blk_set h o v
    simp only [List.length_cons] at hl
    obtain ⟨cur', h3, h4, h5⟩ := setCells_row r (o + 1) (w.setCell ⟨g, o, none⟩ v) _ h2 (by simp; omega)
    refine ⟨cur', h3, by rw [h4]; simp, ?_⟩
    rw [h5, Array.toList_setIfInBounds]
    have ho : o < cur.toList.length := by rw [Array.length_toList]; omega
    rw [List.take_set, List.drop_set_of_lt (by omega)]
    simp only [List.length_cons]
    rw [show o + 1 + r.length = o + (r.length + 1) by omega]
    congr 1
    rw [List.take_succ_eq_append_getElem ho, List.set_append_right _ _ (by rw [List.length_take]; omega)]
    have ho' : o < cur.size := by omega
    simp [Nat.min_eq_left (Nat.le_of_lt ho')]
end
section
variable {P : Program}
end
namespace Kd
def Q {α : Type} (d : Kd α) (e : Nat) (w : World) (base : Nat) (ok : Nat → Prop) (v : Value) (xs : List α) : Prop :=
  (∀ k, v.ownBlock = some k → ok k) ∧ ∃ inner, QRow w base e d.sz v xs.length inner ∧ Reps (d.M w base (fun k => ok k ∧ some k ≠ v.ownBlock)) d.sz xs inner
section
variable {α : Type} {d : Kd α} {e : Nat} {w w1 W : World} {base : Nat} {ok ok' : Nat → Prop} {v : Value} {xs : List α}
end
section
variable {P : Program} {ops : Array Oper} {rest : List Oper} {o : Oper} {a : Act} {Q' : Exit → Act → World → Prop} {Kc : Act → World → Prop} {α : Type}
end
end Kd
namespace Kd
section
variable {α : Type} {d : Kd α} {e e' : Nat} {w w1 W : World} {base : Nat} {ok : Nat → Prop} {u v : Value} {xs : List α}
end
end Kd
namespace Kd
section
variable {α : Type} {d : Kd α} {e base g n cap : Nat} {ok okp : Nat → Prop} {W : World} {xs : List α}
end
end Kd
namespace Kd
section
variable {α : Type} {F : Kd α → Kd α} {sz : Nat} {E : List Nat} {hs : ∀ n, (upto F sz E n).sz = sz} {hE : ∀ n q, q ∈ (upto F sz E n).E → q ∈ E}
end
end Kd
namespace Kd
theorem reps_append {α : Type} {R : α → List Value → Prop} {size : Nat} {ps qs : List α} {cs ds : List Value} (h : Reps R size ps cs) (h' : Reps R size qs ds) : Reps R size (ps ++ qs) (cs ++ ds) := by
  refine ⟨by rw [List.length_append, List.length_append, h.1, h'.1, Nat.add_mul], fun j p hj => ?_⟩
  rcases Nat.lt_or_ge j ps.length with hlt | hge
  · rw [List.getElem?_append_left hlt] at hj
    have hle : j * size + size ≤ cs.length := by rw [h.1, ← Nat.succ_mul]; exact Nat.mul_le_mul_right _ hlt
    rw [List.drop_append_of_le_length (by omega), List.take_append_of_le_length (by rw [List.length_drop]; omega)]
    exact h.2 j p hj
  · rw [List.getElem?_append_right hge] at hj
    have h2 := h'.2 (j - ps.length) p hj
    have hle : ps.length * size ≤ j * size := Nat.mul_le_mul_right _ hge
    rw [List.drop_append, List.drop_eq_nil_of_le (by rw [h.1]; exact hle), List.nil_append, h.1, ← Nat.sub_mul]
    exact h2
section
variable {P : Program} {ops : Array Oper} {rest : List Oper} {o : Oper} {a : Act} {Q : Exit → Act → World → Prop} {α : Type}
end
end Kd
namespace Kd
section
variable {P : Program} {ops : Array Oper} {rest : List Oper} {o : Oper} {a : Act} {Q : Exit → Act → World → Prop} {α : Type}
end
end Kd
theorem add_add (a : Addr) (i j : Nat) : (a.add i).add j = a.add (i + j) := by
  unfold Addr.add
  by_cases h1 : i = 0 <;> by_cases h2 : j = 0 <;> simp [h1, h2, Nat.add_assoc]
namespace Kd
section
variable {α : Type} {k : Kd α} {w : World} {A : Option Addr} {xs : List α} {m c : Nat}
theorem C_drop (h : k.C w A xs.length xs) (hm : m ≤ xs.length) (hc : xs.length ≤ c) : k.C w (if c = m then A else A.map (·.add (m * k.sz))) (xs.drop m).length (xs.drop m) := by
  have hl : (xs.drop m).length = xs.length - m := List.length_drop
  refine ⟨rfl, by rw [hl]; have := h.2.1; omega, fun hp => ?_⟩
  rw [hl] at hp
  obtain ⟨ad, rfl, hcell⟩ := h.2.2 (by omega)
  rw [if_neg (by omega)]
  refine ⟨ad.add (m * k.sz), rfl, fun j p hj => ?_⟩
  rw [List.getElem?_drop] at hj
  obtain ⟨cs, h1, h2, h3⟩ := hcell (m + j) p hj
  refine ⟨cs, h1, h2, fun i u hu => ?_⟩
  rw [add_add, show m * k.sz + (j * k.sz + i) = (m + j) * k.sz + i by rw [Nat.add_mul]; omega]
  exact h3 i u hu
end
end Kd
section
variable {P : Program}
end
theorem string_of_reads {P : Program} {w : World} {src dst e : TypeId} {A : Option Addr} {n c : Nat} {xs : List Int} (hs : P.underlying src = some (.slice e)) (he : P.underlying e = some (.int .u8)) (hd : P.underlying dst = some .string)
    (h : ReadsInt w .u8 A n xs) : (convert src dst (.slice A n c)).run P w = .ok (.string (strOfNums xs)) w := by
  have hn : xs.length = n := h.1
  rcases A with _ | ad
  · have h0 : n = 0 := by
      rcases Nat.eq_zero_or_pos n with h0 | h0
      · exact h0
      · obtain ⟨ad, h', _⟩ := h.2.2 h0
        cases h'
    subst h0
    obtain rfl : xs = [] := List.eq_nil_of_length_eq_zero hn
    exact run_convert_bytes_nil w src e hs he 0 c dst hd
  · have hl : (loadCells ad n).run P w = .ok (xs.map (Value.int .u8)).toArray w := by
      have := run_loadCells_list (P := P) w ad (xs.map (Value.int .u8)) (fun j v hj => by
        have hjl : j < xs.length := by
          rcases Nat.lt_or_ge j xs.length with h' | h'
          · exact h'
          · rw [List.getElem?_eq_none (by rw [List.length_map]; exact h')] at hj
            cases hj
        obtain ⟨ad', he', hc⟩ := h.2.2 (by omega)
        injection he' with he'
        subst he'
        rw [hc j (by omega)]
        rw [List.getElem?_map, List.getElem?_eq_getElem hjl] at hj
        simp at hj
        subst hj
        simp [List.getD_eq_getElem?_getD, List.getElem?_eq_getElem hjl])
      simpa [hn] using this
    rw [run_convert_bytes_string w src dst e _ n c hs he hd, run_bytesToString w ad n c xs hl, foldl_push_bytes]
    simp [strOfNums, ByteArray.empty, ByteArray.emptyWithCapacity]
    rfl
theorem Kd.C_string {P : Program} {w : World} {src dst e : TypeId} {A : Option Addr} {n c : Nat} {xs : List Int} (hs : P.underlying src = some (.slice e)) (he : P.underlying e = some (.int .u8)) (hd : P.underlying dst = some .string)
    (h : (Kd.int .u8).C w A n xs) : (convert src dst (.slice A n c)).run P w = .ok (.string (strOfNums xs)) w :=
  string_of_reads hs he hd (Kd.reads_of_C (enc := Value.int .u8) (d := (0 : Int)) (h1 := fun _ => rfl) h)
theorem ReadsInt.nil (W : World) (k : IntKind) : ReadsInt W k none ([] : List Int).length [] := ⟨rfl, by simp, fun h => absurd h (Nat.lt_irrefl 0)⟩
theorem ReadsInt.drewN {W : World} {k : IntKind} {A : Option Addr} {n : Nat} {xs : List Int} (h : ReadsInt W k A n xs) (m : Nat) : ReadsInt (W.drewN m) k A n xs := h
theorem ReadsOf.nil {α : Type} (enc : α → Value) (d : α) (W : World) : ReadsOf enc d W none ([] : List α).length [] := ⟨rfl, by simp, fun h => absurd h (Nat.lt_irrefl 0)⟩
theorem ReadsOf.drewN {α : Type} {enc : α → Value} {d : α} {W : World} {A : Option Addr} {n : Nat} {xs : List α} (h : ReadsOf enc d W A n xs) (m : Nat) : ReadsOf enc d (W.drewN m) A n xs := h
namespace Kd
section
variable {α β : Type} {d : Kd α} {d' : Kd β} {e e' base base' n : Nat} {ok ok' : Nat → Prop} {w W w1 W1 : World} {v u : Value} {xs : List α} {ys : List β} {A : Option Addr} {c : Nat}
end
section
variable {α : Type} {enc : α → Value} {h1 : ∀ x, (enc x).oneCell' = true} {w W : World} {A : Option Addr} {n g : Nat} {xs : List α}
end
end Kd
namespace Kd
section
variable {α : Type} {d : Kd α} {e base g : Nat} {ok : Nat → Prop} {w w1 : World} {v : Value} {xs : List α} {o : Obj}
end
end Kd
section
variable {P : Program} {ops : Array Oper} {rest : List Oper} {o : Oper} {a : Act} {Q : Exit → Act → World → Prop}
end
namespace Kd
section
variable {α : Type} {enc : α → Value} {h1 : ∀ x, (enc x).oneCell' = true} {e base g n cap : Nat} {ok : Nat → Prop} {W : World} {xs : List α}
end
end Kd
section
variable {P : Program} {ops : Array Oper} {rest : List Oper} {o : Oper} {a : Act} {Q : Exit → Act → World → Prop}
end
namespace Kd
section
variable {α : Type} {enc : α → Value} {h1 : ∀ x, (enc x).oneCell' = true} {e base g n cap : Nat} {ok : Nat → Prop} {W : World} {xs : List α}
end
end Kd
section
variable {P : Program} {ops : Array Oper} {rest : List Oper} {o : Oper} {a : Act} {Q : Exit → Act → World → Prop} {W : World}
theorem gate_dst {N : Tmp} (_hN : o.dst = some N) (h : wpList P ops Q (o :: rest) a W) : wpList P ops Q (o :: rest) a W := h
end
section
variable {P : Program} {ops : Array Oper} {o : Oper} {a : Act} {Q : Exit → Act → World → Prop} {Kc : Act → World → Prop}
namespace Kd
variable {α : Type}
theorem R_append_rows_step (d : Kd α) {Rr : α → List Value → Prop} {w0 W : World} (base : Nat) (hw : Region.wanted o (yielded ops a.tmps) = true) (s x : Operand) (t e : TypeId) (z : Value) (bytes : Nat)
    (ho : o.op = .call { callee := .builtin .append, args := #[s, x], argTypes := #[t, t] })
    (ht : P.underlying t = some (.slice e)) (hinfo : (P.info? e).map (fun i => (i.zero, i.size, i.bytes)) = some (some z, d.sz, bytes)) (hz : z.cells.size = d.sz) (hs0 : 0 < d.sz) (hb0 : 0 < bytes)
    (v : Value) (xs ys : List α) (A : Option Addr) (m c : Nat) (ok okp : Nat → Prop) (hs : a.eval s = v) (hx : a.eval x = .slice A m c)
    (HO : d.R e W base ok v xs) (HR : ReadsRow Rr d.sz W A m ys) (hKM : ∀ x cs, Rr x cs → d.M W base okp x cs) (hokp : ∀ k, okp k → ok k ∧ some k ≠ v.ownBlock) (hfresh : ∀ k, W.heap.size ≤ k → ok k)
    (HB : Below base w0 W) (hbase : base ≤ W.heap.size) (hl : (xs.length + m) * bytes ≤ 140737488355328)
    (h : ∀ v1 w1, d.R e w1 base ok v1 (xs ++ ys) → Below base w0 w1 → W.grownBy w1 v.ownBlock → (v1.ownBlock = v.ownBlock ∨ ∃ b, v1.ownBlock = some b ∧ W.heap.size ≤ b) → Kc (a.put o.dst v1) w1) :
    if Region.wanted o (yielded ops a.tmps) = true then Oper.wp P o a W Kc Q else Kc (a.put o.dst undef) W := by
  obtain ⟨i0, hi, hzz⟩ := Option.map_eq_some_iff.1 hinfo
  simp only [Prod.mk.injEq] at hzz
  obtain ⟨hz0, hz1, hz2⟩ := hzz
  have hm : ys.length = m := HR.1
  have hlen : xs.length + m ≤ 140737488355328 := Nat.le_trans (Nat.le_mul_of_pos_right _ hb0) hl
  obtain ⟨hok, inner, hown, hr⟩ := HO
  have hrun : ∃ v1 w1, (Builtin.append_ #[t, t] o.type #[v, .slice A m c]).run P W = .ok v1 w1 ∧ d.R e w1 base ok v1 (xs ++ ys) ∧ W.grownBy w1 v.ownBlock ∧ (v1.ownBlock = v.ownBlock ∨ ∃ b, v1.ownBlock = some b ∧ W.heap.size ≤ b) := by
    rcases A with _ | ad
    · have h0 : m = 0 := by
        rcases Nat.eq_zero_or_pos m with h0 | h0
        · exact h0
        · obtain ⟨ad, h, _⟩ := HR.2.2 h0
          cases h
      subst h0
      obtain rfl : ys = [] := List.eq_nil_of_length_eq_zero hm
      refine ⟨v, W, ?_, by rw [List.append_nil]; exact ⟨hok, inner, hown, hr⟩, World.grownBy.refl W _, .inl rfl⟩
      rcases hown.2 with ⟨rfl, hn⟩ | ⟨g, cap, cur, rfl, _, _, hnc, _⟩
      · simp [Builtin.append_, run_underlying ht, sizeOf, typeInfo, hi, Builtin.lenOf, Builtin.firstCells]
      · simp [Builtin.append_, run_underlying ht, sizeOf, typeInfo, hi, Builtin.lenOf, Builtin.firstCells, hnc, storeCells]
    · obtain ⟨news, hnr, hnc⟩ := ReadsRow.inner_ HR
      have hnM : Reps (d.M W base okp) d.sz ys news := hnr.imp_ (fun p c hp => hKM p c hp)
      have hone : ∀ u ∈ news, u.oneCell' = true := by
        intro u hu
        obtain ⟨q, hq, rfl⟩ := List.mem_iff_getElem.1 hu
        have hql : q / d.sz < ys.length := by
          rw [Nat.div_lt_iff_lt_mul hs0]
          rw [← hnM.1]
          exact hq
        have hc := hnM.2 (q / d.sz) _ (List.getElem?_eq_getElem hql)
        refine d.K_one (d.K_of_M hc) _ ?_
        rw [List.mem_iff_getElem?]
        refine ⟨q % d.sz, ?_⟩
        rw [List.getElem?_take, if_pos (Nat.mod_lt _ hs0), List.getElem?_drop, Nat.mul_comm, Nat.div_add_mod, List.getElem?_eq_getElem hq]
      obtain ⟨v1, w1, hrun, h2, hg, _, hat⟩ := run_append_own_at (P := P) W base t o.type e i0 z d.sz bytes ht hi hz0 hz1 hz2 hz hs0 v xs.length inner hown ad m c news (by rw [hnM.1, hm]) hnc hone (by simp only [maxLen]; omega) hl hbase
      have hat' : v1.ownBlock = v.ownBlock ∨ ∃ b, v1.ownBlock = some b ∧ W.heap.size ≤ b := by
        rcases hat with hat | hat
        · exact .inl hat
        · exact .inr ⟨_, hat, Nat.le_refl _⟩
      have hne : ∀ k, some k ≠ v.ownBlock → k < W.heap.size → some k ≠ v1.ownBlock := by
        intro k hk hlt
        rcases hat' with hat | ⟨b, hb, hle⟩
        · rw [hat]; exact hk
        · rw [hb]
          intro he
          injection he with he
          omega
      have step : ∀ {q : α} {c : List Value} {o : Nat → Prop}, d.M W base o q c → (∀ k, o k → ok k ∧ some k ≠ v.ownBlock) → d.M w1 base (fun k => ok k ∧ some k ≠ v1.ownBlock) q c := by
        intro q c o hq ho
        have h1 := d.M_move (w1 := w1) (fun k hk => hg.block k hk.2.2.1 (ho k hk.1).2) (d.M_bound hq)
        exact d.M_mono (fun k hk => ⟨(ho k hk.1).1, hne k (ho k hk.1).2 hk.2.2.1⟩) h1
      refine ⟨v1, w1, hrun, ⟨fun k hk => ?_, inner ++ news, by rw [List.length_append, hm]; exact h2, reps_append (hr.imp_ (fun _ _ hq => step hq (fun _ hk => hk))) (hnM.imp_ (fun _ _ hq => step hq hokp))⟩, hg, hat'⟩
      rcases hat' with hat | ⟨b, hb, hle⟩
      · exact hok k (hat ▸ hk)
      · rw [hb] at hk
        injection hk with hk
        exact hfresh k (by omega)
  obtain ⟨v1, w1, hr1, h1, hg, hat⟩ := hrun
  rw [if_pos hw]
  unfold Oper.wp execOp
  simp only [ho, resolve, invoke, builtin, Sem.run_bind, Sem.run_pure, Result.andThen_ok, List.map_toArray, List.map_cons, List.map_nil, hs, hx, hr1]
  exact h v1 w1 h1 (HB.grown hg hbase (own_base hown)) hg hat
end Kd
end
inductive Vals (P : Program) (tmps : Array Value) (w : World) : List ResultVar → List Value → Prop where
  | nil : Vals P tmps w [] []
  | tmp {u : Tmp} {rs : List ResultVar} {vs : List Value} (h : Vals P tmps w rs vs) : Vals P tmps w (.tmp u :: rs) (tmps.getD u undef :: vs)
  | cell {p : Tmp} {ty : TypeId} {rs : List ResultVar} {vs : List Value} (g : Nat) (t : TypeId) (cs : Array Value) (fr : Nat × Nat) (d : TypeDesc)
      (hp : tmps.getD p undef = .pointer (some ⟨g, 0, none⟩)) (hg : w.heap[g]? = some (.cells cs t fr))
      (hu : P.underlying ty = some d) (hd : (match d with | .struct _ | .array _ _ => true | _ => false) = true) (hi : (P.info? ty).map (·.size) = some cs.size)
      (h : Vals P tmps w rs vs) : Vals P tmps w (.cell p ty :: rs) (.agg cs :: vs)
section
variable {P : Program} {tmps : Array Value} {w : World}
end
namespace Kd
section
variable {P : Program} {α : Type}
end
section
variable {P : Program} {ops : Array Oper} {rest : List Oper} {o : Oper} {a : Act} {Q : Exit → Act → World → Prop} {Kc : Act → World → Prop} {α : Type}
end
end Kd
end Go.Proofs.YtocdlibnmlcokaaW.PrintWords
namespace Go.Proofs.YtocdlibnmlcokaaW.PrintLast
section
variable {P : Program} {ops : Array Oper} {Q : Exit → Act → World → Prop} {md : Region.Mode} {S : World → Prop} {ds : List Nat}
def Region.reachB (md : Region.Mode) (ops : Array Oper) (i : Nat) : Nat → Nat → Bool
  | 0, _ => false
  | fuel + 1, d => match ops[d]? with
    | some o => o.after.any fun e => Region.binds md e && (e.on == i || Region.reachB md ops i fuel e.on)
    | none => false
def Region.closedB (md : Region.Mode) (ops : Array Oper) (listed : Array Bool) : Bool :=
  (List.range ops.size).all fun j => !listed.getD j false || match ops[j]? with
    | some o => o.after.all fun e => !Region.binds md e || listed.getD e.on false
    | none => true
def Region.lastB (md : Region.Mode) (ops : Array Oper) (listed : Array Bool) (ds : List Nat) (i : Nat) : Bool :=
  ds.all fun d => listed.getD d true || Region.reachB md ops i ops.size d
def ListedClosed (md : Region.Mode) (ops : Array Oper) (listed : Array Bool) : Prop :=
  ∀ j oj, ops[j]? = some oj → listed.getD j false = true → ∀ e ∈ oj.after, Region.binds md e = true → listed.getD e.on false = true
theorem Region.closedB_spec {listed : Array Bool} (h : Region.closedB md ops listed = true) : ListedClosed md ops listed := by
  intro j oj hj hl e he hb
  have hlt : j < ops.size := (Array.getElem?_eq_some_iff.1 hj).1
  have h1 := List.all_eq_true.1 h j (List.mem_range.2 hlt)
  simp only [hl, hj, Bool.not_true, Bool.false_or] at h1
  have h2 := Array.all_eq_true_iff_forall_mem.1 h1 e he
  simpa [hb] using h2
theorem ListedClosed.set {listed : Array Bool} {i : Nat} (h : ListedClosed md ops listed) (hi : i ∈ Region.ready md ops listed) : ListedClosed md ops (listed.setIfInBounds i true) := by
  obtain ⟨_, oi, hoi, hall⟩ := mem_ready.1 hi
  intro j oj hj hl e he hb
  by_cases hij : i = j
  · subst hij
    have : oj = oi := Option.some.inj (hj.symm.trans hoi)
    subst this
    exact getD_set_true (hall e he hb)
  · rw [getD_set_ne false hij] at hl
    exact getD_set_true (h j oj hj hl e he hb)
theorem Region.reach_listed {listed : Array Bool} {i : Nat} (hc : ListedClosed md ops listed) : ∀ (fuel d : Nat), Region.reachB md ops i fuel d = true → listed.getD d false = true → listed.getD i false = true
  | 0, _, h, _ => by simp [Region.reachB] at h
  | fuel + 1, d, h, hl => by
    unfold Region.reachB at h
    cases ho : ops[d]? with
    | none => rw [ho] at h; simp at h
    | some o =>
      rw [ho] at h
      obtain ⟨e, he, h1⟩ := Array.any_eq_true'.1 h
      simp only [Bool.and_eq_true, Bool.or_eq_true, beq_iff_eq] at h1
      have hle := hc d o ho hl e he h1.1
      rcases h1.2 with h2 | h2
      · rw [← h2]; exact hle
      · exact Region.reach_listed hc fuel e.on h2 hle
theorem Region.reach_not_ready {listed : Array Bool} {i d fuel : Nat} (hc : ListedClosed md ops listed) (hr : Region.reachB md ops i fuel d = true) (hun : listed.getD i true = false) : d ∉ Region.ready md ops listed := by
  intro hd
  obtain ⟨_, o, ho, hall⟩ := mem_ready.1 hd
  have hi : listed.getD i false = true := by
    cases fuel with
    | zero => simp [Region.reachB] at hr
    | succ n =>
      unfold Region.reachB at hr
      rw [ho] at hr
      obtain ⟨e, he, h1⟩ := Array.any_eq_true'.1 hr
      simp only [Bool.and_eq_true, Bool.or_eq_true, beq_iff_eq] at h1
      have hle := hall e he h1.1
      rcases h1.2 with h2 | h2
      · rw [← h2]; exact hle
      · exact Region.reach_listed hc n e.on h2 hle
  rcases Nat.lt_or_ge i listed.size with h' | h'
  · simp [h'] at hun hi
    rw [hun] at hi
    cases hi
  · simp [Array.getElem?_eq_none h'] at hun
def wpAnyLast (P : Program) (md : Region.Mode) (ops : Array Oper) (Q : Exit → Act → World → Prop) (S : World → Prop) (ds : List Nat) : Nat → Array Bool → Act → World → Prop
  | 0, listed, a, w => Region.ready md ops listed = [] ∧ Q .normal a w
  | fuel + 1, listed, a, w =>
    (Region.ready md ops listed = [] → Q .normal a w) ∧
    ∀ i ∈ Region.ready md ops listed, wpOp P ops Q i (fun a' w' => (i ∉ ds → S w → S w') ∧ wpAnyLast P md ops Q S ds fuel (listed.setIfInBounds i true) a' w') a w
theorem wpAny_of_last : ∀ (fuel : Nat) (listed : Array Bool) (a : Act) (w : World), wpAnyLast P md ops Q S ds fuel listed a w → wpAny P md ops Q fuel listed a w
  | 0, _, _, _, h => h
  | fuel + 1, _, _, _, h => ⟨h.1, fun i hi => wpOp_mono (fun a' w' h' => wpAny_of_last fuel _ a' w' h'.2) (h.2 i hi)⟩
theorem wpAnyLast_first {i : Nat} {oi : Oper} {v : Value} (hi : ops[i]? = some oi) (hsel : ∀ (j : Nat) (o : Oper) cs b, ops[j]? = some o → o.op ≠ .select cs b)
    (hQ : ∀ c a w, Q (.panic c) (a.put oi.dst v) w → Q (.panic c) a w) (n : Nat) :
    ∀ (fuel : Nat) (listed : Array Bool) (a : Act) (w : World),
      (∀ j oj, ops[j]? = some oj → j ≠ i → listed.getD j true = false → (∀ e ∈ oj.after, Region.binds md e = true → e.on ≠ i) → oi.apart ops oj = true) →
      ListedClosed md ops listed → (∀ d ∈ ds, listed.getD d true = false → Region.reachB md ops i n d = true) →
      i ∈ Region.ready md ops listed → YieldsIf P ops S oi v a → S w →
      wpAnyLast P md ops Q S ds fuel (listed.setIfInBounds i true) (a.put oi.dst v) w → wpAnyLast P md ops Q S ds (fuel + 1) listed a w := by
  intro fuel
  induction fuel with
  | zero =>
    intro listed a w _ _ _ hr hy hS H
    refine ⟨fun h => (by rw [h] at hr; cases hr), fun j hj => ?_⟩
    by_cases hji : j = i
    · subst hji; exact hy.wpOp hi hS ⟨fun _ h => h, H⟩
    · have := ready_mono hj hji
      rw [H.1] at this
      cases this
  | succ fuel ih =>
    intro listed a w hfree hc hd hr hy hS H
    refine ⟨fun h => (by rw [h] at hr; cases hr), fun j hj => ?_⟩
    by_cases hji : j = i
    · subst hji; exact hy.wpOp hi hS ⟨fun _ h => h, H⟩
    · have h1 := H.2 j (ready_mono hj hji)
      obtain ⟨hjun, oj, hoj, hall⟩ := mem_ready.1 hj
      have hiun := (mem_ready.1 hr).1
      have hnot : ∀ e ∈ oj.after, Region.binds md e = true → e.on ≠ i := fun e he hb heq => by
        have h1 := hall e he hb
        rw [heq] at h1
        rcases Nat.lt_or_ge i listed.size with h' | h'
        · simp [h'] at hiun h1; rw [hiun] at h1; cases h1
        · simp [Array.getElem?_eq_none h'] at h1
      have hjd : j ∉ ds := fun hm => Region.reach_not_ready hc (hd j hm hjun) hiun hj
      have h2 := wpOp_putIf hoj (hfree j oj hoj hji hjun hnot) (fun cs b => hsel i oi cs b hi) (fun cs b => hsel j oj cs b hoj) hQ hy h1
      have hfree' : ∀ k ok, ops[k]? = some ok → k ≠ i → (listed.setIfInBounds j true).getD k true = false →
          (∀ e ∈ ok.after, Region.binds md e = true → e.on ≠ i) → oi.apart ops ok = true := fun k ok hk hki hun hno => by
        refine hfree k ok hk hki ?_ hno
        by_cases hjk : j = k
        · subst hjk; exact hjun
        · rw [getD_set_ne true hjk] at hun; exact hun
      have hd' : ∀ d ∈ ds, (listed.setIfInBounds j true).getD d true = false → Region.reachB md ops i n d = true := fun d hm hun => by
        refine hd d hm ?_
        by_cases hjk : j = d
        · subst hjk; exact hjun
        · rw [getD_set_ne true hjk] at hun; exact hun
      refine wpOp_mono (fun a' w' h3 => ⟨h3.2.1, ih (listed.setIfInBounds j true) a' w' hfree' (hc.set hj) hd' (ready_mono hr (Ne.symm hji)) h3.1 (h3.2.1 hjd hS) ?_⟩) h2
      rw [Array.setIfInBounds_comm _ _ hji]
      exact h3.2.2
theorem wpAnyLast_any {i : Nat} {oi : Oper} {v : Value} (hi : ops[i]? = some oi) (hsel : ∀ (j : Nat) (o : Oper) cs b, ops[j]? = some o → o.op ≠ .select cs b)
    (hQ : ∀ c a w, Q (.panic c) (a.put oi.dst v) w → Q (.panic c) a w) :
    ∀ (fuel : Nat) (listed : Array Bool) (a : Act) (w : World),
      (∀ j oj, ops[j]? = some oj → j ≠ i → listed.getD j true = false → (∀ e ∈ oj.after, Region.binds md e = true → e.on ≠ i) → oi.apart ops oj = true) →
      i ∈ Region.ready md ops listed → Yields P ops oi v a →
      wpAnyLast P md ops Q S ds fuel (listed.setIfInBounds i true) (a.put oi.dst v) w → wpAnyLast P md ops Q S ds (fuel + 1) listed a w := by
  intro fuel
  induction fuel with
  | zero =>
    intro listed a w _ hr hy H
    refine ⟨fun h => (by rw [h] at hr; cases hr), fun j hj => ?_⟩
    by_cases hji : j = i
    · subst hji; exact (hy.yieldsIf (S := fun _ => True)).wpOp hi trivial ⟨fun _ h => h, H⟩
    · have := ready_mono hj hji
      rw [H.1] at this
      cases this
  | succ fuel ih =>
    intro listed a w hfree hr hy H
    refine ⟨fun h => (by rw [h] at hr; cases hr), fun j hj => ?_⟩
    by_cases hji : j = i
    · subst hji; exact (hy.yieldsIf (S := fun _ => True)).wpOp hi trivial ⟨fun _ h => h, H⟩
    · have h1 := H.2 j (ready_mono hj hji)
      obtain ⟨hjun, oj, hoj, hall⟩ := mem_ready.1 hj
      have hiun := (mem_ready.1 hr).1
      have hnot : ∀ e ∈ oj.after, Region.binds md e = true → e.on ≠ i := fun e he hb heq => by
        have h1 := hall e he hb
        rw [heq] at h1
        rcases Nat.lt_or_ge i listed.size with h' | h'
        · simp [h'] at hiun h1; rw [hiun] at h1; cases h1
        · simp [Array.getElem?_eq_none h'] at h1
      have h2 := wpOp_put hoj (hfree j oj hoj hji hjun hnot) (fun cs b => hsel i oi cs b hi) (fun cs b => hsel j oj cs b hoj) hQ hy h1
      have hfree' : ∀ k ok, ops[k]? = some ok → k ≠ i → (listed.setIfInBounds j true).getD k true = false →
          (∀ e ∈ ok.after, Region.binds md e = true → e.on ≠ i) → oi.apart ops ok = true := fun k ok hk hki hun hno => by
        refine hfree k ok hk hki ?_ hno
        by_cases hjk : j = k
        · subst hjk; exact hjun
        · rw [getD_set_ne true hjk] at hun; exact hun
      refine wpOp_mono (fun a' w' h3 => ⟨h3.2.1, ih (listed.setIfInBounds j true) a' w' hfree' (ready_mono hr (Ne.symm hji)) h3.1 ?_⟩) h2
      rw [Array.setIfInBounds_comm _ _ hji]
      exact h3.2.2
theorem wpAnyLast_take {i : Nat} {oi : Oper} {v : Value} {fuel : Nat} {listed : Array Bool} {a : Act} {w : World} (hi : ops[i]? = some oi)
    (hs : Region.noSelect ops = true) (hf : Region.free md ops listed i = true) (hr : (Region.ready md ops listed).contains i = true)
    (hc : Region.closedB md ops listed = true) (hl : Region.lastB md ops listed ds i = true)
    (hQ : ∀ c a w, Q (.panic c) (a.put oi.dst v) w → Q (.panic c) a w) (hy : YieldsIf P ops S oi v a) (hS : S w)
    (h : wpAnyLast P md ops Q S ds fuel (listed.setIfInBounds i true) (a.put oi.dst v) w) : wpAnyLast P md ops Q S ds (fuel + 1) listed a w :=
  wpAnyLast_first hi (Region.noSelect_spec hs) hQ ops.size fuel listed a w (Region.free_spec hi hf) (Region.closedB_spec hc)
    (fun d hm hun => by have := List.all_eq_true.1 hl d hm; rw [hun] at this; simpa using this) (by simpa using hr) hy hS h
theorem wpAnyLast_all {rs : List Nat} {fuel : Nat} {listed : Array Bool} {a : Act} {w : World} (hr : Region.ready md ops listed = rs) (hne : rs ≠ [])
    (h : ∀ i ∈ rs, wpOp P ops Q i (fun a' w' => (i ∉ ds → S w → S w') ∧ wpAnyLast P md ops Q S ds fuel (listed.setIfInBounds i true) a' w') a w) : wpAnyLast P md ops Q S ds (fuel + 1) listed a w :=
  ⟨fun h0 => absurd (hr ▸ h0) hne, hr ▸ h⟩
theorem wpAnyLast_done {listed : Array Bool} {a : Act} {w : World} (hr : Region.ready md ops listed = []) (h : Q .normal a w) :
    ∀ fuel, wpAnyLast P md ops Q S ds fuel listed a w
  | 0 => ⟨hr, h⟩
  | _ + 1 => ⟨fun _ => h, by rw [hr]; simp⟩
theorem wp_region_last {id : Nat} {a : Act} {w : World} (hm : P.follows .mixedOrders = true)
    (h : wpAnyLast P .any ops Q S ds ops.size (Array.replicate ops.size false) a { w with drawn := w.drawn + 1 }) : (Code.region id ops true).wp P Q a w :=
  wp_region_any hm (wpAny_of_last _ _ _ _ h)
end
section
variable {P : Program} {ops : Array Oper} {Q : Exit → Act → World → Prop} {md : Region.Mode} {S : World → Prop} {ds : List Nat}
def AllReadyL (P : Program) (md : Region.Mode) (ops : Array Oper) (Q : Exit → Act → World → Prop) (S : World → Prop) (ds : List Nat) (fuel : Nat) (listed : Array Bool) (a : Act) (w : World) (rs : List Nat) : Prop :=
  ∀ i ∈ rs, wpOp P ops Q i (fun a' w' => (i ∉ ds → S w → S w') ∧ wpAnyLast P md ops Q S ds fuel (listed.setIfInBounds i true) a' w') a w
theorem AllReadyL.nil {fuel : Nat} {listed : Array Bool} {a : Act} {w : World} : AllReadyL P md ops Q S ds fuel listed a w [] := fun _ h => by cases h
theorem AllReadyL.cons {fuel : Nat} {listed : Array Bool} {a : Act} {w : World} {i : Nat} {o : Oper} {rs : List Nat} (ho : ops[i]? = some o) (hd : i ∉ ds)
    (h : ∀ K' : Act → World → Prop, Shut (∀ a w, S w → (S w → wpAnyLast P md ops Q S ds fuel (listed.setIfInBounds i true) a w) → K' a w) → if Region.wanted o (yielded ops a.tmps) = true then Oper.wp P o a w K' Q else K' (a.put o.dst undef) w)
    (hs : AllReadyL P md ops Q S ds fuel listed a w rs) : AllReadyL P md ops Q S ds fuel listed a w (i :: rs) := fun j hj => by
  rcases List.mem_cons.1 hj with rfl | hj
  · exact wpOp_step ho (fun K' hK => h K' (fun a w hS hW => hK a w ⟨fun _ _ => hS, hW hS⟩))
  · exact hs j hj
theorem AllReadyL.cons_last {fuel : Nat} {listed : Array Bool} {a : Act} {w : World} {i : Nat} {o : Oper} {rs : List Nat} (ho : ops[i]? = some o) (hd : i ∈ ds)
    (h : ∀ K' : Act → World → Prop, Shut (∀ a w, wpAnyLast P md ops Q S ds fuel (listed.setIfInBounds i true) a w → K' a w) → if Region.wanted o (yielded ops a.tmps) = true then Oper.wp P o a w K' Q else K' (a.put o.dst undef) w)
    (hs : AllReadyL P md ops Q S ds fuel listed a w rs) : AllReadyL P md ops Q S ds fuel listed a w (i :: rs) := fun j hj => by
  rcases List.mem_cons.1 hj with rfl | hj
  · exact wpOp_step ho (fun K' hK => h K' (fun a w hW => hK a w ⟨fun hn => absurd hd hn, hW⟩))
  · exact hs j hj
theorem wpAnyLast_ready {rs : List Nat} {fuel : Nat} {listed : Array Bool} {a : Act} {w : World} (hr : Region.ready md ops listed = rs) (hne : rs ≠ [])
    (h : AllReadyL P md ops Q S ds fuel listed a w rs) : wpAnyLast P md ops Q S ds (fuel + 1) listed a w := wpAnyLast_all hr hne h
theorem start_ {id n : Nat} {a : Act} {w : World} (l : Array Bool) (hm : P.follows .mixedOrders = true) (hn : ops.size = n) (hl : Array.replicate n false = l) (hS : S w.drew)
    (h : S w.drew → wpAnyLast P .any ops Q S ds n l a w.drew) : (Code.region id ops true).wp P Q a w := by
  subst hn
  subst hl
  exact wp_region_last hm (h hS)
def takeB (md : Region.Mode) (ops : Array Oper) (ds : List Nat) (l l' : Array Bool) (i : Nat) : Bool :=
  Region.noSelect ops && Region.free md ops l i && (Region.ready md ops l).contains i && Region.closedB md ops l && Region.lastB md ops l ds i && (l.setIfInBounds i true == l')
theorem take_ {i : Nat} {N : Option Tmp} {oi : Oper} {v : Value} {fuel : Nat} {l : Array Bool} {a : Act} {w : World} (l' : Array Bool) (hi : ops[i]? = some oi) (hN : oi.dst = N) (hc : takeB md ops ds l l' i = true)
    (hQ : ∀ c a w, Q (.panic c) (a.put oi.dst v) w → Q (.panic c) a w) (hy : YieldsIf P ops S oi v a) (hS : S w) {a' : Act} (ha : a.put N v = a')
    (h : wpAnyLast P md ops Q S ds fuel l' a' w) : wpAnyLast P md ops Q S ds (fuel + 1) l a w := by
  subst ha
  subst hN
  simp only [takeB, Bool.and_eq_true, beq_iff_eq] at hc
  obtain ⟨⟨⟨⟨⟨h1, h2⟩, h3⟩, h4⟩, h5⟩, h6⟩ := hc
  subst h6
  exact wpAnyLast_take hi h1 h2 h3 h4 h5 hQ hy hS h
def anyB (md : Region.Mode) (ops : Array Oper) (l l' : Array Bool) (i : Nat) : Bool :=
  Region.noSelect ops && Region.free md ops l i && (Region.ready md ops l).contains i && (l.setIfInBounds i true == l')
theorem pure_ {i : Nat} {N : Option Tmp} {oi : Oper} {v : Value} {fuel : Nat} {l : Array Bool} {a : Act} {w : World} (l' : Array Bool) (hi : ops[i]? = some oi) (hN : oi.dst = N) (hc : anyB md ops l l' i = true)
    (hQ : ∀ c a w, Q (.panic c) (a.put oi.dst v) w → Q (.panic c) a w) (hy : Yields P ops oi v a) {a' : Act} (ha : a.put N v = a')
    (h : wpAnyLast P md ops Q S ds fuel l' a' w) : wpAnyLast P md ops Q S ds (fuel + 1) l a w := by
  subst ha
  subst hN
  simp only [anyB, Bool.and_eq_true, beq_iff_eq] at hc
  obtain ⟨⟨⟨h1, h2⟩, h3⟩, h6⟩ := hc
  subst h6
  exact wpAnyLast_any hi (Region.noSelect_spec h1) hQ fuel l a w (Region.free_spec hi h2) (by simpa using h3) hy h
def readyB (md : Region.Mode) (ops : Array Oper) (l l' : Array Bool) (i : Nat) : Bool := (Region.ready md ops l == [i]) && (l.setIfInBounds i true == l')
theorem one_ {i : Nat} {N : Option Tmp} {oi : Oper} {fuel : Nat} {l : Array Bool} {a : Act} {w : World} (l' : Array Bool) (hi : ops[i]? = some oi) (hN : oi.dst = N) (hc : readyB md ops l l' i = true) (hd : i ∉ ds)
    (h : ∀ K : Act → World → Prop, Shut (∀ a' w', S w' → (S w' → wpAnyLast P md ops Q S ds fuel l' a' w') → K a' w') → if Region.wanted oi (yielded ops a.tmps) = true then Oper.wp P oi a w K Q else K (a.put N undef) w) :
    wpAnyLast P md ops Q S ds (fuel + 1) l a w := by
  subst hN
  simp only [readyB, Bool.and_eq_true, beq_iff_eq] at hc
  obtain ⟨h1, h2⟩ := hc
  subst h2
  exact wpAnyLast_ready h1 (by simp) (AllReadyL.cons hi hd (fun K hK => h K hK) AllReadyL.nil)
theorem last_ {i : Nat} {N : Option Tmp} {oi : Oper} {fuel : Nat} {l : Array Bool} {a : Act} {w : World} (l' : Array Bool) (hi : ops[i]? = some oi) (hN : oi.dst = N) (hc : readyB md ops l l' i = true) (hd : i ∈ ds)
    (h : ∀ K : Act → World → Prop, Shut (∀ a' w', wpAnyLast P md ops Q S ds fuel l' a' w' → K a' w') → if Region.wanted oi (yielded ops a.tmps) = true then Oper.wp P oi a w K Q else K (a.put N undef) w) :
    wpAnyLast P md ops Q S ds (fuel + 1) l a w := by
  subst hN
  simp only [readyB, Bool.and_eq_true, beq_iff_eq] at hc
  obtain ⟨h1, h2⟩ := hc
  subst h2
  exact wpAnyLast_ready h1 (by simp) (AllReadyL.cons_last hi hd (fun K hK => h K hK) AllReadyL.nil)
theorem done_ {l : Array Bool} {a : Act} {w : World} {n : Nat} (hr : (Region.ready md ops l == []) = true) (h : Q .normal a w) : wpAnyLast P md ops Q S ds n l a w := wpAnyLast_done (by simpa using hr) h n
theorem two_ {i j : Nat} {Ni Nj : Option Tmp} {oi oj : Oper} {fuel : Nat} {l : Array Bool} {a : Act} {w : World} (li lj : Array Bool) (hi : ops[i]? = some oi) (hj : ops[j]? = some oj) (hNi : oi.dst = Ni) (hNj : oj.dst = Nj)
    (hc : (Region.ready md ops l == [i, j] && l.setIfInBounds i true == li && l.setIfInBounds j true == lj) = true) (hdi : i ∉ ds) (hdj : j ∉ ds)
    (h1 : ∀ K : Act → World → Prop, Shut (∀ a' w', S w' → (S w' → wpAnyLast P md ops Q S ds fuel li a' w') → K a' w') → if Region.wanted oi (yielded ops a.tmps) = true then Oper.wp P oi a w K Q else K (a.put Ni undef) w)
    (h2 : ∀ K : Act → World → Prop, Shut (∀ a' w', S w' → (S w' → wpAnyLast P md ops Q S ds fuel lj a' w') → K a' w') → if Region.wanted oj (yielded ops a.tmps) = true then Oper.wp P oj a w K Q else K (a.put Nj undef) w) :
    wpAnyLast P md ops Q S ds (fuel + 1) l a w := by
  subst hNi
  subst hNj
  simp only [Bool.and_eq_true, beq_iff_eq] at hc
  obtain ⟨⟨h3, h4⟩, h5⟩ := hc
  subst h4
  subst h5
  exact wpAnyLast_ready h3 (by simp) (AllReadyL.cons hi hdi (fun K hK => h1 K hK) (AllReadyL.cons hj hdj (fun K hK => h2 K hK) AllReadyL.nil))
theorem three_ {i j k : Nat} {Ni Nj Nk : Option Tmp} {oi oj ok : Oper} {fuel : Nat} {l : Array Bool} {a : Act} {w : World} (li lj lk : Array Bool) (hi : ops[i]? = some oi) (hj : ops[j]? = some oj) (hk : ops[k]? = some ok) (hNi : oi.dst = Ni) (hNj : oj.dst = Nj) (hNk : ok.dst = Nk)
    (hc : (Region.ready md ops l == [i, j, k] && l.setIfInBounds i true == li && l.setIfInBounds j true == lj && l.setIfInBounds k true == lk) = true) (hdi : i ∉ ds) (hdj : j ∉ ds) (hdk : k ∉ ds)
    (h1 : ∀ K : Act → World → Prop, Shut (∀ a' w', S w' → (S w' → wpAnyLast P md ops Q S ds fuel li a' w') → K a' w') → if Region.wanted oi (yielded ops a.tmps) = true then Oper.wp P oi a w K Q else K (a.put Ni undef) w)
    (h2 : ∀ K : Act → World → Prop, Shut (∀ a' w', S w' → (S w' → wpAnyLast P md ops Q S ds fuel lj a' w') → K a' w') → if Region.wanted oj (yielded ops a.tmps) = true then Oper.wp P oj a w K Q else K (a.put Nj undef) w)
    (h3 : ∀ K : Act → World → Prop, Shut (∀ a' w', S w' → (S w' → wpAnyLast P md ops Q S ds fuel lk a' w') → K a' w') → if Region.wanted ok (yielded ops a.tmps) = true then Oper.wp P ok a w K Q else K (a.put Nk undef) w) :
    wpAnyLast P md ops Q S ds (fuel + 1) l a w := by
  subst hNi
  subst hNj
  subst hNk
  simp only [Bool.and_eq_true, beq_iff_eq] at hc
  obtain ⟨⟨⟨h4, h5⟩, h6⟩, h7⟩ := hc
  subst h5
  subst h6
  subst h7
  exact wpAnyLast_ready h4 (by simp) (AllReadyL.cons hi hdi (fun K hK => h1 K hK) (AllReadyL.cons hj hdj (fun K hK => h2 K hK) (AllReadyL.cons hk hdk (fun K hK => h3 K hK) AllReadyL.nil)))
def putAll : Act → List (Tmp × Value) → Act
  | a, [] => a
  | a, (n, v) :: r => putAll (a.put (some n) v) r
theorem join_ {σ : Type} {fuel : Nat} {l : Array Bool} {a : Act} {w : World} (fuel' : Nat) (l' : Array Bool) (ns : σ → List (Tmp × Value)) (F : σ → World → Prop)
    (hcont : ∀ s w', F s w' → wpAnyLast P md ops Q S ds fuel' l' (putAll a (ns s)) w')
    (h : (∀ s w', F s w' → wpAnyLast P md ops Q S ds fuel' l' (putAll a (ns s)) w') → wpAnyLast P md ops Q S ds fuel l a w) : wpAnyLast P md ops Q S ds fuel l a w := h hcont
theorem norm_ {fuel : Nat} {l : Array Bool} {a a' : Act} {w : World} (ha : a = a') (h : wpAnyLast P md ops Q S ds fuel l a' w) : wpAnyLast P md ops Q S ds fuel l a w := by
  subst ha
  exact h
theorem call_ {oi : Oper} {N : Option Tmp} {a : Act} {w : World} {K : Act → World → Prop} (f : FuncId) (args : Array Value) (hw : Region.wanted oi (yielded ops a.tmps) = true) (hN : oi.dst = N) (hrun : (execOp a.eval oi).run P w = .ok (.enter f args) w)
    (h : Calls P f args w fun e w' => ∃ v, e = .returned v ∧ K (a.put N v) w') : if Region.wanted oi (yielded ops a.tmps) = true then Oper.wp P oi a w K Q else K (a.put N undef) w := by
  rw [if_pos hw]
  subst hN
  unfold Oper.wp
  rw [hrun, Oper.upon_enter]
  refine h.mono fun e w'' hh => ?_
  obtain ⟨v, rfl, hk⟩ := hh
  exact hk
theorem enters_ {f : FuncId} {fn : Func} (hf : P.funcs[f]? = some fn) (hname : (fn.name == "runtime.NumGoroutine") = false) (hb : fn.body.isSome = true) (args : Array Value) (w : World) : (callFunc f args).run P w = .ok (.enter f args) w := by
  have h1 : fn.name ≠ "runtime.NumGoroutine" := by simpa using hname
  obtain ⟨c, hc⟩ := Option.isSome_iff_exists.1 hb
  simp [callFunc, hf, h1, hc]
theorem goes_ {oi : Oper} {N : Option Tmp} {a : Act} {w : World} {K : Act → World → Prop} {f : FuncId} {fn : Func} {as_ : Array Operand} {ts : Array TypeId} (hf : P.funcs[f]? = some fn) (hname : (fn.name == "runtime.NumGoroutine") = false) (hb : fn.body.isSome = true) (args : Array Value)
    (hw : Region.wanted oi (yielded ops a.tmps) = true) (hN : oi.dst = N) (hop : oi.op = .call { callee := .value (.func f), args := as_, argTypes := ts }) (hargs : as_.map a.eval = args)
    (h : Calls P f args w fun e w' => ∃ v, e = .returned v ∧ K (a.put N v) w') : if Region.wanted oi (yielded ops a.tmps) = true then Oper.wp P oi a w K Q else K (a.put N undef) w := by
  refine call_ f args hw hN ?_ h
  have he := enters_ hf hname hb args w
  unfold execOp
  simp [hop, resolve, Deferred.ofValue, invoke, Act.eval, hargs, he]
theorem value_ {oi : Oper} {N : Option Tmp} {a : Act} {w w1 : World} {v : Value} {K : Act → World → Prop} (hw : Region.wanted oi (yielded ops a.tmps) = true) (hN : oi.dst = N) (hrun : (execOp a.eval oi).run P w = .ok (.value v) w1)
    (h : K (a.put N v) w1) : if Region.wanted oi (yielded ops a.tmps) = true then Oper.wp P oi a w K Q else K (a.put N undef) w := by
  rw [if_pos hw]
  subst hN
  unfold Oper.wp
  rw [hrun]
  exact h
theorem skip_ {oi : Oper} {a : Act} {w w1 : World} {K : Act → World → Prop} (hw : Region.wanted oi (yielded ops a.tmps) = true) (hN : oi.dst = none) (hrun : (execOp a.eval oi).run P w = .ok .skip w1)
    (h : K a w1) : if Region.wanted oi (yielded ops a.tmps) = true then Oper.wp P oi a w K Q else K (a.put none undef) w := by
  rw [if_pos hw]
  unfold Oper.wp
  rw [hrun]
  show K (a.put oi.dst undef) w1
  rw [hN]
  exact h
theorem i64_w (n : Int) : IntKind.i64.wrap n = Go.RowKit.wrap64 n := by unfold Go.RowKit.wrap64; exact IntKind.wrap_i64 n
theorem i32_w (n : Int) : IntKind.i32.wrap n = Go.RowKit.wrap32 n := by unfold Go.RowKit.wrap32; exact IntKind.wrap_i32 n
end
end Go.Proofs.YtocdlibnmlcokaaW.PrintLast
namespace Go.Proofs.YtocdlibnmlcokaaW.PrintLast
open Go.Proofs.YtocdlibnmlcokaaW.PrintWords (Aside0)
section
variable {md : Region.Mode} {ops : Array Oper} {T : Bool × List (List Nat × List Nat)} {l l' li lj lk : Array Bool} {ds : List Nat} {i j k : Nat}
theorem gd (l : Array Bool) (j : Nat) (b : Bool) : l.getD j b = l.toList.getD j b := by simp [Array.getD_eq_getD_getElem?, List.getD_eq_getElem?_getD]
end
end Go.Proofs.YtocdlibnmlcokaaW.PrintLast
namespace Go.Proofs.YtocdlibnmlcokaaW.PrintWords
open Go.RowKit
namespace Kd
section
variable {α : Type} {d : Kd α} {e base g o n cap : Nat} {ok okp : Nat → Prop} {w W : World} {v : Value} {xs : List α}
end
section
variable {α : Type} {enc : α → Value} {h1 : ∀ x, (enc x).oneCell' = true} {e base g o n cap : Nat} {ok : Nat → Prop} {W : World} {xs : List α}
end
end Kd
end Go.Proofs.YtocdlibnmlcokaaW.PrintWords
namespace Go.Proofs.YtocdlibnmlcokaaW.PrintWords
open Go.RowKit
namespace Kd
def tag {α : Type} (f : Nat → Nat) (d : Kd α) : Kd (α × Nat) where
  sz := d.sz
  E := d.E
  K := fun w x cs => d.K w x.1 cs
  M := fun w base ok x cs => d.M w base (fun k => ok k ∧ f k = x.2) x.1 cs
  K_len := fun h => d.K_len h
  K_one := fun h => d.K_one h
  K_below := fun hb h => d.K_below hb h
  K_of_M := fun h => d.K_of_M h
  M_mono := fun hok h => d.M_mono (fun k hk => ⟨hok k hk.1, hk.2⟩) h
  M_bound := fun h => d.M_mono (fun _ hk => ⟨⟨hk.1.1, hk.2⟩, hk.1.2⟩) (d.M_bound h)
  M_move := fun hm h => d.M_move (fun k hk => hm k hk.1) h
  M_lower := fun hb h => d.M_lower hb h
def raw (sz : Nat) : Kd (List Value) where
  sz := sz
  E := []
  K := fun _ x cs => cs = x ∧ cs.length = sz ∧ ∀ u ∈ cs, u.oneCell' = true
  M := fun _ _ _ x cs => cs = x ∧ cs.length = sz ∧ ∀ u ∈ cs, u.oneCell' = true
  K_len := fun h => h.2.1
  K_one := fun h => h.2.2
  K_below := fun _ h => h
  K_of_M := fun h => h
  M_mono := fun _ h => h
  M_bound := fun h => h
  M_move := fun _ h => h
  M_lower := fun _ h => h
def S {α : Type} (d : Kd α) (e : Nat) (w : World) (base : Nat) (ok : Nat → Prop) (v : Value) (xs : List α) : Prop := ∃ f, (tag f d).R e w base ok v xs.zipIdx
section
variable {α β : Type} {d : Kd α} {d' : Kd β} {e e' : Nat} {w w1 W : World} {base b : Nat} {ok ok' okv oku : Nat → Prop} {u v : Value} {xs : List α} {ys : List β}
end
section
variable {α β : Type} {d : Kd α} {d' : Kd β} {e e' g : Nat} {w w1 W : World} {base b : Nat} {ok ok' okv oku : Nat → Prop} {u v : Value} {xs : List α} {ys : List β}
end
section
variable {P : Program} {ops : Array Oper} {rest : List Oper} {o : Oper} {a : Act} {Q : Exit → Act → World → Prop} {Kc : Act → World → Prop} {α : Type}
end
def gap {α : Type} (f : Nat → Nat) (d : Kd α) (i : Nat) (c : List Value) : Kd (α × Nat) where
  sz := d.sz
  E := d.E
  K := fun w x cs => (x.2 = i → cs = c ∧ cs.length = d.sz ∧ ∀ u ∈ cs, u.oneCell' = true) ∧ (x.2 ≠ i → d.K w x.1 cs)
  M := fun w base ok x cs => (x.2 = i → cs = c ∧ cs.length = d.sz ∧ ∀ u ∈ cs, u.oneCell' = true) ∧ (x.2 ≠ i → d.M w base (fun k => ok k ∧ f k = x.2) x.1 cs)
  K_len := fun {w x cs} h => by
    by_cases hx : x.2 = i
    · exact (h.1 hx).2.1
    · exact d.K_len (h.2 hx)
  K_one := fun {w x cs} h => by
    by_cases hx : x.2 = i
    · exact (h.1 hx).2.2
    · exact d.K_one (h.2 hx)
  K_below := fun hb h => ⟨h.1, fun hx => d.K_below hb (h.2 hx)⟩
  K_of_M := fun h => ⟨h.1, fun hx => d.K_of_M (h.2 hx)⟩
  M_mono := fun hok h => ⟨h.1, fun hx => d.M_mono (fun k hk => ⟨hok k hk.1, hk.2⟩) (h.2 hx)⟩
  M_bound := fun h => ⟨h.1, fun hx => d.M_mono (fun _ hk => ⟨⟨hk.1.1, hk.2⟩, hk.1.2⟩) (d.M_bound (h.2 hx))⟩
  M_move := fun hm h => ⟨h.1, fun hx => d.M_move (fun k hk => hm k hk.1) (h.2 hx)⟩
  M_lower := fun hb h => ⟨h.1, fun hx => d.M_lower hb (h.2 hx)⟩
def H {α : Type} (d : Kd α) (e : Nat) (w : World) (base : Nat) (ok : Nat → Prop) (v : Value) (xs : List α) (i : Int) (oki : Nat → Prop) (c : List Value) : Prop :=
  (∀ k, oki k → ok k) ∧ ∃ f, (gap f d i.toNat c).R e w base (fun k => ok k ∧ ¬ oki k) v xs.zipIdx
section
variable {α β : Type} {d : Kd α} {e e' g n cap : Nat} {w w1 W : World} {base : Nat} {ok ok' oki okp : Nat → Prop} {u v : Value} {xs : List α} {i : Int} {c : List Value}
end
section
variable {P : Program} {ops : Array Oper} {rest : List Oper} {o : Oper} {a : Act} {Q : Exit → Act → World → Prop} {α : Type}
end
end Kd
end Go.Proofs.YtocdlibnmlcokaaW.PrintWords
namespace Go.Proofs.YtocdlibnmlcokaaW.PrintWords
open Go.RowKit
namespace Kd
section
variable {α : Type} {n : Nat} {d : Kd α} {hs : 0 < d.sz} {w : World} {base : Nat} {ok : Nat → Prop} {xs : List α} {cs : List Value}
end
section
variable {α : Type} {n : Nat} {enc : α → Value} {h1 : ∀ x, (enc x).oneCell' = true} {hs : 0 < (scalar enc h1).sz} {w : World} {base : Nat} {ok : Nat → Prop} {xs : List α} {cs : List Value}
end
end Kd
end Go.Proofs.YtocdlibnmlcokaaW.PrintWords
namespace Go.Proofs.YtocdlibnmlcokaaW.PrintWords
open Go.RowKit
section
variable {P : Program}
theorem run_append_zeros (w : World) (base : Nat) (t ti ty e : TypeId) (i : TypeInfo) (z : Value) (size bytes : Nat) (ht : P.underlying t = some (.slice e)) {k : IntKind} (hti : P.underlying ti = some (.int k)) (hi : P.info? e = some i) (hz : i.zero = some z)
    (hsize : i.size = size) (hby : i.bytes = bytes) (hzs : z.cells.size = size) (hsz : 0 < size) (hb0 : 0 < bytes)
    (v : Value) (n : Nat) (xs : List Value) (hown : w.ownsRow base e size v n xs) (kx : IntKind) (m : Nat) (h1 : ∀ u ∈ (Builtin.zeroCells z.cells m).toList, u.oneCell' = true)
    (hbytes : (n + m) * bytes ≤ 140737488355328) (hbase : base ≤ w.heap.size) :
    ∃ v' w', (Builtin.append_ #[t, ti] ty #[v, .int kx m]).run P w = .ok v' w' ∧ w'.ownsRow base e size v' (n + m) (xs ++ (Builtin.zeroCells z.cells m).toList) ∧ w.grownBy w' v.ownBlock ∧
      (v'.ownBlock = v.ownBlock ∨ v'.ownBlock = some w.heap.size) := by
  subst hsize
  subst hby
  have hle : n + m ≤ 140737488355328 := Nat.le_trans (Nat.le_mul_of_pos_right _ hb0) hbytes
  have h63 : n + m ≤ maxLen := by simp only [maxLen]; omega
  have hw : IntKind.i64.wrap (m : Int) = m := by rw [IntKind.wrap_i64]; omega
  have hw0 : IntKind.i64.wrap 0 = 0 := by rw [IntKind.wrap_i64]; rfl
  have hneg : ¬ ((m : Int) < 0) := by omega
  have hmb : m * i.bytes ≤ 140737488355328 := Nat.le_trans (Nat.mul_le_mul_right _ (Nat.le_add_left m n)) hbytes
  have hbig : ¬ (281474976710656 < (m : Int) * (i.bytes : Int)) := by
    rw [← Int.natCast_mul]
    omega
  have hsn : i.size ≠ 0 := by omega
  obtain ⟨news, hnews⟩ : ∃ news, news = (Builtin.zeroCells z.cells m).toList := ⟨_, rfl⟩
  rw [← hnews] at h1 ⊢
  have hl : news.length = m * i.size := by rw [hnews, Array.length_toList, size_zeroCells, hzs]
  have hna : Builtin.zeroCells z.cells m = news.toArray := by rw [hnews]
  have hlen : (xs ++ news).length = (n + m) * i.size := by rw [List.length_append, hown.1, hl, Nat.add_mul]
  have hnil : m = 0 → news = [] := fun h => List.eq_nil_of_length_eq_zero (by rw [hl, h, Nat.zero_mul])
  have grown : ∀ (old : Nat), old < n + m → ∀ (row : Option Nat),
      (w.drew.alloc (.cells (xs.toArray ++ news.toArray ++ Builtin.zeroCells z.cells (grownCap w (n + m) old e - (n + m))) e)).ownsRow base e i.size
        (.slice (some ⟨w.heap.size, 0, none⟩) (n + m) (grownCap w (n + m) old e)) (n + m) (xs ++ news) ∧
      w.grownBy (w.drew.alloc (.cells (xs.toArray ++ news.toArray ++ Builtin.zeroCells z.cells (grownCap w (n + m) old e - (n + m))) e)) row := by
    intro old ho row
    have hge := grownCap_ge w (n + m) old e
    have hcm : grownCap w (n + m) old e ≤ maxLen := grownCap_le_maxLen w (n + m) old e h63
    refine ⟨⟨hlen, .inr ⟨w.heap.size, _, _, rfl, hbase, heap_alloc_new w.drew _, hge, hcm, ?_, ?_⟩⟩, ⟨rfl, rfl, rfl, by simp, fun k hk _ => heap_alloc_old w.drew _ hk⟩⟩
    · simp only [Array.size_append, List.size_toArray, size_zeroCells, hzs, hown.1, hl, ← Nat.add_mul]
      congr 1
      omega
    · simp only [Array.toList_append, List.append_assoc]
      rw [← List.append_assoc, ← hlen]
      exact List.take_left
  have runs : ∀ (A : Option Addr) (cap : Nat), cap < n + m → (Builtin.firstCells i.size n (.slice A n cap)).run P w.drew = .ok xs.toArray w.drew → (Builtin.append_ #[t, ti] ty #[.slice A n cap, .int kx m]).run P w =
      .ok (.slice (some ⟨w.heap.size, 0, none⟩) (n + m) (grownCap w (n + m) cap e)) (w.drew.alloc (.cells (xs.toArray ++ news.toArray ++ Builtin.zeroCells z.cells (grownCap w (n + m) cap e - (n + m))) e)) := by
    intro A cap hcap hfo
    have hn : ¬ (n + m ≤ cap) := by omega
    have h63' : ¬ (9223372036854775807 < ((n : Int) + (m : Int))) := by omega
    have hfit := growslice_fits hcap hbytes
    have h48' : ¬ (281474976710656 < Builtin.nextslicecap (n + m) cap * i.bytes) := by omega
    by_cases hm : m = 0
    · have hnl := hnil hm
      subst hm
      rw [hnl]
      simp only [Nat.add_zero] at hn h63' h48' ⊢
      have h63'' : ¬ (9223372036854775807 < (n : Int)) := by omega
      simp [Builtin.append_, run_underlying ht, run_underlying hti, sizeOf, typeInfo, zeroValue, hi, hz, asInt, asIntOf, hw0, hn, h63'', h48', Question.forced, hfo, newRow, grownCap]
    · have hmz : ¬ (m * i.size = 0) := Nat.mul_ne_zero hm hsn
      simp [Builtin.append_, run_underlying ht, run_underlying hti, sizeOf, typeInfo, zeroValue, hi, hz, asInt, asIntOf, hw, hneg, hbig, hn, h63', h48', Question.forced, hfo, newRow, grownCap, hmz, hna]
      congr 2
      apply Array.ext'
      simp [List.append_assoc]
  rcases hown.2 with ⟨rfl, rfl⟩ | ⟨g, cap, cur, rfl, hbg, hg, hnc, hcm, hcs, htake⟩
  · have hx : xs = [] := List.eq_nil_of_length_eq_zero (by simpa using hown.1)
    subst hx
    by_cases hm : m = 0
    · have hnl := hnil hm
      subst hm
      rw [hnl]
      refine ⟨.slice none 0 0, w, ?_, World.ownsRow_nil w base e i.size, ⟨rfl, rfl, rfl, Nat.le_refl _, fun _ _ _ => rfl⟩, Or.inl rfl⟩
      simp [Builtin.append_, run_underlying ht, run_underlying hti, sizeOf, typeInfo, hi, asInt, asIntOf, hw0]
    · have hgr := grown 0 (by omega) (Value.ownBlock (.slice none 0 0))
      exact ⟨_, _, runs none 0 (by omega) (by simp [Builtin.firstCells]), hgr.1, hgr.2, Or.inr rfl⟩
  · by_cases hroom : n + m ≤ cap
    · have hfit : n * i.size + news.length ≤ cur.size := by rw [hl, hcs, ← Nat.add_mul]; exact Nat.mul_le_mul_right _ hroom
      obtain ⟨cur', h3, h4, h5⟩ := setCells_row news (n * i.size) w cur hg hfit
      obtain ⟨s1, s2, s3, s4⟩ := setCells_same g news (n * i.size) w
      have hst := run_storeCells_cells (P := P) g (n * i.size) news 0 w (fun j hj => by rw [cell_of_row w g _ cur e (0, 0) hg]; simp; omega) (fun j _ => blk_frozen hg _) h1
      simp only [Nat.add_zero] at hst
      refine ⟨.slice (some ⟨g, 0, none⟩) (n + m) cap, w.setCells g (n * i.size) news, ?_, ⟨hlen, .inr ⟨g, cap, cur', rfl, hbg, h3, hroom, hcm, by rw [h4, hcs], ?_⟩⟩, ⟨s1, s2, s3, by rw [s4]; exact Nat.le_refl _, fun k _ hk => setCells_far news _ k (fun e => hk (by simp [Value.ownBlock, e]))⟩, Or.inl rfl⟩
      · by_cases hm : m = 0
        · have hnl := hnil hm
          subst hm
          rw [hnl] at hst ⊢
          simp [Builtin.append_, run_underlying ht, run_underlying hti, sizeOf, typeInfo, hi, asInt, asIntOf, hw0, hnc, add_plain, hst]
        · have hmz : ¬ (m * i.size = 0) := Nat.mul_ne_zero hm hsn
          simp [Builtin.append_, run_underlying ht, run_underlying hti, sizeOf, typeInfo, zeroValue, hi, hz, asInt, asIntOf, hw, hneg, hbig, hroom, hmz, hna, add_plain, hst]
      · rw [h5]
        have h6 : cur.toList.take (n * i.size) = xs := htake
        rw [h6, ← hlen]
        exact List.take_left
    · have holds : ∀ j u, xs[j]? = some u → w.cell? ((⟨g, 0, none⟩ : Addr).add j) = some u := hown.cells (g := g) rfl
      have hgr := grown cap (by omega) (Value.ownBlock (.slice (some ⟨g, 0, none⟩) n cap))
      exact ⟨_, _, runs (some ⟨g, 0, none⟩) cap (by omega) (run_firstCells_some (P := P) w.drew i.size n _ n cap xs hown.1 (by simpa using holds)), hgr.1, hgr.2, Or.inr rfl⟩
end
namespace Kd
section
variable {P : Program} {ops : Array Oper} {rest : List Oper} {o : Oper} {a : Act} {Q : Exit → Act → World → Prop} {Kc : Act → World → Prop} {α : Type}
end
section
variable {α : Type} {d : Kd α} {e : Nat} {w : World} {base : Nat} {ok : Nat → Prop} {v : Value} {xs : List α}
end
section
variable {P : Program} {ops : Array Oper} {rest : List Oper} {o : Oper} {a : Act} {Q : Exit → Act → World → Prop} {Kc : Act → World → Prop} {α : Type}
end
end Kd
end Go.Proofs.YtocdlibnmlcokaaW.PrintWords
namespace Go.Proofs.YtocdlibnmlcokaaW.PrintWords
open Go.RowKit
namespace Kd
structure Heap {α : Type} (d : Kd α) : Prop where
  K : ∀ {w w1 : World} {x : α} {cs : List Value}, (∀ k, k < w.heap.size → w1.heap[k]? = w.heap[k]?) → d.K w x cs → d.K w1 x cs
theorem cell_heap {w w1 : World} (hb : ∀ k, k < w.heap.size → w1.heap[k]? = w.heap[k]?) {a : Addr} {v : Value} (h : w.cell? a = some v) : w1.cell? a = some v := by
  have := hb a.block (World.block_lt_of_cell? w a h)
  simpa [World.cell?, this] using h
theorem Heap.C {α : Type} {d : Kd α} (hd : Heap d) {w w1 : World} {A : Option Addr} {n : Nat} {xs : List α} (hb : ∀ k, k < w.heap.size → w1.heap[k]? = w.heap[k]?) (h : d.C w A n xs) : d.C w1 A n xs :=
  ⟨h.1, h.2.1, fun hn => by
    obtain ⟨ad, e, hc⟩ := h.2.2 hn
    refine ⟨ad, e, fun j p hj => ?_⟩
    obtain ⟨c, hs, hr, hcell⟩ := hc j p hj
    exact ⟨c, hs, hd.K hb hr, fun i u hu => cell_heap hb (hcell i u hu)⟩⟩
section
variable {α : Type} {d : Kd α} {e base g n c : Nat} {ok : Nat → Prop} {w w0 W : World} {A : Option Addr} {xs : List α}
end
end Kd
end Go.Proofs.YtocdlibnmlcokaaW.PrintWords
namespace Go.Proofs.YtocdlibnmlcokaaW.PrintWords
open Go.RowKit
def Kept (w W : World) (S : Nat → Prop) : Prop := w.heap.size ≤ W.heap.size ∧ ∀ i, i < w.heap.size → ¬ S i → W.heap[i]? = w.heap[i]?
section
variable {w W W2 : World} {S S2 S' : Nat → Prop}
theorem Kept.refl (w : World) (S : Nat → Prop) : Kept w w S := ⟨Nat.le_refl _, fun _ _ _ => rfl⟩
theorem Kept.of_below (h : Below w.heap.size w W) (S : Nat → Prop) : Kept w W S := ⟨h.size, fun i hi _ => h.block i hi⟩
theorem Kept.mono (h : Kept w W S) (hs : ∀ k, S k → S' k) : Kept w W S' := ⟨h.1, fun i hi hn => h.2 i hi (fun hk => hn (hs i hk))⟩
theorem Kept.then_ (h : Kept w W S) (k : Kept W W2 S2) (hs : ∀ k, S2 k → S k ∨ w.heap.size ≤ k) : Kept w W2 S :=
  ⟨Nat.le_trans h.1 k.1, fun i hi hn => (k.2 i (Nat.lt_of_lt_of_le hi h.1) (fun h2 => (hs i h2).elim hn (fun h3 => by omega))).trans (h.2 i hi hn)⟩
theorem Kept.below (h : Kept w W S) (hb : Below W.heap.size W W2) : Kept w W2 S := h.then_ (Kept.of_below hb (fun _ => False)) (fun _ hk => hk.elim)
theorem Kept.alloc (h : Kept w W S) (o : Obj) : Kept w (W.alloc o) S := h.below (below_alloc (Below.refl _ _) o)
theorem Kept.drew (h : Kept w W S) : Kept w W.drew S := h
theorem Kept.drewN (h : Kept w W S) (m : Nat) : Kept w (W.drewN m) S := h
theorem Kept.setCell (h : Kept w W S) {p : Addr} (hp : S p.block ∨ w.heap.size ≤ p.block) (u : Value) : Kept w (W.setCell p u) S :=
  h.then_ (S2 := fun k => k = p.block) ⟨by simp [World.setCell], fun i _ hn => Below.heap_setCell W p u i hn⟩ (fun k hk => by rw [hk]; exact hp)
end
namespace Kd
section
variable {α : Type} {d : Kd α} {e base n c : Nat} {ok oki S S2 : Nat → Prop} {w w0 W W1 W2 : World} {v : Value} {A : Option Addr} {xs : List α} {i : Int} {cs : List Value}
end
end Kd
end Go.Proofs.YtocdlibnmlcokaaW.PrintWords
namespace Go.Proofs.YtocdlibnmlcokaaW.PrintWords
open Go.RowKit
def Foot (P : World → Prop) (W : World) (ok : Nat → Prop) : Prop := ∀ W' : World, (∀ k, ok k → k < W.heap.size → W'.heap[k]? = W.heap[k]?) → P W'
theorem heap_lt {W W1 : World} {k : Nat} (h : W1.heap[k]? = W.heap[k]?) (hlt : k < W.heap.size) : k < W1.heap.size := by
  rw [Array.getElem?_eq_getElem hlt] at h
  exact (Array.getElem?_eq_some_iff.1 h).1
namespace Foot
variable {P Q : World → Prop} {W W1 : World} {ok ok' : Nat → Prop}
theorem now (h : Foot P W ok) : P W := h W (fun _ _ _ => rfl)
theorem mono (h : Foot P W ok) (hok : ∀ k, ok k → ok' k) : Foot P W ok' := fun W' hW => h W' (fun k hk hlt => hW k (hok k hk) hlt)
theorem bound (h : Foot P W ok) : Foot P W (fun k => ok k ∧ k < W.heap.size) := fun W' hW => h W' (fun k hk hlt => hW k ⟨hk, hlt⟩ hlt)
theorem step (h : Foot P W ok) (hm : ∀ k, ok k → k < W.heap.size → W1.heap[k]? = W.heap[k]?) : Foot P W1 ok := fun W' hW => h W' (fun k hk hlt => (hW k hk (heap_lt (hm k hk hlt) hlt)).trans (hm k hk hlt))
theorem imp (h : Foot P W ok) (hi : ∀ W', P W' → Q W') : Foot Q W ok := fun W' hW => hi W' (h W' hW)
theorem old (h : Foot P W ok) (hb : Below W.heap.size W W1) : Foot P W1 (fun k => ok k ∧ k < W.heap.size) := (h.bound).step (fun k _ hlt => hb.block k hlt)
end Foot
namespace Kd
def F {α : Type} (d : Kd α) (W : World) (ok : Nat → Prop) (A : Option Addr) (n : Nat) (xs : List α) : Prop := Foot (fun W => d.C W A n xs) W ok
def FK {α : Type} (d : Kd α) (W : World) (ok : Nat → Prop) (x : α) (c : List Value) : Prop := Foot (fun W => d.K W x c) W ok
section
variable {α β : Type} {d : Kd α} {e base n n' cc g N : Nat} {ok ok' okp S : Nat → Prop} {w w0 w1 W W1 : World} {A A' : Option Addr} {u v v1 : Value} {xs : List α} {xs' : List β} {d' : Kd β} {x : α} {c : List Value}
end
end Kd
end Go.Proofs.YtocdlibnmlcokaaW.PrintWords
namespace Go.Proofs.YtocdlibnmlcokaaW.PrintWords
open Go.RowKit
namespace Kd
section
variable {α : Type} {d : Kd α} {e base n cc g : Nat} {ok ok' okp S : Nat → Prop} {w w1 W W1 : World} {A : Option Addr} {u v v1 : Value} {xs : List α} {x : α} {c : List Value}
def N {α : Type} (d : Kd α) (e : Nat) (w : World) (base : Nat) (ok : Nat → Prop) (v : Value) (xs : List α) : Prop :=
  (∀ k, v.ownBlock = some k → ok k) ∧ ∃ rows : List (List Value), rows.length = xs.length ∧ (raw d.sz).R e w base (fun k => some k = v.ownBlock) v rows ∧ ∀ (j : Nat) (x : α) (c : List Value), xs[j]? = some x → rows[j]? = some c → FK d w (fun k => ok k ∧ some k ≠ v.ownBlock) x c
end
end Kd
end Go.Proofs.YtocdlibnmlcokaaW.PrintWords
namespace Go.Proofs.YtocdlibnmlcokaaW.PrintWords
open Go.RowKit
namespace Kd
section
variable {α : Type} {d : Kd α} {e base n cap g : Nat} {ok ok' okp : Nat → Prop} {w w1 W : World} {v v1 : Value} {xs ys : List α}
end
section
variable {P : Program} {ops : Array Oper} {rest : List Oper} {o : Oper} {a : Act} {Q : Exit → Act → World → Prop} {Kc : Act → World → Prop} {α : Type}
end
end Kd
end Go.Proofs.YtocdlibnmlcokaaW.PrintWords
namespace Go.Proofs.YtocdlibnmlcokaaW.PrintMore
open Go.RowKit Go.Proofs.YtocdlibnmlcokaaW.PrintWords
namespace Kd
open Go.Proofs.YtocdlibnmlcokaaW.PrintWords.Kd
end Kd
namespace Kd
open Go.Proofs.YtocdlibnmlcokaaW.PrintWords.Kd
section
variable {α : Type} {d : Kd α} {e base g N : Nat} {ok : Nat → Prop} {W w1 : World} {u v : Value} {xs : List α}
end
end Kd
end Go.Proofs.YtocdlibnmlcokaaW.PrintMore
namespace Go.Proofs.YtocdlibnmlcokaaW.PrintWords
open Go.RowKit
section
variable {P : Program} {ops : Array Oper} {rest : List Oper} {o : Oper} {a : Act} {Q : Exit → Act → World → Prop} {W : World}
end
namespace Kd
section
variable {α : Type} {d : Kd α} {e base : Nat} {ok : Nat → Prop} {W w1 : World} {v : Value} {xs : List α}
end
section
variable {α : Type} {d : Kd α} {e base g n cap : Nat} {ok oki okp : Nat → Prop} {W : World} {xs : List α} {i : Int} {c : List Value}
end
section
variable {α : Type} {d : Kd α} {e base b b' g N : Nat} {ok ok1 : Nat → Prop} {W W2 w1 : World} {u v : Value} {xs ys : List α} {S : Nat → Prop}
end
end Kd
end Go.Proofs.YtocdlibnmlcokaaW.PrintWords
namespace Go.Proofs.YtocdlibnmlcokaaW.PrintWords
open Go.RowKit
namespace Kd
def V {α : Type} (d : Kd α) (_e : Nat) (W : World) (_base : Nat) (ok : Nat → Prop) (v : Value) (xs : List α) : Prop := ∃ A c, v = .slice A xs.length c ∧ xs.length ≤ c ∧ F d W ok A xs.length xs
section
variable {α β : Type} {d : Kd α} {e base base' n m c g N' lo hi : Nat} {ok ok' S : Nat → Prop} {w W w1 : World} {A : Option Addr} {ad : Addr} {u v v1 : Value} {xs : List α}
end
end Kd
end Go.Proofs.YtocdlibnmlcokaaW.PrintWords
namespace Go.Proofs.Ytocdlibnmlcokaa
open Go.RowKit Go.Proofs.YtocdlibnmlcokaaW.PrintWords Go.Proofs.YtocdlibnmlcokaaW.PrintLast
theorem wrap_succ {i : Int} (h0 : 0 ≤ i) (h1 : i < 9223372036854775807) : wrap64 (i + 1) = i + 1 := by unfold wrap64; omega
theorem take_succ_eq {α : Type} {xs ys : List α} {n : Nat} (hx : n < xs.length) (hy : n < ys.length) (h : xs.take n = ys.take n) (he : xs[n] = ys[n]) : xs.take (n + 1) = ys.take (n + 1) := by
  rw [List.take_succ_eq_append_getElem hx, List.take_succ_eq_append_getElem hy, h, he]
theorem rd_eq {xs : List Int} {i : Int} (h1 : i.toNat < xs.length) : rd xs i = xs[i.toNat] := by simp [rd, List.getD_eq_getElem?_getD, h1]
end Go.Proofs.Ytocdlibnmlcokaa
namespace Go.Proofs.Ytocdlibnmlcokaa
open Go.RowKit Go.Proofs.YtocdlibnmlcokaaW.PrintWords Go.Proofs.YtocdlibnmlcokaaW.PrintLast
inductive All3 {α β γ : Type} (R : α → β → γ → Prop) : List α → List β → List γ → Prop
  | nil : All3 R [] [] []
  | cons {a : α} {b : β} {c : γ} {xs : List α} {bs : List β} {cs : List γ} : R a b c → All3 R xs bs cs → All3 R (a :: xs) (b :: bs) (c :: cs)
namespace All3
variable {α β γ : Type} {R S : α → β → γ → Prop} {xs xs' : List α} {bs bs' : List β} {cs cs' : List γ} {a : α} {b : β} {c : γ}
theorem len1 (h : All3 R xs bs cs) : bs.length = xs.length := by induction h with | nil => rfl | cons _ _ ih => simp [ih]
theorem len2 (h : All3 R xs bs cs) : cs.length = xs.length := by induction h with | nil => rfl | cons _ _ ih => simp [ih]
theorem imp (h : All3 R xs bs cs) (hi : ∀ a b c, c ∈ cs → R a b c → S a b c) : All3 S xs bs cs := by
  induction h with
  | nil => exact .nil
  | cons h0 _ ih => exact .cons (hi _ _ _ List.mem_cons_self h0) (ih fun a b c hc => hi a b c (List.mem_cons_of_mem _ hc))
theorem append (h : All3 R xs bs cs) (k : All3 R xs' bs' cs') : All3 R (xs ++ xs') (bs ++ bs') (cs ++ cs') := by
  induction h with
  | nil => exact k
  | cons h0 _ ih => exact .cons h0 ih
theorem snoc (h : All3 R xs bs cs) (k : R a b c) : All3 R (xs ++ [a]) (bs ++ [b]) (cs ++ [c]) := h.append (.cons k .nil)
theorem get (h : All3 R xs bs cs) {i : Nat} (h0 : i < xs.length) (h1 : i < bs.length) (h2 : i < cs.length) : R xs[i] bs[i] cs[i] := by
  induction h generalizing i with
  | nil => simp at h0
  | cons hh _ ih =>
    cases i with
    | zero => exact hh
    | succ i => exact ih _ _ _
theorem set (h : All3 R xs bs cs) (i : Nat) (k : R a b c) : All3 R (xs.set i a) (bs.set i b) (cs.set i c) := by
  induction h generalizing i with
  | nil => exact .nil
  | cons hh ht ih =>
    cases i with
    | zero => exact .cons k ht
    | succ i => exact .cons hh (ih i)
end All3
structure Rp (α : Type) where
  d : Kd α
  E : List Nat
  P : World → α → List Value → List Nat → Prop
  toK : ∀ {w x cs fp}, P w x cs fp → d.K w x cs
  loc : ∀ {w w1 : World} {x cs fp}, P w x cs fp → (∀ b ∈ fp, w1.heap[b]? = w.heap[b]?) → P w1 x cs fp
  ty : ∀ {w : World} {x cs fp}, P w x cs fp → ∀ b ∈ fp, ∃ q ∈ E, ∃ cells, w.heap[b]? = some (.cells cells q (0, 0))
set_option linter.unusedVariables false
namespace Rp
theorem len {α : Type} (r : Rp α) {w : World} {x : α} {cs : List Value} {fp : List Nat} (h : r.P w x cs fp) : cs.length = r.d.sz := r.d.K_len (r.toK h)
def Row {α : Type} (r : Rp α) (e : Nat) (w : World) (v : Value) (xs : List α) (fp : List Nat) : Prop :=
  ∃ (css : List (List Value)) (fps : List (List Nat)), w.ownsRow 0 e r.d.sz v xs.length css.flatten ∧ All3 (r.P w) xs css fps ∧ fp = v.ownBlock.toList ++ fps.flatten
section
variable {α : Type} {r : Rp α} {e : Nat} {w w1 : World} {v : Value} {xs : List α} {x : α} {cs : List Value} {fp fpx : List Nat}
theorem P_lt (h : r.P w x cs fp) : ∀ b ∈ fp, b < w.heap.size := fun b hb => by
  obtain ⟨_, _, _, hc⟩ := r.ty h b hb
  exact blk_lt hc
theorem own_at_block {sz n : Nat} {ys : List Value} (h : w.ownsRow 0 e sz v n ys) {k : Nat} (hk : k ∈ v.ownBlock.toList) : v.ownBlock = some k := by
  cases hv : v.ownBlock with
  | none => rw [hv] at hk; simp at hk
  | some j => rw [hv] at hk; simp at hk; rw [hk]
theorem Row_ty (h : r.Row e w v xs fp) : ∀ b ∈ fp, ∃ q ∈ e :: r.E, ∃ cells, w.heap[b]? = some (.cells cells q (0, 0)) := by
  obtain ⟨css, fps, ho, ha, rfl⟩ := h
  intro b hb
  rcases List.mem_append.1 hb with hb | hb
  · obtain ⟨cells, hc⟩ := own_typed ho b (own_at_block ho hb)
    exact ⟨e, List.mem_cons_self, cells, hc⟩
  · obtain ⟨f, hf, hbf⟩ := List.mem_flatten.1 hb
    obtain ⟨i, hi, rfl⟩ := List.getElem_of_mem hf
    have hP := ha.get (i := i) (by have := ha.len2; omega) (by have := ha.len1; have := ha.len2; omega) hi
    obtain ⟨q, hq, hc⟩ := r.ty hP b hbf
    exact ⟨q, List.mem_cons_of_mem _ hq, hc⟩
theorem Row_lt (h : r.Row e w v xs fp) : ∀ b ∈ fp, b < w.heap.size := fun b hb => by
  obtain ⟨_, _, _, hc⟩ := Row_ty h b hb
  exact blk_lt hc
theorem Row_loc (h : r.Row e w v xs fp) (hm : ∀ b ∈ fp, w1.heap[b]? = w.heap[b]?) : r.Row e w1 v xs fp := by
  obtain ⟨css, fps, ho, ha, rfl⟩ := h
  refine ⟨css, fps, own_move ho fun k hk => hm k ?_, ha.imp fun a b c hc hP => r.loc hP fun k hk => hm k ?_, rfl⟩
  · exact List.mem_append_left _ (by rw [hk]; simp)
  · exact List.mem_append_right _ (List.mem_flatten.2 ⟨c, hc, hk⟩)
theorem Row_step (h : r.Row e w v xs fp) (hm : ∀ b ∈ fp, b < w.heap.size → w1.heap[b]? = w.heap[b]?) : r.Row e w1 v xs fp := Row_loc h fun b hb => hm b hb (Row_lt h b hb)
theorem Row_below (h : r.Row e w v xs fp) (hb : Below w.heap.size w w1) : r.Row e w1 v xs fp := Row_step h fun k _ hk => hb.block k hk
theorem Row_alloc (h : r.Row e w v xs fp) (o : Obj) : r.Row e (w.alloc o) v xs fp := Row_below h (below_alloc (Below.refl _ _) o)
theorem Row_drew (h : r.Row e w v xs fp) : r.Row e w.drew v xs fp := Row_below h (below_drew (Below.refl _ _))
theorem Row_drewN (h : r.Row e w v xs fp) (n : Nat) : r.Row e (w.drewN n) v xs fp := Row_below h (pw_below_drewN (Below.refl _ _) n)
theorem Row_far (h : r.Row e w v xs fp) {p : Addr} (hn : p.block ∉ fp) (u : Value) : r.Row e (w.setCell p u) v xs fp := Row_loc h fun k hk => Below.heap_setCell w p u k (fun he => hn (he ▸ hk))
theorem Row_not (h : r.Row e w v xs fp) {g t : Nat} {cells : Array Value} (hb : w.heap[g]? = some (.cells cells t (0, 0))) (ht : t ∉ e :: r.E) : g ∉ fp := fun hg => by
  obtain ⟨q, hq, cells', hc⟩ := Row_ty h g hg
  rw [hc] at hb
  injection hb with hb
  injection hb with _ hb
  exact ht (hb ▸ hq)
theorem Row_set (h : r.Row e w v xs fp) {g t : Nat} {cells : Array Value} (hb : w.heap[g]? = some (.cells cells t (0, 0))) (ht : t ∉ e :: r.E) (j : Nat) (u : Value) : r.Row e (w.setCell ⟨g, j, none⟩ u) v xs fp := Row_far h (Row_not h hb ht) u
theorem Row_nil (r : Rp α) (e : Nat) (w : World) : r.Row e w (.slice none 0 0) [] [] := ⟨[], [], own_nil _ _ _ _, .nil, rfl⟩
theorem flat_len {n : Nat} : ∀ {css : List (List Value)}, (∀ c ∈ css, c.length = n) → css.flatten.length = css.length * n
  | [], _ => by simp
  | c :: css, h => by
    rw [List.flatten_cons, List.length_append, h c List.mem_cons_self, flat_len (fun c hc => h c (List.mem_cons_of_mem _ hc)), List.length_cons, Nat.succ_mul, Nat.add_comm]
theorem flat_get {n : Nat} : ∀ {css : List (List Value)}, (∀ c ∈ css, c.length = n) → ∀ (i : Nat) (hi : i < css.length), (css.flatten.drop (i * n)).take n = css[i]
  | [], _, i, hi => by simp at hi
  | c :: css, h, i, hi => by
    have hc := h c List.mem_cons_self
    cases i with
    | zero => rw [Nat.zero_mul, List.drop_zero, List.flatten_cons, ← hc, List.take_left]; rfl
    | succ i =>
      have := flat_get (n := n) (css := css) (fun c hc => h c (List.mem_cons_of_mem _ hc)) i (by simpa using hi)
      rw [List.flatten_cons, List.drop_append, hc, List.drop_eq_nil_of_le (by rw [hc, Nat.succ_mul]; omega), List.nil_append, Nat.succ_mul, Nat.add_sub_cancel]
      exact this
theorem all_len {css : List (List Value)} {fps : List (List Nat)} (h : All3 (r.P w) xs css fps) : ∀ c ∈ css, c.length = r.d.sz := by
  intro c hc
  obtain ⟨i, hi, rfl⟩ := List.getElem_of_mem hc
  have := h.get (i := i) (by have := h.len1; omega) hi (by have := h.len1; have := h.len2; omega)
  exact r.len this
theorem all_reps {css : List (List Value)} {fps : List (List Nat)} (h : All3 (r.P w) xs css fps) : Reps (r.d.K w) r.d.sz xs css.flatten := by
  refine ⟨by rw [flat_len (all_len h), h.len1], fun j p hj => ?_⟩
  have hjl := (List.getElem?_eq_some_iff.1 hj).1
  rw [flat_get (all_len h) j (by rw [h.len1]; exact hjl)]
  have := h.get (i := j) hjl (by rw [h.len1]; exact hjl) (by rw [h.len2]; exact hjl)
  rw [List.getElem?_eq_getElem hjl] at hj
  injection hj with hj
  rw [← hj]
  exact r.toK this
theorem Row_reads (h : r.Row e w v xs fp) : ∃ A c, v = .slice A xs.length c ∧ xs.length ≤ c ∧ r.d.C w A xs.length xs := by
  obtain ⟨css, fps, ho, ha, rfl⟩ := h
  exact OwnRow.reads (base := 0) ⟨_, ho, all_reps ha⟩
theorem Row_C {A : Option Addr} {n c : Nat} (h : r.Row e w (.slice A n c) xs fp) : n = xs.length ∧ xs.length ≤ c ∧ r.d.C w A xs.length xs := by
  obtain ⟨A', c', he, h1, h2⟩ := Row_reads h
  injection he with ha hn hc
  subst ha; subst hc; subst hn
  exact ⟨rfl, h1, h2⟩
theorem Row_len (h : r.Row e w v xs fp) : xs.length ≤ 9223372036854775807 := by
  obtain ⟨_, _, _, _, hc⟩ := Row_reads h
  exact hc.2.1
theorem Row_block (h : r.Row e w v xs fp) {k : Nat} (hk : v.ownBlock = some k) : k ∈ fp := by
  obtain ⟨css, fps, ho, ha, rfl⟩ := h
  exact List.mem_append_left _ (by rw [hk]; simp)
theorem Row_ne (h : r.Row e w v xs fp) {g : Nat} (hg : g ∉ fp) : some g ≠ v.ownBlock := fun he => hg (Row_block h he.symm)
theorem Row_snoc {v1 : Value} {W : World} {css : List (List Value)} {fps : List (List Nat)} (ho : w.ownsRow 0 e r.d.sz v xs.length css.flatten) (ha : All3 (r.P w) xs css fps) (hp : r.P w x cs fpx) (hnd : (v.ownBlock.toList ++ fps.flatten ++ fpx).Nodup)
    (ho1 : W.ownsRow 0 e r.d.sz v1 (xs.length + 1) (css.flatten ++ cs))
    (hg : w.grownBy W v.ownBlock) (hat : v1.ownBlock = v.ownBlock ∨ ∃ b, v1.ownBlock = some b ∧ w.heap.size ≤ b) :
    ∃ fp1, r.Row e W v1 (xs ++ [x]) fp1 ∧ fp1.Nodup ∧ ∀ b ∈ fp1, b ∈ v.ownBlock.toList ++ fps.flatten ∨ b ∈ fpx ∨ w.heap.size ≤ b := by
  have hlt := Row_lt ⟨css, fps, ho, ha, rfl⟩
  have hxlt := P_lt hp
  have hnd' := hnd
  rw [List.append_assoc, List.nodup_append] at hnd
  obtain ⟨n1, n2, n3⟩ := hnd
  have hne : ∀ k ∈ fps.flatten ++ fpx, some k ≠ v.ownBlock := fun k hk he => n3 k (by rw [← he]; simp) k hk rfl
  have hlt' : ∀ k ∈ fps.flatten ++ fpx, k < w.heap.size := fun k hk => by
    rcases List.mem_append.1 hk with hk | hk
    · exact hlt k (List.mem_append_right _ hk)
    · exact hxlt k hk
  have hm : ∀ k ∈ fps.flatten ++ fpx, W.heap[k]? = w.heap[k]? := fun k hk => hg.block k (hlt' k hk) (hne k hk)
  refine ⟨v1.ownBlock.toList ++ (fps ++ [fpx]).flatten, ⟨css ++ [cs], fps ++ [fpx], ?_, ?_, rfl⟩, ?_, ?_⟩
  · have := ho1
    rw [List.length_append, List.length_singleton, List.flatten_append, List.flatten_singleton]
    exact this
  · refine All3.snoc (ha.imp fun a b c hc hP => r.loc hP fun k hk => hm k (List.mem_append_left _ (List.mem_flatten.2 ⟨c, hc, hk⟩))) (r.loc hp fun k hk => hm k (List.mem_append_right _ hk))
  · rw [List.flatten_append, List.flatten_singleton, List.nodup_append]
    refine ⟨by cases v1.ownBlock <;> simp, n2, fun a ha' b hb hab => ?_⟩
    subst hab
    rcases hat with hat | ⟨g, hat, hle⟩
    · rw [hat] at ha'; exact n3 a ha' a hb rfl
    · rw [hat] at ha'; simp at ha'; have := hlt' a hb; omega
  · intro b hb
    rw [List.flatten_append, List.flatten_singleton] at hb
    rcases List.mem_append.1 hb with hb | hb
    · rcases hat with hat | ⟨g, hat, hle⟩
      · rw [hat] at hb; exact .inl (List.mem_append_left _ hb)
      · rw [hat] at hb; simp at hb; exact .inr (.inr (by omega))
    · rcases List.mem_append.1 hb with hb | hb
      · exact .inl (List.mem_append_right _ hb)
      · exact .inr (.inl hb)
end
def scalar {α : Type} (enc : α → Value) (h1 : ∀ x, (enc x).oneCell' = true) : Rp α where
  d := Kd.scalar enc h1
  E := []
  P := fun _ x cs fp => cs = [enc x] ∧ fp = []
  toK := fun h => h.1
  loc := fun h _ => h
  ty := fun h b hb => by rw [h.2] at hb; simp at hb
def int (k : IntKind) : Rp Int := scalar (Value.int k) (fun _ => rfl)
def bool : Rp Bool := scalar Value.bool (fun _ => rfl)
def string : Rp ByteArray := scalar Value.string (fun _ => rfl)
def slice {α : Type} (e : Nat) (r : Rp α) : Rp (List α) where
  d := Kd.slice e r.d
  E := e :: r.E
  P := fun w xs cs fp => ∃ v, cs = [v] ∧ r.Row e w v xs fp
  toK := by
    rintro w x cs fp ⟨v, rfl, h⟩
    obtain ⟨A, c, rfl, hl, hr⟩ := Row_reads h
    exact ⟨A, c, rfl, hl, hr⟩
  loc := by
    rintro w w1 x cs fp ⟨v, rfl, h⟩ hm
    exact ⟨v, rfl, Row_loc h hm⟩
  ty := by
    rintro w x cs fp ⟨v, rfl, h⟩
    exact Row_ty h
def pair {α β : Type} (a : Rp α) (b : Rp β) : Rp (α × β) where
  d := Kd.pair a.d b.d
  E := a.E ++ b.E
  P := fun w x cs fp => ∃ c0 c1 f0 f1, cs = c0 ++ c1 ∧ fp = f0 ++ f1 ∧ a.P w x.1 c0 f0 ∧ b.P w x.2 c1 f1
  toK := by
    rintro w x cs fp ⟨c0, c1, f0, f1, rfl, rfl, h0, h1⟩
    exact ⟨c0, c1, rfl, a.toK h0, b.toK h1⟩
  loc := by
    rintro w w1 x cs fp ⟨c0, c1, f0, f1, rfl, rfl, h0, h1⟩ hm
    exact ⟨c0, c1, f0, f1, rfl, rfl, a.loc h0 fun b hb => hm b (List.mem_append_left _ hb), b.loc h1 fun b hb => hm b (List.mem_append_right _ hb)⟩
  ty := by
    rintro w x cs fp ⟨c0, c1, f0, f1, rfl, rfl, h0, h1⟩ k hk
    rcases List.mem_append.1 hk with hk | hk
    · obtain ⟨q, hq, h⟩ := a.ty h0 k hk
      exact ⟨q, List.mem_append_left _ hq, h⟩
    · obtain ⟨q, hq, h⟩ := b.ty h1 k hk
      exact ⟨q, List.mem_append_right _ hq, h⟩
def iso {α β : Type} (r : Rp α) (f : β → α) : Rp β where
  d := Kd.iso r.d f
  E := r.E
  P := fun w x cs fp => r.P w (f x) cs fp
  toK := fun h => r.toK h
  loc := fun h hm => r.loc h hm
  ty := fun h => r.ty h
end Rp
end Go.Proofs.Ytocdlibnmlcokaa
namespace Go.Proofs.Ytocdlibnmlcokaa
open Go.RowKit Go.Proofs.YtocdlibnmlcokaaW.PrintWords Go.Proofs.YtocdlibnmlcokaaW.PrintLast
set_option linter.unusedVariables false
namespace Rp
def Got {α : Type} (r : Rp α) (e lo : Nat) (w : World) (v : Value) (xs : List α) : Prop := ∃ fp, r.Row e w v xs fp ∧ fp.Nodup ∧ ∀ b ∈ fp, lo ≤ b
section
variable {α : Type} {enc : α → Value} {h1 : ∀ x, (enc x).oneCell' = true} {e : Nat} {w w1 : World} {v : Value} {xs ys : List α} {fp : List Nat}
theorem all3_scalar (w : World) (xs : List α) : All3 ((scalar enc h1).P w) xs (xs.map fun x => [enc x]) (xs.map fun _ => ([] : List Nat)) := by
  induction xs with
  | nil => exact .nil
  | cons x xs ih => exact .cons ⟨rfl, rfl⟩ ih
theorem flat_single (xs : List α) : (xs.map fun x => [enc x]).flatten = encs enc xs := by
  induction xs with
  | nil => rfl
  | cons x xs ih => simp [encs] at ih ⊢; exact ih
theorem flat_none (xs : List α) : (xs.map fun _ => ([] : List Nat)).flatten = [] := by
  induction xs with
  | nil => rfl
  | cons x xs ih => simp
theorem Row_own (ho : w.ownsRow 0 e 1 v xs.length (encs enc xs)) : (scalar enc h1).Row e w v xs v.ownBlock.toList :=
  ⟨_, _, by rw [flat_single]; exact ho, all3_scalar w xs, by rw [flat_none, List.append_nil]⟩
theorem scalar_css {css : List (List Value)} {fps : List (List Nat)} (h : All3 ((scalar enc h1).P w) xs css fps) : css.flatten = encs enc xs ∧ fps.flatten = [] := by
  induction h with
  | nil => exact ⟨rfl, rfl⟩
  | cons h0 _ ih => rw [h0.1, h0.2]; simp [encs] at ih ⊢; exact ih
theorem own_Row (h : (scalar enc h1).Row e w v xs fp) : w.ownsRow 0 e 1 v xs.length (encs enc xs) ∧ fp = v.ownBlock.toList := by
  obtain ⟨css, fps, ho, ha, rfl⟩ := h
  obtain ⟨h2, h3⟩ := scalar_css ha
  rw [h2] at ho
  exact ⟨ho, by rw [h3, List.append_nil]⟩
theorem nodup_toList (o : Option Nat) : o.toList.Nodup := by cases o <;> simp
theorem at_toList {o : Option Nat} {w : World} {u : Option Nat} (hat : o = u ∨ ∃ b, o = some b ∧ w.heap.size ≤ b) : ∀ b ∈ o.toList, b ∈ u.toList ∨ w.heap.size ≤ b := by
  intro b hb
  rcases hat with h | ⟨g, h, hle⟩
  · rw [h] at hb; exact .inl hb
  · rw [h] at hb; simp at hb; exact .inr (by omega)
end
section
variable {P : Program} {ops : Array Oper} {rest : List Oper} {o : Oper} {a : Act} {Q : Exit → Act → World → Prop} {W : World} {α : Type}
theorem nodup_new {f g : List Nat} {n : Nat} (hf : f.Nodup) (hg : g.Nodup) (hlt : ∀ b ∈ f, b < n) (hge : ∀ b ∈ g, n ≤ b) : (f ++ g).Nodup :=
  List.nodup_append.2 ⟨hf, hg, fun a ha b hb he => by have := hlt a ha; have := hge b hb; omega⟩
theorem app_row {enc : α → Value} {h1 : ∀ x, (enc x).oneCell' = true} (d : α) (hgd : o.guard = none) (s x : Operand) (t e : TypeId) (z : Value) (bytes : Nat)
    (ho : o.op = .call { callee := .builtin .append, args := #[s, x], argTypes := #[t, t] })
    (ht : P.underlying t = some (.slice e)) (hinfo : (P.info? e).map (fun i => (i.zero, i.size, i.bytes)) = some (some z, 1, bytes)) (hz : z.cells.size = 1) (hb0 : 0 < bytes)
    (v : Value) (xs ys : List α) (A : Option Addr) (m c : Nat) (hs : a.eval s = v) (hx : a.eval x = .slice A m c) {fp : List Nat}
    (HO : (scalar enc h1).Row e W v xs fp) (HR : (Kd.scalar enc h1).C W A m ys) (hl : (xs.length + m) * bytes ≤ 140737488355328)
    (h : ∀ v1 w1 fp1, (scalar enc h1).Row e w1 v1 (xs ++ ys) fp1 → fp1.Nodup → (∀ b ∈ fp1, b ∈ fp ∨ W.heap.size ≤ b) → W.grownBy w1 v.ownBlock → wpList P ops Q rest (a.put o.dst v1) w1) :
    wpList P ops Q (o :: rest) a W := by
  obtain ⟨ho', rfl⟩ := own_Row HO
  refine print_append_row_of (w0 := W) enc d 0 hgd s x t e z bytes ho ht hinfo hz hb0 h1 v xs ys A m c hs hx ho' (Kd.reads_of_C (d := d) HR) (Below.refl _ _) (Nat.zero_le _) hl ?_
  intro v1 w1 hown _ hg hat
  exact h v1 w1 _ (Row_own hown) (nodup_toList _) (at_toList hat) hg
theorem app_one (r : Rp α) (hgd : o.guard = none) (s x : Operand) (t e : TypeId) (z : Value) (bytes : Nat)
    (ho : o.op = .call { callee := .builtin .append, args := #[s, x], argTypes := #[t, t] })
    (ht : P.underlying t = some (.slice e)) (hinfo : (P.info? e).map (fun i => (i.zero, i.size, i.bytes)) = some (some z, r.d.sz, bytes)) (hz : z.cells.size = r.d.sz) (hs0 : 0 < r.d.sz) (hb0 : 0 < bytes)
    (v : Value) (xs : List α) (p : α) (cs : List Value) (hs : a.eval s = v) (hx : a.eval x = .slice (some ⟨W.heap.size, 0, none⟩) 1 1) {fp fpx : List Nat}
    (HO : r.Row e W v xs fp) (hp : r.P W p cs fpx) (hnd : (fp ++ fpx).Nodup) (hl : (xs.length + 1) * bytes ≤ 140737488355328)
    (h : ∀ v1 w1 fp1, r.Row e w1 v1 (xs ++ [p]) fp1 → fp1.Nodup → (∀ b ∈ fp1, b ∈ fp ∨ b ∈ fpx ∨ W.heap.size ≤ b) → W.grownBy w1 v.ownBlock → wpList P ops Q rest (a.put o.dst v1) w1) :
    wpList P ops Q (o :: rest) a (W.alloc (.cells cs.toArray e)) := by
  obtain ⟨css, fps, hown, ha, rfl⟩ := HO
  refine print_append_cells (w0 := W) 0 hgd s x t e z r.d.sz bytes ho ht hinfo hz hs0 hb0 v xs.length css.flatten cs hs hx (r.len hp) (r.d.K_one (r.toK hp)) hown (Below.refl _ _) (Nat.zero_le _) hl ?_
  intro v1 w1 hown1 _ hg hat
  obtain ⟨fp1, h2, h3, h4⟩ := Row_snoc hown ha hp hnd hown1 hg hat
  exact h v1 w1 fp1 h2 h3 h4 hg
theorem app_one_step (r : Rp α) {K : Act → World → Prop} {E : Prop} (hgd : o.guard = none) (s x : Operand) (t e : TypeId) (z : Value) (bytes : Nat)
    (ho : o.op = .call { callee := .builtin .append, args := #[s, x], argTypes := #[t, t] })
    (ht : P.underlying t = some (.slice e)) (hinfo : (P.info? e).map (fun i => (i.zero, i.size, i.bytes)) = some (some z, r.d.sz, bytes)) (hz : z.cells.size = r.d.sz) (hs0 : 0 < r.d.sz) (hb0 : 0 < bytes)
    (v : Value) (xs : List α) (p : α) (cs : List Value) (hs : a.eval s = v) (hx : a.eval x = .slice (some ⟨W.heap.size, 0, none⟩) 1 1) {fp fpx : List Nat}
    (HO : r.Row e W v xs fp) (hp : r.P W p cs fpx) (hnd : (fp ++ fpx).Nodup) (hl : (xs.length + 1) * bytes ≤ 140737488355328)
    (h : ∀ v1 w1 fp1, r.Row e w1 v1 (xs ++ [p]) fp1 → fp1.Nodup → (∀ b ∈ fp1, b ∈ fp ∨ b ∈ fpx ∨ W.heap.size ≤ b) → W.grownBy w1 v.ownBlock → K (a.put o.dst v1) w1) :
    if Region.wanted o (yielded ops a.tmps) = true then Oper.wp P o a (W.alloc (.cells cs.toArray e)) K Q else E := by
  have hw : Region.wanted o (yielded ops a.tmps) = true := by simp [Region.wanted, hgd]
  obtain ⟨css, fps, hown, ha, rfl⟩ := HO
  have := step_append_cells (Q := Q) (K := K) (ops := ops) (w0 := W) 0 hw s x t e z r.d.sz bytes ho ht hinfo hz hs0 hb0 v xs.length css.flatten cs hs hx (r.len hp) (r.d.K_one (r.toK hp)) hown (Below.refl _ _) (Nat.zero_le _) hl (by
    intro v1 w1 hown1 _ hg hat
    obtain ⟨fp1, h2, h3, h4⟩ := Row_snoc hown ha hp hnd hown1 hg hat
    exact h v1 w1 fp1 h2 h3 h4 hg)
  rw [if_pos hw] at this ⊢
  exact this
theorem mk_core (r : Rp α) (t e : TypeId) (x y : Operand) (ho : o.op = .makeSlice t x y) (n : Int) (hx : a.eval x = .int .i64 n) (hy : a.eval y = .int .i64 n)
    (ht : P.underlying t = some (.slice e)) (z : Value) (bytes : Nat) (hinfo : (P.info? e).map (fun i => (i.zero, i.size, i.bytes)) = some (some z, r.d.sz, bytes)) (hz : z.cells.size = r.d.sz) (hs0 : 0 < r.d.sz) (hb0 : 0 < bytes)
    (z0 : α) (hzero : ∀ w, r.P w z0 z.cells.toList []) (h0 : 0 ≤ n) (hl : n.toNat * bytes ≤ 281474976710656) :
    ∃ w1, (execOp a.eval o).run P W = .ok (.value (.slice (some ⟨W.heap.size, 0, none⟩) n.toNat n.toNat)) w1 ∧ r.Row e w1 (.slice (some ⟨W.heap.size, 0, none⟩) n.toNat n.toNat) (List.replicate n.toNat z0) [W.heap.size] ∧ Below W.heap.size W w1 := by
  obtain ⟨m, rfl⟩ := Int.eq_ofNat_of_zero_le h0
  simp only [Int.toNat_natCast] at hl ⊢
  obtain ⟨i0, hi, hzz⟩ := Option.map_eq_some_iff.1 hinfo
  simp only [Prod.mk.injEq] at hzz
  obtain ⟨hz0, hz1, hz2⟩ := hzz
  have hm : m ≤ 281474976710656 := Nat.le_trans (Nat.le_mul_of_pos_right _ hb0) hl
  have hr := run_make (P := P) W t e i0 z ht hi hz0 .i64 .i64 (m : Int) (m : Int) (by omega) (by omega)
    (by
      have h3 : ((i0.bytes * m : Nat) : Int) ≤ 281474976710656 := by rw [hz2, Nat.mul_comm]; omega
      rwa [Int.natCast_mul] at h3) (by omega)
  simp only [Int.toNat_natCast] at hr
  rw [hz1] at hr
  refine ⟨W.alloc (.cells (madeCells z.cells (m * r.d.sz)) e), by simp [execOp, ho, hx, hy, hr], ?_, below_alloc (Below.refl _ _) _⟩
  have key : ∀ k : Nat, k ≤ m → All3 (r.P (W.alloc (.cells (madeCells z.cells (m * r.d.sz)) e))) (List.replicate k z0) (List.replicate k z.cells.toList) (List.replicate k ([] : List Nat)) := by
    intro k
    induction k with
    | zero => intro _; exact .nil
    | succ k ih => intro hk; exact .cons (hzero _) (ih (by omega))
  have hfl : (List.replicate m z.cells.toList).flatten = (madeCells z.cells (m * r.d.sz)).toList := by
    have hzl : z.cells.toList.length = r.d.sz := by rw [Array.length_toList, hz]
    apply List.ext_getElem
    · rw [flat_len (n := r.d.sz) (fun c hc => by rw [List.mem_replicate] at hc; rw [hc.2, hzl])]
      simp [size_madeCells]
    · intro i h3 h4
      have hi4 : i < m * r.d.sz := by simpa [size_madeCells] using h4
      have hq : i / r.d.sz < m := (Nat.div_lt_iff_lt_mul hs0).2 hi4
      have e1 := flat_get (n := r.d.sz) (css := List.replicate m z.cells.toList) (fun c hc => by rw [List.mem_replicate] at hc; rw [hc.2, hzl]) (i / r.d.sz) (by simpa using hq)
      have hmod := Nat.mod_lt i hs0
      have hdm : i / r.d.sz * r.d.sz + i % r.d.sz = i := by rw [Nat.mul_comm]; exact Nat.div_add_mod i r.d.sz
      have e2 : (List.replicate m z.cells.toList).flatten[i]? = z.cells.toList[i % r.d.sz]? := by
        have e3 := congrArg (fun l => l[i % r.d.sz]?) e1
        simp only [List.getElem?_take, List.getElem?_drop, List.getElem_replicate] at e3
        rw [if_pos hmod, hdm] at e3
        exact e3
      rw [List.getElem?_eq_getElem h3, List.getElem?_eq_getElem (by rw [hzl]; exact hmod)] at e2
      injection e2 with e2
      rw [e2]
      simp [madeCells, hz]
      rw [getElem!_pos z.cells _ (by rw [hz]; exact hmod)]
  refine ⟨List.replicate m z.cells.toList, List.replicate m [], ?_, ?_, ?_⟩
  · rw [hfl, List.length_replicate]
    have h2 := World.ownsRow_lit (base := 0) (e := e) (size := r.d.sz) W (madeCells z.cells (m * r.d.sz)) m (Nat.zero_le _) (by simp only [maxLen]; omega) (by simp [size_madeCells])
    simpa using h2
  · exact key m (Nat.le_refl _)
  · simp [Value.ownBlock]
theorem mk_row (r : Rp α) (hgd : o.guard = none) {N : Tmp} (hd : o.dst = some N) (t e : TypeId) (x y : Operand) (ho : o.op = .makeSlice t x y) (n : Int) (hx : a.eval x = .int .i64 n) (hy : a.eval y = .int .i64 n)
    (ht : P.underlying t = some (.slice e)) (z : Value) (bytes : Nat) (hinfo : (P.info? e).map (fun i => (i.zero, i.size, i.bytes)) = some (some z, r.d.sz, bytes)) (hz : z.cells.size = r.d.sz) (hs0 : 0 < r.d.sz) (hb0 : 0 < bytes)
    (z0 : α) (hzero : ∀ w, r.P w z0 z.cells.toList []) (h0 : 0 ≤ n) (hl : n.toNat * bytes ≤ 281474976710656)
    (h : ∀ g w1, g = W.heap.size → r.Row e w1 (.slice (some ⟨g, 0, none⟩) n.toNat n.toNat) (List.replicate n.toNat z0) [g] → Below W.heap.size W w1 → wpList P ops Q rest (a.put o.dst (.slice (some ⟨g, 0, none⟩) n.toNat n.toNat)) w1) : wpList P ops Q (o :: rest) a W := by
  obtain ⟨w1, hrun, hr, hb⟩ := mk_core (W := W) (o := o) (a := a) r t e x y ho n hx hy ht z bytes hinfo hz hs0 hb0 z0 hzero h0 hl
  exact Kd.event_run hgd hrun (h _ _ rfl hr hb)
theorem mk_row_step (r : Rp α) {K : Act → World → Prop} {E : Prop} (hgd : o.guard = none) (t e : TypeId) (x y : Operand) (ho : o.op = .makeSlice t x y) (n : Int) (hx : a.eval x = .int .i64 n) (hy : a.eval y = .int .i64 n)
    (ht : P.underlying t = some (.slice e)) (z : Value) (bytes : Nat) (hinfo : (P.info? e).map (fun i => (i.zero, i.size, i.bytes)) = some (some z, r.d.sz, bytes)) (hz : z.cells.size = r.d.sz) (hs0 : 0 < r.d.sz) (hb0 : 0 < bytes)
    (z0 : α) (hzero : ∀ w, r.P w z0 z.cells.toList []) (h0 : 0 ≤ n) (hl : n.toNat * bytes ≤ 281474976710656)
    (h : ∀ g w1, g = W.heap.size → r.Row e w1 (.slice (some ⟨g, 0, none⟩) n.toNat n.toNat) (List.replicate n.toNat z0) [g] → Below W.heap.size W w1 → K (a.put o.dst (.slice (some ⟨g, 0, none⟩) n.toNat n.toNat)) w1) : if Region.wanted o (yielded ops a.tmps) = true then Oper.wp P o a W K Q else E := by
  obtain ⟨w1, hrun, hr, hb⟩ := mk_core (W := W) (o := o) (a := a) r t e x y ho n hx hy ht z bytes hinfo hz hs0 hb0 z0 hzero h0 hl
  have hw : Region.wanted o (yielded ops a.tmps) = true := by simp [Region.wanted, hgd]
  rw [if_pos hw]
  unfold Oper.wp
  rw [hrun]
  exact h _ _ rfl hr hb
theorem app_row_step {enc : α → Value} {h1 : ∀ x, (enc x).oneCell' = true} {K : Act → World → Prop} {E : Prop} (hgd : o.guard = none) (s x : Operand) (t e : TypeId) (z : Value) (bytes : Nat)
    (ho : o.op = .call { callee := .builtin .append, args := #[s, x], argTypes := #[t, t] })
    (ht : P.underlying t = some (.slice e)) (hinfo : (P.info? e).map (fun i => (i.zero, i.size, i.bytes)) = some (some z, 1, bytes)) (hz : z.cells.size = 1) (hb0 : 0 < bytes)
    (v : Value) (xs ys : List α) (A : Option Addr) (m c : Nat) (hs : a.eval s = v) (hx : a.eval x = .slice A m c) {fp : List Nat}
    (HO : (scalar enc h1).Row e W v xs fp) (HR : (Kd.scalar enc h1).C W A m ys) (hl : (xs.length + m) * bytes ≤ 140737488355328)
    (h : ∀ v1 w1 fp1, (scalar enc h1).Row e w1 v1 (xs ++ ys) fp1 → fp1.Nodup → (∀ b ∈ fp1, b ∈ fp ∨ W.heap.size ≤ b) → W.grownBy w1 v.ownBlock → K (a.put o.dst v1) w1) :
    if Region.wanted o (yielded ops a.tmps) = true then Oper.wp P o a W K Q else E := by
  have hw : Region.wanted o (yielded ops a.tmps) = true := by simp [Region.wanted, hgd]
  obtain ⟨ho', rfl⟩ := own_Row HO
  have := Kd.R_append_rows_step (Q := Q) (Kc := K) (ops := ops) (Kd.scalar enc h1) (Rr := (Kd.scalar enc h1).K W) (w0 := W) 0 hw s x t e z bytes ho ht hinfo hz (by show 0 < 1; omega) hb0 v xs ys A m c (fun _ => True) (fun _ => False) hs hx (Kd.R_of_own ho' (fun _ _ => trivial)) HR (fun _ _ h => h) (fun _ h => h.elim) (fun _ _ => trivial) (Below.refl _ _) (Nat.zero_le _) hl (by
    intro v1 w1 hr _ hg hat
    exact h v1 w1 _ (Row_own (Kd.own_of_R hr)) (nodup_toList _) (at_toList hat) hg)
  rw [if_pos hw] at this ⊢
  exact this
end
end Rp
structure Kp (w w1 : World) (S : List Nat) : Prop where
  os : w1.os = w.os
  tape : w1.tape = w.tape
  output : w1.output = w.output
  size : w.heap.size ≤ w1.heap.size
  block : ∀ b, b < w.heap.size → b ∉ S → w1.heap[b]? = w.heap[b]?
namespace Kp
variable {w w0 w1 w2 : World} {S S' : List Nat}
theorem refl (w : World) : Kp w w [] := ⟨rfl, rfl, rfl, Nat.le_refl _, fun _ _ _ => rfl⟩
theorem below (h : Below w.heap.size w w1) : Kp w w1 [] := ⟨h.os, h.tape, h.output, h.size, fun b hb _ => h.block b hb⟩
theorem grown {row : Option Nat} (h : w.grownBy w1 row) : Kp w w1 row.toList := ⟨h.os, h.tape, h.output, h.size, fun b hb hn => h.block b hb (by rintro rfl; simp at hn)⟩
theorem set (w : World) (g j : Nat) (u : Value) : Kp w (w.setCell ⟨g, j, none⟩ u) [g] := ⟨rfl, rfl, rfl, by simp, fun b _ hn => Below.heap_setCell w ⟨g, j, none⟩ u b (by simpa using hn)⟩
theorem trans (h : Kp w w1 S) (k : Kp w1 w2 S') (hs : ∀ b ∈ S', b < w.heap.size → b ∈ S) : Kp w w2 S :=
  ⟨k.os.trans h.os, k.tape.trans h.tape, k.output.trans h.output, Nat.le_trans h.size k.size, fun b hb hn => (k.block b (Nat.lt_of_lt_of_le hb h.size) (fun hm => hn (hs b hm hb))).trans (h.block b hb hn)⟩
theorem mono (h : Kp w w1 S) (hs : ∀ b ∈ S, b < w.heap.size → b ∈ S') : Kp w w1 S' := ⟨h.os, h.tape, h.output, h.size, fun b hb hn => h.block b hb (fun hm => hn (hs b hm hb))⟩
theorem blk (h : Kp w w1 S) {g : Nat} {o : Obj} (hg : w.heap[g]? = some o) (hn : g ∉ S) : w1.heap[g]? = some o := (h.block g (blk_lt hg) hn).trans hg
theorem row (h : Kp w w1 S) {α : Type} {r : Rp α} {e : Nat} {v : Value} {xs : List α} {fp : List Nat} (hr : r.Row e w v xs fp) (hn : ∀ b ∈ fp, b ∉ S) : r.Row e w1 v xs fp := Rp.Row_step hr fun b hb hlt => h.block b hlt (hn b hb)
theorem toBelow (h : Kp w w1 S) {B : Nat} (hb : Below B w0 w) (hB : B ≤ w.heap.size) (hs : ∀ b ∈ S, B ≤ b) : Below B w0 w1 :=
  ⟨h.os.trans hb.os, h.tape.trans hb.tape, h.output.trans hb.output, Nat.le_trans hb.size h.size, fun k hk => (h.block k (Nat.lt_of_lt_of_le hk hB) (fun hm => Nat.lt_irrefl _ (Nat.lt_of_lt_of_le hk (hs k hm)))).trans (hb.block k hk)⟩
end Kp
theorem box_app {α : Type} {r : Rp α} {e t g : Nat} {W w2 : World} {v v1 : Value} {xs xs1 : List α} {fp fp1 : List Nat} {cells : Array Value} (HO : r.Row e W v xs fp) (hg : W.heap[g]? = some (.cells cells t (0, 0))) (ht : t ∉ e :: r.E) (hgr : W.grownBy w2 v.ownBlock)
    (hr1 : r.Row e w2 v1 xs1 fp1) (j : Nat) : r.Row e (w2.setCell ⟨g, j, none⟩ v1) v1 xs1 fp1 ∧ (w2.setCell ⟨g, j, none⟩ v1).heap[g]? = some (.cells (cells.setIfInBounds j v1) t (0, 0)) ∧ Kp W (w2.setCell ⟨g, j, none⟩ v1) (fp ++ [g]) := by
  have hg2 := blk_grown hg hgr (Rp.Row_ne HO (Rp.Row_not HO hg ht))
  refine ⟨Rp.Row_set hr1 hg2 ht j v1, blk_set hg2 j v1, ?_⟩
  exact ((Kp.grown hgr).mono (S' := fp ++ [g]) (fun b hb _ => List.mem_append_left _ (Rp.Row_block HO (by simpa using hb)))).trans (Kp.set w2 g j v1) (fun b hb _ => List.mem_append_right _ hb)
theorem set1 {w : World} {g t : Nat} {cells : Array Value} (h : w.heap[g]? = some (.cells cells t (0, 0))) (j : Nat) (x : Value) : (w.setCell ⟨g, j, none⟩ x).heap[g]? = some (.cells (cells.setIfInBounds j x) t (0, 0)) ∧ Kp w (w.setCell ⟨g, j, none⟩ x) [g] := ⟨blk_set h j x, Kp.set _ _ _ _⟩
theorem set2 {w : World} {g t : Nat} {a b : Value} (h : w.heap[g]? = some (.cells #[a, b] t (0, 0))) (x y : Value) : ((w.setCell ⟨g, 0, none⟩ x).setCell ⟨g, 1, none⟩ y).heap[g]? = some (.cells #[x, y] t (0, 0)) ∧ Kp w ((w.setCell ⟨g, 0, none⟩ x).setCell ⟨g, 1, none⟩ y) [g] :=
  ⟨blk_set (blk_set h 0 x) 1 y, (Kp.set _ _ _ _).trans (Kp.set _ _ _ _) (fun _ hb _ => hb)⟩
theorem set3 {w : World} {g t : Nat} {a b c : Value} (h : w.heap[g]? = some (.cells #[a, b, c] t (0, 0))) (x y z : Value) : (((w.setCell ⟨g, 0, none⟩ x).setCell ⟨g, 1, none⟩ y).setCell ⟨g, 2, none⟩ z).heap[g]? = some (.cells #[x, y, z] t (0, 0)) ∧ Kp w (((w.setCell ⟨g, 0, none⟩ x).setCell ⟨g, 1, none⟩ y).setCell ⟨g, 2, none⟩ z) [g] :=
  ⟨blk_set (blk_set (blk_set h 0 x) 1 y) 2 z, ((Kp.set _ _ _ _).trans (Kp.set _ _ _ _) (fun _ hb _ => hb)).trans (Kp.set _ _ _ _) (fun _ hb _ => hb)⟩
theorem blk_new' {w : World} (o : Obj) {n : Nat} (h : w.heap.size = n) : (w.alloc o).heap[n]? = some o := by subst h; exact blk_new w o
theorem alloc1 {w w1 : World} {o1 : Obj} (h : w.alloc o1 = w1) : w1.heap[w.heap.size]? = some o1 ∧ Below w.heap.size w w1 ∧ w1.heap.size = w.heap.size + 1 := by
  subst h
  exact ⟨blk_new w o1, below_alloc (Below.refl _ w) o1, by simp⟩
theorem alloc2 {w w1 : World} {o1 o2 : Obj} (h : (w.alloc o1).alloc o2 = w1) : w1.heap[w.heap.size]? = some o1 ∧ w1.heap[w.heap.size + 1]? = some o2 ∧ Below w.heap.size w w1 ∧ w1.heap.size = w.heap.size + 2 := by
  subst h
  exact ⟨blk_alloc (blk_new w o1) _, blk_new' _ (by simp), below_alloc (below_alloc (Below.refl _ w) o1) o2, by simp⟩
theorem alloc3 {w w1 : World} {o1 o2 o3 : Obj} (h : ((w.alloc o1).alloc o2).alloc o3 = w1) : w1.heap[w.heap.size]? = some o1 ∧ w1.heap[w.heap.size + 1]? = some o2 ∧ w1.heap[w.heap.size + 1 + 1]? = some o3 ∧ Below w.heap.size w w1 ∧ w1.heap.size = w.heap.size + 3 := by
  subst h
  exact ⟨blk_alloc (blk_alloc (blk_new w o1) _) _, blk_alloc (blk_new' _ (by simp)) _, blk_new' _ (by simp), below_alloc (below_alloc (below_alloc (Below.refl _ w) o1) o2) o3, by simp⟩
end Go.Proofs.Ytocdlibnmlcokaa
namespace Go.Proofs.Ytocdlibnmlcokaa
open Go.RowKit Go.Proofs.YtocdlibnmlcokaaW.PrintWords Go.Proofs.YtocdlibnmlcokaaW.PrintLast
set_option linter.unusedVariables false
set_option linter.unusedSimpArgs false
theorem info5 : (Try.prog.info? 5).map (fun i => (i.zero, i.size, i.bytes)) = some (some (.int .u8 0), 1, 1) := by kernel_rfl
abbrev rB : Rp Int := Rp.int .u8
abbrev kB : Kd Int := Kd.int .u8
theorem cp_c (A : Option Addr) (c : Nat) (xs : List Int) (w : World) (hx : kB.C w A xs.length xs) (hm : xs.length ≤ 140737488355328) :
    Calls Try.prog 114 #[.slice A xs.length c] w fun e w' => ∃ v, e = .returned v ∧ Rp.Got rB 5 w.heap.size w' v xs ∧ Below w.heap.size w w' := by
  have HX := Aside0.mk hx; have HM := Aside0.mk hm; clear hx hm
  go_enter Try.func114, Try.ntmps114
  go_wp2_with (at_builtin; refine Rp.app_row (enc := Value.int .u8) (h1 := fun _ => rfl) 0 rfl _ _ 22 5 (.int .u8 0) 1 rfl Try.underlying22 info5 rfl (by omega) (.slice none 0 0) [] xs A xs.length c rfl rfl (Rp.Row_nil rB 5 _) HX.out (by have := HM.out; simp; omega) ?_; intro v1 w1 fp1 hr hn hf hg; have HR := Aside0.mk hr; have HN := Aside0.mk hn; have HF := Aside0.mk hf; have HG := Aside0.mk hg; clear hr hn hf hg)
  go_ret
  exact ⟨_, rfl, ⟨fp1, HR.out, HN.out, fun b hb => by simpa using HF.out b hb⟩, (Below.refl _ _).grown HG.out (Nat.le_refl _) (by simp [Value.ownBlock])⟩
end Go.Proofs.Ytocdlibnmlcokaa
namespace Go.Proofs.Ytocdlibnmlcokaa
open Go Go.RowKit Go.Proofs.YtocdlibnmlcokaaW.PrintWords Go.Proofs.YtocdlibnmlcokaaW.PrintLast
set_option linter.unusedVariables false
def bl (n m : Nat) : Array Bool := ((List.range n).map m.testBit).toArray
section
variable {P : Program} {ops : Array Oper} {Q : Exit → Act → World → Prop} {md : Region.Mode} {S : World → Prop} {ds : List Nat} {n m fuel : Nat} {a a' : Act} {w w1 : World} {N : Option Tmp} {oi : Oper} {v : Value} {K : Act → World → Prop}
theorem sta (S : World → Prop) (ds : List Nat) {id : Nat} (n : Nat) (hS : S w.drew) (h : S w.drew → wpAnyLast P .any ops Q S ds n (bl n 0) a w.drew) (hm : P.follows .mixedOrders = true := by kernel_rfl) (hn : ops.size = n := by rfl) (hl : Array.replicate n false = bl n 0 := by kernel_rfl) : (Code.region id ops true).wp P Q a w :=
  start_ _ hm hn hl hS h
theorem pu (i m' : Nat) (h : wpAnyLast P md ops Q S ds fuel (bl n m') a' w) (hi : ops[i]? = some oi := by simp only [List.getElem?_toArray, List.getElem?_cons_succ, List.getElem?_cons_zero]; rfl) (hN : oi.dst = N := by rfl) (hc : anyB md ops (bl n m) (bl n m') i = true := by kernel_rfl)
    (hQ : ∀ c a w, Q (.panic c) (a.put oi.dst v) w → Q (.panic c) a w := by exact fun _ _ _ h => h) (hw : Region.wanted oi (yielded ops a.tmps) = true := by rfl)
    (hr : ∀ w', (execOp a.eval oi).run P w' = .ok (.value v) w' := by intro w'; go_simp; with_reducible rfl)
    (ha : a.put N v = a' := by first | (simp only [Act.put, List.setIfInBounds_toArray, List.set_cons_zero, List.set_cons_succ, i64_w, i32_w]; rfl) | rfl) : wpAnyLast P md ops Q S ds (fuel + 1) (bl n m) a w :=
  pure_ _ hi hN hc hQ (Or.inl ⟨hw, hr⟩) ha h
theorem po (i m' : Nat) (h : wpAnyLast P md ops Q S ds fuel (bl n m') a' w) (hi : ops[i]? = some oi := by simp only [List.getElem?_toArray, List.getElem?_cons_succ, List.getElem?_cons_zero]; rfl) (hN : oi.dst = N := by rfl) (hc : anyB md ops (bl n m) (bl n m') i = true := by kernel_rfl)
    (hQ : ∀ c a w, Q (.panic c) (a.put oi.dst undef) w → Q (.panic c) a w := by exact fun _ _ _ h => h) (hw : Region.wanted oi (yielded ops a.tmps) = false := by rfl)
    (ha : a.put N undef = a' := by first | (simp only [Act.put, List.setIfInBounds_toArray, List.set_cons_zero, List.set_cons_succ]; rfl) | rfl) : wpAnyLast P md ops Q S ds (fuel + 1) (bl n m) a w :=
  pure_ _ hi hN hc hQ (Or.inr ⟨hw, rfl⟩) ha h
theorem tk (i m' : Nat) (hS : S w) (h : wpAnyLast P md ops Q S ds fuel (bl n m') a' w) (hi : ops[i]? = some oi := by simp only [List.getElem?_toArray, List.getElem?_cons_succ, List.getElem?_cons_zero]; rfl) (hN : oi.dst = N := by rfl) (hc : takeB md ops ds (bl n m) (bl n m') i = true := by kernel_rfl)
    (hQ : ∀ c a w, Q (.panic c) (a.put oi.dst v) w → Q (.panic c) a w := by exact fun _ _ _ h => h) (hw : Region.wanted oi (yielded ops a.tmps) = true := by rfl)
    (hr : ∀ w', S w' → (execOp a.eval oi).run P w' = .ok (.value v) w' := by intro w' hs_; (try simp only [and_assoc] at hs_); go_simp; with_reducible rfl)
    (ha : a.put N v = a' := by first | (simp only [Act.put, List.setIfInBounds_toArray, List.set_cons_zero, List.set_cons_succ, i64_w, i32_w]; rfl) | rfl) : wpAnyLast P md ops Q S ds (fuel + 1) (bl n m) a w :=
  take_ _ hi hN hc hQ (Or.inl ⟨hw, hr⟩) hS ha h
theorem on (i m' : Nat) (h : ∀ K : Act → World → Prop, Shut (∀ a' w', S w' → (S w' → wpAnyLast P md ops Q S ds fuel (bl n m') a' w') → K a' w') → if Region.wanted oi (yielded ops a.tmps) = true then Oper.wp P oi a w K Q else K (a.put N undef) w)
    (hi : ops[i]? = some oi := by simp only [List.getElem?_toArray, List.getElem?_cons_succ, List.getElem?_cons_zero]; rfl) (hN : oi.dst = N := by rfl) (hc : readyB md ops (bl n m) (bl n m') i = true := by kernel_rfl) (hd : i ∉ ds := by decide) : wpAnyLast P md ops Q S ds (fuel + 1) (bl n m) a w := one_ _ hi hN hc hd h
theorem la (i m' : Nat) (h : ∀ K : Act → World → Prop, Shut (∀ a' w', wpAnyLast P md ops Q S ds fuel (bl n m') a' w' → K a' w') → if Region.wanted oi (yielded ops a.tmps) = true then Oper.wp P oi a w K Q else K (a.put N undef) w)
    (hi : ops[i]? = some oi := by simp only [List.getElem?_toArray, List.getElem?_cons_succ, List.getElem?_cons_zero]; rfl) (hN : oi.dst = N := by rfl) (hc : readyB md ops (bl n m) (bl n m') i = true := by kernel_rfl) (hd : i ∈ ds := by decide) : wpAnyLast P md ops Q S ds (fuel + 1) (bl n m) a w := last_ _ hi hN hc hd h
theorem nx {l' : Array Bool} (hK : Shut (∀ a' w', S w' → (S w' → wpAnyLast P md ops Q S ds fuel l' a' w') → K a' w')) (hS : S w) (h : S w → wpAnyLast P md ops Q S ds fuel l' a' w) (ha : a = a' := by first | (simp only [Act.put, List.setIfInBounds_toArray, List.set_cons_zero, List.set_cons_succ, i64_w, i32_w]; rfl) | rfl) : K a w := hK.out _ _ hS (fun hS => ha ▸ h hS)
theorem nl {l' : Array Bool} (hK : Shut (∀ a' w', wpAnyLast P md ops Q S ds fuel l' a' w' → K a' w')) (h : wpAnyLast P md ops Q S ds fuel l' a' w) (ha : a = a' := by first | (simp only [Act.put, List.setIfInBounds_toArray, List.set_cons_zero, List.set_cons_succ, i64_w, i32_w]; rfl) | rfl) : K a w := hK.out _ _ (ha ▸ h)
theorem dn {l : Array Bool} (h : Q .normal a w) (hr : (Region.ready md ops l == []) = true := by kernel_rfl) : wpAnyLast P md ops Q S ds n l a w := done_ hr h
theorem va (h : K (a.put N v) w1) (hw : Region.wanted oi (yielded ops a.tmps) = true := by rfl) (hN : oi.dst = N := by rfl) (hrun : (execOp a.eval oi).run P w = .ok (.value v) w1 := by go_simp; constructor <;> rfl) : if Region.wanted oi (yielded ops a.tmps) = true then Oper.wp P oi a w K Q else K (a.put N undef) w := value_ hw hN hrun h
theorem st (h : K a w1) (hw : Region.wanted oi (yielded ops a.tmps) = true := by rfl) (hN : oi.dst = none := by rfl) (hrun : (execOp a.eval oi).run P w = .ok .skip w1 := by go_simp; rfl) : if Region.wanted oi (yielded ops a.tmps) = true then Oper.wp P oi a w K Q else K (a.put none undef) w := skip_ hw hN hrun h
theorem ca {R : Ending → World → Prop} {f : FuncId} {fn : Func} {A : Array Operand} {ts : Array TypeId} {args : Array Value} (hcon : Calls P f args w R) (hf : P.funcs[f]? = some fn) (h : ∀ e w', R e w' → ∃ v, e = .returned v ∧ K (a.put N v) w')
    (hname : (fn.name == "runtime.NumGoroutine") = false := by kernel_rfl) (hb : fn.body.isSome = true := by rfl) (hw : Region.wanted oi (yielded ops a.tmps) = true := by rfl) (hN : oi.dst = N := by rfl)
    (hop : oi.op = .call { callee := .value (.func f), args := A, argTypes := ts } := by rfl) (hargs : A.map a.eval = args := by simp only [List.map_toArray, List.map_cons, List.map_nil]; rfl) : if Region.wanted oi (yielded ops a.tmps) = true then Oper.wp P oi a w K Q else K (a.put N undef) w :=
  goes_ hf hname hb args hw hN hop hargs (hcon.mono h)
end
end Go.Proofs.Ytocdlibnmlcokaa
namespace Go.Proofs.Ytocdlibnmlcokaa
open Go.RowKit Go.Proofs.YtocdlibnmlcokaaW.PrintWords Go.Proofs.YtocdlibnmlcokaaW.PrintLast
set_option linter.unusedVariables false
set_option linter.unusedSimpArgs false
theorem info22 : (Try.prog.info? 22).map (fun i => (i.zero, i.size, i.bytes)) = some (some (.slice none 0 0), 1, 24) := by kernel_rfl
theorem info147 : (Try.prog.info? 147).map (fun i => (i.zero, i.size, i.bytes)) = some (some (.agg #[(.int .i64 0), (.slice none 0 0)]), 2, 32) := by kernel_rfl
def gBS (xs : List (List Int)) (i : Int) : List Int := xs.getD i.toNat []
structure Wr where
  block : Int
  bytes : List Int
def gW (xs : List Wr) (i : Int) : Wr := xs.getD i.toNat ⟨0, []⟩
abbrev rBS : Rp (List Int) := Rp.slice 5 rB
abbrev rW : Rp Wr := Rp.iso (Rp.pair (Rp.int .i64) rBS) (fun x => (x.block, x.bytes))
theorem at_BS {w : World} {A : Option Addr} {n : Nat} {xs : List (List Int)} (h : rBS.d.C w A n xs) (i : Int) (h0 : 0 ≤ i) (h1 : i < n) : ∃ ad A0 c0, A = some ad ∧ w.cell? (ad.add i.toNat) = some (.slice A0 (gBS xs i).length c0) ∧ (gBS xs i).length ≤ c0 ∧ kB.C w A0 (gBS xs i).length (gBS xs i) := by
  obtain ⟨ad, c, e, _, hK, hc0⟩ := Kd.C_get h ([] : List Int) i h0 h1
  have hc : ∀ j u, c[j]? = some u → w.cell? (ad.add (i.toNat * 1 + j)) = some u := hc0
  obtain ⟨A0, c0, rfl, l0, g0⟩ := hK
  exact ⟨ad, A0, c0, e, by have hq := hc 0 _ rfl; rwa [Nat.mul_one, Nat.add_zero] at hq, l0, g0⟩
theorem at_W {w : World} {A : Option Addr} {n : Nat} {xs : List Wr} (h : rW.d.C w A n xs) (i : Int) (h0 : 0 ≤ i) (h1 : i < n) : ∃ ad A1 c1, A = some ad ∧ w.cell? (ad.add (i.toNat * 2)) = some (.int .i64 (gW xs i).block) ∧ w.cell? ⟨(ad.add (i.toNat * 2)).block, (ad.add (i.toNat * 2)).off + 1, none⟩ = some (.slice A1 (gW xs i).bytes.length c1) ∧ (gW xs i).bytes.length ≤ c1 ∧ kB.C w A1 (gW xs i).bytes.length (gW xs i).bytes := by
  obtain ⟨ad, c, e, _, hK, hc0⟩ := Kd.C_get h (⟨0, []⟩ : Wr) i h0 h1
  have hc : ∀ j u, c[j]? = some u → w.cell? (ad.add (i.toNat * 2 + j)) = some u := hc0
  obtain ⟨_, _, rfl, rfl, ⟨A1, c1, rfl, l1, g1⟩⟩ := hK
  exact ⟨ad, A1, c1, e, hc 0 _ rfl, by rw [← add_field _ _ 1 (by omega)]; exact hc 1 _ rfl, l1, g1⟩
theorem W_mk {w : World} {v : Value} {fp : List Nat} (x : Wr) (h : rB.Row 5 w v x.bytes fp) : rW.P w x [.int .i64 x.block, v] fp := ⟨[.int .i64 x.block], [v], [], fp, rfl, rfl, ⟨rfl, rfl⟩, ⟨v, rfl, h⟩⟩
theorem W_open {w : World} {cs : List Value} {fp : List Nat} {x : Wr} (h : rW.P w x cs fp) : ∃ v, cs = [.int .i64 x.block, v] ∧ rB.Row 5 w v x.bytes fp := by
  obtain ⟨c0, c1, f0, f1, rfl, rfl, ⟨rfl, rfl⟩, ⟨v, rfl, h⟩⟩ := h
  exact ⟨v, rfl, h⟩
theorem take_snoc_g {xs : List (List Int)} {i : Int} (h : i.toNat < xs.length) : xs.take (i.toNat + 1) = xs.take i.toNat ++ [gBS xs i] := by
  rw [List.take_succ_eq_append_getElem h]; simp [gBS, List.getD_eq_getElem?_getD, h]
theorem take_snoc_w {xs : List Wr} {i : Int} (h : i.toNat < xs.length) : xs.take (i.toNat + 1) = xs.take i.toNat ++ [gW xs i] := by
  rw [List.take_succ_eq_append_getElem h]; simp [gW, List.getD_eq_getElem?_getD, h]
def GotDisk (w : World) (bs : List (List Int)) (ws : List Wr) (e : Ending) (w' : World) : Prop :=
  ∃ v0 v1 f0 f1, e = .returned (.agg #[v0, v1]) ∧ rBS.Row 22 w' v0 bs f0 ∧ rW.Row 147 w' v1 ws f1 ∧ (f0 ++ f1).Nodup ∧ (∀ b ∈ f0 ++ f1, w.heap.size ≤ b) ∧ Below w.heap.size w w'
set_option maxHeartbeats 1000000 in
set_option maxRecDepth 100000 in
theorem copyDisk_c (A0 : Option Addr) (c0 : Nat) (bs : List (List Int)) (A1 : Option Addr) (c1 : Nat) (ws : List Wr) (w : World) (hb : rBS.d.C w A0 bs.length bs) (hw : rW.d.C w A1 ws.length ws)
    (hm : bs.length ≤ 1000) (hm1 : ws.length ≤ 1000) (hm2 : ∀ x ∈ bs, x.length ≤ 1000) (hm3 : ∀ x ∈ ws, x.bytes.length ≤ 1000) :
    Calls Try.prog 115 #[.agg #[.slice A0 bs.length c0, .slice A1 ws.length c1]] w (GotDisk w bs ws) := by
  have HX := Aside0.mk hb; have HY := Aside0.mk hw; clear hb hw
  have HM := Aside0.mk hm; have HM1 := Aside0.mk hm1; have HM2 := Aside0.mk hm2; have HM3 := Aside0.mk hm3; clear hm hm1 hm2 hm3
  go_enter Try.func115, Try.ntmps115
  go_wp2
  generalize hw1 : World.alloc (World.alloc (World.alloc w _) _) _ = w1
  obtain ⟨K1, K2, K3, hB, _⟩ := alloc3 hw1
  clear hw1
  have BK1 := Aside0.mk K1; have BK2 := Aside0.mk K2; have BK3 := Aside0.mk K3; have HB := Aside0.mk hB; clear K1 K2 K3 hB
  go_loopg [11] bs.length (fun k v wr => ∃ (i : Int) (u : Value) (f0 : List Nat), v = .int .i64 i ∧ Aside0 (0 ≤ i ∧ i ≤ bs.length ∧ bs.length - i.toNat ≤ k) ∧ Aside0 (rBS.Row 22 wr u (bs.take i.toNat) f0) ∧ Aside0 (f0.Nodup ∧ ∀ b ∈ f0, w.heap.size ≤ b)
     ∧ Aside0 (wr.heap[w.heap.size]? = some (Obj.cells #[Value.slice A0 bs.length c0, Value.slice A1 ws.length c1] 43)) ∧ Aside0 (wr.heap[w.heap.size + 1]? = some (Obj.cells #[Value.slice none 0 0, Value.slice none 0 0] 43)) ∧ Aside0 (wr.heap[w.heap.size + 1 + 1]? = some (Obj.cells #[u, Value.slice none 0 0] 43)) ∧ Aside0 (Below w.heap.size w wr))
  case atStart => exact ⟨0, _, [], rfl, ⟨by simp⟩, ⟨Rp.Row_nil _ _ _⟩, ⟨by simp⟩, BK1, BK2, BK3, HB⟩
  case round =>
    clear BK1 BK2 BK3 HB
    obtain ⟨i, u, f0, rfl, HI, HO, HF, BK1, BK2, BK3, HB⟩ := hrel
    by_cases h1 : i < (bs.length : Int)
    · have h0 : 0 ≤ i := HI.out.1
      obtain ⟨ad, Ai, ci, e1, hc1, hl1, hC1⟩ := at_BS (Kd.C_below HX.out HB.out) i h0 h1
      cases e1
      have HC1 := Aside0.mk hC1; have HL1 := Aside0.mk hl1; clear hC1 hl1
      go_wp2
      have HLi : Aside0 ((gBS bs i).length ≤ 1000) := ⟨by have := HM2.out; exact this _ (by unfold gBS; rw [List.getD_eq_getElem?_getD, List.getElem?_eq_getElem (by omega)]; simp)⟩
      refine sta (fun w' => w'.cell? ⟨w.heap.size + 1 + 1, 0, none⟩ = some u) [7] 8 ((blk_cell BK3.out 0).trans rfl) (fun hS => ?_)
      replace HO := Aside0.mk (Rp.Row_drew HO.out)
      replace HC1 := Aside0.mk (Kd.C_drew HC1.out)
      replace BK1 := Aside0.mk (blk_drew BK1.out)
      replace BK2 := Aside0.mk (blk_drew BK2.out)
      replace BK3 := Aside0.mk (blk_drew BK3.out)
      replace HB := Aside0.mk (below_drew HB.out)
      generalize wr.drew = wd at HO HC1 BK1 BK2 BK3 HB hS ⊢
      refine pu 0 1 ?_
      refine pu 2 5 ?_
      refine tk 1 7 hS ?_
      refine on 3 15 (fun K hK => ?_)
      refine ca (cp_c _ _ (gBS bs i) _ HC1.out (by have := HLi.out; omega)) Try.func114 ?_
      rintro e wa ⟨va_, rfl, ⟨fa, hra, hna, hfa⟩, hba⟩
      obtain ⟨Aa, ca_, rfl, _, _⟩ := Rp.Row_reads hra
      refine ⟨_, rfl, nx hK (pw_cell_below hba hS) (fun hS => ?_)⟩
      clear hK K
      refine on 4 31 (fun K hK => ?_)
      refine va ?_
      refine nx hK (pw_cell_below (below_alloc (Below.refl _ _) _) hS) (fun hS => ?_)
      clear hK K
      have HOa := Rp.Row_below HO.out hba
      have BKa := blk_below BK3.out hba
      refine on 5 63 (fun K hK => ?_)
      refine Rp.app_one_step rBS (by rfl) (.tmp 16) (.tmp 19) 40 22 (.slice none 0 0) 24 (by rfl) Try.underlying40 info22 rfl (by decide) (by omega) u (bs.take i.toNat) (gBS bs i) [.slice Aa (gBS bs i).length ca_] (by rfl) (by rfl) HOa ⟨_, rfl, hra⟩ (Rp.nodup_new HF.out.1 hna (Rp.Row_lt HO.out) hfa) (by have := HM.out; have := HI.out; simp; omega) ?_
      intro v1 w2 fp1 hr1 hn1 hf1 hg1
      generalize hL : List.take i.toNat bs ++ [gBS bs i] = L at hr1
      have HL := Aside0.mk hL; clear hL
      obtain ⟨Av, cv, rfl, _, _⟩ := Rp.Row_reads hr1
      obtain ⟨hr3, hk3, kp3⟩ := box_app HOa BKa (by decide) hg1 hr1 0
      have BKw := blk_grown BKa hg1 (Rp.Row_ne HOa (Rp.Row_not HOa BKa (by decide)))
      refine nx hK ((blk_cell BKw 0).trans rfl) (fun hS => ?_)
      clear hK K
      refine pu 6 127 ?_
      refine la 7 255 (fun K hK => ?_)
      have z := blk_frozen BKw 0
      refine st ?_
      refine nl hK (dn ?_)
      clear hK K z hS
      generalize w2.setCell _ _ = wf at hr3 hk3 kp3 ⊢
      have kp : Kp wd wf (f0 ++ [w.heap.size + 1 + 1]) := ((Kp.below hba).mono (by simp)).trans kp3 (fun b hb _ => hb)
      have BK1 := Aside0.mk (kp.blk BK1.out (by have := Rp.Row_not HO.out BK1.out (by decide); simp; exact ⟨this, by omega⟩))
      have BK2 := Aside0.mk (kp.blk BK2.out (by have := Rp.Row_not HO.out BK2.out (by decide); simp; exact this))
      have HB1 := Aside0.mk (kp.toBelow HB.out HB.out.size (fun b hb => by rcases List.mem_append.1 hb with h | h; exact HF.out.2 b h; simp at h; omega))
      have HF1 : Aside0 (fp1.Nodup ∧ ∀ b ∈ fp1, w.heap.size ≤ b) := ⟨hn1, fun b hb => by
        rcases hf1 b hb with h | h | h
        · exact HF.out.2 b h
        · have := hfa b h; have := HB.out.size; omega
        · have := hba.size; have := HB.out.size; omega⟩
      have HR1 := Aside0.mk hr3; have BK3 := Aside0.mk hk3
      clear hn1 hf1 hg1 hr1 hba hfa hna hra hr3 hk3 kp kp3 HOa BKa BKw HO HB
      go_wp2
      go_roundg (gk - 1)
      case measure => have := HI.out; omega
      case rel =>
        refine ⟨i + 1, _, fp1, ?_, ⟨by have := HI.out; omega, by have := HI.out; omega, by have := HI.out; omega⟩, ?_, HF1, BK1, BK2, BK3, HB1⟩
        · first | rfl | (rw [wrap_succ (by omega) (by have := HM.out; omega)])
        · have := HR1.out; rw [show (i + 1).toNat = i.toNat + 1 by omega]; exact ⟨by rw [take_snoc_g (by have := HI.out; omega), HL.out]; exact this⟩
    · have hi := HI.out
      have e1 : bs.take i.toNat = bs := List.take_of_length_le (by omega)
      replace HO := HO.out; rw [e1] at HO; replace HO := Aside0.mk HO
      clear e1 hi
      have c1_ := (blk_cell BK1.out 1).trans rfl
      go_wp2
      clear c1_
      obtain ⟨wo, hwo⟩ : ∃ wo : World, wo = wr := ⟨_, rfl⟩
      rw [← hwo] at HO BK1 BK2 BK3 HB
      rw [← hwo]
      clear hwo
      go_loopg [26] ws.length (fun k v wr => ∃ (i : Int) (u2 : Value) (f1 : List Nat), v = .int .i64 i ∧ Aside0 (0 ≤ i ∧ i ≤ ws.length ∧ ws.length - i.toNat ≤ k) ∧ Aside0 (rBS.Row 22 wr u bs f0) ∧ Aside0 (rW.Row 147 wr u2 (ws.take i.toNat) f1) ∧ Aside0 ((f0 ++ f1).Nodup ∧ ∀ b ∈ f0 ++ f1, w.heap.size ≤ b)
         ∧ Aside0 (wr.heap[w.heap.size]? = some (Obj.cells #[Value.slice A0 bs.length c0, Value.slice A1 ws.length c1] 43)) ∧ Aside0 (wr.heap[w.heap.size + 1]? = some (Obj.cells #[Value.slice none 0 0, Value.slice none 0 0] 43)) ∧ Aside0 (wr.heap[w.heap.size + 1 + 1]? = some (Obj.cells #[u, u2] 43)) ∧ Aside0 (Below w.heap.size w wr))
      case atStart => exact ⟨0, _, [], rfl, ⟨by simp⟩, HO, ⟨Rp.Row_nil _ _ _⟩, ⟨by simpa using HF.out⟩, BK1, BK2, BK3, HB⟩
      case round =>
        clear BK1 BK2 BK3 HB HO HF
        obtain ⟨i, u2, f1, rfl, HI, HO, HO2, HF, BK1, BK2, BK3, HB⟩ := hrel
        by_cases h1 : i < (ws.length : Int)
        · have h0 : 0 ≤ i := HI.out.1
          obtain ⟨ad, Ai, ci, e1, hc1, hc2, hl1, hC1⟩ := at_W (Kd.C_below HY.out HB.out) i h0 h1
          cases e1
          have HC1 := Aside0.mk hC1; have HL1 := Aside0.mk hl1; clear hC1 hl1
          go_wp2
          have HLi : Aside0 ((gW ws i).bytes.length ≤ 1000) := ⟨by have := HM3.out; exact this _ (by unfold gW; rw [List.getD_eq_getElem?_getD, List.getElem?_eq_getElem (by omega)]; simp)⟩
          have BKe := Aside0.mk (blk_new wr (Obj.cells #[Value.int IntKind.i64 (gW ws i).block, Value.slice Ai (gW ws i).bytes.length ci] 147))
          have HLo := Aside0.mk (Rp.Row_lt HO.out); have HLo2 := Aside0.mk (Rp.Row_lt HO2.out)
          have ne3 : w.heap.size + 1 + 1 < wr.heap.size := blk_lt BK3.out
          replace HO := Aside0.mk (Rp.Row_drew (Rp.Row_alloc HO.out (Obj.cells #[Value.int IntKind.i64 (gW ws i).block, Value.slice Ai (gW ws i).bytes.length ci] 147)))
          replace HO2 := Aside0.mk (Rp.Row_drew (Rp.Row_alloc HO2.out (Obj.cells #[Value.int IntKind.i64 (gW ws i).block, Value.slice Ai (gW ws i).bytes.length ci] 147)))
          replace HC1 := Aside0.mk (Kd.C_drew (Kd.C_alloc HC1.out (Obj.cells #[Value.int IntKind.i64 (gW ws i).block, Value.slice Ai (gW ws i).bytes.length ci] 147)))
          replace BKe := Aside0.mk (blk_drew BKe.out)
          replace BK1 := Aside0.mk (blk_drew (blk_alloc BK1.out (Obj.cells #[Value.int IntKind.i64 (gW ws i).block, Value.slice Ai (gW ws i).bytes.length ci] 147)))
          replace BK2 := Aside0.mk (blk_drew (blk_alloc BK2.out (Obj.cells #[Value.int IntKind.i64 (gW ws i).block, Value.slice Ai (gW ws i).bytes.length ci] 147)))
          replace BK3 := Aside0.mk (blk_drew (blk_alloc BK3.out (Obj.cells #[Value.int IntKind.i64 (gW ws i).block, Value.slice Ai (gW ws i).bytes.length ci] 147)))
          replace HB := Aside0.mk (below_drew (below_then HB.out HB.out.size (below_alloc (Below.refl _ wr) (Obj.cells #[Value.int IntKind.i64 (gW ws i).block, Value.slice Ai (gW ws i).bytes.length ci] 147))))
          clear hc1 hc2
          refine sta (fun w' => w'.cell? ⟨w.heap.size + 1 + 1, 1, none⟩ = some u2 ∧ w'.cell? ⟨wr.heap.size, 0, none⟩ = some (.int .i64 (gW ws i).block) ∧ w'.cell? ⟨wr.heap.size, 1, none⟩ = some (.slice Ai (gW ws i).bytes.length ci)) [11] 12 ⟨(blk_cell BK3.out 1).trans rfl, (blk_cell BKe.out 0).trans rfl, (blk_cell BKe.out 1).trans rfl⟩ (fun hS => ?_)
          generalize hwd : (wr.alloc _).drew = wd at HO HO2 HC1 BKe BK1 BK2 BK3 HB hS ⊢
          clear hwd
          generalize wr.heap.size = gb at HLo HLo2 ne3 BKe hS ⊢
          refine pu 0 1 ?_
          refine pu 2 5 ?_
          refine pu 4 21 ?_
          refine tk 1 23 hS ?_
          refine tk 3 31 hS ?_
          refine tk 5 63 hS ?_
          refine on 6 127 (fun K hK => ?_)
          refine ca (cp_c _ _ (gW ws i).bytes _ HC1.out (by have := HLi.out; omega)) Try.func114 ?_
          rintro e wa ⟨va_, rfl, ⟨fa, hra, hna, hfa⟩, hba⟩
          obtain ⟨Aa, ca_, rfl, _, _⟩ := Rp.Row_reads hra
          refine ⟨_, rfl, nx hK ⟨pw_cell_below hba hS.1, pw_cell_below hba hS.2.1, pw_cell_below hba hS.2.2⟩ (fun hS => ?_)⟩
          clear hK K
          have hSa := hS
          refine pu 7 255 ?_
          refine on 8 511 (fun K hK => ?_)
          refine va ?_
          refine nx hK ⟨pw_cell_below (below_alloc (Below.refl _ _) _) hS.1, pw_cell_below (below_alloc (Below.refl _ _) _) hS.2.1, pw_cell_below (below_alloc (Below.refl _ _) _) hS.2.2⟩ (fun hS => ?_)
          clear hK K
          have HOa := Rp.Row_below HO.out hba
          have HO2a := Rp.Row_below HO2.out hba
          have BKa := blk_below BK3.out hba
          have hnd := List.nodup_append.1 HF.out.1
          refine on 9 1023 (fun K hK => ?_)
          refine Rp.app_one_step rW (by rfl) (.tmp 31) (.tmp 38) 41 147 (.agg #[(.int .i64 0), (.slice none 0 0)]) 32 (by rfl) Try.underlying41 info147 rfl (by decide) (by omega) u2 (ws.take i.toNat) (⟨(gW ws i).block, (gW ws i).bytes⟩ : Wr) [.int .i64 (gW ws i).block, .slice Aa (gW ws i).bytes.length ca_] (by rfl) (by rfl) HO2a (W_mk ⟨(gW ws i).block, (gW ws i).bytes⟩ hra) (Rp.nodup_new hnd.2.1 hna (Rp.Row_lt HO2.out) hfa) (by have := HM1.out; have := HI.out; simp; omega) ?_
          intro v1 w2 fp1 hr1 hn1 hf1 hg1
          generalize hL : List.take i.toNat ws ++ [(⟨(gW ws i).block, (gW ws i).bytes⟩ : Wr)] = L at hr1
          have HL := Aside0.mk hL; clear hL
          obtain ⟨Av, cv, rfl, _, _⟩ := Rp.Row_reads hr1
          obtain ⟨hr3, hk3, kp3⟩ := box_app HO2a BKa (by decide) hg1 hr1 1
          have BKw := blk_grown BKa hg1 (Rp.Row_ne HO2a (Rp.Row_not HO2a BKa (by decide)))
          refine nx hK ?_ (fun hS => ?_)
          · refine ⟨(blk_cell BKw 1).trans rfl, hg1.cell hSa.2.1 ?_, hg1.cell hSa.2.2 ?_⟩
            · exact Rp.Row_ne HO2a (fun h => by have := HLo2.out gb h; omega)
            · exact Rp.Row_ne HO2a (fun h => by have := HLo2.out gb h; omega)
          clear hK K
          refine pu 10 2047 ?_
          refine la 11 4095 (fun K hK => ?_)
          have z := blk_frozen BKw 1
          refine st ?_
          refine nl hK (dn ?_)
          clear hK K z hS hSa
          generalize w2.setCell _ _ = wf at hr3 hk3 kp3 ⊢
          have kp : Kp wd wf (f1 ++ [w.heap.size + 1 + 1]) := ((Kp.below hba).mono (by simp)).trans kp3 (fun b hb _ => hb)
          have n1 := Rp.Row_not HO2.out BK1.out (by decide)
          have n2 := Rp.Row_not HO2.out BK2.out (by decide)
          have n3 := Rp.Row_not HO.out BK3.out (by decide)
          have BK1 := Aside0.mk (kp.blk BK1.out (by simp; exact ⟨n1, by omega⟩))
          have BK2 := Aside0.mk (kp.blk BK2.out (by simp; exact n2))
          have HO1 := Aside0.mk (kp.row HO.out (fun b hb hm => by
            rcases List.mem_append.1 hm with h | h
            · exact hnd.2.2 b hb b h rfl
            · simp at h; exact n3 (h ▸ hb)))
          have HB1 := Aside0.mk (kp.toBelow HB.out HB.out.size (fun b hb => by rcases List.mem_append.1 hb with h | h; exact HF.out.2 b (List.mem_append_right _ h); simp at h; omega))
          have HF1 : Aside0 ((f0 ++ fp1).Nodup ∧ ∀ b ∈ f0 ++ fp1, w.heap.size ≤ b) := ⟨List.nodup_append.2 ⟨hnd.1, hn1, fun a ha b hb he => by
              subst he
              have h5 := Rp.Row_lt HO.out a ha
              rcases hf1 a hb with h | h | h
              · exact hnd.2.2 a ha a h rfl
              · have := hfa a h; omega
              · have := hba.size; omega⟩, fun b hb => by
            rcases List.mem_append.1 hb with h | h
            · exact HF.out.2 b (List.mem_append_left _ h)
            rcases hf1 b h with h | h | h
            · exact HF.out.2 b (List.mem_append_right _ h)
            · have := hfa b h; have := HB.out.size; omega
            · have := hba.size; have := HB.out.size; omega⟩
          have HR1 := Aside0.mk hr3; have BK3 := Aside0.mk hk3
          clear hn1 hf1 hg1 hr1 hba hfa hna hra hr3 hk3 kp kp3 HOa HO2a BKa BKw HO HB n1 n2 n3 hnd
          go_wp2
          go_roundg (gk - 1)
          case measure => have := HI.out; omega
          case rel =>
            refine ⟨i + 1, _, fp1, ?_, ⟨by have := HI.out; omega, by have := HI.out; omega, by have := HI.out; omega⟩, HO1, ?_, HF1, BK1, BK2, BK3, HB1⟩
            · first | rfl | (rw [wrap_succ (by omega) (by have := HM1.out; omega)])
            · have := HR1.out; rw [show (i + 1).toNat = i.toNat + 1 by omega]; exact ⟨by rw [take_snoc_w (by have := HI.out; omega)]; rw [show [gW ws i] = [(⟨(gW ws i).block, (gW ws i).bytes⟩ : Wr)] from rfl, HL.out]; exact this⟩
        · have hi := HI.out
          have e1 : ws.take i.toNat = ws := List.take_of_length_le (by omega)
          replace HO2 := HO2.out; rw [e1] at HO2
          obtain ⟨Av, cv, rfl, _, _⟩ := Rp.Row_reads HO2
          obtain ⟨Au, cu, rfl, _, _⟩ := Rp.Row_reads HO.out
          clear e1 hi
          have c0_ := (blk_cell BK3.out 0).trans rfl
          have c1_ := (blk_cell BK3.out 1).trans rfl
          have c2_ := (blk_cell BK2.out 0).trans rfl
          have c3_ := (blk_cell BK2.out 1).trans rfl
          have z0_ := blk_frozen BK2.out 0
          have z1_ := blk_frozen BK2.out 1
          obtain ⟨K5, kp⟩ := set2 BK2.out (.slice Au bs.length cu) (.slice Av ws.length cv)
          have H2 := Aside0.mk HO2; clear HO2
          have K5 := Aside0.mk K5; have kp := Aside0.mk kp
          go_wp2
          refine bodyPost_ret (results_cell_row rfl _ _ (w.heap.size + 1) 43 #[.slice Au bs.length cu, .slice Av ws.length cv] (0, 0) _ rfl K5.out Try.underlying43 rfl (by kernel_rfl)) rfl ?_
          have n2 := Rp.Row_not HO.out BK2.out (by decide)
          have n3 := Rp.Row_not H2.out BK2.out (by decide)
          exact ⟨_, _, f0, f1, rfl, kp.out.row HO.out (fun b hb h => by simp at h; exact n2 (h ▸ hb)), kp.out.row H2.out (fun b hb h => by simp at h; exact n3 (h ▸ hb)), HF.out.1, HF.out.2, kp.out.toBelow HB.out HB.out.size (fun b hb => by simp at hb; omega)⟩
end Go.Proofs.Ytocdlibnmlcokaa
namespace Go.Proofs.Ytocdlibnmlcokaa
open Go.RowKit Go.Proofs.YtocdlibnmlcokaaW.PrintWords Go.Proofs.YtocdlibnmlcokaaW.PrintLast
set_option linter.unusedVariables false
set_option linter.unusedSimpArgs false
theorem empty_row (w : World) : rB.Row 5 (w.alloc (.cells #[] 5)) (.slice (some ⟨w.heap.size, 0, none⟩) 0 0) [] [w.heap.size] :=
  ⟨[], [], ⟨rfl, .inr ⟨w.heap.size, 0, #[], rfl, Nat.zero_le _, blk_new w _, Nat.le_refl _, by simp [maxLen], rfl, rfl⟩⟩, .nil, rfl⟩
theorem empty_after {w wa : World} {fa : List Nat} (hg : (w.alloc (.cells #[] 5)).grownBy wa (Value.slice (some ⟨w.heap.size, 0, none⟩) 0 0).ownBlock) (hf : ∀ b ∈ fa, b ∈ [w.heap.size] ∨ (w.alloc (.cells #[] 5)).heap.size ≤ b) :
    Below w.heap.size w wa ∧ ∀ b ∈ fa, w.heap.size ≤ b := by
  refine ⟨(below_alloc (Below.refl _ w) (.cells #[] 5)).grown hg (by simp) (fun k hk => by simp [Value.ownBlock] at hk; omega), fun b hb => ?_⟩
  rcases hf b hb with h | h
  · simp at h; omega
  · simp at h; omega
set_option maxHeartbeats 1000000 in
set_option maxRecDepth 100000 in
theorem l2copy_c (A0 : Option Addr) (c0 : Nat) (bs : List (List Int)) (A1 : Option Addr) (c1 : Nat) (ws : List Wr) (w : World) (hb : rBS.d.C w A0 bs.length bs) (hw : rW.d.C w A1 ws.length ws)
    (hm : bs.length ≤ 1000) (hm1 : ws.length ≤ 1000) (hm2 : ∀ x ∈ bs, x.length ≤ 1000) (hm3 : ∀ x ∈ ws, x.bytes.length ≤ 1000) :
    Calls Try.prog 121 #[.agg #[.slice A0 bs.length c0, .slice A1 ws.length c1]] w (GotDisk w bs ws) := by
  have HX := Aside0.mk hb; have HY := Aside0.mk hw; clear hb hw
  have HM := Aside0.mk hm; have HM1 := Aside0.mk hm1; have HM2 := Aside0.mk hm2; have HM3 := Aside0.mk hm3; clear hm hm1 hm2 hm3
  go_enter Try.func121, Try.ntmps121
  go_wp2
  generalize hw1 : World.alloc (World.alloc (World.alloc w _) _) _ = w1
  obtain ⟨K1, K2, K3, hB, _⟩ := alloc3 hw1
  clear hw1
  have BK1 := Aside0.mk K1; have BK2 := Aside0.mk K2; have BK3 := Aside0.mk K3; have HB := Aside0.mk hB; clear K1 K2 K3 hB
  go_loopg [11] bs.length (fun k v wr => ∃ (i : Int) (u : Value) (f0 : List Nat), v = .int .i64 i ∧ Aside0 (0 ≤ i ∧ i ≤ bs.length ∧ bs.length - i.toNat ≤ k) ∧ Aside0 (rBS.Row 22 wr u (bs.take i.toNat) f0) ∧ Aside0 (f0.Nodup ∧ ∀ b ∈ f0, w.heap.size ≤ b)
     ∧ Aside0 (wr.heap[w.heap.size]? = some (Obj.cells #[Value.slice A0 bs.length c0, Value.slice A1 ws.length c1] 43)) ∧ Aside0 (wr.heap[w.heap.size + 1]? = some (Obj.cells #[Value.slice none 0 0, Value.slice none 0 0] 43)) ∧ Aside0 (wr.heap[w.heap.size + 1 + 1]? = some (Obj.cells #[u, Value.slice none 0 0] 43)) ∧ Aside0 (Below w.heap.size w wr))
  case atStart => exact ⟨0, _, [], rfl, ⟨by simp⟩, ⟨Rp.Row_nil _ _ _⟩, ⟨by simp⟩, BK1, BK2, BK3, HB⟩
  case round =>
    clear BK1 BK2 BK3 HB
    obtain ⟨i, u, f0, rfl, HI, HO, HF, BK1, BK2, BK3, HB⟩ := hrel
    by_cases h1 : i < (bs.length : Int)
    · have h0 : 0 ≤ i := HI.out.1
      obtain ⟨ad, Ai, ci, e1, hc1, hl1, hC1⟩ := at_BS (Kd.C_below HX.out HB.out) i h0 h1
      cases e1
      have HC1 := Aside0.mk hC1; have HL1 := Aside0.mk hl1; clear hC1 hl1
      go_wp2
      have HLi : Aside0 ((gBS bs i).length ≤ 1000) := ⟨by have := HM2.out; exact this _ (by unfold gBS; rw [List.getD_eq_getElem?_getD, List.getElem?_eq_getElem (by omega)]; simp)⟩
      refine sta (fun w' => w'.cell? ⟨w.heap.size + 1 + 1, 0, none⟩ = some u) [8] 9 ((blk_cell BK3.out 0).trans rfl) (fun hS => ?_)
      replace HO := Aside0.mk (Rp.Row_drew HO.out)
      replace HC1 := Aside0.mk (Kd.C_drew HC1.out)
      replace BK1 := Aside0.mk (blk_drew BK1.out)
      replace BK2 := Aside0.mk (blk_drew BK2.out)
      replace BK3 := Aside0.mk (blk_drew BK3.out)
      replace HB := Aside0.mk (below_drew HB.out)
      generalize wr.drew = wd at HO HC1 BK1 BK2 BK3 HB hS ⊢
      refine pu 0 1 ?_
      refine pu 3 9 ?_
      refine tk 1 11 hS ?_
      refine on 2 15 (fun K hK => ?_)
      refine va ?_
      refine nx hK (pw_cell_below (below_alloc (Below.refl _ _) _) hS) (fun hS => ?_)
      clear hK K
      refine on 4 31 (fun K hK => ?_)
      refine Rp.app_row_step (by rfl) (.tmp 17) (.tmp 18) 22 5 (.int .u8 0) 1 (by rfl) Try.underlying22 info5 rfl (by decide) (.slice (some ⟨wd.heap.size, 0, none⟩) 0 0) [] (gBS bs i) Ai (gBS bs i).length ci (by rfl) (by rfl) (empty_row wd) (Kd.C_alloc HC1.out _) (by have := HLi.out; simp; omega) ?_
      intro va_ wa fa hra hna hfa0 hga0
      obtain ⟨hba, hfa⟩ := empty_after hga0 hfa0
      rw [List.nil_append] at hra
      clear hga0 hfa0
      obtain ⟨Aa, ca_, rfl, _, _⟩ := Rp.Row_reads hra
      have hS0 : wd.cell? ⟨w.heap.size + 1 + 1, 0, none⟩ = some u := (blk_cell BK3.out 0).trans rfl
      refine nx hK (pw_cell_below hba hS0) (fun hS => ?_)
      clear hK K hS0
      refine on 5 63 (fun K hK => ?_)
      refine va ?_
      refine nx hK (pw_cell_below (below_alloc (Below.refl _ _) _) hS) (fun hS => ?_)
      clear hK K
      have HOa := Rp.Row_below HO.out hba
      have BKa := blk_below BK3.out hba
      refine on 6 127 (fun K hK => ?_)
      refine Rp.app_one_step rBS (by rfl) (.tmp 16) (.tmp 20) 40 22 (.slice none 0 0) 24 (by rfl) Try.underlying40 info22 rfl (by decide) (by omega) u (bs.take i.toNat) (gBS bs i) [.slice Aa (gBS bs i).length ca_] (by rfl) (by rfl) HOa ⟨_, rfl, hra⟩ (Rp.nodup_new HF.out.1 hna (Rp.Row_lt HO.out) hfa) (by have := HM.out; have := HI.out; simp; omega) ?_
      intro v1 w2 fp1 hr1 hn1 hf1 hg1
      generalize hL : List.take i.toNat bs ++ [gBS bs i] = L at hr1
      have HL := Aside0.mk hL; clear hL
      obtain ⟨Av, cv, rfl, _, _⟩ := Rp.Row_reads hr1
      obtain ⟨hr3, hk3, kp3⟩ := box_app HOa BKa (by decide) hg1 hr1 0
      have BKw := blk_grown BKa hg1 (Rp.Row_ne HOa (Rp.Row_not HOa BKa (by decide)))
      refine nx hK ((blk_cell BKw 0).trans rfl) (fun hS => ?_)
      clear hK K
      refine pu 7 255 ?_
      refine la 8 511 (fun K hK => ?_)
      have z := blk_frozen BKw 0
      refine st ?_
      refine nl hK (dn ?_)
      clear hK K z hS
      generalize w2.setCell _ _ = wf at hr3 hk3 kp3 ⊢
      have kp : Kp wd wf (f0 ++ [w.heap.size + 1 + 1]) := ((Kp.below hba).mono (by simp)).trans kp3 (fun b hb _ => hb)
      have BK1 := Aside0.mk (kp.blk BK1.out (by have := Rp.Row_not HO.out BK1.out (by decide); simp; exact ⟨this, by omega⟩))
      have BK2 := Aside0.mk (kp.blk BK2.out (by have := Rp.Row_not HO.out BK2.out (by decide); simp; exact this))
      have HB1 := Aside0.mk (kp.toBelow HB.out HB.out.size (fun b hb => by rcases List.mem_append.1 hb with h | h; exact HF.out.2 b h; simp at h; omega))
      have HF1 : Aside0 (fp1.Nodup ∧ ∀ b ∈ fp1, w.heap.size ≤ b) := ⟨hn1, fun b hb => by
        rcases hf1 b hb with h | h | h
        · exact HF.out.2 b h
        · have := hfa b h; have := HB.out.size; omega
        · have := hba.size; have := HB.out.size; omega⟩
      have HR1 := Aside0.mk hr3; have BK3 := Aside0.mk hk3
      clear hn1 hf1 hg1 hr1 hba hfa hna hra hr3 hk3 kp kp3 HOa BKa BKw HO HB
      go_wp2
      go_roundg (gk - 1)
      case measure => have := HI.out; omega
      case rel =>
        refine ⟨i + 1, _, fp1, ?_, ⟨by have := HI.out; omega, by have := HI.out; omega, by have := HI.out; omega⟩, ?_, HF1, BK1, BK2, BK3, HB1⟩
        · first | rfl | (rw [wrap_succ (by omega) (by have := HM.out; omega)])
        · have := HR1.out; rw [show (i + 1).toNat = i.toNat + 1 by omega]; exact ⟨by rw [take_snoc_g (by have := HI.out; omega), HL.out]; exact this⟩
    · have hi := HI.out
      have e1 : bs.take i.toNat = bs := List.take_of_length_le (by omega)
      replace HO := HO.out; rw [e1] at HO; replace HO := Aside0.mk HO
      clear e1 hi
      have c1_ := (blk_cell BK1.out 1).trans rfl
      go_wp2
      clear c1_
      obtain ⟨wo, hwo⟩ : ∃ wo : World, wo = wr := ⟨_, rfl⟩
      rw [← hwo] at HO BK1 BK2 BK3 HB
      rw [← hwo]
      clear hwo
      go_loopg [27] ws.length (fun k v wr => ∃ (i : Int) (u2 : Value) (f1 : List Nat), v = .int .i64 i ∧ Aside0 (0 ≤ i ∧ i ≤ ws.length ∧ ws.length - i.toNat ≤ k) ∧ Aside0 (rBS.Row 22 wr u bs f0) ∧ Aside0 (rW.Row 147 wr u2 (ws.take i.toNat) f1) ∧ Aside0 ((f0 ++ f1).Nodup ∧ ∀ b ∈ f0 ++ f1, w.heap.size ≤ b)
         ∧ Aside0 (wr.heap[w.heap.size]? = some (Obj.cells #[Value.slice A0 bs.length c0, Value.slice A1 ws.length c1] 43)) ∧ Aside0 (wr.heap[w.heap.size + 1]? = some (Obj.cells #[Value.slice none 0 0, Value.slice none 0 0] 43)) ∧ Aside0 (wr.heap[w.heap.size + 1 + 1]? = some (Obj.cells #[u, u2] 43)) ∧ Aside0 (Below w.heap.size w wr))
      case atStart => exact ⟨0, _, [], rfl, ⟨by simp⟩, HO, ⟨Rp.Row_nil _ _ _⟩, ⟨by simpa using HF.out⟩, BK1, BK2, BK3, HB⟩
      case round =>
        clear BK1 BK2 BK3 HB HO HF
        obtain ⟨i, u2, f1, rfl, HI, HO, HO2, HF, BK1, BK2, BK3, HB⟩ := hrel
        by_cases h1 : i < (ws.length : Int)
        · have h0 : 0 ≤ i := HI.out.1
          obtain ⟨ad, Ai, ci, e1, hc1, hc2, hl1, hC1⟩ := at_W (Kd.C_below HY.out HB.out) i h0 h1
          cases e1
          have HC1 := Aside0.mk hC1; have HL1 := Aside0.mk hl1; clear hC1 hl1
          go_wp2
          have HLi : Aside0 ((gW ws i).bytes.length ≤ 1000) := ⟨by have := HM3.out; exact this _ (by unfold gW; rw [List.getD_eq_getElem?_getD, List.getElem?_eq_getElem (by omega)]; simp)⟩
          have BKe := Aside0.mk (blk_new wr (Obj.cells #[Value.int IntKind.i64 (gW ws i).block, Value.slice Ai (gW ws i).bytes.length ci] 147))
          have HLo := Aside0.mk (Rp.Row_lt HO.out); have HLo2 := Aside0.mk (Rp.Row_lt HO2.out)
          have ne3 : w.heap.size + 1 + 1 < wr.heap.size := blk_lt BK3.out
          replace HO := Aside0.mk (Rp.Row_drew (Rp.Row_alloc HO.out (Obj.cells #[Value.int IntKind.i64 (gW ws i).block, Value.slice Ai (gW ws i).bytes.length ci] 147)))
          replace HO2 := Aside0.mk (Rp.Row_drew (Rp.Row_alloc HO2.out (Obj.cells #[Value.int IntKind.i64 (gW ws i).block, Value.slice Ai (gW ws i).bytes.length ci] 147)))
          replace HC1 := Aside0.mk (Kd.C_drew (Kd.C_alloc HC1.out (Obj.cells #[Value.int IntKind.i64 (gW ws i).block, Value.slice Ai (gW ws i).bytes.length ci] 147)))
          replace BKe := Aside0.mk (blk_drew BKe.out)
          replace BK1 := Aside0.mk (blk_drew (blk_alloc BK1.out (Obj.cells #[Value.int IntKind.i64 (gW ws i).block, Value.slice Ai (gW ws i).bytes.length ci] 147)))
          replace BK2 := Aside0.mk (blk_drew (blk_alloc BK2.out (Obj.cells #[Value.int IntKind.i64 (gW ws i).block, Value.slice Ai (gW ws i).bytes.length ci] 147)))
          replace BK3 := Aside0.mk (blk_drew (blk_alloc BK3.out (Obj.cells #[Value.int IntKind.i64 (gW ws i).block, Value.slice Ai (gW ws i).bytes.length ci] 147)))
          replace HB := Aside0.mk (below_drew (below_then HB.out HB.out.size (below_alloc (Below.refl _ wr) (Obj.cells #[Value.int IntKind.i64 (gW ws i).block, Value.slice Ai (gW ws i).bytes.length ci] 147))))
          clear hc1 hc2
          refine sta (fun w' => w'.cell? ⟨w.heap.size + 1 + 1, 1, none⟩ = some u2 ∧ w'.cell? ⟨wr.heap.size, 0, none⟩ = some (.int .i64 (gW ws i).block) ∧ w'.cell? ⟨wr.heap.size, 1, none⟩ = some (.slice Ai (gW ws i).bytes.length ci)) [12] 13 ⟨(blk_cell BK3.out 1).trans rfl, (blk_cell BKe.out 0).trans rfl, (blk_cell BKe.out 1).trans rfl⟩ (fun hS => ?_)
          generalize hwd : (wr.alloc _).drew = wd at HO HO2 HC1 BKe BK1 BK2 BK3 HB hS ⊢
          clear hwd
          generalize wr.heap.size = gb at HLo HLo2 ne3 BKe hS ⊢
          refine pu 0 1 ?_
          refine pu 2 5 ?_
          refine pu 5 37 ?_
          refine tk 1 39 hS ?_
          refine tk 3 47 hS ?_
          refine tk 6 111 hS ?_
          refine on 4 127 (fun K hK => ?_)
          refine va ?_
          refine nx hK ⟨pw_cell_below (below_alloc (Below.refl _ _) _) hS.1, pw_cell_below (below_alloc (Below.refl _ _) _) hS.2.1, pw_cell_below (below_alloc (Below.refl _ _) _) hS.2.2⟩ (fun hS2 => ?_)
          clear hK K hS2
          refine on 7 255 (fun K hK => ?_)
          refine Rp.app_row_step (by rfl) (.tmp 35) (.tmp 37) 22 5 (.int .u8 0) 1 (by rfl) Try.underlying22 info5 rfl (by decide) (.slice (some ⟨wd.heap.size, 0, none⟩) 0 0) [] (gW ws i).bytes Ai (gW ws i).bytes.length ci (by rfl) (by rfl) (empty_row wd) (Kd.C_alloc HC1.out _) (by have := HLi.out; simp; omega) ?_
          intro va_ wa fa hra hna hfa0 hga0
          obtain ⟨hba, hfa⟩ := empty_after hga0 hfa0
          rw [List.nil_append] at hra
          clear hga0 hfa0
          obtain ⟨Aa, ca_, rfl, _, _⟩ := Rp.Row_reads hra
          refine nx hK ⟨pw_cell_below hba hS.1, pw_cell_below hba hS.2.1, pw_cell_below hba hS.2.2⟩ (fun hS => ?_)
          clear hK K
          have hSa := hS
          refine pu 8 511 ?_
          refine on 9 1023 (fun K hK => ?_)
          refine va ?_
          refine nx hK ⟨pw_cell_below (below_alloc (Below.refl _ _) _) hS.1, pw_cell_below (below_alloc (Below.refl _ _) _) hS.2.1, pw_cell_below (below_alloc (Below.refl _ _) _) hS.2.2⟩ (fun hS => ?_)
          clear hK K
          have HOa := Rp.Row_below HO.out hba
          have HO2a := Rp.Row_below HO2.out hba
          have BKa := blk_below BK3.out hba
          have hnd := List.nodup_append.1 HF.out.1
          refine on 10 2047 (fun K hK => ?_)
          refine Rp.app_one_step rW (by rfl) (.tmp 32) (.tmp 40) 41 147 (.agg #[(.int .i64 0), (.slice none 0 0)]) 32 (by rfl) Try.underlying41 info147 rfl (by decide) (by omega) u2 (ws.take i.toNat) (⟨(gW ws i).block, (gW ws i).bytes⟩ : Wr) [.int .i64 (gW ws i).block, .slice Aa (gW ws i).bytes.length ca_] (by rfl) (by rfl) HO2a (W_mk ⟨(gW ws i).block, (gW ws i).bytes⟩ hra) (Rp.nodup_new hnd.2.1 hna (Rp.Row_lt HO2.out) hfa) (by have := HM1.out; have := HI.out; simp; omega) ?_
          intro v1 w2 fp1 hr1 hn1 hf1 hg1
          generalize hL : List.take i.toNat ws ++ [(⟨(gW ws i).block, (gW ws i).bytes⟩ : Wr)] = L at hr1
          have HL := Aside0.mk hL; clear hL
          obtain ⟨Av, cv, rfl, _, _⟩ := Rp.Row_reads hr1
          obtain ⟨hr3, hk3, kp3⟩ := box_app HO2a BKa (by decide) hg1 hr1 1
          have BKw := blk_grown BKa hg1 (Rp.Row_ne HO2a (Rp.Row_not HO2a BKa (by decide)))
          refine nx hK ?_ (fun hS => ?_)
          · refine ⟨(blk_cell BKw 1).trans rfl, hg1.cell hSa.2.1 ?_, hg1.cell hSa.2.2 ?_⟩
            · exact Rp.Row_ne HO2a (fun h => by have := HLo2.out gb h; omega)
            · exact Rp.Row_ne HO2a (fun h => by have := HLo2.out gb h; omega)
          clear hK K
          refine pu 11 4095 ?_
          refine la 12 8191 (fun K hK => ?_)
          have z := blk_frozen BKw 1
          refine st ?_
          refine nl hK (dn ?_)
          clear hK K z hS hSa
          generalize w2.setCell _ _ = wf at hr3 hk3 kp3 ⊢
          have kp : Kp wd wf (f1 ++ [w.heap.size + 1 + 1]) := ((Kp.below hba).mono (by simp)).trans kp3 (fun b hb _ => hb)
          have n1 := Rp.Row_not HO2.out BK1.out (by decide)
          have n2 := Rp.Row_not HO2.out BK2.out (by decide)
          have n3 := Rp.Row_not HO.out BK3.out (by decide)
          have BK1 := Aside0.mk (kp.blk BK1.out (by simp; exact ⟨n1, by omega⟩))
          have BK2 := Aside0.mk (kp.blk BK2.out (by simp; exact n2))
          have HO1 := Aside0.mk (kp.row HO.out (fun b hb hm => by
            rcases List.mem_append.1 hm with h | h
            · exact hnd.2.2 b hb b h rfl
            · simp at h; exact n3 (h ▸ hb)))
          have HB1 := Aside0.mk (kp.toBelow HB.out HB.out.size (fun b hb => by rcases List.mem_append.1 hb with h | h; exact HF.out.2 b (List.mem_append_right _ h); simp at h; omega))
          have HF1 : Aside0 ((f0 ++ fp1).Nodup ∧ ∀ b ∈ f0 ++ fp1, w.heap.size ≤ b) := ⟨List.nodup_append.2 ⟨hnd.1, hn1, fun a ha b hb he => by
              subst he
              have h5 := Rp.Row_lt HO.out a ha
              rcases hf1 a hb with h | h | h
              · exact hnd.2.2 a ha a h rfl
              · have := hfa a h; omega
              · have := hba.size; omega⟩, fun b hb => by
            rcases List.mem_append.1 hb with h | h
            · exact HF.out.2 b (List.mem_append_left _ h)
            rcases hf1 b h with h | h | h
            · exact HF.out.2 b (List.mem_append_right _ h)
            · have := hfa b h; have := HB.out.size; omega
            · have := hba.size; have := HB.out.size; omega⟩
          have HR1 := Aside0.mk hr3; have BK3 := Aside0.mk hk3
          clear hn1 hf1 hg1 hr1 hba hfa hna hra hr3 hk3 kp kp3 HOa HO2a BKa BKw HO HB n1 n2 n3 hnd
          go_wp2
          go_roundg (gk - 1)
          case measure => have := HI.out; omega
          case rel =>
            refine ⟨i + 1, _, fp1, ?_, ⟨by have := HI.out; omega, by have := HI.out; omega, by have := HI.out; omega⟩, HO1, ?_, HF1, BK1, BK2, BK3, HB1⟩
            · first | rfl | (rw [wrap_succ (by omega) (by have := HM1.out; omega)])
            · have := HR1.out; rw [show (i + 1).toNat = i.toNat + 1 by omega]; exact ⟨by rw [take_snoc_w (by have := HI.out; omega)]; rw [show [gW ws i] = [(⟨(gW ws i).block, (gW ws i).bytes⟩ : Wr)] from rfl, HL.out]; exact this⟩
        · have hi := HI.out
          have e1 : ws.take i.toNat = ws := List.take_of_length_le (by omega)
          replace HO2 := HO2.out; rw [e1] at HO2
          obtain ⟨Av, cv, rfl, _, _⟩ := Rp.Row_reads HO2
          obtain ⟨Au, cu, rfl, _, _⟩ := Rp.Row_reads HO.out
          clear e1 hi
          have c0_ := (blk_cell BK3.out 0).trans rfl
          have c1_ := (blk_cell BK3.out 1).trans rfl
          have c2_ := (blk_cell BK2.out 0).trans rfl
          have c3_ := (blk_cell BK2.out 1).trans rfl
          have z0_ := blk_frozen BK2.out 0
          have z1_ := blk_frozen BK2.out 1
          obtain ⟨K5, kp⟩ := set2 BK2.out (.slice Au bs.length cu) (.slice Av ws.length cv)
          have H2 := Aside0.mk HO2; clear HO2
          have K5 := Aside0.mk K5; have kp := Aside0.mk kp
          go_wp2
          refine bodyPost_ret (results_cell_row rfl _ _ (w.heap.size + 1) 43 #[.slice Au bs.length cu, .slice Av ws.length cv] (0, 0) _ rfl K5.out Try.underlying43 rfl (by kernel_rfl)) rfl ?_
          have n2 := Rp.Row_not HO.out BK2.out (by decide)
          have n3 := Rp.Row_not H2.out BK2.out (by decide)
          exact ⟨_, _, f0, f1, rfl, kp.out.row HO.out (fun b hb h => by simp at h; exact n2 (h ▸ hb)), kp.out.row H2.out (fun b hb h => by simp at h; exact n3 (h ▸ hb)), HF.out.1, HF.out.2, kp.out.toBelow HB.out HB.out.size (fun b hb => by simp at hb; omega)⟩
end Go.Proofs.Ytocdlibnmlcokaa
namespace Go.Proofs.Ytocdlibnmlcokaa
open Go.RowKit Go.Proofs.YtocdlibnmlcokaaW.PrintWords Go.Proofs.YtocdlibnmlcokaaW.PrintLast
set_option linter.unusedVariables false
set_option linter.unusedSimpArgs false
def GotApp {α : Type} (r : Rp α) (e : Nat) (w : World) (xs : List α) (fp : List Nat) (en : Ending) (w' : World) : Prop :=
  ∃ v f, en = .returned v ∧ r.Row e w' v xs f ∧ f.Nodup ∧ (∀ b ∈ f, b ∈ fp ∨ w.heap.size ≤ b) ∧ Kp w w' fp
def shTo (v : Int) : Nat → Int
  | 0 => v
  | i + 1 => shTo v i / 256
def lowTo (v : Int) : Nat → List Int
  | 0 => []
  | i + 1 => lowTo v i ++ [shTo v i % 256]
theorem lowTo_len (v : Int) : ∀ i, (lowTo v i).length = i
  | 0 => rfl
  | i + 1 => by simp only [lowTo, List.length_append, lowTo_len v i, List.length_cons, List.length_nil]
set_option maxHeartbeats 1000000 in
set_option maxRecDepth 100000 in
theorem low_c (v0 : Value) (xs : List Int) (fp : List Nat) (v : Int) (k : Nat) (w : World) (hr : rB.Row 5 w v0 xs fp) (hn : fp.Nodup) (hl : xs.length ≤ 1000) (hk : k ≤ 8) :
    Calls Try.prog 148 #[v0, .int .u64 v, .int .i64 k] w (GotApp rB 5 w (xs ++ lowTo v k) fp) := by
  have HR := Aside0.mk hr; have HN := Aside0.mk hn; clear hr hn
  go_enter Try.func148, Try.ntmps148
  go_wp2
  go_loopg [0, 1, 8] k (fun m vu vv vi wr => ∃ (i : Int) (f0 : List Nat), vi = .int .i64 i ∧ vv = .int .u64 (shTo v i.toNat) ∧ Aside0 (0 ≤ i ∧ i ≤ k ∧ k - i.toNat ≤ m) ∧ Aside0 (rB.Row 5 wr vu (xs ++ lowTo v i.toNat) f0) ∧ Aside0 (f0.Nodup ∧ ∀ b ∈ f0, b ∈ fp ∨ w.heap.size ≤ b) ∧ Aside0 (Kp w wr fp))
  case atStart => exact ⟨0, fp, rfl, rfl, ⟨by simp⟩, ⟨by simpa [lowTo] using HR.out⟩, ⟨HN.out, fun b hb => .inl hb⟩, ⟨(Kp.below (Below.refl _ w)).mono (by simp)⟩⟩
  case round =>
    obtain ⟨i, f0, rfl, rfl, HI, HO, HF, HK⟩ := hrel
    by_cases h1 : i < (k : Int)
    · have h0 : 0 ≤ i := HI.out.1
      have hi2 : i.toNat ≤ 8 := by have := HI.out; omega
      go_wp2_with (at_builtin; go_loud (refine Rp.app_one rB rfl (.tmp 10) (.tmp 13) 22 5 (.int .u8 0) 1 rfl Try.underlying22 info5 rfl (by decide) (by decide) _ _ (shTo v i.toNat % 256) _ rfl rfl HO.out (fpx := []) ⟨rfl, rfl⟩ (by simpa using HF.out.1) (by have := lowTo_len v i.toNat; simp; omega) ?_); intro v1 w1 fp1 hr hn hf hg; have HR1 := Aside0.mk hr; have HN1 := Aside0.mk hn; have HF1 := Aside0.mk hf; have HG1 := Aside0.mk hg; clear hr hn hf hg)
      go_roundg (gk - 1)
      case measure => have := HI.out; omega
      case rel =>
        refine ⟨i + 1, fp1, ?_, ?_, ⟨by have := HI.out; omega, by have := HI.out; omega, by have := HI.out; omega⟩, ⟨?_⟩, ⟨HN1.out, fun b hb => ?_⟩, ⟨?_⟩⟩
        · first | rfl | (rw [wrap_succ (by omega) (by omega)])
        · rw [show (i + 1).toNat = i.toNat + 1 by omega]; rfl
        · have := HR1.out; rw [List.append_assoc] at this; rw [show (i + 1).toNat = i.toNat + 1 by omega]; exact this
        · rcases HF1.out b hb with h | h | h
          · exact HF.out.2 b h
          · cases h
          · exact .inr (Nat.le_trans HK.out.size h)
        · refine HK.out.trans ((Kp.grown HG1.out).mono (S' := f0) (fun b hb _ => ?_)) (fun b hb hlt => ?_)
          · exact Rp.Row_block HO.out (Option.mem_toList.1 hb)
          · rcases HF.out.2 b hb with h | h
            · exact h
            · omega
    · have e1 : i.toNat = k := by have := HI.out; omega
      rw [e1] at HO
      go_wp2
      go_ret
      exact ⟨_, f0, rfl, HO.out, HF.out.1, HF.out.2, HK.out⟩
set_option maxHeartbeats 1000000 in
set_option maxRecDepth 100000 in
theorem l1put_c (v0 : Value) (xs : List Int) (fp : List Nat) (v : Int) (k : Nat) (w : World) (hr : rB.Row 5 w v0 xs fp) (hn : fp.Nodup) (hl : xs.length ≤ 1000) (hk : k ≤ 8) :
    Calls Try.prog 156 #[v0, .int .u64 v, .int .i64 k] w (GotApp rB 5 w (xs ++ lowTo v k) fp) := by
  have HR := Aside0.mk hr; have HN := Aside0.mk hn; clear hr hn
  go_enter Try.func156, Try.ntmps156
  go_wp2
  go_loopg [0, 1, 7] k (fun m vu vv vi wr => ∃ (i : Int) (f0 : List Nat), vi = .int .i64 i ∧ vv = .int .u64 (shTo v i.toNat) ∧ Aside0 (0 ≤ i ∧ i ≤ k ∧ k - i.toNat ≤ m) ∧ Aside0 (rB.Row 5 wr vu (xs ++ lowTo v i.toNat) f0) ∧ Aside0 (f0.Nodup ∧ ∀ b ∈ f0, b ∈ fp ∨ w.heap.size ≤ b) ∧ Aside0 (Kp w wr fp))
  case atStart => exact ⟨0, fp, rfl, rfl, ⟨by simp⟩, ⟨by simpa [lowTo] using HR.out⟩, ⟨HN.out, fun b hb => .inl hb⟩, ⟨(Kp.below (Below.refl _ w)).mono (by simp)⟩⟩
  case round =>
    obtain ⟨i, f0, rfl, rfl, HI, HO, HF, HK⟩ := hrel
    by_cases h1 : i < (k : Int)
    · have h0 : 0 ≤ i := HI.out.1
      have hi2 : i.toNat ≤ 8 := by have := HI.out; omega
      go_wp2_with (at_builtin; go_loud (refine Rp.app_one rB rfl (.tmp 13) (.tmp 16) 22 5 (.int .u8 0) 1 rfl Try.underlying22 info5 rfl (by decide) (by decide) _ _ (shTo v i.toNat % 256) _ rfl rfl HO.out (fpx := []) ⟨rfl, rfl⟩ (by simpa using HF.out.1) (by have := lowTo_len v i.toNat; simp; omega) ?_); intro v1 w1 fp1 hr hn hf hg; have HR1 := Aside0.mk hr; have HN1 := Aside0.mk hn; have HF1 := Aside0.mk hf; have HG1 := Aside0.mk hg; clear hr hn hf hg)
      go_roundg (gk - 1)
      case measure => have := HI.out; omega
      case rel =>
        refine ⟨i + 1, fp1, ?_, ?_, ⟨by have := HI.out; omega, by have := HI.out; omega, by have := HI.out; omega⟩, ⟨?_⟩, ⟨HN1.out, fun b hb => ?_⟩, ⟨?_⟩⟩
        · first | rfl | (rw [wrap_succ (by omega) (by omega)])
        · rw [show (i + 1).toNat = i.toNat + 1 by omega]; rfl
        · have := HR1.out; rw [List.append_assoc] at this; rw [show (i + 1).toNat = i.toNat + 1 by omega]; exact this
        · rcases HF1.out b hb with h | h | h
          · exact HF.out.2 b h
          · cases h
          · exact .inr (Nat.le_trans HK.out.size h)
        · refine HK.out.trans ((Kp.grown HG1.out).mono (S' := f0) (fun b hb _ => ?_)) (fun b hb hlt => ?_)
          · exact Rp.Row_block HO.out (Option.mem_toList.1 hb)
          · rcases HF.out.2 b hb with h | h
            · exact h
            · omega
    · have e1 : i.toNat = k := by have := HI.out; omega
      rw [e1] at HO
      go_wp2
      go_ret
      exact ⟨_, f0, rfl, HO.out, HF.out.1, HF.out.2, HK.out⟩
end Go.Proofs.Ytocdlibnmlcokaa
namespace Go.Proofs.Ytocdlibnmlcokaa
open Go.RowKit Go.Proofs.YtocdlibnmlcokaaW.PrintWords Go.Proofs.YtocdlibnmlcokaaW.PrintLast
set_option linter.unusedVariables false
set_option linter.unusedSimpArgs false
def step8 (v x : Int) : Int := bits BinOp.or IntKind.u64 (IntKind.u64.wrap (v * 256)) (IntKind.u64.wrap x)
def numL : List Int → Int
  | [] => 0
  | x :: r => step8 (numL r) x
theorem numL_drop (xs : List Int) {i : Int} (h0 : 0 ≤ i) (h1 : i < xs.length) : numL (xs.drop i.toNat) = step8 (numL (xs.drop (i + 1).toNat)) (rd xs i) := by
  rw [List.drop_eq_getElem_cons (by omega : i.toNat < xs.length), show (i + 1).toNat = i.toNat + 1 by omega]
  simp only [numL]
  rw [rd_eq (by omega)]
def sumTo (xs : List Int) : Nat → Int
  | 0 => 0
  | i + 1 => if i = 1 then sumTo xs i else IntKind.u8.wrap (sumTo xs i + rd xs i)
set_option maxHeartbeats 1000000 in
theorem num_c (A : Option Addr) (c : Nat) (xs : List Int) (w : World) (hx : kB.C w A xs.length xs) :
    Calls Try.prog 162 #[.slice A xs.length c] w (fun e w' => e = .returned (.int .u64 (numL xs)) ∧ w' = w) := by
  have hl : xs.length ≤ 9223372036854775807 := hx.2.1
  have HX := Aside0.mk hx; clear hx
  go_enter Try.func162, Try.ntmps162
  go_wp2
  go_loopg [3, 4] xs.length (fun m vv vi wr => ∃ i : Int, vi = .int .i64 i ∧ vv = .int .u64 (numL (xs.drop (i + 1).toNat)) ∧ Aside0 (-1 ≤ i ∧ i < xs.length ∧ (i + 1).toNat ≤ m) ∧ wr = w)
  case atStart => exact ⟨xs.length - 1, rfl, by rw [List.drop_of_length_le (by omega)]; rfl, ⟨by omega⟩, rfl⟩
  case round =>
    obtain ⟨i, rfl, rfl, HI, rfl⟩ := hrel
    by_cases h1 : 0 ≤ i
    · have h0 : i < xs.length := HI.out.2.1
      obtain ⟨ad, e1, c1⟩ := Kd.at_int HX.out i h1 h0
      cases e1
      go_wp2
      go_roundg (gk - 1)
      case measure => have := HI.out; omega
      case rel =>
        refine ⟨i - 1, rfl, ?_, ⟨by omega, by omega, by have := HI.out; omega⟩, rfl⟩
        rw [show (i - 1 + 1).toNat = i.toNat by omega, numL_drop xs h1 h0]
        rfl
    · have hi := HI.out
      have e2 : (i + 1).toNat = 0 := by omega
      rw [e2]
      clear hi
      go_wp2
      go_ret
      exact ⟨rfl, rfl⟩
set_option maxHeartbeats 1000000 in
theorem l1get_c (A : Option Addr) (c : Nat) (xs : List Int) (w : World) (hx : kB.C w A xs.length xs) :
    Calls Try.prog 163 #[.slice A xs.length c] w (fun e w' => e = .returned (.int .u64 (numL xs)) ∧ w' = w) := by
  have hl : xs.length ≤ 9223372036854775807 := hx.2.1
  have HX := Aside0.mk hx; clear hx
  go_enter Try.func163, Try.ntmps163
  go_wp2
  go_loopg [3, 4] xs.length (fun m vv vi wr => ∃ i : Int, vi = .int .i64 i ∧ vv = .int .u64 (numL (xs.drop (i + 1).toNat)) ∧ Aside0 (-1 ≤ i ∧ i < xs.length ∧ (i + 1).toNat ≤ m) ∧ wr = w)
  case atStart => exact ⟨xs.length - 1, rfl, by rw [List.drop_of_length_le (by omega)]; rfl, ⟨by omega⟩, rfl⟩
  case round =>
    obtain ⟨i, rfl, rfl, HI, rfl⟩ := hrel
    by_cases h1 : 0 ≤ i
    · have h0 : i < xs.length := HI.out.2.1
      obtain ⟨ad, e1, c1⟩ := Kd.at_int HX.out i h1 h0
      cases e1
      go_wp2
      go_roundg (gk - 1)
      case measure => have := HI.out; omega
      case rel =>
        refine ⟨i - 1, rfl, ?_, ⟨by omega, by omega, by have := HI.out; omega⟩, rfl⟩
        rw [show (i - 1 + 1).toNat = i.toNat by omega, numL_drop xs h1 h0]
        rfl
    · have hi := HI.out
      have e2 : (i + 1).toNat = 0 := by omega
      rw [e2]
      clear hi
      go_wp2
      go_ret
      exact ⟨rfl, rfl⟩
set_option maxHeartbeats 1000000 in
theorem check_c (A : Option Addr) (c : Nat) (xs : List Int) (w : World) (hx : kB.C w A xs.length xs) :
    Calls Try.prog 149 #[.slice A xs.length c] w (fun e w' => e = .returned (.int .u8 (sumTo xs xs.length)) ∧ w' = w) := by
  have hl : xs.length ≤ 9223372036854775807 := hx.2.1
  have HX := Aside0.mk hx; clear hx
  go_enter Try.func149, Try.ntmps149
  go_wp2
  go_loopg [3, 8] xs.length (fun m vv vi wr => ∃ i : Int, vi = .int .i64 i ∧ vv = .int .u8 (sumTo xs i.toNat) ∧ Aside0 (0 ≤ i ∧ i ≤ xs.length ∧ xs.length - i.toNat ≤ m) ∧ wr = w)
  case atStart => exact ⟨0, rfl, rfl, ⟨by simp⟩, rfl⟩
  case round =>
    obtain ⟨i, rfl, rfl, HI, rfl⟩ := hrel
    by_cases h1 : i < (xs.length : Int)
    · have h0 : 0 ≤ i := HI.out.1
      obtain ⟨ad, e1, c1⟩ := Kd.at_int HX.out i h0 h1
      cases e1
      have hs : sumTo xs (i.toNat + 1) = if i = 1 then sumTo xs i.toNat else IntKind.u8.wrap (sumTo xs i.toNat + rd xs i) := by
        simp only [sumTo]
        by_cases e : i = 1
        · subst e; rfl
        · rw [if_neg e, if_neg (by omega)]; rfl
      have HS := Aside0.mk hs
      clear hs
      by_cases e : i = 1
      · have e1 : i ≤ 1 := by omega
        have e2 : 1 ≤ i := by omega
        clear e
        go_wp2
        go_roundg (gk - 1)
        case measure => have := HI.out; omega
        case rel => exact ⟨i + 1, rfl, by rw [show (i + 1).toNat = i.toNat + 1 by omega, HS.out, if_pos (by omega)], ⟨by omega, by omega, by have := HI.out; omega⟩, rfl⟩
      · go_wp2
        go_roundg (gk - 1)
        case measure => have := HI.out; omega
        case rel => exact ⟨i + 1, rfl, by rw [show (i + 1).toNat = i.toNat + 1 by omega, HS.out, if_neg e]; rfl, ⟨by omega, by omega, by have := HI.out; omega⟩, rfl⟩
    · have e2 : i.toNat = xs.length := by have := HI.out; omega
      rw [e2]
      go_wp2
      go_ret
      exact ⟨rfl, rfl⟩
set_option maxHeartbeats 1000000 in
theorem l2check_c (A : Option Addr) (c : Nat) (xs : List Int) (w : World) (hx : kB.C w A xs.length xs) :
    Calls Try.prog 157 #[.slice A xs.length c] w (fun e w' => e = .returned (.int .u8 (sumTo xs xs.length)) ∧ w' = w) := by
  have hl : xs.length ≤ 9223372036854775807 := hx.2.1
  have HX := Aside0.mk hx; clear hx
  go_enter Try.func157, Try.ntmps157
  go_wp2
  go_loopg [3, 8] xs.length (fun m vv vi wr => ∃ i : Int, vi = .int .i64 i ∧ vv = .int .u8 (sumTo xs i.toNat) ∧ Aside0 (0 ≤ i ∧ i ≤ xs.length ∧ xs.length - i.toNat ≤ m) ∧ wr = w)
  case atStart => exact ⟨0, rfl, rfl, ⟨by simp⟩, rfl⟩
  case round =>
    obtain ⟨i, rfl, rfl, HI, rfl⟩ := hrel
    by_cases h1 : i < (xs.length : Int)
    · have h0 : 0 ≤ i := HI.out.1
      obtain ⟨ad, e1, c1⟩ := Kd.at_int HX.out i h0 h1
      cases e1
      have hs : sumTo xs (i.toNat + 1) = if i = 1 then sumTo xs i.toNat else IntKind.u8.wrap (sumTo xs i.toNat + rd xs i) := by
        simp only [sumTo]
        by_cases e : i = 1
        · subst e; rfl
        · rw [if_neg e, if_neg (by omega)]; rfl
      have HS := Aside0.mk hs
      clear hs
      by_cases e : i = 1
      · have e1 : i ≤ 1 := by omega
        have e2 : 1 ≤ i := by omega
        clear e
        go_wp2
        go_roundg (gk - 1)
        case measure => have := HI.out; omega
        case rel => exact ⟨i + 1, rfl, by rw [show (i + 1).toNat = i.toNat + 1 by omega, HS.out, if_pos (by omega)], ⟨by omega, by omega, by have := HI.out; omega⟩, rfl⟩
      · go_wp2
        go_roundg (gk - 1)
        case measure => have := HI.out; omega
        case rel => exact ⟨i + 1, rfl, by rw [show (i + 1).toNat = i.toNat + 1 by omega, HS.out, if_neg e]; rfl, ⟨by omega, by omega, by have := HI.out; omega⟩, rfl⟩
    · have e2 : i.toNat = xs.length := by have := HI.out; omega
      rw [e2]
      go_wp2
      go_ret
      exact ⟨rfl, rfl⟩
end Go.Proofs.Ytocdlibnmlcokaa
namespace Go.Proofs.Ytocdlibnmlcokaa
open Go.RowKit Go.Proofs.YtocdlibnmlcokaaW.PrintWords Go.Proofs.YtocdlibnmlcokaaW.PrintLast
set_option linter.unusedVariables false
theorem flat_set {n : Nat} (u : Value) : ∀ {css : List (List Value)}, (∀ c ∈ css, c.length = n) → ∀ (i j : Nat) (hi : i < css.length), j < n → css.flatten.set (i * n + j) u = (css.set i (css[i].set j u)).flatten
  | [], _, i, j, hi, _ => by simp at hi
  | c :: css, h, i, j, hi, hj => by
    have hc := h c List.mem_cons_self
    cases i with
    | zero => simp [hc, hj]
    | succ i =>
      have := flat_set (n := n) u (css := css) (fun c hc => h c (List.mem_cons_of_mem _ hc)) i j (by simpa using hi) hj
      simp only [List.flatten_cons, List.set_cons_succ, List.getElem_cons_succ]
      rw [← this, List.set_append, hc, if_neg (by rw [Nat.succ_mul]; omega)]
      congr 2
      rw [Nat.succ_mul]; omega
theorem flat_at {n : Nat} {css : List (List Value)} (h : ∀ c ∈ css, c.length = n) {i : Nat} (hi : i < css.length) {j : Nat} {u : Value} (hu : css[i][j]? = some u) : css.flatten[i * n + j]? = some u := by
  have e := Rp.flat_get h i hi
  have hj : j < n := by
    have := (List.getElem?_eq_some_iff.1 hu).1
    rwa [h _ (List.getElem_mem hi)] at this
  rw [← e, List.getElem?_take, if_pos hj, List.getElem?_drop] at hu
  exact hu
theorem mem_set_flat {fps : List (List Nat)} {i : Nat} {f : List Nat} {b : Nat} (hb : b ∈ (fps.set i f).flatten) : b ∈ fps.flatten ∨ b ∈ f := by
  obtain ⟨g, hg, hbg⟩ := List.mem_flatten.1 hb
  rcases List.mem_or_eq_of_mem_set hg with h | h
  · exact .inl (List.mem_flatten.2 ⟨g, h, hbg⟩)
  · exact .inr (h ▸ hbg)
theorem nodup_set_flat {f : List Nat} : ∀ {fps : List (List Nat)} {i : Nat}, fps.flatten.Nodup → f.Nodup → (∀ b ∈ f, b ∉ fps.flatten) → (fps.set i f).flatten.Nodup
  | [], i, h, _, _ => by simp
  | g :: fps, i, h, hf, hd => by
    rw [List.flatten_cons, List.nodup_append] at h
    cases i with
    | zero =>
      rw [List.set_cons_zero, List.flatten_cons, List.nodup_append]
      exact ⟨hf, h.2.1, fun a ha b hb he => hd a ha (by rw [he]; exact List.mem_append_right _ hb)⟩
    | succ i =>
      rw [List.set_cons_succ, List.flatten_cons, List.nodup_append]
      refine ⟨h.1, nodup_set_flat h.2.1 hf (fun b hb hm => hd b hb (List.mem_append_right _ hm)), fun a ha b hb he => ?_⟩
      rcases mem_set_flat hb with hb | hb
      · exact h.2.2 a ha b hb he
      · exact hd b hb (by rw [← he]; exact List.mem_append_left _ ha)
theorem nodup_flat_mem : ∀ {fps : List (List Nat)} {f : List Nat}, fps.flatten.Nodup → f ∈ fps → f.Nodup
  | [], _, _, h => by simp at h
  | g :: fps, f, hn, h => by
    rw [List.flatten_cons, List.nodup_append] at hn
    rcases List.mem_cons.1 h with rfl | h
    · exact hn.1
    · exact nodup_flat_mem hn.2.1 h
theorem nodup_flat_ne : ∀ {fps : List (List Nat)} {i j : Nat} (hi : i < fps.length) (hj : j < fps.length) {b : Nat}, fps.flatten.Nodup → i ≠ j → b ∈ fps[i] → b ∉ fps[j]
  | [], i, _, hi, _, _, _, _, _ => by simp at hi
  | g :: fps, i, j, hi, hj, b, hn, hne, hb => by
    rw [List.flatten_cons, List.nodup_append] at hn
    intro hbj
    cases i with
    | zero =>
      cases j with
      | zero => omega
      | succ j => exact hn.2.2 b hb b (List.mem_flatten.2 ⟨_, List.getElem_mem (by simpa using hj), hbj⟩) rfl
    | succ i =>
      cases j with
      | zero => exact hn.2.2 b hbj b (List.mem_flatten.2 ⟨_, List.getElem_mem (by simpa using hi), hb⟩) rfl
      | succ j => exact nodup_flat_ne (by simpa using hi) (by simpa using hj) hn.2.1 (by omega) hb hbj
namespace Rp
section
variable {α : Type} {r : Rp α} {e g cap n : Nat} {w w1 : World} {v : Value} {xs : List α} {fp : List Nat}
theorem Row_form (h : r.Row e w v xs fp) (hn : 0 < xs.length) : ∃ g cap, v = .slice (some ⟨g, 0, none⟩) xs.length cap ∧ g ∈ fp ∧ xs.length ≤ cap := by
  obtain ⟨css, fps, ho, ha, rfl⟩ := h
  rcases ho.2 with ⟨rfl, h0⟩ | ⟨g, cap, cur, rfl, _, _, hc, _⟩
  · omega
  · exact ⟨g, cap, rfl, by simp [Value.ownBlock], hc⟩
theorem Row_elem (h : r.Row e w (.slice (some ⟨g, 0, none⟩) n cap) xs fp) (hnd : fp.Nodup) (i : Nat) (hi : i < xs.length) :
    ∃ cs f, r.P w xs[i] cs f ∧ f.Nodup ∧ (∀ b ∈ f, b ∈ fp ∧ b ≠ g) ∧ g ∈ fp ∧ (∀ j u, cs[j]? = some u → w.cell? ⟨g, i * r.d.sz + j, none⟩ = some u) ∧ (∀ j, w.frozen? ⟨g, j, none⟩ = false)
      ∧ (∀ w' x', Kp w w' f → r.P w' x' cs f → r.Row e w' (.slice (some ⟨g, 0, none⟩) n cap) (xs.set i x') fp)
      ∧ (∀ j u x' f', j < r.d.sz → r.P (w.setCell ⟨g, i * r.d.sz + j, none⟩ u) x' (cs.set j u) f' → f'.Nodup → (∀ b ∈ f', b ∈ f ∨ b ∉ fp) → (f' = f ∨ ∀ b ∈ f', b ∉ fp) →
          ∃ fp', r.Row e (w.setCell ⟨g, i * r.d.sz + j, none⟩ u) (.slice (some ⟨g, 0, none⟩) n cap) (xs.set i x') fp' ∧ fp'.Nodup ∧ (∀ b ∈ fp', b ∈ fp ∨ b ∈ f') ∧ (f' = f → fp' = fp)) := by
  obtain ⟨css, fps, ho, ha, rfl⟩ := h
  have hn : n = xs.length := by
    rcases ho.2 with ⟨h0, _⟩ | ⟨g', cap', cur, h0, _⟩
    · injection h0 with h0; cases h0
    · injection h0
  subst hn
  have hl1 := ha.len1
  have hl2 := ha.len2
  have hP := ha.get (i := i) hi (by omega) (by omega)
  have hall := all_len ha
  simp only [Value.ownBlock, Option.toList_some, List.singleton_append] at hnd ⊢
  rw [List.nodup_cons] at hnd
  have hmem : ∀ b ∈ fps[i], b ∈ fps.flatten := fun b hb => List.mem_flatten.2 ⟨_, List.getElem_mem (by omega), hb⟩
  have hndi : fps[i].Nodup := nodup_flat_mem hnd.2 (List.getElem_mem (by omega))
  have hother : ∀ j (hj : j < fps.length), j ≠ i → ∀ b ∈ fps[j], b ∉ fps[i] := fun j hj hne b hb => nodup_flat_ne hj (by omega) hnd.2 hne hb
  have hgf : ∀ f ∈ fps, ∀ b ∈ f, b ≠ g := fun f hf b hb he => hnd.1 (he ▸ List.mem_flatten.2 ⟨f, hf, hb⟩)
  have hlt : ∀ f ∈ fps, ∀ b ∈ f, b < w.heap.size := by
    intro f hf b hb
    obtain ⟨j, hj, rfl⟩ := List.getElem_of_mem hf
    exact P_lt (ha.get (i := j) (by omega) (by omega) hj) b hb
  have hgb : g < w.heap.size := own_lt ho g rfl
  have hAll : ∀ (w' : World) x' cs' f', r.P w' x' cs' f' → (∀ j (hj : j < fps.length), j ≠ i → ∀ b ∈ fps[j], w'.heap[b]? = w.heap[b]?) → All3 (r.P w') (xs.set i x') (css.set i cs') (fps.set i f') := by
    intro w' x' cs' f' hp hsame
    have key : ∀ (xs : List α) (css : List (List Value)) (fps : List (List Nat)) (i : Nat), All3 (r.P w) xs css fps → (∀ j (hj : j < fps.length), j ≠ i → ∀ b ∈ fps[j], w'.heap[b]? = w.heap[b]?) → All3 (r.P w') (xs.set i x') (css.set i cs') (fps.set i f') := by
      intro xs css fps i h
      induction h generalizing i with
      | nil => intro _; exact .nil
      | cons h0 ht ih =>
        intro hs
        cases i with
        | zero =>
          refine .cons hp ?_
          have hz := ht.imp (S := r.P w') (fun a b c hc hP => r.loc hP fun k hk => ?_)
          · exact hz
          · obtain ⟨j, hj, rfl⟩ := List.getElem_of_mem hc
            exact hs (j + 1) (by simp; omega) (by omega) k (by simpa using hk)
        | succ i =>
          refine .cons (r.loc h0 fun k hk => hs 0 (by simp) (by omega) k (by simpa using hk)) (ih i fun j hj hne b hb => hs (j + 1) (by simp; omega) (by omega) b (by simpa using hb))
    exact key xs css fps i ha hsame
  refine ⟨css[i], fps[i], hP, hndi, fun b hb => ⟨List.mem_cons_of_mem _ (hmem b hb), hgf _ (List.getElem_mem (by omega)) b hb⟩, List.mem_cons_self, ?_, fun j => ?_, ?_, ?_⟩
  · intro j u hu
    have := ho.cells (g := g) rfl _ u (flat_at hall (by omega) hu)
    rwa [add_plain] at this
  · obtain ⟨cells, hc⟩ := own_typed ho g rfl
    exact blk_frozen hc j
  · intro w' x' hk hp
    refine ⟨css.set i css[i], fps.set i fps[i], ?_, hAll w' x' _ _ hp ?_, ?_⟩
    · rw [List.set_getElem_self, List.length_set]
      exact own_move ho fun k hk' => by
        have : g = k := by simpa [Value.ownBlock] using hk'
        subst this
        exact hk.block g hgb (fun hm => hgf _ (List.getElem_mem (by omega)) g hm rfl)
    · intro j hj hne b hb
      exact hk.block b (hlt _ (List.getElem_mem hj) b hb) (hother j hj hne b hb)
    · simp [Value.ownBlock]
  · intro j u x' f' hj hp hf' hdis hor
    refine ⟨g :: (fps.set i f').flatten, ⟨css.set i (css[i].set j u), fps.set i f', ?_, hAll _ x' _ _ hp ?_, ?_⟩, ?_, ?_, ?_⟩
    · rw [← flat_set u hall i j (by omega) hj, List.length_set]
      exact (ho.stored _ u).1
    · intro j' hj' hne b hb
      exact Below.heap_setCell w _ u b (hgf _ (List.getElem_mem hj') b hb)
    · simp [Value.ownBlock]
    · rcases hor with h | h
      · subst h
        rw [List.set_getElem_self]
        exact List.nodup_cons.2 hnd
      · refine List.nodup_cons.2 ⟨fun hm => ?_, nodup_set_flat hnd.2 hf' (fun b hb hm => h b hb (List.mem_cons_of_mem _ hm))⟩
        rcases mem_set_flat hm with hm | hm
        · exact hnd.1 hm
        · exact h g hm List.mem_cons_self
    · intro b hb
      rcases List.mem_cons.1 hb with rfl | hb
      · exact .inl List.mem_cons_self
      · rcases mem_set_flat hb with h | h
        · exact .inl (List.mem_cons_of_mem _ h)
        · exact .inr h
    · intro h
      rw [h, List.set_getElem_self]
end
end Rp
end Go.Proofs.Ytocdlibnmlcokaa
namespace Go.Proofs.Ytocdlibnmlcokaa
open Go.RowKit Go.Proofs.YtocdlibnmlcokaaW.PrintWords Go.Proofs.YtocdlibnmlcokaaW.PrintLast
set_option linter.unusedVariables false
set_option linter.unusedSimpArgs false
structure Bx (w : World) (g t : Nat) (cells : Array Value) (wi : World) (v : Value) (xs : List Int) : Prop where
  row : ∃ f, rB.Row 5 wi v xs f ∧ f.Nodup ∧ ∀ b ∈ f, w.heap.size ≤ b
  bel : Below w.heap.size w wi
  box : wi.heap[g]? = some (.cells cells t (0, 0))
theorem lit_row (w : World) (xs : List Int) (hl : xs.length ≤ 1000) : rB.Row 5 (w.alloc (.cells (encs (Value.int .u8) xs).toArray 5)) (.slice (some ⟨w.heap.size, 0, none⟩) xs.length xs.length) xs [w.heap.size] := by
  have h2 := World.ownsRow_lit (base := 0) (e := 5) (size := 1) w (encs (Value.int .u8) xs).toArray xs.length (Nat.zero_le _) (by simp only [maxLen]; omega) (by simp [encs])
  exact Rp.Row_own (enc := Value.int .u8) (h1 := fun _ => rfl) (by simpa using h2)
section
variable {w wi w1 : World} {g t : Nat} {cells : Array Value} {v : Value} {xs ys : List Int}
theorem Bx.lit (hb : Below w.heap.size w wi) (hg : wi.heap[g]? = some (.cells cells t (0, 0))) (ys : List Int) (hl : ys.length ≤ 1000) :
    Bx w g t cells (wi.alloc (.cells (encs (Value.int .u8) ys).toArray 5)) (.slice (some ⟨wi.heap.size, 0, none⟩) ys.length ys.length) ys :=
  ⟨⟨[wi.heap.size], lit_row wi ys hl, by simp, fun b hb' => by have := hb.size; simp at hb'; omega⟩, below_then hb hb.size (below_alloc (Below.refl _ _) _), blk_alloc hg _⟩
theorem Bx.below (h : Bx w g t cells wi v xs) (hb : Below wi.heap.size wi w1) : Bx w g t cells w1 v xs := by
  obtain ⟨⟨f, hr, hn, hf⟩, h2, h3⟩ := h
  exact ⟨⟨f, Rp.Row_below hr hb, hn, hf⟩, below_then h2 h2.size hb, blk_below h3 hb⟩
theorem Bx.got {f f1 : List Nat} (h : Bx w g t cells wi v xs) (ht : t ≠ 5) (hr : rB.Row 5 wi v xs f) (hf : ∀ b ∈ f, w.heap.size ≤ b) {v1 : Value} {ys : List Int} (h1 : rB.Row 5 w1 v1 ys f1) (hn : f1.Nodup) (hf1 : ∀ b ∈ f1, b ∈ f ∨ wi.heap.size ≤ b) (k : Kp wi w1 f) : Bx w g t cells w1 v1 ys := by
  refine ⟨⟨f1, h1, hn, fun b hb => ?_⟩, k.toBelow h.bel h.bel.size hf, k.blk h.box (Rp.Row_not hr h.box (by show t ∉ [5]; simpa using ht))⟩
  rcases hf1 b hb with h2 | h2
  · exact hf b h2
  · have := h.bel.size; omega
theorem Bx.app {f1 : List Nat} (h : Bx w g t cells wi v xs) (ht : t ≠ 5) {v1 : Value} {ys : List Int} (h1 : rB.Row 5 w1 v1 ys f1) (hn : f1.Nodup) (hf1 : ∀ b ∈ f1, b ∈ v.ownBlock.toList ∨ wi.heap.size ≤ b) (hg : wi.grownBy w1 v.ownBlock) : Bx w g t cells w1 v1 ys := by
  obtain ⟨⟨f, hr, hnf, hf⟩, h2, h3⟩ := h
  have e := (Rp.own_Row hr).2
  subst e
  exact Bx.got ⟨⟨_, hr, hnf, hf⟩, h2, h3⟩ ht hr hf h1 hn hf1 (Kp.grown hg)
theorem Bx.form (h : Bx w g t cells wi v xs) : ∃ A c, v = .slice A xs.length c ∧ kB.C wi A xs.length xs := by
  obtain ⟨⟨f, hr, _, _⟩, _, _⟩ := h
  obtain ⟨A, c, e, _, hC⟩ := Rp.Row_reads hr
  exact ⟨A, c, e, hC⟩
theorem Bx.C {A : Option Addr} {n c : Nat} (h : Bx w g t cells wi (.slice A n c) xs) : kB.C wi A xs.length xs := by
  obtain ⟨⟨f, hr, _, _⟩, _, _⟩ := h
  exact (Rp.Row_C hr).2.2
theorem Bx.form1 (h : Bx w g t cells wi v xs) (hn : 0 < xs.length) : ∃ b c, v = .slice (some ⟨b, 0, none⟩) xs.length c ∧ kB.C wi (some ⟨b, 0, none⟩) xs.length xs := by
  obtain ⟨⟨f, hr, _, _⟩, _, _⟩ := h
  obtain ⟨b, c, rfl, _, _⟩ := Rp.Row_form hr hn
  exact ⟨b, c, rfl, (Rp.Row_C hr).2.2⟩
theorem Bx.done (h : Bx w g t cells wi v xs) : Rp.Got rB 5 w.heap.size wi v xs ∧ Below w.heap.size w wi := ⟨h.row, h.bel⟩
end
section
variable {P : Program} {ops : Array Oper} {rest : List Oper} {o : Oper} {a : Act} {Q : Exit → Act → World → Prop} {w W : World} {g t : Nat} {cells : Array Value}
theorem Bx.app_row (ht : t ≠ 5) (hgd : o.guard = none) (s x : Operand)
    (ho : o.op = .call { callee := .builtin .append, args := #[s, x], argTypes := #[22, 22] })
    (v : Value) (xs ys : List Int) (A : Option Addr) (m c : Nat) (hs : a.eval s = v) (hx : a.eval x = .slice A m c)
    (HO : Bx w g t cells W v xs) (HR : kB.C W A m ys) (hl : xs.length + m ≤ 100000)
    (h : ∀ v1 w1, Bx w g t cells w1 v1 (xs ++ ys) → wpList Try.prog ops Q rest (a.put o.dst v1) w1) :
    wpList Try.prog ops Q (o :: rest) a W := by
  obtain ⟨f, hr, hn, hf⟩ := HO.row
  have e := (Rp.own_Row hr).2
  subst e
  refine Rp.app_row (enc := Value.int .u8) (h1 := fun _ => rfl) 0 hgd s x 22 5 (.int .u8 0) 1 ho Try.underlying22 info5 rfl (by omega) v xs ys A m c hs hx hr HR (by omega) ?_
  intro v1 w1 fp1 hr1 hn1 hf1 hg1
  exact h v1 w1 (HO.app ht hr1 hn1 hf1 hg1)
theorem Bx.app_lit {W' : World} (ht : t ≠ 5) (hgd : o.guard = none) (s x : Operand)
    (ho : o.op = .call { callee := .builtin .append, args := #[s, x], argTypes := #[22, 22] })
    (v : Value) (xs ys : List Int) (hy : ys.length ≤ 1000) (HO : Bx w g t cells W v xs) (hW : W' = W.alloc (.cells (encs (Value.int .u8) ys).toArray 5)) (hs : a.eval s = v) (hx : a.eval x = .slice (some ⟨W.heap.size, 0, none⟩) ys.length ys.length)
    (hl : xs.length + ys.length ≤ 100000)
    (h : ∀ v1 w1, Bx w g t cells w1 v1 (xs ++ ys) → wpList Try.prog ops Q rest (a.put o.dst v1) w1) :
    wpList Try.prog ops Q (o :: rest) a W' := by
  subst hW
  exact Bx.app_row ht hgd s x ho v xs ys _ _ _ hs hx (HO.below (below_alloc (Below.refl _ _) _)) (Rp.Row_C (lit_row W ys hy)).2.2 hl h
theorem zeros_eq (m : Nat) : (Builtin.zeroCells (Value.int .u8 0).cells m).toList = encs (Value.int .u8) (List.replicate m 0) := by
  unfold Builtin.zeroCells encs
  rw [List.map_replicate]
  apply List.ext_getElem
  · simp [Value.cells]
  · intro i h1 h2
    simp [Value.cells, Nat.mod_one]
theorem Bx.app_zeros (ht : t ≠ 5) (hgd : o.guard = none) (s x : Operand)
    (ho : o.op = .call { callee := .builtin .append, args := #[s, x], argTypes := #[22, 3] })
    (v : Value) (xs : List Int) (m : Nat) {i : Int} (hs : a.eval s = v) (hx : a.eval x = .int .i64 i) (him : i = m)
    (HO : Bx w g t cells W v xs) (hl : xs.length + m ≤ 100000)
    (h : ∀ v1 w1, Bx w g t cells w1 v1 (xs ++ List.replicate m 0) → wpList Try.prog ops Q rest (a.put o.dst v1) w1) :
    wpList Try.prog ops Q (o :: rest) a W := by
  subst him
  obtain ⟨f, hr, hn, hf⟩ := HO.row
  obtain ⟨hown, e⟩ := Rp.own_Row hr
  subst e
  obtain ⟨i0, hi, hzz⟩ := Option.map_eq_some_iff.1 info5
  simp only [Prod.mk.injEq] at hzz
  obtain ⟨hz0, hz1, hz2⟩ := hzz
  obtain ⟨v1, w1, hrun, h2, hg, hat⟩ := run_append_zeros (P := Try.prog) W 0 22 3 o.type 5 i0 (.int .u8 0) 1 1 Try.underlying22 Try.underlying3 hi hz0 hz1 hz2 rfl (by omega) (by omega) v xs.length _ hown .i64 m (by rw [zeros_eq]; intro u hu; simp [encs] at hu; rw [hu.2]; rfl) (by omega) (Nat.zero_le _)
  rw [zeros_eq] at h2
  have h3 : w1.ownsRow 0 5 1 v1 (xs ++ List.replicate m 0).length (encs (Value.int .u8) (xs ++ List.replicate m 0)) := by
    simpa [encs] using h2
  refine wpList_plain hgd fun K hK => ?_
  unfold Oper.wp execOp
  simp only [ho, resolve, invoke, builtin, Sem.run_bind, Sem.run_pure, Result.andThen_ok, List.map_toArray, List.map_cons, List.map_nil, hs, hx, hrun]
  refine hK _ _ (h v1 w1 (HO.app ht (Rp.Row_own (enc := Value.int .u8) (h1 := fun _ => rfl) h3) (Rp.nodup_toList _) (fun b hb => ?_) hg))
  rcases hat with hat | hat
  · rw [hat] at hb; exact .inl hb
  · rw [hat] at hb; simp at hb; exact .inr (by omega)
end
theorem Bx.low {w wi w1 : World} {g t : Nat} {cells : Array Value} {v : Value} {xs ys : List Int} {f : List Nat} {e : Ending} (h : Bx w g t cells wi v xs) (ht : t ≠ 5) (hr : rB.Row 5 wi v xs f) (hf : ∀ b ∈ f, w.heap.size ≤ b) (hg : GotApp rB 5 wi ys f e w1) : ∃ v1, e = .returned v1 ∧ Bx w g t cells w1 v1 ys := by
  obtain ⟨v1, f1, rfl, h1, h2, h3, h4⟩ := hg
  exact ⟨v1, rfl, h.got ht hr hf h1 h2 h3 h4⟩
theorem Bx.low_c {w wi : World} {g t : Nat} {cells : Array Value} {v0 : Value} {xs : List Int} (h : Bx w g t cells wi v0 xs) (ht : t ≠ 5) (v : Int) (k : Nat) (hl : xs.length ≤ 1000) (hk : k ≤ 8) :
    Calls Try.prog 148 #[v0, .int .u64 v, .int .i64 k] wi (fun e w1 => ∃ v1, e = .returned v1 ∧ Bx w g t cells w1 v1 (xs ++ lowTo v k)) := by
  obtain ⟨f, hr, hn, hf⟩ := h.row
  exact (Ytocdlibnmlcokaa.low_c v0 xs f v k wi hr hn hl hk).mono fun e w1 hg => h.low ht hr hf hg
theorem Bx.l1put_c {w wi : World} {g t : Nat} {cells : Array Value} {v0 : Value} {xs : List Int} (h : Bx w g t cells wi v0 xs) (ht : t ≠ 5) (v : Int) (k : Nat) (hl : xs.length ≤ 1000) (hk : k ≤ 8) :
    Calls Try.prog 156 #[v0, .int .u64 v, .int .i64 k] wi (fun e w1 => ∃ v1, e = .returned v1 ∧ Bx w g t cells w1 v1 (xs ++ lowTo v k)) := by
  obtain ⟨f, hr, hn, hf⟩ := h.row
  exact (Ytocdlibnmlcokaa.l1put_c v0 xs f v k wi hr hn hl hk).mono fun e w1 hg => h.low ht hr hf hg
theorem Bx.set {w wi : World} {g t : Nat} {cells : Array Value} {b n c : Nat} {xs : List Int} (h : Bx w g t cells wi (.slice (some ⟨b, 0, none⟩) n c) xs) (ht : t ≠ 5) {j : Nat} (hj : j < xs.length) (x : Int) :
    Bx w g t cells (wi.setCell ⟨b, j, none⟩ (.int .u8 x)) (.slice (some ⟨b, 0, none⟩) n c) (xs.set j x) ∧ (∃ u, wi.cell? ⟨b, j, none⟩ = some u) ∧ wi.frozen? ⟨b, j, none⟩ = false := by
  obtain ⟨⟨f, hr, hn, hf⟩, hb, hg⟩ := h
  obtain ⟨cs, f0, hP, _, _, hgb, hcell, hfr, _, hst⟩ := Rp.Row_elem hr hn j hj
  obtain ⟨hcs, hf0⟩ := hP
  subst hcs; subst hf0
  have e0 : j * rB.d.sz + 0 = j := Nat.mul_one _
  have c1 := hcell 0 _ rfl
  rw [e0] at c1
  obtain ⟨fp', hr', hn', _, he⟩ := hst 0 (.int .u8 x) x [] (by decide) ⟨rfl, rfl⟩ (by simp) (by simp) (.inl rfl)
  rw [he rfl, e0] at hr'
  have hk := Kp.set wi b j (.int .u8 x)
  have hm : ∀ y ∈ [b], y ∈ f := fun y hy => by simp at hy; subst hy; exact Rp.Row_block hr rfl
  exact ⟨⟨⟨f, hr', hn, hf⟩, hk.toBelow hb hb.size (fun y hy => hf y (hm y hy)), hk.blk hg (fun hm' => Rp.Row_not hr hg (by show t ∉ [5]; simpa using ht) (hm _ hm'))⟩, ⟨_, c1⟩, hfr j⟩
end Go.Proofs.Ytocdlibnmlcokaa
namespace Go.Proofs.Ytocdlibnmlcokaa
open Go.RowKit Go.Proofs.YtocdlibnmlcokaaW.PrintWords Go.Proofs.YtocdlibnmlcokaaW.PrintLast
set_option linter.unusedVariables false
set_option linter.unusedSimpArgs false
section
variable {α : Type} {mk : Int → α → α} {cnt : α → Int}
end
end Go.Proofs.Ytocdlibnmlcokaa
namespace Go.Proofs.Ytocdlibnmlcokaa
open Go.RowKit Go.Proofs.YtocdlibnmlcokaaW.PrintWords Go.Proofs.YtocdlibnmlcokaaW.PrintLast
set_option linter.unusedVariables false
set_option linter.unusedSimpArgs false
theorem gBS_eq {xs : List (List Int)} {i : Int} (h : i.toNat < xs.length) : gBS xs i = xs[i.toNat] := by simp [gBS, List.getD_eq_getElem?_getD, h]
theorem gW_eq {xs : List Wr} {i : Int} (h : i.toNat < xs.length) : gW xs i = xs[i.toNat] := by simp [gW, List.getD_eq_getElem?_getD, h]
end Go.Proofs.Ytocdlibnmlcokaa
namespace Go.Proofs.Ytocdlibnmlcokaa
open Go.RowKit Go.Proofs.YtocdlibnmlcokaaW.PrintWords Go.Proofs.YtocdlibnmlcokaaW.PrintLast
set_option linter.unusedVariables false
set_option linter.unusedSimpArgs false
end Go.Proofs.Ytocdlibnmlcokaa
namespace Go.Proofs.Ytocdlibnmlcokaa
open Go.RowKit Go.Proofs.YtocdlibnmlcokaaW.PrintWords Go.Proofs.YtocdlibnmlcokaaW.PrintLast
set_option linter.unusedVariables false
set_option linter.unusedSimpArgs false
theorem eqT {a b : Int} (h : a = b) : (a == b) = true ∧ (a != b) = false := by simp [h]
theorem eqF {a b : Int} (h : ¬ a = b) : (a == b) = false ∧ (a != b) = true := by simp [h]
def DkOk (bs : List (List Int)) (ws : List Wr) : Prop := bs.length = 128 ∧ ws.length ≤ 200 ∧ (∀ b ∈ bs, b.length = 64) ∧ ∀ x ∈ ws, 0 ≤ x.block ∧ x.block < 128 ∧ x.bytes.length = 64
def YesNo (b : Bool) (w : World) (e : Ending) (w' : World) : Prop := e = .returned (.bool b) ∧ Below w.heap.size w w'
theorem not_b {b : Bool} {p : Prop} (hb : b = true ↔ p) (h : ¬ p) : b = false := by cases b; rfl; exact absurd (hb.1 rfl) h
set_option maxRecDepth 100000 in
theorem l1in_c (x a b : Int) (w : World) : Calls Try.prog 120 #[.int .i64 x, .int .i64 a, .int .i64 b] w fun e w' => e = .returned (.bool (decide (a ≤ x) && decide (x ≤ b))) ∧ w' = w := by
  by_cases h : a ≤ x
  · have h1 : decide (a ≤ x) = true := decide_eq_true h
    by_cases h2 : x ≤ b
    · have h3 : decide (x ≤ b) = true := decide_eq_true h2
      rw [h1, h3]
      go_enter Try.func120, Try.ntmps120
      go_wp2
      go_ret
      exact ⟨rfl, rfl⟩
    · have h3 : decide (x ≤ b) = false := decide_eq_false h2
      rw [h1, h3]
      go_enter Try.func120, Try.ntmps120
      go_wp2
      go_ret
      exact ⟨rfl, rfl⟩
  · have h1 : decide (a ≤ x) = false := decide_eq_false h
    rw [h1]
    go_enter Try.func120, Try.ntmps120
    go_wp2
    go_ret
    exact ⟨rfl, rfl⟩
set_option maxRecDepth 100000 in
set_option maxHeartbeats 2000000 in
theorem implDiskOk_c (A0 A1 : Option Addr) (c0 c1 : Nat) (bs : List (List Int)) (ws : List Wr) (b : Bool) (hb : b = true ↔ DkOk bs ws) (w : World) (hx : rBS.d.C w A0 bs.length bs) (hy : rW.d.C w A1 ws.length ws) :
    Calls Try.prog 108 #[.agg #[.slice A0 bs.length c0, .slice A1 ws.length c1]] w (YesNo b w) := by
  have hb0 := below_alloc (Below.refl w.heap.size w) (.cells #[.slice A0 bs.length c0, .slice A1 ws.length c1] 43)
  have hbk := blk_new w (.cells #[.slice A0 bs.length c0, .slice A1 ws.length c1] 43)
  have hl0 : bs.length ≤ 9223372036854775807 := hx.2.1
  have hl1 : ws.length ≤ 9223372036854775807 := hy.2.1
  have HX := Aside0.mk hx; have HY := Aside0.mk hy; have HBB := Aside0.mk hb; have HB0 := Aside0.mk hb0; have HBK := Aside0.mk hbk; clear hx hy hb hb0 hbk
  by_cases h1 : (bs.length : Int) = 128
  · by_cases h2 : (ws.length : Int) ≤ 200
    · have b1 := eqT h1
      have H1 := Aside0.mk h1; clear h1
      go_enter Try.func108, Try.ntmps108
      go_wp2
      generalize World.alloc w _ = w1 at HB0 HBK ⊢
      clear b1
      go_loopg [20] bs.length (fun m vi wr => ∃ i : Int, vi = .int .i64 i ∧ Aside0 (0 ≤ i ∧ i ≤ bs.length ∧ bs.length - i.toNat ≤ m ∧ ∀ x ∈ bs.take i.toNat, x.length = 64) ∧ Aside0 (wr.heap[w.heap.size]? = some (.cells #[.slice A0 bs.length c0, .slice A1 ws.length c1] 43 (0, 0))) ∧ Aside0 (Below w.heap.size w wr))
      case atStart => exact ⟨0, rfl, ⟨by simp⟩, HBK, HB0⟩
      case round =>
        clear HB0 HBK
        obtain ⟨i, rfl, HI, BK, HB⟩ := hrel
        by_cases hlt : i < (bs.length : Int)
        · have hi0 : 0 ≤ i := HI.out.1
          obtain ⟨ad, E0, d0, hA, k1, _, _⟩ := at_BS (Kd.C_below HX.out HB.out) i hi0 hlt
          cases hA
          have hg := gBS_eq (xs := bs) (i := i) (by omega)
          by_cases he : ((gBS bs i).length : Int) = 64
          · have b2 := eqT he
            have hall : ∀ x ∈ bs.take (i + 1).toNat, x.length = 64 := by
              rw [show (i + 1).toNat = i.toNat + 1 by omega, take_snoc_g (by omega)]
              intro x hx
              rcases List.mem_append.1 hx with h | h
              · exact HI.out.2.2.2 x h
              · simp at h; subst h; omega
            have HA := Aside0.mk hall
            clear hall he hg
            go_wp2
            go_roundg (gk - 1)
            case measure => have := HI.out; omega
            case rel => exact ⟨i + 1, rfl, ⟨by have := HI.out; omega, by have := HI.out; omega, by have := HI.out; omega, HA.out⟩, BK, HB⟩
          · have b2 := eqF he
            have hf := not_b HBB.out (fun hd => he (by rw [hg]; have := hd.2.2.1 _ (List.getElem_mem (l := bs) (n := i.toNat) (by omega)); omega))
            subst hf
            clear he hg
            go_wp2
            go_ret
            exact ⟨rfl, HB.out⟩
        · have hall : ∀ x ∈ bs, x.length = 64 := by have h := HI.out.2.2.2; rwa [List.take_of_length_le (by omega)] at h
          have HALL := Aside0.mk hall; clear hall
          have k1 := (blk_cell BK.out 1).trans rfl
          go_wp2
          clear k1
          obtain ⟨wo, hwo⟩ : ∃ wo : World, wo = wr := ⟨_, rfl⟩
          rw [← hwo] at HB BK
          rw [← hwo]
          clear hwo
          go_loopg [31] ws.length (fun m vi wr => ∃ i : Int, vi = .int .i64 i ∧ Aside0 (0 ≤ i ∧ i ≤ ws.length ∧ ws.length - i.toNat ≤ m ∧ ∀ x ∈ ws.take i.toNat, 0 ≤ x.block ∧ x.block < 128 ∧ x.bytes.length = 64) ∧ Aside0 (Below w.heap.size w wr))
          case atStart => exact ⟨0, rfl, ⟨by simp⟩, HB⟩
          case round =>
            clear HB BK
            obtain ⟨i, rfl, HI, HB⟩ := hrel
            by_cases hlt : i < (ws.length : Int)
            · have hi0 : 0 ≤ i := HI.out.1
              obtain ⟨ad, E0, d0, hA, k1, k2, _, _⟩ := at_W (Kd.C_below HY.out HB.out) i hi0 hlt
              cases hA
              have hg := gW_eq (xs := ws) (i := i) (by omega)
              have HB1 := Aside0.mk (below_then HB.out HB.out.size (below_alloc (Below.refl _ wr) (.cells #[.int .i64 (gW ws i).block, .slice E0 (gW ws i).bytes.length d0] 147)))
              have hno : ¬ (0 ≤ (gW ws i).block ∧ (gW ws i).block < 128 ∧ (gW ws i).bytes.length = 64) → b = false := fun hn => not_b HBB.out (fun hd => hn (by rw [hg]; exact hd.2.2.2 _ (List.getElem_mem (l := ws) (n := i.toNat) (by omega))))
              by_cases ha : 0 ≤ (gW ws i).block
              · by_cases hc : (gW ws i).block < 128
                · by_cases hd : ((gW ws i).bytes.length : Int) = 64
                  · have b3 := eqT hd
                    have hall : ∀ x ∈ ws.take (i + 1).toNat, 0 ≤ x.block ∧ x.block < 128 ∧ x.bytes.length = 64 := by
                      rw [show (i + 1).toNat = i.toNat + 1 by omega, take_snoc_w (by omega)]
                      intro x hx
                      rcases List.mem_append.1 hx with h | h
                      · exact HI.out.2.2.2 x h
                      · simp at h; subst h; omega
                    have HA := Aside0.mk hall
                    clear hall hg hno
                    clear hd
                    go_wp2
                    go_roundg (gk - 1)
                    case measure => have := HI.out; omega
                    case rel => exact ⟨i + 1, rfl, ⟨by have := HI.out; omega, by have := HI.out; omega, by have := HI.out; omega, HA.out⟩, HB1⟩
                  · have b3 := eqF hd
                    have hf := hno (by omega)
                    subst hf
                    clear hd hg hno
                    go_wp2
                    go_ret
                    exact ⟨rfl, HB1.out⟩
                · have hf := hno (by omega)
                  subst hf
                  clear hg hno
                  go_wp2
                  go_ret
                  exact ⟨rfl, HB1.out⟩
              · have hf := hno (by omega)
                subst hf
                clear hg hno
                go_wp2
                go_ret
                exact ⟨rfl, HB1.out⟩
            · have hall : ∀ x ∈ ws, 0 ≤ x.block ∧ x.block < 128 ∧ x.bytes.length = 64 := by have h := HI.out.2.2.2; rwa [List.take_of_length_le (by omega)] at h
              have ht : b = true := HBB.out.2 ⟨by have := H1.out; omega, by omega, HALL.out, hall⟩
              subst ht
              go_wp2
              go_ret
              exact ⟨rfl, HB.out⟩
    · have b1 := eqT h1
      have hf := not_b HBB.out (fun hd => h2 (by have := hd.2.1; omega))
      subst hf
      go_enter Try.func108, Try.ntmps108
      go_wp2
      go_ret
      exact ⟨rfl, HB0.out⟩
  · have b1 := eqF h1
    have hf := not_b HBB.out (fun hd => h1 (by have := hd.1; omega))
    subst hf
    go_enter Try.func108, Try.ntmps108
    go_wp2
    go_ret
    exact ⟨rfl, HB0.out⟩
set_option maxRecDepth 100000 in
set_option maxHeartbeats 2000000 in
theorem specDiskOk_c (A0 A1 : Option Addr) (c0 c1 : Nat) (bs : List (List Int)) (ws : List Wr) (b : Bool) (hb : b = true ↔ DkOk bs ws) (w : World) (hx : rBS.d.C w A0 bs.length bs) (hy : rW.d.C w A1 ws.length ws) :
    Calls Try.prog 99 #[.agg #[.slice A0 bs.length c0, .slice A1 ws.length c1]] w (YesNo b w) := by
  have hb0 := below_alloc (Below.refl w.heap.size w) (.cells #[.slice A0 bs.length c0, .slice A1 ws.length c1] 43)
  have hbk := blk_new w (.cells #[.slice A0 bs.length c0, .slice A1 ws.length c1] 43)
  have hl0 : bs.length ≤ 9223372036854775807 := hx.2.1
  have hl1 : ws.length ≤ 9223372036854775807 := hy.2.1
  have HX := Aside0.mk hx; have HY := Aside0.mk hy; have HBB := Aside0.mk hb; have HB0 := Aside0.mk hb0; have HBK := Aside0.mk hbk; clear hx hy hb hb0 hbk
  by_cases h1 : (bs.length : Int) = 128
  · by_cases h2 : (ws.length : Int) ≤ 200
    · have b1 := eqT h1
      have H1 := Aside0.mk h1; clear h1
      go_enter Try.func99, Try.ntmps99
      go_wp2
      generalize World.alloc w _ = w1 at HB0 HBK ⊢
      clear b1
      go_loopg [20] bs.length (fun m vi wr => ∃ i : Int, vi = .int .i64 i ∧ Aside0 (0 ≤ i ∧ i ≤ bs.length ∧ bs.length - i.toNat ≤ m ∧ ∀ x ∈ bs.take i.toNat, x.length = 64) ∧ Aside0 (wr.heap[w.heap.size]? = some (.cells #[.slice A0 bs.length c0, .slice A1 ws.length c1] 43 (0, 0))) ∧ Aside0 (Below w.heap.size w wr))
      case atStart => exact ⟨0, rfl, ⟨by simp⟩, HBK, HB0⟩
      case round =>
        clear HB0 HBK
        obtain ⟨i, rfl, HI, BK, HB⟩ := hrel
        by_cases hlt : i < (bs.length : Int)
        · have hi0 : 0 ≤ i := HI.out.1
          obtain ⟨ad, E0, d0, hA, k1, _, _⟩ := at_BS (Kd.C_below HX.out HB.out) i hi0 hlt
          cases hA
          have hg := gBS_eq (xs := bs) (i := i) (by omega)
          by_cases he : ((gBS bs i).length : Int) = 64
          · have b2 := eqT he
            have hall : ∀ x ∈ bs.take (i + 1).toNat, x.length = 64 := by
              rw [show (i + 1).toNat = i.toNat + 1 by omega, take_snoc_g (by omega)]
              intro x hx
              rcases List.mem_append.1 hx with h | h
              · exact HI.out.2.2.2 x h
              · simp at h; subst h; omega
            have HA := Aside0.mk hall
            clear hall he hg
            go_wp2
            go_roundg (gk - 1)
            case measure => have := HI.out; omega
            case rel => exact ⟨i + 1, rfl, ⟨by have := HI.out; omega, by have := HI.out; omega, by have := HI.out; omega, HA.out⟩, BK, HB⟩
          · have b2 := eqF he
            have hf := not_b HBB.out (fun hd => he (by rw [hg]; have := hd.2.2.1 _ (List.getElem_mem (l := bs) (n := i.toNat) (by omega)); omega))
            subst hf
            clear he hg
            go_wp2
            go_ret
            exact ⟨rfl, HB.out⟩
        · have hall : ∀ x ∈ bs, x.length = 64 := by have h := HI.out.2.2.2; rwa [List.take_of_length_le (by omega)] at h
          have HALL := Aside0.mk hall; clear hall
          have k1 := (blk_cell BK.out 1).trans rfl
          go_wp2
          clear k1
          obtain ⟨wo, hwo⟩ : ∃ wo : World, wo = wr := ⟨_, rfl⟩
          rw [← hwo] at HB BK
          rw [← hwo]
          clear hwo
          go_loopg [31] ws.length (fun m vi wr => ∃ i : Int, vi = .int .i64 i ∧ Aside0 (0 ≤ i ∧ i ≤ ws.length ∧ ws.length - i.toNat ≤ m ∧ ∀ x ∈ ws.take i.toNat, 0 ≤ x.block ∧ x.block < 128 ∧ x.bytes.length = 64) ∧ Aside0 (Below w.heap.size w wr))
          case atStart => exact ⟨0, rfl, ⟨by simp⟩, HB⟩
          case round =>
            clear HB BK
            obtain ⟨i, rfl, HI, HB⟩ := hrel
            by_cases hlt : i < (ws.length : Int)
            · have hi0 : 0 ≤ i := HI.out.1
              obtain ⟨ad, E0, d0, hA, k1, k2, _, _⟩ := at_W (Kd.C_below HY.out HB.out) i hi0 hlt
              cases hA
              have hg := gW_eq (xs := ws) (i := i) (by omega)
              have HB1 := Aside0.mk (below_then HB.out HB.out.size (below_alloc (Below.refl _ wr) (.cells #[.int .i64 (gW ws i).block, .slice E0 (gW ws i).bytes.length d0] 147)))
              have hno : ¬ (0 ≤ (gW ws i).block ∧ (gW ws i).block < 128 ∧ (gW ws i).bytes.length = 64) → b = false := fun hn => not_b HBB.out (fun hd => hn (by rw [hg]; exact hd.2.2.2 _ (List.getElem_mem (l := ws) (n := i.toNat) (by omega))))
              by_cases ha : 0 ≤ (gW ws i).block ∧ (gW ws i).block ≤ 127
              · have hr : (decide (0 ≤ (gW ws i).block) && decide ((gW ws i).block ≤ 127)) = true := by simp; exact ha
                have HR := Aside0.mk hr; clear hr
                by_cases hd : ((gW ws i).bytes.length : Int) = 64
                · have b3 := eqT hd
                  have hall : ∀ x ∈ ws.take (i + 1).toNat, 0 ≤ x.block ∧ x.block < 128 ∧ x.bytes.length = 64 := by
                    rw [show (i + 1).toNat = i.toNat + 1 by omega, take_snoc_w (by omega)]
                    intro x hx
                    rcases List.mem_append.1 hx with h | h
                    · exact HI.out.2.2.2 x h
                    · simp at h; subst h; omega
                  have HA := Aside0.mk hall
                  clear hall hg hno
                  clear hd ha
                  go_wp2_with (go_at_call 120; refine (l1in_c _ 0 127 _).mono ?_; rintro e w1 ⟨rfl, rfl⟩; rw [HR.out])
                  go_roundg (gk - 1)
                  case measure => have := HI.out; omega
                  case rel => exact ⟨i + 1, rfl, ⟨by have := HI.out; omega, by have := HI.out; omega, by have := HI.out; omega, HA.out⟩, HB1⟩
                · have b3 := eqF hd
                  have hf := hno (by omega)
                  subst hf
                  clear hd hg hno ha
                  go_wp2_with (go_at_call 120; refine (l1in_c _ 0 127 _).mono ?_; rintro e w1 ⟨rfl, rfl⟩; rw [HR.out])
                  go_ret
                  exact ⟨rfl, HB1.out⟩
              · have hr : (decide (0 ≤ (gW ws i).block) && decide ((gW ws i).block ≤ 127)) = false := by rw [Bool.and_eq_false_iff]; simp; omega
                have HR := Aside0.mk hr; clear hr
                have hf := hno (by omega)
                subst hf
                clear hg hno ha
                go_wp2_with (go_at_call 120; refine (l1in_c _ 0 127 _).mono ?_; rintro e w1 ⟨rfl, rfl⟩; rw [HR.out])
                go_ret
                exact ⟨rfl, HB1.out⟩
            · have hall : ∀ x ∈ ws, 0 ≤ x.block ∧ x.block < 128 ∧ x.bytes.length = 64 := by have h := HI.out.2.2.2; rwa [List.take_of_length_le (by omega)] at h
              have ht : b = true := HBB.out.2 ⟨by have := H1.out; omega, by omega, HALL.out, hall⟩
              subst ht
              go_wp2
              go_ret
              exact ⟨rfl, HB.out⟩
    · have b1 := eqT h1
      have hf := not_b HBB.out (fun hd => h2 (by have := hd.2.1; omega))
      subst hf
      go_enter Try.func99, Try.ntmps99
      go_wp2
      go_ret
      exact ⟨rfl, HB0.out⟩
  · have b1 := eqF h1
    have hf := not_b HBB.out (fun hd => h1 (by have := hd.1; omega))
    subst hf
    go_enter Try.func99, Try.ntmps99
    go_wp2
    go_ret
    exact ⟨rfl, HB0.out⟩
end Go.Proofs.Ytocdlibnmlcokaa
namespace Go.Proofs.Ytocdlibnmlcokaa
open Go.RowKit Go.Proofs.YtocdlibnmlcokaaW.PrintWords Go.Proofs.YtocdlibnmlcokaaW.PrintLast
set_option linter.unusedVariables false
set_option linter.unusedSimpArgs false
def fillTo {α : Type} (z : α) (xs : List α) (i : Nat) : List α := xs.take i ++ List.replicate (xs.length - i) z
theorem fillTo_len {α : Type} (z : α) (xs : List α) (i : Nat) (h : i ≤ xs.length) : (fillTo z xs i).length = xs.length := by
  simp only [fillTo, List.length_append, List.length_take, List.length_replicate]; omega
theorem fillTo_zero {α : Type} (z : α) (xs : List α) : fillTo z xs 0 = List.replicate xs.length z := by simp [fillTo]
theorem fillTo_end {α : Type} (z : α) (xs : List α) {i : Nat} (h : xs.length ≤ i) : fillTo z xs i = xs := by
  simp [fillTo, List.take_of_length_le h, Nat.sub_eq_zero_of_le h]
theorem fillTo_succ {α : Type} (z : α) (xs : List α) {i : Nat} (h : i < xs.length) : (fillTo z xs i).set i xs[i] = fillTo z xs (i + 1) := by
  have hl : (xs.take i).length = i := by rw [List.length_take]; omega
  unfold fillTo
  rw [List.set_append, hl, if_neg (by omega), Nat.sub_self, show xs.length - i = (xs.length - (i + 1)) + 1 by omega, List.replicate_succ, List.set_cons_zero, List.take_succ_eq_append_getElem h, List.append_assoc]
  rfl
def GotRow {α : Type} (r : Rp α) (e : Nat) (w : World) (xs : List α) (en : Ending) (w' : World) : Prop :=
  ∃ v, en = .returned v ∧ Rp.Got r e w.heap.size w' v xs ∧ Below w.heap.size w w'
end Go.Proofs.Ytocdlibnmlcokaa
namespace Go.Proofs.Ytocdlibnmlcokaa
open Go.RowKit Go.Proofs.YtocdlibnmlcokaaW.PrintWords Go.Proofs.YtocdlibnmlcokaaW.PrintLast
set_option linter.unusedVariables false
set_option linter.unusedSimpArgs false
def PgOk (ok : Bool) (gen : Int) (bytes : List Int) : Prop := ok = true ∧ 1 ≤ gen ∧ gen ≤ 1000000000 ∧ bytes.length ≤ 56
def pre0 (gen : Int) (bytes : List Int) : List Int := ((([76, 0] : List Int) ++ lowTo gen 4) ++ [(bytes.length : Int), 0]) ++ bytes
def preL (gen : Int) (bytes : List Int) : List Int := pre0 gen bytes ++ List.replicate (64 - (pre0 gen bytes).length) 0
def blockL (gen : Int) (bytes : List Int) : List Int := (preL gen bytes).set 1 (sumTo (preL gen bytes) (preL gen bytes).length)
theorem pre0_len (gen : Int) (bytes : List Int) : (pre0 gen bytes).length = 8 + bytes.length := by
  simp only [pre0, List.length_append, lowTo_len, List.length_cons, List.length_nil]
set_option maxHeartbeats 4000000 in
set_option maxRecDepth 100000 in
theorem implPageBlock_yes (A : Option Addr) (c : Nat) (gen : Int) (bytes : List Int) (w : World) (hx : kB.C w A bytes.length bytes) (hok : PgOk true gen bytes) :
    Calls Try.prog 110 #[.agg #[.bool true, .int .i64 gen, .slice A bytes.length c]] w (GotRow rB 5 w (blockL gen bytes)) := by
  have HX := Aside0.mk hx; clear hx
  obtain ⟨_, g1, g2, g3⟩ := hok
  have p3 := pre0_len gen bytes
  have hz : 64 - (pre0 gen bytes).length = 56 - bytes.length := by omega
  have BK := Aside0.mk (blk_new w (.cells #[.bool true, .int .i64 gen, .slice A bytes.length c] 138))
  have HB := Aside0.mk (below_alloc (Below.refl w.heap.size w) (.cells #[.bool true, .int .i64 gen, .slice A bytes.length c] 138))
  go_enter Try.func110, Try.ntmps110
  go_upto_region 1 with (fail)
  generalize w.alloc _ = w0 at BK HB ⊢
  have q0 := (blk_cell BK.out 0).trans rfl; have q1 := (blk_cell BK.out 1).trans rfl; have q2 := (blk_cell BK.out 2).trans rfl
  go_upto_region 4 with (fail)
  have hX : Bx w w.heap.size 138 #[.bool true, .int .i64 gen, .slice A bytes.length c] (w0.alloc (.cells #[.int .u8 76, .int .u8 0] 5)) (.slice (some ⟨w0.heap.size, 0, none⟩) 2 2) [76, 0] := Bx.lit HB.out BK.out [76, 0] (by decide)
  generalize w0.alloc _ = w1 at hX ⊢
  generalize (some (⟨w0.heap.size, 0, none⟩ : Addr)) = B1 at hX ⊢
  have X1 := Aside0.mk hX
  clear hX BK HB q0 q1 q2
  have q1 := (blk_cell X1.out.box 1).trans rfl
  go_wp2_with fail
  refine (X1.out.low_c (by decide) _ 4 (by decide) (by decide)).mono ?_
  rintro e w2 ⟨v2, rfl, hX⟩
  have X2 := Aside0.mk hX
  clear hX X1 q1
  have q2 := (blk_cell X2.out.box 2).trans rfl
  go_upto_region 6 with (at_builtin; go_loud (refine Bx.app_lit (t := 138) (by decide) rfl (.tmp 29) (.tmp 34) rfl v2 _ [(bytes.length : Int), 0] (by simp) X2.out rfl rfl rfl (by simp [lowTo_len]) ?_); intro v3 w3 hX; have X3 := Aside0.mk hX; clear hX)
  clear q2 X2
  have q2 := (blk_cell X3.out.box 2).trans rfl
  go_upto_region 7 with (at_builtin; refine Bx.app_row (t := 138) (by decide) rfl (.tmp 36) (.tmp 38) rfl v3 _ bytes A bytes.length c rfl rfl X3.out (Kd.C_below HX.out X3.out.bel) (by simp [lowTo_len]; omega) ?_; intro v4 w4 hX; have X4 := Aside0.mk hX; clear hX)
  clear q2 X3
  have hX : Bx w w.heap.size 138 #[.bool true, .int .i64 gen, .slice A bytes.length c] w4 v4 (pre0 gen bytes) := X4.out
  clear X4
  obtain ⟨P0, hP⟩ : ∃ P, P = pre0 gen bytes := ⟨_, rfl⟩
  have HP : Aside0 (blockL gen bytes = (P0 ++ List.replicate (64 - P0.length) 0).set 1 (sumTo (P0 ++ List.replicate (64 - P0.length) 0) (P0 ++ List.replicate (64 - P0.length) 0).length)) := ⟨by rw [hP]; rfl⟩
  rw [← hP] at hX p3 hz
  clear hP
  obtain ⟨A4, c4, rfl, _⟩ := hX.form
  have X4 := Aside0.mk hX
  clear hX
  go_upto_region 8 with (at_builtin; go_loud (refine Bx.app_zeros (t := 138) (by decide) rfl (.tmp 40) (.tmp 43) rfl (.slice A4 P0.length c4) P0 (64 - P0.length) rfl rfl (by omega) X4.out (by omega) ?_); intro v5 w5 hX; have X5 := Aside0.mk hX; clear hX)
  clear X4
  have hl : (P0 ++ List.replicate (64 - P0.length) 0).length = 64 := by simp; omega
  replace HP := HP.out
  have hX := X5.out
  clear X5
  generalize P0 ++ List.replicate (64 - P0.length) 0 = P1 at HP hX hl
  obtain ⟨b5, c5, rfl, hC⟩ := hX.form1 (by omega)
  have HP := Aside0.mk HP; have HC := Aside0.mk hC; have X5 := Aside0.mk hX
  obtain ⟨_, ⟨u1, z1⟩, z2⟩ := hX.set (by decide) (j := 1) (by omega) 0
  have hl1 : 1 < P1.length := by omega
  clear hl hX hC p3 hz
  go_wp2_with (go_at_call 149; refine (check_c _ _ _ _ HC.out).mono ?_; rintro e w6 ⟨rfl, rfl⟩)
  go_ret
  obtain ⟨hX, _, _⟩ := X5.out.set (by decide) hl1 (sumTo P1 P1.length)
  rw [HP.out]
  exact ⟨_, rfl, hX.done⟩
set_option maxHeartbeats 4000000 in
theorem implPageBlock_no (A : Option Addr) (c : Nat) (ok : Bool) (gen : Int) (bytes : List Int) (w : World) (hx : bytes.length ≤ 9223372036854775807) (hno : ¬ PgOk ok gen bytes) :
    Calls Try.prog 110 #[.agg #[.bool ok, .int .i64 gen, .slice A bytes.length c]] w (GotRow rB 5 w []) := by
  have BK := Aside0.mk (blk_new w (.cells #[.bool ok, .int .i64 gen, .slice A bytes.length c] 138))
  have HB := Aside0.mk (below_alloc (Below.refl w.heap.size w) (.cells #[.bool ok, .int .i64 gen, .slice A bytes.length c] 138))
  have HN := Aside0.mk hno; clear hno
  go_enter Try.func110, Try.ntmps110
  go_upto_region 1 with (fail)
  generalize w.alloc _ = w0 at BK HB ⊢
  have q0 := (blk_cell BK.out 0).trans rfl; have q1 := (blk_cell BK.out 1).trans rfl; have q2 := (blk_cell BK.out 2).trans rfl
  cases ok with
  | false =>
    go_wp2
    go_ret
    exact ⟨_, rfl, ⟨[], Rp.Row_nil _ _ _, by simp, by simp⟩, HB.out⟩
  | true =>
    by_cases h1 : 1 ≤ gen
    · by_cases h2 : gen ≤ 1000000000
      · have h3 : 56 < bytes.length := by
          have := HN.out
          unfold PgOk at this
          rcases Nat.lt_or_ge 56 bytes.length with h | h
          · exact h
          · exact absurd ⟨rfl, h1, h2, h⟩ this
        go_wp2
        go_ret
        exact ⟨_, rfl, ⟨[], Rp.Row_nil _ _ _, by simp, by simp⟩, HB.out⟩
      · go_wp2
        go_ret
        exact ⟨_, rfl, ⟨[], Rp.Row_nil _ _ _, by simp, by simp⟩, HB.out⟩
    · go_wp2
      go_ret
      exact ⟨_, rfl, ⟨[], Rp.Row_nil _ _ _, by simp, by simp⟩, HB.out⟩
set_option maxHeartbeats 4000000 in
theorem specPageBlock_no (A : Option Addr) (c : Nat) (ok : Bool) (gen : Int) (bytes : List Int) (w : World) (hx : bytes.length ≤ 9223372036854775807) (hno : ¬ PgOk ok gen bytes) :
    Calls Try.prog 132 #[.agg #[.bool ok, .int .i64 gen, .slice A bytes.length c]] w (GotRow rB 5 w []) := by
  have BK := Aside0.mk (blk_new w (.cells #[.bool ok, .int .i64 gen, .slice A bytes.length c] 138))
  have HB := Aside0.mk (below_alloc (Below.refl w.heap.size w) (.cells #[.bool ok, .int .i64 gen, .slice A bytes.length c] 138))
  have HN := Aside0.mk hno; clear hno
  go_enter Try.func132, Try.ntmps132
  go_upto_region 1 with (fail)
  generalize w.alloc _ = w0 at BK HB ⊢
  have q0 := (blk_cell BK.out 0).trans rfl; have q1 := (blk_cell BK.out 1).trans rfl; have q2 := (blk_cell BK.out 2).trans rfl
  cases ok with
  | false =>
    go_wp2
    go_ret
    exact ⟨_, rfl, ⟨[], Rp.Row_nil _ _ _, by simp, by simp⟩, HB.out⟩
  | true =>
    by_cases h1 : 1 ≤ gen ∧ gen ≤ 1000000000
    · have h3 : 56 < bytes.length := by
        have := HN.out
        unfold PgOk at this
        rcases Nat.lt_or_ge 56 bytes.length with h | h
        · exact h
        · exact absurd ⟨rfl, h1.1, h1.2, h⟩ this
      have HR : Aside0 ((decide (1 ≤ gen) && decide (gen ≤ 1000000000)) = true) := ⟨by simp; omega⟩
      clear h1
      go_wp2_with (go_at_call 120; refine (l1in_c _ 1 1000000000 _).mono ?_; rintro e w1 ⟨rfl, rfl⟩; rw [HR.out])
      go_ret
      exact ⟨_, rfl, ⟨[], Rp.Row_nil _ _ _, by simp, by simp⟩, HB.out⟩
    · have HR : Aside0 ((decide (1 ≤ gen) && decide (gen ≤ 1000000000)) = false) := ⟨by simp; omega⟩
      clear h1
      go_wp2_with (go_at_call 120; refine (l1in_c _ 1 1000000000 _).mono ?_; rintro e w1 ⟨rfl, rfl⟩; rw [HR.out])
      go_ret
      exact ⟨_, rfl, ⟨[], Rp.Row_nil _ _ _, by simp, by simp⟩, HB.out⟩
set_option maxHeartbeats 4000000 in
set_option maxRecDepth 100000 in
theorem specPageBlock_yes (A : Option Addr) (c : Nat) (gen : Int) (bytes : List Int) (w : World) (hx : kB.C w A bytes.length bytes) (hok : PgOk true gen bytes) :
    Calls Try.prog 132 #[.agg #[.bool true, .int .i64 gen, .slice A bytes.length c]] w (GotRow rB 5 w (blockL gen bytes)) := by
  have HX := Aside0.mk hx; clear hx
  obtain ⟨_, g1, g2, g3⟩ := hok
  have p3 := pre0_len gen bytes
  have HR : Aside0 ((decide (1 ≤ gen) && decide (gen ≤ 1000000000)) = true) := ⟨by simp; omega⟩
  have BK := Aside0.mk (blk_new w (.cells #[.bool true, .int .i64 gen, .slice A bytes.length c] 138))
  have HB := Aside0.mk (below_alloc (Below.refl w.heap.size w) (.cells #[.bool true, .int .i64 gen, .slice A bytes.length c] 138))
  go_enter Try.func132, Try.ntmps132
  go_upto_region 1 with (fail)
  generalize w.alloc _ = w0 at BK HB ⊢
  have q0 := (blk_cell BK.out 0).trans rfl; have q1 := (blk_cell BK.out 1).trans rfl; have q2 := (blk_cell BK.out 2).trans rfl
  go_upto_region 4 with (go_at_call 120; refine (l1in_c _ 1 1000000000 _).mono ?_; rintro e w9 ⟨rfl, hE⟩; have hE := hE.symm; subst hE; rw [HR.out])
  have hX : Bx w w.heap.size 138 #[.bool true, .int .i64 gen, .slice A bytes.length c] (w0.alloc (.cells #[.int .u8 76, .int .u8 0] 5)) (.slice (some ⟨w0.heap.size, 0, none⟩) 2 2) [76, 0] := Bx.lit HB.out BK.out [76, 0] (by decide)
  generalize w0.alloc _ = w1 at hX ⊢
  generalize (some (⟨w0.heap.size, 0, none⟩ : Addr)) = B1 at hX ⊢
  have X1 := Aside0.mk hX
  clear hX BK HB q0 q1 q2 HR
  have q1 := (blk_cell X1.out.box 1).trans rfl
  go_wp2_with fail
  refine (X1.out.l1put_c (by decide) _ 4 (by decide) (by decide)).mono ?_
  rintro e w2 ⟨v2, rfl, hX⟩
  have X2 := Aside0.mk hX
  clear hX X1 q1
  have q2 := (blk_cell X2.out.box 2).trans rfl
  go_upto_region 6 with (at_builtin; refine Bx.app_lit (t := 138) (by decide) rfl (.tmp 25) (.tmp 30) rfl v2 _ [(bytes.length : Int), 0] (by simp) X2.out rfl rfl rfl (by simp [lowTo_len]) ?_; intro v3 w3 hX; have X3 := Aside0.mk hX; clear hX)
  clear q2 X2
  have q2 := (blk_cell X3.out.box 2).trans rfl
  have hup : X3 = X3 := rfl
  go_wp2_with (at_builtin; refine Bx.app_row (t := 138) (by decide) rfl (.tmp 32) (.tmp 34) rfl v3 _ bytes A bytes.length c rfl rfl X3.out (Kd.C_below HX.out X3.out.bel) (by simp [lowTo_len]; omega) ?_; intro v4 w4 hX; have X4 := Aside0.mk hX; clear hX)
  clear q2 X3
  have hX : Bx w w.heap.size 138 #[.bool true, .int .i64 gen, .slice A bytes.length c] w4 v4 (pre0 gen bytes) := X4.out
  clear X4
  obtain ⟨P0, hP⟩ : ∃ P, P = pre0 gen bytes := ⟨_, rfl⟩
  have HP : Aside0 (blockL gen bytes = (P0 ++ List.replicate (64 - P0.length) 0).set 1 (sumTo (P0 ++ List.replicate (64 - P0.length) 0) (P0 ++ List.replicate (64 - P0.length) 0).length)) := ⟨by rw [hP]; rfl⟩
  rw [← hP] at hX p3
  clear hP
  have X4 := Aside0.mk hX
  have P3 := Aside0.mk p3
  clear hX p3
  go_loopg [3] 64 (fun m vv wr => ∃ i : Nat, Aside0 (P0.length + i ≤ 64 ∧ 64 - (P0.length + i) ≤ m) ∧ Aside0 (Bx w w.heap.size 138 #[.bool true, .int .i64 gen, .slice A bytes.length c] wr vv (P0 ++ List.replicate i 0)))
  case atStart => exact ⟨0, ⟨by have := P3.out; omega⟩, ⟨by simpa using X4.out⟩⟩
  case round =>
    obtain ⟨i, HI, XI⟩ := hrel
    obtain ⟨Av, cv, rfl, hC⟩ := XI.out.form
    obtain ⟨L, hL⟩ : ∃ L, L = P0 ++ List.replicate i (0 : Int) := ⟨_, rfl⟩
    have hl : L.length = P0.length + i := by rw [hL]; simp
    have XI2 := XI.out
    rw [← hL] at XI2 hC ⊢
    have HL := Aside0.mk hL
    clear hL XI
    have XI := Aside0.mk XI2
    clear XI2
    by_cases hi : P0.length + i < 64
    · have h64 : L.length < 64 := by omega
      clear hl hi
      go_wp2_with (at_builtin; refine Bx.app_lit (t := 138) (by decide) rfl (.tmp 39) (.tmp 40) rfl (.slice Av L.length cv) L [0] (by simp) XI.out rfl rfl rfl (by simp; omega) ?_; intro v5 w5 hX; have X5 := Aside0.mk hX; clear hX)
      go_roundg (gk - 1)
      case measure => have := HI.out; have := congrArg List.length HL.out; simp at this; omega
      case rel =>
        have e := congrArg List.length HL.out
        simp at e
        refine ⟨i + 1, ⟨by omega, by have := HI.out; omega⟩, ⟨?_⟩⟩
        have := X5.out
        rw [HL.out, List.append_assoc, ← List.replicate_succ'] at this
        exact this
    · have e : i = 64 - P0.length := by have := HI.out; omega
      have HL2 : Aside0 (blockL gen bytes = L.set 1 (sumTo L L.length)) := ⟨by rw [HL.out, e]; exact HP.out⟩
      have hl64 : L.length = 64 := by have := HI.out; omega
      clear HL HP
      have hX := XI.out
      clear XI
      obtain ⟨b5, c5, e5, hC5⟩ := hX.form1 (by omega)
      injection e5 with e5 _ e6
      subst e5; subst e6
      have HC := Aside0.mk hC5; have X5 := Aside0.mk hX
      obtain ⟨_, ⟨u1, z1⟩, z2⟩ := hX.set (by decide) (j := 1) (by omega) 0
      have hl1 : 1 < L.length := by omega
      have h64 : 64 ≤ L.length := by omega
      clear hl hX hC hC5 hl64 e hi
      go_wp2_with (go_at_call 157; refine (l2check_c _ _ _ _ HC.out).mono ?_; rintro e w6 ⟨rfl, rfl⟩)
      go_ret
      obtain ⟨hX, _, _⟩ := X5.out.set (by decide) hl1 (sumTo L L.length)
      rw [HL2.out]
      exact ⟨_, rfl, hX.done⟩
end Go.Proofs.Ytocdlibnmlcokaa
namespace Go.Proofs.Ytocdlibnmlcokaa
open Go Go.RowKit Go.Proofs.YtocdlibnmlcokaaW.PrintWords Go.Proofs.YtocdlibnmlcokaaW.PrintLast
set_option linter.unusedVariables false
section
variable {P : Program} {ops : Array Oper} {Q : Exit → Act → World → Prop} {md : Region.Mode} {S : World → Prop} {ds : List Nat} {n m fuel : Nat} {a a' : Act} {w w1 : World} {Ni Nj Nk : Option Tmp} {oi oj ok : Oper} {v : Value} {K : Act → World → Prop}
theorem tw (i j mi mj : Nat)
    (h1 : ∀ K : Act → World → Prop, Shut (∀ a' w', S w' → (S w' → wpAnyLast P md ops Q S ds fuel (bl n mi) a' w') → K a' w') → if Region.wanted oi (yielded ops a.tmps) = true then Oper.wp P oi a w K Q else K (a.put Ni undef) w)
    (h2 : ∀ K : Act → World → Prop, Shut (∀ a' w', S w' → (S w' → wpAnyLast P md ops Q S ds fuel (bl n mj) a' w') → K a' w') → if Region.wanted oj (yielded ops a.tmps) = true then Oper.wp P oj a w K Q else K (a.put Nj undef) w)
    (hi : ops[i]? = some oi := by simp only [List.getElem?_toArray, List.getElem?_cons_succ, List.getElem?_cons_zero]; rfl) (hj : ops[j]? = some oj := by simp only [List.getElem?_toArray, List.getElem?_cons_succ, List.getElem?_cons_zero]; rfl) (hNi : oi.dst = Ni := by rfl) (hNj : oj.dst = Nj := by rfl)
    (hc : (Region.ready md ops (bl n m) == [i, j] && (bl n m).setIfInBounds i true == bl n mi && (bl n m).setIfInBounds j true == bl n mj) = true := by kernel_rfl) (hdi : i ∉ ds := by decide) (hdj : j ∉ ds := by decide) : wpAnyLast P md ops Q S ds (fuel + 1) (bl n m) a w :=
  two_ _ _ hi hj hNi hNj hc hdi hdj h1 h2
theorem th (i j k mi mj mk : Nat)
    (h1 : ∀ K : Act → World → Prop, Shut (∀ a' w', S w' → (S w' → wpAnyLast P md ops Q S ds fuel (bl n mi) a' w') → K a' w') → if Region.wanted oi (yielded ops a.tmps) = true then Oper.wp P oi a w K Q else K (a.put Ni undef) w)
    (h2 : ∀ K : Act → World → Prop, Shut (∀ a' w', S w' → (S w' → wpAnyLast P md ops Q S ds fuel (bl n mj) a' w') → K a' w') → if Region.wanted oj (yielded ops a.tmps) = true then Oper.wp P oj a w K Q else K (a.put Nj undef) w)
    (h3 : ∀ K : Act → World → Prop, Shut (∀ a' w', S w' → (S w' → wpAnyLast P md ops Q S ds fuel (bl n mk) a' w') → K a' w') → if Region.wanted ok (yielded ops a.tmps) = true then Oper.wp P ok a w K Q else K (a.put Nk undef) w)
    (hi : ops[i]? = some oi := by simp only [List.getElem?_toArray, List.getElem?_cons_succ, List.getElem?_cons_zero]; rfl) (hj : ops[j]? = some oj := by simp only [List.getElem?_toArray, List.getElem?_cons_succ, List.getElem?_cons_zero]; rfl) (hk : ops[k]? = some ok := by simp only [List.getElem?_toArray, List.getElem?_cons_succ, List.getElem?_cons_zero]; rfl) (hNi : oi.dst = Ni := by rfl) (hNj : oj.dst = Nj := by rfl) (hNk : ok.dst = Nk := by rfl)
    (hc : (Region.ready md ops (bl n m) == [i, j, k] && (bl n m).setIfInBounds i true == bl n mi && (bl n m).setIfInBounds j true == bl n mj && (bl n m).setIfInBounds k true == bl n mk) = true := by kernel_rfl) (hdi : i ∉ ds := by decide) (hdj : j ∉ ds := by decide) (hdk : k ∉ ds := by decide) : wpAnyLast P md ops Q S ds (fuel + 1) (bl n m) a w :=
  three_ _ _ _ hi hj hk hNi hNj hNk hc hdi hdj hdk h1 h2 h3
end
end Go.Proofs.Ytocdlibnmlcokaa
namespace Go.Proofs.Ytocdlibnmlcokaa.Math
open Go.RowKit Go.Proofs.YtocdlibnmlcokaaW.PrintWords Go.Proofs.YtocdlibnmlcokaaW.PrintLast
set_option linter.unusedVariables false
set_option linter.unusedSimpArgs false
theorem w64 {x : Int} (h : -9223372036854775808 ≤ x) (h' : x ≤ 9223372036854775807) : wrap64 x = x := by
  unfold wrap64
  omega
theorem rd_nat (l : List Int) (i : Nat) : rd l (i : Int) = l.getD i 0 := by simp [rd]
theorem Ev.succ {α : Type} {g : Nat → Option α} {r : α} (h : Ev (fun k => g (k + 1)) r) : Ev g r := Ev.step (fun _ => rfl) h
theorem Ev.some {α : Type} {r r' : α} (h : r = r') : Ev (fun _ => Option.some r) r' := h ▸ Ev.now r
theorem Ev.ok {α : Type} {g : Option α} {r : α} (h : g = Option.some r) : Ev (fun _ => g) r := h ▸ Ev.now r
theorem Ev.pos {α : Type} {c : Prop} [Decidable c] {g f : Nat → Option α} {r : α} (hc : c) (h : Ev g r) : Ev (fun k => if c then g k else f k) r := by
  simp only [if_pos hc]
  exact h
theorem getD_mem {α : Type} (l : List α) (i : Nat) (d : α) (h : i < l.length) : l.getD i d ∈ l := by
  simp [List.getD, List.getElem?_eq_getElem h]
def noteOk (t k w : Int) (s : ByteArray) : Bool := decide (0 ≤ t ∧ t ≤ 1000000000 ∧ 0 ≤ k ∧ k ≤ 100 ∧ 0 ≤ w ∧ w ≤ 1000 ∧ s.size ≤ 200)
def lowB (v : Int) : Nat → List Int
  | 0 => []
  | n + 1 => v % 256 :: lowB (v / 256) n
theorem lowB_length (v : Int) (n : Nat) : (lowB v n).length = n := by
  induction n generalizing v with
  | zero => rfl
  | succ n ih => simp [lowB, ih]
def frameM (t k w n : Int) (s : ByteArray) : List Int :=
  if noteOk t k w s = true then [78, (s.size : Int) % 256] ++ lowB t 4 ++ [k] ++ lowB w 2 ++ lowB (n % 18446744073709551616) 8 ++ bytesOf s else []
theorem u64_wrap (x : Int) : IntKind.u64.wrap x = x % 18446744073709551616 := by
  unfold IntKind.wrap
  simp [IntKind.signed, IntKind.bits]
theorem bytesOf_len (s : ByteArray) : (bytesOf s).length = s.size := bytesOf_length s
def checkFrom (i : Nat) (s : Int) : List Int → Int
  | [] => s
  | x :: l => checkFrom (i + 1) (if i = 1 then s else (s + x) % 256) l
def rawPage (g : Int) (l : List Int) : List Int := [76, 0] ++ lowB g 4 ++ [(l.length : Int), 0] ++ l ++ List.replicate (56 - l.length) 0
def pageM (b : Bool) (g : Int) (l : List Int) : List Int :=
  if b = true ∧ 1 ≤ g ∧ g ≤ 1000000000 ∧ l.length ≤ 56 then (rawPage g l).set 1 (checkFrom 0 0 (rawPage g l)) else []
theorem rawPage_len (g : Int) (l : List Int) (h : l.length ≤ 56) : (rawPage g l).length = 64 := by
  simp [rawPage, lowB_length]
  omega
def Bs (l : List Int) : Prop := ∀ x ∈ l, 0 ≤ x ∧ x ≤ 255
theorem Bs.drop {l : List Int} (h : Bs l) (n : Nat) : Bs (l.drop n) := fun x hx => h x (List.mem_of_mem_drop hx)
theorem Bs.take {l : List Int} (h : Bs l) (n : Nat) : Bs (l.take n) := fun x hx => h x (List.mem_of_mem_take hx)
theorem Bs.append {a b : List Int} (ha : Bs a) (hb : Bs b) : Bs (a ++ b) := fun x hx => (List.mem_append.1 hx).elim (ha x) (hb x)
theorem Bs.getD {l : List Int} (h : Bs l) (i : Nat) : 0 ≤ l.getD i 0 ∧ l.getD i 0 ≤ 255 := by
  by_cases hi : i < l.length
  · exact h _ (getD_mem l i 0 hi)
  · simp [List.getD, List.getElem?_eq_none (Nat.le_of_not_lt hi)]
def numM : List Int → Int
  | [] => 0
  | x :: l => x + 256 * numM l
theorem numM_nonneg {l : List Int} (h : Bs l) : 0 ≤ numM l := by
  induction l with
  | nil => simp [numM]
  | cons x l ih =>
    have h1 := ih (fun y hy => h y (List.mem_cons_of_mem _ hy))
    have h2 := h x List.mem_cons_self
    simp only [numM]; omega
theorem numM_lt {l : List Int} (h : Bs l) : numM l < 256 ^ l.length := by
  induction l with
  | nil => simp [numM]
  | cons x l ih =>
    have h1 := ih (fun y hy => h y (List.mem_cons_of_mem _ hy))
    have h2 := h x List.mem_cons_self
    simp only [numM, List.length_cons, Int.pow_succ]
    omega
theorem numM_lt7 {l : List Int} (h : Bs l) (hl : l.length < 8) : numM l < 72057594037927936 := by
  have h1 := numM_lt h
  have h2 : ∀ n : Nat, n < 8 → (256 : Int) ^ n ≤ 72057594037927936 := by decide
  have h3 := h2 _ hl
  omega
theorem or_join {v b : Int} (hv : 0 ≤ v) (hv' : v < 72057594037927936) (hb : 0 ≤ b) (hb' : b ≤ 255) : Go.bits .or .u64 (IntKind.u64.wrap (v * 256)) (IntKind.u64.wrap b) = b + 256 * v := by
  rw [u64_wrap, u64_wrap, Int.emod_eq_of_lt (a := v * 256) (by omega) (by omega), Int.emod_eq_of_lt (a := b) (by omega) (by omega)]
  rw [Go.bits_join .u64 64 (by decide) (fun n h0 h1 => by rw [u64_wrap]; exact Int.emod_eq_of_lt h0 h1) 8 (v * 256) b (by omega) (by omega) (by omega) hb (by omega) (by omega)]
  omega
theorem and255 (x : Int) (h0 : 0 ≤ x) (h1 : x < 18446744073709551616) : Go.bits .and .u64 x 255 = x % 256 :=
  Go.bits_mask .u64 64 (by decide) (fun n h0 h1 => by rw [u64_wrap]; exact Int.emod_eq_of_lt h0 h1) 8 (by decide) x h0 h1
def readM (b : List Int) : Bool × Int × Int × Int × Int × ByteArray × Int :=
  let t := numM ((b.take 6).drop 2)
  let w := numM ((b.take 9).drop 7)
  let n := wrap64 (numM ((b.take 17).drop 9))
  let s := strOfNums ((b.take (17 + b.getD 1 0).toNat).drop 17)
  if 17 ≤ b.length ∧ b.getD 0 0 = 78 ∧ 17 + b.getD 1 0 ≤ b.length ∧ noteOk t (b.getD 6 0) w s = true then (true, t, b.getD 6 0, w, n, s, 17 + b.getD 1 0) else (false, 0, 0, 0, 0, (⟨#[]⟩ : ByteArray), 0)
theorem readM_no {b : List Int} (h : ¬ (17 ≤ b.length ∧ b.getD 0 0 = 78 ∧ 17 + b.getD 1 0 ≤ b.length)) : readM b = (false, 0, 0, 0, 0, (⟨#[]⟩ : ByteArray), 0) := by
  unfold readM
  exact if_neg (fun h' => h ⟨h'.1, h'.2.1, h'.2.2.1⟩)
theorem readM_yes {b : List Int} (h1 : 17 ≤ b.length) (h2 : b.getD 0 0 = 78) (h3 : 17 + b.getD 1 0 ≤ b.length) (h4 : noteOk (numM ((b.take 6).drop 2)) (b.getD 6 0) (numM ((b.take 9).drop 7)) (strOfNums ((b.take (17 + b.getD 1 0).toNat).drop 17)) = true) :
    readM b = (true, numM ((b.take 6).drop 2), b.getD 6 0, numM ((b.take 9).drop 7), wrap64 (numM ((b.take 17).drop 9)), strOfNums ((b.take (17 + b.getD 1 0).toNat).drop 17), 17 + b.getD 1 0) := if_pos ⟨h1, h2, h3, h4⟩
def pageOfM (b : List Int) : Bool × Int × List Int :=
  let g := numM ((b.take 6).drop 2)
  let l := (b.take (8 + b.getD 6 0).toNat).drop 8
  if b.length = 64 ∧ b.getD 6 0 ≤ 56 ∧ pageM true g l = b then (true, g, l) else (false, 0, [])
theorem pageOfM_eq {b : List Int} (h1 : b.length = 64) (h2 : b.getD 6 0 ≤ 56) : pageOfM b = if pageM true (numM ((b.take 6).drop 2)) ((b.take (8 + b.getD 6 0).toNat).drop 8) = b then (true, numM ((b.take 6).drop 2), (b.take (8 + b.getD 6 0).toNat).drop 8) else (false, 0, []) := by
  unfold pageOfM
  by_cases h3 : pageM true (numM ((b.take 6).drop 2)) ((b.take (8 + b.getD 6 0).toNat).drop 8) = b
  · rw [if_pos h3]; exact if_pos ⟨h1, h2, h3⟩
  · rw [if_neg h3]; exact if_neg (fun h => h3 h.2.2)
theorem pageOfM_no {b : List Int} (h : ¬ (b.length = 64 ∧ b.getD 6 0 ≤ 56)) : pageOfM b = (false, 0, []) := by
  unfold pageOfM
  exact if_neg (fun h' => h ⟨h'.1, h'.2.1⟩)
theorem toList_inj {a b : ByteArray} (h : a.toList = b.toList) : a = b := by
  rw [ByteArray.toList_eq, ByteArray.toList_eq] at h
  cases a; cases b
  simp_all
theorem strOfNums_inj {a b : List Int} (ha : Bs a) (hb : Bs b) (h : strOfNums a = strOfNums b) : a = b := by
  have h1 : (a.map fun n => UInt8.ofNat n.toNat) = b.map fun n => UInt8.ofNat n.toNat := by
    have := congrArg (fun s : ByteArray => s.data.toList) h
    simpa [strOfNums] using this
  apply List.ext_getElem?
  intro i
  have h2 := congrArg (fun l => l[i]?) h1
  simp only [List.getElem?_map] at h2
  cases ea : a[i]? with
  | none =>
    cases eb : b[i]? with
    | none => rfl
    | some y => rw [ea, eb] at h2; simp at h2
  | some x =>
    cases eb : b[i]? with
    | none => rw [ea, eb] at h2; simp at h2
    | some y =>
      rw [ea, eb] at h2
      simp only [Option.map_some, Option.some.injEq] at h2
      have hx := ha x (List.mem_of_getElem? ea)
      have hy := hb y (List.mem_of_getElem? eb)
      have h3 := congrArg UInt8.toNat h2
      simp only [UInt8.toNat_ofNat'] at h3
      congr 1
      omega
def sumX : Nat → List Int → Int
  | _, [] => 0
  | i, x :: l => (if i = 1 then 0 else x) + sumX (i + 1) l
theorem checkFrom_sum : ∀ (l : List Int) (i : Nat) (s : Int), 0 ≤ s → s ≤ 255 → checkFrom i s l = (s + sumX i l) % 256 := by
  intro l
  induction l with
  | nil => intro i s h0 h1; simp only [checkFrom, sumX]; omega
  | cons x l ih =>
    intro i s h0 h1
    simp only [checkFrom, sumX]
    by_cases h : i = 1
    · rw [if_pos h, if_pos h, ih _ _ h0 h1]; omega
    · rw [if_neg h, if_neg h, ih _ _ (by omega) (by omega)]; omega
theorem sumX_set : ∀ (l : List Int) (i j : Nat) (y : Int), j < l.length → sumX i (l.set j y) = sumX i l + (if i + j = 1 then 0 else y - l.getD j 0) := by
  intro l
  induction l with
  | nil => intro i j y h; simp at h
  | cons x l ih =>
    intro i j y h
    cases j with
    | zero =>
      simp only [List.set_cons_zero, sumX, Nat.add_zero, List.getD_cons_zero]
      by_cases h1 : i = 1
      · simp [h1]
      · simp [h1]; omega
    | succ j =>
      simp only [List.set_cons_succ, sumX, List.getD_cons_succ]
      rw [ih (i + 1) j y (by simpa using h), show i + 1 + j = i + (j + 1) by omega]
      omega
theorem pageM_is {b : Bool} {g : Int} {l x : List Int} (h : pageM b g l = x) (hx : x ≠ []) : x.length = 64 ∧ x.getD 1 0 = checkFrom 0 0 x ∧ b = true ∧ 1 ≤ g ∧ g ≤ 1000000000 ∧ l.length ≤ 56 := by
  unfold pageM at h
  by_cases hc : b = true ∧ 1 ≤ g ∧ g ≤ 1000000000 ∧ l.length ≤ 56
  · rw [if_pos hc] at h
    subst h
    have hl := rawPage_len g l hc.2.2.2
    refine ⟨by rw [List.length_set, hl], ?_, hc⟩
    have h1 : checkFrom 0 0 ((rawPage g l).set 1 (checkFrom 0 0 (rawPage g l))) = checkFrom 0 0 (rawPage g l) := by
      rw [checkFrom_sum _ 0 0 (by omega) (by omega), checkFrom_sum (rawPage g l) 0 0 (by omega) (by omega), sumX_set _ _ _ _ (by omega)]
      simp
    rw [h1]
    simp [List.getD, List.getElem?_set, hl]
  · rw [if_neg hc] at h
    exact absurd h.symm hx
theorem numM_low2 {v : Int} (h0 : 0 ≤ v) (h1 : v < 65536) : numM (lowB v 2) = v := by
  simp only [lowB, numM]; omega
theorem numM_low4 {v : Int} (h0 : 0 ≤ v) (h1 : v < 4294967296) : numM (lowB v 4) = v := by
  simp only [lowB, numM]; omega
theorem numM_low8 {v : Int} (h0 : 0 ≤ v) (h1 : v < 18446744073709551616) : numM (lowB v 8) = v := by
  simp only [lowB, numM]; omega
theorem rawPage_parts (g : Int) (l : List Int) (c : Int) : (rawPage g l).set 1 c = [76, c] ++ lowB g 4 ++ [(l.length : Int), 0] ++ l ++ List.replicate (56 - l.length) 0 := by
  simp [rawPage]
theorem pageOf_pageM {g : Int} {l : List Int} (h1 : 1 ≤ g) (h2 : g ≤ 1000000000) (h3 : l.length ≤ 56) : pageOfM (pageM true g l) = (true, g, l) := by
  have hp : pageM true g l = [76, checkFrom 0 0 (rawPage g l)] ++ lowB g 4 ++ [(l.length : Int), 0] ++ l ++ List.replicate (56 - l.length) 0 := by
    unfold pageM
    rw [if_pos ⟨rfl, h1, h2, h3⟩, rawPage_parts]
  have hlen : (pageM true g l).length = 64 := by rw [hp]; simp [lowB_length]; omega
  have h6 : (pageM true g l).getD 6 0 = l.length := by rw [hp]; simp [lowB]
  have hg : ((pageM true g l).take 6).drop 2 = lowB g 4 := by rw [hp]; simp [lowB]
  have hl : ((pageM true g l).take (8 + (pageM true g l).getD 6 0).toNat).drop 8 = l := by
    rw [h6, show (8 + (l.length : Int)).toNat = 8 + l.length by omega, hp]
    rw [List.take_left' (by simp [lowB_length]; omega)]
    exact List.drop_left' (by simp [lowB_length])
  rw [pageOfM_eq hlen (by rw [h6]; omega), hg, hl, numM_low4 (by omega) (by omega), if_pos rfl]
theorem pageOfM_ok {b : List Int} (h : (pageOfM b).1 = true) : b.length = 64 ∧ pageM true (pageOfM b).2.1 (pageOfM b).2.2 = b := by
  by_cases hc : b.length = 64 ∧ b.getD 6 0 ≤ 56
  · rw [pageOfM_eq hc.1 hc.2] at h ⊢
    by_cases h3 : pageM true (numM ((b.take 6).drop 2)) ((b.take (8 + b.getD 6 0).toNat).drop 8) = b
    · rw [if_pos h3]; exact ⟨hc.1, h3⟩
    · rw [if_neg h3] at h; simp at h
  · rw [pageOfM_no hc] at h; simp at h
theorem noteOk_is {t k w : Int} {s : ByteArray} (h : noteOk t k w s = true) : 0 ≤ t ∧ t ≤ 1000000000 ∧ 0 ≤ k ∧ k ≤ 100 ∧ 0 ≤ w ∧ w ≤ 1000 ∧ s.size ≤ 200 := of_decide_eq_true h
theorem strOf_bytesOf (s : ByteArray) : strOfNums (bytesOf s) = s := by
  obtain ⟨⟨l⟩⟩ := s
  simp only [strOfNums, bytesOf, List.map_map]
  congr 2
  have : ((fun n : Int => UInt8.ofNat n.toNat) ∘ fun b : UInt8 => ((b.toNat : Nat) : Int)) = id := by
    funext b
    simp
  rw [this]
  simp
def headM (t k w n : Int) (m : Nat) : List Int := [78, (m : Int)] ++ lowB t 4 ++ [k] ++ lowB w 2 ++ lowB (n % 18446744073709551616) 8
theorem headM_len (t k w n : Int) (m : Nat) : (headM t k w n m).length = 17 := by simp [headM, lowB_length]
theorem frameM_ok {t k w n : Int} {s : ByteArray} (h : noteOk t k w s = true) : frameM t k w n s = headM t k w n s.size ++ bytesOf s := by
  have := noteOk_is h
  unfold frameM headM
  rw [if_pos h, Int.emod_eq_of_lt (a := (s.size : Int)) (by omega) (by omega)]
theorem frameM_size {t k w n : Int} {s : ByteArray} (h : noteOk t k w s = true) : (frameM t k w n s).length = 17 + s.size := by
  rw [frameM_ok h, List.length_append, headM_len, bytesOf_len]
theorem head_gets (t k w n : Int) (m : Nat) (r : List Int) : (headM t k w n m ++ r).getD 0 0 = 78 ∧ (headM t k w n m ++ r).getD 1 0 = m ∧ (headM t k w n m ++ r).getD 6 0 = k ∧
    ((headM t k w n m ++ r).take 6).drop 2 = lowB t 4 ∧ ((headM t k w n m ++ r).take 9).drop 7 = lowB w 2 ∧ ((headM t k w n m ++ r).take 17).drop 9 = lowB (n % 18446744073709551616) 8 := by
  simp [headM, lowB]
theorem readM_frame {t k w n : Int} {s : ByteArray} (h : noteOk t k w s = true) (hn : -9223372036854775808 ≤ n ∧ n ≤ 9223372036854775807) (r : List Int) : readM (frameM t k w n s ++ r) = (true, t, k, w, n, s, 17 + (s.size : Int)) := by
  have ho := noteOk_is h
  rw [frameM_ok h, List.append_assoc]
  obtain ⟨g0, g1, g6, e1, e2, e3⟩ := head_gets t k w n s.size (bytesOf s ++ r)
  have hs : ((headM t k w n s.size ++ (bytesOf s ++ r)).take (17 + (headM t k w n s.size ++ (bytesOf s ++ r)).getD 1 0).toNat).drop 17 = bytesOf s := by
    rw [g1, ← List.append_assoc, List.take_left' (by rw [List.length_append, headM_len, bytesOf_len]; omega)]
    exact List.drop_left' (headM_len ..)
  have hl : (headM t k w n s.size ++ (bytesOf s ++ r)).length = 17 + s.size + r.length := by simp [headM_len, bytesOf_len]; omega
  have h4 : noteOk (numM (((headM t k w n s.size ++ (bytesOf s ++ r)).take 6).drop 2)) ((headM t k w n s.size ++ (bytesOf s ++ r)).getD 6 0) (numM (((headM t k w n s.size ++ (bytesOf s ++ r)).take 9).drop 7)) (strOfNums (((headM t k w n s.size ++ (bytesOf s ++ r)).take (17 + (headM t k w n s.size ++ (bytesOf s ++ r)).getD 1 0).toNat).drop 17)) = true := by
    rw [hs, e1, e2, g6, numM_low4 (by omega) (by omega), numM_low2 (by omega) (by omega), strOf_bytesOf]
    exact h
  rw [readM_yes (by omega) g0 (by rw [g1]; omega) h4, hs, e1, e2, e3, g6, g1, numM_low4 (by omega) (by omega), numM_low2 (by omega) (by omega), numM_low8 (by omega) (by omega), strOf_bytesOf]
  congr 5
  unfold wrap64
  omega
theorem readM_short {t k w n : Int} {s : ByteArray} (h : noteOk t k w s = true) (m : Nat) (hm : m < 17 + s.size) : (readM ((frameM t k w n s).take m)).1 = false := by
  have hl : ((frameM t k w n s).take m).length = m := by rw [List.length_take, frameM_size h]; omega
  rw [readM_no]
  rintro ⟨h1, _, h3⟩
  have g1 : ((frameM t k w n s).take m).getD 1 0 = s.size := by
    have := (head_gets t k w n s.size (bytesOf s)).2.1
    rw [frameM_ok h, ← this]
    simp only [List.getD, List.getElem?_take, if_pos (show 1 < m by omega)]
  rw [g1] at h3
  omega
end Go.Proofs.Ytocdlibnmlcokaa.Math
