/- Laws of the walk for rows of the call's own: append, make, store. -/
import Derived.Test.YtocdlibnmlcokaaA2
namespace Go.Proofs.Ytocdlibnmlcokaa
open Go.RowKit Go.Proofs.YtocdlibnmlcokaaW.PrintWords Go.Proofs.YtocdlibnmlcokaaW.PrintLast
set_option linter.unusedVariables false
namespace Rp
/-- A row made since lo, whose blocks are all different. -/
def Got {α : Type} (r : Rp α) (e lo : Nat) (w : World) (v : Value) (xs : List α) : Prop := ∃ fp, r.Row e w v xs fp ∧ fp.Nodup ∧ ∀ b ∈ fp, lo ≤ b
def GotP {α : Type} (r : Rp α) (lo : Nat) (w : World) (cs : List Value) (x : α) : Prop := ∃ fp, r.P w x cs fp ∧ fp.Nodup ∧ ∀ b ∈ fp, lo ≤ b
section
variable {α : Type} {enc : α → Value} {h1 : ∀ x, (enc x).oneCell' = true} {e : Nat} {w w1 : World} {v : Value} {xs ys : List α} {fp : List Nat}
theorem all3_scalar (w : World) (xs : List α) : All3 ((scalar enc h1).P w) xs (xs.map fun x => [enc x]) (xs.map fun _ => ([] : List Nat)) := by
  induction xs with
  | nil => exact .nil
  | cons x xs ih => exact .cons ⟨rfl, rfl⟩ ih
theorem flat_single (xs : List α) : (xs.map fun x => [enc x]).flatten = encs enc xs := by
  induction xs with
  | nil => rfl
  | cons x xs ih => simp [encs] at ih ⊢; exact ih
theorem flat_none (xs : List α) : (xs.map fun _ => ([] : List Nat)).flatten = [] := by
  induction xs with
  | nil => rfl
  | cons x xs ih => simp
theorem Row_own (ho : w.ownsRow 0 e 1 v xs.length (encs enc xs)) : (scalar enc h1).Row e w v xs v.ownBlock.toList :=
  ⟨_, _, by rw [flat_single]; exact ho, all3_scalar w xs, by rw [flat_none, List.append_nil]⟩
theorem scalar_css {css : List (List Value)} {fps : List (List Nat)} (h : All3 ((scalar enc h1).P w) xs css fps) : css.flatten = encs enc xs ∧ fps.flatten = [] := by
  induction h with
  | nil => exact ⟨rfl, rfl⟩
  | cons h0 _ ih => rw [h0.1, h0.2]; simp [encs] at ih ⊢; exact ih
theorem own_Row (h : (scalar enc h1).Row e w v xs fp) : w.ownsRow 0 e 1 v xs.length (encs enc xs) ∧ fp = v.ownBlock.toList := by
  obtain ⟨css, fps, ho, ha, rfl⟩ := h
  obtain ⟨h2, h3⟩ := scalar_css ha
  rw [h2] at ho
  exact ⟨ho, by rw [h3, List.append_nil]⟩
theorem nodup_toList (o : Option Nat) : o.toList.Nodup := by cases o <;> simp
theorem at_toList {o : Option Nat} {w : World} {u : Option Nat} (hat : o = u ∨ ∃ b, o = some b ∧ w.heap.size ≤ b) : ∀ b ∈ o.toList, b ∈ u.toList ∨ w.heap.size ≤ b := by
  intro b hb
  rcases hat with h | ⟨g, h, hle⟩
  · rw [h] at hb; exact .inl hb
  · rw [h] at hb; simp at hb; exact .inr (by omega)
end
section
variable {P : Program} {ops : Array Oper} {rest : List Oper} {o : Oper} {a : Act} {Q : Exit → Act → World → Prop} {W : World} {α : Type}
/-- What is new since n is none of the elder ones. -/
theorem nodup_new {f g : List Nat} {n : Nat} (hf : f.Nodup) (hg : g.Nodup) (hlt : ∀ b ∈ f, b < n) (hge : ∀ b ∈ g, n ≤ b) : (f ++ g).Nodup :=
  List.nodup_append.2 ⟨hf, hg, fun a ha b hb he => by have := hlt a ha; have := hge b hb; omega⟩
/-- append(v, ys...), scalars. -/
theorem app_row {enc : α → Value} {h1 : ∀ x, (enc x).oneCell' = true} (d : α) (hgd : o.guard = none) (s x : Operand) (t e : TypeId) (z : Value) (bytes : Nat)
    (ho : o.op = .call { callee := .builtin .append, args := #[s, x], argTypes := #[t, t] })
    (ht : P.underlying t = some (.slice e)) (hinfo : (P.info? e).map (fun i => (i.zero, i.size, i.bytes)) = some (some z, 1, bytes)) (hz : z.cells.size = 1) (hb0 : 0 < bytes)
    (v : Value) (xs ys : List α) (A : Option Addr) (m c : Nat) (hs : a.eval s = v) (hx : a.eval x = .slice A m c) {fp : List Nat}
    (HO : (scalar enc h1).Row e W v xs fp) (HR : (Kd.scalar enc h1).C W A m ys) (hl : (xs.length + m) * bytes ≤ 140737488355328)
    (h : ∀ v1 w1 fp1, (scalar enc h1).Row e w1 v1 (xs ++ ys) fp1 → fp1.Nodup → (∀ b ∈ fp1, b ∈ fp ∨ W.heap.size ≤ b) → W.grownBy w1 v.ownBlock → wpList P ops Q rest (a.put o.dst v1) w1) :
    wpList P ops Q (o :: rest) a W := by
  obtain ⟨ho', rfl⟩ := own_Row HO
  refine print_append_row_of (w0 := W) enc d 0 hgd s x t e z bytes ho ht hinfo hz hb0 h1 v xs ys A m c hs hx ho' (Kd.reads_of_C (d := d) HR) (Below.refl _ _) (Nat.zero_le _) hl ?_
  intro v1 w1 hown _ hg hat
  exact h v1 w1 _ (Row_own hown) (nodup_toList _) (at_toList hat) hg
/-- append(v, p): p's cells lie in the variadic's box. -/
theorem app_one (r : Rp α) (hgd : o.guard = none) (s x : Operand) (t e : TypeId) (z : Value) (bytes : Nat)
    (ho : o.op = .call { callee := .builtin .append, args := #[s, x], argTypes := #[t, t] })
    (ht : P.underlying t = some (.slice e)) (hinfo : (P.info? e).map (fun i => (i.zero, i.size, i.bytes)) = some (some z, r.d.sz, bytes)) (hz : z.cells.size = r.d.sz) (hs0 : 0 < r.d.sz) (hb0 : 0 < bytes)
    (v : Value) (xs : List α) (p : α) (cs : List Value) (hs : a.eval s = v) (hx : a.eval x = .slice (some ⟨W.heap.size, 0, none⟩) 1 1) {fp fpx : List Nat}
    (HO : r.Row e W v xs fp) (hp : r.P W p cs fpx) (hnd : (fp ++ fpx).Nodup) (hl : (xs.length + 1) * bytes ≤ 140737488355328)
    (h : ∀ v1 w1 fp1, r.Row e w1 v1 (xs ++ [p]) fp1 → fp1.Nodup → (∀ b ∈ fp1, b ∈ fp ∨ b ∈ fpx ∨ W.heap.size ≤ b) → W.grownBy w1 v.ownBlock → wpList P ops Q rest (a.put o.dst v1) w1) :
    wpList P ops Q (o :: rest) a (W.alloc (.cells cs.toArray e)) := by
  obtain ⟨css, fps, hown, ha, rfl⟩ := HO
  refine print_append_cells (w0 := W) 0 hgd s x t e z r.d.sz bytes ho ht hinfo hz hs0 hb0 v xs.length css.flatten cs hs hx (r.len hp) (r.d.K_one (r.toK hp)) hown (Below.refl _ _) (Nat.zero_le _) hl ?_
  intro v1 w1 hown1 _ hg hat
  obtain ⟨fp1, h2, h3, h4⟩ := Row_snoc hown ha hp hnd hown1 hg hat
  exact h v1 w1 fp1 h2 h3 h4 hg
/-- The same in a region that draws. -/
theorem app_one_step (r : Rp α) {K : Act → World → Prop} {E : Prop} (hgd : o.guard = none) (s x : Operand) (t e : TypeId) (z : Value) (bytes : Nat)
    (ho : o.op = .call { callee := .builtin .append, args := #[s, x], argTypes := #[t, t] })
    (ht : P.underlying t = some (.slice e)) (hinfo : (P.info? e).map (fun i => (i.zero, i.size, i.bytes)) = some (some z, r.d.sz, bytes)) (hz : z.cells.size = r.d.sz) (hs0 : 0 < r.d.sz) (hb0 : 0 < bytes)
    (v : Value) (xs : List α) (p : α) (cs : List Value) (hs : a.eval s = v) (hx : a.eval x = .slice (some ⟨W.heap.size, 0, none⟩) 1 1) {fp fpx : List Nat}
    (HO : r.Row e W v xs fp) (hp : r.P W p cs fpx) (hnd : (fp ++ fpx).Nodup) (hl : (xs.length + 1) * bytes ≤ 140737488355328)
    (h : ∀ v1 w1 fp1, r.Row e w1 v1 (xs ++ [p]) fp1 → fp1.Nodup → (∀ b ∈ fp1, b ∈ fp ∨ b ∈ fpx ∨ W.heap.size ≤ b) → W.grownBy w1 v.ownBlock → K (a.put o.dst v1) w1) :
    if Region.wanted o (yielded ops a.tmps) = true then Oper.wp P o a (W.alloc (.cells cs.toArray e)) K Q else E := by
  have hw : Region.wanted o (yielded ops a.tmps) = true := by simp [Region.wanted, hgd]
  obtain ⟨css, fps, hown, ha, rfl⟩ := HO
  have := step_append_cells (Q := Q) (K := K) (ops := ops) (w0 := W) 0 hw s x t e z r.d.sz bytes ho ht hinfo hz hs0 hb0 v xs.length css.flatten cs hs hx (r.len hp) (r.d.K_one (r.toK hp)) hown (Below.refl _ _) (Nat.zero_le _) hl (by
    intro v1 w1 hown1 _ hg hat
    obtain ⟨fp1, h2, h3, h4⟩ := Row_snoc hown ha hp hnd hown1 hg hat
    exact h v1 w1 fp1 h2 h3 h4 hg)
  rw [if_pos hw] at this ⊢
  exact this
/-- make([]T, n): the run, and the row. -/
theorem mk_core (r : Rp α) (t e : TypeId) (x y : Operand) (ho : o.op = .makeSlice t x y) (n : Int) (hx : a.eval x = .int .i64 n) (hy : a.eval y = .int .i64 n)
    (ht : P.underlying t = some (.slice e)) (z : Value) (bytes : Nat) (hinfo : (P.info? e).map (fun i => (i.zero, i.size, i.bytes)) = some (some z, r.d.sz, bytes)) (hz : z.cells.size = r.d.sz) (hs0 : 0 < r.d.sz) (hb0 : 0 < bytes)
    (z0 : α) (hzero : ∀ w, r.P w z0 z.cells.toList []) (h0 : 0 ≤ n) (hl : n.toNat * bytes ≤ 281474976710656) :
    ∃ w1, (execOp a.eval o).run P W = .ok (.value (.slice (some ⟨W.heap.size, 0, none⟩) n.toNat n.toNat)) w1 ∧ r.Row e w1 (.slice (some ⟨W.heap.size, 0, none⟩) n.toNat n.toNat) (List.replicate n.toNat z0) [W.heap.size] ∧ Below W.heap.size W w1 := by
  obtain ⟨m, rfl⟩ := Int.eq_ofNat_of_zero_le h0
  simp only [Int.toNat_natCast] at hl ⊢
  obtain ⟨i0, hi, hzz⟩ := Option.map_eq_some_iff.1 hinfo
  simp only [Prod.mk.injEq] at hzz
  obtain ⟨hz0, hz1, hz2⟩ := hzz
  have hm : m ≤ 281474976710656 := Nat.le_trans (Nat.le_mul_of_pos_right _ hb0) hl
  have hr := run_make (P := P) W t e i0 z ht hi hz0 .i64 .i64 (m : Int) (m : Int) (by omega) (by omega)
    (by
      have h3 : ((i0.bytes * m : Nat) : Int) ≤ 281474976710656 := by rw [hz2, Nat.mul_comm]; omega
      rwa [Int.natCast_mul] at h3) (by omega)
  simp only [Int.toNat_natCast] at hr
  rw [hz1] at hr
  refine ⟨W.alloc (.cells (madeCells z.cells (m * r.d.sz)) e), by simp [execOp, ho, hx, hy, hr], ?_, below_alloc (Below.refl _ _) _⟩
  have key : ∀ k : Nat, k ≤ m → All3 (r.P (W.alloc (.cells (madeCells z.cells (m * r.d.sz)) e))) (List.replicate k z0) (List.replicate k z.cells.toList) (List.replicate k ([] : List Nat)) := by
    intro k
    induction k with
    | zero => intro _; exact .nil
    | succ k ih => intro hk; exact .cons (hzero _) (ih (by omega))
  have hfl : (List.replicate m z.cells.toList).flatten = (madeCells z.cells (m * r.d.sz)).toList := by
    have hzl : z.cells.toList.length = r.d.sz := by rw [Array.length_toList, hz]
    apply List.ext_getElem
    · rw [flat_len (n := r.d.sz) (fun c hc => by rw [List.mem_replicate] at hc; rw [hc.2, hzl])]
      simp [size_madeCells]
    · intro i h3 h4
      have hi4 : i < m * r.d.sz := by simpa [size_madeCells] using h4
      have hq : i / r.d.sz < m := (Nat.div_lt_iff_lt_mul hs0).2 hi4
      have e1 := flat_get (n := r.d.sz) (css := List.replicate m z.cells.toList) (fun c hc => by rw [List.mem_replicate] at hc; rw [hc.2, hzl]) (i / r.d.sz) (by simpa using hq)
      have hmod := Nat.mod_lt i hs0
      have hdm : i / r.d.sz * r.d.sz + i % r.d.sz = i := by rw [Nat.mul_comm]; exact Nat.div_add_mod i r.d.sz
      have e2 : (List.replicate m z.cells.toList).flatten[i]? = z.cells.toList[i % r.d.sz]? := by
        have e3 := congrArg (fun l => l[i % r.d.sz]?) e1
        simp only [List.getElem?_take, List.getElem?_drop, List.getElem_replicate] at e3
        rw [if_pos hmod, hdm] at e3
        exact e3
      rw [List.getElem?_eq_getElem h3, List.getElem?_eq_getElem (by rw [hzl]; exact hmod)] at e2
      injection e2 with e2
      rw [e2]
      simp [madeCells, hz]
      rw [getElem!_pos z.cells _ (by rw [hz]; exact hmod)]
  refine ⟨List.replicate m z.cells.toList, List.replicate m [], ?_, ?_, ?_⟩
  · rw [hfl, List.length_replicate]
    have h2 := World.ownsRow_lit (base := 0) (e := e) (size := r.d.sz) W (madeCells z.cells (m * r.d.sz)) m (Nat.zero_le _) (by simp only [maxLen]; omega) (by simp [size_madeCells])
    simpa using h2
  · exact key m (Nat.le_refl _)
  · simp [Value.ownBlock]
/-- make([]T, n). -/
theorem mk_row (r : Rp α) (hgd : o.guard = none) {N : Tmp} (hd : o.dst = some N) (t e : TypeId) (x y : Operand) (ho : o.op = .makeSlice t x y) (n : Int) (hx : a.eval x = .int .i64 n) (hy : a.eval y = .int .i64 n)
    (ht : P.underlying t = some (.slice e)) (z : Value) (bytes : Nat) (hinfo : (P.info? e).map (fun i => (i.zero, i.size, i.bytes)) = some (some z, r.d.sz, bytes)) (hz : z.cells.size = r.d.sz) (hs0 : 0 < r.d.sz) (hb0 : 0 < bytes)
    (z0 : α) (hzero : ∀ w, r.P w z0 z.cells.toList []) (h0 : 0 ≤ n) (hl : n.toNat * bytes ≤ 281474976710656)
    (h : ∀ g w1, g = W.heap.size → r.Row e w1 (.slice (some ⟨g, 0, none⟩) n.toNat n.toNat) (List.replicate n.toNat z0) [g] → Below W.heap.size W w1 → wpList P ops Q rest (a.put o.dst (.slice (some ⟨g, 0, none⟩) n.toNat n.toNat)) w1) : wpList P ops Q (o :: rest) a W := by
  obtain ⟨w1, hrun, hr, hb⟩ := mk_core (W := W) (o := o) (a := a) r t e x y ho n hx hy ht z bytes hinfo hz hs0 hb0 z0 hzero h0 hl
  exact Kd.event_run hgd hrun (h _ _ rfl hr hb)
theorem mk_row_step (r : Rp α) {K : Act → World → Prop} {E : Prop} (hgd : o.guard = none) (t e : TypeId) (x y : Operand) (ho : o.op = .makeSlice t x y) (n : Int) (hx : a.eval x = .int .i64 n) (hy : a.eval y = .int .i64 n)
    (ht : P.underlying t = some (.slice e)) (z : Value) (bytes : Nat) (hinfo : (P.info? e).map (fun i => (i.zero, i.size, i.bytes)) = some (some z, r.d.sz, bytes)) (hz : z.cells.size = r.d.sz) (hs0 : 0 < r.d.sz) (hb0 : 0 < bytes)
    (z0 : α) (hzero : ∀ w, r.P w z0 z.cells.toList []) (h0 : 0 ≤ n) (hl : n.toNat * bytes ≤ 281474976710656)
    (h : ∀ g w1, g = W.heap.size → r.Row e w1 (.slice (some ⟨g, 0, none⟩) n.toNat n.toNat) (List.replicate n.toNat z0) [g] → Below W.heap.size W w1 → K (a.put o.dst (.slice (some ⟨g, 0, none⟩) n.toNat n.toNat)) w1) : if Region.wanted o (yielded ops a.tmps) = true then Oper.wp P o a W K Q else E := by
  obtain ⟨w1, hrun, hr, hb⟩ := mk_core (W := W) (o := o) (a := a) r t e x y ho n hx hy ht z bytes hinfo hz hs0 hb0 z0 hzero h0 hl
  have hw : Region.wanted o (yielded ops a.tmps) = true := by simp [Region.wanted, hgd]
  rw [if_pos hw]
  unfold Oper.wp
  rw [hrun]
  exact h _ _ rfl hr hb
/-- append(v, ys...), scalars, in a region that draws. -/
theorem app_row_step {enc : α → Value} {h1 : ∀ x, (enc x).oneCell' = true} {K : Act → World → Prop} {E : Prop} (hgd : o.guard = none) (s x : Operand) (t e : TypeId) (z : Value) (bytes : Nat)
    (ho : o.op = .call { callee := .builtin .append, args := #[s, x], argTypes := #[t, t] })
    (ht : P.underlying t = some (.slice e)) (hinfo : (P.info? e).map (fun i => (i.zero, i.size, i.bytes)) = some (some z, 1, bytes)) (hz : z.cells.size = 1) (hb0 : 0 < bytes)
    (v : Value) (xs ys : List α) (A : Option Addr) (m c : Nat) (hs : a.eval s = v) (hx : a.eval x = .slice A m c) {fp : List Nat}
    (HO : (scalar enc h1).Row e W v xs fp) (HR : (Kd.scalar enc h1).C W A m ys) (hl : (xs.length + m) * bytes ≤ 140737488355328)
    (h : ∀ v1 w1 fp1, (scalar enc h1).Row e w1 v1 (xs ++ ys) fp1 → fp1.Nodup → (∀ b ∈ fp1, b ∈ fp ∨ W.heap.size ≤ b) → W.grownBy w1 v.ownBlock → K (a.put o.dst v1) w1) :
    if Region.wanted o (yielded ops a.tmps) = true then Oper.wp P o a W K Q else E := by
  have hw : Region.wanted o (yielded ops a.tmps) = true := by simp [Region.wanted, hgd]
  obtain ⟨ho', rfl⟩ := own_Row HO
  have := Kd.R_append_rows_step (Q := Q) (Kc := K) (ops := ops) (Kd.scalar enc h1) (Rr := (Kd.scalar enc h1).K W) (w0 := W) 0 hw s x t e z bytes ho ht hinfo hz (by show 0 < 1; omega) hb0 v xs ys A m c (fun _ => True) (fun _ => False) hs hx (Kd.R_of_own ho' (fun _ _ => trivial)) HR (fun _ _ h => h) (fun _ h => h.elim) (fun _ _ => trivial) (Below.refl _ _) (Nat.zero_le _) hl (by
    intro v1 w1 hr _ hg hat
    exact h v1 w1 _ (Row_own (Kd.own_of_R hr)) (nodup_toList _) (at_toList hat) hg)
  rw [if_pos hw] at this ⊢
  exact this
end
end Rp
/-- What is kept: all but the blocks of S. -/
structure Kp (w w1 : World) (S : List Nat) : Prop where
  os : w1.os = w.os
  tape : w1.tape = w.tape
  output : w1.output = w.output
  size : w.heap.size ≤ w1.heap.size
  block : ∀ b, b < w.heap.size → b ∉ S → w1.heap[b]? = w.heap[b]?
namespace Kp
variable {w w0 w1 w2 : World} {S S' : List Nat}
theorem refl (w : World) : Kp w w [] := ⟨rfl, rfl, rfl, Nat.le_refl _, fun _ _ _ => rfl⟩
theorem below (h : Below w.heap.size w w1) : Kp w w1 [] := ⟨h.os, h.tape, h.output, h.size, fun b hb _ => h.block b hb⟩
theorem grown {row : Option Nat} (h : w.grownBy w1 row) : Kp w w1 row.toList := ⟨h.os, h.tape, h.output, h.size, fun b hb hn => h.block b hb (by rintro rfl; simp at hn)⟩
theorem set (w : World) (g j : Nat) (u : Value) : Kp w (w.setCell ⟨g, j, none⟩ u) [g] := ⟨rfl, rfl, rfl, by simp, fun b _ hn => Below.heap_setCell w ⟨g, j, none⟩ u b (by simpa using hn)⟩
theorem trans (h : Kp w w1 S) (k : Kp w1 w2 S') (hs : ∀ b ∈ S', b < w.heap.size → b ∈ S) : Kp w w2 S :=
  ⟨k.os.trans h.os, k.tape.trans h.tape, k.output.trans h.output, Nat.le_trans h.size k.size, fun b hb hn => (k.block b (Nat.lt_of_lt_of_le hb h.size) (fun hm => hn (hs b hm hb))).trans (h.block b hb hn)⟩
theorem mono (h : Kp w w1 S) (hs : ∀ b ∈ S, b < w.heap.size → b ∈ S') : Kp w w1 S' := ⟨h.os, h.tape, h.output, h.size, fun b hb hn => h.block b hb (fun hm => hn (hs b hm hb))⟩
theorem blk (h : Kp w w1 S) {g : Nat} {o : Obj} (hg : w.heap[g]? = some o) (hn : g ∉ S) : w1.heap[g]? = some o := (h.block g (blk_lt hg) hn).trans hg
theorem row (h : Kp w w1 S) {α : Type} {r : Rp α} {e : Nat} {v : Value} {xs : List α} {fp : List Nat} (hr : r.Row e w v xs fp) (hn : ∀ b ∈ fp, b ∉ S) : r.Row e w1 v xs fp := Rp.Row_step hr fun b hb hlt => h.block b hlt (hn b hb)
theorem toBelow (h : Kp w w1 S) {B : Nat} (hb : Below B w0 w) (hB : B ≤ w.heap.size) (hs : ∀ b ∈ S, B ≤ b) : Below B w0 w1 :=
  ⟨h.os.trans hb.os, h.tape.trans hb.tape, h.output.trans hb.output, Nat.le_trans hb.size h.size, fun k hk => (h.block k (Nat.lt_of_lt_of_le hk hB) (fun hm => Nat.lt_irrefl _ (Nat.lt_of_lt_of_le hk (hs k hm)))).trans (hb.block k hk)⟩
end Kp
/-- 'g.f = append(g.f, x)': behind the append and the store. -/
theorem box_app {α : Type} {r : Rp α} {e t g : Nat} {W w2 : World} {v v1 : Value} {xs xs1 : List α} {fp fp1 : List Nat} {cells : Array Value} (HO : r.Row e W v xs fp) (hg : W.heap[g]? = some (.cells cells t (0, 0))) (ht : t ∉ e :: r.E) (hgr : W.grownBy w2 v.ownBlock)
    (hr1 : r.Row e w2 v1 xs1 fp1) (j : Nat) : r.Row e (w2.setCell ⟨g, j, none⟩ v1) v1 xs1 fp1 ∧ (w2.setCell ⟨g, j, none⟩ v1).heap[g]? = some (.cells (cells.setIfInBounds j v1) t (0, 0)) ∧ Kp W (w2.setCell ⟨g, j, none⟩ v1) (fp ++ [g]) := by
  have hg2 := blk_grown hg hgr (Rp.Row_ne HO (Rp.Row_not HO hg ht))
  refine ⟨Rp.Row_set hr1 hg2 ht j v1, blk_set hg2 j v1, ?_⟩
  exact ((Kp.grown hgr).mono (S' := fp ++ [g]) (fun b hb _ => List.mem_append_left _ (Rp.Row_block HO (by simpa using hb)))).trans (Kp.set w2 g j v1) (fun b hb _ => List.mem_append_right _ hb)
theorem set1 {w : World} {g t : Nat} {cells : Array Value} (h : w.heap[g]? = some (.cells cells t (0, 0))) (j : Nat) (x : Value) : (w.setCell ⟨g, j, none⟩ x).heap[g]? = some (.cells (cells.setIfInBounds j x) t (0, 0)) ∧ Kp w (w.setCell ⟨g, j, none⟩ x) [g] := ⟨blk_set h j x, Kp.set _ _ _ _⟩
theorem set2 {w : World} {g t : Nat} {a b : Value} (h : w.heap[g]? = some (.cells #[a, b] t (0, 0))) (x y : Value) : ((w.setCell ⟨g, 0, none⟩ x).setCell ⟨g, 1, none⟩ y).heap[g]? = some (.cells #[x, y] t (0, 0)) ∧ Kp w ((w.setCell ⟨g, 0, none⟩ x).setCell ⟨g, 1, none⟩ y) [g] :=
  ⟨blk_set (blk_set h 0 x) 1 y, (Kp.set _ _ _ _).trans (Kp.set _ _ _ _) (fun _ hb _ => hb)⟩
theorem set3 {w : World} {g t : Nat} {a b c : Value} (h : w.heap[g]? = some (.cells #[a, b, c] t (0, 0))) (x y z : Value) : (((w.setCell ⟨g, 0, none⟩ x).setCell ⟨g, 1, none⟩ y).setCell ⟨g, 2, none⟩ z).heap[g]? = some (.cells #[x, y, z] t (0, 0)) ∧ Kp w (((w.setCell ⟨g, 0, none⟩ x).setCell ⟨g, 1, none⟩ y).setCell ⟨g, 2, none⟩ z) [g] :=
  ⟨blk_set (blk_set (blk_set h 0 x) 1 y) 2 z, ((Kp.set _ _ _ _).trans (Kp.set _ _ _ _) (fun _ hb _ => hb)).trans (Kp.set _ _ _ _) (fun _ hb _ => hb)⟩
theorem blk_new' {w : World} (o : Obj) {n : Nat} (h : w.heap.size = n) : (w.alloc o).heap[n]? = some o := by subst h; exact blk_new w o
theorem alloc1 {w w1 : World} {o1 : Obj} (h : w.alloc o1 = w1) : w1.heap[w.heap.size]? = some o1 ∧ Below w.heap.size w w1 ∧ w1.heap.size = w.heap.size + 1 := by
  subst h
  exact ⟨blk_new w o1, below_alloc (Below.refl _ w) o1, by simp⟩
theorem alloc2 {w w1 : World} {o1 o2 : Obj} (h : (w.alloc o1).alloc o2 = w1) : w1.heap[w.heap.size]? = some o1 ∧ w1.heap[w.heap.size + 1]? = some o2 ∧ Below w.heap.size w w1 ∧ w1.heap.size = w.heap.size + 2 := by
  subst h
  exact ⟨blk_alloc (blk_new w o1) _, blk_new' _ (by simp), below_alloc (below_alloc (Below.refl _ w) o1) o2, by simp⟩
theorem alloc3 {w w1 : World} {o1 o2 o3 : Obj} (h : ((w.alloc o1).alloc o2).alloc o3 = w1) : w1.heap[w.heap.size]? = some o1 ∧ w1.heap[w.heap.size + 1]? = some o2 ∧ w1.heap[w.heap.size + 1 + 1]? = some o3 ∧ Below w.heap.size w w1 ∧ w1.heap.size = w.heap.size + 3 := by
  subst h
  exact ⟨blk_alloc (blk_alloc (blk_new w o1) _) _, blk_alloc (blk_new' _ (by simp)) _, blk_new' _ (by simp), below_alloc (below_alloc (below_alloc (Below.refl _ w) o1) o2) o3, by simp⟩
end Go.Proofs.Ytocdlibnmlcokaa
