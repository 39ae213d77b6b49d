/- Arguments opened as kinds: what the form reads of an argument, told as the printed walks' kinds (Kd). For every world and every reading; no condition. -/
import Derived.Test.YtocdlibnmlcokaaWWords
import Derived.Test.YtocdlibnmlcokaaWMore
import Derived.ChangeArms
import Derived.ChangeSlices
import Derived.Deep.Slices
namespace Go.Proofs.Ytocdlibnmlcokaa.Open
open Go.RowKit Go.Proofs.YtocdlibnmlcokaaW.PrintWords Go.Proofs.YtocdlibnmlcokaaW.PrintLast
open Go.ChangeShapes Go.WideShapes
set_option linter.unusedVariables false

/-- Whatever is read at type t is a value of the kind d that meets ok. -/
def Opens (P : Program) (t : TypeId) {α : Type} (d : Kd α) (ok : α → Prop) : Prop :=
  ∀ (H : Type) (enc : TypeId × Value → H) (w : World) (fuel : Nat) (cs : List Value) (x : DataW H × List MemPlace), DataW.trod enc P w 0 (fun _ => true) true fuel t cs = some x → ∃ y : α, d.K w y cs ∧ ok y

theorem opens_int {P : Program} {t : TypeId} {k : IntKind} (ht : P.underlying t = some (.int k)) : Opens P t (Kd.int k) (fun n => (Lit.int k n).wf = true) := by
  intro H enc w fuel cs x h
  obtain ⟨n, rfl, _, hw⟩ := DataW.trod_int ht h
  exact ⟨n, rfl, hw⟩
theorem opens_bool {P : Program} {t : TypeId} (ht : P.underlying t = some .bool) : Opens P t Kd.bool (fun _ => True) := by
  intro H enc w fuel cs x h
  obtain ⟨n, rfl, _⟩ := DataW.trod_bool ht h
  exact ⟨n, rfl, trivial⟩
theorem opens_string {P : Program} {t : TypeId} (ht : P.underlying t = some .string) : Opens P t Kd.string (fun s => s.size ≤ maxLen) := by
  intro H enc w fuel cs x h
  obtain ⟨n, rfl, _, hs⟩ := DataW.trod_string ht h
  exact ⟨n, rfl, hs⟩

theorem opens_slice {P : Program} {t e : TypeId} {α : Type} {d : Kd α} {ok : α → Prop} (e' : Nat) (ht : P.underlying t = some (.slice e)) (hc : P.cellsOf e = d.sz) (he : Opens P e d ok) :
    Opens P t (Kd.slice e' d) (fun xs => xs.length ≤ maxLen ∧ ∀ x ∈ xs, ok x) := by
  intro H enc w fuel cs x h
  rcases Go.Deep.open_slice ht h with ⟨rfl, _⟩ | ⟨a, len, cap, m, n, D, Pl, rfl, _, hl, hm, hmm, _, hx⟩
  · exact ⟨[], ⟨none, 0, rfl, by simp, by simp, by simp, fun h => absurd h (by simp)⟩, by simp, by simp⟩
  · have hlm : len ≤ m := by rw [hmm]; split <;> omega
    have key : ∀ n' : Nat, n' ≤ len → ∃ ys : List α, ys.length = n' ∧ (∀ y ∈ ys, ok y) ∧ ∀ j p, ys[j]? = some p → ∃ c, c.length = d.sz ∧ d.K w p c ∧ ∀ i u, c[i]? = some u → w.cell? (a.add (j * d.sz + i)) = some u := by
      intro n'
      induction n' with
      | zero => exact fun _ => ⟨[], rfl, by simp, by simp⟩
      | succ n' ih =>
        intro hn
        obtain ⟨ys, hyl, hyo, hyc⟩ := ih (by omega)
        obtain ⟨cs', h1, h2⟩ := hx n' (by omega)
        obtain ⟨y, hK, hok⟩ := he H enc w _ _ _ h2
        obtain ⟨_, hlen, hcell⟩ := World.cells?_some h1
        rw [hc] at hlen hcell
        refine ⟨ys ++ [y], by simp [hyl], ?_, ?_⟩
        · intro z hz
          rcases List.mem_append.1 hz with hz | hz
          · exact hyo z hz
          · rw [List.mem_singleton.1 hz]; exact hok
        · intro j p hj
          rcases Nat.lt_or_ge j ys.length with hlt | hge
          · rw [List.getElem?_append_left hlt] at hj
            exact hyc j p hj
          · rw [List.getElem?_append_right hge] at hj
            have hj0 : j - ys.length = 0 := by
              rcases Nat.eq_zero_or_pos (j - ys.length) with h0 | h0
              · exact h0
              · rw [List.getElem?_eq_none (by simp; omega)] at hj
                cases hj
            have hjn : j = n' := by omega
            subst hjn
            rw [hj0] at hj
            obtain rfl : y = p := by simpa using hj
            refine ⟨cs', hlen, hK, fun i u hu => ?_⟩
            have hi : i < d.sz := by
              have := (List.getElem?_eq_some_iff.1 hu).1
              omega
            have hc1 := hcell i hi
            rw [hu, Go.Deep.add_add] at hc1
            exact hc1
    obtain ⟨ys, hyl, hyo, hyc⟩ := key len (Nat.le_refl _)
    have hb : len ≤ 9223372036854775807 := by
      unfold maxLen at hm
      omega
    subst hyl
    exact ⟨ys, ⟨some a, cap, rfl, hl, rfl, hb, fun _ => ⟨a, rfl, hyc⟩⟩, by omega, hyo⟩

/-- The fields of a struct, in line from off on. -/
def OpensF (P : Program) (off : Nat) (fs : List Field) {α : Type} (d : Kd α) (ok : α → Prop) : Prop :=
  ∀ (H : Type) (enc : TypeId × Value → H) (w : World) (n : Nat) (cs : List Value), off + d.sz ≤ cs.length → (∀ f ∈ fs, ∃ x, DataW.trod enc P w 0 (fun _ => true) true n f.type ((cs.drop f.offset).take (P.cellsOf f.type)) = some x) →
    ∃ y : α, d.K w y ((cs.drop off).take d.sz) ∧ ok y
theorem opensF_one {P : Program} {off : Nat} {f : Field} {α : Type} {d : Kd α} {ok : α → Prop} (ho : f.offset = off) (hc : P.cellsOf f.type = d.sz) (h : Opens P f.type d ok) : OpensF P off [f] d ok := by
  intro H enc w n cs _ hf
  obtain ⟨x, hx⟩ := hf f (List.mem_singleton.2 rfl)
  rw [ho, hc] at hx
  exact h H enc w n _ x hx
theorem opensF_cons {P : Program} {off : Nat} {f : Field} {fs : List Field} {α β : Type} {d : Kd α} {d' : Kd β} {ok : α → Prop} {ok' : β → Prop} (ho : f.offset = off) (hc : P.cellsOf f.type = d.sz) (h : Opens P f.type d ok) (hr : OpensF P (off + d.sz) fs d' ok') :
    OpensF P off (f :: fs) (Kd.pair d d') (fun y => ok y.1 ∧ ok' y.2) := by
  intro H enc w n cs hl hf
  obtain ⟨x, hx⟩ := hf f List.mem_cons_self
  rw [ho, hc] at hx
  obtain ⟨y, hK, hy⟩ := h H enc w n _ x hx
  have hl' : off + (d.sz + d'.sz) ≤ cs.length := hl
  obtain ⟨z, hK', hz⟩ := hr H enc w n cs (by omega) (fun g hg => hf g (List.mem_cons_of_mem _ hg))
  refine ⟨(y, z), ⟨_, _, ?_, hK, hK'⟩, hy, hz⟩
  show (cs.drop off).take (d.sz + d'.sz) = _
  rw [List.take_add, List.drop_drop]
theorem opens_struct {P : Program} {t : TypeId} {fs : Array Field} {α : Type} {d : Kd α} {ok : α → Prop} (ht : P.underlying t = some (.struct fs)) (hc : P.cellsOf t = d.sz) (h : OpensF P 0 fs.toList d ok) : Opens P t d ok := by
  intro H enc w fuel cs x hx
  obtain ⟨xs, n, _, _, hl, hxl, hf⟩ := DataW.trod_struct ht hx
  obtain ⟨y, hK, hy⟩ := h H enc w n cs (by omega) (fun f hm => by
    obtain ⟨i, hi⟩ := List.getElem?_of_mem hm
    have hi' : fs[i]? = some f := by simpa using hi
    have hlt : i < xs.length := by
      have := (Array.getElem?_eq_some_iff.1 hi').1
      omega
    exact ⟨xs[i], by rw [hf i f hi', List.getElem?_eq_getElem hlt]⟩)
  refine ⟨y, ?_, hy⟩
  rw [List.drop_zero, List.take_of_length_le (by omega)] at hK
  exact hK
theorem opens_iso {P : Program} {t : TypeId} {α β : Type} {d : Kd α} {ok : α → Prop} {f : β → α} {ok' : β → Prop} (h : Opens P t d ok) (hs : ∀ x : α, ok x → ∃ y, f y = x ∧ ok' y) : Opens P t (Kd.iso d f) ok' := by
  intro H enc w fuel cs x hx
  obtain ⟨y, hK, hy⟩ := h H enc w fuel cs x hx
  obtain ⟨z, rfl, hz⟩ := hs y hy
  exact ⟨z, hK, hz⟩
theorem opens_mono {P : Program} {t : TypeId} {α : Type} {d : Kd α} {ok ok' : α → Prop} (h : Opens P t d ok) (hs : ∀ x : α, ok x → ok' x) : Opens P t d ok' := by
  intro H enc w fuel cs x hx
  obtain ⟨y, hK, hy⟩ := h H enc w fuel cs x hx
  exact ⟨y, hK, hs y hy⟩
theorem opens_Trod {P : Program} {t : TypeId} {α : Type} {d : Kd α} {ok : α → Prop} (h : Opens P t d ok) {H : Type} {enc : TypeId × Value → H} {w : World} {v : Value} {D : DataW H} {ps : List MemPlace} (hd : DataW.Trod enc P w 0 (fun _ => true) true t v D ps) : ∃ y : α, d.K w y v.cells.toList ∧ ok y := by
  obtain ⟨fuel, hf⟩ := hd
  exact h H enc w fuel _ _ hf
section
variable {P : Program} {w : World} {r : Reach} {base : Nat} {t : TypeId} {v : Value}
theorem agg_of {fs : Array Field} (hs : P.underlying t = some (.struct fs)) (hv : Value.okWide P w r base t v) {l : List Value} (h : v.cells.toList = l) : v = .agg l.toArray := by
  obtain ⟨cs, rfl, _⟩ := okWide_struct hs hv
  subst h
  simp [Value.cells]
theorem slice_of {e : TypeId} (hs : P.underlying t = some (.slice e)) (hv : Value.okWide P w r base t v) {x : Value} (h : v.cells.toList = [x]) : v = x := by
  obtain ⟨a, len, cap, rfl⟩ := okWide_slice hs hv
  simpa [Value.cells] using h
theorem string_of (hs : P.underlying t = some .string) (hv : Value.okWide P w r base t v) {x : Value} (h : v.cells.toList = [x]) : v = x := by
  obtain ⟨s, rfl⟩ := okWide_string hs hv
  simpa [Value.cells] using h
theorem int_of {k : IntKind} (hs : P.underlying t = some (.int k)) (hv : Value.okWide P w r base t v) {x : Value} (h : v.cells.toList = [x]) : v = x := by
  obtain ⟨n, rfl⟩ := okWide_int hs hv
  simpa [Value.cells] using h
theorem bool_of (hs : P.underlying t = some .bool) (hv : Value.okWide P w r base t v) {x : Value} (h : v.cells.toList = [x]) : v = x := by
  obtain ⟨b, rfl⟩ := okWide_bool hs hv
  simpa [Value.cells] using h
end
end Go.Proofs.Ytocdlibnmlcokaa.Open
