/- Stores into rows of the call's own; marks. -/
import Derived.Test.YtocdlibnmlcokaaA3
import Derived.Test.YtocdlibnmlcokaaAR
namespace Go.Proofs.Ytocdlibnmlcokaa
open Go.RowKit Go.Proofs.YtocdlibnmlcokaaW.PrintWords Go.Proofs.YtocdlibnmlcokaaW.PrintLast
set_option linter.unusedVariables false
theorem flat_set {n : Nat} (u : Value) : ∀ {css : List (List Value)}, (∀ c ∈ css, c.length = n) → ∀ (i j : Nat) (hi : i < css.length), j < n → css.flatten.set (i * n + j) u = (css.set i (css[i].set j u)).flatten
  | [], _, i, j, hi, _ => by simp at hi
  | c :: css, h, i, j, hi, hj => by
    have hc := h c List.mem_cons_self
    cases i with
    | zero => simp [hc, hj]
    | succ i =>
      have := flat_set (n := n) u (css := css) (fun c hc => h c (List.mem_cons_of_mem _ hc)) i j (by simpa using hi) hj
      simp only [List.flatten_cons, List.set_cons_succ, List.getElem_cons_succ]
      rw [← this, List.set_append, hc, if_neg (by rw [Nat.succ_mul]; omega)]
      congr 2
      rw [Nat.succ_mul]; omega
theorem flat_at {n : Nat} {css : List (List Value)} (h : ∀ c ∈ css, c.length = n) {i : Nat} (hi : i < css.length) {j : Nat} {u : Value} (hu : css[i][j]? = some u) : css.flatten[i * n + j]? = some u := by
  have e := Rp.flat_get h i hi
  have hj : j < n := by
    have := (List.getElem?_eq_some_iff.1 hu).1
    rwa [h _ (List.getElem_mem hi)] at this
  rw [← e, List.getElem?_take, if_pos hj, List.getElem?_drop] at hu
  exact hu
theorem mem_set_flat {fps : List (List Nat)} {i : Nat} {f : List Nat} {b : Nat} (hb : b ∈ (fps.set i f).flatten) : b ∈ fps.flatten ∨ b ∈ f := by
  obtain ⟨g, hg, hbg⟩ := List.mem_flatten.1 hb
  rcases List.mem_or_eq_of_mem_set hg with h | h
  · exact .inl (List.mem_flatten.2 ⟨g, h, hbg⟩)
  · exact .inr (h ▸ hbg)
theorem nodup_set_flat {f : List Nat} : ∀ {fps : List (List Nat)} {i : Nat}, fps.flatten.Nodup → f.Nodup → (∀ b ∈ f, b ∉ fps.flatten) → (fps.set i f).flatten.Nodup
  | [], i, h, _, _ => by simp
  | g :: fps, i, h, hf, hd => by
    rw [List.flatten_cons, List.nodup_append] at h
    cases i with
    | zero =>
      rw [List.set_cons_zero, List.flatten_cons, List.nodup_append]
      exact ⟨hf, h.2.1, fun a ha b hb he => hd a ha (by rw [he]; exact List.mem_append_right _ hb)⟩
    | succ i =>
      rw [List.set_cons_succ, List.flatten_cons, List.nodup_append]
      refine ⟨h.1, nodup_set_flat h.2.1 hf (fun b hb hm => hd b hb (List.mem_append_right _ hm)), fun a ha b hb he => ?_⟩
      rcases mem_set_flat hb with hb | hb
      · exact h.2.2 a ha b hb he
      · exact hd b hb (by rw [← he]; exact List.mem_append_left _ ha)
theorem nodup_flat_mem : ∀ {fps : List (List Nat)} {f : List Nat}, fps.flatten.Nodup → f ∈ fps → f.Nodup
  | [], _, _, h => by simp at h
  | g :: fps, f, hn, h => by
    rw [List.flatten_cons, List.nodup_append] at hn
    rcases List.mem_cons.1 h with rfl | h
    · exact hn.1
    · exact nodup_flat_mem hn.2.1 h
theorem nodup_flat_ne : ∀ {fps : List (List Nat)} {i j : Nat} (hi : i < fps.length) (hj : j < fps.length) {b : Nat}, fps.flatten.Nodup → i ≠ j → b ∈ fps[i] → b ∉ fps[j]
  | [], i, _, hi, _, _, _, _, _ => by simp at hi
  | g :: fps, i, j, hi, hj, b, hn, hne, hb => by
    rw [List.flatten_cons, List.nodup_append] at hn
    intro hbj
    cases i with
    | zero =>
      cases j with
      | zero => omega
      | succ j => exact hn.2.2 b hb b (List.mem_flatten.2 ⟨_, List.getElem_mem (by simpa using hj), hbj⟩) rfl
    | succ i =>
      cases j with
      | zero => exact hn.2.2 b hbj b (List.mem_flatten.2 ⟨_, List.getElem_mem (by simpa using hi), hb⟩) rfl
      | succ j => exact nodup_flat_ne (by simpa using hi) (by simpa using hj) hn.2.1 (by omega) hb hbj
namespace Rp
section
variable {α : Type} {r : Rp α} {e g cap n : Nat} {w w1 : World} {v : Value} {xs : List α} {fp : List Nat}
theorem Row_form (h : r.Row e w v xs fp) (hn : 0 < xs.length) : ∃ g cap, v = .slice (some ⟨g, 0, none⟩) xs.length cap ∧ g ∈ fp ∧ xs.length ≤ cap := by
  obtain ⟨css, fps, ho, ha, rfl⟩ := h
  rcases ho.2 with ⟨rfl, h0⟩ | ⟨g, cap, cur, rfl, _, _, hc, _⟩
  · omega
  · exact ⟨g, cap, rfl, by simp [Value.ownBlock], hc⟩
/-- Element i: its cells, what they lead to; the row behind a change of these alone. -/
theorem Row_elem (h : r.Row e w (.slice (some ⟨g, 0, none⟩) n cap) xs fp) (hnd : fp.Nodup) (i : Nat) (hi : i < xs.length) :
    ∃ cs f, r.P w xs[i] cs f ∧ f.Nodup ∧ (∀ b ∈ f, b ∈ fp ∧ b ≠ g) ∧ g ∈ fp ∧ (∀ j u, cs[j]? = some u → w.cell? ⟨g, i * r.d.sz + j, none⟩ = some u) ∧ (∀ j, w.frozen? ⟨g, j, none⟩ = false)
      ∧ (∀ w' x', Kp w w' f → r.P w' x' cs f → r.Row e w' (.slice (some ⟨g, 0, none⟩) n cap) (xs.set i x') fp)
      ∧ (∀ j u x' f', j < r.d.sz → r.P (w.setCell ⟨g, i * r.d.sz + j, none⟩ u) x' (cs.set j u) f' → f'.Nodup → (∀ b ∈ f', b ∈ f ∨ b ∉ fp) → (f' = f ∨ ∀ b ∈ f', b ∉ fp) →
          ∃ fp', r.Row e (w.setCell ⟨g, i * r.d.sz + j, none⟩ u) (.slice (some ⟨g, 0, none⟩) n cap) (xs.set i x') fp' ∧ fp'.Nodup ∧ (∀ b ∈ fp', b ∈ fp ∨ b ∈ f') ∧ (f' = f → fp' = fp)) := by
  obtain ⟨css, fps, ho, ha, rfl⟩ := h
  have hn : n = xs.length := by
    rcases ho.2 with ⟨h0, _⟩ | ⟨g', cap', cur, h0, _⟩
    · injection h0 with h0; cases h0
    · injection h0
  subst hn
  have hl1 := ha.len1
  have hl2 := ha.len2
  have hP := ha.get (i := i) hi (by omega) (by omega)
  have hall := all_len ha
  simp only [Value.ownBlock, Option.toList_some, List.singleton_append] at hnd ⊢
  rw [List.nodup_cons] at hnd
  have hmem : ∀ b ∈ fps[i], b ∈ fps.flatten := fun b hb => List.mem_flatten.2 ⟨_, List.getElem_mem (by omega), hb⟩
  have hndi : fps[i].Nodup := nodup_flat_mem hnd.2 (List.getElem_mem (by omega))
  have hother : ∀ j (hj : j < fps.length), j ≠ i → ∀ b ∈ fps[j], b ∉ fps[i] := fun j hj hne b hb => nodup_flat_ne hj (by omega) hnd.2 hne hb
  have hgf : ∀ f ∈ fps, ∀ b ∈ f, b ≠ g := fun f hf b hb he => hnd.1 (he ▸ List.mem_flatten.2 ⟨f, hf, hb⟩)
  have hlt : ∀ f ∈ fps, ∀ b ∈ f, b < w.heap.size := by
    intro f hf b hb
    obtain ⟨j, hj, rfl⟩ := List.getElem_of_mem hf
    exact P_lt (ha.get (i := j) (by omega) (by omega) hj) b hb
  have hgb : g < w.heap.size := own_lt ho g rfl
  have hAll : ∀ (w' : World) x' cs' f', r.P w' x' cs' f' → (∀ j (hj : j < fps.length), j ≠ i → ∀ b ∈ fps[j], w'.heap[b]? = w.heap[b]?) → All3 (r.P w') (xs.set i x') (css.set i cs') (fps.set i f') := by
    intro w' x' cs' f' hp hsame
    have key : ∀ (xs : List α) (css : List (List Value)) (fps : List (List Nat)) (i : Nat), All3 (r.P w) xs css fps → (∀ j (hj : j < fps.length), j ≠ i → ∀ b ∈ fps[j], w'.heap[b]? = w.heap[b]?) → All3 (r.P w') (xs.set i x') (css.set i cs') (fps.set i f') := by
      intro xs css fps i h
      induction h generalizing i with
      | nil => intro _; exact .nil
      | cons h0 ht ih =>
        intro hs
        cases i with
        | zero =>
          refine .cons hp ?_
          have hz := ht.imp (S := r.P w') (fun a b c hc hP => r.loc hP fun k hk => ?_)
          · exact hz
          · obtain ⟨j, hj, rfl⟩ := List.getElem_of_mem hc
            exact hs (j + 1) (by simp; omega) (by omega) k (by simpa using hk)
        | succ i =>
          refine .cons (r.loc h0 fun k hk => hs 0 (by simp) (by omega) k (by simpa using hk)) (ih i fun j hj hne b hb => hs (j + 1) (by simp; omega) (by omega) b (by simpa using hb))
    exact key xs css fps i ha hsame
  refine ⟨css[i], fps[i], hP, hndi, fun b hb => ⟨List.mem_cons_of_mem _ (hmem b hb), hgf _ (List.getElem_mem (by omega)) b hb⟩, List.mem_cons_self, ?_, fun j => ?_, ?_, ?_⟩
  · intro j u hu
    have := ho.cells (g := g) rfl _ u (flat_at hall (by omega) hu)
    rwa [add_plain] at this
  · obtain ⟨cells, hc⟩ := own_typed ho g rfl
    exact blk_frozen hc j
  · intro w' x' hk hp
    refine ⟨css.set i css[i], fps.set i fps[i], ?_, hAll w' x' _ _ hp ?_, ?_⟩
    · rw [List.set_getElem_self, List.length_set]
      exact own_move ho fun k hk' => by
        have : g = k := by simpa [Value.ownBlock] using hk'
        subst this
        exact hk.block g hgb (fun hm => hgf _ (List.getElem_mem (by omega)) g hm rfl)
    · intro j hj hne b hb
      exact hk.block b (hlt _ (List.getElem_mem hj) b hb) (hother j hj hne b hb)
    · simp [Value.ownBlock]
  · intro j u x' f' hj hp hf' hdis hor
    refine ⟨g :: (fps.set i f').flatten, ⟨css.set i (css[i].set j u), fps.set i f', ?_, hAll _ x' _ _ hp ?_, ?_⟩, ?_, ?_, ?_⟩
    · rw [← flat_set u hall i j (by omega) hj, List.length_set]
      exact (ho.stored _ u).1
    · intro j' hj' hne b hb
      exact Below.heap_setCell w _ u b (hgf _ (List.getElem_mem hj') b hb)
    · simp [Value.ownBlock]
    · rcases hor with h | h
      · subst h
        rw [List.set_getElem_self]
        exact List.nodup_cons.2 hnd
      · refine List.nodup_cons.2 ⟨fun hm => ?_, nodup_set_flat hnd.2 hf' (fun b hb hm => h b hb (List.mem_cons_of_mem _ hm))⟩
        rcases mem_set_flat hm with hm | hm
        · exact hnd.1 hm
        · exact h g hm List.mem_cons_self
    · intro b hb
      rcases List.mem_cons.1 hb with rfl | hb
      · exact .inl List.mem_cons_self
      · rcases mem_set_flat hb with h | h
        · exact .inl (List.mem_cons_of_mem _ h)
        · exact .inr h
    · intro h
      rw [h, List.set_getElem_self]
end
end Rp
end Go.Proofs.Ytocdlibnmlcokaa
