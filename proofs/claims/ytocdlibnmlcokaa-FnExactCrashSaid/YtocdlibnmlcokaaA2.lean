/- Rows of the call's own, with the list of the blocks that they lie in. -/
import Derived.Test.YtocdlibnmlcokaaA0
namespace Go.Proofs.Ytocdlibnmlcokaa
open Go.RowKit Go.Proofs.YtocdlibnmlcokaaW.PrintWords Go.Proofs.YtocdlibnmlcokaaW.PrintLast
/-- Three lists side by side. -/
inductive All3 {α β γ : Type} (R : α → β → γ → Prop) : List α → List β → List γ → Prop
  | nil : All3 R [] [] []
  | cons {a : α} {b : β} {c : γ} {xs : List α} {bs : List β} {cs : List γ} : R a b c → All3 R xs bs cs → All3 R (a :: xs) (b :: bs) (c :: cs)
namespace All3
variable {α β γ : Type} {R S : α → β → γ → Prop} {xs xs' : List α} {bs bs' : List β} {cs cs' : List γ} {a : α} {b : β} {c : γ}
theorem len1 (h : All3 R xs bs cs) : bs.length = xs.length := by induction h with | nil => rfl | cons _ _ ih => simp [ih]
theorem len2 (h : All3 R xs bs cs) : cs.length = xs.length := by induction h with | nil => rfl | cons _ _ ih => simp [ih]
theorem imp (h : All3 R xs bs cs) (hi : ∀ a b c, c ∈ cs → R a b c → S a b c) : All3 S xs bs cs := by
  induction h with
  | nil => exact .nil
  | cons h0 _ ih => exact .cons (hi _ _ _ List.mem_cons_self h0) (ih fun a b c hc => hi a b c (List.mem_cons_of_mem _ hc))
theorem append (h : All3 R xs bs cs) (k : All3 R xs' bs' cs') : All3 R (xs ++ xs') (bs ++ bs') (cs ++ cs') := by
  induction h with
  | nil => exact k
  | cons h0 _ ih => exact .cons h0 ih
theorem snoc (h : All3 R xs bs cs) (k : R a b c) : All3 R (xs ++ [a]) (bs ++ [b]) (cs ++ [c]) := h.append (.cons k .nil)
theorem get (h : All3 R xs bs cs) {i : Nat} (h0 : i < xs.length) (h1 : i < bs.length) (h2 : i < cs.length) : R xs[i] bs[i] cs[i] := by
  induction h generalizing i with
  | nil => simp at h0
  | cons hh _ ih =>
    cases i with
    | zero => exact hh
    | succ i => exact ih _ _ _
theorem set (h : All3 R xs bs cs) (i : Nat) (k : R a b c) : All3 R (xs.set i a) (bs.set i b) (cs.set i c) := by
  induction h generalizing i with
  | nil => exact .nil
  | cons hh ht ih =>
    cases i with
    | zero => exact .cons k ht
    | succ i => exact .cons hh (ih i)
end All3
/-- A kind that is made: its cells and the blocks that they lead to. -/
structure Rp (α : Type) where
  d : Kd α
  E : List Nat
  P : World → α → List Value → List Nat → Prop
  toK : ∀ {w x cs fp}, P w x cs fp → d.K w x cs
  loc : ∀ {w w1 : World} {x cs fp}, P w x cs fp → (∀ b ∈ fp, w1.heap[b]? = w.heap[b]?) → P w1 x cs fp
  ty : ∀ {w : World} {x cs fp}, P w x cs fp → ∀ b ∈ fp, ∃ q ∈ E, ∃ cells, w.heap[b]? = some (.cells cells q (0, 0))
set_option linter.unusedVariables false
namespace Rp
theorem len {α : Type} (r : Rp α) {w : World} {x : α} {cs : List Value} {fp : List Nat} (h : r.P w x cs fp) : cs.length = r.d.sz := r.d.K_len (r.toK h)
/-- A row (elements of type e). -/
def Row {α : Type} (r : Rp α) (e : Nat) (w : World) (v : Value) (xs : List α) (fp : List Nat) : Prop :=
  ∃ (css : List (List Value)) (fps : List (List Nat)), w.ownsRow 0 e r.d.sz v xs.length css.flatten ∧ All3 (r.P w) xs css fps ∧ fp = v.ownBlock.toList ++ fps.flatten
section
variable {α : Type} {r : Rp α} {e : Nat} {w w1 : World} {v : Value} {xs : List α} {x : α} {cs : List Value} {fp fpx : List Nat}
theorem P_lt (h : r.P w x cs fp) : ∀ b ∈ fp, b < w.heap.size := fun b hb => by
  obtain ⟨_, _, _, hc⟩ := r.ty h b hb
  exact blk_lt hc
theorem P_step (h : r.P w x cs fp) (hm : ∀ b ∈ fp, b < w.heap.size → w1.heap[b]? = w.heap[b]?) : r.P w1 x cs fp := r.loc h fun b hb => hm b hb (P_lt h b hb)
theorem own_at_block {sz n : Nat} {ys : List Value} (h : w.ownsRow 0 e sz v n ys) {k : Nat} (hk : k ∈ v.ownBlock.toList) : v.ownBlock = some k := by
  cases hv : v.ownBlock with
  | none => rw [hv] at hk; simp at hk
  | some j => rw [hv] at hk; simp at hk; rw [hk]
theorem Row_ty (h : r.Row e w v xs fp) : ∀ b ∈ fp, ∃ q ∈ e :: r.E, ∃ cells, w.heap[b]? = some (.cells cells q (0, 0)) := by
  obtain ⟨css, fps, ho, ha, rfl⟩ := h
  intro b hb
  rcases List.mem_append.1 hb with hb | hb
  · obtain ⟨cells, hc⟩ := own_typed ho b (own_at_block ho hb)
    exact ⟨e, List.mem_cons_self, cells, hc⟩
  · obtain ⟨f, hf, hbf⟩ := List.mem_flatten.1 hb
    obtain ⟨i, hi, rfl⟩ := List.getElem_of_mem hf
    have hP := ha.get (i := i) (by have := ha.len2; omega) (by have := ha.len1; have := ha.len2; omega) hi
    obtain ⟨q, hq, hc⟩ := r.ty hP b hbf
    exact ⟨q, List.mem_cons_of_mem _ hq, hc⟩
theorem Row_lt (h : r.Row e w v xs fp) : ∀ b ∈ fp, b < w.heap.size := fun b hb => by
  obtain ⟨_, _, _, hc⟩ := Row_ty h b hb
  exact blk_lt hc
theorem Row_loc (h : r.Row e w v xs fp) (hm : ∀ b ∈ fp, w1.heap[b]? = w.heap[b]?) : r.Row e w1 v xs fp := by
  obtain ⟨css, fps, ho, ha, rfl⟩ := h
  refine ⟨css, fps, own_move ho fun k hk => hm k ?_, ha.imp fun a b c hc hP => r.loc hP fun k hk => hm k ?_, rfl⟩
  · exact List.mem_append_left _ (by rw [hk]; simp)
  · exact List.mem_append_right _ (List.mem_flatten.2 ⟨c, hc, hk⟩)
theorem Row_step (h : r.Row e w v xs fp) (hm : ∀ b ∈ fp, b < w.heap.size → w1.heap[b]? = w.heap[b]?) : r.Row e w1 v xs fp := Row_loc h fun b hb => hm b hb (Row_lt h b hb)
theorem Row_below (h : r.Row e w v xs fp) (hb : Below w.heap.size w w1) : r.Row e w1 v xs fp := Row_step h fun k _ hk => hb.block k hk
theorem Row_alloc (h : r.Row e w v xs fp) (o : Obj) : r.Row e (w.alloc o) v xs fp := Row_below h (below_alloc (Below.refl _ _) o)
theorem Row_drew (h : r.Row e w v xs fp) : r.Row e w.drew v xs fp := Row_below h (below_drew (Below.refl _ _))
theorem Row_drewN (h : r.Row e w v xs fp) (n : Nat) : r.Row e (w.drewN n) v xs fp := Row_below h (pw_below_drewN (Below.refl _ _) n)
theorem Row_grown (h : r.Row e w v xs fp) {row : Option Nat} (hg : w.grownBy w1 row) (hn : ∀ b ∈ fp, some b ≠ row) : r.Row e w1 v xs fp := Row_step h fun k hk hlt => hg.block k hlt (hn k hk)
theorem Row_far (h : r.Row e w v xs fp) {p : Addr} (hn : p.block ∉ fp) (u : Value) : r.Row e (w.setCell p u) v xs fp := Row_loc h fun k hk => Below.heap_setCell w p u k (fun he => hn (he ▸ hk))
/-- By types: a block of type t is none of the row's. -/
theorem Row_not (h : r.Row e w v xs fp) {g t : Nat} {cells : Array Value} (hb : w.heap[g]? = some (.cells cells t (0, 0))) (ht : t ∉ e :: r.E) : g ∉ fp := fun hg => by
  obtain ⟨q, hq, cells', hc⟩ := Row_ty h g hg
  rw [hc] at hb
  injection hb with hb
  injection hb with _ hb
  exact ht (hb ▸ hq)
theorem P_not (h : r.P w x cs fp) {g t : Nat} {cells : Array Value} (hb : w.heap[g]? = some (.cells cells t (0, 0))) (ht : t ∉ r.E) : g ∉ fp := fun hg => by
  obtain ⟨q, hq, cells', hc⟩ := r.ty h g hg
  rw [hc] at hb
  injection hb with hb
  injection hb with _ hb
  exact ht (hb ▸ hq)
theorem Row_set (h : r.Row e w v xs fp) {g t : Nat} {cells : Array Value} (hb : w.heap[g]? = some (.cells cells t (0, 0))) (ht : t ∉ e :: r.E) (j : Nat) (u : Value) : r.Row e (w.setCell ⟨g, j, none⟩ u) v xs fp := Row_far h (Row_not h hb ht) u
theorem Row_nil (r : Rp α) (e : Nat) (w : World) : r.Row e w (.slice none 0 0) [] [] := ⟨[], [], own_nil _ _ _ _, .nil, rfl⟩
theorem flat_len {n : Nat} : ∀ {css : List (List Value)}, (∀ c ∈ css, c.length = n) → css.flatten.length = css.length * n
  | [], _ => by simp
  | c :: css, h => by
    rw [List.flatten_cons, List.length_append, h c List.mem_cons_self, flat_len (fun c hc => h c (List.mem_cons_of_mem _ hc)), List.length_cons, Nat.succ_mul, Nat.add_comm]
theorem flat_get {n : Nat} : ∀ {css : List (List Value)}, (∀ c ∈ css, c.length = n) → ∀ (i : Nat) (hi : i < css.length), (css.flatten.drop (i * n)).take n = css[i]
  | [], _, i, hi => by simp at hi
  | c :: css, h, i, hi => by
    have hc := h c List.mem_cons_self
    cases i with
    | zero => rw [Nat.zero_mul, List.drop_zero, List.flatten_cons, ← hc, List.take_left]; rfl
    | succ i =>
      have := flat_get (n := n) (css := css) (fun c hc => h c (List.mem_cons_of_mem _ hc)) i (by simpa using hi)
      rw [List.flatten_cons, List.drop_append, hc, List.drop_eq_nil_of_le (by rw [hc, Nat.succ_mul]; omega), List.nil_append, Nat.succ_mul, Nat.add_sub_cancel]
      exact this
theorem all_len {css : List (List Value)} {fps : List (List Nat)} (h : All3 (r.P w) xs css fps) : ∀ c ∈ css, c.length = r.d.sz := by
  intro c hc
  obtain ⟨i, hi, rfl⟩ := List.getElem_of_mem hc
  have := h.get (i := i) (by have := h.len1; omega) hi (by have := h.len1; have := h.len2; omega)
  exact r.len this
theorem all_reps {css : List (List Value)} {fps : List (List Nat)} (h : All3 (r.P w) xs css fps) : Reps (r.d.K w) r.d.sz xs css.flatten := by
  refine ⟨by rw [flat_len (all_len h), h.len1], fun j p hj => ?_⟩
  have hjl := (List.getElem?_eq_some_iff.1 hj).1
  rw [flat_get (all_len h) j (by rw [h.len1]; exact hjl)]
  have := h.get (i := j) hjl (by rw [h.len1]; exact hjl) (by rw [h.len2]; exact hjl)
  rw [List.getElem?_eq_getElem hjl] at hj
  injection hj with hj
  rw [← hj]
  exact r.toK this
theorem Row_reads (h : r.Row e w v xs fp) : ∃ A c, v = .slice A xs.length c ∧ xs.length ≤ c ∧ r.d.C w A xs.length xs := by
  obtain ⟨css, fps, ho, ha, rfl⟩ := h
  exact OwnRow.reads (base := 0) ⟨_, ho, all_reps ha⟩
theorem Row_C {A : Option Addr} {n c : Nat} (h : r.Row e w (.slice A n c) xs fp) : n = xs.length ∧ xs.length ≤ c ∧ r.d.C w A xs.length xs := by
  obtain ⟨A', c', he, h1, h2⟩ := Row_reads h
  injection he with ha hn hc
  subst ha; subst hc; subst hn
  exact ⟨rfl, h1, h2⟩
theorem Row_len (h : r.Row e w v xs fp) : xs.length ≤ 9223372036854775807 := by
  obtain ⟨_, _, _, _, hc⟩ := Row_reads h
  exact hc.2.1
theorem Row_block (h : r.Row e w v xs fp) {k : Nat} (hk : v.ownBlock = some k) : k ∈ fp := by
  obtain ⟨css, fps, ho, ha, rfl⟩ := h
  exact List.mem_append_left _ (by rw [hk]; simp)
theorem Row_ne (h : r.Row e w v xs fp) {g : Nat} (hg : g ∉ fp) : some g ≠ v.ownBlock := fun he => hg (Row_block h he.symm)
/-- One element more, behind an append. -/
theorem Row_snoc {v1 : Value} {W : World} {css : List (List Value)} {fps : List (List Nat)} (ho : w.ownsRow 0 e r.d.sz v xs.length css.flatten) (ha : All3 (r.P w) xs css fps) (hp : r.P w x cs fpx) (hnd : (v.ownBlock.toList ++ fps.flatten ++ fpx).Nodup)
    (ho1 : W.ownsRow 0 e r.d.sz v1 (xs.length + 1) (css.flatten ++ cs))
    (hg : w.grownBy W v.ownBlock) (hat : v1.ownBlock = v.ownBlock ∨ ∃ b, v1.ownBlock = some b ∧ w.heap.size ≤ b) :
    ∃ fp1, r.Row e W v1 (xs ++ [x]) fp1 ∧ fp1.Nodup ∧ ∀ b ∈ fp1, b ∈ v.ownBlock.toList ++ fps.flatten ∨ b ∈ fpx ∨ w.heap.size ≤ b := by
  have hlt := Row_lt ⟨css, fps, ho, ha, rfl⟩
  have hxlt := P_lt hp
  have hnd' := hnd
  rw [List.append_assoc, List.nodup_append] at hnd
  obtain ⟨n1, n2, n3⟩ := hnd
  have hne : ∀ k ∈ fps.flatten ++ fpx, some k ≠ v.ownBlock := fun k hk he => n3 k (by rw [← he]; simp) k hk rfl
  have hlt' : ∀ k ∈ fps.flatten ++ fpx, k < w.heap.size := fun k hk => by
    rcases List.mem_append.1 hk with hk | hk
    · exact hlt k (List.mem_append_right _ hk)
    · exact hxlt k hk
  have hm : ∀ k ∈ fps.flatten ++ fpx, W.heap[k]? = w.heap[k]? := fun k hk => hg.block k (hlt' k hk) (hne k hk)
  refine ⟨v1.ownBlock.toList ++ (fps ++ [fpx]).flatten, ⟨css ++ [cs], fps ++ [fpx], ?_, ?_, rfl⟩, ?_, ?_⟩
  · have := ho1
    rw [List.length_append, List.length_singleton, List.flatten_append, List.flatten_singleton]
    exact this
  · refine All3.snoc (ha.imp fun a b c hc hP => r.loc hP fun k hk => hm k (List.mem_append_left _ (List.mem_flatten.2 ⟨c, hc, hk⟩))) (r.loc hp fun k hk => hm k (List.mem_append_right _ hk))
  · rw [List.flatten_append, List.flatten_singleton, List.nodup_append]
    refine ⟨by cases v1.ownBlock <;> simp, n2, fun a ha' b hb hab => ?_⟩
    subst hab
    rcases hat with hat | ⟨g, hat, hle⟩
    · rw [hat] at ha'; exact n3 a ha' a hb rfl
    · rw [hat] at ha'; simp at ha'; have := hlt' a hb; omega
  · intro b hb
    rw [List.flatten_append, List.flatten_singleton] at hb
    rcases List.mem_append.1 hb with hb | hb
    · rcases hat with hat | ⟨g, hat, hle⟩
      · rw [hat] at hb; exact .inl (List.mem_append_left _ hb)
      · rw [hat] at hb; simp at hb; exact .inr (.inr (by omega))
    · rcases List.mem_append.1 hb with hb | hb
      · exact .inl (List.mem_append_right _ hb)
      · exact .inr (.inl hb)
end
/-! the kinds -/
def scalar {α : Type} (enc : α → Value) (h1 : ∀ x, (enc x).oneCell' = true) : Rp α where
  d := Kd.scalar enc h1
  E := []
  P := fun _ x cs fp => cs = [enc x] ∧ fp = []
  toK := fun h => h.1
  loc := fun h _ => h
  ty := fun h b hb => by rw [h.2] at hb; simp at hb
def int (k : IntKind) : Rp Int := scalar (Value.int k) (fun _ => rfl)
def bool : Rp Bool := scalar Value.bool (fun _ => rfl)
def string : Rp ByteArray := scalar Value.string (fun _ => rfl)
def slice {α : Type} (e : Nat) (r : Rp α) : Rp (List α) where
  d := Kd.slice e r.d
  E := e :: r.E
  P := fun w xs cs fp => ∃ v, cs = [v] ∧ r.Row e w v xs fp
  toK := by
    rintro w x cs fp ⟨v, rfl, h⟩
    obtain ⟨A, c, rfl, hl, hr⟩ := Row_reads h
    exact ⟨A, c, rfl, hl, hr⟩
  loc := by
    rintro w w1 x cs fp ⟨v, rfl, h⟩ hm
    exact ⟨v, rfl, Row_loc h hm⟩
  ty := by
    rintro w x cs fp ⟨v, rfl, h⟩
    exact Row_ty h
def pair {α β : Type} (a : Rp α) (b : Rp β) : Rp (α × β) where
  d := Kd.pair a.d b.d
  E := a.E ++ b.E
  P := fun w x cs fp => ∃ c0 c1 f0 f1, cs = c0 ++ c1 ∧ fp = f0 ++ f1 ∧ a.P w x.1 c0 f0 ∧ b.P w x.2 c1 f1
  toK := by
    rintro w x cs fp ⟨c0, c1, f0, f1, rfl, rfl, h0, h1⟩
    exact ⟨c0, c1, rfl, a.toK h0, b.toK h1⟩
  loc := by
    rintro w w1 x cs fp ⟨c0, c1, f0, f1, rfl, rfl, h0, h1⟩ hm
    exact ⟨c0, c1, f0, f1, rfl, rfl, a.loc h0 fun b hb => hm b (List.mem_append_left _ hb), b.loc h1 fun b hb => hm b (List.mem_append_right _ hb)⟩
  ty := by
    rintro w x cs fp ⟨c0, c1, f0, f1, rfl, rfl, h0, h1⟩ k hk
    rcases List.mem_append.1 hk with hk | hk
    · obtain ⟨q, hq, h⟩ := a.ty h0 k hk
      exact ⟨q, List.mem_append_left _ hq, h⟩
    · obtain ⟨q, hq, h⟩ := b.ty h1 k hk
      exact ⟨q, List.mem_append_right _ hq, h⟩
def iso {α β : Type} (r : Rp α) (f : β → α) : Rp β where
  d := Kd.iso r.d f
  E := r.E
  P := fun w x cs fp => r.P w (f x) cs fp
  toK := fun h => r.toK h
  loc := fun h hm => r.loc h hm
  ty := fun h => r.ty h
end Rp
end Go.Proofs.Ytocdlibnmlcokaa
