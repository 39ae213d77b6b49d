/- Contracts and words that the laws rest on, part 1: for every world; conditions as each theorem says. -/
import Derived.Test.YtocdlibnmlcokaaProg
import Derived.Below
import Derived.Deep.Draws
import Derived.Deep.AppendLies
import Derived.Maps.AppendAt
import Derived.OwnWalk
import Derived.Laws.BytesArg
import Derived.Laws.MakeOwn
import Derived.Laws.OwnMore
import Derived.Deep.OwnRows
import Derived.Tactics
import Derived.Lib.ConvBytes
import Derived.Laws.Slices
import Derived.WalkKit
import Derived.KernelRfl
import Derived.RowKit3
import Derived.Deep.LoopGhost
import Derived.Deep.QuietTactic
import Derived.BigQuiet
import Derived.WideLaws
import Derived.Deep.DeepCutAuto
import Derived.Deep.CutBlock
import Derived.Deep.RegionHeld3
import Derived.Laws.Rows
import Derived.Lib.AppendStr
import Derived.ArgAppend
import Derived.Laws.IdiomCopy
import Derived.OrdersHeld
import Derived.Laws.BitsLemmas
import Derived.RowKit
import Derived.Test.YtocdlibnmlcokaaWWords
import Derived.Test.YtocdlibnmlcokaaWLast
import Derived.Test.YtocdlibnmlcokaaWTab
import Derived.Test.YtocdlibnmlcokaaWMore
import Derived.Test.YtocdlibnmlcokaaWZeros
import Derived.Laws.Strings
namespace Go.Proofs.Ytocdlibnmlcokaa
open Go.RowKit Go.Proofs.YtocdlibnmlcokaaW.PrintWords Go.Proofs.YtocdlibnmlcokaaW.PrintLast
theorem wrap_succ {i : Int} (h0 : 0 ≤ i) (h1 : i < 9223372036854775807) : wrap64 (i + 1) = i + 1 := by unfold wrap64; omega
theorem take_succ_eq {α : Type} {xs ys : List α} {n : Nat} (hx : n < xs.length) (hy : n < ys.length) (h : xs.take n = ys.take n) (he : xs[n] = ys[n]) : xs.take (n + 1) = ys.take (n + 1) := by
  rw [List.take_succ_eq_append_getElem hx, List.take_succ_eq_append_getElem hy, h, he]
theorem rd_eq {xs : List Int} {i : Int} (h1 : i.toNat < xs.length) : rd xs i = xs[i.toNat] := by simp [rd, List.getD_eq_getElem?_getD, h1]
end Go.Proofs.Ytocdlibnmlcokaa
namespace Go.Proofs.Ytocdlibnmlcokaa
open Go.RowKit Go.Proofs.YtocdlibnmlcokaaW.PrintWords Go.Proofs.YtocdlibnmlcokaaW.PrintLast
inductive All3 {α β γ : Type} (R : α → β → γ → Prop) : List α → List β → List γ → Prop
  | nil : All3 R [] [] []
  | cons {a : α} {b : β} {c : γ} {xs : List α} {bs : List β} {cs : List γ} : R a b c → All3 R xs bs cs → All3 R (a :: xs) (b :: bs) (c :: cs)
namespace All3
variable {α β γ : Type} {R S : α → β → γ → Prop} {xs xs' : List α} {bs bs' : List β} {cs cs' : List γ} {a : α} {b : β} {c : γ}
theorem len1 (h : All3 R xs bs cs) : bs.length = xs.length := by induction h with | nil => rfl | cons _ _ ih => simp [ih]
theorem len2 (h : All3 R xs bs cs) : cs.length = xs.length := by induction h with | nil => rfl | cons _ _ ih => simp [ih]
theorem imp (h : All3 R xs bs cs) (hi : ∀ a b c, c ∈ cs → R a b c → S a b c) : All3 S xs bs cs := by
  induction h with
  | nil => exact .nil
  | cons h0 _ ih => exact .cons (hi _ _ _ List.mem_cons_self h0) (ih fun a b c hc => hi a b c (List.mem_cons_of_mem _ hc))
theorem append (h : All3 R xs bs cs) (k : All3 R xs' bs' cs') : All3 R (xs ++ xs') (bs ++ bs') (cs ++ cs') := by
  induction h with
  | nil => exact k
  | cons h0 _ ih => exact .cons h0 ih
theorem snoc (h : All3 R xs bs cs) (k : R a b c) : All3 R (xs ++ [a]) (bs ++ [b]) (cs ++ [c]) := h.append (.cons k .nil)
theorem get (h : All3 R xs bs cs) {i : Nat} (h0 : i < xs.length) (h1 : i < bs.length) (h2 : i < cs.length) : R xs[i] bs[i] cs[i] := by
  induction h generalizing i with
  | nil => simp at h0
  | cons hh _ ih =>
    cases i with
    | zero => exact hh
    | succ i => exact ih _ _ _
theorem set (h : All3 R xs bs cs) (i : Nat) (k : R a b c) : All3 R (xs.set i a) (bs.set i b) (cs.set i c) := by
  induction h generalizing i with
  | nil => exact .nil
  | cons hh ht ih =>
    cases i with
    | zero => exact .cons k ht
    | succ i => exact .cons hh (ih i)
end All3
structure Rp (α : Type) where
  d : Kd α
  E : List Nat
  P : World → α → List Value → List Nat → Prop
  toK : ∀ {w x cs fp}, P w x cs fp → d.K w x cs
  loc : ∀ {w w1 : World} {x cs fp}, P w x cs fp → (∀ b ∈ fp, w1.heap[b]? = w.heap[b]?) → P w1 x cs fp
  ty : ∀ {w : World} {x cs fp}, P w x cs fp → ∀ b ∈ fp, ∃ q ∈ E, ∃ cells, w.heap[b]? = some (.cells cells q (0, 0))
set_option linter.unusedVariables false
namespace Rp
theorem len {α : Type} (r : Rp α) {w : World} {x : α} {cs : List Value} {fp : List Nat} (h : r.P w x cs fp) : cs.length = r.d.sz := r.d.K_len (r.toK h)
def Row {α : Type} (r : Rp α) (e : Nat) (w : World) (v : Value) (xs : List α) (fp : List Nat) : Prop :=
  ∃ (css : List (List Value)) (fps : List (List Nat)), w.ownsRow 0 e r.d.sz v xs.length css.flatten ∧ All3 (r.P w) xs css fps ∧ fp = v.ownBlock.toList ++ fps.flatten
section
variable {α : Type} {r : Rp α} {e : Nat} {w w1 : World} {v : Value} {xs : List α} {x : α} {cs : List Value} {fp fpx : List Nat}
theorem P_lt (h : r.P w x cs fp) : ∀ b ∈ fp, b < w.heap.size := fun b hb => by
  obtain ⟨_, _, _, hc⟩ := r.ty h b hb
  exact blk_lt hc
theorem own_at_block {sz n : Nat} {ys : List Value} (h : w.ownsRow 0 e sz v n ys) {k : Nat} (hk : k ∈ v.ownBlock.toList) : v.ownBlock = some k := by
  cases hv : v.ownBlock with
  | none => rw [hv] at hk; simp at hk
  | some j => rw [hv] at hk; simp at hk; rw [hk]
theorem Row_ty (h : r.Row e w v xs fp) : ∀ b ∈ fp, ∃ q ∈ e :: r.E, ∃ cells, w.heap[b]? = some (.cells cells q (0, 0)) := by
  obtain ⟨css, fps, ho, ha, rfl⟩ := h
  intro b hb
  rcases List.mem_append.1 hb with hb | hb
  · obtain ⟨cells, hc⟩ := own_typed ho b (own_at_block ho hb)
    exact ⟨e, List.mem_cons_self, cells, hc⟩
  · obtain ⟨f, hf, hbf⟩ := List.mem_flatten.1 hb
    obtain ⟨i, hi, rfl⟩ := List.getElem_of_mem hf
    have hP := ha.get (i := i) (by have := ha.len2; omega) (by have := ha.len1; have := ha.len2; omega) hi
    obtain ⟨q, hq, hc⟩ := r.ty hP b hbf
    exact ⟨q, List.mem_cons_of_mem _ hq, hc⟩
theorem Row_lt (h : r.Row e w v xs fp) : ∀ b ∈ fp, b < w.heap.size := fun b hb => by
  obtain ⟨_, _, _, hc⟩ := Row_ty h b hb
  exact blk_lt hc
theorem Row_loc (h : r.Row e w v xs fp) (hm : ∀ b ∈ fp, w1.heap[b]? = w.heap[b]?) : r.Row e w1 v xs fp := by
  obtain ⟨css, fps, ho, ha, rfl⟩ := h
  refine ⟨css, fps, own_move ho fun k hk => hm k ?_, ha.imp fun a b c hc hP => r.loc hP fun k hk => hm k ?_, rfl⟩
  · exact List.mem_append_left _ (by rw [hk]; simp)
  · exact List.mem_append_right _ (List.mem_flatten.2 ⟨c, hc, hk⟩)
theorem Row_step (h : r.Row e w v xs fp) (hm : ∀ b ∈ fp, b < w.heap.size → w1.heap[b]? = w.heap[b]?) : r.Row e w1 v xs fp := Row_loc h fun b hb => hm b hb (Row_lt h b hb)
theorem Row_below (h : r.Row e w v xs fp) (hb : Below w.heap.size w w1) : r.Row e w1 v xs fp := Row_step h fun k _ hk => hb.block k hk
theorem Row_alloc (h : r.Row e w v xs fp) (o : Obj) : r.Row e (w.alloc o) v xs fp := Row_below h (below_alloc (Below.refl _ _) o)
theorem Row_drew (h : r.Row e w v xs fp) : r.Row e w.drew v xs fp := Row_below h (below_drew (Below.refl _ _))
theorem Row_drewN (h : r.Row e w v xs fp) (n : Nat) : r.Row e (w.drewN n) v xs fp := Row_below h (pw_below_drewN (Below.refl _ _) n)
theorem Row_far (h : r.Row e w v xs fp) {p : Addr} (hn : p.block ∉ fp) (u : Value) : r.Row e (w.setCell p u) v xs fp := Row_loc h fun k hk => Below.heap_setCell w p u k (fun he => hn (he ▸ hk))
theorem Row_not (h : r.Row e w v xs fp) {g t : Nat} {cells : Array Value} (hb : w.heap[g]? = some (.cells cells t (0, 0))) (ht : t ∉ e :: r.E) : g ∉ fp := fun hg => by
  obtain ⟨q, hq, cells', hc⟩ := Row_ty h g hg
  rw [hc] at hb
  injection hb with hb
  injection hb with _ hb
  exact ht (hb ▸ hq)
theorem Row_set (h : r.Row e w v xs fp) {g t : Nat} {cells : Array Value} (hb : w.heap[g]? = some (.cells cells t (0, 0))) (ht : t ∉ e :: r.E) (j : Nat) (u : Value) : r.Row e (w.setCell ⟨g, j, none⟩ u) v xs fp := Row_far h (Row_not h hb ht) u
theorem Row_nil (r : Rp α) (e : Nat) (w : World) : r.Row e w (.slice none 0 0) [] [] := ⟨[], [], own_nil _ _ _ _, .nil, rfl⟩
theorem flat_len {n : Nat} : ∀ {css : List (List Value)}, (∀ c ∈ css, c.length = n) → css.flatten.length = css.length * n
  | [], _ => by simp
  | c :: css, h => by
    rw [List.flatten_cons, List.length_append, h c List.mem_cons_self, flat_len (fun c hc => h c (List.mem_cons_of_mem _ hc)), List.length_cons, Nat.succ_mul, Nat.add_comm]
theorem flat_get {n : Nat} : ∀ {css : List (List Value)}, (∀ c ∈ css, c.length = n) → ∀ (i : Nat) (hi : i < css.length), (css.flatten.drop (i * n)).take n = css[i]
  | [], _, i, hi => by simp at hi
  | c :: css, h, i, hi => by
    have hc := h c List.mem_cons_self
    cases i with
    | zero => rw [Nat.zero_mul, List.drop_zero, List.flatten_cons, ← hc, List.take_left]; rfl
    | succ i =>
      have := flat_get (n := n) (css := css) (fun c hc => h c (List.mem_cons_of_mem _ hc)) i (by simpa using hi)
      rw [List.flatten_cons, List.drop_append, hc, List.drop_eq_nil_of_le (by rw [hc, Nat.succ_mul]; omega), List.nil_append, Nat.succ_mul, Nat.add_sub_cancel]
      exact this
theorem all_len {css : List (List Value)} {fps : List (List Nat)} (h : All3 (r.P w) xs css fps) : ∀ c ∈ css, c.length = r.d.sz := by
  intro c hc
  obtain ⟨i, hi, rfl⟩ := List.getElem_of_mem hc
  have := h.get (i := i) (by have := h.len1; omega) hi (by have := h.len1; have := h.len2; omega)
  exact r.len this
theorem all_reps {css : List (List Value)} {fps : List (List Nat)} (h : All3 (r.P w) xs css fps) : Reps (r.d.K w) r.d.sz xs css.flatten := by
  refine ⟨by rw [flat_len (all_len h), h.len1], fun j p hj => ?_⟩
  have hjl := (List.getElem?_eq_some_iff.1 hj).1
  rw [flat_get (all_len h) j (by rw [h.len1]; exact hjl)]
  have := h.get (i := j) hjl (by rw [h.len1]; exact hjl) (by rw [h.len2]; exact hjl)
  rw [List.getElem?_eq_getElem hjl] at hj
  injection hj with hj
  rw [← hj]
  exact r.toK this
theorem Row_reads (h : r.Row e w v xs fp) : ∃ A c, v = .slice A xs.length c ∧ xs.length ≤ c ∧ r.d.C w A xs.length xs := by
  obtain ⟨css, fps, ho, ha, rfl⟩ := h
  exact OwnRow.reads (base := 0) ⟨_, ho, all_reps ha⟩
theorem Row_C {A : Option Addr} {n c : Nat} (h : r.Row e w (.slice A n c) xs fp) : n = xs.length ∧ xs.length ≤ c ∧ r.d.C w A xs.length xs := by
  obtain ⟨A', c', he, h1, h2⟩ := Row_reads h
  injection he with ha hn hc
  subst ha; subst hc; subst hn
  exact ⟨rfl, h1, h2⟩
theorem Row_block (h : r.Row e w v xs fp) {k : Nat} (hk : v.ownBlock = some k) : k ∈ fp := by
  obtain ⟨css, fps, ho, ha, rfl⟩ := h
  exact List.mem_append_left _ (by rw [hk]; simp)
theorem Row_ne (h : r.Row e w v xs fp) {g : Nat} (hg : g ∉ fp) : some g ≠ v.ownBlock := fun he => hg (Row_block h he.symm)
theorem Row_snoc {v1 : Value} {W : World} {css : List (List Value)} {fps : List (List Nat)} (ho : w.ownsRow 0 e r.d.sz v xs.length css.flatten) (ha : All3 (r.P w) xs css fps) (hp : r.P w x cs fpx) (hnd : (v.ownBlock.toList ++ fps.flatten ++ fpx).Nodup)
    (ho1 : W.ownsRow 0 e r.d.sz v1 (xs.length + 1) (css.flatten ++ cs))
    (hg : w.grownBy W v.ownBlock) (hat : v1.ownBlock = v.ownBlock ∨ ∃ b, v1.ownBlock = some b ∧ w.heap.size ≤ b) :
    ∃ fp1, r.Row e W v1 (xs ++ [x]) fp1 ∧ fp1.Nodup ∧ ∀ b ∈ fp1, b ∈ v.ownBlock.toList ++ fps.flatten ∨ b ∈ fpx ∨ w.heap.size ≤ b := by
  have hlt := Row_lt ⟨css, fps, ho, ha, rfl⟩
  have hxlt := P_lt hp
  have hnd' := hnd
  rw [List.append_assoc, List.nodup_append] at hnd
  obtain ⟨n1, n2, n3⟩ := hnd
  have hne : ∀ k ∈ fps.flatten ++ fpx, some k ≠ v.ownBlock := fun k hk he => n3 k (by rw [← he]; simp) k hk rfl
  have hlt' : ∀ k ∈ fps.flatten ++ fpx, k < w.heap.size := fun k hk => by
    rcases List.mem_append.1 hk with hk | hk
    · exact hlt k (List.mem_append_right _ hk)
    · exact hxlt k hk
  have hm : ∀ k ∈ fps.flatten ++ fpx, W.heap[k]? = w.heap[k]? := fun k hk => hg.block k (hlt' k hk) (hne k hk)
  refine ⟨v1.ownBlock.toList ++ (fps ++ [fpx]).flatten, ⟨css ++ [cs], fps ++ [fpx], ?_, ?_, rfl⟩, ?_, ?_⟩
  · have := ho1
    rw [List.length_append, List.length_singleton, List.flatten_append, List.flatten_singleton]
    exact this
  · refine All3.snoc (ha.imp fun a b c hc hP => r.loc hP fun k hk => hm k (List.mem_append_left _ (List.mem_flatten.2 ⟨c, hc, hk⟩))) (r.loc hp fun k hk => hm k (List.mem_append_right _ hk))
  · rw [List.flatten_append, List.flatten_singleton, List.nodup_append]
    refine ⟨by cases v1.ownBlock <;> simp, n2, fun a ha' b hb hab => ?_⟩
    subst hab
    rcases hat with hat | ⟨g, hat, hle⟩
    · rw [hat] at ha'; exact n3 a ha' a hb rfl
    · rw [hat] at ha'; simp at ha'; have := hlt' a hb; omega
  · intro b hb
    rw [List.flatten_append, List.flatten_singleton] at hb
    rcases List.mem_append.1 hb with hb | hb
    · rcases hat with hat | ⟨g, hat, hle⟩
      · rw [hat] at hb; exact .inl (List.mem_append_left _ hb)
      · rw [hat] at hb; simp at hb; exact .inr (.inr (by omega))
    · rcases List.mem_append.1 hb with hb | hb
      · exact .inl (List.mem_append_right _ hb)
      · exact .inr (.inl hb)
end
def scalar {α : Type} (enc : α → Value) (h1 : ∀ x, (enc x).oneCell' = true) : Rp α where
  d := Kd.scalar enc h1
  E := []
  P := fun _ x cs fp => cs = [enc x] ∧ fp = []
  toK := fun h => h.1
  loc := fun h _ => h
  ty := fun h b hb => by rw [h.2] at hb; simp at hb
def int (k : IntKind) : Rp Int := scalar (Value.int k) (fun _ => rfl)
def bool : Rp Bool := scalar Value.bool (fun _ => rfl)
def string : Rp ByteArray := scalar Value.string (fun _ => rfl)
def slice {α : Type} (e : Nat) (r : Rp α) : Rp (List α) where
  d := Kd.slice e r.d
  E := e :: r.E
  P := fun w xs cs fp => ∃ v, cs = [v] ∧ r.Row e w v xs fp
  toK := by
    rintro w x cs fp ⟨v, rfl, h⟩
    obtain ⟨A, c, rfl, hl, hr⟩ := Row_reads h
    exact ⟨A, c, rfl, hl, hr⟩
  loc := by
    rintro w w1 x cs fp ⟨v, rfl, h⟩ hm
    exact ⟨v, rfl, Row_loc h hm⟩
  ty := by
    rintro w x cs fp ⟨v, rfl, h⟩
    exact Row_ty h
def pair {α β : Type} (a : Rp α) (b : Rp β) : Rp (α × β) where
  d := Kd.pair a.d b.d
  E := a.E ++ b.E
  P := fun w x cs fp => ∃ c0 c1 f0 f1, cs = c0 ++ c1 ∧ fp = f0 ++ f1 ∧ a.P w x.1 c0 f0 ∧ b.P w x.2 c1 f1
  toK := by
    rintro w x cs fp ⟨c0, c1, f0, f1, rfl, rfl, h0, h1⟩
    exact ⟨c0, c1, rfl, a.toK h0, b.toK h1⟩
  loc := by
    rintro w w1 x cs fp ⟨c0, c1, f0, f1, rfl, rfl, h0, h1⟩ hm
    exact ⟨c0, c1, f0, f1, rfl, rfl, a.loc h0 fun b hb => hm b (List.mem_append_left _ hb), b.loc h1 fun b hb => hm b (List.mem_append_right _ hb)⟩
  ty := by
    rintro w x cs fp ⟨c0, c1, f0, f1, rfl, rfl, h0, h1⟩ k hk
    rcases List.mem_append.1 hk with hk | hk
    · obtain ⟨q, hq, h⟩ := a.ty h0 k hk
      exact ⟨q, List.mem_append_left _ hq, h⟩
    · obtain ⟨q, hq, h⟩ := b.ty h1 k hk
      exact ⟨q, List.mem_append_right _ hq, h⟩
def iso {α β : Type} (r : Rp α) (f : β → α) : Rp β where
  d := Kd.iso r.d f
  E := r.E
  P := fun w x cs fp => r.P w (f x) cs fp
  toK := fun h => r.toK h
  loc := fun h hm => r.loc h hm
  ty := fun h => r.ty h
end Rp
end Go.Proofs.Ytocdlibnmlcokaa
namespace Go.Proofs.Ytocdlibnmlcokaa
open Go.RowKit Go.Proofs.YtocdlibnmlcokaaW.PrintWords Go.Proofs.YtocdlibnmlcokaaW.PrintLast
set_option linter.unusedVariables false
namespace Rp
def Got {α : Type} (r : Rp α) (e lo : Nat) (w : World) (v : Value) (xs : List α) : Prop := ∃ fp, r.Row e w v xs fp ∧ fp.Nodup ∧ ∀ b ∈ fp, lo ≤ b
section
variable {α : Type} {enc : α → Value} {h1 : ∀ x, (enc x).oneCell' = true} {e : Nat} {w w1 : World} {v : Value} {xs ys : List α} {fp : List Nat}
theorem all3_scalar (w : World) (xs : List α) : All3 ((scalar enc h1).P w) xs (xs.map fun x => [enc x]) (xs.map fun _ => ([] : List Nat)) := by
  induction xs with
  | nil => exact .nil
  | cons x xs ih => exact .cons ⟨rfl, rfl⟩ ih
theorem flat_single (xs : List α) : (xs.map fun x => [enc x]).flatten = encs enc xs := by
  induction xs with
  | nil => rfl
  | cons x xs ih => simp [encs] at ih ⊢; exact ih
theorem flat_none (xs : List α) : (xs.map fun _ => ([] : List Nat)).flatten = [] := by
  induction xs with
  | nil => rfl
  | cons x xs ih => simp
theorem Row_own (ho : w.ownsRow 0 e 1 v xs.length (encs enc xs)) : (scalar enc h1).Row e w v xs v.ownBlock.toList :=
  ⟨_, _, by rw [flat_single]; exact ho, all3_scalar w xs, by rw [flat_none, List.append_nil]⟩
theorem scalar_css {css : List (List Value)} {fps : List (List Nat)} (h : All3 ((scalar enc h1).P w) xs css fps) : css.flatten = encs enc xs ∧ fps.flatten = [] := by
  induction h with
  | nil => exact ⟨rfl, rfl⟩
  | cons h0 _ ih => rw [h0.1, h0.2]; simp [encs] at ih ⊢; exact ih
theorem own_Row (h : (scalar enc h1).Row e w v xs fp) : w.ownsRow 0 e 1 v xs.length (encs enc xs) ∧ fp = v.ownBlock.toList := by
  obtain ⟨css, fps, ho, ha, rfl⟩ := h
  obtain ⟨h2, h3⟩ := scalar_css ha
  rw [h2] at ho
  exact ⟨ho, by rw [h3, List.append_nil]⟩
theorem nodup_toList (o : Option Nat) : o.toList.Nodup := by cases o <;> simp
theorem at_toList {o : Option Nat} {w : World} {u : Option Nat} (hat : o = u ∨ ∃ b, o = some b ∧ w.heap.size ≤ b) : ∀ b ∈ o.toList, b ∈ u.toList ∨ w.heap.size ≤ b := by
  intro b hb
  rcases hat with h | ⟨g, h, hle⟩
  · rw [h] at hb; exact .inl hb
  · rw [h] at hb; simp at hb; exact .inr (by omega)
end
section
variable {P : Program} {ops : Array Oper} {rest : List Oper} {o : Oper} {a : Act} {Q : Exit → Act → World → Prop} {W : World} {α : Type}
theorem nodup_new {f g : List Nat} {n : Nat} (hf : f.Nodup) (hg : g.Nodup) (hlt : ∀ b ∈ f, b < n) (hge : ∀ b ∈ g, n ≤ b) : (f ++ g).Nodup :=
  List.nodup_append.2 ⟨hf, hg, fun a ha b hb he => by have := hlt a ha; have := hge b hb; omega⟩
theorem app_row {enc : α → Value} {h1 : ∀ x, (enc x).oneCell' = true} (d : α) (hgd : o.guard = none) (s x : Operand) (t e : TypeId) (z : Value) (bytes : Nat)
    (ho : o.op = .call { callee := .builtin .append, args := #[s, x], argTypes := #[t, t] })
    (ht : P.underlying t = some (.slice e)) (hinfo : (P.info? e).map (fun i => (i.zero, i.size, i.bytes)) = some (some z, 1, bytes)) (hz : z.cells.size = 1) (hb0 : 0 < bytes)
    (v : Value) (xs ys : List α) (A : Option Addr) (m c : Nat) (hs : a.eval s = v) (hx : a.eval x = .slice A m c) {fp : List Nat}
    (HO : (scalar enc h1).Row e W v xs fp) (HR : (Kd.scalar enc h1).C W A m ys) (hl : (xs.length + m) * bytes ≤ 140737488355328)
    (h : ∀ v1 w1 fp1, (scalar enc h1).Row e w1 v1 (xs ++ ys) fp1 → fp1.Nodup → (∀ b ∈ fp1, b ∈ fp ∨ W.heap.size ≤ b) → W.grownBy w1 v.ownBlock → wpList P ops Q rest (a.put o.dst v1) w1) :
    wpList P ops Q (o :: rest) a W := by
  obtain ⟨ho', rfl⟩ := own_Row HO
  refine print_append_row_of (w0 := W) enc d 0 hgd s x t e z bytes ho ht hinfo hz hb0 h1 v xs ys A m c hs hx ho' (Kd.reads_of_C (d := d) HR) (Below.refl _ _) (Nat.zero_le _) hl ?_
  intro v1 w1 hown _ hg hat
  exact h v1 w1 _ (Row_own hown) (nodup_toList _) (at_toList hat) hg
theorem app_one (r : Rp α) (hgd : o.guard = none) (s x : Operand) (t e : TypeId) (z : Value) (bytes : Nat)
    (ho : o.op = .call { callee := .builtin .append, args := #[s, x], argTypes := #[t, t] })
    (ht : P.underlying t = some (.slice e)) (hinfo : (P.info? e).map (fun i => (i.zero, i.size, i.bytes)) = some (some z, r.d.sz, bytes)) (hz : z.cells.size = r.d.sz) (hs0 : 0 < r.d.sz) (hb0 : 0 < bytes)
    (v : Value) (xs : List α) (p : α) (cs : List Value) (hs : a.eval s = v) (hx : a.eval x = .slice (some ⟨W.heap.size, 0, none⟩) 1 1) {fp fpx : List Nat}
    (HO : r.Row e W v xs fp) (hp : r.P W p cs fpx) (hnd : (fp ++ fpx).Nodup) (hl : (xs.length + 1) * bytes ≤ 140737488355328)
    (h : ∀ v1 w1 fp1, r.Row e w1 v1 (xs ++ [p]) fp1 → fp1.Nodup → (∀ b ∈ fp1, b ∈ fp ∨ b ∈ fpx ∨ W.heap.size ≤ b) → W.grownBy w1 v.ownBlock → wpList P ops Q rest (a.put o.dst v1) w1) :
    wpList P ops Q (o :: rest) a (W.alloc (.cells cs.toArray e)) := by
  obtain ⟨css, fps, hown, ha, rfl⟩ := HO
  refine print_append_cells (w0 := W) 0 hgd s x t e z r.d.sz bytes ho ht hinfo hz hs0 hb0 v xs.length css.flatten cs hs hx (r.len hp) (r.d.K_one (r.toK hp)) hown (Below.refl _ _) (Nat.zero_le _) hl ?_
  intro v1 w1 hown1 _ hg hat
  obtain ⟨fp1, h2, h3, h4⟩ := Row_snoc hown ha hp hnd hown1 hg hat
  exact h v1 w1 fp1 h2 h3 h4 hg
theorem app_one_step (r : Rp α) {K : Act → World → Prop} {E : Prop} (hgd : o.guard = none) (s x : Operand) (t e : TypeId) (z : Value) (bytes : Nat)
    (ho : o.op = .call { callee := .builtin .append, args := #[s, x], argTypes := #[t, t] })
    (ht : P.underlying t = some (.slice e)) (hinfo : (P.info? e).map (fun i => (i.zero, i.size, i.bytes)) = some (some z, r.d.sz, bytes)) (hz : z.cells.size = r.d.sz) (hs0 : 0 < r.d.sz) (hb0 : 0 < bytes)
    (v : Value) (xs : List α) (p : α) (cs : List Value) (hs : a.eval s = v) (hx : a.eval x = .slice (some ⟨W.heap.size, 0, none⟩) 1 1) {fp fpx : List Nat}
    (HO : r.Row e W v xs fp) (hp : r.P W p cs fpx) (hnd : (fp ++ fpx).Nodup) (hl : (xs.length + 1) * bytes ≤ 140737488355328)
    (h : ∀ v1 w1 fp1, r.Row e w1 v1 (xs ++ [p]) fp1 → fp1.Nodup → (∀ b ∈ fp1, b ∈ fp ∨ b ∈ fpx ∨ W.heap.size ≤ b) → W.grownBy w1 v.ownBlock → K (a.put o.dst v1) w1) :
    if Region.wanted o (yielded ops a.tmps) = true then Oper.wp P o a (W.alloc (.cells cs.toArray e)) K Q else E := by
  have hw : Region.wanted o (yielded ops a.tmps) = true := by simp [Region.wanted, hgd]
  obtain ⟨css, fps, hown, ha, rfl⟩ := HO
  have := step_append_cells (Q := Q) (K := K) (ops := ops) (w0 := W) 0 hw s x t e z r.d.sz bytes ho ht hinfo hz hs0 hb0 v xs.length css.flatten cs hs hx (r.len hp) (r.d.K_one (r.toK hp)) hown (Below.refl _ _) (Nat.zero_le _) hl (by
    intro v1 w1 hown1 _ hg hat
    obtain ⟨fp1, h2, h3, h4⟩ := Row_snoc hown ha hp hnd hown1 hg hat
    exact h v1 w1 fp1 h2 h3 h4 hg)
  rw [if_pos hw] at this ⊢
  exact this
theorem mk_core (r : Rp α) (t e : TypeId) (x y : Operand) (ho : o.op = .makeSlice t x y) (n : Int) (hx : a.eval x = .int .i64 n) (hy : a.eval y = .int .i64 n)
    (ht : P.underlying t = some (.slice e)) (z : Value) (bytes : Nat) (hinfo : (P.info? e).map (fun i => (i.zero, i.size, i.bytes)) = some (some z, r.d.sz, bytes)) (hz : z.cells.size = r.d.sz) (hs0 : 0 < r.d.sz) (hb0 : 0 < bytes)
    (z0 : α) (hzero : ∀ w, r.P w z0 z.cells.toList []) (h0 : 0 ≤ n) (hl : n.toNat * bytes ≤ 281474976710656) :
    ∃ w1, (execOp a.eval o).run P W = .ok (.value (.slice (some ⟨W.heap.size, 0, none⟩) n.toNat n.toNat)) w1 ∧ r.Row e w1 (.slice (some ⟨W.heap.size, 0, none⟩) n.toNat n.toNat) (List.replicate n.toNat z0) [W.heap.size] ∧ Below W.heap.size W w1 := by
  obtain ⟨m, rfl⟩ := Int.eq_ofNat_of_zero_le h0
  simp only [Int.toNat_natCast] at hl ⊢
  obtain ⟨i0, hi, hzz⟩ := Option.map_eq_some_iff.1 hinfo
  simp only [Prod.mk.injEq] at hzz
  obtain ⟨hz0, hz1, hz2⟩ := hzz
  have hm : m ≤ 281474976710656 := Nat.le_trans (Nat.le_mul_of_pos_right _ hb0) hl
  have hr := run_make (P := P) W t e i0 z ht hi hz0 .i64 .i64 (m : Int) (m : Int) (by omega) (by omega)
    (by
      have h3 : ((i0.bytes * m : Nat) : Int) ≤ 281474976710656 := by rw [hz2, Nat.mul_comm]; omega
      rwa [Int.natCast_mul] at h3) (by omega)
  simp only [Int.toNat_natCast] at hr
  rw [hz1] at hr
  refine ⟨W.alloc (.cells (madeCells z.cells (m * r.d.sz)) e), by simp [execOp, ho, hx, hy, hr], ?_, below_alloc (Below.refl _ _) _⟩
  have key : ∀ k : Nat, k ≤ m → All3 (r.P (W.alloc (.cells (madeCells z.cells (m * r.d.sz)) e))) (List.replicate k z0) (List.replicate k z.cells.toList) (List.replicate k ([] : List Nat)) := by
    intro k
    induction k with
    | zero => intro _; exact .nil
    | succ k ih => intro hk; exact .cons (hzero _) (ih (by omega))
  have hfl : (List.replicate m z.cells.toList).flatten = (madeCells z.cells (m * r.d.sz)).toList := by
    have hzl : z.cells.toList.length = r.d.sz := by rw [Array.length_toList, hz]
    apply List.ext_getElem
    · rw [flat_len (n := r.d.sz) (fun c hc => by rw [List.mem_replicate] at hc; rw [hc.2, hzl])]
      simp [size_madeCells]
    · intro i h3 h4
      have hi4 : i < m * r.d.sz := by simpa [size_madeCells] using h4
      have hq : i / r.d.sz < m := (Nat.div_lt_iff_lt_mul hs0).2 hi4
      have e1 := flat_get (n := r.d.sz) (css := List.replicate m z.cells.toList) (fun c hc => by rw [List.mem_replicate] at hc; rw [hc.2, hzl]) (i / r.d.sz) (by simpa using hq)
      have hmod := Nat.mod_lt i hs0
      have hdm : i / r.d.sz * r.d.sz + i % r.d.sz = i := by rw [Nat.mul_comm]; exact Nat.div_add_mod i r.d.sz
      have e2 : (List.replicate m z.cells.toList).flatten[i]? = z.cells.toList[i % r.d.sz]? := by
        have e3 := congrArg (fun l => l[i % r.d.sz]?) e1
        simp only [List.getElem?_take, List.getElem?_drop, List.getElem_replicate] at e3
        rw [if_pos hmod, hdm] at e3
        exact e3
      rw [List.getElem?_eq_getElem h3, List.getElem?_eq_getElem (by rw [hzl]; exact hmod)] at e2
      injection e2 with e2
      rw [e2]
      simp [madeCells, hz]
      rw [getElem!_pos z.cells _ (by rw [hz]; exact hmod)]
  refine ⟨List.replicate m z.cells.toList, List.replicate m [], ?_, ?_, ?_⟩
  · rw [hfl, List.length_replicate]
    have h2 := World.ownsRow_lit (base := 0) (e := e) (size := r.d.sz) W (madeCells z.cells (m * r.d.sz)) m (Nat.zero_le _) (by simp only [maxLen]; omega) (by simp [size_madeCells])
    simpa using h2
  · exact key m (Nat.le_refl _)
  · simp [Value.ownBlock]
theorem mk_row (r : Rp α) (hgd : o.guard = none) {N : Tmp} (hd : o.dst = some N) (t e : TypeId) (x y : Operand) (ho : o.op = .makeSlice t x y) (n : Int) (hx : a.eval x = .int .i64 n) (hy : a.eval y = .int .i64 n)
    (ht : P.underlying t = some (.slice e)) (z : Value) (bytes : Nat) (hinfo : (P.info? e).map (fun i => (i.zero, i.size, i.bytes)) = some (some z, r.d.sz, bytes)) (hz : z.cells.size = r.d.sz) (hs0 : 0 < r.d.sz) (hb0 : 0 < bytes)
    (z0 : α) (hzero : ∀ w, r.P w z0 z.cells.toList []) (h0 : 0 ≤ n) (hl : n.toNat * bytes ≤ 281474976710656)
    (h : ∀ g w1, g = W.heap.size → r.Row e w1 (.slice (some ⟨g, 0, none⟩) n.toNat n.toNat) (List.replicate n.toNat z0) [g] → Below W.heap.size W w1 → wpList P ops Q rest (a.put o.dst (.slice (some ⟨g, 0, none⟩) n.toNat n.toNat)) w1) : wpList P ops Q (o :: rest) a W := by
  obtain ⟨w1, hrun, hr, hb⟩ := mk_core (W := W) (o := o) (a := a) r t e x y ho n hx hy ht z bytes hinfo hz hs0 hb0 z0 hzero h0 hl
  exact Kd.event_run hgd hrun (h _ _ rfl hr hb)
theorem mk_row_step (r : Rp α) {K : Act → World → Prop} {E : Prop} (hgd : o.guard = none) (t e : TypeId) (x y : Operand) (ho : o.op = .makeSlice t x y) (n : Int) (hx : a.eval x = .int .i64 n) (hy : a.eval y = .int .i64 n)
    (ht : P.underlying t = some (.slice e)) (z : Value) (bytes : Nat) (hinfo : (P.info? e).map (fun i => (i.zero, i.size, i.bytes)) = some (some z, r.d.sz, bytes)) (hz : z.cells.size = r.d.sz) (hs0 : 0 < r.d.sz) (hb0 : 0 < bytes)
    (z0 : α) (hzero : ∀ w, r.P w z0 z.cells.toList []) (h0 : 0 ≤ n) (hl : n.toNat * bytes ≤ 281474976710656)
    (h : ∀ g w1, g = W.heap.size → r.Row e w1 (.slice (some ⟨g, 0, none⟩) n.toNat n.toNat) (List.replicate n.toNat z0) [g] → Below W.heap.size W w1 → K (a.put o.dst (.slice (some ⟨g, 0, none⟩) n.toNat n.toNat)) w1) : if Region.wanted o (yielded ops a.tmps) = true then Oper.wp P o a W K Q else E := by
  obtain ⟨w1, hrun, hr, hb⟩ := mk_core (W := W) (o := o) (a := a) r t e x y ho n hx hy ht z bytes hinfo hz hs0 hb0 z0 hzero h0 hl
  have hw : Region.wanted o (yielded ops a.tmps) = true := by simp [Region.wanted, hgd]
  rw [if_pos hw]
  unfold Oper.wp
  rw [hrun]
  exact h _ _ rfl hr hb
end
end Rp
structure Kp (w w1 : World) (S : List Nat) : Prop where
  os : w1.os = w.os
  tape : w1.tape = w.tape
  output : w1.output = w.output
  size : w.heap.size ≤ w1.heap.size
  block : ∀ b, b < w.heap.size → b ∉ S → w1.heap[b]? = w.heap[b]?
namespace Kp
variable {w w0 w1 w2 : World} {S S' : List Nat}
theorem refl (w : World) : Kp w w [] := ⟨rfl, rfl, rfl, Nat.le_refl _, fun _ _ _ => rfl⟩
theorem below (h : Below w.heap.size w w1) : Kp w w1 [] := ⟨h.os, h.tape, h.output, h.size, fun b hb _ => h.block b hb⟩
theorem grown {row : Option Nat} (h : w.grownBy w1 row) : Kp w w1 row.toList := ⟨h.os, h.tape, h.output, h.size, fun b hb hn => h.block b hb (by rintro rfl; simp at hn)⟩
theorem set (w : World) (g j : Nat) (u : Value) : Kp w (w.setCell ⟨g, j, none⟩ u) [g] := ⟨rfl, rfl, rfl, by simp, fun b _ hn => Below.heap_setCell w ⟨g, j, none⟩ u b (by simpa using hn)⟩
theorem trans (h : Kp w w1 S) (k : Kp w1 w2 S') (hs : ∀ b ∈ S', b < w.heap.size → b ∈ S) : Kp w w2 S :=
  ⟨k.os.trans h.os, k.tape.trans h.tape, k.output.trans h.output, Nat.le_trans h.size k.size, fun b hb hn => (k.block b (Nat.lt_of_lt_of_le hb h.size) (fun hm => hn (hs b hm hb))).trans (h.block b hb hn)⟩
theorem mono (h : Kp w w1 S) (hs : ∀ b ∈ S, b < w.heap.size → b ∈ S') : Kp w w1 S' := ⟨h.os, h.tape, h.output, h.size, fun b hb hn => h.block b hb (fun hm => hn (hs b hm hb))⟩
theorem blk (h : Kp w w1 S) {g : Nat} {o : Obj} (hg : w.heap[g]? = some o) (hn : g ∉ S) : w1.heap[g]? = some o := (h.block g (blk_lt hg) hn).trans hg
theorem row (h : Kp w w1 S) {α : Type} {r : Rp α} {e : Nat} {v : Value} {xs : List α} {fp : List Nat} (hr : r.Row e w v xs fp) (hn : ∀ b ∈ fp, b ∉ S) : r.Row e w1 v xs fp := Rp.Row_step hr fun b hb hlt => h.block b hlt (hn b hb)
theorem toBelow (h : Kp w w1 S) {B : Nat} (hb : Below B w0 w) (hB : B ≤ w.heap.size) (hs : ∀ b ∈ S, B ≤ b) : Below B w0 w1 :=
  ⟨h.os.trans hb.os, h.tape.trans hb.tape, h.output.trans hb.output, Nat.le_trans hb.size h.size, fun k hk => (h.block k (Nat.lt_of_lt_of_le hk hB) (fun hm => Nat.lt_irrefl _ (Nat.lt_of_lt_of_le hk (hs k hm)))).trans (hb.block k hk)⟩
end Kp
theorem box_app {α : Type} {r : Rp α} {e t g : Nat} {W w2 : World} {v v1 : Value} {xs xs1 : List α} {fp fp1 : List Nat} {cells : Array Value} (HO : r.Row e W v xs fp) (hg : W.heap[g]? = some (.cells cells t (0, 0))) (ht : t ∉ e :: r.E) (hgr : W.grownBy w2 v.ownBlock)
    (hr1 : r.Row e w2 v1 xs1 fp1) (j : Nat) : r.Row e (w2.setCell ⟨g, j, none⟩ v1) v1 xs1 fp1 ∧ (w2.setCell ⟨g, j, none⟩ v1).heap[g]? = some (.cells (cells.setIfInBounds j v1) t (0, 0)) ∧ Kp W (w2.setCell ⟨g, j, none⟩ v1) (fp ++ [g]) := by
  have hg2 := blk_grown hg hgr (Rp.Row_ne HO (Rp.Row_not HO hg ht))
  refine ⟨Rp.Row_set hr1 hg2 ht j v1, blk_set hg2 j v1, ?_⟩
  exact ((Kp.grown hgr).mono (S' := fp ++ [g]) (fun b hb _ => List.mem_append_left _ (Rp.Row_block HO (by simpa using hb)))).trans (Kp.set w2 g j v1) (fun b hb _ => List.mem_append_right _ hb)
theorem set1 {w : World} {g t : Nat} {cells : Array Value} (h : w.heap[g]? = some (.cells cells t (0, 0))) (j : Nat) (x : Value) : (w.setCell ⟨g, j, none⟩ x).heap[g]? = some (.cells (cells.setIfInBounds j x) t (0, 0)) ∧ Kp w (w.setCell ⟨g, j, none⟩ x) [g] := ⟨blk_set h j x, Kp.set _ _ _ _⟩
theorem set2 {w : World} {g t : Nat} {a b : Value} (h : w.heap[g]? = some (.cells #[a, b] t (0, 0))) (x y : Value) : ((w.setCell ⟨g, 0, none⟩ x).setCell ⟨g, 1, none⟩ y).heap[g]? = some (.cells #[x, y] t (0, 0)) ∧ Kp w ((w.setCell ⟨g, 0, none⟩ x).setCell ⟨g, 1, none⟩ y) [g] :=
  ⟨blk_set (blk_set h 0 x) 1 y, (Kp.set _ _ _ _).trans (Kp.set _ _ _ _) (fun _ hb _ => hb)⟩
theorem set3 {w : World} {g t : Nat} {a b c : Value} (h : w.heap[g]? = some (.cells #[a, b, c] t (0, 0))) (x y z : Value) : (((w.setCell ⟨g, 0, none⟩ x).setCell ⟨g, 1, none⟩ y).setCell ⟨g, 2, none⟩ z).heap[g]? = some (.cells #[x, y, z] t (0, 0)) ∧ Kp w (((w.setCell ⟨g, 0, none⟩ x).setCell ⟨g, 1, none⟩ y).setCell ⟨g, 2, none⟩ z) [g] :=
  ⟨blk_set (blk_set (blk_set h 0 x) 1 y) 2 z, ((Kp.set _ _ _ _).trans (Kp.set _ _ _ _) (fun _ hb _ => hb)).trans (Kp.set _ _ _ _) (fun _ hb _ => hb)⟩
theorem blk_new' {w : World} (o : Obj) {n : Nat} (h : w.heap.size = n) : (w.alloc o).heap[n]? = some o := by subst h; exact blk_new w o
theorem alloc1 {w w1 : World} {o1 : Obj} (h : w.alloc o1 = w1) : w1.heap[w.heap.size]? = some o1 ∧ Below w.heap.size w w1 ∧ w1.heap.size = w.heap.size + 1 := by
  subst h
  exact ⟨blk_new w o1, below_alloc (Below.refl _ w) o1, by simp⟩
theorem alloc2 {w w1 : World} {o1 o2 : Obj} (h : (w.alloc o1).alloc o2 = w1) : w1.heap[w.heap.size]? = some o1 ∧ w1.heap[w.heap.size + 1]? = some o2 ∧ Below w.heap.size w w1 ∧ w1.heap.size = w.heap.size + 2 := by
  subst h
  exact ⟨blk_alloc (blk_new w o1) _, blk_new' _ (by simp), below_alloc (below_alloc (Below.refl _ w) o1) o2, by simp⟩
theorem alloc3 {w w1 : World} {o1 o2 o3 : Obj} (h : ((w.alloc o1).alloc o2).alloc o3 = w1) : w1.heap[w.heap.size]? = some o1 ∧ w1.heap[w.heap.size + 1]? = some o2 ∧ w1.heap[w.heap.size + 1 + 1]? = some o3 ∧ Below w.heap.size w w1 ∧ w1.heap.size = w.heap.size + 3 := by
  subst h
  exact ⟨blk_alloc (blk_alloc (blk_new w o1) _) _, blk_alloc (blk_new' _ (by simp)) _, blk_new' _ (by simp), below_alloc (below_alloc (below_alloc (Below.refl _ w) o1) o2) o3, by simp⟩
end Go.Proofs.Ytocdlibnmlcokaa
namespace Go.Proofs.Ytocdlibnmlcokaa
open Go.RowKit Go.Proofs.YtocdlibnmlcokaaW.PrintWords Go.Proofs.YtocdlibnmlcokaaW.PrintLast
set_option linter.unusedVariables false
set_option linter.unusedSimpArgs false
theorem info5 : (Try.prog.info? 5).map (fun i => (i.zero, i.size, i.bytes)) = some (some (.int .u8 0), 1, 1) := by kernel_rfl
abbrev rB : Rp Int := Rp.int .u8
abbrev kB : Kd Int := Kd.int .u8
theorem cp_c (A : Option Addr) (c : Nat) (xs : List Int) (w : World) (hx : kB.C w A xs.length xs) (hm : xs.length ≤ 140737488355328) :
    Calls Try.prog 114 #[.slice A xs.length c] w fun e w' => ∃ v, e = .returned v ∧ Rp.Got rB 5 w.heap.size w' v xs ∧ Below w.heap.size w w' := by
  have HX := Aside0.mk hx; have HM := Aside0.mk hm; clear hx hm
  go_enter Try.func114, Try.ntmps114
  go_wp2_with (at_builtin; refine Rp.app_row (enc := Value.int .u8) (h1 := fun _ => rfl) 0 rfl _ _ 22 5 (.int .u8 0) 1 rfl Try.underlying22 info5 rfl (by omega) (.slice none 0 0) [] xs A xs.length c rfl rfl (Rp.Row_nil rB 5 _) HX.out (by have := HM.out; simp; omega) ?_; intro v1 w1 fp1 hr hn hf hg; have HR := Aside0.mk hr; have HN := Aside0.mk hn; have HF := Aside0.mk hf; have HG := Aside0.mk hg; clear hr hn hf hg)
  go_ret
  exact ⟨_, rfl, ⟨fp1, HR.out, HN.out, fun b hb => by simpa using HF.out b hb⟩, (Below.refl _ _).grown HG.out (Nat.le_refl _) (by simp [Value.ownBlock])⟩
end Go.Proofs.Ytocdlibnmlcokaa
namespace Go.Proofs.Ytocdlibnmlcokaa
open Go Go.RowKit Go.Proofs.YtocdlibnmlcokaaW.PrintWords Go.Proofs.YtocdlibnmlcokaaW.PrintLast
set_option linter.unusedVariables false
def bl (n m : Nat) : Array Bool := ((List.range n).map m.testBit).toArray
section
variable {P : Program} {ops : Array Oper} {Q : Exit → Act → World → Prop} {md : Region.Mode} {S : World → Prop} {ds : List Nat} {n m fuel : Nat} {a a' : Act} {w w1 : World} {N : Option Tmp} {oi : Oper} {v : Value} {K : Act → World → Prop}
theorem sta (S : World → Prop) (ds : List Nat) {id : Nat} (n : Nat) (hS : S w.drew) (h : S w.drew → wpAnyLast P .any ops Q S ds n (bl n 0) a w.drew) (hm : P.follows .mixedOrders = true := by kernel_rfl) (hn : ops.size = n := by rfl) (hl : Array.replicate n false = bl n 0 := by kernel_rfl) : (Code.region id ops true).wp P Q a w :=
  start_ _ hm hn hl hS h
theorem pu (i m' : Nat) (h : wpAnyLast P md ops Q S ds fuel (bl n m') a' w) (hi : ops[i]? = some oi := by simp only [List.getElem?_toArray, List.getElem?_cons_succ, List.getElem?_cons_zero]; rfl) (hN : oi.dst = N := by rfl) (hc : anyB md ops (bl n m) (bl n m') i = true := by kernel_rfl)
    (hQ : ∀ c a w, Q (.panic c) (a.put oi.dst v) w → Q (.panic c) a w := by exact fun _ _ _ h => h) (hw : Region.wanted oi (yielded ops a.tmps) = true := by rfl)
    (hr : ∀ w', (execOp a.eval oi).run P w' = .ok (.value v) w' := by intro w'; go_simp; with_reducible rfl)
    (ha : a.put N v = a' := by first | (simp only [Act.put, List.setIfInBounds_toArray, List.set_cons_zero, List.set_cons_succ, i64_w, i32_w]; rfl) | rfl) : wpAnyLast P md ops Q S ds (fuel + 1) (bl n m) a w :=
  pure_ _ hi hN hc hQ (Or.inl ⟨hw, hr⟩) ha h
theorem po (i m' : Nat) (h : wpAnyLast P md ops Q S ds fuel (bl n m') a' w) (hi : ops[i]? = some oi := by simp only [List.getElem?_toArray, List.getElem?_cons_succ, List.getElem?_cons_zero]; rfl) (hN : oi.dst = N := by rfl) (hc : anyB md ops (bl n m) (bl n m') i = true := by kernel_rfl)
    (hQ : ∀ c a w, Q (.panic c) (a.put oi.dst undef) w → Q (.panic c) a w := by exact fun _ _ _ h => h) (hw : Region.wanted oi (yielded ops a.tmps) = false := by rfl)
    (ha : a.put N undef = a' := by first | (simp only [Act.put, List.setIfInBounds_toArray, List.set_cons_zero, List.set_cons_succ]; rfl) | rfl) : wpAnyLast P md ops Q S ds (fuel + 1) (bl n m) a w :=
  pure_ _ hi hN hc hQ (Or.inr ⟨hw, rfl⟩) ha h
theorem tk (i m' : Nat) (hS : S w) (h : wpAnyLast P md ops Q S ds fuel (bl n m') a' w) (hi : ops[i]? = some oi := by simp only [List.getElem?_toArray, List.getElem?_cons_succ, List.getElem?_cons_zero]; rfl) (hN : oi.dst = N := by rfl) (hc : takeB md ops ds (bl n m) (bl n m') i = true := by kernel_rfl)
    (hQ : ∀ c a w, Q (.panic c) (a.put oi.dst v) w → Q (.panic c) a w := by exact fun _ _ _ h => h) (hw : Region.wanted oi (yielded ops a.tmps) = true := by rfl)
    (hr : ∀ w', S w' → (execOp a.eval oi).run P w' = .ok (.value v) w' := by intro w' hs_; (try simp only [and_assoc] at hs_); go_simp; with_reducible rfl)
    (ha : a.put N v = a' := by first | (simp only [Act.put, List.setIfInBounds_toArray, List.set_cons_zero, List.set_cons_succ, i64_w, i32_w]; rfl) | rfl) : wpAnyLast P md ops Q S ds (fuel + 1) (bl n m) a w :=
  take_ _ hi hN hc hQ (Or.inl ⟨hw, hr⟩) hS ha h
theorem on (i m' : Nat) (h : ∀ K : Act → World → Prop, Shut (∀ a' w', S w' → (S w' → wpAnyLast P md ops Q S ds fuel (bl n m') a' w') → K a' w') → if Region.wanted oi (yielded ops a.tmps) = true then Oper.wp P oi a w K Q else K (a.put N undef) w)
    (hi : ops[i]? = some oi := by simp only [List.getElem?_toArray, List.getElem?_cons_succ, List.getElem?_cons_zero]; rfl) (hN : oi.dst = N := by rfl) (hc : readyB md ops (bl n m) (bl n m') i = true := by kernel_rfl) (hd : i ∉ ds := by decide) : wpAnyLast P md ops Q S ds (fuel + 1) (bl n m) a w := one_ _ hi hN hc hd h
theorem la (i m' : Nat) (h : ∀ K : Act → World → Prop, Shut (∀ a' w', wpAnyLast P md ops Q S ds fuel (bl n m') a' w' → K a' w') → if Region.wanted oi (yielded ops a.tmps) = true then Oper.wp P oi a w K Q else K (a.put N undef) w)
    (hi : ops[i]? = some oi := by simp only [List.getElem?_toArray, List.getElem?_cons_succ, List.getElem?_cons_zero]; rfl) (hN : oi.dst = N := by rfl) (hc : readyB md ops (bl n m) (bl n m') i = true := by kernel_rfl) (hd : i ∈ ds := by decide) : wpAnyLast P md ops Q S ds (fuel + 1) (bl n m) a w := last_ _ hi hN hc hd h
theorem nx {l' : Array Bool} (hK : Shut (∀ a' w', S w' → (S w' → wpAnyLast P md ops Q S ds fuel l' a' w') → K a' w')) (hS : S w) (h : S w → wpAnyLast P md ops Q S ds fuel l' a' w) (ha : a = a' := by first | (simp only [Act.put, List.setIfInBounds_toArray, List.set_cons_zero, List.set_cons_succ, i64_w, i32_w]; rfl) | rfl) : K a w := hK.out _ _ hS (fun hS => ha ▸ h hS)
theorem nl {l' : Array Bool} (hK : Shut (∀ a' w', wpAnyLast P md ops Q S ds fuel l' a' w' → K a' w')) (h : wpAnyLast P md ops Q S ds fuel l' a' w) (ha : a = a' := by first | (simp only [Act.put, List.setIfInBounds_toArray, List.set_cons_zero, List.set_cons_succ, i64_w, i32_w]; rfl) | rfl) : K a w := hK.out _ _ (ha ▸ h)
theorem dn {l : Array Bool} (h : Q .normal a w) (hr : (Region.ready md ops l == []) = true := by kernel_rfl) : wpAnyLast P md ops Q S ds n l a w := done_ hr h
theorem va (h : K (a.put N v) w1) (hw : Region.wanted oi (yielded ops a.tmps) = true := by rfl) (hN : oi.dst = N := by rfl) (hrun : (execOp a.eval oi).run P w = .ok (.value v) w1 := by go_simp; constructor <;> rfl) : if Region.wanted oi (yielded ops a.tmps) = true then Oper.wp P oi a w K Q else K (a.put N undef) w := value_ hw hN hrun h
theorem st (h : K a w1) (hw : Region.wanted oi (yielded ops a.tmps) = true := by rfl) (hN : oi.dst = none := by rfl) (hrun : (execOp a.eval oi).run P w = .ok .skip w1 := by go_simp; rfl) : if Region.wanted oi (yielded ops a.tmps) = true then Oper.wp P oi a w K Q else K (a.put none undef) w := skip_ hw hN hrun h
theorem ca {R : Ending → World → Prop} {f : FuncId} {fn : Func} {A : Array Operand} {ts : Array TypeId} {args : Array Value} (hcon : Calls P f args w R) (hf : P.funcs[f]? = some fn) (h : ∀ e w', R e w' → ∃ v, e = .returned v ∧ K (a.put N v) w')
    (hname : (fn.name == "runtime.NumGoroutine") = false := by kernel_rfl) (hb : fn.body.isSome = true := by rfl) (hw : Region.wanted oi (yielded ops a.tmps) = true := by rfl) (hN : oi.dst = N := by rfl)
    (hop : oi.op = .call { callee := .value (.func f), args := A, argTypes := ts } := by rfl) (hargs : A.map a.eval = args := by simp only [List.map_toArray, List.map_cons, List.map_nil]; rfl) : if Region.wanted oi (yielded ops a.tmps) = true then Oper.wp P oi a w K Q else K (a.put N undef) w :=
  goes_ hf hname hb args hw hN hop hargs (hcon.mono h)
end
end Go.Proofs.Ytocdlibnmlcokaa
namespace Go.Proofs.Ytocdlibnmlcokaa
open Go.RowKit Go.Proofs.YtocdlibnmlcokaaW.PrintWords Go.Proofs.YtocdlibnmlcokaaW.PrintLast
set_option linter.unusedVariables false
set_option linter.unusedSimpArgs false
theorem info22 : (Try.prog.info? 22).map (fun i => (i.zero, i.size, i.bytes)) = some (some (.slice none 0 0), 1, 24) := by kernel_rfl
theorem info147 : (Try.prog.info? 147).map (fun i => (i.zero, i.size, i.bytes)) = some (some (.agg #[(.int .i64 0), (.slice none 0 0)]), 2, 32) := by kernel_rfl
def gBS (xs : List (List Int)) (i : Int) : List Int := xs.getD i.toNat []
structure Wr where
  block : Int
  bytes : List Int
def gW (xs : List Wr) (i : Int) : Wr := xs.getD i.toNat ⟨0, []⟩
abbrev rBS : Rp (List Int) := Rp.slice 5 rB
abbrev rW : Rp Wr := Rp.iso (Rp.pair (Rp.int .i64) rBS) (fun x => (x.block, x.bytes))
theorem at_BS {w : World} {A : Option Addr} {n : Nat} {xs : List (List Int)} (h : rBS.d.C w A n xs) (i : Int) (h0 : 0 ≤ i) (h1 : i < n) : ∃ ad A0 c0, A = some ad ∧ w.cell? (ad.add i.toNat) = some (.slice A0 (gBS xs i).length c0) ∧ (gBS xs i).length ≤ c0 ∧ kB.C w A0 (gBS xs i).length (gBS xs i) := by
  obtain ⟨ad, c, e, _, hK, hc0⟩ := Kd.C_get h ([] : List Int) i h0 h1
  have hc : ∀ j u, c[j]? = some u → w.cell? (ad.add (i.toNat * 1 + j)) = some u := hc0
  obtain ⟨A0, c0, rfl, l0, g0⟩ := hK
  exact ⟨ad, A0, c0, e, by have hq := hc 0 _ rfl; rwa [Nat.mul_one, Nat.add_zero] at hq, l0, g0⟩
theorem at_W {w : World} {A : Option Addr} {n : Nat} {xs : List Wr} (h : rW.d.C w A n xs) (i : Int) (h0 : 0 ≤ i) (h1 : i < n) : ∃ ad A1 c1, A = some ad ∧ w.cell? (ad.add (i.toNat * 2)) = some (.int .i64 (gW xs i).block) ∧ w.cell? ⟨(ad.add (i.toNat * 2)).block, (ad.add (i.toNat * 2)).off + 1, none⟩ = some (.slice A1 (gW xs i).bytes.length c1) ∧ (gW xs i).bytes.length ≤ c1 ∧ kB.C w A1 (gW xs i).bytes.length (gW xs i).bytes := by
  obtain ⟨ad, c, e, _, hK, hc0⟩ := Kd.C_get h (⟨0, []⟩ : Wr) i h0 h1
  have hc : ∀ j u, c[j]? = some u → w.cell? (ad.add (i.toNat * 2 + j)) = some u := hc0
  obtain ⟨_, _, rfl, rfl, ⟨A1, c1, rfl, l1, g1⟩⟩ := hK
  exact ⟨ad, A1, c1, e, hc 0 _ rfl, by rw [← add_field _ _ 1 (by omega)]; exact hc 1 _ rfl, l1, g1⟩
theorem W_mk {w : World} {v : Value} {fp : List Nat} (x : Wr) (h : rB.Row 5 w v x.bytes fp) : rW.P w x [.int .i64 x.block, v] fp := ⟨[.int .i64 x.block], [v], [], fp, rfl, rfl, ⟨rfl, rfl⟩, ⟨v, rfl, h⟩⟩
theorem W_open {w : World} {cs : List Value} {fp : List Nat} {x : Wr} (h : rW.P w x cs fp) : ∃ v, cs = [.int .i64 x.block, v] ∧ rB.Row 5 w v x.bytes fp := by
  obtain ⟨c0, c1, f0, f1, rfl, rfl, ⟨rfl, rfl⟩, ⟨v, rfl, h⟩⟩ := h
  exact ⟨v, rfl, h⟩
theorem take_snoc_g {xs : List (List Int)} {i : Int} (h : i.toNat < xs.length) : xs.take (i.toNat + 1) = xs.take i.toNat ++ [gBS xs i] := by
  rw [List.take_succ_eq_append_getElem h]; simp [gBS, List.getD_eq_getElem?_getD, h]
theorem take_snoc_w {xs : List Wr} {i : Int} (h : i.toNat < xs.length) : xs.take (i.toNat + 1) = xs.take i.toNat ++ [gW xs i] := by
  rw [List.take_succ_eq_append_getElem h]; simp [gW, List.getD_eq_getElem?_getD, h]
def GotDisk (w : World) (bs : List (List Int)) (ws : List Wr) (e : Ending) (w' : World) : Prop :=
  ∃ v0 v1 f0 f1, e = .returned (.agg #[v0, v1]) ∧ rBS.Row 22 w' v0 bs f0 ∧ rW.Row 147 w' v1 ws f1 ∧ (f0 ++ f1).Nodup ∧ (∀ b ∈ f0 ++ f1, w.heap.size ≤ b) ∧ Below w.heap.size w w'
set_option maxHeartbeats 1000000 in
set_option maxRecDepth 100000 in
theorem copyDisk_c (A0 : Option Addr) (c0 : Nat) (bs : List (List Int)) (A1 : Option Addr) (c1 : Nat) (ws : List Wr) (w : World) (hb : rBS.d.C w A0 bs.length bs) (hw : rW.d.C w A1 ws.length ws)
    (hm : bs.length ≤ 1000) (hm1 : ws.length ≤ 1000) (hm2 : ∀ x ∈ bs, x.length ≤ 1000) (hm3 : ∀ x ∈ ws, x.bytes.length ≤ 1000) :
    Calls Try.prog 115 #[.agg #[.slice A0 bs.length c0, .slice A1 ws.length c1]] w (GotDisk w bs ws) := by
  have HX := Aside0.mk hb; have HY := Aside0.mk hw; clear hb hw
  have HM := Aside0.mk hm; have HM1 := Aside0.mk hm1; have HM2 := Aside0.mk hm2; have HM3 := Aside0.mk hm3; clear hm hm1 hm2 hm3
  go_enter Try.func115, Try.ntmps115
  go_wp2
  generalize hw1 : World.alloc (World.alloc (World.alloc w _) _) _ = w1
  obtain ⟨K1, K2, K3, hB, _⟩ := alloc3 hw1
  clear hw1
  have BK1 := Aside0.mk K1; have BK2 := Aside0.mk K2; have BK3 := Aside0.mk K3; have HB := Aside0.mk hB; clear K1 K2 K3 hB
  go_loopg [11] bs.length (fun k v wr => ∃ (i : Int) (u : Value) (f0 : List Nat), v = .int .i64 i ∧ Aside0 (0 ≤ i ∧ i ≤ bs.length ∧ bs.length - i.toNat ≤ k) ∧ Aside0 (rBS.Row 22 wr u (bs.take i.toNat) f0) ∧ Aside0 (f0.Nodup ∧ ∀ b ∈ f0, w.heap.size ≤ b)
     ∧ Aside0 (wr.heap[w.heap.size]? = some (Obj.cells #[Value.slice A0 bs.length c0, Value.slice A1 ws.length c1] 43)) ∧ Aside0 (wr.heap[w.heap.size + 1]? = some (Obj.cells #[Value.slice none 0 0, Value.slice none 0 0] 43)) ∧ Aside0 (wr.heap[w.heap.size + 1 + 1]? = some (Obj.cells #[u, Value.slice none 0 0] 43)) ∧ Aside0 (Below w.heap.size w wr))
  case atStart => exact ⟨0, _, [], rfl, ⟨by simp⟩, ⟨Rp.Row_nil _ _ _⟩, ⟨by simp⟩, BK1, BK2, BK3, HB⟩
  case round =>
    clear BK1 BK2 BK3 HB
    obtain ⟨i, u, f0, rfl, HI, HO, HF, BK1, BK2, BK3, HB⟩ := hrel
    by_cases h1 : i < (bs.length : Int)
    · have h0 : 0 ≤ i := HI.out.1
      obtain ⟨ad, Ai, ci, e1, hc1, hl1, hC1⟩ := at_BS (Kd.C_below HX.out HB.out) i h0 h1
      cases e1
      have HC1 := Aside0.mk hC1; have HL1 := Aside0.mk hl1; clear hC1 hl1
      go_wp2
      have HLi : Aside0 ((gBS bs i).length ≤ 1000) := ⟨by have := HM2.out; exact this _ (by unfold gBS; rw [List.getD_eq_getElem?_getD, List.getElem?_eq_getElem (by omega)]; simp)⟩
      refine sta (fun w' => w'.cell? ⟨w.heap.size + 1 + 1, 0, none⟩ = some u) [7] 8 ((blk_cell BK3.out 0).trans rfl) (fun hS => ?_)
      replace HO := Aside0.mk (Rp.Row_drew HO.out)
      replace HC1 := Aside0.mk (Kd.C_drew HC1.out)
      replace BK1 := Aside0.mk (blk_drew BK1.out)
      replace BK2 := Aside0.mk (blk_drew BK2.out)
      replace BK3 := Aside0.mk (blk_drew BK3.out)
      replace HB := Aside0.mk (below_drew HB.out)
      generalize wr.drew = wd at HO HC1 BK1 BK2 BK3 HB hS ⊢
      refine pu 0 1 ?_
      refine pu 2 5 ?_
      refine tk 1 7 hS ?_
      refine on 3 15 (fun K hK => ?_)
      refine ca (cp_c _ _ (gBS bs i) _ HC1.out (by have := HLi.out; omega)) Try.func114 ?_
      rintro e wa ⟨va_, rfl, ⟨fa, hra, hna, hfa⟩, hba⟩
      obtain ⟨Aa, ca_, rfl, _, _⟩ := Rp.Row_reads hra
      refine ⟨_, rfl, nx hK (pw_cell_below hba hS) (fun hS => ?_)⟩
      clear hK K
      refine on 4 31 (fun K hK => ?_)
      refine va ?_
      refine nx hK (pw_cell_below (below_alloc (Below.refl _ _) _) hS) (fun hS => ?_)
      clear hK K
      have HOa := Rp.Row_below HO.out hba
      have BKa := blk_below BK3.out hba
      refine on 5 63 (fun K hK => ?_)
      refine Rp.app_one_step rBS (by rfl) (.tmp 16) (.tmp 19) 40 22 (.slice none 0 0) 24 (by rfl) Try.underlying40 info22 rfl (by decide) (by omega) u (bs.take i.toNat) (gBS bs i) [.slice Aa (gBS bs i).length ca_] (by rfl) (by rfl) HOa ⟨_, rfl, hra⟩ (Rp.nodup_new HF.out.1 hna (Rp.Row_lt HO.out) hfa) (by have := HM.out; have := HI.out; simp; omega) ?_
      intro v1 w2 fp1 hr1 hn1 hf1 hg1
      generalize hL : List.take i.toNat bs ++ [gBS bs i] = L at hr1
      have HL := Aside0.mk hL; clear hL
      obtain ⟨Av, cv, rfl, _, _⟩ := Rp.Row_reads hr1
      obtain ⟨hr3, hk3, kp3⟩ := box_app HOa BKa (by decide) hg1 hr1 0
      have BKw := blk_grown BKa hg1 (Rp.Row_ne HOa (Rp.Row_not HOa BKa (by decide)))
      refine nx hK ((blk_cell BKw 0).trans rfl) (fun hS => ?_)
      clear hK K
      refine pu 6 127 ?_
      refine la 7 255 (fun K hK => ?_)
      have z := blk_frozen BKw 0
      refine st ?_
      refine nl hK (dn ?_)
      clear hK K z hS
      generalize w2.setCell _ _ = wf at hr3 hk3 kp3 ⊢
      have kp : Kp wd wf (f0 ++ [w.heap.size + 1 + 1]) := ((Kp.below hba).mono (by simp)).trans kp3 (fun b hb _ => hb)
      have BK1 := Aside0.mk (kp.blk BK1.out (by have := Rp.Row_not HO.out BK1.out (by decide); simp; exact ⟨this, by omega⟩))
      have BK2 := Aside0.mk (kp.blk BK2.out (by have := Rp.Row_not HO.out BK2.out (by decide); simp; exact this))
      have HB1 := Aside0.mk (kp.toBelow HB.out HB.out.size (fun b hb => by rcases List.mem_append.1 hb with h | h; exact HF.out.2 b h; simp at h; omega))
      have HF1 : Aside0 (fp1.Nodup ∧ ∀ b ∈ fp1, w.heap.size ≤ b) := ⟨hn1, fun b hb => by
        rcases hf1 b hb with h | h | h
        · exact HF.out.2 b h
        · have := hfa b h; have := HB.out.size; omega
        · have := hba.size; have := HB.out.size; omega⟩
      have HR1 := Aside0.mk hr3; have BK3 := Aside0.mk hk3
      clear hn1 hf1 hg1 hr1 hba hfa hna hra hr3 hk3 kp kp3 HOa BKa BKw HO HB
      go_wp2
      go_roundg (gk - 1)
      case measure => have := HI.out; omega
      case rel =>
        refine ⟨i + 1, _, fp1, ?_, ⟨by have := HI.out; omega, by have := HI.out; omega, by have := HI.out; omega⟩, ?_, HF1, BK1, BK2, BK3, HB1⟩
        · first | rfl | (rw [wrap_succ (by omega) (by have := HM.out; omega)])
        · have := HR1.out; rw [show (i + 1).toNat = i.toNat + 1 by omega]; exact ⟨by rw [take_snoc_g (by have := HI.out; omega), HL.out]; exact this⟩
    · have hi := HI.out
      have e1 : bs.take i.toNat = bs := List.take_of_length_le (by omega)
      replace HO := HO.out; rw [e1] at HO; replace HO := Aside0.mk HO
      clear e1 hi
      have c1_ := (blk_cell BK1.out 1).trans rfl
      go_wp2
      clear c1_
      obtain ⟨wo, hwo⟩ : ∃ wo : World, wo = wr := ⟨_, rfl⟩
      rw [← hwo] at HO BK1 BK2 BK3 HB
      rw [← hwo]
      clear hwo
      go_loopg [26] ws.length (fun k v wr => ∃ (i : Int) (u2 : Value) (f1 : List Nat), v = .int .i64 i ∧ Aside0 (0 ≤ i ∧ i ≤ ws.length ∧ ws.length - i.toNat ≤ k) ∧ Aside0 (rBS.Row 22 wr u bs f0) ∧ Aside0 (rW.Row 147 wr u2 (ws.take i.toNat) f1) ∧ Aside0 ((f0 ++ f1).Nodup ∧ ∀ b ∈ f0 ++ f1, w.heap.size ≤ b)
         ∧ Aside0 (wr.heap[w.heap.size]? = some (Obj.cells #[Value.slice A0 bs.length c0, Value.slice A1 ws.length c1] 43)) ∧ Aside0 (wr.heap[w.heap.size + 1]? = some (Obj.cells #[Value.slice none 0 0, Value.slice none 0 0] 43)) ∧ Aside0 (wr.heap[w.heap.size + 1 + 1]? = some (Obj.cells #[u, u2] 43)) ∧ Aside0 (Below w.heap.size w wr))
      case atStart => exact ⟨0, _, [], rfl, ⟨by simp⟩, HO, ⟨Rp.Row_nil _ _ _⟩, ⟨by simpa using HF.out⟩, BK1, BK2, BK3, HB⟩
      case round =>
        clear BK1 BK2 BK3 HB HO HF
        obtain ⟨i, u2, f1, rfl, HI, HO, HO2, HF, BK1, BK2, BK3, HB⟩ := hrel
        by_cases h1 : i < (ws.length : Int)
        · have h0 : 0 ≤ i := HI.out.1
          obtain ⟨ad, Ai, ci, e1, hc1, hc2, hl1, hC1⟩ := at_W (Kd.C_below HY.out HB.out) i h0 h1
          cases e1
          have HC1 := Aside0.mk hC1; have HL1 := Aside0.mk hl1; clear hC1 hl1
          go_wp2
          have HLi : Aside0 ((gW ws i).bytes.length ≤ 1000) := ⟨by have := HM3.out; exact this _ (by unfold gW; rw [List.getD_eq_getElem?_getD, List.getElem?_eq_getElem (by omega)]; simp)⟩
          have BKe := Aside0.mk (blk_new wr (Obj.cells #[Value.int IntKind.i64 (gW ws i).block, Value.slice Ai (gW ws i).bytes.length ci] 147))
          have HLo := Aside0.mk (Rp.Row_lt HO.out); have HLo2 := Aside0.mk (Rp.Row_lt HO2.out)
          have ne3 : w.heap.size + 1 + 1 < wr.heap.size := blk_lt BK3.out
          replace HO := Aside0.mk (Rp.Row_drew (Rp.Row_alloc HO.out (Obj.cells #[Value.int IntKind.i64 (gW ws i).block, Value.slice Ai (gW ws i).bytes.length ci] 147)))
          replace HO2 := Aside0.mk (Rp.Row_drew (Rp.Row_alloc HO2.out (Obj.cells #[Value.int IntKind.i64 (gW ws i).block, Value.slice Ai (gW ws i).bytes.length ci] 147)))
          replace HC1 := Aside0.mk (Kd.C_drew (Kd.C_alloc HC1.out (Obj.cells #[Value.int IntKind.i64 (gW ws i).block, Value.slice Ai (gW ws i).bytes.length ci] 147)))
          replace BKe := Aside0.mk (blk_drew BKe.out)
          replace BK1 := Aside0.mk (blk_drew (blk_alloc BK1.out (Obj.cells #[Value.int IntKind.i64 (gW ws i).block, Value.slice Ai (gW ws i).bytes.length ci] 147)))
          replace BK2 := Aside0.mk (blk_drew (blk_alloc BK2.out (Obj.cells #[Value.int IntKind.i64 (gW ws i).block, Value.slice Ai (gW ws i).bytes.length ci] 147)))
          replace BK3 := Aside0.mk (blk_drew (blk_alloc BK3.out (Obj.cells #[Value.int IntKind.i64 (gW ws i).block, Value.slice Ai (gW ws i).bytes.length ci] 147)))
          replace HB := Aside0.mk (below_drew (below_then HB.out HB.out.size (below_alloc (Below.refl _ wr) (Obj.cells #[Value.int IntKind.i64 (gW ws i).block, Value.slice Ai (gW ws i).bytes.length ci] 147))))
          clear hc1 hc2
          refine sta (fun w' => w'.cell? ⟨w.heap.size + 1 + 1, 1, none⟩ = some u2 ∧ w'.cell? ⟨wr.heap.size, 0, none⟩ = some (.int .i64 (gW ws i).block) ∧ w'.cell? ⟨wr.heap.size, 1, none⟩ = some (.slice Ai (gW ws i).bytes.length ci)) [11] 12 ⟨(blk_cell BK3.out 1).trans rfl, (blk_cell BKe.out 0).trans rfl, (blk_cell BKe.out 1).trans rfl⟩ (fun hS => ?_)
          generalize hwd : (wr.alloc _).drew = wd at HO HO2 HC1 BKe BK1 BK2 BK3 HB hS ⊢
          clear hwd
          generalize wr.heap.size = gb at HLo HLo2 ne3 BKe hS ⊢
          refine pu 0 1 ?_
          refine pu 2 5 ?_
          refine pu 4 21 ?_
          refine tk 1 23 hS ?_
          refine tk 3 31 hS ?_
          refine tk 5 63 hS ?_
          refine on 6 127 (fun K hK => ?_)
          refine ca (cp_c _ _ (gW ws i).bytes _ HC1.out (by have := HLi.out; omega)) Try.func114 ?_
          rintro e wa ⟨va_, rfl, ⟨fa, hra, hna, hfa⟩, hba⟩
          obtain ⟨Aa, ca_, rfl, _, _⟩ := Rp.Row_reads hra
          refine ⟨_, rfl, nx hK ⟨pw_cell_below hba hS.1, pw_cell_below hba hS.2.1, pw_cell_below hba hS.2.2⟩ (fun hS => ?_)⟩
          clear hK K
          have hSa := hS
          refine pu 7 255 ?_
          refine on 8 511 (fun K hK => ?_)
          refine va ?_
          refine nx hK ⟨pw_cell_below (below_alloc (Below.refl _ _) _) hS.1, pw_cell_below (below_alloc (Below.refl _ _) _) hS.2.1, pw_cell_below (below_alloc (Below.refl _ _) _) hS.2.2⟩ (fun hS => ?_)
          clear hK K
          have HOa := Rp.Row_below HO.out hba
          have HO2a := Rp.Row_below HO2.out hba
          have BKa := blk_below BK3.out hba
          have hnd := List.nodup_append.1 HF.out.1
          refine on 9 1023 (fun K hK => ?_)
          refine Rp.app_one_step rW (by rfl) (.tmp 31) (.tmp 38) 41 147 (.agg #[(.int .i64 0), (.slice none 0 0)]) 32 (by rfl) Try.underlying41 info147 rfl (by decide) (by omega) u2 (ws.take i.toNat) (⟨(gW ws i).block, (gW ws i).bytes⟩ : Wr) [.int .i64 (gW ws i).block, .slice Aa (gW ws i).bytes.length ca_] (by rfl) (by rfl) HO2a (W_mk ⟨(gW ws i).block, (gW ws i).bytes⟩ hra) (Rp.nodup_new hnd.2.1 hna (Rp.Row_lt HO2.out) hfa) (by have := HM1.out; have := HI.out; simp; omega) ?_
          intro v1 w2 fp1 hr1 hn1 hf1 hg1
          generalize hL : List.take i.toNat ws ++ [(⟨(gW ws i).block, (gW ws i).bytes⟩ : Wr)] = L at hr1
          have HL := Aside0.mk hL; clear hL
          obtain ⟨Av, cv, rfl, _, _⟩ := Rp.Row_reads hr1
          obtain ⟨hr3, hk3, kp3⟩ := box_app HO2a BKa (by decide) hg1 hr1 1
          have BKw := blk_grown BKa hg1 (Rp.Row_ne HO2a (Rp.Row_not HO2a BKa (by decide)))
          refine nx hK ?_ (fun hS => ?_)
          · refine ⟨(blk_cell BKw 1).trans rfl, hg1.cell hSa.2.1 ?_, hg1.cell hSa.2.2 ?_⟩
            · exact Rp.Row_ne HO2a (fun h => by have := HLo2.out gb h; omega)
            · exact Rp.Row_ne HO2a (fun h => by have := HLo2.out gb h; omega)
          clear hK K
          refine pu 10 2047 ?_
          refine la 11 4095 (fun K hK => ?_)
          have z := blk_frozen BKw 1
          refine st ?_
          refine nl hK (dn ?_)
          clear hK K z hS hSa
          generalize w2.setCell _ _ = wf at hr3 hk3 kp3 ⊢
          have kp : Kp wd wf (f1 ++ [w.heap.size + 1 + 1]) := ((Kp.below hba).mono (by simp)).trans kp3 (fun b hb _ => hb)
          have n1 := Rp.Row_not HO2.out BK1.out (by decide)
          have n2 := Rp.Row_not HO2.out BK2.out (by decide)
          have n3 := Rp.Row_not HO.out BK3.out (by decide)
          have BK1 := Aside0.mk (kp.blk BK1.out (by simp; exact ⟨n1, by omega⟩))
          have BK2 := Aside0.mk (kp.blk BK2.out (by simp; exact n2))
          have HO1 := Aside0.mk (kp.row HO.out (fun b hb hm => by
            rcases List.mem_append.1 hm with h | h
            · exact hnd.2.2 b hb b h rfl
            · simp at h; exact n3 (h ▸ hb)))
          have HB1 := Aside0.mk (kp.toBelow HB.out HB.out.size (fun b hb => by rcases List.mem_append.1 hb with h | h; exact HF.out.2 b (List.mem_append_right _ h); simp at h; omega))
          have HF1 : Aside0 ((f0 ++ fp1).Nodup ∧ ∀ b ∈ f0 ++ fp1, w.heap.size ≤ b) := ⟨List.nodup_append.2 ⟨hnd.1, hn1, fun a ha b hb he => by
              subst he
              have h5 := Rp.Row_lt HO.out a ha
              rcases hf1 a hb with h | h | h
              · exact hnd.2.2 a ha a h rfl
              · have := hfa a h; omega
              · have := hba.size; omega⟩, fun b hb => by
            rcases List.mem_append.1 hb with h | h
            · exact HF.out.2 b (List.mem_append_left _ h)
            rcases hf1 b h with h | h | h
            · exact HF.out.2 b (List.mem_append_right _ h)
            · have := hfa b h; have := HB.out.size; omega
            · have := hba.size; have := HB.out.size; omega⟩
          have HR1 := Aside0.mk hr3; have BK3 := Aside0.mk hk3
          clear hn1 hf1 hg1 hr1 hba hfa hna hra hr3 hk3 kp kp3 HOa HO2a BKa BKw HO HB n1 n2 n3 hnd
          go_wp2
          go_roundg (gk - 1)
          case measure => have := HI.out; omega
          case rel =>
            refine ⟨i + 1, _, fp1, ?_, ⟨by have := HI.out; omega, by have := HI.out; omega, by have := HI.out; omega⟩, HO1, ?_, HF1, BK1, BK2, BK3, HB1⟩
            · first | rfl | (rw [wrap_succ (by omega) (by have := HM1.out; omega)])
            · have := HR1.out; rw [show (i + 1).toNat = i.toNat + 1 by omega]; exact ⟨by rw [take_snoc_w (by have := HI.out; omega)]; rw [show [gW ws i] = [(⟨(gW ws i).block, (gW ws i).bytes⟩ : Wr)] from rfl, HL.out]; exact this⟩
        · have hi := HI.out
          have e1 : ws.take i.toNat = ws := List.take_of_length_le (by omega)
          replace HO2 := HO2.out; rw [e1] at HO2
          obtain ⟨Av, cv, rfl, _, _⟩ := Rp.Row_reads HO2
          obtain ⟨Au, cu, rfl, _, _⟩ := Rp.Row_reads HO.out
          clear e1 hi
          have c0_ := (blk_cell BK3.out 0).trans rfl
          have c1_ := (blk_cell BK3.out 1).trans rfl
          have c2_ := (blk_cell BK2.out 0).trans rfl
          have c3_ := (blk_cell BK2.out 1).trans rfl
          have z0_ := blk_frozen BK2.out 0
          have z1_ := blk_frozen BK2.out 1
          obtain ⟨K5, kp⟩ := set2 BK2.out (.slice Au bs.length cu) (.slice Av ws.length cv)
          have H2 := Aside0.mk HO2; clear HO2
          have K5 := Aside0.mk K5; have kp := Aside0.mk kp
          go_wp2
          refine bodyPost_ret (results_cell_row rfl _ _ (w.heap.size + 1) 43 #[.slice Au bs.length cu, .slice Av ws.length cv] (0, 0) _ rfl K5.out Try.underlying43 rfl (by kernel_rfl)) rfl ?_
          have n2 := Rp.Row_not HO.out BK2.out (by decide)
          have n3 := Rp.Row_not H2.out BK2.out (by decide)
          exact ⟨_, _, f0, f1, rfl, kp.out.row HO.out (fun b hb h => by simp at h; exact n2 (h ▸ hb)), kp.out.row H2.out (fun b hb h => by simp at h; exact n3 (h ▸ hb)), HF.out.1, HF.out.2, kp.out.toBelow HB.out HB.out.size (fun b hb => by simp at hb; omega)⟩
end Go.Proofs.Ytocdlibnmlcokaa
namespace Go.Proofs.Ytocdlibnmlcokaa
open Go.RowKit Go.Proofs.YtocdlibnmlcokaaW.PrintWords Go.Proofs.YtocdlibnmlcokaaW.PrintLast
set_option linter.unusedVariables false
set_option linter.unusedSimpArgs false
theorem empty_row (w : World) : rB.Row 5 (w.alloc (.cells #[] 5)) (.slice (some ⟨w.heap.size, 0, none⟩) 0 0) [] [w.heap.size] :=
  ⟨[], [], ⟨rfl, .inr ⟨w.heap.size, 0, #[], rfl, Nat.zero_le _, blk_new w _, Nat.le_refl _, by simp [maxLen], rfl, rfl⟩⟩, .nil, rfl⟩
end Go.Proofs.Ytocdlibnmlcokaa
namespace Go.Proofs.Ytocdlibnmlcokaa
open Go.RowKit Go.Proofs.YtocdlibnmlcokaaW.PrintWords Go.Proofs.YtocdlibnmlcokaaW.PrintLast
set_option linter.unusedVariables false
set_option linter.unusedSimpArgs false
def GotApp {α : Type} (r : Rp α) (e : Nat) (w : World) (xs : List α) (fp : List Nat) (en : Ending) (w' : World) : Prop :=
  ∃ v f, en = .returned v ∧ r.Row e w' v xs f ∧ f.Nodup ∧ (∀ b ∈ f, b ∈ fp ∨ w.heap.size ≤ b) ∧ Kp w w' fp
def shTo (v : Int) : Nat → Int
  | 0 => v
  | i + 1 => shTo v i / 256
def lowTo (v : Int) : Nat → List Int
  | 0 => []
  | i + 1 => lowTo v i ++ [shTo v i % 256]
theorem lowTo_len (v : Int) : ∀ i, (lowTo v i).length = i
  | 0 => rfl
  | i + 1 => by simp only [lowTo, List.length_append, lowTo_len v i, List.length_cons, List.length_nil]
set_option maxHeartbeats 1000000 in
set_option maxRecDepth 100000 in
theorem low_c (v0 : Value) (xs : List Int) (fp : List Nat) (v : Int) (k : Nat) (w : World) (hr : rB.Row 5 w v0 xs fp) (hn : fp.Nodup) (hl : xs.length ≤ 1000) (hk : k ≤ 8) :
    Calls Try.prog 148 #[v0, .int .u64 v, .int .i64 k] w (GotApp rB 5 w (xs ++ lowTo v k) fp) := by
  have HR := Aside0.mk hr; have HN := Aside0.mk hn; clear hr hn
  go_enter Try.func148, Try.ntmps148
  go_wp2
  go_loopg [0, 1, 8] k (fun m vu vv vi wr => ∃ (i : Int) (f0 : List Nat), vi = .int .i64 i ∧ vv = .int .u64 (shTo v i.toNat) ∧ Aside0 (0 ≤ i ∧ i ≤ k ∧ k - i.toNat ≤ m) ∧ Aside0 (rB.Row 5 wr vu (xs ++ lowTo v i.toNat) f0) ∧ Aside0 (f0.Nodup ∧ ∀ b ∈ f0, b ∈ fp ∨ w.heap.size ≤ b) ∧ Aside0 (Kp w wr fp))
  case atStart => exact ⟨0, fp, rfl, rfl, ⟨by simp⟩, ⟨by simpa [lowTo] using HR.out⟩, ⟨HN.out, fun b hb => .inl hb⟩, ⟨(Kp.below (Below.refl _ w)).mono (by simp)⟩⟩
  case round =>
    obtain ⟨i, f0, rfl, rfl, HI, HO, HF, HK⟩ := hrel
    by_cases h1 : i < (k : Int)
    · have h0 : 0 ≤ i := HI.out.1
      have hi2 : i.toNat ≤ 8 := by have := HI.out; omega
      go_wp2_with (at_builtin; go_loud (refine Rp.app_one rB rfl (.tmp 10) (.tmp 13) 22 5 (.int .u8 0) 1 rfl Try.underlying22 info5 rfl (by decide) (by decide) _ _ (shTo v i.toNat % 256) _ rfl rfl HO.out (fpx := []) ⟨rfl, rfl⟩ (by simpa using HF.out.1) (by have := lowTo_len v i.toNat; simp; omega) ?_); intro v1 w1 fp1 hr hn hf hg; have HR1 := Aside0.mk hr; have HN1 := Aside0.mk hn; have HF1 := Aside0.mk hf; have HG1 := Aside0.mk hg; clear hr hn hf hg)
      go_roundg (gk - 1)
      case measure => have := HI.out; omega
      case rel =>
        refine ⟨i + 1, fp1, ?_, ?_, ⟨by have := HI.out; omega, by have := HI.out; omega, by have := HI.out; omega⟩, ⟨?_⟩, ⟨HN1.out, fun b hb => ?_⟩, ⟨?_⟩⟩
        · first | rfl | (rw [wrap_succ (by omega) (by omega)])
        · rw [show (i + 1).toNat = i.toNat + 1 by omega]; rfl
        · have := HR1.out; rw [List.append_assoc] at this; rw [show (i + 1).toNat = i.toNat + 1 by omega]; exact this
        · rcases HF1.out b hb with h | h | h
          · exact HF.out.2 b h
          · cases h
          · exact .inr (Nat.le_trans HK.out.size h)
        · refine HK.out.trans ((Kp.grown HG1.out).mono (S' := f0) (fun b hb _ => ?_)) (fun b hb hlt => ?_)
          · exact Rp.Row_block HO.out (Option.mem_toList.1 hb)
          · rcases HF.out.2 b hb with h | h
            · exact h
            · omega
    · have e1 : i.toNat = k := by have := HI.out; omega
      rw [e1] at HO
      go_wp2
      go_ret
      exact ⟨_, f0, rfl, HO.out, HF.out.1, HF.out.2, HK.out⟩
end Go.Proofs.Ytocdlibnmlcokaa
namespace Go.Proofs.Ytocdlibnmlcokaa
open Go.RowKit Go.Proofs.YtocdlibnmlcokaaW.PrintWords Go.Proofs.YtocdlibnmlcokaaW.PrintLast
set_option linter.unusedVariables false
set_option linter.unusedSimpArgs false
def step8 (v x : Int) : Int := bits BinOp.or IntKind.u64 (IntKind.u64.wrap (v * 256)) (IntKind.u64.wrap x)
def numL : List Int → Int
  | [] => 0
  | x :: r => step8 (numL r) x
theorem numL_drop (xs : List Int) {i : Int} (h0 : 0 ≤ i) (h1 : i < xs.length) : numL (xs.drop i.toNat) = step8 (numL (xs.drop (i + 1).toNat)) (rd xs i) := by
  rw [List.drop_eq_getElem_cons (by omega : i.toNat < xs.length), show (i + 1).toNat = i.toNat + 1 by omega]
  simp only [numL]
  rw [rd_eq (by omega)]
def sumTo (xs : List Int) : Nat → Int
  | 0 => 0
  | i + 1 => if i = 1 then sumTo xs i else IntKind.u8.wrap (sumTo xs i + rd xs i)
set_option maxHeartbeats 1000000 in
theorem num_c (A : Option Addr) (c : Nat) (xs : List Int) (w : World) (hx : kB.C w A xs.length xs) :
    Calls Try.prog 162 #[.slice A xs.length c] w (fun e w' => e = .returned (.int .u64 (numL xs)) ∧ w' = w) := by
  have hl : xs.length ≤ 9223372036854775807 := hx.2.1
  have HX := Aside0.mk hx; clear hx
  go_enter Try.func162, Try.ntmps162
  go_wp2
  go_loopg [3, 4] xs.length (fun m vv vi wr => ∃ i : Int, vi = .int .i64 i ∧ vv = .int .u64 (numL (xs.drop (i + 1).toNat)) ∧ Aside0 (-1 ≤ i ∧ i < xs.length ∧ (i + 1).toNat ≤ m) ∧ wr = w)
  case atStart => exact ⟨xs.length - 1, rfl, by rw [List.drop_of_length_le (by omega)]; rfl, ⟨by omega⟩, rfl⟩
  case round =>
    obtain ⟨i, rfl, rfl, HI, rfl⟩ := hrel
    by_cases h1 : 0 ≤ i
    · have h0 : i < xs.length := HI.out.2.1
      obtain ⟨ad, e1, c1⟩ := Kd.at_int HX.out i h1 h0
      cases e1
      go_wp2
      go_roundg (gk - 1)
      case measure => have := HI.out; omega
      case rel =>
        refine ⟨i - 1, rfl, ?_, ⟨by omega, by omega, by have := HI.out; omega⟩, rfl⟩
        rw [show (i - 1 + 1).toNat = i.toNat by omega, numL_drop xs h1 h0]
        rfl
    · have hi := HI.out
      have e2 : (i + 1).toNat = 0 := by omega
      rw [e2]
      clear hi
      go_wp2
      go_ret
      exact ⟨rfl, rfl⟩
set_option maxHeartbeats 1000000 in
theorem check_c (A : Option Addr) (c : Nat) (xs : List Int) (w : World) (hx : kB.C w A xs.length xs) :
    Calls Try.prog 149 #[.slice A xs.length c] w (fun e w' => e = .returned (.int .u8 (sumTo xs xs.length)) ∧ w' = w) := by
  have hl : xs.length ≤ 9223372036854775807 := hx.2.1
  have HX := Aside0.mk hx; clear hx
  go_enter Try.func149, Try.ntmps149
  go_wp2
  go_loopg [3, 8] xs.length (fun m vv vi wr => ∃ i : Int, vi = .int .i64 i ∧ vv = .int .u8 (sumTo xs i.toNat) ∧ Aside0 (0 ≤ i ∧ i ≤ xs.length ∧ xs.length - i.toNat ≤ m) ∧ wr = w)
  case atStart => exact ⟨0, rfl, rfl, ⟨by simp⟩, rfl⟩
  case round =>
    obtain ⟨i, rfl, rfl, HI, rfl⟩ := hrel
    by_cases h1 : i < (xs.length : Int)
    · have h0 : 0 ≤ i := HI.out.1
      obtain ⟨ad, e1, c1⟩ := Kd.at_int HX.out i h0 h1
      cases e1
      have hs : sumTo xs (i.toNat + 1) = if i = 1 then sumTo xs i.toNat else IntKind.u8.wrap (sumTo xs i.toNat + rd xs i) := by
        simp only [sumTo]
        by_cases e : i = 1
        · subst e; rfl
        · rw [if_neg e, if_neg (by omega)]; rfl
      have HS := Aside0.mk hs
      clear hs
      by_cases e : i = 1
      · have e1 : i ≤ 1 := by omega
        have e2 : 1 ≤ i := by omega
        clear e
        go_wp2
        go_roundg (gk - 1)
        case measure => have := HI.out; omega
        case rel => exact ⟨i + 1, rfl, by rw [show (i + 1).toNat = i.toNat + 1 by omega, HS.out, if_pos (by omega)], ⟨by omega, by omega, by have := HI.out; omega⟩, rfl⟩
      · go_wp2
        go_roundg (gk - 1)
        case measure => have := HI.out; omega
        case rel => exact ⟨i + 1, rfl, by rw [show (i + 1).toNat = i.toNat + 1 by omega, HS.out, if_neg e]; rfl, ⟨by omega, by omega, by have := HI.out; omega⟩, rfl⟩
    · have e2 : i.toNat = xs.length := by have := HI.out; omega
      rw [e2]
      go_wp2
      go_ret
      exact ⟨rfl, rfl⟩
end Go.Proofs.Ytocdlibnmlcokaa
namespace Go.Proofs.Ytocdlibnmlcokaa
open Go.RowKit Go.Proofs.YtocdlibnmlcokaaW.PrintWords Go.Proofs.YtocdlibnmlcokaaW.PrintLast
set_option linter.unusedVariables false
theorem flat_set {n : Nat} (u : Value) : ∀ {css : List (List Value)}, (∀ c ∈ css, c.length = n) → ∀ (i j : Nat) (hi : i < css.length), j < n → css.flatten.set (i * n + j) u = (css.set i (css[i].set j u)).flatten
  | [], _, i, j, hi, _ => by simp at hi
  | c :: css, h, i, j, hi, hj => by
    have hc := h c List.mem_cons_self
    cases i with
    | zero => simp [hc, hj]
    | succ i =>
      have := flat_set (n := n) u (css := css) (fun c hc => h c (List.mem_cons_of_mem _ hc)) i j (by simpa using hi) hj
      simp only [List.flatten_cons, List.set_cons_succ, List.getElem_cons_succ]
      rw [← this, List.set_append, hc, if_neg (by rw [Nat.succ_mul]; omega)]
      congr 2
      rw [Nat.succ_mul]; omega
theorem flat_at {n : Nat} {css : List (List Value)} (h : ∀ c ∈ css, c.length = n) {i : Nat} (hi : i < css.length) {j : Nat} {u : Value} (hu : css[i][j]? = some u) : css.flatten[i * n + j]? = some u := by
  have e := Rp.flat_get h i hi
  have hj : j < n := by
    have := (List.getElem?_eq_some_iff.1 hu).1
    rwa [h _ (List.getElem_mem hi)] at this
  rw [← e, List.getElem?_take, if_pos hj, List.getElem?_drop] at hu
  exact hu
theorem mem_set_flat {fps : List (List Nat)} {i : Nat} {f : List Nat} {b : Nat} (hb : b ∈ (fps.set i f).flatten) : b ∈ fps.flatten ∨ b ∈ f := by
  obtain ⟨g, hg, hbg⟩ := List.mem_flatten.1 hb
  rcases List.mem_or_eq_of_mem_set hg with h | h
  · exact .inl (List.mem_flatten.2 ⟨g, h, hbg⟩)
  · exact .inr (h ▸ hbg)
theorem nodup_set_flat {f : List Nat} : ∀ {fps : List (List Nat)} {i : Nat}, fps.flatten.Nodup → f.Nodup → (∀ b ∈ f, b ∉ fps.flatten) → (fps.set i f).flatten.Nodup
  | [], i, h, _, _ => by simp
  | g :: fps, i, h, hf, hd => by
    rw [List.flatten_cons, List.nodup_append] at h
    cases i with
    | zero =>
      rw [List.set_cons_zero, List.flatten_cons, List.nodup_append]
      exact ⟨hf, h.2.1, fun a ha b hb he => hd a ha (by rw [he]; exact List.mem_append_right _ hb)⟩
    | succ i =>
      rw [List.set_cons_succ, List.flatten_cons, List.nodup_append]
      refine ⟨h.1, nodup_set_flat h.2.1 hf (fun b hb hm => hd b hb (List.mem_append_right _ hm)), fun a ha b hb he => ?_⟩
      rcases mem_set_flat hb with hb | hb
      · exact h.2.2 a ha b hb he
      · exact hd b hb (by rw [← he]; exact List.mem_append_left _ ha)
theorem nodup_flat_mem : ∀ {fps : List (List Nat)} {f : List Nat}, fps.flatten.Nodup → f ∈ fps → f.Nodup
  | [], _, _, h => by simp at h
  | g :: fps, f, hn, h => by
    rw [List.flatten_cons, List.nodup_append] at hn
    rcases List.mem_cons.1 h with rfl | h
    · exact hn.1
    · exact nodup_flat_mem hn.2.1 h
theorem nodup_flat_ne : ∀ {fps : List (List Nat)} {i j : Nat} (hi : i < fps.length) (hj : j < fps.length) {b : Nat}, fps.flatten.Nodup → i ≠ j → b ∈ fps[i] → b ∉ fps[j]
  | [], i, _, hi, _, _, _, _, _ => by simp at hi
  | g :: fps, i, j, hi, hj, b, hn, hne, hb => by
    rw [List.flatten_cons, List.nodup_append] at hn
    intro hbj
    cases i with
    | zero =>
      cases j with
      | zero => omega
      | succ j => exact hn.2.2 b hb b (List.mem_flatten.2 ⟨_, List.getElem_mem (by simpa using hj), hbj⟩) rfl
    | succ i =>
      cases j with
      | zero => exact hn.2.2 b hbj b (List.mem_flatten.2 ⟨_, List.getElem_mem (by simpa using hi), hb⟩) rfl
      | succ j => exact nodup_flat_ne (by simpa using hi) (by simpa using hj) hn.2.1 (by omega) hb hbj
namespace Rp
section
variable {α : Type} {r : Rp α} {e g cap n : Nat} {w w1 : World} {v : Value} {xs : List α} {fp : List Nat}
theorem Row_form (h : r.Row e w v xs fp) (hn : 0 < xs.length) : ∃ g cap, v = .slice (some ⟨g, 0, none⟩) xs.length cap ∧ g ∈ fp ∧ xs.length ≤ cap := by
  obtain ⟨css, fps, ho, ha, rfl⟩ := h
  rcases ho.2 with ⟨rfl, h0⟩ | ⟨g, cap, cur, rfl, _, _, hc, _⟩
  · omega
  · exact ⟨g, cap, rfl, by simp [Value.ownBlock], hc⟩
theorem Row_elem (h : r.Row e w (.slice (some ⟨g, 0, none⟩) n cap) xs fp) (hnd : fp.Nodup) (i : Nat) (hi : i < xs.length) :
    ∃ cs f, r.P w xs[i] cs f ∧ f.Nodup ∧ (∀ b ∈ f, b ∈ fp ∧ b ≠ g) ∧ g ∈ fp ∧ (∀ j u, cs[j]? = some u → w.cell? ⟨g, i * r.d.sz + j, none⟩ = some u) ∧ (∀ j, w.frozen? ⟨g, j, none⟩ = false)
      ∧ (∀ w' x', Kp w w' f → r.P w' x' cs f → r.Row e w' (.slice (some ⟨g, 0, none⟩) n cap) (xs.set i x') fp)
      ∧ (∀ j u x' f', j < r.d.sz → r.P (w.setCell ⟨g, i * r.d.sz + j, none⟩ u) x' (cs.set j u) f' → f'.Nodup → (∀ b ∈ f', b ∈ f ∨ b ∉ fp) → (f' = f ∨ ∀ b ∈ f', b ∉ fp) →
          ∃ fp', r.Row e (w.setCell ⟨g, i * r.d.sz + j, none⟩ u) (.slice (some ⟨g, 0, none⟩) n cap) (xs.set i x') fp' ∧ fp'.Nodup ∧ (∀ b ∈ fp', b ∈ fp ∨ b ∈ f') ∧ (f' = f → fp' = fp)) := by
  obtain ⟨css, fps, ho, ha, rfl⟩ := h
  have hn : n = xs.length := by
    rcases ho.2 with ⟨h0, _⟩ | ⟨g', cap', cur, h0, _⟩
    · injection h0 with h0; cases h0
    · injection h0
  subst hn
  have hl1 := ha.len1
  have hl2 := ha.len2
  have hP := ha.get (i := i) hi (by omega) (by omega)
  have hall := all_len ha
  simp only [Value.ownBlock, Option.toList_some, List.singleton_append] at hnd ⊢
  rw [List.nodup_cons] at hnd
  have hmem : ∀ b ∈ fps[i], b ∈ fps.flatten := fun b hb => List.mem_flatten.2 ⟨_, List.getElem_mem (by omega), hb⟩
  have hndi : fps[i].Nodup := nodup_flat_mem hnd.2 (List.getElem_mem (by omega))
  have hother : ∀ j (hj : j < fps.length), j ≠ i → ∀ b ∈ fps[j], b ∉ fps[i] := fun j hj hne b hb => nodup_flat_ne hj (by omega) hnd.2 hne hb
  have hgf : ∀ f ∈ fps, ∀ b ∈ f, b ≠ g := fun f hf b hb he => hnd.1 (he ▸ List.mem_flatten.2 ⟨f, hf, hb⟩)
  have hlt : ∀ f ∈ fps, ∀ b ∈ f, b < w.heap.size := by
    intro f hf b hb
    obtain ⟨j, hj, rfl⟩ := List.getElem_of_mem hf
    exact P_lt (ha.get (i := j) (by omega) (by omega) hj) b hb
  have hgb : g < w.heap.size := own_lt ho g rfl
  have hAll : ∀ (w' : World) x' cs' f', r.P w' x' cs' f' → (∀ j (hj : j < fps.length), j ≠ i → ∀ b ∈ fps[j], w'.heap[b]? = w.heap[b]?) → All3 (r.P w') (xs.set i x') (css.set i cs') (fps.set i f') := by
    intro w' x' cs' f' hp hsame
    have key : ∀ (xs : List α) (css : List (List Value)) (fps : List (List Nat)) (i : Nat), All3 (r.P w) xs css fps → (∀ j (hj : j < fps.length), j ≠ i → ∀ b ∈ fps[j], w'.heap[b]? = w.heap[b]?) → All3 (r.P w') (xs.set i x') (css.set i cs') (fps.set i f') := by
      intro xs css fps i h
      induction h generalizing i with
      | nil => intro _; exact .nil
      | cons h0 ht ih =>
        intro hs
        cases i with
        | zero =>
          refine .cons hp ?_
          have hz := ht.imp (S := r.P w') (fun a b c hc hP => r.loc hP fun k hk => ?_)
          · exact hz
          · obtain ⟨j, hj, rfl⟩ := List.getElem_of_mem hc
            exact hs (j + 1) (by simp; omega) (by omega) k (by simpa using hk)
        | succ i =>
          refine .cons (r.loc h0 fun k hk => hs 0 (by simp) (by omega) k (by simpa using hk)) (ih i fun j hj hne b hb => hs (j + 1) (by simp; omega) (by omega) b (by simpa using hb))
    exact key xs css fps i ha hsame
  refine ⟨css[i], fps[i], hP, hndi, fun b hb => ⟨List.mem_cons_of_mem _ (hmem b hb), hgf _ (List.getElem_mem (by omega)) b hb⟩, List.mem_cons_self, ?_, fun j => ?_, ?_, ?_⟩
  · intro j u hu
    have := ho.cells (g := g) rfl _ u (flat_at hall (by omega) hu)
    rwa [add_plain] at this
  · obtain ⟨cells, hc⟩ := own_typed ho g rfl
    exact blk_frozen hc j
  · intro w' x' hk hp
    refine ⟨css.set i css[i], fps.set i fps[i], ?_, hAll w' x' _ _ hp ?_, ?_⟩
    · rw [List.set_getElem_self, List.length_set]
      exact own_move ho fun k hk' => by
        have : g = k := by simpa [Value.ownBlock] using hk'
        subst this
        exact hk.block g hgb (fun hm => hgf _ (List.getElem_mem (by omega)) g hm rfl)
    · intro j hj hne b hb
      exact hk.block b (hlt _ (List.getElem_mem hj) b hb) (hother j hj hne b hb)
    · simp [Value.ownBlock]
  · intro j u x' f' hj hp hf' hdis hor
    refine ⟨g :: (fps.set i f').flatten, ⟨css.set i (css[i].set j u), fps.set i f', ?_, hAll _ x' _ _ hp ?_, ?_⟩, ?_, ?_, ?_⟩
    · rw [← flat_set u hall i j (by omega) hj, List.length_set]
      exact (ho.stored _ u).1
    · intro j' hj' hne b hb
      exact Below.heap_setCell w _ u b (hgf _ (List.getElem_mem hj') b hb)
    · simp [Value.ownBlock]
    · rcases hor with h | h
      · subst h
        rw [List.set_getElem_self]
        exact List.nodup_cons.2 hnd
      · refine List.nodup_cons.2 ⟨fun hm => ?_, nodup_set_flat hnd.2 hf' (fun b hb hm => h b hb (List.mem_cons_of_mem _ hm))⟩
        rcases mem_set_flat hm with hm | hm
        · exact hnd.1 hm
        · exact h g hm List.mem_cons_self
    · intro b hb
      rcases List.mem_cons.1 hb with rfl | hb
      · exact .inl List.mem_cons_self
      · rcases mem_set_flat hb with h | h
        · exact .inl (List.mem_cons_of_mem _ h)
        · exact .inr h
    · intro h
      rw [h, List.set_getElem_self]
end
end Rp
end Go.Proofs.Ytocdlibnmlcokaa
namespace Go.Proofs.Ytocdlibnmlcokaa
open Go.RowKit Go.Proofs.YtocdlibnmlcokaaW.PrintWords Go.Proofs.YtocdlibnmlcokaaW.PrintLast
set_option linter.unusedVariables false
set_option linter.unusedSimpArgs false
structure Bx (w : World) (g t : Nat) (cells : Array Value) (wi : World) (v : Value) (xs : List Int) : Prop where
  row : ∃ f, rB.Row 5 wi v xs f ∧ f.Nodup ∧ ∀ b ∈ f, w.heap.size ≤ b
  bel : Below w.heap.size w wi
  box : wi.heap[g]? = some (.cells cells t (0, 0))
theorem lit_row (w : World) (xs : List Int) (hl : xs.length ≤ 1000) : rB.Row 5 (w.alloc (.cells (encs (Value.int .u8) xs).toArray 5)) (.slice (some ⟨w.heap.size, 0, none⟩) xs.length xs.length) xs [w.heap.size] := by
  have h2 := World.ownsRow_lit (base := 0) (e := 5) (size := 1) w (encs (Value.int .u8) xs).toArray xs.length (Nat.zero_le _) (by simp only [maxLen]; omega) (by simp [encs])
  exact Rp.Row_own (enc := Value.int .u8) (h1 := fun _ => rfl) (by simpa using h2)
section
variable {w wi w1 : World} {g t : Nat} {cells : Array Value} {v : Value} {xs ys : List Int}
theorem Bx.lit (hb : Below w.heap.size w wi) (hg : wi.heap[g]? = some (.cells cells t (0, 0))) (ys : List Int) (hl : ys.length ≤ 1000) :
    Bx w g t cells (wi.alloc (.cells (encs (Value.int .u8) ys).toArray 5)) (.slice (some ⟨wi.heap.size, 0, none⟩) ys.length ys.length) ys :=
  ⟨⟨[wi.heap.size], lit_row wi ys hl, by simp, fun b hb' => by have := hb.size; simp at hb'; omega⟩, below_then hb hb.size (below_alloc (Below.refl _ _) _), blk_alloc hg _⟩
theorem Bx.below (h : Bx w g t cells wi v xs) (hb : Below wi.heap.size wi w1) : Bx w g t cells w1 v xs := by
  obtain ⟨⟨f, hr, hn, hf⟩, h2, h3⟩ := h
  exact ⟨⟨f, Rp.Row_below hr hb, hn, hf⟩, below_then h2 h2.size hb, blk_below h3 hb⟩
theorem Bx.got {f f1 : List Nat} (h : Bx w g t cells wi v xs) (ht : t ≠ 5) (hr : rB.Row 5 wi v xs f) (hf : ∀ b ∈ f, w.heap.size ≤ b) {v1 : Value} {ys : List Int} (h1 : rB.Row 5 w1 v1 ys f1) (hn : f1.Nodup) (hf1 : ∀ b ∈ f1, b ∈ f ∨ wi.heap.size ≤ b) (k : Kp wi w1 f) : Bx w g t cells w1 v1 ys := by
  refine ⟨⟨f1, h1, hn, fun b hb => ?_⟩, k.toBelow h.bel h.bel.size hf, k.blk h.box (Rp.Row_not hr h.box (by show t ∉ [5]; simpa using ht))⟩
  rcases hf1 b hb with h2 | h2
  · exact hf b h2
  · have := h.bel.size; omega
theorem Bx.app {f1 : List Nat} (h : Bx w g t cells wi v xs) (ht : t ≠ 5) {v1 : Value} {ys : List Int} (h1 : rB.Row 5 w1 v1 ys f1) (hn : f1.Nodup) (hf1 : ∀ b ∈ f1, b ∈ v.ownBlock.toList ∨ wi.heap.size ≤ b) (hg : wi.grownBy w1 v.ownBlock) : Bx w g t cells w1 v1 ys := by
  obtain ⟨⟨f, hr, hnf, hf⟩, h2, h3⟩ := h
  have e := (Rp.own_Row hr).2
  subst e
  exact Bx.got ⟨⟨_, hr, hnf, hf⟩, h2, h3⟩ ht hr hf h1 hn hf1 (Kp.grown hg)
theorem Bx.form (h : Bx w g t cells wi v xs) : ∃ A c, v = .slice A xs.length c ∧ kB.C wi A xs.length xs := by
  obtain ⟨⟨f, hr, _, _⟩, _, _⟩ := h
  obtain ⟨A, c, e, _, hC⟩ := Rp.Row_reads hr
  exact ⟨A, c, e, hC⟩
theorem Bx.C {A : Option Addr} {n c : Nat} (h : Bx w g t cells wi (.slice A n c) xs) : kB.C wi A xs.length xs := by
  obtain ⟨⟨f, hr, _, _⟩, _, _⟩ := h
  exact (Rp.Row_C hr).2.2
theorem Bx.form1 (h : Bx w g t cells wi v xs) (hn : 0 < xs.length) : ∃ b c, v = .slice (some ⟨b, 0, none⟩) xs.length c ∧ kB.C wi (some ⟨b, 0, none⟩) xs.length xs := by
  obtain ⟨⟨f, hr, _, _⟩, _, _⟩ := h
  obtain ⟨b, c, rfl, _, _⟩ := Rp.Row_form hr hn
  exact ⟨b, c, rfl, (Rp.Row_C hr).2.2⟩
theorem Bx.done (h : Bx w g t cells wi v xs) : Rp.Got rB 5 w.heap.size wi v xs ∧ Below w.heap.size w wi := ⟨h.row, h.bel⟩
end
section
variable {P : Program} {ops : Array Oper} {rest : List Oper} {o : Oper} {a : Act} {Q : Exit → Act → World → Prop} {w W : World} {g t : Nat} {cells : Array Value}
theorem Bx.app_row (ht : t ≠ 5) (hgd : o.guard = none) (s x : Operand)
    (ho : o.op = .call { callee := .builtin .append, args := #[s, x], argTypes := #[22, 22] })
    (v : Value) (xs ys : List Int) (A : Option Addr) (m c : Nat) (hs : a.eval s = v) (hx : a.eval x = .slice A m c)
    (HO : Bx w g t cells W v xs) (HR : kB.C W A m ys) (hl : xs.length + m ≤ 100000)
    (h : ∀ v1 w1, Bx w g t cells w1 v1 (xs ++ ys) → wpList Try.prog ops Q rest (a.put o.dst v1) w1) :
    wpList Try.prog ops Q (o :: rest) a W := by
  obtain ⟨f, hr, hn, hf⟩ := HO.row
  have e := (Rp.own_Row hr).2
  subst e
  refine Rp.app_row (enc := Value.int .u8) (h1 := fun _ => rfl) 0 hgd s x 22 5 (.int .u8 0) 1 ho Try.underlying22 info5 rfl (by omega) v xs ys A m c hs hx hr HR (by omega) ?_
  intro v1 w1 fp1 hr1 hn1 hf1 hg1
  exact h v1 w1 (HO.app ht hr1 hn1 hf1 hg1)
theorem Bx.app_lit {W' : World} (ht : t ≠ 5) (hgd : o.guard = none) (s x : Operand)
    (ho : o.op = .call { callee := .builtin .append, args := #[s, x], argTypes := #[22, 22] })
    (v : Value) (xs ys : List Int) (hy : ys.length ≤ 1000) (HO : Bx w g t cells W v xs) (hW : W' = W.alloc (.cells (encs (Value.int .u8) ys).toArray 5)) (hs : a.eval s = v) (hx : a.eval x = .slice (some ⟨W.heap.size, 0, none⟩) ys.length ys.length)
    (hl : xs.length + ys.length ≤ 100000)
    (h : ∀ v1 w1, Bx w g t cells w1 v1 (xs ++ ys) → wpList Try.prog ops Q rest (a.put o.dst v1) w1) :
    wpList Try.prog ops Q (o :: rest) a W' := by
  subst hW
  exact Bx.app_row ht hgd s x ho v xs ys _ _ _ hs hx (HO.below (below_alloc (Below.refl _ _) _)) (Rp.Row_C (lit_row W ys hy)).2.2 hl h
theorem zeros_eq (m : Nat) : (Builtin.zeroCells (Value.int .u8 0).cells m).toList = encs (Value.int .u8) (List.replicate m 0) := by
  unfold Builtin.zeroCells encs
  rw [List.map_replicate]
  apply List.ext_getElem
  · simp [Value.cells]
  · intro i h1 h2
    simp [Value.cells, Nat.mod_one]
theorem Bx.app_zeros (ht : t ≠ 5) (hgd : o.guard = none) (s x : Operand)
    (ho : o.op = .call { callee := .builtin .append, args := #[s, x], argTypes := #[22, 3] })
    (v : Value) (xs : List Int) (m : Nat) {i : Int} (hs : a.eval s = v) (hx : a.eval x = .int .i64 i) (him : i = m)
    (HO : Bx w g t cells W v xs) (hl : xs.length + m ≤ 100000)
    (h : ∀ v1 w1, Bx w g t cells w1 v1 (xs ++ List.replicate m 0) → wpList Try.prog ops Q rest (a.put o.dst v1) w1) :
    wpList Try.prog ops Q (o :: rest) a W := by
  subst him
  obtain ⟨f, hr, hn, hf⟩ := HO.row
  obtain ⟨hown, e⟩ := Rp.own_Row hr
  subst e
  obtain ⟨i0, hi, hzz⟩ := Option.map_eq_some_iff.1 info5
  simp only [Prod.mk.injEq] at hzz
  obtain ⟨hz0, hz1, hz2⟩ := hzz
  obtain ⟨v1, w1, hrun, h2, hg, hat⟩ := run_append_zeros (P := Try.prog) W 0 22 3 o.type 5 i0 (.int .u8 0) 1 1 Try.underlying22 Try.underlying3 hi hz0 hz1 hz2 rfl (by omega) (by omega) v xs.length _ hown .i64 m (by rw [zeros_eq]; intro u hu; simp [encs] at hu; rw [hu.2]; rfl) (by omega) (Nat.zero_le _)
  rw [zeros_eq] at h2
  have h3 : w1.ownsRow 0 5 1 v1 (xs ++ List.replicate m 0).length (encs (Value.int .u8) (xs ++ List.replicate m 0)) := by
    simpa [encs] using h2
  refine wpList_plain hgd fun K hK => ?_
  unfold Oper.wp execOp
  simp only [ho, resolve, invoke, builtin, Sem.run_bind, Sem.run_pure, Result.andThen_ok, List.map_toArray, List.map_cons, List.map_nil, hs, hx, hrun]
  refine hK _ _ (h v1 w1 (HO.app ht (Rp.Row_own (enc := Value.int .u8) (h1 := fun _ => rfl) h3) (Rp.nodup_toList _) (fun b hb => ?_) hg))
  rcases hat with hat | hat
  · rw [hat] at hb; exact .inl hb
  · rw [hat] at hb; simp at hb; exact .inr (by omega)
end
theorem Bx.low {w wi w1 : World} {g t : Nat} {cells : Array Value} {v : Value} {xs ys : List Int} {f : List Nat} {e : Ending} (h : Bx w g t cells wi v xs) (ht : t ≠ 5) (hr : rB.Row 5 wi v xs f) (hf : ∀ b ∈ f, w.heap.size ≤ b) (hg : GotApp rB 5 wi ys f e w1) : ∃ v1, e = .returned v1 ∧ Bx w g t cells w1 v1 ys := by
  obtain ⟨v1, f1, rfl, h1, h2, h3, h4⟩ := hg
  exact ⟨v1, rfl, h.got ht hr hf h1 h2 h3 h4⟩
theorem Bx.low_c {w wi : World} {g t : Nat} {cells : Array Value} {v0 : Value} {xs : List Int} (h : Bx w g t cells wi v0 xs) (ht : t ≠ 5) (v : Int) (k : Nat) (hl : xs.length ≤ 1000) (hk : k ≤ 8) :
    Calls Try.prog 148 #[v0, .int .u64 v, .int .i64 k] wi (fun e w1 => ∃ v1, e = .returned v1 ∧ Bx w g t cells w1 v1 (xs ++ lowTo v k)) := by
  obtain ⟨f, hr, hn, hf⟩ := h.row
  exact (Ytocdlibnmlcokaa.low_c v0 xs f v k wi hr hn hl hk).mono fun e w1 hg => h.low ht hr hf hg
theorem Bx.set {w wi : World} {g t : Nat} {cells : Array Value} {b n c : Nat} {xs : List Int} (h : Bx w g t cells wi (.slice (some ⟨b, 0, none⟩) n c) xs) (ht : t ≠ 5) {j : Nat} (hj : j < xs.length) (x : Int) :
    Bx w g t cells (wi.setCell ⟨b, j, none⟩ (.int .u8 x)) (.slice (some ⟨b, 0, none⟩) n c) (xs.set j x) ∧ (∃ u, wi.cell? ⟨b, j, none⟩ = some u) ∧ wi.frozen? ⟨b, j, none⟩ = false := by
  obtain ⟨⟨f, hr, hn, hf⟩, hb, hg⟩ := h
  obtain ⟨cs, f0, hP, _, _, hgb, hcell, hfr, _, hst⟩ := Rp.Row_elem hr hn j hj
  obtain ⟨hcs, hf0⟩ := hP
  subst hcs; subst hf0
  have e0 : j * rB.d.sz + 0 = j := Nat.mul_one _
  have c1 := hcell 0 _ rfl
  rw [e0] at c1
  obtain ⟨fp', hr', hn', _, he⟩ := hst 0 (.int .u8 x) x [] (by decide) ⟨rfl, rfl⟩ (by simp) (by simp) (.inl rfl)
  rw [he rfl, e0] at hr'
  have hk := Kp.set wi b j (.int .u8 x)
  have hm : ∀ y ∈ [b], y ∈ f := fun y hy => by simp at hy; subst hy; exact Rp.Row_block hr rfl
  exact ⟨⟨⟨f, hr', hn, hf⟩, hk.toBelow hb hb.size (fun y hy => hf y (hm y hy)), hk.blk hg (fun hm' => Rp.Row_not hr hg (by show t ∉ [5]; simpa using ht) (hm _ hm'))⟩, ⟨_, c1⟩, hfr j⟩
end Go.Proofs.Ytocdlibnmlcokaa
namespace Go.Proofs.Ytocdlibnmlcokaa
open Go.RowKit Go.Proofs.YtocdlibnmlcokaaW.PrintWords Go.Proofs.YtocdlibnmlcokaaW.PrintLast
set_option linter.unusedVariables false
set_option linter.unusedSimpArgs false
section
variable {α : Type} {mk : Int → α → α} {cnt : α → Int}
end
end Go.Proofs.Ytocdlibnmlcokaa
namespace Go.Proofs.Ytocdlibnmlcokaa
open Go.RowKit Go.Proofs.YtocdlibnmlcokaaW.PrintWords Go.Proofs.YtocdlibnmlcokaaW.PrintLast
set_option linter.unusedVariables false
set_option linter.unusedSimpArgs false
theorem gBS_eq {xs : List (List Int)} {i : Int} (h : i.toNat < xs.length) : gBS xs i = xs[i.toNat] := by simp [gBS, List.getD_eq_getElem?_getD, h]
theorem gW_eq {xs : List Wr} {i : Int} (h : i.toNat < xs.length) : gW xs i = xs[i.toNat] := by simp [gW, List.getD_eq_getElem?_getD, h]
end Go.Proofs.Ytocdlibnmlcokaa
namespace Go.Proofs.Ytocdlibnmlcokaa
open Go.RowKit Go.Proofs.YtocdlibnmlcokaaW.PrintWords Go.Proofs.YtocdlibnmlcokaaW.PrintLast
set_option linter.unusedVariables false
set_option linter.unusedSimpArgs false
end Go.Proofs.Ytocdlibnmlcokaa
namespace Go.Proofs.Ytocdlibnmlcokaa
open Go.RowKit Go.Proofs.YtocdlibnmlcokaaW.PrintWords Go.Proofs.YtocdlibnmlcokaaW.PrintLast
set_option linter.unusedVariables false
set_option linter.unusedSimpArgs false
theorem eqT {a b : Int} (h : a = b) : (a == b) = true ∧ (a != b) = false := by simp [h]
theorem eqF {a b : Int} (h : ¬ a = b) : (a == b) = false ∧ (a != b) = true := by simp [h]
def DkOk (bs : List (List Int)) (ws : List Wr) : Prop := bs.length = 128 ∧ ws.length ≤ 200 ∧ (∀ b ∈ bs, b.length = 64) ∧ ∀ x ∈ ws, 0 ≤ x.block ∧ x.block < 128 ∧ x.bytes.length = 64
def YesNo (b : Bool) (w : World) (e : Ending) (w' : World) : Prop := e = .returned (.bool b) ∧ Below w.heap.size w w'
theorem not_b {b : Bool} {p : Prop} (hb : b = true ↔ p) (h : ¬ p) : b = false := by cases b; rfl; exact absurd (hb.1 rfl) h
set_option maxRecDepth 100000 in
set_option maxHeartbeats 2000000 in
theorem implDiskOk_c (A0 A1 : Option Addr) (c0 c1 : Nat) (bs : List (List Int)) (ws : List Wr) (b : Bool) (hb : b = true ↔ DkOk bs ws) (w : World) (hx : rBS.d.C w A0 bs.length bs) (hy : rW.d.C w A1 ws.length ws) :
    Calls Try.prog 108 #[.agg #[.slice A0 bs.length c0, .slice A1 ws.length c1]] w (YesNo b w) := by
  have hb0 := below_alloc (Below.refl w.heap.size w) (.cells #[.slice A0 bs.length c0, .slice A1 ws.length c1] 43)
  have hbk := blk_new w (.cells #[.slice A0 bs.length c0, .slice A1 ws.length c1] 43)
  have hl0 : bs.length ≤ 9223372036854775807 := hx.2.1
  have hl1 : ws.length ≤ 9223372036854775807 := hy.2.1
  have HX := Aside0.mk hx; have HY := Aside0.mk hy; have HBB := Aside0.mk hb; have HB0 := Aside0.mk hb0; have HBK := Aside0.mk hbk; clear hx hy hb hb0 hbk
  by_cases h1 : (bs.length : Int) = 128
  · by_cases h2 : (ws.length : Int) ≤ 200
    · have b1 := eqT h1
      have H1 := Aside0.mk h1; clear h1
      go_enter Try.func108, Try.ntmps108
      go_wp2
      generalize World.alloc w _ = w1 at HB0 HBK ⊢
      clear b1
      go_loopg [20] bs.length (fun m vi wr => ∃ i : Int, vi = .int .i64 i ∧ Aside0 (0 ≤ i ∧ i ≤ bs.length ∧ bs.length - i.toNat ≤ m ∧ ∀ x ∈ bs.take i.toNat, x.length = 64) ∧ Aside0 (wr.heap[w.heap.size]? = some (.cells #[.slice A0 bs.length c0, .slice A1 ws.length c1] 43 (0, 0))) ∧ Aside0 (Below w.heap.size w wr))
      case atStart => exact ⟨0, rfl, ⟨by simp⟩, HBK, HB0⟩
      case round =>
        clear HB0 HBK
        obtain ⟨i, rfl, HI, BK, HB⟩ := hrel
        by_cases hlt : i < (bs.length : Int)
        · have hi0 : 0 ≤ i := HI.out.1
          obtain ⟨ad, E0, d0, hA, k1, _, _⟩ := at_BS (Kd.C_below HX.out HB.out) i hi0 hlt
          cases hA
          have hg := gBS_eq (xs := bs) (i := i) (by omega)
          by_cases he : ((gBS bs i).length : Int) = 64
          · have b2 := eqT he
            have hall : ∀ x ∈ bs.take (i + 1).toNat, x.length = 64 := by
              rw [show (i + 1).toNat = i.toNat + 1 by omega, take_snoc_g (by omega)]
              intro x hx
              rcases List.mem_append.1 hx with h | h
              · exact HI.out.2.2.2 x h
              · simp at h; subst h; omega
            have HA := Aside0.mk hall
            clear hall he hg
            go_wp2
            go_roundg (gk - 1)
            case measure => have := HI.out; omega
            case rel => exact ⟨i + 1, rfl, ⟨by have := HI.out; omega, by have := HI.out; omega, by have := HI.out; omega, HA.out⟩, BK, HB⟩
          · have b2 := eqF he
            have hf := not_b HBB.out (fun hd => he (by rw [hg]; have := hd.2.2.1 _ (List.getElem_mem (l := bs) (n := i.toNat) (by omega)); omega))
            subst hf
            clear he hg
            go_wp2
            go_ret
            exact ⟨rfl, HB.out⟩
        · have hall : ∀ x ∈ bs, x.length = 64 := by have h := HI.out.2.2.2; rwa [List.take_of_length_le (by omega)] at h
          have HALL := Aside0.mk hall; clear hall
          have k1 := (blk_cell BK.out 1).trans rfl
          go_wp2
          clear k1
          obtain ⟨wo, hwo⟩ : ∃ wo : World, wo = wr := ⟨_, rfl⟩
          rw [← hwo] at HB BK
          rw [← hwo]
          clear hwo
          go_loopg [31] ws.length (fun m vi wr => ∃ i : Int, vi = .int .i64 i ∧ Aside0 (0 ≤ i ∧ i ≤ ws.length ∧ ws.length - i.toNat ≤ m ∧ ∀ x ∈ ws.take i.toNat, 0 ≤ x.block ∧ x.block < 128 ∧ x.bytes.length = 64) ∧ Aside0 (Below w.heap.size w wr))
          case atStart => exact ⟨0, rfl, ⟨by simp⟩, HB⟩
          case round =>
            clear HB BK
            obtain ⟨i, rfl, HI, HB⟩ := hrel
            by_cases hlt : i < (ws.length : Int)
            · have hi0 : 0 ≤ i := HI.out.1
              obtain ⟨ad, E0, d0, hA, k1, k2, _, _⟩ := at_W (Kd.C_below HY.out HB.out) i hi0 hlt
              cases hA
              have hg := gW_eq (xs := ws) (i := i) (by omega)
              have HB1 := Aside0.mk (below_then HB.out HB.out.size (below_alloc (Below.refl _ wr) (.cells #[.int .i64 (gW ws i).block, .slice E0 (gW ws i).bytes.length d0] 147)))
              have hno : ¬ (0 ≤ (gW ws i).block ∧ (gW ws i).block < 128 ∧ (gW ws i).bytes.length = 64) → b = false := fun hn => not_b HBB.out (fun hd => hn (by rw [hg]; exact hd.2.2.2 _ (List.getElem_mem (l := ws) (n := i.toNat) (by omega))))
              by_cases ha : 0 ≤ (gW ws i).block
              · by_cases hc : (gW ws i).block < 128
                · by_cases hd : ((gW ws i).bytes.length : Int) = 64
                  · have b3 := eqT hd
                    have hall : ∀ x ∈ ws.take (i + 1).toNat, 0 ≤ x.block ∧ x.block < 128 ∧ x.bytes.length = 64 := by
                      rw [show (i + 1).toNat = i.toNat + 1 by omega, take_snoc_w (by omega)]
                      intro x hx
                      rcases List.mem_append.1 hx with h | h
                      · exact HI.out.2.2.2 x h
                      · simp at h; subst h; omega
                    have HA := Aside0.mk hall
                    clear hall hg hno
                    clear hd
                    go_wp2
                    go_roundg (gk - 1)
                    case measure => have := HI.out; omega
                    case rel => exact ⟨i + 1, rfl, ⟨by have := HI.out; omega, by have := HI.out; omega, by have := HI.out; omega, HA.out⟩, HB1⟩
                  · have b3 := eqF hd
                    have hf := hno (by omega)
                    subst hf
                    clear hd hg hno
                    go_wp2
                    go_ret
                    exact ⟨rfl, HB1.out⟩
                · have hf := hno (by omega)
                  subst hf
                  clear hg hno
                  go_wp2
                  go_ret
                  exact ⟨rfl, HB1.out⟩
              · have hf := hno (by omega)
                subst hf
                clear hg hno
                go_wp2
                go_ret
                exact ⟨rfl, HB1.out⟩
            · have hall : ∀ x ∈ ws, 0 ≤ x.block ∧ x.block < 128 ∧ x.bytes.length = 64 := by have h := HI.out.2.2.2; rwa [List.take_of_length_le (by omega)] at h
              have ht : b = true := HBB.out.2 ⟨by have := H1.out; omega, by omega, HALL.out, hall⟩
              subst ht
              go_wp2
              go_ret
              exact ⟨rfl, HB.out⟩
    · have b1 := eqT h1
      have hf := not_b HBB.out (fun hd => h2 (by have := hd.2.1; omega))
      subst hf
      go_enter Try.func108, Try.ntmps108
      go_wp2
      go_ret
      exact ⟨rfl, HB0.out⟩
  · have b1 := eqF h1
    have hf := not_b HBB.out (fun hd => h1 (by have := hd.1; omega))
    subst hf
    go_enter Try.func108, Try.ntmps108
    go_wp2
    go_ret
    exact ⟨rfl, HB0.out⟩
end Go.Proofs.Ytocdlibnmlcokaa
namespace Go.Proofs.Ytocdlibnmlcokaa
open Go.RowKit Go.Proofs.YtocdlibnmlcokaaW.PrintWords Go.Proofs.YtocdlibnmlcokaaW.PrintLast
set_option linter.unusedVariables false
set_option linter.unusedSimpArgs false
def fillTo {α : Type} (z : α) (xs : List α) (i : Nat) : List α := xs.take i ++ List.replicate (xs.length - i) z
theorem fillTo_len {α : Type} (z : α) (xs : List α) (i : Nat) (h : i ≤ xs.length) : (fillTo z xs i).length = xs.length := by
  simp only [fillTo, List.length_append, List.length_take, List.length_replicate]; omega
theorem fillTo_zero {α : Type} (z : α) (xs : List α) : fillTo z xs 0 = List.replicate xs.length z := by simp [fillTo]
theorem fillTo_end {α : Type} (z : α) (xs : List α) {i : Nat} (h : xs.length ≤ i) : fillTo z xs i = xs := by
  simp [fillTo, List.take_of_length_le h, Nat.sub_eq_zero_of_le h]
theorem fillTo_succ {α : Type} (z : α) (xs : List α) {i : Nat} (h : i < xs.length) : (fillTo z xs i).set i xs[i] = fillTo z xs (i + 1) := by
  have hl : (xs.take i).length = i := by rw [List.length_take]; omega
  unfold fillTo
  rw [List.set_append, hl, if_neg (by omega), Nat.sub_self, show xs.length - i = (xs.length - (i + 1)) + 1 by omega, List.replicate_succ, List.set_cons_zero, List.take_succ_eq_append_getElem h, List.append_assoc]
  rfl
def GotRow {α : Type} (r : Rp α) (e : Nat) (w : World) (xs : List α) (en : Ending) (w' : World) : Prop :=
  ∃ v, en = .returned v ∧ Rp.Got r e w.heap.size w' v xs ∧ Below w.heap.size w w'
end Go.Proofs.Ytocdlibnmlcokaa
namespace Go.Proofs.Ytocdlibnmlcokaa
open Go.RowKit Go.Proofs.YtocdlibnmlcokaaW.PrintWords Go.Proofs.YtocdlibnmlcokaaW.PrintLast
set_option linter.unusedVariables false
set_option linter.unusedSimpArgs false
def PgOk (ok : Bool) (gen : Int) (bytes : List Int) : Prop := ok = true ∧ 1 ≤ gen ∧ gen ≤ 1000000000 ∧ bytes.length ≤ 56
def pre0 (gen : Int) (bytes : List Int) : List Int := ((([76, 0] : List Int) ++ lowTo gen 4) ++ [(bytes.length : Int), 0]) ++ bytes
def preL (gen : Int) (bytes : List Int) : List Int := pre0 gen bytes ++ List.replicate (64 - (pre0 gen bytes).length) 0
def blockL (gen : Int) (bytes : List Int) : List Int := (preL gen bytes).set 1 (sumTo (preL gen bytes) (preL gen bytes).length)
theorem pre0_len (gen : Int) (bytes : List Int) : (pre0 gen bytes).length = 8 + bytes.length := by
  simp only [pre0, List.length_append, lowTo_len, List.length_cons, List.length_nil]
set_option maxHeartbeats 4000000 in
set_option maxRecDepth 100000 in
theorem implPageBlock_yes (A : Option Addr) (c : Nat) (gen : Int) (bytes : List Int) (w : World) (hx : kB.C w A bytes.length bytes) (hok : PgOk true gen bytes) :
    Calls Try.prog 110 #[.agg #[.bool true, .int .i64 gen, .slice A bytes.length c]] w (GotRow rB 5 w (blockL gen bytes)) := by
  have HX := Aside0.mk hx; clear hx
  obtain ⟨_, g1, g2, g3⟩ := hok
  have p3 := pre0_len gen bytes
  have hz : 64 - (pre0 gen bytes).length = 56 - bytes.length := by omega
  have BK := Aside0.mk (blk_new w (.cells #[.bool true, .int .i64 gen, .slice A bytes.length c] 138))
  have HB := Aside0.mk (below_alloc (Below.refl w.heap.size w) (.cells #[.bool true, .int .i64 gen, .slice A bytes.length c] 138))
  go_enter Try.func110, Try.ntmps110
  go_upto_region 1 with (fail)
  generalize w.alloc _ = w0 at BK HB ⊢
  have q0 := (blk_cell BK.out 0).trans rfl; have q1 := (blk_cell BK.out 1).trans rfl; have q2 := (blk_cell BK.out 2).trans rfl
  go_upto_region 4 with (fail)
  have hX : Bx w w.heap.size 138 #[.bool true, .int .i64 gen, .slice A bytes.length c] (w0.alloc (.cells #[.int .u8 76, .int .u8 0] 5)) (.slice (some ⟨w0.heap.size, 0, none⟩) 2 2) [76, 0] := Bx.lit HB.out BK.out [76, 0] (by decide)
  generalize w0.alloc _ = w1 at hX ⊢
  generalize (some (⟨w0.heap.size, 0, none⟩ : Addr)) = B1 at hX ⊢
  have X1 := Aside0.mk hX
  clear hX BK HB q0 q1 q2
  have q1 := (blk_cell X1.out.box 1).trans rfl
  go_wp2_with fail
  refine (X1.out.low_c (by decide) _ 4 (by decide) (by decide)).mono ?_
  rintro e w2 ⟨v2, rfl, hX⟩
  have X2 := Aside0.mk hX
  clear hX X1 q1
  have q2 := (blk_cell X2.out.box 2).trans rfl
  go_upto_region 6 with (at_builtin; go_loud (refine Bx.app_lit (t := 138) (by decide) rfl (.tmp 29) (.tmp 34) rfl v2 _ [(bytes.length : Int), 0] (by simp) X2.out rfl rfl rfl (by simp [lowTo_len]) ?_); intro v3 w3 hX; have X3 := Aside0.mk hX; clear hX)
  clear q2 X2
  have q2 := (blk_cell X3.out.box 2).trans rfl
  go_upto_region 7 with (at_builtin; refine Bx.app_row (t := 138) (by decide) rfl (.tmp 36) (.tmp 38) rfl v3 _ bytes A bytes.length c rfl rfl X3.out (Kd.C_below HX.out X3.out.bel) (by simp [lowTo_len]; omega) ?_; intro v4 w4 hX; have X4 := Aside0.mk hX; clear hX)
  clear q2 X3
  have hX : Bx w w.heap.size 138 #[.bool true, .int .i64 gen, .slice A bytes.length c] w4 v4 (pre0 gen bytes) := X4.out
  clear X4
  obtain ⟨P0, hP⟩ : ∃ P, P = pre0 gen bytes := ⟨_, rfl⟩
  have HP : Aside0 (blockL gen bytes = (P0 ++ List.replicate (64 - P0.length) 0).set 1 (sumTo (P0 ++ List.replicate (64 - P0.length) 0) (P0 ++ List.replicate (64 - P0.length) 0).length)) := ⟨by rw [hP]; rfl⟩
  rw [← hP] at hX p3 hz
  clear hP
  obtain ⟨A4, c4, rfl, _⟩ := hX.form
  have X4 := Aside0.mk hX
  clear hX
  go_upto_region 8 with (at_builtin; go_loud (refine Bx.app_zeros (t := 138) (by decide) rfl (.tmp 40) (.tmp 43) rfl (.slice A4 P0.length c4) P0 (64 - P0.length) rfl rfl (by omega) X4.out (by omega) ?_); intro v5 w5 hX; have X5 := Aside0.mk hX; clear hX)
  clear X4
  have hl : (P0 ++ List.replicate (64 - P0.length) 0).length = 64 := by simp; omega
  replace HP := HP.out
  have hX := X5.out
  clear X5
  generalize P0 ++ List.replicate (64 - P0.length) 0 = P1 at HP hX hl
  obtain ⟨b5, c5, rfl, hC⟩ := hX.form1 (by omega)
  have HP := Aside0.mk HP; have HC := Aside0.mk hC; have X5 := Aside0.mk hX
  obtain ⟨_, ⟨u1, z1⟩, z2⟩ := hX.set (by decide) (j := 1) (by omega) 0
  have hl1 : 1 < P1.length := by omega
  clear hl hX hC p3 hz
  go_wp2_with (go_at_call 149; refine (check_c _ _ _ _ HC.out).mono ?_; rintro e w6 ⟨rfl, rfl⟩)
  go_ret
  obtain ⟨hX, _, _⟩ := X5.out.set (by decide) hl1 (sumTo P1 P1.length)
  rw [HP.out]
  exact ⟨_, rfl, hX.done⟩
set_option maxHeartbeats 4000000 in
theorem implPageBlock_no (A : Option Addr) (c : Nat) (ok : Bool) (gen : Int) (bytes : List Int) (w : World) (hx : bytes.length ≤ 9223372036854775807) (hno : ¬ PgOk ok gen bytes) :
    Calls Try.prog 110 #[.agg #[.bool ok, .int .i64 gen, .slice A bytes.length c]] w (GotRow rB 5 w []) := by
  have BK := Aside0.mk (blk_new w (.cells #[.bool ok, .int .i64 gen, .slice A bytes.length c] 138))
  have HB := Aside0.mk (below_alloc (Below.refl w.heap.size w) (.cells #[.bool ok, .int .i64 gen, .slice A bytes.length c] 138))
  have HN := Aside0.mk hno; clear hno
  go_enter Try.func110, Try.ntmps110
  go_upto_region 1 with (fail)
  generalize w.alloc _ = w0 at BK HB ⊢
  have q0 := (blk_cell BK.out 0).trans rfl; have q1 := (blk_cell BK.out 1).trans rfl; have q2 := (blk_cell BK.out 2).trans rfl
  cases ok with
  | false =>
    go_wp2
    go_ret
    exact ⟨_, rfl, ⟨[], Rp.Row_nil _ _ _, by simp, by simp⟩, HB.out⟩
  | true =>
    by_cases h1 : 1 ≤ gen
    · by_cases h2 : gen ≤ 1000000000
      · have h3 : 56 < bytes.length := by
          have := HN.out
          unfold PgOk at this
          rcases Nat.lt_or_ge 56 bytes.length with h | h
          · exact h
          · exact absurd ⟨rfl, h1, h2, h⟩ this
        go_wp2
        go_ret
        exact ⟨_, rfl, ⟨[], Rp.Row_nil _ _ _, by simp, by simp⟩, HB.out⟩
      · go_wp2
        go_ret
        exact ⟨_, rfl, ⟨[], Rp.Row_nil _ _ _, by simp, by simp⟩, HB.out⟩
    · go_wp2
      go_ret
      exact ⟨_, rfl, ⟨[], Rp.Row_nil _ _ _, by simp, by simp⟩, HB.out⟩
end Go.Proofs.Ytocdlibnmlcokaa
namespace Go.Proofs.Ytocdlibnmlcokaa
open Go Go.RowKit Go.Proofs.YtocdlibnmlcokaaW.PrintWords Go.Proofs.YtocdlibnmlcokaaW.PrintLast
set_option linter.unusedVariables false
section
variable {P : Program} {ops : Array Oper} {Q : Exit → Act → World → Prop} {md : Region.Mode} {S : World → Prop} {ds : List Nat} {n m fuel : Nat} {a a' : Act} {w w1 : World} {Ni Nj Nk : Option Tmp} {oi oj ok : Oper} {v : Value} {K : Act → World → Prop}
theorem tw (i j mi mj : Nat)
    (h1 : ∀ K : Act → World → Prop, Shut (∀ a' w', S w' → (S w' → wpAnyLast P md ops Q S ds fuel (bl n mi) a' w') → K a' w') → if Region.wanted oi (yielded ops a.tmps) = true then Oper.wp P oi a w K Q else K (a.put Ni undef) w)
    (h2 : ∀ K : Act → World → Prop, Shut (∀ a' w', S w' → (S w' → wpAnyLast P md ops Q S ds fuel (bl n mj) a' w') → K a' w') → if Region.wanted oj (yielded ops a.tmps) = true then Oper.wp P oj a w K Q else K (a.put Nj undef) w)
    (hi : ops[i]? = some oi := by simp only [List.getElem?_toArray, List.getElem?_cons_succ, List.getElem?_cons_zero]; rfl) (hj : ops[j]? = some oj := by simp only [List.getElem?_toArray, List.getElem?_cons_succ, List.getElem?_cons_zero]; rfl) (hNi : oi.dst = Ni := by rfl) (hNj : oj.dst = Nj := by rfl)
    (hc : (Region.ready md ops (bl n m) == [i, j] && (bl n m).setIfInBounds i true == bl n mi && (bl n m).setIfInBounds j true == bl n mj) = true := by kernel_rfl) (hdi : i ∉ ds := by decide) (hdj : j ∉ ds := by decide) : wpAnyLast P md ops Q S ds (fuel + 1) (bl n m) a w :=
  two_ _ _ hi hj hNi hNj hc hdi hdj h1 h2
end
end Go.Proofs.Ytocdlibnmlcokaa
namespace Go.Proofs.Ytocdlibnmlcokaa.Math
open Go.RowKit Go.Proofs.YtocdlibnmlcokaaW.PrintWords Go.Proofs.YtocdlibnmlcokaaW.PrintLast
set_option linter.unusedVariables false
set_option linter.unusedSimpArgs false
theorem w64 {x : Int} (h : -9223372036854775808 ≤ x) (h' : x ≤ 9223372036854775807) : wrap64 x = x := by
  unfold wrap64
  omega
theorem rd_nat (l : List Int) (i : Nat) : rd l (i : Int) = l.getD i 0 := by simp [rd]
theorem Ev.succ {α : Type} {g : Nat → Option α} {r : α} (h : Ev (fun k => g (k + 1)) r) : Ev g r := Ev.step (fun _ => rfl) h
theorem Ev.some {α : Type} {r r' : α} (h : r = r') : Ev (fun _ => Option.some r) r' := h ▸ Ev.now r
theorem Ev.ok {α : Type} {g : Option α} {r : α} (h : g = Option.some r) : Ev (fun _ => g) r := h ▸ Ev.now r
theorem getD_mem {α : Type} (l : List α) (i : Nat) (d : α) (h : i < l.length) : l.getD i d ∈ l := by
  simp [List.getD, List.getElem?_eq_getElem h]
def noteOk (t k w : Int) (s : ByteArray) : Bool := decide (0 ≤ t ∧ t ≤ 1000000000 ∧ 0 ≤ k ∧ k ≤ 100 ∧ 0 ≤ w ∧ w ≤ 1000 ∧ s.size ≤ 200)
def lowB (v : Int) : Nat → List Int
  | 0 => []
  | n + 1 => v % 256 :: lowB (v / 256) n
theorem lowB_length (v : Int) (n : Nat) : (lowB v n).length = n := by
  induction n generalizing v with
  | zero => rfl
  | succ n ih => simp [lowB, ih]
def frameM (t k w n : Int) (s : ByteArray) : List Int :=
  if noteOk t k w s = true then [78, (s.size : Int) % 256] ++ lowB t 4 ++ [k] ++ lowB w 2 ++ lowB (n % 18446744073709551616) 8 ++ bytesOf s else []
theorem u64_wrap (x : Int) : IntKind.u64.wrap x = x % 18446744073709551616 := by
  unfold IntKind.wrap
  simp [IntKind.signed, IntKind.bits]
theorem bytesOf_len (s : ByteArray) : (bytesOf s).length = s.size := bytesOf_length s
def checkFrom (i : Nat) (s : Int) : List Int → Int
  | [] => s
  | x :: l => checkFrom (i + 1) (if i = 1 then s else (s + x) % 256) l
def rawPage (g : Int) (l : List Int) : List Int := [76, 0] ++ lowB g 4 ++ [(l.length : Int), 0] ++ l ++ List.replicate (56 - l.length) 0
def pageM (b : Bool) (g : Int) (l : List Int) : List Int :=
  if b = true ∧ 1 ≤ g ∧ g ≤ 1000000000 ∧ l.length ≤ 56 then (rawPage g l).set 1 (checkFrom 0 0 (rawPage g l)) else []
theorem rawPage_len (g : Int) (l : List Int) (h : l.length ≤ 56) : (rawPage g l).length = 64 := by
  simp [rawPage, lowB_length]
  omega
def Bs (l : List Int) : Prop := ∀ x ∈ l, 0 ≤ x ∧ x ≤ 255
theorem Bs.drop {l : List Int} (h : Bs l) (n : Nat) : Bs (l.drop n) := fun x hx => h x (List.mem_of_mem_drop hx)
theorem Bs.take {l : List Int} (h : Bs l) (n : Nat) : Bs (l.take n) := fun x hx => h x (List.mem_of_mem_take hx)
theorem Bs.append {a b : List Int} (ha : Bs a) (hb : Bs b) : Bs (a ++ b) := fun x hx => (List.mem_append.1 hx).elim (ha x) (hb x)
theorem Bs.getD {l : List Int} (h : Bs l) (i : Nat) : 0 ≤ l.getD i 0 ∧ l.getD i 0 ≤ 255 := by
  by_cases hi : i < l.length
  · exact h _ (getD_mem l i 0 hi)
  · simp [List.getD, List.getElem?_eq_none (Nat.le_of_not_lt hi)]
def numM : List Int → Int
  | [] => 0
  | x :: l => x + 256 * numM l
theorem numM_nonneg {l : List Int} (h : Bs l) : 0 ≤ numM l := by
  induction l with
  | nil => simp [numM]
  | cons x l ih =>
    have h1 := ih (fun y hy => h y (List.mem_cons_of_mem _ hy))
    have h2 := h x List.mem_cons_self
    simp only [numM]; omega
theorem numM_lt {l : List Int} (h : Bs l) : numM l < 256 ^ l.length := by
  induction l with
  | nil => simp [numM]
  | cons x l ih =>
    have h1 := ih (fun y hy => h y (List.mem_cons_of_mem _ hy))
    have h2 := h x List.mem_cons_self
    simp only [numM, List.length_cons, Int.pow_succ]
    omega
theorem numM_lt7 {l : List Int} (h : Bs l) (hl : l.length < 8) : numM l < 72057594037927936 := by
  have h1 := numM_lt h
  have h2 : ∀ n : Nat, n < 8 → (256 : Int) ^ n ≤ 72057594037927936 := by decide
  have h3 := h2 _ hl
  omega
theorem or_join {v b : Int} (hv : 0 ≤ v) (hv' : v < 72057594037927936) (hb : 0 ≤ b) (hb' : b ≤ 255) : Go.bits .or .u64 (IntKind.u64.wrap (v * 256)) (IntKind.u64.wrap b) = b + 256 * v := by
  rw [u64_wrap, u64_wrap, Int.emod_eq_of_lt (a := v * 256) (by omega) (by omega), Int.emod_eq_of_lt (a := b) (by omega) (by omega)]
  rw [Go.bits_join .u64 64 (by decide) (fun n h0 h1 => by rw [u64_wrap]; exact Int.emod_eq_of_lt h0 h1) 8 (v * 256) b (by omega) (by omega) (by omega) hb (by omega) (by omega)]
  omega
theorem and255 (x : Int) (h0 : 0 ≤ x) (h1 : x < 18446744073709551616) : Go.bits .and .u64 x 255 = x % 256 :=
  Go.bits_mask .u64 64 (by decide) (fun n h0 h1 => by rw [u64_wrap]; exact Int.emod_eq_of_lt h0 h1) 8 (by decide) x h0 h1
def readM (b : List Int) : Bool × Int × Int × Int × Int × ByteArray × Int :=
  let t := numM ((b.take 6).drop 2)
  let w := numM ((b.take 9).drop 7)
  let n := wrap64 (numM ((b.take 17).drop 9))
  let s := strOfNums ((b.take (17 + b.getD 1 0).toNat).drop 17)
  if 17 ≤ b.length ∧ b.getD 0 0 = 78 ∧ 17 + b.getD 1 0 ≤ b.length ∧ noteOk t (b.getD 6 0) w s = true then (true, t, b.getD 6 0, w, n, s, 17 + b.getD 1 0) else (false, 0, 0, 0, 0, (⟨#[]⟩ : ByteArray), 0)
theorem readM_no {b : List Int} (h : ¬ (17 ≤ b.length ∧ b.getD 0 0 = 78 ∧ 17 + b.getD 1 0 ≤ b.length)) : readM b = (false, 0, 0, 0, 0, (⟨#[]⟩ : ByteArray), 0) := by
  unfold readM
  exact if_neg (fun h' => h ⟨h'.1, h'.2.1, h'.2.2.1⟩)
theorem readM_yes {b : List Int} (h1 : 17 ≤ b.length) (h2 : b.getD 0 0 = 78) (h3 : 17 + b.getD 1 0 ≤ b.length) (h4 : noteOk (numM ((b.take 6).drop 2)) (b.getD 6 0) (numM ((b.take 9).drop 7)) (strOfNums ((b.take (17 + b.getD 1 0).toNat).drop 17)) = true) :
    readM b = (true, numM ((b.take 6).drop 2), b.getD 6 0, numM ((b.take 9).drop 7), wrap64 (numM ((b.take 17).drop 9)), strOfNums ((b.take (17 + b.getD 1 0).toNat).drop 17), 17 + b.getD 1 0) := if_pos ⟨h1, h2, h3, h4⟩
def pageOfM (b : List Int) : Bool × Int × List Int :=
  let g := numM ((b.take 6).drop 2)
  let l := (b.take (8 + b.getD 6 0).toNat).drop 8
  if b.length = 64 ∧ b.getD 6 0 ≤ 56 ∧ pageM true g l = b then (true, g, l) else (false, 0, [])
theorem pageOfM_eq {b : List Int} (h1 : b.length = 64) (h2 : b.getD 6 0 ≤ 56) : pageOfM b = if pageM true (numM ((b.take 6).drop 2)) ((b.take (8 + b.getD 6 0).toNat).drop 8) = b then (true, numM ((b.take 6).drop 2), (b.take (8 + b.getD 6 0).toNat).drop 8) else (false, 0, []) := by
  unfold pageOfM
  by_cases h3 : pageM true (numM ((b.take 6).drop 2)) ((b.take (8 + b.getD 6 0).toNat).drop 8) = b
  · rw [if_pos h3]; exact if_pos ⟨h1, h2, h3⟩
  · rw [if_neg h3]; exact if_neg (fun h => h3 h.2.2)
theorem pageOfM_no {b : List Int} (h : ¬ (b.length = 64 ∧ b.getD 6 0 ≤ 56)) : pageOfM b = (false, 0, []) := by
  unfold pageOfM
  exact if_neg (fun h' => h ⟨h'.1, h'.2.1⟩)
theorem toList_inj {a b : ByteArray} (h : a.toList = b.toList) : a = b := by
  rw [ByteArray.toList_eq, ByteArray.toList_eq] at h
  cases a; cases b
  simp_all
theorem strOfNums_inj {a b : List Int} (ha : Bs a) (hb : Bs b) (h : strOfNums a = strOfNums b) : a = b := by
  have h1 : (a.map fun n => UInt8.ofNat n.toNat) = b.map fun n => UInt8.ofNat n.toNat := by
    have := congrArg (fun s : ByteArray => s.data.toList) h
    simpa [strOfNums] using this
  apply List.ext_getElem?
  intro i
  have h2 := congrArg (fun l => l[i]?) h1
  simp only [List.getElem?_map] at h2
  cases ea : a[i]? with
  | none =>
    cases eb : b[i]? with
    | none => rfl
    | some y => rw [ea, eb] at h2; simp at h2
  | some x =>
    cases eb : b[i]? with
    | none => rw [ea, eb] at h2; simp at h2
    | some y =>
      rw [ea, eb] at h2
      simp only [Option.map_some, Option.some.injEq] at h2
      have hx := ha x (List.mem_of_getElem? ea)
      have hy := hb y (List.mem_of_getElem? eb)
      have h3 := congrArg UInt8.toNat h2
      simp only [UInt8.toNat_ofNat'] at h3
      congr 1
      omega
def sumX : Nat → List Int → Int
  | _, [] => 0
  | i, x :: l => (if i = 1 then 0 else x) + sumX (i + 1) l
theorem checkFrom_sum : ∀ (l : List Int) (i : Nat) (s : Int), 0 ≤ s → s ≤ 255 → checkFrom i s l = (s + sumX i l) % 256 := by
  intro l
  induction l with
  | nil => intro i s h0 h1; simp only [checkFrom, sumX]; omega
  | cons x l ih =>
    intro i s h0 h1
    simp only [checkFrom, sumX]
    by_cases h : i = 1
    · rw [if_pos h, if_pos h, ih _ _ h0 h1]; omega
    · rw [if_neg h, if_neg h, ih _ _ (by omega) (by omega)]; omega
theorem sumX_set : ∀ (l : List Int) (i j : Nat) (y : Int), j < l.length → sumX i (l.set j y) = sumX i l + (if i + j = 1 then 0 else y - l.getD j 0) := by
  intro l
  induction l with
  | nil => intro i j y h; simp at h
  | cons x l ih =>
    intro i j y h
    cases j with
    | zero =>
      simp only [List.set_cons_zero, sumX, Nat.add_zero, List.getD_cons_zero]
      by_cases h1 : i = 1
      · simp [h1]
      · simp [h1]; omega
    | succ j =>
      simp only [List.set_cons_succ, sumX, List.getD_cons_succ]
      rw [ih (i + 1) j y (by simpa using h), show i + 1 + j = i + (j + 1) by omega]
      omega
theorem pageM_is {b : Bool} {g : Int} {l x : List Int} (h : pageM b g l = x) (hx : x ≠ []) : x.length = 64 ∧ x.getD 1 0 = checkFrom 0 0 x ∧ b = true ∧ 1 ≤ g ∧ g ≤ 1000000000 ∧ l.length ≤ 56 := by
  unfold pageM at h
  by_cases hc : b = true ∧ 1 ≤ g ∧ g ≤ 1000000000 ∧ l.length ≤ 56
  · rw [if_pos hc] at h
    subst h
    have hl := rawPage_len g l hc.2.2.2
    refine ⟨by rw [List.length_set, hl], ?_, hc⟩
    have h1 : checkFrom 0 0 ((rawPage g l).set 1 (checkFrom 0 0 (rawPage g l))) = checkFrom 0 0 (rawPage g l) := by
      rw [checkFrom_sum _ 0 0 (by omega) (by omega), checkFrom_sum (rawPage g l) 0 0 (by omega) (by omega), sumX_set _ _ _ _ (by omega)]
      simp
    rw [h1]
    simp [List.getD, List.getElem?_set, hl]
  · rw [if_neg hc] at h
    exact absurd h.symm hx
theorem numM_low2 {v : Int} (h0 : 0 ≤ v) (h1 : v < 65536) : numM (lowB v 2) = v := by
  simp only [lowB, numM]; omega
theorem numM_low4 {v : Int} (h0 : 0 ≤ v) (h1 : v < 4294967296) : numM (lowB v 4) = v := by
  simp only [lowB, numM]; omega
theorem numM_low8 {v : Int} (h0 : 0 ≤ v) (h1 : v < 18446744073709551616) : numM (lowB v 8) = v := by
  simp only [lowB, numM]; omega
theorem rawPage_parts (g : Int) (l : List Int) (c : Int) : (rawPage g l).set 1 c = [76, c] ++ lowB g 4 ++ [(l.length : Int), 0] ++ l ++ List.replicate (56 - l.length) 0 := by
  simp [rawPage]
theorem pageOf_pageM {g : Int} {l : List Int} (h1 : 1 ≤ g) (h2 : g ≤ 1000000000) (h3 : l.length ≤ 56) : pageOfM (pageM true g l) = (true, g, l) := by
  have hp : pageM true g l = [76, checkFrom 0 0 (rawPage g l)] ++ lowB g 4 ++ [(l.length : Int), 0] ++ l ++ List.replicate (56 - l.length) 0 := by
    unfold pageM
    rw [if_pos ⟨rfl, h1, h2, h3⟩, rawPage_parts]
  have hlen : (pageM true g l).length = 64 := by rw [hp]; simp [lowB_length]; omega
  have h6 : (pageM true g l).getD 6 0 = l.length := by rw [hp]; simp [lowB]
  have hg : ((pageM true g l).take 6).drop 2 = lowB g 4 := by rw [hp]; simp [lowB]
  have hl : ((pageM true g l).take (8 + (pageM true g l).getD 6 0).toNat).drop 8 = l := by
    rw [h6, show (8 + (l.length : Int)).toNat = 8 + l.length by omega, hp]
    rw [List.take_left' (by simp [lowB_length]; omega)]
    exact List.drop_left' (by simp [lowB_length])
  rw [pageOfM_eq hlen (by rw [h6]; omega), hg, hl, numM_low4 (by omega) (by omega), if_pos rfl]
theorem pageOfM_ok {b : List Int} (h : (pageOfM b).1 = true) : b.length = 64 ∧ pageM true (pageOfM b).2.1 (pageOfM b).2.2 = b := by
  by_cases hc : b.length = 64 ∧ b.getD 6 0 ≤ 56
  · rw [pageOfM_eq hc.1 hc.2] at h ⊢
    by_cases h3 : pageM true (numM ((b.take 6).drop 2)) ((b.take (8 + b.getD 6 0).toNat).drop 8) = b
    · rw [if_pos h3]; exact ⟨hc.1, h3⟩
    · rw [if_neg h3] at h; simp at h
  · rw [pageOfM_no hc] at h; simp at h
theorem pageOf_changed {b : List Int} (h : (pageOfM b).1 = true) (hb : Bs b) (i : Nat) (y : Int) (hi : i < 64) (hy : 0 ≤ y ∧ y ≤ 255) (hne : y ≠ b.getD i 0) : (pageOfM (b.set i y)).1 = false := by
  cases hc : (pageOfM (b.set i y)).1 with
  | false => rfl
  | true =>
    exfalso
    obtain ⟨l1, e1⟩ := pageOfM_ok h
    obtain ⟨l2, e2⟩ := pageOfM_ok hc
    obtain ⟨_, c1, _⟩ := pageM_is e1 (fun e => by rw [e] at l1; simp at l1)
    obtain ⟨_, c2, _⟩ := pageM_is e2 (fun e => by rw [e] at l2; simp at l2)
    have hs := sumX_set b 0 i y (by omega)
    rw [checkFrom_sum _ 0 0 (by omega) (by omega)] at c1 c2
    have hbi := hb.getD i
    have g1 : (b.set i y).getD 1 0 = if i = 1 then y else b.getD 1 0 := by
      by_cases h1 : i = 1
      · subst h1
        rw [if_pos rfl]
        simp [List.getD, List.getElem?_set, l1]
      · rw [if_neg h1]
        simp [List.getD, List.getElem?_set, h1]
    rw [g1] at c2
    by_cases h1 : i = 1
    · subst h1
      rw [if_pos rfl] at c2
      rw [if_pos rfl] at hs
      exact hne (by omega)
    · rw [if_neg h1] at c2
      rw [if_neg (by omega)] at hs
      omega
theorem noteOk_is {t k w : Int} {s : ByteArray} (h : noteOk t k w s = true) : 0 ≤ t ∧ t ≤ 1000000000 ∧ 0 ≤ k ∧ k ≤ 100 ∧ 0 ≤ w ∧ w ≤ 1000 ∧ s.size ≤ 200 := of_decide_eq_true h
theorem strOf_bytesOf (s : ByteArray) : strOfNums (bytesOf s) = s := by
  obtain ⟨⟨l⟩⟩ := s
  simp only [strOfNums, bytesOf, List.map_map]
  congr 2
  have : ((fun n : Int => UInt8.ofNat n.toNat) ∘ fun b : UInt8 => ((b.toNat : Nat) : Int)) = id := by
    funext b
    simp
  rw [this]
  simp
def headM (t k w n : Int) (m : Nat) : List Int := [78, (m : Int)] ++ lowB t 4 ++ [k] ++ lowB w 2 ++ lowB (n % 18446744073709551616) 8
theorem headM_len (t k w n : Int) (m : Nat) : (headM t k w n m).length = 17 := by simp [headM, lowB_length]
theorem frameM_ok {t k w n : Int} {s : ByteArray} (h : noteOk t k w s = true) : frameM t k w n s = headM t k w n s.size ++ bytesOf s := by
  have := noteOk_is h
  unfold frameM headM
  rw [if_pos h, Int.emod_eq_of_lt (a := (s.size : Int)) (by omega) (by omega)]
theorem frameM_size {t k w n : Int} {s : ByteArray} (h : noteOk t k w s = true) : (frameM t k w n s).length = 17 + s.size := by
  rw [frameM_ok h, List.length_append, headM_len, bytesOf_len]
theorem head_gets (t k w n : Int) (m : Nat) (r : List Int) : (headM t k w n m ++ r).getD 0 0 = 78 ∧ (headM t k w n m ++ r).getD 1 0 = m ∧ (headM t k w n m ++ r).getD 6 0 = k ∧
    ((headM t k w n m ++ r).take 6).drop 2 = lowB t 4 ∧ ((headM t k w n m ++ r).take 9).drop 7 = lowB w 2 ∧ ((headM t k w n m ++ r).take 17).drop 9 = lowB (n % 18446744073709551616) 8 := by
  simp [headM, lowB]
theorem readM_frame {t k w n : Int} {s : ByteArray} (h : noteOk t k w s = true) (hn : -9223372036854775808 ≤ n ∧ n ≤ 9223372036854775807) (r : List Int) : readM (frameM t k w n s ++ r) = (true, t, k, w, n, s, 17 + (s.size : Int)) := by
  have ho := noteOk_is h
  rw [frameM_ok h, List.append_assoc]
  obtain ⟨g0, g1, g6, e1, e2, e3⟩ := head_gets t k w n s.size (bytesOf s ++ r)
  have hs : ((headM t k w n s.size ++ (bytesOf s ++ r)).take (17 + (headM t k w n s.size ++ (bytesOf s ++ r)).getD 1 0).toNat).drop 17 = bytesOf s := by
    rw [g1, ← List.append_assoc, List.take_left' (by rw [List.length_append, headM_len, bytesOf_len]; omega)]
    exact List.drop_left' (headM_len ..)
  have hl : (headM t k w n s.size ++ (bytesOf s ++ r)).length = 17 + s.size + r.length := by simp [headM_len, bytesOf_len]; omega
  have h4 : noteOk (numM (((headM t k w n s.size ++ (bytesOf s ++ r)).take 6).drop 2)) ((headM t k w n s.size ++ (bytesOf s ++ r)).getD 6 0) (numM (((headM t k w n s.size ++ (bytesOf s ++ r)).take 9).drop 7)) (strOfNums (((headM t k w n s.size ++ (bytesOf s ++ r)).take (17 + (headM t k w n s.size ++ (bytesOf s ++ r)).getD 1 0).toNat).drop 17)) = true := by
    rw [hs, e1, e2, g6, numM_low4 (by omega) (by omega), numM_low2 (by omega) (by omega), strOf_bytesOf]
    exact h
  rw [readM_yes (by omega) g0 (by rw [g1]; omega) h4, hs, e1, e2, e3, g6, g1, numM_low4 (by omega) (by omega), numM_low2 (by omega) (by omega), numM_low8 (by omega) (by omega), strOf_bytesOf]
  congr 5
  unfold wrap64
  omega
theorem readM_short {t k w n : Int} {s : ByteArray} (h : noteOk t k w s = true) (m : Nat) (hm : m < 17 + s.size) : (readM ((frameM t k w n s).take m)).1 = false := by
  have hl : ((frameM t k w n s).take m).length = m := by rw [List.length_take, frameM_size h]; omega
  rw [readM_no]
  rintro ⟨h1, _, h3⟩
  have g1 : ((frameM t k w n s).take m).getD 1 0 = s.size := by
    have := (head_gets t k w n s.size (bytesOf s)).2.1
    rw [frameM_ok h, ← this]
    simp only [List.getD, List.getElem?_take, if_pos (show 1 < m by omega)]
  rw [g1] at h3
  omega
end Go.Proofs.Ytocdlibnmlcokaa.Math
namespace Go.Proofs.Ytocdlibnmlcokaa
open Go.RowKit Go.Proofs.YtocdlibnmlcokaaW.PrintWords Go.Proofs.YtocdlibnmlcokaaW.PrintLast
set_option linter.unusedVariables false
set_option linter.unusedSimpArgs false
def seg (xs : List Int) (a b : Nat) : List Int := (xs.take b).drop a
theorem seg_len (xs : List Int) {a b : Nat} (hb : b ≤ xs.length) : (seg xs a b).length = b - a := by simp [seg]; omega
theorem mid_c {A : Option Addr} {c : Nat} {xs : List Int} (a b : Int) (x y : Nat) (ha : a.toNat = x) (hb : b.toNat = y) (h0 : 0 ≤ a) (h1 : a ≤ b) (hm : b ≤ xs.length) (hc : xs.length ≤ c) :
    ∃ A' : Option Addr, (∀ W : World, (Instr.slice 22 (.slice A xs.length c) (some (.int .i64 a)) (some (.int .i64 b)) none).run Try.prog W = .ok (.slice A' (seg xs x y).length (c - x)) W) ∧
      (∀ w : World, kB.C w A xs.length xs → kB.C w A' (seg xs x y).length (seg xs x y)) ∧ (seg xs x y).length ≤ c - x := by
  subst ha; subst hb
  obtain ⟨i0, hi, hzz⟩ := Option.map_eq_some_iff.1 info5
  simp only [Prod.mk.injEq] at hzz
  obtain ⟨A', h2, h3, h4⟩ := print_mid_of (P := Try.prog) (Value.int .u8) 0 22 5 .i64 .i64 Try.underlying22 hi hzz.2.1 A c xs a b h0 h1 hm hc
  exact ⟨A', h2, fun w h => Kd.C_of_reads (h1 := fun _ => rfl) (h3 w (Kd.reads_of_C h)), h4⟩
def genOf (b : List Int) : Int := wrap64 (numL (seg b 2 6))
def bytesOf (b : List Int) : List Int := seg b 8 (8 + (rd b 6).toNat)
def PgIs (b : List Int) : Prop := b.length = 64 ∧ rd b 6 ≤ 56 ∧ PgOk true (genOf b) (bytesOf b) ∧ blockL (genOf b) (bytesOf b) = b
def GotPg (w : World) (ok : Bool) (gen : Int) (bytes : List Int) (e : Ending) (w' : World) : Prop :=
  ∃ v f, e = .returned (.agg #[.bool ok, .int .i64 gen, v]) ∧ rB.Row 5 w' v bytes f ∧ f.Nodup ∧ (∀ b ∈ f, w.heap.size ≤ b) ∧ Below w.heap.size w w'
def BsOk (xs : List Int) : Prop := ∀ x ∈ xs, 0 ≤ x ∧ x < 256
theorem BsOk.rd {xs : List Int} (h : BsOk xs) (i : Int) : 0 ≤ rd xs i ∧ rd xs i < 256 := by
  unfold Go.Proofs.YtocdlibnmlcokaaW.PrintWords.rd
  rw [List.getD_eq_getElem?_getD]
  by_cases hi : i.toNat < xs.length
  · rw [List.getElem?_eq_getElem hi]; exact h _ (List.getElem_mem _)
  · rw [List.getElem?_eq_none (by omega)]; simp
theorem got_below {lo : Nat} {w w1 : World} {v : Value} {xs : List Int} (h : Rp.Got rB 5 lo w v xs) (hb : Below w.heap.size w w1) : Rp.Got rB 5 lo w1 v xs := by
  obtain ⟨f, hr, hn, hf⟩ := h
  exact ⟨f, Rp.Row_below hr hb, hn, hf⟩
set_option maxHeartbeats 8000000 in
set_option maxRecDepth 100000 in
theorem implPageOf_y (A : Option Addr) (c : Nat) (b X : List Int) (w : World) (hx : kB.C w A b.length b) (hc : b.length ≤ c) (hb : BsOk b) (h64 : b.length = 64) (h56 : rd b 6 ≤ 56)
    (hp : ∀ (A : Option Addr) (c : Nat) (w : World), kB.C w A (bytesOf b).length (bytesOf b) → Calls Try.prog 110 #[.agg #[.bool true, .int .i64 (genOf b), .slice A (bytesOf b).length c]] w (GotRow rB 5 w X))
    (hs : ((strOfNums X).toList == (strOfNums b).toList) = true) :
    Calls Try.prog 146 #[.slice A b.length c] w (GotPg w true (genOf b) (bytesOf b)) := by
  have hb6 := (hb.rd 6).1
  have hl1 : 63 < b.length := by omega
  have hl2 : b.length ≤ 64 := by omega
  have HX := Aside0.mk hx; have HP := Aside0.mk hp; clear hx hb h64 hp
  have hE2 : wrap64 (8 + wrap64 (rd b 6)) = 8 + rd b 6 := by unfold wrap64; omega
  obtain ⟨A1, hcut1, hC1, hle1⟩ := mid_c (A := A) (c := c) (xs := b) 2 6 2 6 rfl rfl (by omega) (by omega) (by omega) hc
  obtain ⟨A2, hcut2, hC2, hle2⟩ := mid_c (A := A) (c := c) (xs := b) 8 (wrap64 (8 + wrap64 (rd b 6))) 8 _ rfl rfl (by omega) (by omega) (by omega) hc
  have hsg : seg b 8 (wrap64 (8 + wrap64 (rd b 6))).toNat = bytesOf b := by rw [hE2]; unfold bytesOf; congr 1; omega
  rw [hsg] at hcut2 hC2
  have hbl : (bytesOf b).length ≤ 56 := by unfold bytesOf; rw [seg_len b (by omega)]; omega
  clear hE2 hsg
  obtain ⟨ad, e1, c6⟩ := Kd.at_int HX.out 6 (by omega) (by omega)
  cases e1
  have HC1 := Aside0.mk hC1; have HC2 := Aside0.mk hC2; clear hC1 hC2
  simp only [show (6 : Int).toNat = 6 from rfl, Go.Addr.add, Nat.reduceEqDiff, if_false] at c6
  have C6 := Aside0.mk c6
  have BK := Aside0.mk (blk_new w (.cells #[.bool false, .int .i64 0, .slice none 0 0] 138))
  have HB := Aside0.mk (below_alloc (Below.refl w.heap.size w) (.cells #[.bool false, .int .i64 0, .slice none 0 0] 138))
  go_enter Try.func146, Try.ntmps146
  go_upto_region 1 with (fail)
  replace c6 := pw_cell_below HB.out c6
  generalize w.alloc _ = w0 at BK HB c6 ⊢
  go_upto_region 3 with (fail)
  refine sta (fun w' => w'.cell? ⟨ad.block, ad.off + 6, none⟩ = some (.int .u8 (rd b 6))) [] 15 c6 (fun hS => ?_)
  replace BK := Aside0.mk (blk_drew BK.out); replace HB := Aside0.mk (below_drew HB.out)
  clear c6
  generalize w0.drew = w1 at BK HB hS ⊢
  refine pu 0 1 ?_
  refine pu 1 3 ?_
  refine pu 4 19 ?_
  refine pu 5 51 ?_
  refine pu 6 115 ?_
  refine tk 7 243 hS ?_
  refine pu 8 499 ?_
  refine pu 9 1011 ?_
  refine pu 10 2035 ?_
  refine join_ (σ := Value × Nat) 1 (bl 15 16383) (fun s => [(16, .int .u64 (numL (seg b 2 6))), (17, .int .i64 (wrap64 (numL (seg b 2 6)))), (25, s.1), (26, .agg #[.bool true, .int .i64 (wrap64 (numL (seg b 2 6))), s.1]), (3, .pointer (some ⟨s.2, 0, none⟩))]) (fun s w' => w'.cell? ⟨ad.block, ad.off + 6, none⟩ = some (.int .u8 (rd b 6)) ∧ Rp.Got rB 5 w.heap.size w' s.1 (bytesOf b) ∧ w'.heap[w.heap.size]? = some (.cells #[.bool false, .int .i64 0, .slice none 0 0] 138 (0, 0)) ∧ w'.heap[s.2]? = some (.cells #[.bool false, .int .i64 0, .slice none 0 0] 138 (0, 0)) ∧ w.heap.size < s.2 ∧ Below w.heap.size w w') ?_ ?_
  rotate_left
  · intro hCont
    refine tw 2 13 2039 10227 (fun K hK => ?_) (fun K hK => ?_)
    · skip
      refine ca (num_c _ _ _ _ (HC1.out _ (Kd.C_below HX.out HB.out))) Try.func162 ?_
      rintro e wd1 ⟨rfl, hE⟩
      have hE := hE.symm
      subst hE
      refine ⟨_, rfl, nx hK hS (fun hS => ?_)⟩
      clear hK K
      refine pu 3 2047 ?_
      refine tw 11 13 4095 10239 (fun K hK => ?_) (fun K hK => ?_)
      · skip
        refine ca (cp_c _ _ _ _ (HC2.out _ (Kd.C_below HX.out HB.out)) (by omega)) Try.func114 ?_
        rintro e wd2 ⟨v, rfl, ⟨f, hr, hn, hf⟩, hb2⟩
        obtain ⟨A3, c3, rfl, _, _⟩ := Rp.Row_reads hr
        refine ⟨_, rfl, nx hK (pw_cell_below hb2 hS) (fun hS => ?_)⟩
        clear hK K
        have GR0 : Aside0 (Rp.Got rB 5 w.heap.size wd2 (.slice A3 (bytesOf b).length c3) (bytesOf b)) := ⟨⟨f, hr, hn, fun x hx => Nat.le_trans HB.out.size (hf x hx)⟩⟩
        replace BK := Aside0.mk (blk_below BK.out hb2)
        replace HB := Aside0.mk (below_then HB.out HB.out.size hb2)
        have GR := GR0
        clear GR0 hr hn hf hb2
        refine pu 12 8191 ?_
        refine on 13 16383 (fun K hK => ?_)
        refine va ?_
        refine nx hK (pw_cell_below (below_alloc (Below.refl _ _) _) hS) (fun hS => ?_)
        clear hK K
        generalize hg : wd2.heap.size = g at hS ⊢
        generalize hw3 : wd2.alloc _ = wd3 at hS ⊢
        obtain ⟨K3, hb3, hsz⟩ := alloc1 hw3
        clear hw3 hsz
        rw [hg] at K3
        have GW : Aside0 (w.heap.size < g) := ⟨by rw [← hg]; exact blk_lt BK.out⟩
        replace BK := Aside0.mk (blk_below BK.out hb3)
        replace GR := Aside0.mk (got_below GR.out hb3)
        replace HB := Aside0.mk (below_then HB.out HB.out.size hb3)
        have GK := Aside0.mk K3
        clear K3 hb3 hg
        exact norm_ (by simp only [putAll, Act.put, List.setIfInBounds_toArray, List.set_cons_zero, List.set_cons_succ]) (hCont (.slice A3 (bytesOf b).length c3, g) _ ⟨hS, GR.out, BK.out, GK.out, GW.out, HB.out⟩)
      · skip
        refine va ?_
        refine nx hK (pw_cell_below (below_alloc (Below.refl _ _) _) hS) (fun hS => ?_)
        clear hK K
        generalize hg : w1.heap.size = g at hS ⊢
        generalize hw3 : w1.alloc _ = wd4 at hS ⊢
        obtain ⟨K3, hb3, hsz⟩ := alloc1 hw3
        clear hw3 hsz
        rw [hg] at K3
        have GW : Aside0 (w.heap.size < g) := ⟨by rw [← hg]; exact blk_lt BK.out⟩
        replace BK := Aside0.mk (blk_below BK.out hb3)
        replace HB := Aside0.mk (below_then HB.out HB.out.size hb3)
        have GK := Aside0.mk K3
        clear K3 hb3 hg
        refine on 11 12287 (fun K hK => ?_)
        refine ca (cp_c _ _ _ _ (HC2.out _ (Kd.C_below HX.out HB.out)) (by omega)) Try.func114 ?_
        rintro e wd5 ⟨v, rfl, ⟨f, hr, hn, hf⟩, hb2⟩
        obtain ⟨A3, c3, rfl, _, _⟩ := Rp.Row_reads hr
        refine ⟨_, rfl, nx hK (pw_cell_below hb2 hS) (fun hS => ?_)⟩
        clear hK K
        have GR0 : Aside0 (Rp.Got rB 5 w.heap.size wd5 (.slice A3 (bytesOf b).length c3) (bytesOf b)) := ⟨⟨f, hr, hn, fun x hx => Nat.le_trans HB.out.size (hf x hx)⟩⟩
        replace BK := Aside0.mk (blk_below BK.out hb2)
        replace GK := Aside0.mk (blk_below GK.out hb2)
        replace HB := Aside0.mk (below_then HB.out HB.out.size hb2)
        have GR := GR0
        clear GR0 hr hn hf hb2
        refine pu 12 16383 ?_
        exact norm_ (by simp only [putAll, Act.put, List.setIfInBounds_toArray, List.set_cons_zero, List.set_cons_succ]) (hCont (.slice A3 (bytesOf b).length c3, g) _ ⟨hS, GR.out, BK.out, GK.out, GW.out, HB.out⟩)
    · skip
      refine va ?_
      refine nx hK (pw_cell_below (below_alloc (Below.refl _ _) _) hS) (fun hS => ?_)
      clear hK K
      generalize hg : w1.heap.size = g at hS ⊢
      generalize hw3 : w1.alloc _ = wd6 at hS ⊢
      obtain ⟨K3, hb3, hsz⟩ := alloc1 hw3
      clear hw3 hsz
      rw [hg] at K3
      have GW : Aside0 (w.heap.size < g) := ⟨by rw [← hg]; exact blk_lt BK.out⟩
      replace BK := Aside0.mk (blk_below BK.out hb3)
      replace HB := Aside0.mk (below_then HB.out HB.out.size hb3)
      have GK := Aside0.mk K3
      clear K3 hb3 hg
      refine on 2 10231 (fun K hK => ?_)
      refine ca (num_c _ _ _ _ (HC1.out _ (Kd.C_below HX.out HB.out))) Try.func162 ?_
      rintro e wd7 ⟨rfl, hE⟩
      have hE := hE.symm
      subst hE
      refine ⟨_, rfl, nx hK hS (fun hS => ?_)⟩
      clear hK K
      refine pu 3 10239 ?_
      refine on 11 12287 (fun K hK => ?_)
      refine ca (cp_c _ _ _ _ (HC2.out _ (Kd.C_below HX.out HB.out)) (by omega)) Try.func114 ?_
      rintro e wd8 ⟨v, rfl, ⟨f, hr, hn, hf⟩, hb2⟩
      obtain ⟨A3, c3, rfl, _, _⟩ := Rp.Row_reads hr
      refine ⟨_, rfl, nx hK (pw_cell_below hb2 hS) (fun hS => ?_)⟩
      clear hK K
      have GR0 : Aside0 (Rp.Got rB 5 w.heap.size wd8 (.slice A3 (bytesOf b).length c3) (bytesOf b)) := ⟨⟨f, hr, hn, fun x hx => Nat.le_trans HB.out.size (hf x hx)⟩⟩
      replace BK := Aside0.mk (blk_below BK.out hb2)
      replace GK := Aside0.mk (blk_below GK.out hb2)
      replace HB := Aside0.mk (below_then HB.out HB.out.size hb2)
      have GR := GR0
      clear GR0 hr hn hf hb2
      refine pu 12 16383 ?_
      exact norm_ (by simp only [putAll, Act.put, List.setIfInBounds_toArray, List.set_cons_zero, List.set_cons_succ]) (hCont (.slice A3 (bytesOf b).length c3, g) _ ⟨hS, GR.out, BK.out, GK.out, GW.out, HB.out⟩)
  rintro ⟨v, g⟩ wj ⟨hS, GR, BK0, GK, GW, HB0⟩
  clear BK HB
  have GW : w.heap.size < g := GW
  have GK : wj.heap[g]? = some (.cells #[.bool false, .int .i64 0, .slice none 0 0] 138 (0, 0)) := GK
  refine norm_ (a' := ?_) ?_ ?_
  rotate_left
  · simp only [putAll, Act.put, List.setIfInBounds_toArray, List.set_cons_zero, List.set_cons_succ]
    rfl
  obtain ⟨f, hr, hn, hf⟩ := GR
  obtain ⟨A3, c3, rfl, _, _⟩ := Rp.Row_reads hr
  have d0 := (blk_cell GK 0).trans rfl; have d1 := (blk_cell GK 1).trans rfl; have d2 := (blk_cell GK 2).trans rfl
  have z0 := blk_frozen GK 0; have z1 := blk_frozen GK 1; have z2 := blk_frozen GK 2
  obtain ⟨GK2, q3⟩ := set3 GK (.bool true) (.int .i64 (wrap64 (numL (seg b 2 6)))) (.slice A3 (bytesOf b).length c3)
  refine on 14 32767 (fun K hK => ?_)
  refine st ?_
  have HR := Aside0.mk (q3.row hr (fun x hx hm => Rp.Row_not hr GK (by decide) (by simp at hm; exact hm ▸ hx)))
  have BK := Aside0.mk (q3.blk BK0 (by simp; omega))
  have HB := Aside0.mk (q3.toBelow HB0 HB0.size (fun x hx => by simp at hx; omega))
  have GK := Aside0.mk GK2
  have HN := Aside0.mk hn; have HF := Aside0.mk hf
  refine nx hK (pw_cell_below HB.out C6.out) (fun hS => dn ?_)
  clear hK K hS d0 d1 d2 z0 z1 z2 q3 GK2 hr hn hf BK0 HB0
  generalize ((wj.setCell _ _).setCell _ _).setCell _ _ = w3 at HR BK HB GK ⊢
  go_upto_region 4 with (fail)
  have hs1 : ((strOfNums X).toList != (strOfNums b).toList) = false := by simp only [bne, hs]; rfl
  refine sta (fun w' => w'.cell? ⟨g, 0, none⟩ = some (.bool true) ∧ w'.cell? ⟨g, 1, none⟩ = some (.int .i64 (wrap64 (numL (seg b 2 6)))) ∧ w'.cell? ⟨g, 2, none⟩ = some (.slice A3 (bytesOf b).length c3) ∧ (convert 22 9 (.slice (some ad) b.length c)).run Try.prog w' = .ok (.string (strOfNums b)) w') [] 6 ⟨(blk_cell GK.out 0).trans rfl, (blk_cell GK.out 1).trans rfl, (blk_cell GK.out 2).trans rfl, Kd.C_string (P := Try.prog) Try.underlying22 Try.underlying5 Try.underlying9 (Kd.C_drew (Kd.C_below HX.out HB.out))⟩ (fun hS => ?_)
  replace HR := Aside0.mk (Rp.Row_drew HR.out); replace BK := Aside0.mk (blk_drew BK.out); replace HB := Aside0.mk (below_drew HB.out); replace GK := Aside0.mk (blk_drew GK.out)
  generalize w3.drew = w4 at HR BK HB GK hS ⊢
  refine pu 3 8 ?_
  refine tk 0 9 hS ?_ (hr := by rintro w' ⟨s0, s1, s2, s3⟩; go_simp; with_reducible rfl)
  refine tk 4 25 hS ?_ (hr := by rintro w' ⟨s0, s1, s2, s3⟩; go_simp; with_reducible rfl)
  refine on 1 27 (fun K hK => ?_)
  refine ca (HP.out _ _ _ (Rp.Row_C HR.out).2.2) Try.func110 ?_
  rintro e w5 ⟨vX, rfl, ⟨fX, hrX, hnX, hfX⟩, hb5⟩
  obtain ⟨AX, cX, rfl, _, _⟩ := Rp.Row_reads hrX
  replace HR := Aside0.mk (Rp.Row_below HR.out hb5); replace BK := Aside0.mk (blk_below BK.out hb5); replace GK := Aside0.mk (blk_below GK.out hb5); replace HB := Aside0.mk (below_then HB.out HB.out.size hb5)
  have hcv := Kd.C_string (P := Try.prog) (c := cX) Try.underlying22 Try.underlying5 Try.underlying9 (Rp.Row_C hrX).2.2
  clear hb5 hrX hnX hfX
  have hS2 : w5.cell? ⟨g, 0, none⟩ = some (.bool true) ∧ w5.cell? ⟨g, 1, none⟩ = some (.int .i64 (wrap64 (numL (seg b 2 6)))) ∧ w5.cell? ⟨g, 2, none⟩ = some (.slice A3 (bytesOf b).length c3) ∧ (convert 22 9 (.slice (some ad) b.length c)).run Try.prog w5 = .ok (.string (strOfNums b)) w5 := ⟨(blk_cell GK.out 0).trans rfl, (blk_cell GK.out 1).trans rfl, (blk_cell GK.out 2).trans rfl, Kd.C_string (P := Try.prog) Try.underlying22 Try.underlying5 Try.underlying9 (Kd.C_below HX.out HB.out)⟩
  refine ⟨_, rfl, nx hK hS2 (fun hS => ?_)⟩
  clear hK K
  refine on 2 31 (fun K hK => ?_)
  refine va ?_
  clear hcv
  refine nx hK hS2 (fun hS => ?_)
  clear hK K hS2
  refine pu 5 63 ?_
  refine dn ?_
  clear hS
  have y0 := (blk_cell GK.out 0).trans rfl; have y1 := (blk_cell GK.out 1).trans rfl; have y2 := (blk_cell GK.out 2).trans rfl
  have d0 := (blk_cell BK.out 0).trans rfl; have d1 := (blk_cell BK.out 1).trans rfl; have d2 := (blk_cell BK.out 2).trans rfl
  have z0 := blk_frozen BK.out 0; have z1 := blk_frozen BK.out 1; have z2 := blk_frozen BK.out 2
  go_wp2
  obtain ⟨BK2, q⟩ := set3 BK.out (.bool true) (.int .i64 (wrap64 (numL (seg b 2 6)))) (.slice A3 (bytesOf b).length c3)
  refine bodyPost_ret (results_cell_row rfl _ _ w.heap.size 138 #[.bool true, .int .i64 (wrap64 (numL (seg b 2 6))), .slice A3 (bytesOf b).length c3] (0, 0) _ rfl BK2 Try.underlying138 rfl (by kernel_rfl)) rfl ?_
  exact ⟨_, f, rfl, q.row HR.out (fun x hx hm => Rp.Row_not HR.out BK.out (by decide) (by simp at hm; exact hm ▸ hx)), HN.out, HF.out, q.toBelow HB.out HB.out.size (fun x hx => by simp at hx; omega)⟩
set_option maxHeartbeats 8000000 in
set_option maxRecDepth 100000 in
theorem implPageOf_n (A : Option Addr) (c : Nat) (b X : List Int) (w : World) (hx : kB.C w A b.length b) (hc : b.length ≤ c) (hb : BsOk b) (h64 : b.length = 64) (h56 : rd b 6 ≤ 56)
    (hp : ∀ (A : Option Addr) (c : Nat) (w : World), kB.C w A (bytesOf b).length (bytesOf b) → Calls Try.prog 110 #[.agg #[.bool true, .int .i64 (genOf b), .slice A (bytesOf b).length c]] w (GotRow rB 5 w X))
    (hs : ((strOfNums X).toList == (strOfNums b).toList) = false) :
    Calls Try.prog 146 #[.slice A b.length c] w (GotPg w false 0 []) := by
  have hb6 := (hb.rd 6).1
  have hl1 : 63 < b.length := by omega
  have hl2 : b.length ≤ 64 := by omega
  have HX := Aside0.mk hx; have HP := Aside0.mk hp; clear hx hb h64 hp
  have hE2 : wrap64 (8 + wrap64 (rd b 6)) = 8 + rd b 6 := by unfold wrap64; omega
  obtain ⟨A1, hcut1, hC1, hle1⟩ := mid_c (A := A) (c := c) (xs := b) 2 6 2 6 rfl rfl (by omega) (by omega) (by omega) hc
  obtain ⟨A2, hcut2, hC2, hle2⟩ := mid_c (A := A) (c := c) (xs := b) 8 (wrap64 (8 + wrap64 (rd b 6))) 8 _ rfl rfl (by omega) (by omega) (by omega) hc
  have hsg : seg b 8 (wrap64 (8 + wrap64 (rd b 6))).toNat = bytesOf b := by rw [hE2]; unfold bytesOf; congr 1; omega
  rw [hsg] at hcut2 hC2
  have hbl : (bytesOf b).length ≤ 56 := by unfold bytesOf; rw [seg_len b (by omega)]; omega
  clear hE2 hsg
  obtain ⟨ad, e1, c6⟩ := Kd.at_int HX.out 6 (by omega) (by omega)
  cases e1
  have HC1 := Aside0.mk hC1; have HC2 := Aside0.mk hC2; clear hC1 hC2
  simp only [show (6 : Int).toNat = 6 from rfl, Go.Addr.add, Nat.reduceEqDiff, if_false] at c6
  have C6 := Aside0.mk c6
  have BK := Aside0.mk (blk_new w (.cells #[.bool false, .int .i64 0, .slice none 0 0] 138))
  have HB := Aside0.mk (below_alloc (Below.refl w.heap.size w) (.cells #[.bool false, .int .i64 0, .slice none 0 0] 138))
  go_enter Try.func146, Try.ntmps146
  go_upto_region 1 with (fail)
  replace c6 := pw_cell_below HB.out c6
  generalize w.alloc _ = w0 at BK HB c6 ⊢
  go_upto_region 3 with (fail)
  refine sta (fun w' => w'.cell? ⟨ad.block, ad.off + 6, none⟩ = some (.int .u8 (rd b 6))) [] 15 c6 (fun hS => ?_)
  replace BK := Aside0.mk (blk_drew BK.out); replace HB := Aside0.mk (below_drew HB.out)
  clear c6
  generalize w0.drew = w1 at BK HB hS ⊢
  refine pu 0 1 ?_
  refine pu 1 3 ?_
  refine pu 4 19 ?_
  refine pu 5 51 ?_
  refine pu 6 115 ?_
  refine tk 7 243 hS ?_
  refine pu 8 499 ?_
  refine pu 9 1011 ?_
  refine pu 10 2035 ?_
  refine join_ (σ := Value × Nat) 1 (bl 15 16383) (fun s => [(16, .int .u64 (numL (seg b 2 6))), (17, .int .i64 (wrap64 (numL (seg b 2 6)))), (25, s.1), (26, .agg #[.bool true, .int .i64 (wrap64 (numL (seg b 2 6))), s.1]), (3, .pointer (some ⟨s.2, 0, none⟩))]) (fun s w' => w'.cell? ⟨ad.block, ad.off + 6, none⟩ = some (.int .u8 (rd b 6)) ∧ Rp.Got rB 5 w.heap.size w' s.1 (bytesOf b) ∧ w'.heap[w.heap.size]? = some (.cells #[.bool false, .int .i64 0, .slice none 0 0] 138 (0, 0)) ∧ w'.heap[s.2]? = some (.cells #[.bool false, .int .i64 0, .slice none 0 0] 138 (0, 0)) ∧ w.heap.size < s.2 ∧ Below w.heap.size w w') ?_ ?_
  rotate_left
  · intro hCont
    refine tw 2 13 2039 10227 (fun K hK => ?_) (fun K hK => ?_)
    · skip
      refine ca (num_c _ _ _ _ (HC1.out _ (Kd.C_below HX.out HB.out))) Try.func162 ?_
      rintro e wd1 ⟨rfl, hE⟩
      have hE := hE.symm
      subst hE
      refine ⟨_, rfl, nx hK hS (fun hS => ?_)⟩
      clear hK K
      refine pu 3 2047 ?_
      refine tw 11 13 4095 10239 (fun K hK => ?_) (fun K hK => ?_)
      · skip
        refine ca (cp_c _ _ _ _ (HC2.out _ (Kd.C_below HX.out HB.out)) (by omega)) Try.func114 ?_
        rintro e wd2 ⟨v, rfl, ⟨f, hr, hn, hf⟩, hb2⟩
        obtain ⟨A3, c3, rfl, _, _⟩ := Rp.Row_reads hr
        refine ⟨_, rfl, nx hK (pw_cell_below hb2 hS) (fun hS => ?_)⟩
        clear hK K
        have GR0 : Aside0 (Rp.Got rB 5 w.heap.size wd2 (.slice A3 (bytesOf b).length c3) (bytesOf b)) := ⟨⟨f, hr, hn, fun x hx => Nat.le_trans HB.out.size (hf x hx)⟩⟩
        replace BK := Aside0.mk (blk_below BK.out hb2)
        replace HB := Aside0.mk (below_then HB.out HB.out.size hb2)
        have GR := GR0
        clear GR0 hr hn hf hb2
        refine pu 12 8191 ?_
        refine on 13 16383 (fun K hK => ?_)
        refine va ?_
        refine nx hK (pw_cell_below (below_alloc (Below.refl _ _) _) hS) (fun hS => ?_)
        clear hK K
        generalize hg : wd2.heap.size = g at hS ⊢
        generalize hw3 : wd2.alloc _ = wd3 at hS ⊢
        obtain ⟨K3, hb3, hsz⟩ := alloc1 hw3
        clear hw3 hsz
        rw [hg] at K3
        have GW : Aside0 (w.heap.size < g) := ⟨by rw [← hg]; exact blk_lt BK.out⟩
        replace BK := Aside0.mk (blk_below BK.out hb3)
        replace GR := Aside0.mk (got_below GR.out hb3)
        replace HB := Aside0.mk (below_then HB.out HB.out.size hb3)
        have GK := Aside0.mk K3
        clear K3 hb3 hg
        exact norm_ (by simp only [putAll, Act.put, List.setIfInBounds_toArray, List.set_cons_zero, List.set_cons_succ]) (hCont (.slice A3 (bytesOf b).length c3, g) _ ⟨hS, GR.out, BK.out, GK.out, GW.out, HB.out⟩)
      · skip
        refine va ?_
        refine nx hK (pw_cell_below (below_alloc (Below.refl _ _) _) hS) (fun hS => ?_)
        clear hK K
        generalize hg : w1.heap.size = g at hS ⊢
        generalize hw3 : w1.alloc _ = wd4 at hS ⊢
        obtain ⟨K3, hb3, hsz⟩ := alloc1 hw3
        clear hw3 hsz
        rw [hg] at K3
        have GW : Aside0 (w.heap.size < g) := ⟨by rw [← hg]; exact blk_lt BK.out⟩
        replace BK := Aside0.mk (blk_below BK.out hb3)
        replace HB := Aside0.mk (below_then HB.out HB.out.size hb3)
        have GK := Aside0.mk K3
        clear K3 hb3 hg
        refine on 11 12287 (fun K hK => ?_)
        refine ca (cp_c _ _ _ _ (HC2.out _ (Kd.C_below HX.out HB.out)) (by omega)) Try.func114 ?_
        rintro e wd5 ⟨v, rfl, ⟨f, hr, hn, hf⟩, hb2⟩
        obtain ⟨A3, c3, rfl, _, _⟩ := Rp.Row_reads hr
        refine ⟨_, rfl, nx hK (pw_cell_below hb2 hS) (fun hS => ?_)⟩
        clear hK K
        have GR0 : Aside0 (Rp.Got rB 5 w.heap.size wd5 (.slice A3 (bytesOf b).length c3) (bytesOf b)) := ⟨⟨f, hr, hn, fun x hx => Nat.le_trans HB.out.size (hf x hx)⟩⟩
        replace BK := Aside0.mk (blk_below BK.out hb2)
        replace GK := Aside0.mk (blk_below GK.out hb2)
        replace HB := Aside0.mk (below_then HB.out HB.out.size hb2)
        have GR := GR0
        clear GR0 hr hn hf hb2
        refine pu 12 16383 ?_
        exact norm_ (by simp only [putAll, Act.put, List.setIfInBounds_toArray, List.set_cons_zero, List.set_cons_succ]) (hCont (.slice A3 (bytesOf b).length c3, g) _ ⟨hS, GR.out, BK.out, GK.out, GW.out, HB.out⟩)
    · skip
      refine va ?_
      refine nx hK (pw_cell_below (below_alloc (Below.refl _ _) _) hS) (fun hS => ?_)
      clear hK K
      generalize hg : w1.heap.size = g at hS ⊢
      generalize hw3 : w1.alloc _ = wd6 at hS ⊢
      obtain ⟨K3, hb3, hsz⟩ := alloc1 hw3
      clear hw3 hsz
      rw [hg] at K3
      have GW : Aside0 (w.heap.size < g) := ⟨by rw [← hg]; exact blk_lt BK.out⟩
      replace BK := Aside0.mk (blk_below BK.out hb3)
      replace HB := Aside0.mk (below_then HB.out HB.out.size hb3)
      have GK := Aside0.mk K3
      clear K3 hb3 hg
      refine on 2 10231 (fun K hK => ?_)
      refine ca (num_c _ _ _ _ (HC1.out _ (Kd.C_below HX.out HB.out))) Try.func162 ?_
      rintro e wd7 ⟨rfl, hE⟩
      have hE := hE.symm
      subst hE
      refine ⟨_, rfl, nx hK hS (fun hS => ?_)⟩
      clear hK K
      refine pu 3 10239 ?_
      refine on 11 12287 (fun K hK => ?_)
      refine ca (cp_c _ _ _ _ (HC2.out _ (Kd.C_below HX.out HB.out)) (by omega)) Try.func114 ?_
      rintro e wd8 ⟨v, rfl, ⟨f, hr, hn, hf⟩, hb2⟩
      obtain ⟨A3, c3, rfl, _, _⟩ := Rp.Row_reads hr
      refine ⟨_, rfl, nx hK (pw_cell_below hb2 hS) (fun hS => ?_)⟩
      clear hK K
      have GR0 : Aside0 (Rp.Got rB 5 w.heap.size wd8 (.slice A3 (bytesOf b).length c3) (bytesOf b)) := ⟨⟨f, hr, hn, fun x hx => Nat.le_trans HB.out.size (hf x hx)⟩⟩
      replace BK := Aside0.mk (blk_below BK.out hb2)
      replace GK := Aside0.mk (blk_below GK.out hb2)
      replace HB := Aside0.mk (below_then HB.out HB.out.size hb2)
      have GR := GR0
      clear GR0 hr hn hf hb2
      refine pu 12 16383 ?_
      exact norm_ (by simp only [putAll, Act.put, List.setIfInBounds_toArray, List.set_cons_zero, List.set_cons_succ]) (hCont (.slice A3 (bytesOf b).length c3, g) _ ⟨hS, GR.out, BK.out, GK.out, GW.out, HB.out⟩)
  rintro ⟨v, g⟩ wj ⟨hS, GR, BK0, GK, GW, HB0⟩
  clear BK HB
  have GW : w.heap.size < g := GW
  have GK : wj.heap[g]? = some (.cells #[.bool false, .int .i64 0, .slice none 0 0] 138 (0, 0)) := GK
  refine norm_ (a' := ?_) ?_ ?_
  rotate_left
  · simp only [putAll, Act.put, List.setIfInBounds_toArray, List.set_cons_zero, List.set_cons_succ]
    rfl
  obtain ⟨f, hr, hn, hf⟩ := GR
  obtain ⟨A3, c3, rfl, _, _⟩ := Rp.Row_reads hr
  have d0 := (blk_cell GK 0).trans rfl; have d1 := (blk_cell GK 1).trans rfl; have d2 := (blk_cell GK 2).trans rfl
  have z0 := blk_frozen GK 0; have z1 := blk_frozen GK 1; have z2 := blk_frozen GK 2
  obtain ⟨GK2, q3⟩ := set3 GK (.bool true) (.int .i64 (wrap64 (numL (seg b 2 6)))) (.slice A3 (bytesOf b).length c3)
  refine on 14 32767 (fun K hK => ?_)
  refine st ?_
  have HR := Aside0.mk (q3.row hr (fun x hx hm => Rp.Row_not hr GK (by decide) (by simp at hm; exact hm ▸ hx)))
  have BK := Aside0.mk (q3.blk BK0 (by simp; omega))
  have HB := Aside0.mk (q3.toBelow HB0 HB0.size (fun x hx => by simp at hx; omega))
  have GK := Aside0.mk GK2
  have HN := Aside0.mk hn; have HF := Aside0.mk hf
  refine nx hK (pw_cell_below HB.out C6.out) (fun hS => dn ?_)
  clear hK K hS d0 d1 d2 z0 z1 z2 q3 GK2 hr hn hf BK0 HB0
  generalize ((wj.setCell _ _).setCell _ _).setCell _ _ = w3 at HR BK HB GK ⊢
  go_upto_region 4 with (fail)
  have hs1 : ((strOfNums X).toList != (strOfNums b).toList) = true := by simp only [bne, hs]; rfl
  refine sta (fun w' => w'.cell? ⟨g, 0, none⟩ = some (.bool true) ∧ w'.cell? ⟨g, 1, none⟩ = some (.int .i64 (wrap64 (numL (seg b 2 6)))) ∧ w'.cell? ⟨g, 2, none⟩ = some (.slice A3 (bytesOf b).length c3) ∧ (convert 22 9 (.slice (some ad) b.length c)).run Try.prog w' = .ok (.string (strOfNums b)) w') [] 6 ⟨(blk_cell GK.out 0).trans rfl, (blk_cell GK.out 1).trans rfl, (blk_cell GK.out 2).trans rfl, Kd.C_string (P := Try.prog) Try.underlying22 Try.underlying5 Try.underlying9 (Kd.C_drew (Kd.C_below HX.out HB.out))⟩ (fun hS => ?_)
  replace HR := Aside0.mk (Rp.Row_drew HR.out); replace BK := Aside0.mk (blk_drew BK.out); replace HB := Aside0.mk (below_drew HB.out); replace GK := Aside0.mk (blk_drew GK.out)
  generalize w3.drew = w4 at HR BK HB GK hS ⊢
  refine pu 3 8 ?_
  refine tk 0 9 hS ?_ (hr := by rintro w' ⟨s0, s1, s2, s3⟩; go_simp; with_reducible rfl)
  refine tk 4 25 hS ?_ (hr := by rintro w' ⟨s0, s1, s2, s3⟩; go_simp; with_reducible rfl)
  refine on 1 27 (fun K hK => ?_)
  refine ca (HP.out _ _ _ (Rp.Row_C HR.out).2.2) Try.func110 ?_
  rintro e w5 ⟨vX, rfl, ⟨fX, hrX, hnX, hfX⟩, hb5⟩
  obtain ⟨AX, cX, rfl, _, _⟩ := Rp.Row_reads hrX
  replace HR := Aside0.mk (Rp.Row_below HR.out hb5); replace BK := Aside0.mk (blk_below BK.out hb5); replace GK := Aside0.mk (blk_below GK.out hb5); replace HB := Aside0.mk (below_then HB.out HB.out.size hb5)
  have hcv := Kd.C_string (P := Try.prog) (c := cX) Try.underlying22 Try.underlying5 Try.underlying9 (Rp.Row_C hrX).2.2
  clear hb5 hrX hnX hfX
  have hS2 : w5.cell? ⟨g, 0, none⟩ = some (.bool true) ∧ w5.cell? ⟨g, 1, none⟩ = some (.int .i64 (wrap64 (numL (seg b 2 6)))) ∧ w5.cell? ⟨g, 2, none⟩ = some (.slice A3 (bytesOf b).length c3) ∧ (convert 22 9 (.slice (some ad) b.length c)).run Try.prog w5 = .ok (.string (strOfNums b)) w5 := ⟨(blk_cell GK.out 0).trans rfl, (blk_cell GK.out 1).trans rfl, (blk_cell GK.out 2).trans rfl, Kd.C_string (P := Try.prog) Try.underlying22 Try.underlying5 Try.underlying9 (Kd.C_below HX.out HB.out)⟩
  refine ⟨_, rfl, nx hK hS2 (fun hS => ?_)⟩
  clear hK K
  refine on 2 31 (fun K hK => ?_)
  refine va ?_
  clear hcv
  refine nx hK hS2 (fun hS => ?_)
  clear hK K hS2
  refine pu 5 63 ?_
  refine dn ?_
  clear hS
  have d0 := (blk_cell BK.out 0).trans rfl; have d1 := (blk_cell BK.out 1).trans rfl; have d2 := (blk_cell BK.out 2).trans rfl
  have z0 := blk_frozen BK.out 0; have z1 := blk_frozen BK.out 1; have z2 := blk_frozen BK.out 2
  go_wp2
  obtain ⟨BK2, q⟩ := set3 BK.out (.bool false) (.int .i64 0) (.slice none 0 0)
  refine bodyPost_ret (results_cell_row rfl _ _ w.heap.size 138 #[.bool false, .int .i64 0, .slice none 0 0] (0, 0) _ rfl BK2 Try.underlying138 rfl (by kernel_rfl)) rfl ?_
  exact ⟨_, [], rfl, Rp.Row_nil _ _ _, by simp, by simp, q.toBelow HB.out HB.out.size (fun x hx => by simp at hx; omega)⟩
set_option maxHeartbeats 1000000 in
theorem implPageOf_early (A : Option Addr) (c : Nat) (b : List Int) (w : World) (hx : kB.C w A b.length b) (hb : BsOk b) (hno : ¬ (b.length = 64 ∧ rd b 6 ≤ 56)) :
    Calls Try.prog 146 #[.slice A b.length c] w (GotPg w false 0 []) := by
  have hbl : b.length ≤ 9223372036854775807 := hx.2.1
  have hb6 := hb.rd 6
  have hb60 := hb6.1
  have hb61 := hb6.2
  have HX := Aside0.mk hx; have HN := Aside0.mk hno; clear hx hb hno hb6
  have BK := Aside0.mk (blk_new w (.cells #[.bool false, .int .i64 0, .slice none 0 0] 138))
  have HB := Aside0.mk (below_alloc (Below.refl w.heap.size w) (.cells #[.bool false, .int .i64 0, .slice none 0 0] 138))
  go_enter Try.func146, Try.ntmps146
  go_upto_region 1 with (fail)
  generalize w.alloc _ = w0 at BK HB ⊢
  have d0 := (blk_cell BK.out 0).trans rfl; have d1 := (blk_cell BK.out 1).trans rfl; have d2 := (blk_cell BK.out 2).trans rfl
  have z0 := blk_frozen BK.out 0; have z1 := blk_frozen BK.out 1; have z2 := blk_frozen BK.out 2
  by_cases h : (b.length : Int) = 64
  · have h56 : 56 < rd b 6 := by
      have := HN.out
      rcases Int.lt_or_le 56 (rd b 6) with h' | h'
      · exact h'
      · exact absurd ⟨by omega, h'⟩ this
    have hl1 : 63 < b.length := by omega
    have hl2 : b.length ≤ 64 := by omega
    clear h
    obtain ⟨ad, e1, c6⟩ := Kd.at_int HX.out 6 (by omega) (by omega)
    cases e1
    simp only [show (6 : Int).toNat = 6 from rfl, Go.Addr.add, Nat.reduceEqDiff, if_false] at c6
    replace c6 := pw_cell_below HB.out c6
    go_wp2
    obtain ⟨BK2, q⟩ := set3 BK.out (.bool false) (.int .i64 0) (.slice none 0 0)
    refine bodyPost_ret (results_cell_row rfl _ _ w.heap.size 138 #[.bool false, .int .i64 0, .slice none 0 0] (0, 0) _ rfl BK2 Try.underlying138 rfl (by kernel_rfl)) rfl ?_
    exact ⟨_, [], rfl, Rp.Row_nil _ _ _, by simp, by simp, q.toBelow HB.out HB.out.size (fun x hx => by simp at hx; omega)⟩
  · have h' := eqF h
    go_wp2
    obtain ⟨BK2, q⟩ := set3 BK.out (.bool false) (.int .i64 0) (.slice none 0 0)
    refine bodyPost_ret (results_cell_row rfl _ _ w.heap.size 138 #[.bool false, .int .i64 0, .slice none 0 0] (0, 0) _ rfl BK2 Try.underlying138 rfl (by kernel_rfl)) rfl ?_
    exact ⟨_, [], rfl, Rp.Row_nil _ _ _, by simp, by simp, q.toBelow HB.out HB.out.size (fun x hx => by simp at hx; omega)⟩
theorem str_same {a b : List Int} (ha : BsOk a) (hb : BsOk b) : ((strOfNums a).toList == (strOfNums b).toList) = decide (a = b) := by
  by_cases h : a = b
  · subst h; simp
  · rw [decide_eq_false h]
    exact beq_eq_false_iff_ne.mpr (fun e => h (Math.strOfNums_inj (fun x hx => by have := ha x hx; omega) (fun x hx => by have := hb x hx; omega) (Math.toList_inj e)))
theorem BsOk.append {a b : List Int} (ha : BsOk a) (hb : BsOk b) : BsOk (a ++ b) := fun x hx => (List.mem_append.1 hx).elim (ha x) (hb x)
theorem BsOk.seg {a : List Int} (ha : BsOk a) (i j : Nat) : BsOk (seg a i j) := fun x hx => ha x (List.mem_of_mem_take (List.mem_of_mem_drop hx))
theorem BsOk.low (v : Int) : ∀ i, BsOk (lowTo v i)
  | 0 => fun x hx => by cases hx
  | i + 1 => (BsOk.low v i).append fun x hx => by simp at hx; subst hx; omega
theorem sumTo_ok (xs : List Int) : ∀ i, 0 ≤ sumTo xs i ∧ sumTo xs i < 256
  | 0 => by simp [sumTo]
  | i + 1 => by
    simp only [sumTo]
    split
    · exact sumTo_ok xs i
    · rw [IntKind.wrap_u8]; omega
theorem block_ok {gen : Int} {bytes : List Int} (hb : BsOk bytes) (hl : bytes.length ≤ 56) : BsOk (blockL gen bytes) := by
  have h1 : BsOk (preL gen bytes) := by
    unfold preL pre0
    refine ((((BsOk.append ?_ (BsOk.low _ _)).append ?_).append hb).append ?_)
    · intro x hx; simp at hx; omega
    · intro x hx; simp at hx; omega
    · intro x hx; rw [List.mem_replicate] at hx; omega
  intro x hx
  unfold blockL at hx
  rcases List.mem_or_eq_of_mem_set hx with h | h
  · exact h1 x h
  · rw [h]; exact sumTo_ok _ _
theorem bytesOf_len {b : List Int} (hb : BsOk b) (h64 : b.length = 64) (h56 : rd b 6 ≤ 56) : (bytesOf b).length ≤ 56 := by
  have := (hb.rd 6).1
  unfold bytesOf; rw [seg_len b (by omega)]; omega
theorem implPageOf_yes (A : Option Addr) (c : Nat) (b : List Int) (w : World) (hx : kB.C w A b.length b) (hc : b.length ≤ c) (hb : BsOk b) (h : PgIs b) :
    Calls Try.prog 146 #[.slice A b.length c] w (GotPg w true (genOf b) (bytesOf b)) := by
  obtain ⟨h64, h56, hok, he⟩ := h
  refine implPageOf_y A c b b w hx hc hb h64 h56 (fun A c w hx => ?_) (by simp)
  have := implPageBlock_yes A c (genOf b) (bytesOf b) w hx hok
  rw [he] at this
  exact this
theorem implPageOf_no (A : Option Addr) (c : Nat) (b : List Int) (w : World) (hx : kB.C w A b.length b) (hc : b.length ≤ c) (hb : BsOk b) (h : ¬ PgIs b) :
    Calls Try.prog 146 #[.slice A b.length c] w (GotPg w false 0 []) := by
  by_cases h1 : b.length = 64 ∧ rd b 6 ≤ 56
  · obtain ⟨h64, h56⟩ := h1
    have hl := bytesOf_len hb h64 h56
    by_cases hok : PgOk true (genOf b) (bytesOf b)
    · refine implPageOf_n A c b (blockL (genOf b) (bytesOf b)) w hx hc hb h64 h56 (fun A c w hx => implPageBlock_yes A c _ _ w hx hok) ?_
      rw [str_same (block_ok (show BsOk (bytesOf b) from hb.seg _ _) hl) hb]
      exact decide_eq_false (fun e => h ⟨h64, h56, hok, e⟩)
    · refine implPageOf_n A c b [] w hx hc hb h64 h56 (fun A c w hx => implPageBlock_no A c _ _ _ w (by omega) hok) ?_
      rw [str_same (fun x hx => by cases hx) hb]
      exact decide_eq_false (fun e => by rw [← e] at h64; cases h64)
  · exact implPageOf_early A c b w hx hb h1
end Go.Proofs.Ytocdlibnmlcokaa
namespace Go.Proofs.Ytocdlibnmlcokaa
open Go.RowKit Go.Proofs.YtocdlibnmlcokaaW.PrintWords Go.Proofs.YtocdlibnmlcokaaW.PrintLast
set_option linter.unusedVariables false
set_option linter.unusedSimpArgs false
theorem block_len {gen : Int} {bytes : List Int} (hl : bytes.length ≤ 56) : (blockL gen bytes).length = 64 := by
  have := pre0_len gen bytes
  unfold blockL preL
  rw [List.length_set, List.length_append, List.length_replicate]; omega
end Go.Proofs.Ytocdlibnmlcokaa
namespace Go.Proofs.Ytocdlibnmlcokaa
open Go.RowKit Go.Proofs.YtocdlibnmlcokaaW.PrintWords Go.Proofs.YtocdlibnmlcokaaW.PrintLast
set_option linter.unusedVariables false
set_option linter.unusedSimpArgs false
structure Nt where
  tick : Int
  kind : Int
  who : Int
  n : Int
  text : ByteArray
abbrev rN : Rp Nt := Rp.iso (Rp.pair (Rp.int .i64) (Rp.pair (Rp.int .i64) (Rp.pair (Rp.int .i64) (Rp.pair (Rp.int .i64) Rp.string)))) (fun x => (x.tick, x.kind, x.who, x.n, x.text))
def vN (x : Nt) : Value := .agg #[.int .i64 x.tick, .int .i64 x.kind, .int .i64 x.who, .int .i64 x.n, .string x.text]
def NtOk (x : Nt) : Prop := (0 ≤ x.tick ∧ x.tick ≤ 1000000000) ∧ (0 ≤ x.kind ∧ x.kind ≤ 100) ∧ (0 ≤ x.who ∧ x.who ≤ 1000) ∧ x.text.size ≤ 200
theorem yn (b X : Bool) (P : Prop) (hb : b = true ↔ P) (hX : X = true ↔ P) : X = b := by
  cases b <;> cases X <;> simp_all
set_option maxHeartbeats 4000000 in
theorem implNoteOk_c (x : Nt) (b : Bool) (hb : b = true ↔ NtOk x) (w : World) (hs : x.text.size ≤ 9223372036854775807) :
    Calls Try.prog 100 #[vN x] w (YesNo b w) := by
  have HB := Aside0.mk hb; clear hb
  obtain ⟨tick, kind, who, n, text⟩ := x
  simp only [vN] at *
  have BK := Aside0.mk (blk_new w (.cells #[.int .i64 tick, .int .i64 kind, .int .i64 who, .int .i64 n, .string text] 33))
  have BL := Aside0.mk (below_alloc (Below.refl w.heap.size w) (.cells #[.int .i64 tick, .int .i64 kind, .int .i64 who, .int .i64 n, .string text] 33))
  go_enter Try.func100, Try.ntmps100
  go_upto_region 1 with (fail)
  generalize w.alloc _ = w0 at BK BL ⊢
  have q0 := (blk_cell BK.out 0).trans rfl; have q1 := (blk_cell BK.out 1).trans rfl; have q2 := (blk_cell BK.out 2).trans rfl; have q4 := (blk_cell BK.out 4).trans rfl
  go_wp2
  all_goals go_ret
  all_goals refine ⟨congrArg (fun x => Ending.returned (Value.bool x)) (yn b _ _ HB.out ?_), BL.out⟩
  all_goals (simp only [NtOk, decide_eq_true_eq, Bool.false_eq_true, false_iff, true_iff]; omega)
end Go.Proofs.Ytocdlibnmlcokaa
namespace Go.Proofs.Ytocdlibnmlcokaa
open Go.RowKit Go.Proofs.YtocdlibnmlcokaaW.PrintWords Go.Proofs.YtocdlibnmlcokaaW.PrintLast
set_option linter.unusedVariables false
set_option linter.unusedSimpArgs false
theorem set5 {w : World} {g t : Nat} {a b c d e : Value} (h : w.heap[g]? = some (.cells #[a, b, c, d, e] t (0, 0))) (x y z u v : Value) : (((((w.setCell ⟨g, 0, none⟩ x).setCell ⟨g, 1, none⟩ y).setCell ⟨g, 2, none⟩ z).setCell ⟨g, 3, none⟩ u).setCell ⟨g, 4, none⟩ v).heap[g]? = some (.cells #[x, y, z, u, v] t (0, 0)) ∧ Kp w (((((w.setCell ⟨g, 0, none⟩ x).setCell ⟨g, 1, none⟩ y).setCell ⟨g, 2, none⟩ z).setCell ⟨g, 3, none⟩ u).setCell ⟨g, 4, none⟩ v) [g] :=
  ⟨blk_set (blk_set (blk_set (blk_set (blk_set h 0 x) 1 y) 2 z) 3 u) 4 v, ((((Kp.set _ _ _ _).trans (Kp.set _ _ _ _) (fun _ hb _ => hb)).trans (Kp.set _ _ _ _) (fun _ hb _ => hb)).trans (Kp.set _ _ _ _) (fun _ hb _ => hb)).trans (Kp.set _ _ _ _) (fun _ hb _ => hb)⟩
theorem set7 {w : World} {g t : Nat} {a b c d e f i : Value} (h : w.heap[g]? = some (.cells #[a, b, c, d, e, f, i] t (0, 0))) (x y z u v r s : Value) : (((((((w.setCell ⟨g, 0, none⟩ x).setCell ⟨g, 1, none⟩ y).setCell ⟨g, 2, none⟩ z).setCell ⟨g, 3, none⟩ u).setCell ⟨g, 4, none⟩ v).setCell ⟨g, 5, none⟩ r).setCell ⟨g, 6, none⟩ s).heap[g]? = some (.cells #[x, y, z, u, v, r, s] t (0, 0)) ∧ Kp w (((((((w.setCell ⟨g, 0, none⟩ x).setCell ⟨g, 1, none⟩ y).setCell ⟨g, 2, none⟩ z).setCell ⟨g, 3, none⟩ u).setCell ⟨g, 4, none⟩ v).setCell ⟨g, 5, none⟩ r).setCell ⟨g, 6, none⟩ s) [g] := by
  have h1 : (w.setCell ⟨g, 0, none⟩ x).heap[g]? = some (.cells #[x, b, c, d, e, f, i] t (0, 0)) := blk_set h 0 x
  have k1 : Kp w (w.setCell ⟨g, 0, none⟩ x) [g] := Kp.set _ _ _ _
  have h2 : ((w.setCell ⟨g, 0, none⟩ x).setCell ⟨g, 1, none⟩ y).heap[g]? = some (.cells #[x, y, c, d, e, f, i] t (0, 0)) := blk_set h1 1 y
  have k2 : Kp w ((w.setCell ⟨g, 0, none⟩ x).setCell ⟨g, 1, none⟩ y) [g] := k1.trans (Kp.set _ _ _ _) (fun _ hb _ => hb)
  have h3 : (((w.setCell ⟨g, 0, none⟩ x).setCell ⟨g, 1, none⟩ y).setCell ⟨g, 2, none⟩ z).heap[g]? = some (.cells #[x, y, z, d, e, f, i] t (0, 0)) := blk_set h2 2 z
  have k3 : Kp w (((w.setCell ⟨g, 0, none⟩ x).setCell ⟨g, 1, none⟩ y).setCell ⟨g, 2, none⟩ z) [g] := k2.trans (Kp.set _ _ _ _) (fun _ hb _ => hb)
  have h4 : ((((w.setCell ⟨g, 0, none⟩ x).setCell ⟨g, 1, none⟩ y).setCell ⟨g, 2, none⟩ z).setCell ⟨g, 3, none⟩ u).heap[g]? = some (.cells #[x, y, z, u, e, f, i] t (0, 0)) := blk_set h3 3 u
  have k4 : Kp w ((((w.setCell ⟨g, 0, none⟩ x).setCell ⟨g, 1, none⟩ y).setCell ⟨g, 2, none⟩ z).setCell ⟨g, 3, none⟩ u) [g] := k3.trans (Kp.set _ _ _ _) (fun _ hb _ => hb)
  have h5 : (((((w.setCell ⟨g, 0, none⟩ x).setCell ⟨g, 1, none⟩ y).setCell ⟨g, 2, none⟩ z).setCell ⟨g, 3, none⟩ u).setCell ⟨g, 4, none⟩ v).heap[g]? = some (.cells #[x, y, z, u, v, f, i] t (0, 0)) := blk_set h4 4 v
  have k5 : Kp w (((((w.setCell ⟨g, 0, none⟩ x).setCell ⟨g, 1, none⟩ y).setCell ⟨g, 2, none⟩ z).setCell ⟨g, 3, none⟩ u).setCell ⟨g, 4, none⟩ v) [g] := k4.trans (Kp.set _ _ _ _) (fun _ hb _ => hb)
  have h6 : ((((((w.setCell ⟨g, 0, none⟩ x).setCell ⟨g, 1, none⟩ y).setCell ⟨g, 2, none⟩ z).setCell ⟨g, 3, none⟩ u).setCell ⟨g, 4, none⟩ v).setCell ⟨g, 5, none⟩ r).heap[g]? = some (.cells #[x, y, z, u, v, r, i] t (0, 0)) := blk_set h5 5 r
  have k6 : Kp w ((((((w.setCell ⟨g, 0, none⟩ x).setCell ⟨g, 1, none⟩ y).setCell ⟨g, 2, none⟩ z).setCell ⟨g, 3, none⟩ u).setCell ⟨g, 4, none⟩ v).setCell ⟨g, 5, none⟩ r) [g] := k5.trans (Kp.set _ _ _ _) (fun _ hb _ => hb)
  have h7 : (((((((w.setCell ⟨g, 0, none⟩ x).setCell ⟨g, 1, none⟩ y).setCell ⟨g, 2, none⟩ z).setCell ⟨g, 3, none⟩ u).setCell ⟨g, 4, none⟩ v).setCell ⟨g, 5, none⟩ r).setCell ⟨g, 6, none⟩ s).heap[g]? = some (.cells #[x, y, z, u, v, r, s] t (0, 0)) := blk_set h6 6 s
  have k7 : Kp w (((((((w.setCell ⟨g, 0, none⟩ x).setCell ⟨g, 1, none⟩ y).setCell ⟨g, 2, none⟩ z).setCell ⟨g, 3, none⟩ u).setCell ⟨g, 4, none⟩ v).setCell ⟨g, 5, none⟩ r).setCell ⟨g, 6, none⟩ s) [g] := k6.trans (Kp.set _ _ _ _) (fun _ hb _ => hb)
  exact ⟨h7, k7⟩
def noteOf (b : List Int) : Nt := ⟨wrap64 (numL (seg b 2 6)), wrap64 (rd b 6), wrap64 (numL (seg b 7 9)), wrap64 (numL (seg b 9 17)), strOfNums (seg b 17 (17 + (rd b 1).toNat))⟩
def FrIs (b : List Int) : Prop := 17 ≤ b.length ∧ rd b 0 = 78 ∧ 17 + rd b 1 ≤ b.length ∧ NtOk (noteOf b)
def frLen (b : List Int) : Int := 17 + rd b 1
def GotFr (w : World) (ok : Bool) (x : Nt) (len : Int) (e : Ending) (w' : World) : Prop :=
  e = .returned (.agg #[.bool ok, .int .i64 x.tick, .int .i64 x.kind, .int .i64 x.who, .int .i64 x.n, .string x.text, .int .i64 len]) ∧ Below w.heap.size w w'
def noNt : Nt := ⟨0, 0, 0, 0, { data := #[] }⟩
theorem str_size (l : List Int) : (strOfNums l).size = l.length := by simp [strOfNums, ByteArray.size]
set_option maxHeartbeats 8000000 in
set_option maxRecDepth 100000 in
theorem implReadFrame_y (A : Option Addr) (c : Nat) (b : List Int) (w : World) (hx : kB.C w A b.length b) (hc : b.length ≤ c) (hb : BsOk b) (h17 : 17 ≤ b.length) (h0 : rd b 0 = 78) (hk : 17 + rd b 1 ≤ b.length)
    (hok : NtOk (noteOf b)) :
    Calls Try.prog 147 #[.slice A b.length c] w (GotFr w true (noteOf b) (frLen b)) := by
  have hbl : b.length ≤ 9223372036854775807 := hx.2.1
  have hb10 := (hb.rd 1).1
  have hb11 := (hb.rd 1).2
  have hb60 := (hb.rd 6).1
  have hb61 := (hb.rd 6).2
  have HX := Aside0.mk hx; have HO := Aside0.mk hok; clear hx hb hok
  have hE2 : wrap64 (17 + wrap64 (rd b 1)) = 17 + rd b 1 := by unfold wrap64; omega
  have hE3 : wrap64 (17 + rd b 1) = 17 + rd b 1 := by unfold wrap64; omega
  obtain ⟨A1, hcut1, hC1, hle1⟩ := mid_c (A := A) (c := c) (xs := b) 2 6 2 6 rfl rfl (by omega) (by omega) (by omega) hc
  obtain ⟨A2, hcut2, hC2, hle2⟩ := mid_c (A := A) (c := c) (xs := b) 7 9 7 9 rfl rfl (by omega) (by omega) (by omega) hc
  obtain ⟨A3, hcut3, hC3, hle3⟩ := mid_c (A := A) (c := c) (xs := b) 9 17 9 17 rfl rfl (by omega) (by omega) (by omega) hc
  obtain ⟨A4, hcut4, hC4, hle4⟩ := mid_c (A := A) (c := c) (xs := b) 17 (wrap64 (17 + wrap64 (rd b 1))) 17 (17 + (rd b 1).toNat) rfl (by omega) (by omega) (by omega) (by omega) hc
  clear hE2 hE3 hle1 hle2 hle3 hle4
  have HT : Aside0 ((strOfNums (seg b 17 (17 + (rd b 1).toNat))).size = (rd b 1).toNat) := ⟨by rw [str_size, seg_len b (by omega)]; omega⟩
  obtain ⟨ad, e1, c6⟩ := Kd.at_int HX.out 6 (by omega) (by omega)
  cases e1
  obtain ⟨ad1, e1, c1⟩ := Kd.at_int HX.out 1 (by omega) (by omega)
  cases e1
  obtain ⟨ad1, e1, c0⟩ := Kd.at_int HX.out 0 (by omega) (by omega)
  cases e1
  have HC1 := Aside0.mk hC1; have HC2 := Aside0.mk hC2; have HC3 := Aside0.mk hC3; have HC4 := Aside0.mk hC4; clear hC1 hC2 hC3 hC4
  simp only [show (6 : Int).toNat = 6 from rfl, show (1 : Int).toNat = 1 from rfl, show (0 : Int).toNat = 0 from rfl, Go.Addr.add, Nat.reduceEqDiff, if_false, if_true] at c6 c1 c0
  have C6 := Aside0.mk c6; have C1 := Aside0.mk c1
  have h78 := eqT h0
  have BK := Aside0.mk (blk_new w (.cells #[.bool false, .int .i64 0, .int .i64 0, .int .i64 0, .int .i64 0, .string { data := #[] }, .int .i64 0] 171))
  have HB := Aside0.mk (below_alloc (Below.refl w.heap.size w) (.cells #[.bool false, .int .i64 0, .int .i64 0, .int .i64 0, .int .i64 0, .string { data := #[] }, .int .i64 0] 171))
  clear h0
  go_enter Try.func147, Try.ntmps147
  go_upto_region 1 with (fail)
  replace c6 := pw_cell_below HB.out c6; replace c1 := pw_cell_below HB.out c1; replace c0 := pw_cell_below HB.out c0
  generalize w.alloc _ = w0 at BK HB c6 c1 c0 ⊢
  go_upto_region 3 with (fail)
  refine sta (fun w' => w'.cell? ⟨ad.block, ad.off + 6, none⟩ = some (.int .u8 (rd b 6)) ∧ w'.cell? ⟨ad.block, ad.off + 1, none⟩ = some (.int .u8 (rd b 1)) ∧ (convert 22 9 (.slice A4 (seg b 17 (17 + (rd b 1).toNat)).length (c - 17))).run Try.prog w' = .ok (.string (strOfNums (seg b 17 (17 + (rd b 1).toNat)))) w') [] 27 ⟨c6, c1, Kd.C_string (P := Try.prog) Try.underlying22 Try.underlying5 Try.underlying9 (Kd.C_drew (HC4.out _ (Kd.C_below HX.out HB.out)))⟩ (fun hS => ?_)
  replace BK := Aside0.mk (blk_drew BK.out); replace HB := Aside0.mk (below_drew HB.out)
  clear c6 c1 c0
  generalize w0.drew = w1 at BK HB hS ⊢
  have l6 : ((6 : Int) < (b.length : Int)) = True := eq_true (by omega)
  have l1 : ((1 : Int) < (b.length : Int)) = True := eq_true (by omega)
  refine pu 0 1 ?_
  refine pu 1 3 ?_
  refine pu 4 19 ?_
  refine pu 5 51 ?_
  refine tk 6 115 hS ?_ (hr := by rintro w' ⟨s0, s1, s2⟩; go_simp; with_reducible rfl)
  refine pu 7 243 ?_
  refine pu 8 499 ?_
  refine pu 9 1011 ?_
  refine pu 12 5107 ?_
  refine pu 13 13299 ?_
  refine pu 16 78835 ?_
  refine pu 17 209907 ?_
  refine pu 18 472051 ?_
  refine tk 19 996339 hS ?_ (hr := by rintro w' ⟨s0, s1, s2⟩; go_simp; with_reducible rfl)
  refine pu 20 2044915 ?_
  refine pu 21 4142067 ?_
  refine pu 22 8336371 ?_
  refine tk 23 16724979 hS ?_ (hr := by rintro w' ⟨s0, s1, s2⟩; go_simp; with_reducible rfl)
  refine join_ (σ := Nat) 1 (bl 27 67108863) (fun s => [(26, .int .u64 (numL (seg b 2 6))), (27, .int .i64 (wrap64 (numL (seg b 2 6)))), (34, .int .u64 (numL (seg b 7 9))), (35, .int .i64 (wrap64 (numL (seg b 7 9)))), (38, .int .u64 (numL (seg b 9 17))), (39, .int .i64 (wrap64 (numL (seg b 9 17)))), (48, .agg #[.int .i64 (wrap64 (numL (seg b 2 6))), .int .i64 (wrap64 (rd b 6)), .int .i64 (wrap64 (numL (seg b 7 9))), .int .i64 (wrap64 (numL (seg b 9 17))), .string (strOfNums (seg b 17 (17 + (rd b 1).toNat)))]), (3, .pointer (some ⟨s, 0, none⟩))]) (fun s w' => (w'.cell? ⟨ad.block, ad.off + 6, none⟩ = some (.int .u8 (rd b 6)) ∧ w'.cell? ⟨ad.block, ad.off + 1, none⟩ = some (.int .u8 (rd b 1)) ∧ (convert 22 9 (.slice A4 (seg b 17 (17 + (rd b 1).toNat)).length (c - 17))).run Try.prog w' = .ok (.string (strOfNums (seg b 17 (17 + (rd b 1).toNat)))) w') ∧ w'.heap[w.heap.size]? = some (.cells #[.bool false, .int .i64 0, .int .i64 0, .int .i64 0, .int .i64 0, .string { data := #[] }, .int .i64 0] 171 (0, 0)) ∧ w'.heap[s]? = some (.cells #[.int .i64 0, .int .i64 0, .int .i64 0, .int .i64 0, .string { data := #[] }] 33 (0, 0)) ∧ w.heap.size < s ∧ Below w.heap.size w w') ?_ ?_
  rotate_left
  · intro hCont
    refine tw 2 25 16724983 50279411 (fun K hK => ?_) (fun K hK => ?_)
    · skip
      refine ca (num_c _ _ _ _ (HC1.out _ (Kd.C_below HX.out HB.out))) Try.func162 ?_
      rintro e wd1 ⟨rfl, hE⟩
      have hE := hE.symm
      subst hE
      refine ⟨_, rfl, nx hK hS (fun hS => ?_)⟩
      clear hK K
      refine pu 3 16724991 ?_
      refine tw 10 25 16726015 50279423 (fun K hK => ?_) (fun K hK => ?_)
      · skip
        refine ca (num_c _ _ _ _ (HC2.out _ (Kd.C_below HX.out HB.out))) Try.func162 ?_
        rintro e wd2 ⟨rfl, hE⟩
        have hE := hE.symm
        subst hE
        refine ⟨_, rfl, nx hK hS (fun hS => ?_)⟩
        clear hK K
        refine pu 11 16728063 ?_
        refine tw 14 25 16744447 50282495 (fun K hK => ?_) (fun K hK => ?_)
        · skip
          refine ca (num_c _ _ _ _ (HC3.out _ (Kd.C_below HX.out HB.out))) Try.func162 ?_
          rintro e wd3 ⟨rfl, hE⟩
          have hE := hE.symm
          subst hE
          refine ⟨_, rfl, nx hK hS (fun hS => ?_)⟩
          clear hK K
          refine pu 15 16777215 ?_
          refine pu 24 33554431 ?_
          refine on 25 67108863 (fun K hK => ?_)
          refine va ?_
          refine nx hK ⟨pw_cell_below (below_then HB.out HB.out.size (below_alloc (Below.refl _ _) _)) C6.out, pw_cell_below (below_then HB.out HB.out.size (below_alloc (Below.refl _ _) _)) C1.out, Kd.C_string (P := Try.prog) Try.underlying22 Try.underlying5 Try.underlying9 (HC4.out _ (Kd.C_below HX.out (below_then HB.out HB.out.size (below_alloc (Below.refl _ _) _))))⟩ (fun hS => ?_)
          clear hK K
          generalize hg : w1.heap.size = g at hS ⊢
          generalize hw3 : w1.alloc _ = wd4 at hS ⊢
          obtain ⟨K3, hb3, hsz⟩ := alloc1 hw3
          clear hw3 hsz
          rw [hg] at K3
          have GW : Aside0 (w.heap.size < g) := ⟨by rw [← hg]; exact blk_lt BK.out⟩
          replace BK := Aside0.mk (blk_below BK.out hb3)
          replace HB := Aside0.mk (below_then HB.out HB.out.size hb3)
          have GK := Aside0.mk K3
          clear K3 hb3 hg
          exact norm_ (by simp only [putAll, Act.put, List.setIfInBounds_toArray, List.set_cons_zero, List.set_cons_succ]) (hCont g _ ⟨hS, BK.out, GK.out, GW.out, HB.out⟩)
        · skip
          refine va ?_
          refine nx hK ⟨pw_cell_below (below_then HB.out HB.out.size (below_alloc (Below.refl _ _) _)) C6.out, pw_cell_below (below_then HB.out HB.out.size (below_alloc (Below.refl _ _) _)) C1.out, Kd.C_string (P := Try.prog) Try.underlying22 Try.underlying5 Try.underlying9 (HC4.out _ (Kd.C_below HX.out (below_then HB.out HB.out.size (below_alloc (Below.refl _ _) _))))⟩ (fun hS => ?_)
          clear hK K
          generalize hg : w1.heap.size = g at hS ⊢
          generalize hw3 : w1.alloc _ = wd5 at hS ⊢
          obtain ⟨K3, hb3, hsz⟩ := alloc1 hw3
          clear hw3 hsz
          rw [hg] at K3
          have GW : Aside0 (w.heap.size < g) := ⟨by rw [← hg]; exact blk_lt BK.out⟩
          replace BK := Aside0.mk (blk_below BK.out hb3)
          replace HB := Aside0.mk (below_then HB.out HB.out.size hb3)
          have GK := Aside0.mk K3
          clear K3 hb3 hg
          refine on 14 50298879 (fun K hK => ?_)
          refine ca (num_c _ _ _ _ (HC3.out _ (Kd.C_below HX.out HB.out))) Try.func162 ?_
          rintro e wd6 ⟨rfl, hE⟩
          have hE := hE.symm
          subst hE
          refine ⟨_, rfl, nx hK hS (fun hS => ?_)⟩
          clear hK K
          refine pu 15 50331647 ?_
          refine pu 24 67108863 ?_
          exact norm_ (by simp only [putAll, Act.put, List.setIfInBounds_toArray, List.set_cons_zero, List.set_cons_succ]) (hCont g _ ⟨hS, BK.out, GK.out, GW.out, HB.out⟩)
      · skip
        refine va ?_
        refine nx hK ⟨pw_cell_below (below_then HB.out HB.out.size (below_alloc (Below.refl _ _) _)) C6.out, pw_cell_below (below_then HB.out HB.out.size (below_alloc (Below.refl _ _) _)) C1.out, Kd.C_string (P := Try.prog) Try.underlying22 Try.underlying5 Try.underlying9 (HC4.out _ (Kd.C_below HX.out (below_then HB.out HB.out.size (below_alloc (Below.refl _ _) _))))⟩ (fun hS => ?_)
        clear hK K
        generalize hg : w1.heap.size = g at hS ⊢
        generalize hw3 : w1.alloc _ = wd7 at hS ⊢
        obtain ⟨K3, hb3, hsz⟩ := alloc1 hw3
        clear hw3 hsz
        rw [hg] at K3
        have GW : Aside0 (w.heap.size < g) := ⟨by rw [← hg]; exact blk_lt BK.out⟩
        replace BK := Aside0.mk (blk_below BK.out hb3)
        replace HB := Aside0.mk (below_then HB.out HB.out.size hb3)
        have GK := Aside0.mk K3
        clear K3 hb3 hg
        refine on 10 50280447 (fun K hK => ?_)
        refine ca (num_c _ _ _ _ (HC2.out _ (Kd.C_below HX.out HB.out))) Try.func162 ?_
        rintro e wd8 ⟨rfl, hE⟩
        have hE := hE.symm
        subst hE
        refine ⟨_, rfl, nx hK hS (fun hS => ?_)⟩
        clear hK K
        refine pu 11 50282495 ?_
        refine on 14 50298879 (fun K hK => ?_)
        refine ca (num_c _ _ _ _ (HC3.out _ (Kd.C_below HX.out HB.out))) Try.func162 ?_
        rintro e wd9 ⟨rfl, hE⟩
        have hE := hE.symm
        subst hE
        refine ⟨_, rfl, nx hK hS (fun hS => ?_)⟩
        clear hK K
        refine pu 15 50331647 ?_
        refine pu 24 67108863 ?_
        exact norm_ (by simp only [putAll, Act.put, List.setIfInBounds_toArray, List.set_cons_zero, List.set_cons_succ]) (hCont g _ ⟨hS, BK.out, GK.out, GW.out, HB.out⟩)
    · skip
      refine va ?_
      refine nx hK ⟨pw_cell_below (below_then HB.out HB.out.size (below_alloc (Below.refl _ _) _)) C6.out, pw_cell_below (below_then HB.out HB.out.size (below_alloc (Below.refl _ _) _)) C1.out, Kd.C_string (P := Try.prog) Try.underlying22 Try.underlying5 Try.underlying9 (HC4.out _ (Kd.C_below HX.out (below_then HB.out HB.out.size (below_alloc (Below.refl _ _) _))))⟩ (fun hS => ?_)
      clear hK K
      generalize hg : w1.heap.size = g at hS ⊢
      generalize hw3 : w1.alloc _ = wd10 at hS ⊢
      obtain ⟨K3, hb3, hsz⟩ := alloc1 hw3
      clear hw3 hsz
      rw [hg] at K3
      have GW : Aside0 (w.heap.size < g) := ⟨by rw [← hg]; exact blk_lt BK.out⟩
      replace BK := Aside0.mk (blk_below BK.out hb3)
      replace HB := Aside0.mk (below_then HB.out HB.out.size hb3)
      have GK := Aside0.mk K3
      clear K3 hb3 hg
      refine on 2 50279415 (fun K hK => ?_)
      refine ca (num_c _ _ _ _ (HC1.out _ (Kd.C_below HX.out HB.out))) Try.func162 ?_
      rintro e wd11 ⟨rfl, hE⟩
      have hE := hE.symm
      subst hE
      refine ⟨_, rfl, nx hK hS (fun hS => ?_)⟩
      clear hK K
      refine pu 3 50279423 ?_
      refine on 10 50280447 (fun K hK => ?_)
      refine ca (num_c _ _ _ _ (HC2.out _ (Kd.C_below HX.out HB.out))) Try.func162 ?_
      rintro e wd12 ⟨rfl, hE⟩
      have hE := hE.symm
      subst hE
      refine ⟨_, rfl, nx hK hS (fun hS => ?_)⟩
      clear hK K
      refine pu 11 50282495 ?_
      refine on 14 50298879 (fun K hK => ?_)
      refine ca (num_c _ _ _ _ (HC3.out _ (Kd.C_below HX.out HB.out))) Try.func162 ?_
      rintro e wd13 ⟨rfl, hE⟩
      have hE := hE.symm
      subst hE
      refine ⟨_, rfl, nx hK hS (fun hS => ?_)⟩
      clear hK K
      refine pu 15 50331647 ?_
      refine pu 24 67108863 ?_
      exact norm_ (by simp only [putAll, Act.put, List.setIfInBounds_toArray, List.set_cons_zero, List.set_cons_succ]) (hCont g _ ⟨hS, BK.out, GK.out, GW.out, HB.out⟩)
  rintro g wj ⟨hS, BK0, GK, GW, HB0⟩
  clear BK HB
  refine norm_ (a' := ?_) ?_ ?_
  rotate_left
  · simp only [putAll, Act.put, List.setIfInBounds_toArray, List.set_cons_zero, List.set_cons_succ]
    rfl
  have d0 := (blk_cell GK 0).trans rfl; have z0 := blk_frozen GK 0
  have d1 := (blk_cell GK 1).trans rfl; have z1 := blk_frozen GK 1
  have d2 := (blk_cell GK 2).trans rfl; have z2 := blk_frozen GK 2
  have d3 := (blk_cell GK 3).trans rfl; have z3 := blk_frozen GK 3
  have d4 := (blk_cell GK 4).trans rfl; have z4 := blk_frozen GK 4
  obtain ⟨GK2, q5⟩ := set5 GK (.int .i64 (wrap64 (numL (seg b 2 6)))) (.int .i64 (wrap64 (rd b 6))) (.int .i64 (wrap64 (numL (seg b 7 9)))) (.int .i64 (wrap64 (numL (seg b 9 17)))) (.string (strOfNums (seg b 17 (17 + (rd b 1).toNat))))
  refine on 26 134217727 (fun K hK => ?_)
  refine st ?_
  have BK := Aside0.mk (q5.blk BK0 (by simp; omega))
  have HB := Aside0.mk (q5.toBelow HB0 HB0.size (fun x hx => by simp at hx; omega))
  have GK := Aside0.mk GK2
  refine nx hK ⟨pw_cell_below HB.out C6.out, pw_cell_below HB.out C1.out, Kd.C_string (P := Try.prog) Try.underlying22 Try.underlying5 Try.underlying9 (HC4.out _ (Kd.C_below HX.out HB.out))⟩ (fun hS => dn ?_)
  clear hK K hS l6 l1 d0 d1 d2 d3 d4 z0 z1 z2 z3 z4 q5 GK2 BK0 HB0
  generalize (((((wj.setCell _ _).setCell _ _).setCell _ _).setCell _ _).setCell _ _) = w3 at BK HB GK ⊢
  go_upto_region 4 with (fail)
  have d0 := (blk_cell GK.out 0).trans rfl
  have d1 := (blk_cell GK.out 1).trans rfl
  have d2 := (blk_cell GK.out 2).trans rfl
  have d3 := (blk_cell GK.out 3).trans rfl
  have d4 := (blk_cell GK.out 4).trans rfl
  go_wp2_with fail
  refine (implNoteOk_c (noteOf b) true ⟨fun _ => HO.out, fun _ => rfl⟩ _ (by show (strOfNums (seg b 17 (17 + (rd b 1).toNat))).size ≤ _; rw [HT.out]; omega)).mono ?_
  rintro e w4 ⟨rfl, hb4⟩
  replace BK := Aside0.mk (blk_below BK.out hb4); replace GK := Aside0.mk (blk_below GK.out hb4); replace HB := Aside0.mk (below_then HB.out HB.out.size hb4)
  clear hb4 d0 d1 d2 d3 d4
  have d0 := (blk_cell GK.out 0).trans rfl
  have d1 := (blk_cell GK.out 1).trans rfl
  have d2 := (blk_cell GK.out 2).trans rfl
  have d3 := (blk_cell GK.out 3).trans rfl
  have d4 := (blk_cell GK.out 4).trans rfl
  have e0 := (blk_cell BK.out 0).trans rfl; have z0 := blk_frozen BK.out 0
  have e1 := (blk_cell BK.out 1).trans rfl; have z1 := blk_frozen BK.out 1
  have e2 := (blk_cell BK.out 2).trans rfl; have z2 := blk_frozen BK.out 2
  have e3 := (blk_cell BK.out 3).trans rfl; have z3 := blk_frozen BK.out 3
  have e4 := (blk_cell BK.out 4).trans rfl; have z4 := blk_frozen BK.out 4
  have e5 := (blk_cell BK.out 5).trans rfl; have z5 := blk_frozen BK.out 5
  have e6 := (blk_cell BK.out 6).trans rfl; have z6 := blk_frozen BK.out 6
  have htx : (strOfNums (seg b 17 (17 + (rd b 1).toNat))).size ≤ 255 := by rw [HT.out]; omega
  go_wp2
  obtain ⟨BK2, q⟩ := set7 BK.out (.bool true) (.int .i64 (wrap64 (numL (seg b 2 6)))) (.int .i64 (wrap64 (rd b 6))) (.int .i64 (wrap64 (numL (seg b 7 9)))) (.int .i64 (wrap64 (numL (seg b 9 17)))) (.string (strOfNums (seg b 17 (17 + (rd b 1).toNat)))) (.int .i64 (17 + ((strOfNums (seg b 17 (17 + (rd b 1).toNat))).size : Int)))
  refine bodyPost_ret (results_cell_row rfl _ _ w.heap.size 171 #[.bool true, .int .i64 (wrap64 (numL (seg b 2 6))), .int .i64 (wrap64 (rd b 6)), .int .i64 (wrap64 (numL (seg b 7 9))), .int .i64 (wrap64 (numL (seg b 9 17))), .string (strOfNums (seg b 17 (17 + (rd b 1).toNat))), .int .i64 (17 + ((strOfNums (seg b 17 (17 + (rd b 1).toNat))).size : Int))] (0, 0) _ rfl BK2 Try.underlying171 rfl (by kernel_rfl)) rfl ?_
  have hlen : (17 + ((strOfNums (seg b 17 (17 + (rd b 1).toNat))).size : Int)) = frLen b := by unfold frLen; rw [HT.out]; omega
  refine ⟨by rw [hlen]; rfl, q.toBelow HB.out HB.out.size (fun x hx => by simp at hx; omega)⟩
set_option maxHeartbeats 8000000 in
set_option maxRecDepth 100000 in
theorem implReadFrame_n (A : Option Addr) (c : Nat) (b : List Int) (w : World) (hx : kB.C w A b.length b) (hc : b.length ≤ c) (hb : BsOk b) (h17 : 17 ≤ b.length) (h0 : rd b 0 = 78) (hk : 17 + rd b 1 ≤ b.length)
    (hok : ¬ NtOk (noteOf b)) :
    Calls Try.prog 147 #[.slice A b.length c] w (GotFr w false noNt 0) := by
  have hbl : b.length ≤ 9223372036854775807 := hx.2.1
  have hb10 := (hb.rd 1).1
  have hb11 := (hb.rd 1).2
  have hb60 := (hb.rd 6).1
  have hb61 := (hb.rd 6).2
  have HX := Aside0.mk hx; have HO := Aside0.mk hok; clear hx hb hok
  have hE2 : wrap64 (17 + wrap64 (rd b 1)) = 17 + rd b 1 := by unfold wrap64; omega
  have hE3 : wrap64 (17 + rd b 1) = 17 + rd b 1 := by unfold wrap64; omega
  obtain ⟨A1, hcut1, hC1, hle1⟩ := mid_c (A := A) (c := c) (xs := b) 2 6 2 6 rfl rfl (by omega) (by omega) (by omega) hc
  obtain ⟨A2, hcut2, hC2, hle2⟩ := mid_c (A := A) (c := c) (xs := b) 7 9 7 9 rfl rfl (by omega) (by omega) (by omega) hc
  obtain ⟨A3, hcut3, hC3, hle3⟩ := mid_c (A := A) (c := c) (xs := b) 9 17 9 17 rfl rfl (by omega) (by omega) (by omega) hc
  obtain ⟨A4, hcut4, hC4, hle4⟩ := mid_c (A := A) (c := c) (xs := b) 17 (wrap64 (17 + wrap64 (rd b 1))) 17 (17 + (rd b 1).toNat) rfl (by omega) (by omega) (by omega) (by omega) hc
  clear hE2 hE3 hle1 hle2 hle3 hle4
  have HT : Aside0 ((strOfNums (seg b 17 (17 + (rd b 1).toNat))).size = (rd b 1).toNat) := ⟨by rw [str_size, seg_len b (by omega)]; omega⟩
  obtain ⟨ad, e1, c6⟩ := Kd.at_int HX.out 6 (by omega) (by omega)
  cases e1
  obtain ⟨ad1, e1, c1⟩ := Kd.at_int HX.out 1 (by omega) (by omega)
  cases e1
  obtain ⟨ad1, e1, c0⟩ := Kd.at_int HX.out 0 (by omega) (by omega)
  cases e1
  have HC1 := Aside0.mk hC1; have HC2 := Aside0.mk hC2; have HC3 := Aside0.mk hC3; have HC4 := Aside0.mk hC4; clear hC1 hC2 hC3 hC4
  simp only [show (6 : Int).toNat = 6 from rfl, show (1 : Int).toNat = 1 from rfl, show (0 : Int).toNat = 0 from rfl, Go.Addr.add, Nat.reduceEqDiff, if_false, if_true] at c6 c1 c0
  have C6 := Aside0.mk c6; have C1 := Aside0.mk c1
  have h78 := eqT h0
  have BK := Aside0.mk (blk_new w (.cells #[.bool false, .int .i64 0, .int .i64 0, .int .i64 0, .int .i64 0, .string { data := #[] }, .int .i64 0] 171))
  have HB := Aside0.mk (below_alloc (Below.refl w.heap.size w) (.cells #[.bool false, .int .i64 0, .int .i64 0, .int .i64 0, .int .i64 0, .string { data := #[] }, .int .i64 0] 171))
  clear h0
  go_enter Try.func147, Try.ntmps147
  go_upto_region 1 with (fail)
  replace c6 := pw_cell_below HB.out c6; replace c1 := pw_cell_below HB.out c1; replace c0 := pw_cell_below HB.out c0
  generalize w.alloc _ = w0 at BK HB c6 c1 c0 ⊢
  go_upto_region 3 with (fail)
  refine sta (fun w' => w'.cell? ⟨ad.block, ad.off + 6, none⟩ = some (.int .u8 (rd b 6)) ∧ w'.cell? ⟨ad.block, ad.off + 1, none⟩ = some (.int .u8 (rd b 1)) ∧ (convert 22 9 (.slice A4 (seg b 17 (17 + (rd b 1).toNat)).length (c - 17))).run Try.prog w' = .ok (.string (strOfNums (seg b 17 (17 + (rd b 1).toNat)))) w') [] 27 ⟨c6, c1, Kd.C_string (P := Try.prog) Try.underlying22 Try.underlying5 Try.underlying9 (Kd.C_drew (HC4.out _ (Kd.C_below HX.out HB.out)))⟩ (fun hS => ?_)
  replace BK := Aside0.mk (blk_drew BK.out); replace HB := Aside0.mk (below_drew HB.out)
  clear c6 c1 c0
  generalize w0.drew = w1 at BK HB hS ⊢
  have l6 : ((6 : Int) < (b.length : Int)) = True := eq_true (by omega)
  have l1 : ((1 : Int) < (b.length : Int)) = True := eq_true (by omega)
  refine pu 0 1 ?_
  refine pu 1 3 ?_
  refine pu 4 19 ?_
  refine pu 5 51 ?_
  refine tk 6 115 hS ?_ (hr := by rintro w' ⟨s0, s1, s2⟩; go_simp; with_reducible rfl)
  refine pu 7 243 ?_
  refine pu 8 499 ?_
  refine pu 9 1011 ?_
  refine pu 12 5107 ?_
  refine pu 13 13299 ?_
  refine pu 16 78835 ?_
  refine pu 17 209907 ?_
  refine pu 18 472051 ?_
  refine tk 19 996339 hS ?_ (hr := by rintro w' ⟨s0, s1, s2⟩; go_simp; with_reducible rfl)
  refine pu 20 2044915 ?_
  refine pu 21 4142067 ?_
  refine pu 22 8336371 ?_
  refine tk 23 16724979 hS ?_ (hr := by rintro w' ⟨s0, s1, s2⟩; go_simp; with_reducible rfl)
  refine join_ (σ := Nat) 1 (bl 27 67108863) (fun s => [(26, .int .u64 (numL (seg b 2 6))), (27, .int .i64 (wrap64 (numL (seg b 2 6)))), (34, .int .u64 (numL (seg b 7 9))), (35, .int .i64 (wrap64 (numL (seg b 7 9)))), (38, .int .u64 (numL (seg b 9 17))), (39, .int .i64 (wrap64 (numL (seg b 9 17)))), (48, .agg #[.int .i64 (wrap64 (numL (seg b 2 6))), .int .i64 (wrap64 (rd b 6)), .int .i64 (wrap64 (numL (seg b 7 9))), .int .i64 (wrap64 (numL (seg b 9 17))), .string (strOfNums (seg b 17 (17 + (rd b 1).toNat)))]), (3, .pointer (some ⟨s, 0, none⟩))]) (fun s w' => (w'.cell? ⟨ad.block, ad.off + 6, none⟩ = some (.int .u8 (rd b 6)) ∧ w'.cell? ⟨ad.block, ad.off + 1, none⟩ = some (.int .u8 (rd b 1)) ∧ (convert 22 9 (.slice A4 (seg b 17 (17 + (rd b 1).toNat)).length (c - 17))).run Try.prog w' = .ok (.string (strOfNums (seg b 17 (17 + (rd b 1).toNat)))) w') ∧ w'.heap[w.heap.size]? = some (.cells #[.bool false, .int .i64 0, .int .i64 0, .int .i64 0, .int .i64 0, .string { data := #[] }, .int .i64 0] 171 (0, 0)) ∧ w'.heap[s]? = some (.cells #[.int .i64 0, .int .i64 0, .int .i64 0, .int .i64 0, .string { data := #[] }] 33 (0, 0)) ∧ w.heap.size < s ∧ Below w.heap.size w w') ?_ ?_
  rotate_left
  · intro hCont
    refine tw 2 25 16724983 50279411 (fun K hK => ?_) (fun K hK => ?_)
    · skip
      refine ca (num_c _ _ _ _ (HC1.out _ (Kd.C_below HX.out HB.out))) Try.func162 ?_
      rintro e wd1 ⟨rfl, hE⟩
      have hE := hE.symm
      subst hE
      refine ⟨_, rfl, nx hK hS (fun hS => ?_)⟩
      clear hK K
      refine pu 3 16724991 ?_
      refine tw 10 25 16726015 50279423 (fun K hK => ?_) (fun K hK => ?_)
      · skip
        refine ca (num_c _ _ _ _ (HC2.out _ (Kd.C_below HX.out HB.out))) Try.func162 ?_
        rintro e wd2 ⟨rfl, hE⟩
        have hE := hE.symm
        subst hE
        refine ⟨_, rfl, nx hK hS (fun hS => ?_)⟩
        clear hK K
        refine pu 11 16728063 ?_
        refine tw 14 25 16744447 50282495 (fun K hK => ?_) (fun K hK => ?_)
        · skip
          refine ca (num_c _ _ _ _ (HC3.out _ (Kd.C_below HX.out HB.out))) Try.func162 ?_
          rintro e wd3 ⟨rfl, hE⟩
          have hE := hE.symm
          subst hE
          refine ⟨_, rfl, nx hK hS (fun hS => ?_)⟩
          clear hK K
          refine pu 15 16777215 ?_
          refine pu 24 33554431 ?_
          refine on 25 67108863 (fun K hK => ?_)
          refine va ?_
          refine nx hK ⟨pw_cell_below (below_then HB.out HB.out.size (below_alloc (Below.refl _ _) _)) C6.out, pw_cell_below (below_then HB.out HB.out.size (below_alloc (Below.refl _ _) _)) C1.out, Kd.C_string (P := Try.prog) Try.underlying22 Try.underlying5 Try.underlying9 (HC4.out _ (Kd.C_below HX.out (below_then HB.out HB.out.size (below_alloc (Below.refl _ _) _))))⟩ (fun hS => ?_)
          clear hK K
          generalize hg : w1.heap.size = g at hS ⊢
          generalize hw3 : w1.alloc _ = wd4 at hS ⊢
          obtain ⟨K3, hb3, hsz⟩ := alloc1 hw3
          clear hw3 hsz
          rw [hg] at K3
          have GW : Aside0 (w.heap.size < g) := ⟨by rw [← hg]; exact blk_lt BK.out⟩
          replace BK := Aside0.mk (blk_below BK.out hb3)
          replace HB := Aside0.mk (below_then HB.out HB.out.size hb3)
          have GK := Aside0.mk K3
          clear K3 hb3 hg
          exact norm_ (by simp only [putAll, Act.put, List.setIfInBounds_toArray, List.set_cons_zero, List.set_cons_succ]) (hCont g _ ⟨hS, BK.out, GK.out, GW.out, HB.out⟩)
        · skip
          refine va ?_
          refine nx hK ⟨pw_cell_below (below_then HB.out HB.out.size (below_alloc (Below.refl _ _) _)) C6.out, pw_cell_below (below_then HB.out HB.out.size (below_alloc (Below.refl _ _) _)) C1.out, Kd.C_string (P := Try.prog) Try.underlying22 Try.underlying5 Try.underlying9 (HC4.out _ (Kd.C_below HX.out (below_then HB.out HB.out.size (below_alloc (Below.refl _ _) _))))⟩ (fun hS => ?_)
          clear hK K
          generalize hg : w1.heap.size = g at hS ⊢
          generalize hw3 : w1.alloc _ = wd5 at hS ⊢
          obtain ⟨K3, hb3, hsz⟩ := alloc1 hw3
          clear hw3 hsz
          rw [hg] at K3
          have GW : Aside0 (w.heap.size < g) := ⟨by rw [← hg]; exact blk_lt BK.out⟩
          replace BK := Aside0.mk (blk_below BK.out hb3)
          replace HB := Aside0.mk (below_then HB.out HB.out.size hb3)
          have GK := Aside0.mk K3
          clear K3 hb3 hg
          refine on 14 50298879 (fun K hK => ?_)
          refine ca (num_c _ _ _ _ (HC3.out _ (Kd.C_below HX.out HB.out))) Try.func162 ?_
          rintro e wd6 ⟨rfl, hE⟩
          have hE := hE.symm
          subst hE
          refine ⟨_, rfl, nx hK hS (fun hS => ?_)⟩
          clear hK K
          refine pu 15 50331647 ?_
          refine pu 24 67108863 ?_
          exact norm_ (by simp only [putAll, Act.put, List.setIfInBounds_toArray, List.set_cons_zero, List.set_cons_succ]) (hCont g _ ⟨hS, BK.out, GK.out, GW.out, HB.out⟩)
      · skip
        refine va ?_
        refine nx hK ⟨pw_cell_below (below_then HB.out HB.out.size (below_alloc (Below.refl _ _) _)) C6.out, pw_cell_below (below_then HB.out HB.out.size (below_alloc (Below.refl _ _) _)) C1.out, Kd.C_string (P := Try.prog) Try.underlying22 Try.underlying5 Try.underlying9 (HC4.out _ (Kd.C_below HX.out (below_then HB.out HB.out.size (below_alloc (Below.refl _ _) _))))⟩ (fun hS => ?_)
        clear hK K
        generalize hg : w1.heap.size = g at hS ⊢
        generalize hw3 : w1.alloc _ = wd7 at hS ⊢
        obtain ⟨K3, hb3, hsz⟩ := alloc1 hw3
        clear hw3 hsz
        rw [hg] at K3
        have GW : Aside0 (w.heap.size < g) := ⟨by rw [← hg]; exact blk_lt BK.out⟩
        replace BK := Aside0.mk (blk_below BK.out hb3)
        replace HB := Aside0.mk (below_then HB.out HB.out.size hb3)
        have GK := Aside0.mk K3
        clear K3 hb3 hg
        refine on 10 50280447 (fun K hK => ?_)
        refine ca (num_c _ _ _ _ (HC2.out _ (Kd.C_below HX.out HB.out))) Try.func162 ?_
        rintro e wd8 ⟨rfl, hE⟩
        have hE := hE.symm
        subst hE
        refine ⟨_, rfl, nx hK hS (fun hS => ?_)⟩
        clear hK K
        refine pu 11 50282495 ?_
        refine on 14 50298879 (fun K hK => ?_)
        refine ca (num_c _ _ _ _ (HC3.out _ (Kd.C_below HX.out HB.out))) Try.func162 ?_
        rintro e wd9 ⟨rfl, hE⟩
        have hE := hE.symm
        subst hE
        refine ⟨_, rfl, nx hK hS (fun hS => ?_)⟩
        clear hK K
        refine pu 15 50331647 ?_
        refine pu 24 67108863 ?_
        exact norm_ (by simp only [putAll, Act.put, List.setIfInBounds_toArray, List.set_cons_zero, List.set_cons_succ]) (hCont g _ ⟨hS, BK.out, GK.out, GW.out, HB.out⟩)
    · skip
      refine va ?_
      refine nx hK ⟨pw_cell_below (below_then HB.out HB.out.size (below_alloc (Below.refl _ _) _)) C6.out, pw_cell_below (below_then HB.out HB.out.size (below_alloc (Below.refl _ _) _)) C1.out, Kd.C_string (P := Try.prog) Try.underlying22 Try.underlying5 Try.underlying9 (HC4.out _ (Kd.C_below HX.out (below_then HB.out HB.out.size (below_alloc (Below.refl _ _) _))))⟩ (fun hS => ?_)
      clear hK K
      generalize hg : w1.heap.size = g at hS ⊢
      generalize hw3 : w1.alloc _ = wd10 at hS ⊢
      obtain ⟨K3, hb3, hsz⟩ := alloc1 hw3
      clear hw3 hsz
      rw [hg] at K3
      have GW : Aside0 (w.heap.size < g) := ⟨by rw [← hg]; exact blk_lt BK.out⟩
      replace BK := Aside0.mk (blk_below BK.out hb3)
      replace HB := Aside0.mk (below_then HB.out HB.out.size hb3)
      have GK := Aside0.mk K3
      clear K3 hb3 hg
      refine on 2 50279415 (fun K hK => ?_)
      refine ca (num_c _ _ _ _ (HC1.out _ (Kd.C_below HX.out HB.out))) Try.func162 ?_
      rintro e wd11 ⟨rfl, hE⟩
      have hE := hE.symm
      subst hE
      refine ⟨_, rfl, nx hK hS (fun hS => ?_)⟩
      clear hK K
      refine pu 3 50279423 ?_
      refine on 10 50280447 (fun K hK => ?_)
      refine ca (num_c _ _ _ _ (HC2.out _ (Kd.C_below HX.out HB.out))) Try.func162 ?_
      rintro e wd12 ⟨rfl, hE⟩
      have hE := hE.symm
      subst hE
      refine ⟨_, rfl, nx hK hS (fun hS => ?_)⟩
      clear hK K
      refine pu 11 50282495 ?_
      refine on 14 50298879 (fun K hK => ?_)
      refine ca (num_c _ _ _ _ (HC3.out _ (Kd.C_below HX.out HB.out))) Try.func162 ?_
      rintro e wd13 ⟨rfl, hE⟩
      have hE := hE.symm
      subst hE
      refine ⟨_, rfl, nx hK hS (fun hS => ?_)⟩
      clear hK K
      refine pu 15 50331647 ?_
      refine pu 24 67108863 ?_
      exact norm_ (by simp only [putAll, Act.put, List.setIfInBounds_toArray, List.set_cons_zero, List.set_cons_succ]) (hCont g _ ⟨hS, BK.out, GK.out, GW.out, HB.out⟩)
  rintro g wj ⟨hS, BK0, GK, GW, HB0⟩
  clear BK HB
  refine norm_ (a' := ?_) ?_ ?_
  rotate_left
  · simp only [putAll, Act.put, List.setIfInBounds_toArray, List.set_cons_zero, List.set_cons_succ]
    rfl
  have d0 := (blk_cell GK 0).trans rfl; have z0 := blk_frozen GK 0
  have d1 := (blk_cell GK 1).trans rfl; have z1 := blk_frozen GK 1
  have d2 := (blk_cell GK 2).trans rfl; have z2 := blk_frozen GK 2
  have d3 := (blk_cell GK 3).trans rfl; have z3 := blk_frozen GK 3
  have d4 := (blk_cell GK 4).trans rfl; have z4 := blk_frozen GK 4
  obtain ⟨GK2, q5⟩ := set5 GK (.int .i64 (wrap64 (numL (seg b 2 6)))) (.int .i64 (wrap64 (rd b 6))) (.int .i64 (wrap64 (numL (seg b 7 9)))) (.int .i64 (wrap64 (numL (seg b 9 17)))) (.string (strOfNums (seg b 17 (17 + (rd b 1).toNat))))
  refine on 26 134217727 (fun K hK => ?_)
  refine st ?_
  have BK := Aside0.mk (q5.blk BK0 (by simp; omega))
  have HB := Aside0.mk (q5.toBelow HB0 HB0.size (fun x hx => by simp at hx; omega))
  have GK := Aside0.mk GK2
  refine nx hK ⟨pw_cell_below HB.out C6.out, pw_cell_below HB.out C1.out, Kd.C_string (P := Try.prog) Try.underlying22 Try.underlying5 Try.underlying9 (HC4.out _ (Kd.C_below HX.out HB.out))⟩ (fun hS => dn ?_)
  clear hK K hS l6 l1 d0 d1 d2 d3 d4 z0 z1 z2 z3 z4 q5 GK2 BK0 HB0
  generalize (((((wj.setCell _ _).setCell _ _).setCell _ _).setCell _ _).setCell _ _) = w3 at BK HB GK ⊢
  go_upto_region 4 with (fail)
  have d0 := (blk_cell GK.out 0).trans rfl
  have d1 := (blk_cell GK.out 1).trans rfl
  have d2 := (blk_cell GK.out 2).trans rfl
  have d3 := (blk_cell GK.out 3).trans rfl
  have d4 := (blk_cell GK.out 4).trans rfl
  go_wp2_with fail
  refine (implNoteOk_c (noteOf b) false ⟨fun h => (by cases h), fun h => absurd h HO.out⟩ _ (by show (strOfNums (seg b 17 (17 + (rd b 1).toNat))).size ≤ _; rw [HT.out]; omega)).mono ?_
  rintro e w4 ⟨rfl, hb4⟩
  replace BK := Aside0.mk (blk_below BK.out hb4); replace GK := Aside0.mk (blk_below GK.out hb4); replace HB := Aside0.mk (below_then HB.out HB.out.size hb4)
  clear hb4 d0 d1 d2 d3 d4
  have e0 := (blk_cell BK.out 0).trans rfl; have z0 := blk_frozen BK.out 0
  have e1 := (blk_cell BK.out 1).trans rfl; have z1 := blk_frozen BK.out 1
  have e2 := (blk_cell BK.out 2).trans rfl; have z2 := blk_frozen BK.out 2
  have e3 := (blk_cell BK.out 3).trans rfl; have z3 := blk_frozen BK.out 3
  have e4 := (blk_cell BK.out 4).trans rfl; have z4 := blk_frozen BK.out 4
  have e5 := (blk_cell BK.out 5).trans rfl; have z5 := blk_frozen BK.out 5
  have e6 := (blk_cell BK.out 6).trans rfl; have z6 := blk_frozen BK.out 6
  go_wp2
  obtain ⟨BK2, q⟩ := set7 BK.out (.bool false) (.int .i64 0) (.int .i64 0) (.int .i64 0) (.int .i64 0) (.string { data := #[] }) (.int .i64 0)
  refine bodyPost_ret (results_cell_row rfl _ _ w.heap.size 171 #[.bool false, .int .i64 0, .int .i64 0, .int .i64 0, .int .i64 0, .string { data := #[] }, .int .i64 0] (0, 0) _ rfl BK2 Try.underlying171 rfl (by kernel_rfl)) rfl ?_
  exact ⟨rfl, q.toBelow HB.out HB.out.size (fun x hx => by simp at hx; omega)⟩
end Go.Proofs.Ytocdlibnmlcokaa
namespace Go.Proofs.Ytocdlibnmlcokaa
open Go.RowKit Go.Proofs.YtocdlibnmlcokaaW.PrintWords Go.Proofs.YtocdlibnmlcokaaW.PrintLast
set_option linter.unusedVariables false
set_option linter.unusedSimpArgs false
end Go.Proofs.Ytocdlibnmlcokaa
namespace Go.Proofs.Ytocdlibnmlcokaa
open Go.RowKit Go.Proofs.YtocdlibnmlcokaaW.PrintWords Go.Proofs.YtocdlibnmlcokaaW.PrintLast
set_option linter.unusedVariables false
set_option linter.unusedSimpArgs false
set_option maxHeartbeats 4000000 in
set_option maxRecDepth 100000 in
theorem implReadFrame_early (A : Option Addr) (c : Nat) (b : List Int) (w : World) (hx : kB.C w A b.length b) (hb : BsOk b) (hno : ¬ (17 ≤ b.length ∧ rd b 0 = 78 ∧ 17 + rd b 1 ≤ b.length)) :
    Calls Try.prog 147 #[.slice A b.length c] w (GotFr w false noNt 0) := by
  have hbl : b.length ≤ 9223372036854775807 := hx.2.1
  have hb10 := (hb.rd 1).1
  have hb11 := (hb.rd 1).2
  have HX := Aside0.mk hx; have HN := Aside0.mk hno; clear hx hb hno
  have BK := Aside0.mk (blk_new w (.cells #[.bool false, .int .i64 0, .int .i64 0, .int .i64 0, .int .i64 0, .string { data := #[] }, .int .i64 0] 171))
  have HB := Aside0.mk (below_alloc (Below.refl w.heap.size w) (.cells #[.bool false, .int .i64 0, .int .i64 0, .int .i64 0, .int .i64 0, .string { data := #[] }, .int .i64 0] 171))
  go_enter Try.func147, Try.ntmps147
  go_upto_region 1 with (fail)
  generalize w.alloc _ = w0 at BK HB ⊢
  have e0 := (blk_cell BK.out 0).trans rfl; have z0 := blk_frozen BK.out 0
  have e1 := (blk_cell BK.out 1).trans rfl; have z1 := blk_frozen BK.out 1
  have e2 := (blk_cell BK.out 2).trans rfl; have z2 := blk_frozen BK.out 2
  have e3 := (blk_cell BK.out 3).trans rfl; have z3 := blk_frozen BK.out 3
  have e4 := (blk_cell BK.out 4).trans rfl; have z4 := blk_frozen BK.out 4
  have e5 := (blk_cell BK.out 5).trans rfl; have z5 := blk_frozen BK.out 5
  have e6 := (blk_cell BK.out 6).trans rfl; have z6 := blk_frozen BK.out 6
  by_cases h17 : b.length < 17
  · go_wp2
    obtain ⟨BK2, q⟩ := set7 BK.out (.bool false) (.int .i64 0) (.int .i64 0) (.int .i64 0) (.int .i64 0) (.string { data := #[] }) (.int .i64 0)
    refine bodyPost_ret (results_cell_row rfl _ _ w.heap.size 171 #[.bool false, .int .i64 0, .int .i64 0, .int .i64 0, .int .i64 0, .string { data := #[] }, .int .i64 0] (0, 0) _ rfl BK2 Try.underlying171 rfl (by kernel_rfl)) rfl ?_
    exact ⟨rfl, q.toBelow HB.out HB.out.size (fun x hx => by simp at hx; omega)⟩
  obtain ⟨ad, e_, c0⟩ := Kd.at_int HX.out 0 (by omega) (by omega)
  cases e_
  obtain ⟨ad, e_, c1⟩ := Kd.at_int HX.out 1 (by omega) (by omega)
  cases e_
  simp only [show (1 : Int).toNat = 1 from rfl, show (0 : Int).toNat = 0 from rfl, Go.Addr.add, Nat.reduceEqDiff, if_false, if_true] at c1 c0
  replace c0 := pw_cell_below HB.out c0; replace c1 := pw_cell_below HB.out c1
  have h17' : 17 ≤ b.length := by omega
  clear h17
  by_cases h0 : rd b 0 = 78
  · have h78 := eqT h0
    have hk : (b.length : Int) < 17 + rd b 1 := by
      have := HN.out
      rcases Int.lt_or_le (b.length : Int) (17 + rd b 1) with h | h
      · exact h
      · exact absurd ⟨h17', h0, h⟩ this
    clear h0
    go_wp2
    obtain ⟨BK2, q⟩ := set7 BK.out (.bool false) (.int .i64 0) (.int .i64 0) (.int .i64 0) (.int .i64 0) (.string { data := #[] }) (.int .i64 0)
    refine bodyPost_ret (results_cell_row rfl _ _ w.heap.size 171 #[.bool false, .int .i64 0, .int .i64 0, .int .i64 0, .int .i64 0, .string { data := #[] }, .int .i64 0] (0, 0) _ rfl BK2 Try.underlying171 rfl (by kernel_rfl)) rfl ?_
    exact ⟨rfl, q.toBelow HB.out HB.out.size (fun x hx => by simp at hx; omega)⟩
  · have h78 := eqF h0
    go_wp2
    obtain ⟨BK2, q⟩ := set7 BK.out (.bool false) (.int .i64 0) (.int .i64 0) (.int .i64 0) (.int .i64 0) (.string { data := #[] }) (.int .i64 0)
    refine bodyPost_ret (results_cell_row rfl _ _ w.heap.size 171 #[.bool false, .int .i64 0, .int .i64 0, .int .i64 0, .int .i64 0, .string { data := #[] }, .int .i64 0] (0, 0) _ rfl BK2 Try.underlying171 rfl (by kernel_rfl)) rfl ?_
    exact ⟨rfl, q.toBelow HB.out HB.out.size (fun x hx => by simp at hx; omega)⟩
theorem implReadFrame_yes (A : Option Addr) (c : Nat) (b : List Int) (w : World) (hx : kB.C w A b.length b) (hc : b.length ≤ c) (hb : BsOk b) (h : FrIs b) :
    Calls Try.prog 147 #[.slice A b.length c] w (GotFr w true (noteOf b) (frLen b)) :=
  implReadFrame_y A c b w hx hc hb h.1 h.2.1 h.2.2.1 h.2.2.2
theorem implReadFrame_no (A : Option Addr) (c : Nat) (b : List Int) (w : World) (hx : kB.C w A b.length b) (hc : b.length ≤ c) (hb : BsOk b) (h : ¬ FrIs b) :
    Calls Try.prog 147 #[.slice A b.length c] w (GotFr w false noNt 0) := by
  by_cases h1 : 17 ≤ b.length ∧ rd b 0 = 78 ∧ 17 + rd b 1 ≤ b.length
  · exact implReadFrame_n A c b w hx hc hb h1.1 h1.2.1 h1.2.2 (fun hn => h ⟨h1.1, h1.2.1, h1.2.2, hn⟩)
  · exact implReadFrame_early A c b w hx hb h1
end Go.Proofs.Ytocdlibnmlcokaa
namespace Go.Proofs.Ytocdlibnmlcokaa
open Go.RowKit Go.Proofs.YtocdlibnmlcokaaW.PrintWords Go.Proofs.YtocdlibnmlcokaaW.PrintLast
set_option linter.unusedVariables false
set_option linter.unusedSimpArgs false
abbrev strL (s : ByteArray) : List Int := Go.Proofs.YtocdlibnmlcokaaW.PrintWords.bytesOf s
theorem str_at {w w' : World} {v v' : Value} {n : Nat} {xs : List Value} {s : ByteArray} {ty : TypeId} {i : TypeInfo} (hi : Try.prog.info? 5 = some i) (hz : i.zero = some (.int .u8 0)) (hsize : i.size = 1) (hby : i.bytes = 1)
    (hown : w.ownsRow 0 5 1 v n xs) (hl : n + s.size ≤ 100000) (hr : (Builtin.append_ #[22, 9] ty #[v, .string s]).run Try.prog w = .ok v' w') (hnil : v' = .slice none 0 0 ↔ v = .slice none 0 0 ∧ s.size = 0) :
    v'.ownBlock = v.ownBlock ∨ v'.ownBlock = some w.heap.size := by
  have hxl : xs.length = n := by simpa using hown.1
  rcases hown.2 with ⟨rfl, rfl⟩ | ⟨g, cap, cur, rfl, hbg, hg, hnc, hcm, hcs, htake⟩
  · by_cases hm : s.size = 0
    · rw [hnil.2 ⟨rfl, hm⟩]; exact .inl rfl
    · have h2 := run_append_nil_string (P := Try.prog) w 22 9 ty 5 i (.int .u8 0) Try.underlying22 Try.underlying9 hi hz s (by omega) (by omega) (by rw [hby]; omega)
      rw [hr] at h2
      injection h2 with h2 _
      rw [h2]; exact .inr rfl
  · by_cases hroom : n + s.size ≤ cap
    · have h2 := Lib.run_append_room_string (P := Try.prog) w 22 9 ty 5 i Try.underlying22 Try.underlying9 hi hsize g n cap cur hg s hroom (by simp only [maxLen] at hcm; omega)
      rw [hr] at h2
      injection h2 with h2 _
      rw [h2]; exact .inl rfl
    · have h2 := Lib.run_append_grow_string (P := Try.prog) w 22 9 ty 5 i (.int .u8 0) Try.underlying22 Try.underlying9 hi hz ⟨g, 0, none⟩ n cap xs (by rw [hsize]; simpa using hxl) (hown.cells (g := g) rfl) s (by omega) (by omega) (by rw [hby]; exact growslice_fits (by omega) (by omega))
      rw [hr] at h2
      injection h2 with h2 _
      rw [h2]; exact .inr rfl
section
variable {ops : Array Oper} {rest : List Oper} {o : Oper} {a : Act} {Q : Exit → Act → World → Prop} {w W : World} {g t : Nat} {cells : Array Value}
theorem Bx.app_str (ht : t ≠ 5) (hgd : o.guard = none) (s x : Operand)
    (ho : o.op = .call { callee := .builtin .append, args := #[s, x], argTypes := #[22, 9] })
    (v : Value) (xs : List Int) (y : ByteArray) (hs : a.eval s = v) (hx : a.eval x = .string y)
    (HO : Bx w g t cells W v xs) (hl : xs.length + y.size ≤ 100000)
    (h : ∀ v1 w1, Bx w g t cells w1 v1 (xs ++ strL y) → wpList Try.prog ops Q rest (a.put o.dst v1) w1) :
    wpList Try.prog ops Q (o :: rest) a W := by
  obtain ⟨f, hr, hn, hf⟩ := HO.row
  obtain ⟨hown, e⟩ := Rp.own_Row hr
  subst e
  obtain ⟨i0, hi, hzz⟩ := Option.map_eq_some_iff.1 info5
  simp only [Prod.mk.injEq] at hzz
  obtain ⟨hz0, hz1, hz2⟩ := hzz
  obtain ⟨v1, w1, hrun, hown1, hg, hnil⟩ := Lib.run_append_own_string (P := Try.prog) W 0 22 9 o.type 5 i0 Try.underlying22 Try.underlying9 hi hz0 hz1 hz2 v xs.length _ hown y (by simp only [maxLen]; omega) (by omega) (Nat.zero_le _)
  have hat := str_at hi hz0 hz1 hz2 hown hl hrun hnil
  have hc : encs (Value.int .u8) (xs ++ strL y) = encs (Value.int .u8) xs ++ Lib.strCells y := by
    simp [encs, strL, Go.Proofs.YtocdlibnmlcokaaW.PrintWords.bytesOf, Lib.strCells]
  have h3 : w1.ownsRow 0 5 1 v1 (xs ++ strL y).length (encs (Value.int .u8) (xs ++ strL y)) := by
    rw [hc, List.length_append, bytesOf_length]; exact hown1
  refine wpList_plain hgd fun K hK => ?_
  unfold Oper.wp execOp
  simp only [ho, resolve, invoke, builtin, Sem.run_bind, Sem.run_pure, Result.andThen_ok, List.map_toArray, List.map_cons, List.map_nil, hs, hx, hrun]
  refine hK _ _ (h v1 w1 (HO.app ht (Rp.Row_own (enc := Value.int .u8) (h1 := fun _ => rfl) h3) (Rp.nodup_toList _) (fun b hb => ?_) hg))
  rcases hat with hat | hat
  · rw [hat] at hb; exact .inl hb
  · rw [hat] at hb; simp at hb; exact .inr (by omega)
end
def frameL (x : Nt) : List Int := ((((([78, (x.text.size : Int)] : List Int) ++ lowTo x.tick 4) ++ [x.kind]) ++ lowTo x.who 2) ++ lowTo (IntKind.u64.wrap x.n) 8) ++ strL x.text
set_option maxHeartbeats 8000000 in
set_option maxRecDepth 100000 in
theorem implFrame_yes (x : Nt) (w : World) (hok : NtOk x) :
    Calls Try.prog 113 #[vN x] w (GotRow rB 5 w (frameL x)) := by
  have g1 := hok.1.1; have g2 := hok.1.2; have g3 := hok.2.1.1; have g4 := hok.2.1.2; have g5 := hok.2.2.1.1; have g6 := hok.2.2.1.2; have g7 := hok.2.2.2
  have HO := Aside0.mk hok; clear hok
  simp only [vN] at *
  have BK := Aside0.mk (blk_new w (.cells #[.int .i64 x.tick, .int .i64 x.kind, .int .i64 x.who, .int .i64 x.n, .string x.text] 33))
  have HB := Aside0.mk (below_alloc (Below.refl w.heap.size w) (.cells #[.int .i64 x.tick, .int .i64 x.kind, .int .i64 x.who, .int .i64 x.n, .string x.text] 33))
  go_enter Try.func113, Try.ntmps113
  go_upto_region 1 with (fail)
  generalize w.alloc _ = w0 at BK HB ⊢
  have q0 := (blk_cell BK.out 0).trans rfl; have q1 := (blk_cell BK.out 1).trans rfl; have q2 := (blk_cell BK.out 2).trans rfl; have q3 := (blk_cell BK.out 3).trans rfl; have q4 := (blk_cell BK.out 4).trans rfl
  go_wp2_with fail
  refine (implNoteOk_c x true ⟨fun _ => HO.out, fun _ => rfl⟩ _ (by omega)).mono ?_
  rintro e w1 ⟨rfl, hb1⟩
  replace BK := Aside0.mk (blk_below BK.out hb1)
  replace HB := Aside0.mk (below_then HB.out HB.out.size hb1)
  clear hb1 q0 q1 q2 q3 q4
  have q4 := (blk_cell BK.out 4).trans rfl
  go_upto_region 4 with (fail)
  have hX : Bx w w.heap.size 33 #[.int .i64 x.tick, .int .i64 x.kind, .int .i64 x.who, .int .i64 x.n, .string x.text] (w1.alloc (.cells #[.int .u8 78, .int .u8 (x.text.size : Int)] 5)) (.slice (some ⟨w1.heap.size, 0, none⟩) 2 2) [78, (x.text.size : Int)] := Bx.lit HB.out BK.out [78, (x.text.size : Int)] (by simp)
  generalize w1.alloc _ = w2 at hX ⊢
  generalize (some (⟨w1.heap.size, 0, none⟩ : Addr)) = B1 at hX ⊢
  have X1 := Aside0.mk hX
  clear hX BK HB q4
  have q0 := (blk_cell X1.out.box 0).trans rfl
  go_wp2_with fail
  refine (X1.out.low_c (by decide) _ 4 (by simp [lowTo_len]) (by decide)).mono ?_
  rintro e w11 ⟨v2, rfl, hX⟩
  have X2 := Aside0.mk hX
  clear hX X1 q0
  have q0 := (blk_cell X2.out.box 1).trans rfl
  go_wp2_with fail
  refine (X2.out.low_c (by decide) _ 1 (by simp [lowTo_len]) (by decide)).mono ?_
  rintro e w12 ⟨v3, rfl, hX⟩
  have X3 := Aside0.mk hX
  clear hX X2 q0
  have q0 := (blk_cell X3.out.box 2).trans rfl
  go_wp2_with fail
  refine (X3.out.low_c (by decide) _ 2 (by simp [lowTo_len]) (by decide)).mono ?_
  rintro e w13 ⟨v4, rfl, hX⟩
  have X4 := Aside0.mk hX
  clear hX X3 q0
  have q0 := (blk_cell X4.out.box 3).trans rfl
  go_wp2_with fail
  refine (X4.out.low_c (by decide) _ 8 (by simp [lowTo_len]) (by decide)).mono ?_
  rintro e w14 ⟨v5, rfl, hX⟩
  have X5 := Aside0.mk hX
  clear hX X4 q0
  have q0 := (blk_cell X5.out.box 4).trans rfl
  go_wp2_with (at_builtin; go_loud (refine Bx.app_str (t := 33) (by decide) rfl (.tmp 32) (.tmp 34) rfl v5 _ x.text rfl rfl X5.out (by simp [lowTo_len]; omega) ?_); intro v6 w15 hX; have X6 := Aside0.mk hX; clear hX)
  go_ret
  have hX := X6.out
  rw [show lowTo x.kind 1 = [x.kind] by simp [lowTo, shTo]; omega] at hX
  refine ⟨_, rfl, hX.done⟩
end Go.Proofs.Ytocdlibnmlcokaa
namespace Go.Proofs.Ytocdlibnmlcokaa
open Go.RowKit Go.Proofs.YtocdlibnmlcokaaW.PrintWords Go.Proofs.YtocdlibnmlcokaaW.PrintLast
set_option linter.unusedVariables false
set_option linter.unusedSimpArgs false
instance (b : List Int) : Decidable (PgIs b) := by unfold PgIs PgOk; infer_instance
def bodyL (gen : Int) : Int → List (List Int) → List Int
  | _, [] => []
  | last, b :: r => if PgIs b ∧ last ≤ genOf b ∧ genOf b ≤ gen then (if (bytesOf b).length < 56 then bytesOf b else bytesOf b ++ bodyL gen (genOf b) r) else []
def headOk (bs : List (List Int)) : Prop := PgIs (gBS bs 0) ∧ (bytesOf (gBS bs 0)).length = 0
def BlOk (bs : List (List Int)) : Prop := bs.length = 128 ∧ ∀ b ∈ bs, b.length = 64 ∧ BsOk b
theorem BlOk.g {bs : List (List Int)} (h : BlOk bs) {i : Int} (h0 : 0 ≤ i) (h1 : i < 128) : (gBS bs i).length = 64 ∧ BsOk (gBS bs i) := by
  have := h.1
  rw [gBS_eq (by omega)]; exact h.2 _ (List.getElem_mem _)
theorem from_c (A : Option Addr) (n c : Nat) (h : 1 ≤ n) : ∀ W : World, (Instr.slice 40 (.slice A n c) (some (.int .i64 1)) none none).run Try.prog W = .ok (.slice (if c = 1 then A else A.map (·.add 1)) (n - 1) (c - 1)) W := by
  obtain ⟨i0, hi, hzz⟩ := Option.map_eq_some_iff.1 info22
  simp only [Prod.mk.injEq] at hzz
  exact cut_from 40 22 .i64 Try.underlying40 hi 1 hzz.2.1 A n c 1 (by omega) (by omega)
section
variable {P : Program} {ops : Array Oper} {rest : List Oper} {o : Oper} {a : Act} {Q : Exit → Act → World → Prop} {w W : World} {g t g2 t2 : Nat} {cells cells2 : Array Value}
end
def GotBy (w : World) (xs : List Int) (gen : Int) (e : Ending) (w' : World) : Prop :=
  ∃ v f, e = .returned (.tuple #[v, .int .i64 gen]) ∧ rB.Row 5 w' v xs f ∧ f.Nodup ∧ (∀ b ∈ f, w.heap.size ≤ b) ∧ Below w.heap.size w w'
theorem GotBy.of {w wi : World} {g t : Nat} {cells : Array Value} {v : Value} {xs : List Int} (gen : Int) (n : Nat) (X : Bx w g t cells wi v xs) : GotBy w xs gen (.returned (.tuple #[v, .int .i64 gen])) (wi.drewN n) := by
  obtain ⟨f, hr, hn, hf⟩ := X.row
  exact ⟨v, f, rfl, Rp.Row_drewN hr n, hn, hf, pw_below_drewN X.bel n⟩
theorem bodyL_no {gen last : Int} {b : List Int} {r : List (List Int)} (h : ¬ (PgIs b ∧ last ≤ genOf b ∧ genOf b ≤ gen)) : bodyL gen last (b :: r) = [] := by simp only [bodyL, if_neg h]
theorem bodyL_yes {gen last : Int} {b : List Int} {r : List (List Int)} (h : PgIs b ∧ last ≤ genOf b ∧ genOf b ≤ gen) : bodyL gen last (b :: r) = if (bytesOf b).length < 56 then bytesOf b else bytesOf b ++ bodyL gen (genOf b) r := by simp only [bodyL, if_pos h]
end Go.Proofs.Ytocdlibnmlcokaa
namespace Go.Proofs.Ytocdlibnmlcokaa
open Go.RowKit Go.Proofs.YtocdlibnmlcokaaW.PrintWords Go.Proofs.YtocdlibnmlcokaaW.PrintLast
set_option linter.unusedVariables false
set_option linter.unusedSimpArgs false
instance (b : List Int) : Decidable (FrIs b) := by unfold FrIs NtOk; infer_instance
def framesF : Nat → List Int → List Nt × Nat
  | 0, _ => ([], 0)
  | k + 1, b => if FrIs b then (noteOf b :: (framesF k (b.drop (frLen b).toNat)).1, (frLen b).toNat + (framesF k (b.drop (frLen b).toNat)).2) else ([], 0)
def framesL (b : List Int) : List Nt × Nat := framesF b.length b
theorem framesF_no {b : List Int} (h : ¬ FrIs b) : ∀ k, framesF k b = ([], 0)
  | 0 => rfl
  | k + 1 => by simp only [framesF, if_neg h]
theorem framesF_yes {b : List Int} (h : FrIs b) (k : Nat) : framesF (k + 1) b = (noteOf b :: (framesF k (b.drop (frLen b).toNat)).1, (frLen b).toNat + (framesF k (b.drop (frLen b).toNat)).2) := by simp only [framesF, if_pos h]
theorem fr_len {b : List Int} (hb : BsOk b) (h : FrIs b) : 17 ≤ frLen b ∧ frLen b ≤ b.length := ⟨by have := (hb.rd 1).1; unfold frLen; omega, h.2.2.1⟩
theorem BsOk.drop {b : List Int} (h : BsOk b) (n : Nat) : BsOk (b.drop n) := fun x hx => h x (List.mem_of_mem_drop hx)
theorem low_cut {A : Option Addr} {c : Nat} {xs : List Int} (l : Nat) (h : l ≤ xs.length) (hc : xs.length ≤ c) :
    ∃ A' : Option Addr, (∀ W : World, (Instr.slice 22 (.slice A xs.length c) (some (.int .i64 l)) none none).run Try.prog W = .ok (.slice A' (xs.drop l).length (c - l)) W) ∧
      (∀ w : World, kB.C w A xs.length xs → kB.C w A' (xs.drop l).length (xs.drop l)) ∧ (xs.drop l).length ≤ c - l := by
  obtain ⟨i0, hi, hzz⟩ := Option.map_eq_some_iff.1 info5
  simp only [Prod.mk.injEq] at hzz
  have h1 := cut_from (P := Try.prog) 22 5 .i64 Try.underlying22 hi 1 hzz.2.1 A xs.length c (l : Int) (by omega) (by omega)
  have h2 : (xs.drop l).length = xs.length - l := List.length_drop
  refine ⟨if c = l then A else A.map (·.add (l * 1)), fun W => by rw [h1 W, h2]; simp, fun w h => Kd.C_drop h (by omega) hc, by omega⟩
theorem info33 : (Try.prog.info? 33).map (fun i => (i.zero, i.size, i.bytes)) = some (some (.agg #[.int .i64 0, .int .i64 0, .int .i64 0, .int .i64 0, .string { data := #[] }]), 5, 48) := by kernel_rfl
theorem N_mk (w : World) (x : Nt) : rN.P w x [.int .i64 x.tick, .int .i64 x.kind, .int .i64 x.who, .int .i64 x.n, .string x.text] [] :=
  ⟨[.int .i64 x.tick], [.int .i64 x.kind, .int .i64 x.who, .int .i64 x.n, .string x.text], [], [], rfl, rfl, ⟨rfl, rfl⟩,
    ⟨[.int .i64 x.kind], [.int .i64 x.who, .int .i64 x.n, .string x.text], [], [], rfl, rfl, ⟨rfl, rfl⟩,
      ⟨[.int .i64 x.who], [.int .i64 x.n, .string x.text], [], [], rfl, rfl, ⟨rfl, rfl⟩,
        ⟨[.int .i64 x.n], [.string x.text], [], [], rfl, rfl, ⟨rfl, rfl⟩, ⟨rfl, rfl⟩⟩⟩⟩⟩
end Go.Proofs.Ytocdlibnmlcokaa
namespace Go.Proofs.Ytocdlibnmlcokaa
open Go.RowKit Go.Proofs.YtocdlibnmlcokaaW.PrintWords Go.Proofs.YtocdlibnmlcokaaW.PrintLast
set_option linter.unusedVariables false
set_option linter.unusedSimpArgs false
instance (bs : List (List Int)) : Decidable (headOk bs) := by unfold headOk; infer_instance
def logGen (bs : List (List Int)) : Int := if headOk bs then genOf (gBS bs 0) else 0
def logBytes (bs : List (List Int)) : List Int := if headOk bs then bodyL (genOf (gBS bs 0)) 1 (bs.drop 1) else []
theorem bodyL_ok {gen : Int} : ∀ (last : Int) (r : List (List Int)), (∀ b ∈ r, b.length = 64 ∧ BsOk b) → BsOk (bodyL gen last r) ∧ (bodyL gen last r).length ≤ 56 * r.length
  | _, [], _ => ⟨fun x hx => (by cases hx), by simp [bodyL]⟩
  | last, b :: r, h => by
    have hb := h b (List.mem_cons_self ..)
    have ih := bodyL_ok (gen := gen) (genOf b) r (fun x hx => h x (List.mem_cons_of_mem _ hx))
    by_cases hp : PgIs b ∧ last ≤ genOf b ∧ genOf b ≤ gen
    · have hl := bytesOf_len hb.2 hb.1 hp.1.2.1
      have hk : BsOk (bytesOf b) := hb.2.seg _ _
      rw [bodyL_yes hp]
      split
      · exact ⟨hk, by simp; omega⟩
      · exact ⟨hk.append ih.1, by simp; omega⟩
    · rw [bodyL_no hp]
      exact ⟨fun x hx => (by cases hx), by simp⟩
theorem bl_tail {bs : List (List Int)} (h : BlOk bs) : ∀ b ∈ bs.drop 1, b.length = 64 ∧ BsOk b := fun b hb => h.2 b (List.mem_of_mem_drop hb)
theorem logBytes_ok {bs : List (List Int)} (h : BlOk bs) : BsOk (logBytes bs) ∧ (logBytes bs).length ≤ 7112 := by
  unfold logBytes
  split
  · have := bodyL_ok (gen := genOf (gBS bs 0)) 1 (bs.drop 1) (bl_tail h)
    have h1 := h.1
    rw [List.length_drop] at this
    exact ⟨this.1, by omega⟩
  · exact ⟨fun x hx => (by cases hx), by simp⟩
theorem bodyL_zero {gen : Int} (r : List (List Int)) : bodyL gen 0 r = bodyL gen 1 r := by
  cases r with
  | nil => rfl
  | cons b r =>
    by_cases hp : PgIs b ∧ 1 ≤ genOf b ∧ genOf b ≤ gen
    · rw [bodyL_yes hp, bodyL_yes ⟨hp.1, by omega, hp.2.2⟩]
    · rw [bodyL_no hp, bodyL_no (fun h => hp ⟨h.1, h.1.2.2.1.2.1, h.2.2⟩)]
end Go.Proofs.Ytocdlibnmlcokaa
namespace Go.Proofs.Ytocdlibnmlcokaa
open Go.RowKit Go.Proofs.YtocdlibnmlcokaaW.PrintWords Go.Proofs.YtocdlibnmlcokaaW.PrintLast
set_option linter.unusedVariables false
set_option linter.unusedSimpArgs false
def Yes (w : World) (e : Ending) (w' : World) : Prop := e = .returned (.bool true) ∧ Below w.heap.size w w'
end Go.Proofs.Ytocdlibnmlcokaa
namespace Go.Proofs.Ytocdlibnmlcokaa
open Go.RowKit Go.Proofs.YtocdlibnmlcokaaW.PrintWords Go.Proofs.YtocdlibnmlcokaaW.PrintLast
set_option linter.unusedVariables false
set_option linter.unusedSimpArgs false
def gN (xs : List Nt) (i : Int) : Nt := xs.getD i.toNat ⟨0, 0, 0, 0, { data := #[] }⟩
theorem at_N {w : World} {A : Option Addr} {n : Nat} {xs : List Nt} (h : rN.d.C w A n xs) (i : Int) (h0 : 0 ≤ i) (h1 : i < n) : ∃ ad, A = some ad ∧ w.cell? (ad.add (i.toNat * 5)) = some (.int .i64 (gN xs i).tick)
    ∧ w.cell? ⟨(ad.add (i.toNat * 5)).block, (ad.add (i.toNat * 5)).off + 1, none⟩ = some (.int .i64 (gN xs i).kind) ∧ w.cell? ⟨(ad.add (i.toNat * 5)).block, (ad.add (i.toNat * 5)).off + 2, none⟩ = some (.int .i64 (gN xs i).who)
    ∧ w.cell? ⟨(ad.add (i.toNat * 5)).block, (ad.add (i.toNat * 5)).off + 3, none⟩ = some (.int .i64 (gN xs i).n) ∧ w.cell? ⟨(ad.add (i.toNat * 5)).block, (ad.add (i.toNat * 5)).off + 4, none⟩ = some (.string (gN xs i).text) := by
  obtain ⟨ad, c, e, _, hK, hc0⟩ := Kd.C_get h ⟨0, 0, 0, 0, { data := #[] }⟩ i h0 h1
  have hc : ∀ j u, c[j]? = some u → w.cell? (ad.add (i.toNat * 5 + j)) = some u := hc0
  obtain ⟨_, _, rfl, rfl, _, _, rfl, rfl, _, _, rfl, rfl, _, _, rfl, rfl, rfl⟩ := hK
  exact ⟨ad, e, hc 0 _ rfl, by rw [← add_field _ _ 1 (by omega)]; exact hc 1 _ rfl, by rw [← add_field _ _ 2 (by omega)]; exact hc 2 _ rfl, by rw [← add_field _ _ 3 (by omega)]; exact hc 3 _ rfl, by rw [← add_field _ _ 4 (by omega)]; exact hc 4 _ rfl⟩
end Go.Proofs.Ytocdlibnmlcokaa
namespace Go.Proofs.Ytocdlibnmlcokaa
open Go.RowKit Go.Proofs.YtocdlibnmlcokaaW.PrintWords Go.Proofs.YtocdlibnmlcokaaW.PrintLast
set_option linter.unusedVariables false
set_option linter.unusedSimpArgs false
def cN (x : Nt) : List Value := [.int .i64 x.tick, .int .i64 x.kind, .int .i64 x.who, .int .i64 x.n, .string x.text]
theorem N_open {w : World} {x : Nt} {cs : List Value} {fp : List Nat} (h : rN.P w x cs fp) : cs = cN x ∧ fp = [] := by
  obtain ⟨_, _, _, _, rfl, rfl, ⟨rfl, rfl⟩, _, _, _, _, rfl, rfl, ⟨rfl, rfl⟩, _, _, _, _, rfl, rfl, ⟨rfl, rfl⟩, _, _, _, _, rfl, rfl, ⟨rfl, rfl⟩, ⟨rfl, rfl⟩⟩ := h
  exact ⟨rfl, rfl⟩
section
variable {w : World} {g n cap i : Nat} {xs : List Nt} {fp : List Nat}
end
def zN : Nt := ⟨0, 0, 0, 0, { data := #[] }⟩
theorem gN_eq {xs : List Nt} {i : Int} (h : i.toNat < xs.length) : gN xs i = xs[i.toNat] := by simp [gN, List.getD_eq_getElem?_getD, h]
end Go.Proofs.Ytocdlibnmlcokaa
namespace Go.Proofs.Ytocdlibnmlcokaa
open Go.RowKit Go.Proofs.YtocdlibnmlcokaaW.PrintWords Go.Proofs.YtocdlibnmlcokaaW.PrintLast
set_option linter.unusedVariables false
set_option linter.unusedSimpArgs false
end Go.Proofs.Ytocdlibnmlcokaa
namespace Go.Proofs.Ytocdlibnmlcokaa
open Go.RowKit Go.Proofs.YtocdlibnmlcokaaW.PrintWords Go.Proofs.YtocdlibnmlcokaaW.PrintLast
set_option linter.unusedVariables false
set_option linter.unusedSimpArgs false
end Go.Proofs.Ytocdlibnmlcokaa
namespace Go.Proofs.Ytocdlibnmlcokaa
open Go.RowKit Go.Proofs.YtocdlibnmlcokaaW.PrintWords Go.Proofs.YtocdlibnmlcokaaW.PrintLast
set_option linter.unusedVariables false
set_option linter.unusedSimpArgs false
end Go.Proofs.Ytocdlibnmlcokaa
namespace Go.Proofs.Ytocdlibnmlcokaa
open Go.RowKit Go.Proofs.YtocdlibnmlcokaaW.PrintWords Go.Proofs.YtocdlibnmlcokaaW.PrintLast
set_option linter.unusedVariables false
set_option linter.unusedSimpArgs false
end Go.Proofs.Ytocdlibnmlcokaa
namespace Go.Proofs.Ytocdlibnmlcokaa
open Go.RowKit Go.Proofs.YtocdlibnmlcokaaW.PrintWords Go.Proofs.YtocdlibnmlcokaaW.PrintLast
set_option linter.unusedVariables false
set_option linter.unusedSimpArgs false
end Go.Proofs.Ytocdlibnmlcokaa
namespace Go.Proofs.Ytocdlibnmlcokaa
open Go.RowKit Go.Proofs.YtocdlibnmlcokaaW.PrintWords Go.Proofs.YtocdlibnmlcokaaW.PrintLast
set_option linter.unusedVariables false
set_option linter.unusedSimpArgs false
abbrev rI : Rp Int := Rp.int .i64
abbrev kI : Kd Int := Kd.int .i64
end Go.Proofs.Ytocdlibnmlcokaa
namespace Go.Proofs.Ytocdlibnmlcokaa
open Go.RowKit Go.Proofs.YtocdlibnmlcokaaW.PrintWords Go.Proofs.YtocdlibnmlcokaaW.PrintLast
set_option linter.unusedVariables false
set_option linter.unusedSimpArgs false
end Go.Proofs.Ytocdlibnmlcokaa
namespace Go.Proofs.Ytocdlibnmlcokaa
open Go.RowKit Go.Proofs.YtocdlibnmlcokaaW.PrintWords Go.Proofs.YtocdlibnmlcokaaW.PrintLast
set_option linter.unusedVariables false
set_option linter.unusedSimpArgs false
structure Rs where
  P : World → List Nat → Prop
  loc : ∀ {w w1 : World} {f : List Nat}, P w f → (∀ b ∈ f, w1.heap[b]? = w.heap[b]?) → P w1 f
  lt : ∀ {w : World} {f : List Nat}, P w f → ∀ b ∈ f, b < w.heap.size
namespace Rs
def box (g t : Nat) (cells : Array Value) : Rs where
  P := fun w f => f = [g] ∧ w.heap[g]? = some (.cells cells t (0, 0))
  loc := fun h hm => ⟨h.1, (hm g (by rw [h.1]; simp)).trans h.2⟩
  lt := fun h b hb => by rw [h.1] at hb; simp at hb; subst hb; exact blk_lt h.2
def row {α : Type} (r : Rp α) (e : Nat) (v : Value) (xs : List α) : Rs where
  P := fun w f => r.Row e w v xs f
  loc := fun h hm => Rp.Row_loc h hm
  lt := fun h => Rp.Row_lt h
def cel {α : Type} (r : Rp α) (cs : List Value) (x : α) : Rs where
  P := fun w f => r.P w x cs f
  loc := fun h hm => r.loc h hm
  lt := fun h => Rp.P_lt h
def sep (A B : Rs) : Rs where
  P := fun w f => ∃ a b, f = a ++ b ∧ A.P w a ∧ B.P w b
  loc := fun ⟨a, b, e, h1, h2⟩ hm => ⟨a, b, e, A.loc h1 (fun x hx => hm x (by rw [e]; exact List.mem_append_left _ hx)), B.loc h2 (fun x hx => hm x (by rw [e]; exact List.mem_append_right _ hx))⟩
  lt := fun ⟨a, b, e, h1, h2⟩ x hx => by
    rw [e] at hx
    rcases List.mem_append.1 hx with hx | hx
    · exact A.lt h1 x hx
    · exact B.lt h2 x hx
end Rs
def Holds (w : World) : List Rs → List Nat → Prop
  | [], f => f = []
  | R :: L, f => ∃ a b, f = a ++ b ∧ R.P w a ∧ Holds w L b
theorem Holds.loc {w w1 : World} : ∀ {L : List Rs} {f : List Nat}, Holds w L f → (∀ b ∈ f, w1.heap[b]? = w.heap[b]?) → Holds w1 L f
  | [], _, h, _ => h
  | R :: L, _, ⟨a, b, e, ha, hb⟩, hm => by subst e; exact ⟨a, b, rfl, R.loc ha (fun x hx => hm x (List.mem_append_left _ hx)), Holds.loc hb (fun x hx => hm x (List.mem_append_right _ hx))⟩
theorem Holds.lt {w : World} : ∀ {L : List Rs} {f : List Nat}, Holds w L f → ∀ b ∈ f, b < w.heap.size
  | [], _, h, x, hx => by have h : _ = [] := h; subst h; cases hx
  | R :: L, _, ⟨a, b, e, ha, hb⟩, x, hx => by
    subst e
    rcases List.mem_append.1 hx with hx | hx
    · exact R.lt ha x hx
    · exact Holds.lt hb x hx
theorem Holds.append {w : World} : ∀ {L M : List Rs} {f g : List Nat}, Holds w L f → Holds w M g → Holds w (L ++ M) (f ++ g)
  | [], _, _, _, h, k => by have h : _ = [] := h; subst h; exact k
  | R :: L, M, _, g, ⟨a, b, e, ha, hb⟩, k => by subst e; exact ⟨a, b ++ g, List.append_assoc .., ha, Holds.append hb k⟩
structure Own (w0 w : World) (L : List Rs) : Prop where
  ex : ∃ f, Holds w L f ∧ f.Nodup ∧ ∀ b ∈ f, w0.heap.size ≤ b
  bel : Below w0.heap.size w0 w
namespace Own
variable {w0 w w1 : World} {L M : List Rs} {R R' R1 R2 R3 R4 R5 R6 R7 R8 R9 : Rs}
theorem nil (w : World) : Own w w [] := ⟨⟨[], rfl, by simp, by simp⟩, Below.refl _ _⟩
theorem size (h : Own w0 w L) : w0.heap.size ≤ w.heap.size := h.bel.size
theorem below (h : Own w0 w L) (hb : Below w.heap.size w w1) : Own w0 w1 L := by
  obtain ⟨f, hf, hn, hl⟩ := h.ex
  exact ⟨⟨f, hf.loc (fun b hb' => hb.block b (hf.lt b hb')), hn, hl⟩, below_then h.bel h.bel.size hb⟩
theorem drew (h : Own w0 w L) : Own w0 w.drew L := h.below (below_drew (Below.refl _ _))
theorem drewN (h : Own w0 w L) (n : Nat) : Own w0 (w.drewN n) L := h.below (pw_below_drewN (Below.refl _ _) n)
theorem app (h : Own w0 w L) (k : Own w w1 M) : Own w0 w1 (M ++ L) := by
  obtain ⟨f, hf, hn, hl⟩ := (h.below k.bel).ex
  obtain ⟨f0, hf0, _, _⟩ := h.ex
  obtain ⟨g, hg, hgn, hgl⟩ := k.ex
  obtain ⟨f, hf, hn, hl⟩ := h.ex
  have hlt := hf.lt
  refine ⟨⟨g ++ f, hg.append (hf.loc (fun b hb => k.bel.block b (hlt b hb))), ?_, fun b hb => ?_⟩, below_then h.bel h.bel.size k.bel⟩
  · exact List.nodup_append.2 ⟨hgn, hn, fun a ha b hb he => by have := hgl a ha; have := hlt b hb; omega⟩
  · rcases List.mem_append.1 hb with hb | hb
    · exact Nat.le_trans h.size (hgl b hb)
    · exact hl b hb
theorem app1 (h : Own w0 w L) (k : Own w w1 [R1]) : Own w0 w1 (R1 :: L) := h.app k
theorem app2 (h : Own w0 w L) (k : Own w w1 [R1, R2]) : Own w0 w1 (R1 :: R2 :: L) := h.app k
theorem app3 (h : Own w0 w L) (k : Own w w1 [R1, R2, R3]) : Own w0 w1 (R1 :: R2 :: R3 :: L) := h.app k
theorem one {f : List Nat} (hb : Below w0.heap.size w0 w) (hR : R.P w f) (hn : f.Nodup) (hl : ∀ b ∈ f, w0.heap.size ≤ b) : Own w0 w [R] := ⟨⟨f, ⟨f, [], by simp, hR, rfl⟩, hn, hl⟩, hb⟩
theorem two {f g : List Nat} (hb : Below w0.heap.size w0 w) (hR : R1.P w f) (hG : R2.P w g) (hn : (f ++ g).Nodup) (hl : ∀ b ∈ f ++ g, w0.heap.size ≤ b) : Own w0 w [R1, R2] := ⟨⟨f ++ g, ⟨f, g, rfl, hR, g, [], by simp, hG, rfl⟩, hn, hl⟩, hb⟩
theorem alloc (h : Own w0 w L) (cells : Array Value) (t : Nat) : Own w0 (w.alloc (.cells cells t)) (Rs.box w.heap.size t cells :: L) :=
  h.app1 (one (f := [w.heap.size]) (below_alloc (Below.refl _ _) _) ⟨rfl, blk_new w _⟩ (by simp) (by simp))
theorem take (h : Own w0 w (R :: L)) : ∃ f, R.P w f ∧ f.Nodup ∧ (∀ b ∈ f, w0.heap.size ≤ b) ∧ ∀ {w1 : World} {M : List Rs} {f' : List Nat}, Holds w1 M f' → f'.Nodup → (∀ b ∈ f', b ∈ f ∨ w.heap.size ≤ b) → Kp w w1 f → Own w0 w1 (M ++ L) := by
  obtain ⟨_, ⟨f, g, rfl, hf, hg⟩, hn, hl⟩ := h.ex
  obtain ⟨n1, n2, n3⟩ := List.nodup_append.1 hn
  refine ⟨f, hf, n1, fun b hb => hl b (List.mem_append_left _ hb), fun {w1 M f'} hM hn' hf' k => ⟨⟨f' ++ g, hM.append (hg.loc (fun b hb => k.block b (hg.lt b hb) (fun hm => n3 b hm b hb rfl))), ?_, fun b hb => ?_⟩, ?_⟩⟩
  · refine List.nodup_append.2 ⟨hn', n2, fun a ha b hb he => ?_⟩
    subst he
    rcases hf' a ha with h1 | h1
    · exact n3 a h1 a hb rfl
    · have := hg.lt a hb; omega
  · rcases List.mem_append.1 hb with hb | hb
    · rcases hf' b hb with h1 | h1
      · exact hl b (List.mem_append_left _ h1)
      · exact Nat.le_trans h.size h1
    · exact hl b (List.mem_append_right _ hb)
  · exact k.toBelow h.bel h.size (fun b hb => hl b (List.mem_append_left _ hb))
theorem take2 (h : Own w0 w (R1 :: R2 :: L)) : ∃ f g, R1.P w f ∧ R2.P w g ∧ (f ++ g).Nodup ∧ (∀ b ∈ f ++ g, w0.heap.size ≤ b) ∧ ∀ {w1 : World} {M : List Rs} {f' : List Nat}, Holds w1 M f' → f'.Nodup → (∀ b ∈ f', b ∈ f ++ g ∨ w.heap.size ≤ b) → Kp w w1 (f ++ g) → Own w0 w1 (M ++ L) := by
  obtain ⟨_, ⟨f, _, rfl, hf, g, u, rfl, hg, hu⟩, hn, hl⟩ := h.ex
  have h2 : Own w0 w (Rs.sep R1 R2 :: L) := ⟨⟨(f ++ g) ++ u, ⟨f ++ g, u, rfl, ⟨f, g, rfl, hf, hg⟩, hu⟩, by rw [List.append_assoc]; exact hn, fun b hb => hl b (by rw [← List.append_assoc]; exact hb)⟩, h.bel⟩
  obtain ⟨x, ⟨a, b, rfl, h1, h3⟩, hx2, hx3, hx4⟩ := h2.take
  exact ⟨a, b, h1, h3, hx2, hx3, hx4⟩
theorem turn (h : Own w0 w (R :: L)) (k : ∀ f, R.P w f → f.Nodup → ∃ f', R'.P w1 f' ∧ f'.Nodup ∧ (∀ b ∈ f', b ∈ f ∨ w.heap.size ≤ b) ∧ Kp w w1 f) : Own w0 w1 (R' :: L) := by
  obtain ⟨f, hf, hn, hl, c⟩ := h.take
  obtain ⟨f', h1, h2, h3, h4⟩ := k f hf hn
  exact c (M := [R']) ⟨f', [], by simp, h1, rfl⟩ h2 h3 h4
theorem set {g t : Nat} {cells : Array Value} (h : Own w0 w (Rs.box g t cells :: L)) (j : Nat) (u : Value) : Own w0 (w.setCell ⟨g, j, none⟩ u) (Rs.box g t (cells.setIfInBounds j u) :: L) :=
  h.turn fun f hf hn => ⟨f, ⟨hf.1, blk_set hf.2 j u⟩, hn, fun b hb => .inl hb, by rw [hf.1]; exact Kp.set _ _ _ _⟩
theorem drop (h : Own w0 w (R :: L)) : Own w0 w L := by
  obtain ⟨f, hf, hn, hl, c⟩ := h.take
  exact c (w1 := w) (M := []) (f' := []) rfl (by simp) (by simp) ((Kp.refl w).mono (by simp))
theorem only1 (h : Own w0 w (R1 :: L)) : Own w0 w [R1] := by
  obtain ⟨_, ⟨f, g, rfl, hf, hg⟩, hn, hl⟩ := h.ex
  exact one h.bel hf (List.nodup_append.1 hn).1 (fun b hb => hl b (List.mem_append_left _ hb))
theorem only2 (h : Own w0 w (R1 :: R2 :: L)) : Own w0 w [R1, R2] := by
  obtain ⟨_, ⟨f, _, rfl, hf, g, u, rfl, hg, hu⟩, hn, hl⟩ := h.ex
  rw [← List.append_assoc] at hn hl
  exact two h.bel hf hg (List.nodup_append.1 hn).1 (fun b hb => hl b (List.mem_append_left _ hb))
theorem only (M : List Rs) (h : Own w0 w (M ++ L)) : Own w0 w M := by
  obtain ⟨f, hf, hn, hl⟩ := h.ex
  have key : ∀ (M : List Rs) (f : List Nat), Holds w (M ++ L) f → ∃ a b, f = a ++ b ∧ Holds w M a := by
    intro M
    induction M with
    | nil => intro f _; exact ⟨[], f, rfl, rfl⟩
    | cons R M ih =>
      rintro _ ⟨a, b, rfl, ha, hb⟩
      obtain ⟨c, d, rfl, hc⟩ := ih b hb
      exact ⟨a ++ c, d, by rw [List.append_assoc], a, c, rfl, ha, hc⟩
  obtain ⟨a, b, rfl, ha⟩ := key M f hf
  exact ⟨⟨a, ha, (List.nodup_append.1 hn).1, fun x hx => hl x (List.mem_append_left _ hx)⟩, h.bel⟩
theorem swap (A : List Rs) (h : Own w0 w (A ++ R :: L)) : Own w0 w (R :: (A ++ L)) := by
  obtain ⟨f, hf, hn, hl⟩ := h.ex
  have key : ∀ (A : List Rs) (f : List Nat), Holds w (A ++ R :: L) f → ∃ a b, Holds w (A ++ L) b ∧ R.P w a ∧ (a ++ b).Perm f := by
    intro A
    induction A with
    | nil => rintro _ ⟨a, b, rfl, ha, hb⟩; exact ⟨a, b, hb, ha, List.Perm.refl _⟩
    | cons S A ih =>
      rintro _ ⟨a, b, rfl, ha, hb⟩
      obtain ⟨c, d, hd, hc, hp⟩ := ih b hb
      refine ⟨c, a ++ d, ⟨a, d, rfl, ha, hd⟩, hc, ?_⟩
      rw [← List.append_assoc]
      exact (List.Perm.append_right d List.perm_append_comm).trans (by rw [List.append_assoc]; exact List.Perm.append_left a hp)
  obtain ⟨a, b, hb, ha, hp⟩ := key A f hf
  exact ⟨⟨a ++ b, ⟨a, b, rfl, ha, hb⟩, hp.nodup_iff.2 hn, fun x hx => hl x (hp.mem_iff.1 hx)⟩, h.bel⟩
theorem p1 (h : Own w0 w (R1 :: R :: L)) : Own w0 w (R :: R1 :: L) := swap [R1] h
theorem p2 (h : Own w0 w (R1 :: R2 :: R :: L)) : Own w0 w (R :: R1 :: R2 :: L) := swap [R1, R2] h
theorem p3 (h : Own w0 w (R1 :: R2 :: R3 :: R :: L)) : Own w0 w (R :: R1 :: R2 :: R3 :: L) := swap [R1, R2, R3] h
theorem p4 (h : Own w0 w (R1 :: R2 :: R3 :: R4 :: R :: L)) : Own w0 w (R :: R1 :: R2 :: R3 :: R4 :: L) := swap [R1, R2, R3, R4] h
theorem p5 (h : Own w0 w (R1 :: R2 :: R3 :: R4 :: R5 :: R :: L)) : Own w0 w (R :: R1 :: R2 :: R3 :: R4 :: R5 :: L) := swap [R1, R2, R3, R4, R5] h
theorem p6 (h : Own w0 w (R1 :: R2 :: R3 :: R4 :: R5 :: R6 :: R :: L)) : Own w0 w (R :: R1 :: R2 :: R3 :: R4 :: R5 :: R6 :: L) := swap [R1, R2, R3, R4, R5, R6] h
theorem p7 (h : Own w0 w (R1 :: R2 :: R3 :: R4 :: R5 :: R6 :: R7 :: R :: L)) : Own w0 w (R :: R1 :: R2 :: R3 :: R4 :: R5 :: R6 :: R7 :: L) := swap [R1, R2, R3, R4, R5, R6, R7] h
theorem p8 (h : Own w0 w (R1 :: R2 :: R3 :: R4 :: R5 :: R6 :: R7 :: R8 :: R :: L)) : Own w0 w (R :: R1 :: R2 :: R3 :: R4 :: R5 :: R6 :: R7 :: R8 :: L) := swap [R1, R2, R3, R4, R5, R6, R7, R8] h
theorem b0 {g t : Nat} {c : Array Value} (h : Own w0 w (Rs.box g t c :: L)) : w.heap[g]? = some (.cells c t (0, 0)) := by
  obtain ⟨_, ⟨f, _, rfl, hf, _⟩, _, _⟩ := h.ex; exact hf.2
theorem b1 {g t : Nat} {c : Array Value} (h : Own w0 w (R1 :: Rs.box g t c :: L)) : w.heap[g]? = some (.cells c t (0, 0)) := h.p1.b0
theorem b2 {g t : Nat} {c : Array Value} (h : Own w0 w (R1 :: R2 :: Rs.box g t c :: L)) : w.heap[g]? = some (.cells c t (0, 0)) := h.p2.b0
theorem b3 {g t : Nat} {c : Array Value} (h : Own w0 w (R1 :: R2 :: R3 :: Rs.box g t c :: L)) : w.heap[g]? = some (.cells c t (0, 0)) := h.p3.b0
theorem b4 {g t : Nat} {c : Array Value} (h : Own w0 w (R1 :: R2 :: R3 :: R4 :: Rs.box g t c :: L)) : w.heap[g]? = some (.cells c t (0, 0)) := h.p4.b0
theorem b5 {g t : Nat} {c : Array Value} (h : Own w0 w (R1 :: R2 :: R3 :: R4 :: R5 :: Rs.box g t c :: L)) : w.heap[g]? = some (.cells c t (0, 0)) := h.p5.b0
theorem b6 {g t : Nat} {c : Array Value} (h : Own w0 w (R1 :: R2 :: R3 :: R4 :: R5 :: R6 :: Rs.box g t c :: L)) : w.heap[g]? = some (.cells c t (0, 0)) := h.p6.b0
theorem b7 {g t : Nat} {c : Array Value} (h : Own w0 w (R1 :: R2 :: R3 :: R4 :: R5 :: R6 :: R7 :: Rs.box g t c :: L)) : w.heap[g]? = some (.cells c t (0, 0)) := h.p7.b0
theorem b8 {g t : Nat} {c : Array Value} (h : Own w0 w (R1 :: R2 :: R3 :: R4 :: R5 :: R6 :: R7 :: R8 :: Rs.box g t c :: L)) : w.heap[g]? = some (.cells c t (0, 0)) := h.p8.b0
theorem of (h : Own w0 w L) {cells : Array Value} {t : Nat} (e : w.alloc (.cells cells t) = w1) : Own w0 w1 (Rs.box w.heap.size t cells :: L) := e ▸ h.alloc cells t
theorem al (h : Own w0 w L) (cells : Array Value) (t n : Nat) (hn : w.heap.size = n) : Own w0 (w.alloc (.cells cells t)) (Rs.box n t cells :: L) := hn ▸ h.alloc cells t
theorem of2 (h : Own w0 w L) {c1 c2 : Array Value} {t1 t2 : Nat} (e : (w.alloc (.cells c1 t1)).alloc (.cells c2 t2) = w1) : Own w0 w1 (Rs.box (w.heap.size + 1) t2 c2 :: Rs.box w.heap.size t1 c1 :: L) := e ▸ (h.alloc c1 t1).al c2 t2 _ (by simp)
theorem of3 (h : Own w0 w L) {c1 c2 c3 : Array Value} {t1 t2 t3 : Nat} (e : ((w.alloc (.cells c1 t1)).alloc (.cells c2 t2)).alloc (.cells c3 t3) = w1) : Own w0 w1 (Rs.box (w.heap.size + 1 + 1) t3 c3 :: Rs.box (w.heap.size + 1) t2 c2 :: Rs.box w.heap.size t1 c1 :: L) := e ▸ ((h.alloc c1 t1).al c2 t2 _ (by simp)).al c3 t3 _ (by simp)
theorem st {g t j : Nat} {cells : Array Value} {u : Value} (h : Own w0 w (Rs.box g t cells :: L)) (e : w.setCell ⟨g, j, none⟩ u = w1) (cells' : Array Value) (ec : cells.setIfInBounds j u = cells') : Own w0 w1 (Rs.box g t cells' :: L) := by
  subst e; subst ec; exact h.set j u
section
variable {α : Type} {r : Rp α} {e : Nat} {v : Value} {xs : List α}
theorem r0 (h : Own w0 w (Rs.row r e v xs :: L)) : ∃ f, r.Row e w v xs f ∧ f.Nodup ∧ ∀ b ∈ f, w0.heap.size ≤ b := by
  obtain ⟨_, ⟨f, g, rfl, hf, _⟩, hn, hl⟩ := h.ex; exact ⟨f, hf, (List.nodup_append.1 hn).1, fun b hb => hl b (List.mem_append_left _ hb)⟩
theorem f0 (h : Own w0 w (Rs.row r e v xs :: L)) : ∃ A c, v = .slice A xs.length c ∧ xs.length ≤ c := by
  obtain ⟨f, hr, _⟩ := h.r0; obtain ⟨A, c, e, hl, _⟩ := Rp.Row_reads hr; exact ⟨A, c, e, hl⟩
theorem f1 (h : Own w0 w (R1 :: Rs.row r e v xs :: L)) : ∃ A c, v = .slice A xs.length c ∧ xs.length ≤ c := h.p1.f0
theorem f2 (h : Own w0 w (R1 :: R2 :: Rs.row r e v xs :: L)) : ∃ A c, v = .slice A xs.length c ∧ xs.length ≤ c := h.p2.f0
end
section
variable {α : Type} {r : Rp α} {e n c : Nat} {A : Option Addr} {xs : List α}
theorem c0 (h : Own w0 w (Rs.row r e (.slice A n c) xs :: L)) : r.d.C w A xs.length xs := by obtain ⟨f, hr, _⟩ := h.r0; exact (Rp.Row_C hr).2.2
theorem c1 (h : Own w0 w (R1 :: Rs.row r e (.slice A n c) xs :: L)) : r.d.C w A xs.length xs := h.p1.c0
theorem c2 (h : Own w0 w (R1 :: R2 :: Rs.row r e (.slice A n c) xs :: L)) : r.d.C w A xs.length xs := h.p2.c0
theorem c3 (h : Own w0 w (R1 :: R2 :: R3 :: Rs.row r e (.slice A n c) xs :: L)) : r.d.C w A xs.length xs := h.p3.c0
theorem c4 (h : Own w0 w (R1 :: R2 :: R3 :: R4 :: Rs.row r e (.slice A n c) xs :: L)) : r.d.C w A xs.length xs := h.p4.c0
theorem c5 (h : Own w0 w (R1 :: R2 :: R3 :: R4 :: R5 :: Rs.row r e (.slice A n c) xs :: L)) : r.d.C w A xs.length xs := h.p5.c0
theorem c6 (h : Own w0 w (R1 :: R2 :: R3 :: R4 :: R5 :: R6 :: Rs.row r e (.slice A n c) xs :: L)) : r.d.C w A xs.length xs := h.p6.c0
theorem c7 (h : Own w0 w (R1 :: R2 :: R3 :: R4 :: R5 :: R6 :: R7 :: Rs.row r e (.slice A n c) xs :: L)) : r.d.C w A xs.length xs := h.p7.c0
theorem c8 (h : Own w0 w (R1 :: R2 :: R3 :: R4 :: R5 :: R6 :: R7 :: R8 :: Rs.row r e (.slice A n c) xs :: L)) : r.d.C w A xs.length xs := h.p8.c0
end
theorem nilRow {α : Type} (r : Rp α) (e : Nat) (h : Own w0 w L) : Own w0 w (Rs.row r e (.slice none 0 0) [] :: L) :=
  h.app1 (one (f := []) (Below.refl _ _) (Rp.Row_nil r e w) (by simp) (by simp))
end Own
section
variable {P : Program} {ops : Array Oper} {rest : List Oper} {o : Oper} {a : Act} {Q : Exit → Act → World → Prop} {w0 W : World} {L : List Rs} {α : Type}
theorem Own.app_one (r : Rp α) (hgd : o.guard = none) (s x : Operand) (t e : TypeId) (z : Value) (bytes : Nat)
    (ho : o.op = .call { callee := .builtin .append, args := #[s, x], argTypes := #[t, t] })
    (ht : P.underlying t = some (.slice e)) (hinfo : (P.info? e).map (fun i => (i.zero, i.size, i.bytes)) = some (some z, r.d.sz, bytes)) (hz : z.cells.size = r.d.sz) (hs0 : 0 < r.d.sz) (hb0 : 0 < bytes)
    (v : Value) (xs : List α) (p : α) (cs : List Value) (hs : a.eval s = v) (hx : a.eval x = .slice (some ⟨W.heap.size, 0, none⟩) 1 1)
    (HO : Own w0 W (Rs.row r e v xs :: Rs.cel r cs p :: L)) (hl : (xs.length + 1) * bytes ≤ 140737488355328)
    (h : ∀ v1 w1, Own w0 w1 (Rs.row r e v1 (xs ++ [p]) :: L) → wpList P ops Q rest (a.put o.dst v1) w1) :
    wpList P ops Q (o :: rest) a (W.alloc (.cells cs.toArray e)) := by
  obtain ⟨f, g, hf, hg, hn, hl2, c⟩ := HO.take2
  refine Rp.app_one r hgd s x t e z bytes ho ht hinfo hz hs0 hb0 v xs p cs hs hx hf hg hn hl ?_
  intro v1 w1 fp1 hr1 hn1 hf1 hg1
  refine h v1 w1 (c (M := [Rs.row r e v1 (xs ++ [p])]) ⟨fp1, [], by simp, hr1, rfl⟩ hn1 (fun b hb => ?_) ((Kp.grown hg1).mono (fun b hb _ => List.mem_append_left _ (Rp.Row_block hf (Option.mem_toList.1 hb)))))
  rcases hf1 b hb with h | h | h
  · exact .inl (List.mem_append_left _ h)
  · exact .inl (List.mem_append_right _ h)
  · exact .inr h
theorem Own.app_one_step (r : Rp α) {K : Act → World → Prop} {E : Prop} (hgd : o.guard = none) (s x : Operand) (t e : TypeId) (z : Value) (bytes : Nat)
    (ho : o.op = .call { callee := .builtin .append, args := #[s, x], argTypes := #[t, t] })
    (ht : P.underlying t = some (.slice e)) (hinfo : (P.info? e).map (fun i => (i.zero, i.size, i.bytes)) = some (some z, r.d.sz, bytes)) (hz : z.cells.size = r.d.sz) (hs0 : 0 < r.d.sz) (hb0 : 0 < bytes)
    (v : Value) (xs : List α) (p : α) (cs : List Value) (hs : a.eval s = v) (hx : a.eval x = .slice (some ⟨W.heap.size, 0, none⟩) 1 1)
    (HO : Own w0 W (Rs.row r e v xs :: Rs.cel r cs p :: L)) (hl : (xs.length + 1) * bytes ≤ 140737488355328)
    (h : ∀ v1 w1, Own w0 w1 (Rs.row r e v1 (xs ++ [p]) :: L) → K (a.put o.dst v1) w1) :
    if Region.wanted o (yielded ops a.tmps) = true then Oper.wp P o a (W.alloc (.cells cs.toArray e)) K Q else E := by
  obtain ⟨f, g, hf, hg, hn, hl2, c⟩ := HO.take2
  refine Rp.app_one_step r hgd s x t e z bytes ho ht hinfo hz hs0 hb0 v xs p cs hs hx hf hg hn hl ?_
  intro v1 w1 fp1 hr1 hn1 hf1 hg1
  refine h v1 w1 (c (M := [Rs.row r e v1 (xs ++ [p])]) ⟨fp1, [], by simp, hr1, rfl⟩ hn1 (fun b hb => ?_) ((Kp.grown hg1).mono (fun b hb _ => List.mem_append_left _ (Rp.Row_block hf (Option.mem_toList.1 hb)))))
  rcases hf1 b hb with h | h | h
  · exact .inl (List.mem_append_left _ h)
  · exact .inl (List.mem_append_right _ h)
  · exact .inr h
theorem Own.app_row {enc : α → Value} {h1 : ∀ x, (enc x).oneCell' = true} (d : α) (hgd : o.guard = none) (s x : Operand) (t e : TypeId) (z : Value) (bytes : Nat)
    (ho : o.op = .call { callee := .builtin .append, args := #[s, x], argTypes := #[t, t] })
    (ht : P.underlying t = some (.slice e)) (hinfo : (P.info? e).map (fun i => (i.zero, i.size, i.bytes)) = some (some z, 1, bytes)) (hz : z.cells.size = 1) (hb0 : 0 < bytes)
    (v : Value) (xs ys : List α) (A : Option Addr) (m c : Nat) (hs : a.eval s = v) (hx : a.eval x = .slice A m c)
    (HO : Own w0 W (Rs.row (Rp.scalar enc h1) e v xs :: L)) (HR : (Kd.scalar enc h1).C W A m ys) (hl : (xs.length + m) * bytes ≤ 140737488355328)
    (h : ∀ v1 w1, Own w0 w1 (Rs.row (Rp.scalar enc h1) e v1 (xs ++ ys) :: L) → wpList P ops Q rest (a.put o.dst v1) w1) :
    wpList P ops Q (o :: rest) a W := by
  obtain ⟨f, hf, hn, hl2, c⟩ := HO.take
  refine Rp.app_row (enc := enc) (h1 := h1) d hgd s x t e z bytes ho ht hinfo hz hb0 v xs ys A m _ hs hx hf HR hl ?_
  intro v1 w1 fp1 hr1 hn1 hf1 hg1
  exact h v1 w1 (c (M := [Rs.row (Rp.scalar enc h1) e v1 (xs ++ ys)]) ⟨fp1, [], by simp, hr1, rfl⟩ hn1 hf1 ((Kp.grown hg1).mono (fun b hb _ => Rp.Row_block hf (Option.mem_toList.1 hb))))
end
theorem Own.cel0 {w0 w : World} {L : List Rs} {α : Type} {r : Rp α} {cs : List Value} {x : α} (h : Own w0 w L) (hp : r.P w x cs []) : Own w0 w (Rs.cel r cs x :: L) :=
  h.app1 (Own.one (f := []) (Below.refl _ _) hp (by simp) (by simp))
theorem Own.as {w0 w : World} {L : List Rs} {R R1 : Rs} (h : Own w0 w (R1 :: L)) (k : ∀ f, R1.P w f → R.P w f) : Own w0 w (R :: L) :=
  h.turn fun f hf hn => ⟨f, k f hf, hn, fun b hb => .inl hb, (Kp.refl w).mono (by simp)⟩
theorem own_disk {w w1 : World} {bs : List (List Int)} {ws : List Wr} {e : Ending} (h : GotDisk w bs ws e w1) : ∃ v0 v1, e = .returned (.agg #[v0, v1]) ∧ Own w w1 [Rs.row rBS 22 v0 bs, Rs.row rW 147 v1 ws] := by
  obtain ⟨v0, v1, f0, f1, rfl, h0, h1, hn, hl, hb⟩ := h
  exact ⟨v0, v1, rfl, Own.two hb h0 h1 hn hl⟩
theorem own_row {α : Type} {r : Rp α} {e : Nat} {w w1 : World} {xs : List α} {en : Ending} (h : GotRow r e w xs en w1) : ∃ v, en = .returned v ∧ Own w w1 [Rs.row r e v xs] := by
  obtain ⟨v, rfl, ⟨f, hr, hn, hl⟩, hb⟩ := h
  exact ⟨v, rfl, Own.one hb hr hn hl⟩
theorem own_pg {w w1 : World} {ok : Bool} {gen : Int} {bytes : List Int} {e : Ending} (h : GotPg w ok gen bytes e w1) : ∃ v, e = .returned (.agg #[.bool ok, .int .i64 gen, v]) ∧ Own w w1 [Rs.row rB 5 v bytes] := by
  obtain ⟨v, f, rfl, hr, hn, hl, hb⟩ := h
  exact ⟨v, rfl, Own.one hb hr hn hl⟩
end Go.Proofs.Ytocdlibnmlcokaa
namespace Go.Proofs.Ytocdlibnmlcokaa
open Go.RowKit Go.Proofs.YtocdlibnmlcokaaW.PrintWords Go.Proofs.YtocdlibnmlcokaaW.PrintLast
set_option linter.unusedVariables false
set_option linter.unusedSimpArgs false
theorem Own.take_row {w0 w : World} {L : List Rs} {A : Option Addr} {n c : Nat} {xs : List Int} (h : Own w0 w (Rs.row rB 5 (.slice A n c) xs :: L)) {m : Nat} (hm : m ≤ n) : Own w0 w (Rs.row rB 5 (.slice A m c) (xs.take m) :: L) :=
  h.as fun f hf => by
    have hn := (Rp.Row_C hf).1
    obtain ⟨ho, rfl⟩ := Rp.own_Row hf
    have h2 := own_take (m := m) (by rw [← hn] at ho; exact ho) hm
    have h3 : w.ownsRow 0 5 1 (.slice A m c) (xs.take m).length (encs (Value.int .u8) (xs.take m)) := by
      rw [List.length_take, show min m xs.length = m by omega]
      simpa [encs, List.map_take] using h2
    have e : (Value.slice A m c).ownBlock = (Value.slice A n c).ownBlock := by cases A <;> rfl
    rw [← e]
    exact Rp.Row_own (enc := Value.int .u8) (h1 := fun _ => rfl) h3
theorem to_c {A : Option Addr} {n c : Nat} (j : Nat) (hm : j ≤ n) (hc : n ≤ c) : ∀ W : World, (Instr.slice 22 (.slice A n c) none (some (.int .i64 j)) none).run Try.prog W = .ok (.slice A j c) W := by
  obtain ⟨i5, hi5, _⟩ := Option.map_eq_some_iff.1 info5
  have h := cut_to (P := Try.prog) 22 5 .i64 Try.underlying22 hi5 A n c (j : Int) (by omega) (by omega) hc
  simpa using h
def GotFound (w : World) (notes : List Nt) (len gen : Int) (xs : List Int) (e : Ending) (w' : World) : Prop :=
  ∃ vn vb, e = .returned (.tuple #[.agg #[.bool true, vn, .int .i64 len, .int .i64 gen, .int .i64 0], vb]) ∧ Own w w' [Rs.row rN 33 vn notes, Rs.row rB 5 vb xs]
set_option maxHeartbeats 4000000 in
set_option maxRecDepth 100000 in
theorem found_no (A : Option Addr) (c : Nat) (bs : List (List Int)) (w : World) (hx : rBS.d.C w A bs.length bs) (hc : bs.length ≤ c) (hb : BlOk bs) (hh : ¬ headOk bs) :
    Calls Try.prog 109 #[.slice A bs.length c] w (GotFound w [] 0 0 []) := by
  have hl1 : 127 < bs.length := by have := hb.1; omega
  have hl2 : bs.length ≤ 128 := by have := hb.1; omega
  have HX := Aside0.mk hx; have HBL := Aside0.mk hb; have HH := Aside0.mk hh; clear hx hb hh
  go_enter Try.func109, Try.ntmps109
  go_upto_region 2 with (fail)
  generalize hw : World.alloc (World.alloc w _) _ = w1
  have O := Aside0.mk ((Own.nil w).of2 hw); clear hw
  obtain ⟨ad, A0, c0, e1, hc1, hle, hC1⟩ := at_BS (Kd.C_below HX.out O.out.bel) 0 (by omega) (by omega)
  cases e1
  simp only [show (0 : Int).toNat = 0 from rfl, Go.Addr.add, if_true] at hc1
  have HC1 := Aside0.mk hC1; have HLE := Aside0.mk hle
  clear hC1 hle
  have fin : ∀ {w2 : World} {g : Nat} {cs : Array Value} {v : Value} {P : List Int}, Own w w2 [Rs.box g 138 cs, Rs.row rB 5 v P, Rs.box (w.heap.size + 1) 59 #[.bool true, .slice none 0 0, .int .i64 0, .int .i64 0, .int .i64 0], Rs.box w.heap.size 59 #[.bool false, .slice none 0 0, .int .i64 0, .int .i64 0, .int .i64 0]] →
      ∀ w3, (((((w2.setCell ⟨w.heap.size, 0, none⟩ (.bool true)).setCell ⟨w.heap.size, 1, none⟩ (.slice none 0 0)).setCell ⟨w.heap.size, 2, none⟩ (.int .i64 0)).setCell ⟨w.heap.size, 3, none⟩ (.int .i64 0)).setCell ⟨w.heap.size, 4, none⟩ (.int .i64 0)) = w3 →
        w3.heap[w.heap.size]? = some (.cells #[.bool true, .slice none 0 0, .int .i64 0, .int .i64 0, .int .i64 0] 59 (0, 0)) ∧ Own w w3 [Rs.row rN 33 (.slice none 0 0) [], Rs.row rB 5 (.slice none 0 0) []] := by
    intro w2 g cs v P h w3 e
    subst e
    have h5 := ((((h.p3.set 0 (.bool true)).set 1 (.slice none 0 0)).set 2 (.int .i64 0)).set 3 (.int .i64 0)).set 4 (.int .i64 0)
    exact ⟨h5.b0, (((h5.only []).nilRow rB 5).nilRow rN 33)⟩
  have FIN := Aside0.mk @fin; clear fin
  by_cases hp : PgIs (gBS bs 0)
  · have HP := Aside0.mk hp; clear hp
    go_wp2_with fail
    refine (implPageOf_yes _ _ _ _ HC1.out HLE.out (HBL.out.g (by omega) (by omega)).2 HP.out).mono ?_
    intro e w2 hg
    obtain ⟨v, rfl, k⟩ := own_pg hg
    replace O := Aside0.mk (O.out.app1 k); clear k hg
    obtain ⟨P0, hP⟩ : ∃ P, P = bytesOf (gBS bs 0) := ⟨_, rfl⟩
    have hp0 : 0 < P0.length := Nat.pos_of_ne_zero (fun h => HH.out ⟨HP.out, by rw [← hP]; exact h⟩)
    have hp1 : P0.length ≤ 56 := by rw [hP]; exact bytesOf_len (HBL.out.g (by omega) (by omega)).2 (HBL.out.g (by omega) (by omega)).1 HP.out.2.1
    rw [← hP] at O; clear hP
    obtain ⟨A1, c1, rfl, _⟩ := O.out.f0
    go_upto_region 3 with (fail)
    generalize hw : w2.alloc _ = w3
    replace O := Aside0.mk (O.out.of hw); clear hw hc1
    generalize w2.heap.size = g5 at O ⊢
    have q0 := (blk_cell O.out.b0 0).trans rfl; have q1 := (blk_cell O.out.b0 1).trans rfl; have q2 := (blk_cell O.out.b0 2).trans rfl
    have s0 := (blk_cell O.out.b2 0).trans rfl; have s1 := (blk_cell O.out.b2 1).trans rfl; have s2 := (blk_cell O.out.b2 2).trans rfl; have s3 := (blk_cell O.out.b2 3).trans rfl; have s4 := (blk_cell O.out.b2 4).trans rfl
    have u0 := (blk_cell O.out.b3 0).trans rfl; have u1 := (blk_cell O.out.b3 1).trans rfl; have u2 := (blk_cell O.out.b3 2).trans rfl; have u3 := (blk_cell O.out.b3 3).trans rfl; have u4 := (blk_cell O.out.b3 4).trans rfl
    have z0 := blk_frozen O.out.b3 0; have z1 := blk_frozen O.out.b3 1; have z2 := blk_frozen O.out.b3 2; have z3 := blk_frozen O.out.b3 3; have z4 := blk_frozen O.out.b3 4
    go_wp2
    obtain ⟨K, F⟩ := FIN.out O.out _ rfl
    refine bodyPost_ret (results_ct rfl _ _ w.heap.size 59 _ (0, 0) _ rfl K Try.underlying59 rfl (by kernel_rfl)) rfl ?_
    exact ⟨_, _, rfl, F⟩
  · have HP := Aside0.mk hp; clear hp
    go_wp2_with fail
    refine (implPageOf_no _ _ _ _ HC1.out HLE.out (HBL.out.g (by omega) (by omega)).2 HP.out).mono ?_
    intro e w2 hg
    obtain ⟨v, rfl, k⟩ := own_pg hg
    replace O := Aside0.mk (O.out.app1 k); clear k hg
    obtain ⟨A1, c1, rfl, _⟩ := O.out.f0
    go_upto_region 3 with (fail)
    generalize hw : w2.alloc _ = w3
    replace O := Aside0.mk (O.out.of hw); clear hw hc1
    generalize w2.heap.size = g5 at O ⊢
    have q0 := (blk_cell O.out.b0 0).trans rfl
    have s0 := (blk_cell O.out.b2 0).trans rfl; have s1 := (blk_cell O.out.b2 1).trans rfl; have s2 := (blk_cell O.out.b2 2).trans rfl; have s3 := (blk_cell O.out.b2 3).trans rfl; have s4 := (blk_cell O.out.b2 4).trans rfl
    have u0 := (blk_cell O.out.b3 0).trans rfl; have u1 := (blk_cell O.out.b3 1).trans rfl; have u2 := (blk_cell O.out.b3 2).trans rfl; have u3 := (blk_cell O.out.b3 3).trans rfl; have u4 := (blk_cell O.out.b3 4).trans rfl
    have z0 := blk_frozen O.out.b3 0; have z1 := blk_frozen O.out.b3 1; have z2 := blk_frozen O.out.b3 2; have z3 := blk_frozen O.out.b3 3; have z4 := blk_frozen O.out.b3 4
    go_wp2
    obtain ⟨K, F⟩ := FIN.out O.out _ rfl
    refine bodyPost_ret (results_ct rfl _ _ w.heap.size 59 _ (0, 0) _ rfl K Try.underlying59 rfl (by kernel_rfl)) rfl ?_
    exact ⟨_, _, rfl, F⟩
end Go.Proofs.Ytocdlibnmlcokaa
namespace Go.Proofs.Ytocdlibnmlcokaa
open Go.RowKit Go.Proofs.YtocdlibnmlcokaaW.PrintWords Go.Proofs.YtocdlibnmlcokaaW.PrintLast
set_option linter.unusedVariables false
set_option linter.unusedSimpArgs false
set_option maxHeartbeats 8000000 in
set_option maxRecDepth 100000 in
theorem found_yes (A : Option Addr) (c : Nat) (bs : List (List Int)) (X : List Int) (w : World) (hx : rBS.d.C w A bs.length bs) (hc : bs.length ≤ c) (hb : BlOk bs) (hh : headOk bs)
    (hX : BsOk X) (hXl : X.length ≤ 10000) (gen : Int) (hgen : genOf (gBS bs 0) = gen) (hXe : bodyL gen 0 (bs.drop 1) = X) (Q : Ending → World → Prop) (hQ : ∀ e w', GotFound w (framesL X).1 (framesL X).2 gen (X.take (framesL X).2) e w' → Q e w') :
    Calls Try.prog 109 #[.slice A bs.length c] w Q := by
  have hl1 : 127 < bs.length := by have := hb.1; omega
  have hl2 : bs.length ≤ 128 := by have := hb.1; omega
  have HX := Aside0.mk hx; have HBL := Aside0.mk hb; have HH := Aside0.mk hh; have HOK := Aside0.mk hX; have HXE := Aside0.mk hXe; have HXL := Aside0.mk hXl; have HGEN := Aside0.mk hgen; have HQ := Aside0.mk hQ; clear hx hb hh hX hXe hXl hgen hQ
  go_enter Try.func109, Try.ntmps109
  go_upto_region 2 with (fail)
  generalize hw : World.alloc (World.alloc w _) _ = w1
  have O := Aside0.mk ((Own.nil w).of2 hw); clear hw
  obtain ⟨ad, A0, c0, e1, hc1, hle, hC1⟩ := at_BS (Kd.C_below HX.out O.out.bel) 0 (by omega) (by omega)
  cases e1
  simp only [show (0 : Int).toNat = 0 from rfl, Go.Addr.add, if_true] at hc1
  have HC1 := Aside0.mk hC1; have HLE := Aside0.mk hle
  clear hC1 hle
  go_wp2_with fail
  refine (implPageOf_yes _ _ _ _ HC1.out HLE.out (HBL.out.g (by omega) (by omega)).2 HH.out.1).mono ?_
  intro e w2 hg
  rw [HGEN.out] at hg
  obtain ⟨v, rfl, k⟩ := own_pg hg
  replace O := Aside0.mk (O.out.app1 k); clear k hg
  obtain ⟨P0, hP⟩ : ∃ P, P = bytesOf (gBS bs 0) := ⟨_, rfl⟩
  have hp0 : P0.length ≤ 0 := by rw [hP, HH.out.2]; exact Nat.le_refl _
  rw [← hP] at O; clear hP
  obtain ⟨A1, c1, rfl, _⟩ := O.out.f0
  go_upto_region 3 with (fail)
  generalize hw : w2.alloc _ = w3
  replace O := Aside0.mk (O.out.of hw); clear hw hc1 HC1 HLE
  generalize w2.heap.size = g5 at O ⊢
  have q0 := (blk_cell O.out.b0 0).trans rfl; have q1 := (blk_cell O.out.b0 1).trans rfl; have q2 := (blk_cell O.out.b0 2).trans rfl
  have s3 := (blk_cell O.out.b2 3).trans rfl; have z3 := blk_frozen O.out.b2 3
  go_upto_region 7 with (fail)
  rename_i K hK
  have HK := Aside0.mk hK; clear hK
  generalize hw : World.setCell _ _ _ = w4
  replace O := Aside0.mk ((O.out.p2.st hw #[.bool true, .slice none 0 0, .int .i64 0, .int .i64 gen, .int .i64 0] rfl).p1.drop.p1.drop)
  clear hw q0 q1 q2 s3 z3
  go_wp2_with fail
  refine HK.out _ _ ?_
  clear HK K
  go_step
  generalize hA : (⟨ad.block, ad.off + 1, none⟩ : Addr) = ad1
  obtain ⟨T, hT⟩ : ∃ T, T = bs.drop 1 := ⟨_, rfl⟩
  have eT : bs.length - 1 = T.length := by rw [hT, List.length_drop]
  have HTC : Aside0 (rBS.d.C w (some ad1) T.length T) := ⟨by
    have h1 := Kd.C_drop (m := 1) HX.out (by omega) hc
    rw [if_neg (by omega), ← hT] at h1
    rw [← hA]
    exact h1⟩
  have HTB : Aside0 (∀ b ∈ T, b.length = 64 ∧ BsOk b) := ⟨fun b hb => HBL.out.2 b (List.mem_of_mem_drop (hT ▸ hb))⟩
  have hT1 : T.length ≤ 127 := by omega
  replace HXE : Aside0 (bodyL gen 0 T = X) := ⟨by rw [hT]; exact HXE.out⟩
  rw [show decide (0 < P0.length) = false from decide_eq_false (by omega)]
  go_cut [6] from 7 (fun v6 wc => Aside0 (Own w wc [Rs.row rB 5 v6 X, Rs.box (w.heap.size + 1) 59 #[.bool true, .slice none 0 0, .int .i64 0, .int .i64 gen, .int .i64 0], Rs.box w.heap.size 59 #[.bool false, .slice none 0 0, .int .i64 0, .int .i64 0, .int .i64 0]]))
  case first =>
    have hcut : ∀ W : World, (Instr.slice 40 (.slice (some ad) bs.length c) (some (.int .i64 1)) none none).run Try.prog W = .ok (.slice (some ad1) T.length (c - 1)) W := by
      intro W
      rw [from_c (some ad) bs.length c (by omega) W, if_neg (by omega), ← hA, eT]
      rfl
    clear hA hT eT HX HBL HH HGEN
    go_wp2
    clear hcut
    replace O := Aside0.mk (O.out.nilRow rB 5)
    go_loopg [6, 7, 33] T.length (fun m vu vl vi wr => ∃ (i last : Int) (xs : List Int), vi = .int .i64 i ∧ vl = .int .i64 last ∧ Aside0 (0 ≤ i ∧ i ≤ T.length ∧ T.length - i.toNat ≤ m) ∧ Aside0 (xs.length ≤ 56 * i) ∧ Aside0 (X = xs ++ bodyL gen last (T.drop i.toNat))
      ∧ Aside0 (Own w wr [Rs.row rB 5 vu xs, Rs.box (w.heap.size + 1) 59 #[.bool true, .slice none 0 0, .int .i64 0, .int .i64 gen, .int .i64 0], Rs.box w.heap.size 59 #[.bool false, .slice none 0 0, .int .i64 0, .int .i64 0, .int .i64 0]]))
    case atStart => exact ⟨0, 0, [], rfl, rfl, ⟨by simp⟩, ⟨by simp⟩, ⟨by simpa using HXE.out.symm⟩, O⟩
    case round =>
      clear O
      obtain ⟨i, last, xs, rfl, rfl, HI, HL, HE, O⟩ := hrel
      by_cases hi : i < (T.length : Int)
      · have h0 : 0 ≤ i := HI.out.1
        obtain ⟨at_, Ai, ci, e1, hc1, hle, hC1⟩ := at_BS (Kd.C_below HTC.out O.out.bel) i h0 hi
        cases e1
        have HC1 := Aside0.mk hC1; have HLE := Aside0.mk hle
        clear hC1 hle
        have HE2 : Aside0 (T.drop i.toNat = gBS T i :: T.drop (i.toNat + 1)) := ⟨by rw [gBS_eq (by omega)]; exact List.drop_eq_getElem_cons (by omega)⟩
        have HB2 := Aside0.mk (HTB.out (gBS T i) (by rw [gBS_eq (by omega)]; exact List.getElem_mem _))
        by_cases hp : PgIs (gBS T i)
        · have HP := Aside0.mk hp; clear hp
          go_wp2_with fail
          refine (implPageOf_yes _ _ _ _ HC1.out HLE.out HB2.out.2 HP.out).mono ?_
          intro e w5 hg
          obtain ⟨P1, hP⟩ : ∃ P, P = bytesOf (gBS T i) := ⟨_, rfl⟩
          obtain ⟨gen2, hG⟩ : ∃ G, G = genOf (gBS T i) := ⟨_, rfl⟩
          rw [← hP, ← hG] at hg
          have hp1 : P1.length ≤ 56 := by rw [hP]; exact bytesOf_len HB2.out.2 HB2.out.1 HP.out.2.1
          have HP1 := Aside0.mk hP; have HG2 := Aside0.mk hG
          clear hP hG
          obtain ⟨v, rfl, k⟩ := own_pg hg
          replace O := Aside0.mk (O.out.app1 k); clear k hg
          obtain ⟨A2, c2, rfl, _⟩ := O.out.f0
          go_upto_region 12 with (fail)
          generalize hw : w5.alloc _ = w6
          replace O := Aside0.mk (O.out.of hw); clear hw hc1
          generalize w5.heap.size = g10 at O ⊢
          have q3 := (blk_cell O.out.b3 3).trans rfl
          have y0 := (blk_cell O.out.b0 0).trans rfl; have y1 := (blk_cell O.out.b0 1).trans rfl; have y2 := (blk_cell O.out.b0 2).trans rfl
          by_cases hrng : last ≤ gen2 ∧ gen2 ≤ gen
          · obtain ⟨hl, hu⟩ := hrng
            have HE3 : Aside0 (bodyL gen last (T.drop i.toNat) = if P1.length < 56 then P1 else P1 ++ bodyL gen gen2 (T.drop (i.toNat + 1))) := ⟨by rw [HE2.out, bodyL_yes ⟨HP.out, by rw [← HG2.out]; exact hl, by rw [← HG2.out]; exact hu⟩, ← HG2.out, ← HP1.out]⟩
            have O2 := Aside0.mk O.out.p2
            go_upto_region 15 with (at_builtin; go_loud (refine Own.app_row (enc := Value.int .u8) (h1 := fun _ => rfl) 0 rfl (.tmp 57) (.tmp 59) 22 5 (.int .u8 0) 1 rfl Try.underlying22 info5 rfl (by omega) _ xs P1 A2 P1.length c2 rfl rfl O2.out O.out.c1 (by have := HL.out; have := HI.out; omega) ?_); intro v7 w7 hX; have O3 := Aside0.mk hX; clear hX)
            clear q3 y0 y1 y2 O O2
            have y2 := (blk_cell O3.out.b1 2).trans rfl
            by_cases h56 : P1.length < 56
            · go_wp2
              go_meet
              case rel =>
                have := O3.out
                rw [HE.out, HE3.out, if_pos h56]
                exact ⟨this.p1.drop.p1.drop⟩
            · go_wp2
              go_roundg (gk - 1)
              case measure => have := HI.out; omega
              case rel =>
                refine ⟨i + 1, gen2, xs ++ P1, ?_, rfl, ⟨by have := HI.out; omega, by have := HI.out; omega, by have := HI.out; omega⟩, ⟨?_⟩, ⟨?_⟩, ⟨O3.out.p1.drop.p1.drop⟩⟩
                · first | rfl | (rw [wrap_succ (by omega) (by omega)])
                · have := HL.out; rw [List.length_append]; omega
                · rw [HE.out, HE3.out, if_neg h56, show (i + 1).toNat = i.toNat + 1 by omega, List.append_assoc]
          · have HE3 : Aside0 (X = xs) := ⟨by rw [HE.out, HE2.out, bodyL_no (fun h => hrng ⟨by rw [HG2.out]; exact h.2.1, by rw [HG2.out]; exact h.2.2⟩), List.append_nil]⟩
            by_cases hl : last ≤ gen2
            · have hu : ¬ gen2 ≤ gen := fun h => hrng ⟨hl, h⟩
              clear hrng
              go_wp2
              go_meet
              case rel => rw [HE3.out]; exact ⟨O.out.drop.drop⟩
            · clear hrng
              go_wp2
              go_meet
              case rel => rw [HE3.out]; exact ⟨O.out.drop.drop⟩
        · have HP := Aside0.mk hp; clear hp
          have HE3 : Aside0 (X = xs) := ⟨by rw [HE.out, HE2.out, bodyL_no (fun h => HP.out h.1), List.append_nil]⟩
          go_wp2_with fail
          refine (implPageOf_no _ _ _ _ HC1.out HLE.out HB2.out.2 HP.out).mono ?_
          intro e w5 hg
          obtain ⟨v, rfl, k⟩ := own_pg hg
          replace O := Aside0.mk (O.out.app1 k); clear k hg
          obtain ⟨A2, c2, rfl, _⟩ := O.out.f0
          go_upto_region 12 with (fail)
          generalize hw : w5.alloc _ = w6
          replace O := Aside0.mk (O.out.of hw); clear hw hc1
          generalize w5.heap.size = g10 at O ⊢
          have y0 := (blk_cell O.out.b0 0).trans rfl
          go_wp2
          go_meet
          case rel => rw [HE3.out]; exact ⟨O.out.drop.drop⟩
      · have HE3 : Aside0 (X = xs) := ⟨by rw [HE.out, List.drop_of_length_le (by omega), bodyL, List.append_nil]⟩
        go_wp2
        go_meet
        case rel => rw [HE3.out]; exact ⟨O.out⟩
  case rest =>
    clear hA hT eT HX HBL HH HTC HTB HXE HGEN hT1 O w1 w2 w3 w4
    have O := hcut; clear hcut
    obtain ⟨Ab, cb, rfl, hcb⟩ := O.out.f0
    replace O := Aside0.mk (O.out.p1.nilRow rN 33)
    go_wp2_with fail
    go_loopg [11] (X.length + 1) (fun m v11 wr => ∃ (len : Nat) (notes : List Nt) (k : Nat) (vn : Value), Aside0 (len ≤ X.length ∧ X.length - len ≤ k ∧ X.length - len < m + 1 ∧ notes.length ≤ len) ∧ Aside0 (framesL X = (notes ++ (framesF k (X.drop len)).1, len + (framesF k (X.drop len)).2))
      ∧ Aside0 (Own w wr [Rs.row rN 33 vn notes, Rs.box (w.heap.size + 1) 59 #[.bool true, vn, .int .i64 len, .int .i64 gen, .int .i64 0], Rs.row rB 5 (.slice Ab X.length cb) X, Rs.box w.heap.size 59 #[.bool false, .slice none 0 0, .int .i64 0, .int .i64 0, .int .i64 0]]))
    case atStart => exact ⟨0, [], X.length, .slice none 0 0, ⟨by simp; omega⟩, ⟨by simp [framesL]⟩, O⟩
    case round =>
      clear O
      obtain ⟨len, notes, k, vn, HI, HE, O⟩ := hrel
      obtain ⟨A', hcut, hC, hle⟩ := low_cut (A := Ab) (c := cb) (xs := X) len HI.out.1 hcb
      obtain ⟨Y, hY⟩ : ∃ Y, Y = X.drop len := ⟨_, rfl⟩
      have HYok : Aside0 (BsOk Y) := ⟨by rw [hY]; exact HOK.out.drop _⟩
      have HCY : Aside0 (kB.C wr A' Y.length Y) := ⟨by rw [hY]; exact hC _ O.out.c2⟩
      rw [← hY] at hcut hle
      have HY := Aside0.mk hY
      have HLE := Aside0.mk hle
      clear hY hC hle
      obtain ⟨An, cn, rfl, _⟩ := O.out.f0
      have q1 := (blk_cell O.out.b1 1).trans rfl; have q2 := (blk_cell O.out.b1 2).trans rfl
      by_cases hfr : FrIs Y
      · have HFR := Aside0.mk hfr
        obtain ⟨hf17, hflen⟩ := fr_len HYok.out hfr
        clear hfr
        go_wp2_with fail
        refine (implReadFrame_yes _ _ _ _ HCY.out HLE.out HYok.out HFR.out).mono ?_
        rintro e w3 ⟨rfl, hb3⟩
        replace O := Aside0.mk (O.out.below hb3)
        obtain ⟨x, hx⟩ : ∃ x, x = noteOf Y := ⟨_, rfl⟩
        obtain ⟨fl, hfl⟩ : ∃ fl, fl = frLen Y := ⟨_, rfl⟩
        rw [← hx, ← hfl]
        rw [← hfl] at hf17 hflen
        have HX1 := Aside0.mk hx; have HFL := Aside0.mk hfl
        clear hx hfl hcut q1 q2 hb3
        have hYl : Y.length ≤ 10000 := by have := HXL.out; rw [HY.out, List.length_drop]; omega
        go_upto_region 18 with (fail)
        generalize hw : w3.alloc _ = w4
        replace O := Aside0.mk (O.out.of hw); clear hw
        generalize w3.heap.size = g11 at O ⊢
        have y0 := (blk_cell O.out.b0 0).trans rfl; have y1 := (blk_cell O.out.b0 1).trans rfl; have y2 := (blk_cell O.out.b0 2).trans rfl; have y3 := (blk_cell O.out.b0 3).trans rfl; have y4 := (blk_cell O.out.b0 4).trans rfl; have y5 := (blk_cell O.out.b0 5).trans rfl; have y6 := (blk_cell O.out.b0 6).trans rfl
        have q1 := (blk_cell O.out.b2 1).trans rfl; have z1 := blk_frozen O.out.b2 1
        replace O := Aside0.mk (O.out.p1.cel0 (N_mk _ x)).p1
        go_upto_region 20 with (at_builtin; go_loud (refine Own.app_one rN rfl (.tmp 75) (.tmp 78) 48 33 (.agg #[.int .i64 0, .int .i64 0, .int .i64 0, .int .i64 0, .string { data := #[] }]) 48 rfl Try.underlying48 info33 rfl (by decide) (by decide) (.slice An notes.length cn) notes x _ rfl rfl O.out (by have := HI.out; have := HXL.out; omega) ?_); intro v5 w5 hX; obtain ⟨A5, c5, rfl, hc5⟩ := hX.f0; have O5 := Aside0.mk hX; have u1 := (blk_cell hX.b2 1).trans rfl; have zu1 := blk_frozen hX.b2 1; clear hX)
        clear q1 z1 y0 y1 y2 y3 y4 y5 y6 u1 zu1 O
        generalize hw : World.setCell _ _ _ = w6
        replace O5 := Aside0.mk (O5.out.p2.st hw #[.bool true, .slice A5 (notes.length + 1) c5, .int .i64 len, .int .i64 gen, .int .i64 0] rfl)
        clear hw
        have q2 := (blk_cell O5.out.b0 2).trans rfl; have z2 := blk_frozen O5.out.b0 2
        have y6 := (blk_cell O5.out.b2 6).trans rfl
        have hlenX := HI.out.1
        have hXl := HXL.out
        go_wp2
        generalize hw : World.setCell _ _ _ = w7
        replace O5 := Aside0.mk (O5.out.st hw #[.bool true, .slice A5 (notes.length + 1) c5, .int .i64 (len + fl), .int .i64 gen, .int .i64 0] rfl)
        clear hw
        go_roundg (gk - 1)
        case measure => have := HI.out; have := congrArg List.length HY.out; rw [List.length_drop] at this; omega
        case rel =>
          have hYl2 := congrArg List.length HY.out
          rw [List.length_drop] at hYl2
          have hi := HI.out
          obtain ⟨k', rfl⟩ : ∃ k', k = k' + 1 := ⟨k - 1, by omega⟩
          have ecast : ((len + fl.toNat : Nat) : Int) = len + fl := by omega
          refine ⟨len + fl.toNat, notes ++ [x], k', .slice A5 (notes.length + 1) c5, ⟨by omega, by omega, by omega, by simp; omega⟩, ⟨?_⟩, ⟨?_⟩⟩
          · have hd : Y.drop fl.toNat = X.drop (len + fl.toNat) := by rw [HY.out, List.drop_drop]
            rw [HE.out, ← HY.out, framesF_yes HFR.out, ← HFL.out, hd, ← HX1.out]
            simp [Nat.add_assoc]
          · rw [ecast]
            have h5 := O5.out.p1
            rw [show (notes ++ [x]).length = notes.length + 1 by simp] at h5
            exact h5.p2.drop.p1.p1
      · have HFR := Aside0.mk hfr
        clear hfr
        go_wp2_with fail
        refine (implReadFrame_no _ _ _ _ HCY.out HLE.out HYok.out HFR.out).mono ?_
        rintro e w3 ⟨rfl, hb3⟩
        replace O := Aside0.mk (O.out.below hb3)
        have HE2 : Aside0 (framesL X = (notes, len)) := ⟨by rw [HE.out, ← HY.out, framesF_no HFR.out]; simp⟩
        clear hcut q1 q2 hb3
        go_upto_region 18 with (fail)
        generalize hw : w3.alloc _ = w4
        replace O := Aside0.mk (O.out.of hw); clear hw
        generalize w3.heap.size = g11 at O ⊢
        have y0 := (blk_cell O.out.b0 0).trans rfl
        go_upto_region 21 with fail
        clear y0
        have q0 := (blk_cell O.out.b2 0).trans rfl; have q1 := (blk_cell O.out.b2 1).trans rfl; have q2 := (blk_cell O.out.b2 2).trans rfl; have q3 := (blk_cell O.out.b2 3).trans rfl; have q4 := (blk_cell O.out.b2 4).trans rfl
        have HTO := Aside0.mk (to_c (A := Ab) (c := cb) len HI.out.1 hcb)
        refine sta (fun w' => w'.cell? ⟨w.heap.size + 1, 0, none⟩ = some (.bool true) ∧ w'.cell? ⟨w.heap.size + 1, 1, none⟩ = some (.slice An notes.length cn) ∧ w'.cell? ⟨w.heap.size + 1, 2, none⟩ = some (.int .i64 len) ∧ w'.cell? ⟨w.heap.size + 1, 3, none⟩ = some (.int .i64 gen) ∧ w'.cell? ⟨w.heap.size + 1, 4, none⟩ = some (.int .i64 0)) [] 7 ⟨q0, q1, q2, q3, q4⟩ (fun hS => ?_)
        clear q0 q1 q2 q3 q4
        replace O := Aside0.mk O.out.drew
        generalize w4.drew = wd at O hS ⊢
        refine pu 1 2 ?_
        refine pu 2 6 ?_
        refine tk 0 7 hS ?_
        refine tk 3 15 hS ?_
        have hto := HTO.out
        refine pu 4 31 ?_
        clear hto
        have u0 := (blk_cell O.out.b4 0).trans rfl; have u1 := (blk_cell O.out.b4 1).trans rfl; have u2 := (blk_cell O.out.b4 2).trans rfl; have u3 := (blk_cell O.out.b4 3).trans rfl; have u4 := (blk_cell O.out.b4 4).trans rfl
        have z0 := blk_frozen O.out.b4 0; have z1 := blk_frozen O.out.b4 1; have z2 := blk_frozen O.out.b4 2; have z3 := blk_frozen O.out.b4 3; have z4 := blk_frozen O.out.b4 4
        refine on 5 63 (fun K hK => ?_)
        refine st ?_
        clear u0 u1 u2 u3 u4 z0 z1 z2 z3 z4 hS
        have O5 := ((((O.out.p4.set 0 (.bool true)).set 1 (.slice An notes.length cn)).set 2 (.int .i64 len)).set 3 (.int .i64 gen)).set 4 (.int .i64 0)
        have K5 := O5.b0
        have L5 := O5.b3
        have R5 := (O5.drop.drop.p1.drop.p1.take_row HI.out.1).p1
        generalize World.setCell _ _ _ = w5 at O5 K5 L5 R5 ⊢
        refine nx hK ⟨(blk_cell L5 0).trans rfl, (blk_cell L5 1).trans rfl, (blk_cell L5 2).trans rfl, (blk_cell L5 3).trans rfl, (blk_cell L5 4).trans rfl⟩ (fun hS => ?_)
        clear hK K hS
        refine pu 6 127 (dn ?_)
        go_wp2
        refine bodyPost_ret (results_ct rfl _ _ w.heap.size 59 _ (0, 0) _ rfl K5 Try.underlying59 rfl (by kernel_rfl)) rfl ?_
        exact HQ.out _ _ ⟨_, _, by rw [HE2.out]; rfl, by rw [HE2.out]; exact R5⟩
end Go.Proofs.Ytocdlibnmlcokaa
namespace Go.Proofs.Ytocdlibnmlcokaa
open Go.RowKit Go.Proofs.YtocdlibnmlcokaaW.PrintWords Go.Proofs.YtocdlibnmlcokaaW.PrintLast
set_option linter.unusedVariables false
set_option linter.unusedSimpArgs false
def PutOk (bs : List (List Int)) (ws : List Wr) (block : Int) (b : List Int) : Prop := DkOk bs ws ∧ 0 ≤ block ∧ block < 128 ∧ b.length = 64 ∧ ws.length < 200
set_option maxRecDepth 100000 in
set_option maxHeartbeats 2000000 in
theorem implPut_yes (A0 A1 A2 : Option Addr) (c0 c1 c2_ : Nat) (bs : List (List Int)) (ws : List Wr) (block : Int) (b : List Int) (w : World) (hx : rBS.d.C w A0 bs.length bs) (hy : rW.d.C w A1 ws.length ws) (hz : kB.C w A2 b.length b) (hyes : PutOk bs ws block b) :
    Calls Try.prog 54 #[.agg #[.slice A0 bs.length c0, .slice A1 ws.length c1], .int .i64 block, .slice A2 b.length c2_] w (GotDisk w bs (ws ++ [⟨block, b⟩])) := by
  have hb0 := below_alloc (below_alloc (Below.refl w.heap.size w) (.cells #[.slice A0 bs.length c0, .slice A1 ws.length c1] 43)) (.cells #[.slice none 0 0, .slice none 0 0] 43)
  have BK1 := Aside0.mk (blk_alloc (blk_new w (.cells #[.slice A0 bs.length c0, .slice A1 ws.length c1] 43)) (.cells #[.slice none 0 0, .slice none 0 0] 43))
  have BK2 := Aside0.mk (blk_new' (w := w.alloc (.cells #[.slice A0 bs.length c0, .slice A1 ws.length c1] 43)) (.cells #[.slice none 0 0, .slice none 0 0] 43) (n := w.heap.size + 1) (by simp))
  have HX := Aside0.mk (Kd.C_below hx hb0); have HY := Aside0.mk (Kd.C_below hy hb0); have HZ := Aside0.mk (Kd.C_below hz hb0); have HB0 := Aside0.mk hb0
  clear hx hy hz hb0
  obtain ⟨hd, h1, h2, h3, h4⟩ := hyes
  have b3 := eqT (a := (b.length : Int)) (b := 64) (by omega)
  have h5 : ¬ (ws.length : Int) = 200 := by omega
  have b4 := eqF h5
  have hlt : ¬ 200 ≤ (ws.length : Int) := by omega
  have HR : Aside0 ((decide (0 ≤ block) && decide (block ≤ 127)) = true) := ⟨by simp; omega⟩
  have H3 := Aside0.mk h3
  have HD := Aside0.mk hd; clear hd h5 h3
  go_enter Try.func54, Try.ntmps54
  go_wp2_with fail
  refine (implDiskOk_c _ _ _ _ bs ws true ⟨fun _ => HD.out, fun _ => rfl⟩ _ HX.out HY.out).mono ?_
  rintro e w1 ⟨rfl, hb1⟩
  have J1 := blk_below BK1.out hb1; have J2 := blk_below BK2.out hb1
  have d0 := (blk_cell J1 0).trans rfl; have d1 := (blk_cell J1 1).trans rfl
  replace HX := Aside0.mk (Kd.C_below HX.out hb1); replace HY := Aside0.mk (Kd.C_below HY.out hb1); replace HZ := Aside0.mk (Kd.C_below HZ.out hb1)
  have HB1 := Aside0.mk (below_then HB0.out (by simp; omega) hb1); replace BK1 := Aside0.mk J1; replace BK2 := Aside0.mk J2
  clear J1 J2 hb1 HB0
  go_wp2_with fail
  refine (copyDisk_c _ _ bs _ _ ws _ HX.out HY.out (by have := HD.out.1; omega) (by have := HD.out.2.1; omega) (fun x hx => by have := HD.out.2.2.1 x hx; omega) (fun x hx => by have := HD.out.2.2.2 x hx; omega)).mono ?_
  rintro e w2 ⟨v0, v1, f0, f1, rfl, r0, r1, hnd, hge, hb2⟩
  obtain ⟨Ap, cp_, rfl, _, _⟩ := Rp.Row_reads r0
  obtain ⟨Aq, cq, rfl, _, _⟩ := Rp.Row_reads r1
  replace HZ := Aside0.mk (Kd.C_below HZ.out hb2)
  replace BK2 := Aside0.mk (blk_below BK2.out hb2)
  have HB2 := Aside0.mk (below_then HB1.out HB1.out.size hb2)
  have R0 := Aside0.mk r0; have R1 := Aside0.mk r1; have HN := Aside0.mk hnd
  have HG : Aside0 (∀ x ∈ f0 ++ f1, w.heap.size ≤ x) := ⟨fun x hx => by have := hge x hx; have := HB1.out.size; omega⟩
  clear r0 r1 hnd hge hb2 d0 d1 HB1 BK1 HX HY
  go_wp2_with fail
  generalize hw3 : w2.alloc _ = w3
  obtain ⟨k7, hb3, hs3⟩ := alloc1 hw3
  clear hw3
  have hne : w.heap.size + 1 < w2.heap.size := blk_lt BK2.out
  have BK7 := Aside0.mk (blk_drew k7)
  replace BK2 := Aside0.mk (blk_drew (blk_below BK2.out hb3))
  replace HZ := Aside0.mk (Kd.C_drew (Kd.C_below HZ.out hb3))
  replace R0 := Aside0.mk (Rp.Row_drew (Rp.Row_below R0.out hb3)); replace R1 := Aside0.mk (Rp.Row_drew (Rp.Row_below R1.out hb3))
  have hsz := HB2.out.size
  have HB3 := Aside0.mk (below_drew (below_then HB2.out HB2.out.size hb3))
  clear k7 hb3 hs3 HB2 b3 b4 hlt
  refine sta (fun w' => w'.cell? ⟨w2.heap.size, 1, none⟩ = some (.slice Aq ws.length cq)) [9] 10 ((blk_cell BK7.out 1).trans rfl) (fun hS => ?_)
  generalize w3.drew = wd at BK7 BK2 HZ R0 R1 HB3 hS ⊢
  generalize w2.heap.size = g7 at BK7 hS hne hsz ⊢
  refine pu 0 1 ?_
  refine pu 2 5 ?_
  refine pu 3 13 ?_
  refine tk 1 15 hS ?_
  refine on 4 31 (fun K hK => ?_)
  refine ca (cp_c _ _ b _ HZ.out (by have := H3.out; omega)) Try.func114 ?_
  rintro e wa ⟨va_, rfl, ⟨fa, hra, hna, hfa⟩, hba⟩
  obtain ⟨Aa, ca_, rfl, _, _⟩ := Rp.Row_reads hra
  refine ⟨_, rfl, nx hK (pw_cell_below hba hS) (fun hS => ?_)⟩
  clear hK K
  refine pu 5 63 ?_
  refine on 6 127 (fun K hK => ?_)
  refine va ?_
  refine nx hK (pw_cell_below (below_alloc (Below.refl _ _) _) hS) (fun hS => ?_)
  clear hK K
  have HOa := Rp.Row_below R1.out hba
  have BKa := blk_below BK7.out hba
  have hndd := List.nodup_append.1 HN.out
  refine on 7 255 (fun K hK => ?_)
  refine Rp.app_one_step rW (by rfl) (.tmp 34) (.tmp 39) 41 147 (.agg #[(.int .i64 0), (.slice none 0 0)]) 32 (by rfl) Try.underlying41 info147 rfl (by decide) (by omega) (.slice Aq ws.length cq) ws (⟨block, b⟩ : Wr) [.int .i64 block, .slice Aa b.length ca_] (by rfl) (by rfl) HOa (W_mk ⟨block, b⟩ hra) (Rp.nodup_new hndd.2.1 hna (Rp.Row_lt R1.out) hfa) (by have := HD.out.2.1; omega) ?_
  intro vn w4 fp1 hr1 hn1 hf1 hg1
  generalize hL : ws ++ [(⟨block, b⟩ : Wr)] = L at hr1
  have HL := Aside0.mk hL; clear hL
  obtain ⟨Av, cv, rfl, _, _⟩ := Rp.Row_reads hr1
  obtain ⟨hr3, hk3, kp3⟩ := box_app HOa BKa (by decide) hg1 hr1 1
  have BKw := blk_grown BKa hg1 (Rp.Row_ne HOa (Rp.Row_not HOa BKa (by decide)))
  refine nx hK ((blk_cell BKw 1).trans rfl) (fun hS => ?_)
  clear hK K
  refine pu 8 511 ?_
  refine la 9 1023 (fun K hK => ?_)
  have z := blk_frozen BKw 1
  refine st ?_
  refine nl hK (dn ?_)
  clear hK K z hS
  generalize w4.setCell _ _ = wf at hr3 hk3 kp3 ⊢
  have kp : Kp wd wf (f1 ++ [g7]) := ((Kp.below hba).mono (by simp)).trans kp3 (fun b hb _ => hb)
  have n0 := Rp.Row_not R0.out BK7.out (by decide)
  have m1 := Rp.Row_not R1.out BK2.out (by decide)
  have J2 := kp.blk BK2.out (by simp; exact ⟨m1, by omega⟩)
  have S0 := kp.row R0.out (fun x hx hm => by
    rcases List.mem_append.1 hm with h | h
    · exact hndd.2.2 x hx x h rfl
    · simp at h; exact n0 (h ▸ hx))
  have HB4 := kp.toBelow HB3.out HB3.out.size (fun x hx => by rcases List.mem_append.1 hx with h | h; exact HG.out x (List.mem_append_right _ h); simp at h; omega)
  have hn4 : (f0 ++ fp1).Nodup := List.nodup_append.2 ⟨hndd.1, hn1, fun a ha x hx he => by
    subst he
    have h5 := Rp.Row_lt R0.out a ha
    rcases hf1 a hx with h | h | h
    · exact hndd.2.2 a ha a h rfl
    · have := hfa a h; omega
    · have := hba.size; omega⟩
  have hg4 : ∀ x ∈ f0 ++ fp1, w.heap.size ≤ x := fun x hx => by
    rcases List.mem_append.1 hx with h | h
    · exact HG.out x (List.mem_append_left _ h)
    rcases hf1 x h with h | h | h
    · exact HG.out x (List.mem_append_right _ h)
    · have := hfa x h; have := HB3.out.size; omega
    · have := hba.size; have := HB3.out.size; omega
  have c7 := (blk_cell hk3 0).trans rfl; have c8 := (blk_cell hk3 1).trans rfl
  have c2 := (blk_cell J2 0).trans rfl; have c3 := (blk_cell J2 1).trans rfl; have z2 := blk_frozen J2 0; have z3 := blk_frozen J2 1
  obtain ⟨I2, q2⟩ := set2 J2 (.slice Ap bs.length cp_) (.slice Av L.length cv)
  have u0 := Rp.Row_not S0 J2 (by decide); have u1 := Rp.Row_not hr3 J2 (by decide)
  have T0 := Aside0.mk (q2.row S0 (fun x hx hm => u0 (by simp at hm; exact hm ▸ hx))); have T1 := Aside0.mk (q2.row hr3 (fun x hx hm => u1 (by simp at hm; exact hm ▸ hx)))
  have HB5 := Aside0.mk (q2.toBelow HB4 HB4.size (fun x hx => by simp at hx; omega))
  have II := Aside0.mk I2; have HN4 := Aside0.mk hn4; have HG4 := Aside0.mk hg4
  clear hn4 hg4 I2 q2 u0 u1 J2 S0 HB4 n0 m1 kp kp3 hk3 hr3 hr1 hn1 hf1 hg1 HOa BKa BKw hba hfa hna hra hndd
  go_wp2
  refine bodyPost_ret (results_cell_row rfl _ _ (w.heap.size + 1) 43 #[.slice Ap bs.length cp_, .slice Av L.length cv] (0, 0) _ rfl II.out Try.underlying43 rfl (by kernel_rfl)) rfl ?_
  rw [HL.out]
  exact ⟨_, _, f0, fp1, rfl, T0.out, T1.out, HN4.out, HG4.out, HB5.out⟩
end Go.Proofs.Ytocdlibnmlcokaa
namespace Go.Proofs.Ytocdlibnmlcokaa
open Go.RowKit Go.Proofs.YtocdlibnmlcokaaW.PrintWords Go.Proofs.YtocdlibnmlcokaaW.PrintLast
set_option linter.unusedVariables false
set_option linter.unusedSimpArgs false
def setTo (bs : List (List Int)) (ws : List Wr) (kf : Nat → Bool) : Nat → List (List Int)
  | 0 => bs
  | i + 1 => if kf i then (setTo bs ws kf i).set (ws.getD i ⟨0, []⟩).block.toNat (ws.getD i ⟨0, []⟩).bytes else setTo bs ws kf i
theorem setTo_len (bs : List (List Int)) (ws : List Wr) (kf : Nat → Bool) : ∀ i, (setTo bs ws kf i).length = bs.length
  | 0 => rfl
  | i + 1 => by
    simp only [setTo]
    split
    · rw [List.length_set, setTo_len bs ws kf i]
    · exact setTo_len bs ws kf i
def settleL (bs : List (List Int)) (ws : List Wr) (kf : Nat → Bool) : List (List Int) := setTo bs ws kf ws.length
def kfL (all : Bool) (kl : List Bool) (i : Nat) : Bool := all || kl.getD i false
theorem All3_loc {α : Type} {r : Rp α} {w w1 : World} {xs : List α} {css : List (List Value)} {fps : List (List Nat)} (ha : All3 (r.P w) xs css fps) (hm : ∀ b ∈ fps.flatten, w1.heap[b]? = w.heap[b]?) : All3 (r.P w1) xs css fps :=
  ha.imp fun a b c hc hP => r.loc hP fun k hk => hm k (List.mem_flatten.2 ⟨c, hc, hk⟩)
def Parts (w : World) (v : Value) (ws : List Wr) (css : List (List Value)) (fps : List (List Nat)) : Prop :=
  w.ownsRow 0 147 2 v ws.length css.flatten ∧ All3 (rW.P w) ws css fps
theorem Parts.row {w : World} {v : Value} {ws : List Wr} {css : List (List Value)} {fps : List (List Nat)} (h : Parts w v ws css fps) : rW.Row 147 w v ws (v.ownBlock.toList ++ fps.flatten) := ⟨css, fps, h.1, h.2, rfl⟩
theorem Parts.kp {w w1 : World} {v : Value} {ws : List Wr} {css : List (List Value)} {fps : List (List Nat)} {S : List Nat} (h : Parts w v ws css fps) (k : Kp w w1 S) (hS : ∀ b ∈ v.ownBlock.toList ++ fps.flatten, b ∉ S) : Parts w1 v ws css fps := by
  have hlt := Rp.Row_lt h.row
  obtain ⟨ho, ha⟩ := h
  refine ⟨own_move ho fun b hb => ?_, All3_loc ha fun b hb => k.block b (hlt b (List.mem_append_right _ hb)) (hS b (List.mem_append_right _ hb))⟩
  have hm : b ∈ v.ownBlock.toList ++ fps.flatten := List.mem_append_left _ (by rw [hb]; simp)
  exact k.block b (hlt b hm) (hS b hm)
end Go.Proofs.Ytocdlibnmlcokaa
