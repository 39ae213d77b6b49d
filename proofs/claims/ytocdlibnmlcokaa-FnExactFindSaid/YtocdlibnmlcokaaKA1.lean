/- Contracts and words that the laws rest on, part 1: for every world; conditions as each theorem says. -/
import Derived.Test.YtocdlibnmlcokaaProg
import Derived.Below
import Derived.Deep.Draws
import Derived.Deep.AppendLies
import Derived.Maps.AppendAt
import Derived.OwnWalk
import Derived.Laws.BytesArg
import Derived.Laws.MakeOwn
import Derived.Laws.OwnMore
import Derived.Deep.OwnRows
import Derived.Tactics
import Derived.Lib.ConvBytes
import Derived.Laws.Slices
import Derived.WalkKit
import Derived.KernelRfl
import Derived.RowKit3
import Derived.Deep.LoopGhost
import Derived.Deep.QuietTactic
import Derived.BigQuiet
import Derived.WideLaws
import Derived.Deep.DeepCutAuto
import Derived.Deep.CutBlock
import Derived.Deep.RegionHeld3
import Derived.Laws.Rows
import Derived.Lib.AppendStr
import Derived.ArgAppend
import Derived.Laws.IdiomCopy
import Derived.OrdersHeld
import Derived.Laws.BitsLemmas
import Derived.RowKit
import Derived.Test.YtocdlibnmlcokaaWWords
import Derived.Test.YtocdlibnmlcokaaWLast
import Derived.Test.YtocdlibnmlcokaaWTab
import Derived.Test.YtocdlibnmlcokaaWMore
import Derived.Test.YtocdlibnmlcokaaWZeros
import Derived.Laws.Strings
namespace Go.Proofs.Ytocdlibnmlcokaa
open Go.RowKit Go.Proofs.YtocdlibnmlcokaaW.PrintWords Go.Proofs.YtocdlibnmlcokaaW.PrintLast
theorem wrap_succ {i : Int} (h0 : 0 ≤ i) (h1 : i < 9223372036854775807) : wrap64 (i + 1) = i + 1 := by unfold wrap64; omega
theorem take_succ_eq {α : Type} {xs ys : List α} {n : Nat} (hx : n < xs.length) (hy : n < ys.length) (h : xs.take n = ys.take n) (he : xs[n] = ys[n]) : xs.take (n + 1) = ys.take (n + 1) := by
  rw [List.take_succ_eq_append_getElem hx, List.take_succ_eq_append_getElem hy, h, he]
theorem rd_eq {xs : List Int} {i : Int} (h1 : i.toNat < xs.length) : rd xs i = xs[i.toNat] := by simp [rd, List.getD_eq_getElem?_getD, h1]
end Go.Proofs.Ytocdlibnmlcokaa
namespace Go.Proofs.Ytocdlibnmlcokaa
open Go.RowKit Go.Proofs.YtocdlibnmlcokaaW.PrintWords Go.Proofs.YtocdlibnmlcokaaW.PrintLast
inductive All3 {α β γ : Type} (R : α → β → γ → Prop) : List α → List β → List γ → Prop
  | nil : All3 R [] [] []
  | cons {a : α} {b : β} {c : γ} {xs : List α} {bs : List β} {cs : List γ} : R a b c → All3 R xs bs cs → All3 R (a :: xs) (b :: bs) (c :: cs)
namespace All3
variable {α β γ : Type} {R S : α → β → γ → Prop} {xs xs' : List α} {bs bs' : List β} {cs cs' : List γ} {a : α} {b : β} {c : γ}
theorem len1 (h : All3 R xs bs cs) : bs.length = xs.length := by induction h with | nil => rfl | cons _ _ ih => simp [ih]
theorem len2 (h : All3 R xs bs cs) : cs.length = xs.length := by induction h with | nil => rfl | cons _ _ ih => simp [ih]
theorem imp (h : All3 R xs bs cs) (hi : ∀ a b c, c ∈ cs → R a b c → S a b c) : All3 S xs bs cs := by
  induction h with
  | nil => exact .nil
  | cons h0 _ ih => exact .cons (hi _ _ _ List.mem_cons_self h0) (ih fun a b c hc => hi a b c (List.mem_cons_of_mem _ hc))
theorem append (h : All3 R xs bs cs) (k : All3 R xs' bs' cs') : All3 R (xs ++ xs') (bs ++ bs') (cs ++ cs') := by
  induction h with
  | nil => exact k
  | cons h0 _ ih => exact .cons h0 ih
theorem snoc (h : All3 R xs bs cs) (k : R a b c) : All3 R (xs ++ [a]) (bs ++ [b]) (cs ++ [c]) := h.append (.cons k .nil)
theorem get (h : All3 R xs bs cs) {i : Nat} (h0 : i < xs.length) (h1 : i < bs.length) (h2 : i < cs.length) : R xs[i] bs[i] cs[i] := by
  induction h generalizing i with
  | nil => simp at h0
  | cons hh _ ih =>
    cases i with
    | zero => exact hh
    | succ i => exact ih _ _ _
theorem set (h : All3 R xs bs cs) (i : Nat) (k : R a b c) : All3 R (xs.set i a) (bs.set i b) (cs.set i c) := by
  induction h generalizing i with
  | nil => exact .nil
  | cons hh ht ih =>
    cases i with
    | zero => exact .cons k ht
    | succ i => exact .cons hh (ih i)
end All3
structure Rp (α : Type) where
  d : Kd α
  E : List Nat
  P : World → α → List Value → List Nat → Prop
  toK : ∀ {w x cs fp}, P w x cs fp → d.K w x cs
  loc : ∀ {w w1 : World} {x cs fp}, P w x cs fp → (∀ b ∈ fp, w1.heap[b]? = w.heap[b]?) → P w1 x cs fp
  ty : ∀ {w : World} {x cs fp}, P w x cs fp → ∀ b ∈ fp, ∃ q ∈ E, ∃ cells, w.heap[b]? = some (.cells cells q (0, 0))
set_option linter.unusedVariables false
namespace Rp
theorem len {α : Type} (r : Rp α) {w : World} {x : α} {cs : List Value} {fp : List Nat} (h : r.P w x cs fp) : cs.length = r.d.sz := r.d.K_len (r.toK h)
def Row {α : Type} (r : Rp α) (e : Nat) (w : World) (v : Value) (xs : List α) (fp : List Nat) : Prop :=
  ∃ (css : List (List Value)) (fps : List (List Nat)), w.ownsRow 0 e r.d.sz v xs.length css.flatten ∧ All3 (r.P w) xs css fps ∧ fp = v.ownBlock.toList ++ fps.flatten
section
variable {α : Type} {r : Rp α} {e : Nat} {w w1 : World} {v : Value} {xs : List α} {x : α} {cs : List Value} {fp fpx : List Nat}
theorem P_lt (h : r.P w x cs fp) : ∀ b ∈ fp, b < w.heap.size := fun b hb => by
  obtain ⟨_, _, _, hc⟩ := r.ty h b hb
  exact blk_lt hc
theorem own_at_block {sz n : Nat} {ys : List Value} (h : w.ownsRow 0 e sz v n ys) {k : Nat} (hk : k ∈ v.ownBlock.toList) : v.ownBlock = some k := by
  cases hv : v.ownBlock with
  | none => rw [hv] at hk; simp at hk
  | some j => rw [hv] at hk; simp at hk; rw [hk]
theorem Row_ty (h : r.Row e w v xs fp) : ∀ b ∈ fp, ∃ q ∈ e :: r.E, ∃ cells, w.heap[b]? = some (.cells cells q (0, 0)) := by
  obtain ⟨css, fps, ho, ha, rfl⟩ := h
  intro b hb
  rcases List.mem_append.1 hb with hb | hb
  · obtain ⟨cells, hc⟩ := own_typed ho b (own_at_block ho hb)
    exact ⟨e, List.mem_cons_self, cells, hc⟩
  · obtain ⟨f, hf, hbf⟩ := List.mem_flatten.1 hb
    obtain ⟨i, hi, rfl⟩ := List.getElem_of_mem hf
    have hP := ha.get (i := i) (by have := ha.len2; omega) (by have := ha.len1; have := ha.len2; omega) hi
    obtain ⟨q, hq, hc⟩ := r.ty hP b hbf
    exact ⟨q, List.mem_cons_of_mem _ hq, hc⟩
theorem Row_lt (h : r.Row e w v xs fp) : ∀ b ∈ fp, b < w.heap.size := fun b hb => by
  obtain ⟨_, _, _, hc⟩ := Row_ty h b hb
  exact blk_lt hc
theorem Row_loc (h : r.Row e w v xs fp) (hm : ∀ b ∈ fp, w1.heap[b]? = w.heap[b]?) : r.Row e w1 v xs fp := by
  obtain ⟨css, fps, ho, ha, rfl⟩ := h
  refine ⟨css, fps, own_move ho fun k hk => hm k ?_, ha.imp fun a b c hc hP => r.loc hP fun k hk => hm k ?_, rfl⟩
  · exact List.mem_append_left _ (by rw [hk]; simp)
  · exact List.mem_append_right _ (List.mem_flatten.2 ⟨c, hc, hk⟩)
theorem Row_step (h : r.Row e w v xs fp) (hm : ∀ b ∈ fp, b < w.heap.size → w1.heap[b]? = w.heap[b]?) : r.Row e w1 v xs fp := Row_loc h fun b hb => hm b hb (Row_lt h b hb)
theorem Row_below (h : r.Row e w v xs fp) (hb : Below w.heap.size w w1) : r.Row e w1 v xs fp := Row_step h fun k _ hk => hb.block k hk
theorem Row_alloc (h : r.Row e w v xs fp) (o : Obj) : r.Row e (w.alloc o) v xs fp := Row_below h (below_alloc (Below.refl _ _) o)
theorem Row_drew (h : r.Row e w v xs fp) : r.Row e w.drew v xs fp := Row_below h (below_drew (Below.refl _ _))
theorem Row_drewN (h : r.Row e w v xs fp) (n : Nat) : r.Row e (w.drewN n) v xs fp := Row_below h (pw_below_drewN (Below.refl _ _) n)
theorem Row_far (h : r.Row e w v xs fp) {p : Addr} (hn : p.block ∉ fp) (u : Value) : r.Row e (w.setCell p u) v xs fp := Row_loc h fun k hk => Below.heap_setCell w p u k (fun he => hn (he ▸ hk))
theorem Row_not (h : r.Row e w v xs fp) {g t : Nat} {cells : Array Value} (hb : w.heap[g]? = some (.cells cells t (0, 0))) (ht : t ∉ e :: r.E) : g ∉ fp := fun hg => by
  obtain ⟨q, hq, cells', hc⟩ := Row_ty h g hg
  rw [hc] at hb
  injection hb with hb
  injection hb with _ hb
  exact ht (hb ▸ hq)
theorem Row_set (h : r.Row e w v xs fp) {g t : Nat} {cells : Array Value} (hb : w.heap[g]? = some (.cells cells t (0, 0))) (ht : t ∉ e :: r.E) (j : Nat) (u : Value) : r.Row e (w.setCell ⟨g, j, none⟩ u) v xs fp := Row_far h (Row_not h hb ht) u
theorem Row_nil (r : Rp α) (e : Nat) (w : World) : r.Row e w (.slice none 0 0) [] [] := ⟨[], [], own_nil _ _ _ _, .nil, rfl⟩
theorem flat_len {n : Nat} : ∀ {css : List (List Value)}, (∀ c ∈ css, c.length = n) → css.flatten.length = css.length * n
  | [], _ => by simp
  | c :: css, h => by
    rw [List.flatten_cons, List.length_append, h c List.mem_cons_self, flat_len (fun c hc => h c (List.mem_cons_of_mem _ hc)), List.length_cons, Nat.succ_mul, Nat.add_comm]
theorem flat_get {n : Nat} : ∀ {css : List (List Value)}, (∀ c ∈ css, c.length = n) → ∀ (i : Nat) (hi : i < css.length), (css.flatten.drop (i * n)).take n = css[i]
  | [], _, i, hi => by simp at hi
  | c :: css, h, i, hi => by
    have hc := h c List.mem_cons_self
    cases i with
    | zero => rw [Nat.zero_mul, List.drop_zero, List.flatten_cons, ← hc, List.take_left]; rfl
    | succ i =>
      have := flat_get (n := n) (css := css) (fun c hc => h c (List.mem_cons_of_mem _ hc)) i (by simpa using hi)
      rw [List.flatten_cons, List.drop_append, hc, List.drop_eq_nil_of_le (by rw [hc, Nat.succ_mul]; omega), List.nil_append, Nat.succ_mul, Nat.add_sub_cancel]
      exact this
theorem all_len {css : List (List Value)} {fps : List (List Nat)} (h : All3 (r.P w) xs css fps) : ∀ c ∈ css, c.length = r.d.sz := by
  intro c hc
  obtain ⟨i, hi, rfl⟩ := List.getElem_of_mem hc
  have := h.get (i := i) (by have := h.len1; omega) hi (by have := h.len1; have := h.len2; omega)
  exact r.len this
theorem all_reps {css : List (List Value)} {fps : List (List Nat)} (h : All3 (r.P w) xs css fps) : Reps (r.d.K w) r.d.sz xs css.flatten := by
  refine ⟨by rw [flat_len (all_len h), h.len1], fun j p hj => ?_⟩
  have hjl := (List.getElem?_eq_some_iff.1 hj).1
  rw [flat_get (all_len h) j (by rw [h.len1]; exact hjl)]
  have := h.get (i := j) hjl (by rw [h.len1]; exact hjl) (by rw [h.len2]; exact hjl)
  rw [List.getElem?_eq_getElem hjl] at hj
  injection hj with hj
  rw [← hj]
  exact r.toK this
theorem Row_reads (h : r.Row e w v xs fp) : ∃ A c, v = .slice A xs.length c ∧ xs.length ≤ c ∧ r.d.C w A xs.length xs := by
  obtain ⟨css, fps, ho, ha, rfl⟩ := h
  exact OwnRow.reads (base := 0) ⟨_, ho, all_reps ha⟩
theorem Row_C {A : Option Addr} {n c : Nat} (h : r.Row e w (.slice A n c) xs fp) : n = xs.length ∧ xs.length ≤ c ∧ r.d.C w A xs.length xs := by
  obtain ⟨A', c', he, h1, h2⟩ := Row_reads h
  injection he with ha hn hc
  subst ha; subst hc; subst hn
  exact ⟨rfl, h1, h2⟩
theorem Row_len (h : r.Row e w v xs fp) : xs.length ≤ 9223372036854775807 := by
  obtain ⟨_, _, _, _, hc⟩ := Row_reads h
  exact hc.2.1
theorem Row_block (h : r.Row e w v xs fp) {k : Nat} (hk : v.ownBlock = some k) : k ∈ fp := by
  obtain ⟨css, fps, ho, ha, rfl⟩ := h
  exact List.mem_append_left _ (by rw [hk]; simp)
theorem Row_ne (h : r.Row e w v xs fp) {g : Nat} (hg : g ∉ fp) : some g ≠ v.ownBlock := fun he => hg (Row_block h he.symm)
theorem Row_snoc {v1 : Value} {W : World} {css : List (List Value)} {fps : List (List Nat)} (ho : w.ownsRow 0 e r.d.sz v xs.length css.flatten) (ha : All3 (r.P w) xs css fps) (hp : r.P w x cs fpx) (hnd : (v.ownBlock.toList ++ fps.flatten ++ fpx).Nodup)
    (ho1 : W.ownsRow 0 e r.d.sz v1 (xs.length + 1) (css.flatten ++ cs))
    (hg : w.grownBy W v.ownBlock) (hat : v1.ownBlock = v.ownBlock ∨ ∃ b, v1.ownBlock = some b ∧ w.heap.size ≤ b) :
    ∃ fp1, r.Row e W v1 (xs ++ [x]) fp1 ∧ fp1.Nodup ∧ ∀ b ∈ fp1, b ∈ v.ownBlock.toList ++ fps.flatten ∨ b ∈ fpx ∨ w.heap.size ≤ b := by
  have hlt := Row_lt ⟨css, fps, ho, ha, rfl⟩
  have hxlt := P_lt hp
  have hnd' := hnd
  rw [List.append_assoc, List.nodup_append] at hnd
  obtain ⟨n1, n2, n3⟩ := hnd
  have hne : ∀ k ∈ fps.flatten ++ fpx, some k ≠ v.ownBlock := fun k hk he => n3 k (by rw [← he]; simp) k hk rfl
  have hlt' : ∀ k ∈ fps.flatten ++ fpx, k < w.heap.size := fun k hk => by
    rcases List.mem_append.1 hk with hk | hk
    · exact hlt k (List.mem_append_right _ hk)
    · exact hxlt k hk
  have hm : ∀ k ∈ fps.flatten ++ fpx, W.heap[k]? = w.heap[k]? := fun k hk => hg.block k (hlt' k hk) (hne k hk)
  refine ⟨v1.ownBlock.toList ++ (fps ++ [fpx]).flatten, ⟨css ++ [cs], fps ++ [fpx], ?_, ?_, rfl⟩, ?_, ?_⟩
  · have := ho1
    rw [List.length_append, List.length_singleton, List.flatten_append, List.flatten_singleton]
    exact this
  · refine All3.snoc (ha.imp fun a b c hc hP => r.loc hP fun k hk => hm k (List.mem_append_left _ (List.mem_flatten.2 ⟨c, hc, hk⟩))) (r.loc hp fun k hk => hm k (List.mem_append_right _ hk))
  · rw [List.flatten_append, List.flatten_singleton, List.nodup_append]
    refine ⟨by cases v1.ownBlock <;> simp, n2, fun a ha' b hb hab => ?_⟩
    subst hab
    rcases hat with hat | ⟨g, hat, hle⟩
    · rw [hat] at ha'; exact n3 a ha' a hb rfl
    · rw [hat] at ha'; simp at ha'; have := hlt' a hb; omega
  · intro b hb
    rw [List.flatten_append, List.flatten_singleton] at hb
    rcases List.mem_append.1 hb with hb | hb
    · rcases hat with hat | ⟨g, hat, hle⟩
      · rw [hat] at hb; exact .inl (List.mem_append_left _ hb)
      · rw [hat] at hb; simp at hb; exact .inr (.inr (by omega))
    · rcases List.mem_append.1 hb with hb | hb
      · exact .inl (List.mem_append_right _ hb)
      · exact .inr (.inl hb)
end
def scalar {α : Type} (enc : α → Value) (h1 : ∀ x, (enc x).oneCell' = true) : Rp α where
  d := Kd.scalar enc h1
  E := []
  P := fun _ x cs fp => cs = [enc x] ∧ fp = []
  toK := fun h => h.1
  loc := fun h _ => h
  ty := fun h b hb => by rw [h.2] at hb; simp at hb
def int (k : IntKind) : Rp Int := scalar (Value.int k) (fun _ => rfl)
def bool : Rp Bool := scalar Value.bool (fun _ => rfl)
def string : Rp ByteArray := scalar Value.string (fun _ => rfl)
def slice {α : Type} (e : Nat) (r : Rp α) : Rp (List α) where
  d := Kd.slice e r.d
  E := e :: r.E
  P := fun w xs cs fp => ∃ v, cs = [v] ∧ r.Row e w v xs fp
  toK := by
    rintro w x cs fp ⟨v, rfl, h⟩
    obtain ⟨A, c, rfl, hl, hr⟩ := Row_reads h
    exact ⟨A, c, rfl, hl, hr⟩
  loc := by
    rintro w w1 x cs fp ⟨v, rfl, h⟩ hm
    exact ⟨v, rfl, Row_loc h hm⟩
  ty := by
    rintro w x cs fp ⟨v, rfl, h⟩
    exact Row_ty h
def pair {α β : Type} (a : Rp α) (b : Rp β) : Rp (α × β) where
  d := Kd.pair a.d b.d
  E := a.E ++ b.E
  P := fun w x cs fp => ∃ c0 c1 f0 f1, cs = c0 ++ c1 ∧ fp = f0 ++ f1 ∧ a.P w x.1 c0 f0 ∧ b.P w x.2 c1 f1
  toK := by
    rintro w x cs fp ⟨c0, c1, f0, f1, rfl, rfl, h0, h1⟩
    exact ⟨c0, c1, rfl, a.toK h0, b.toK h1⟩
  loc := by
    rintro w w1 x cs fp ⟨c0, c1, f0, f1, rfl, rfl, h0, h1⟩ hm
    exact ⟨c0, c1, f0, f1, rfl, rfl, a.loc h0 fun b hb => hm b (List.mem_append_left _ hb), b.loc h1 fun b hb => hm b (List.mem_append_right _ hb)⟩
  ty := by
    rintro w x cs fp ⟨c0, c1, f0, f1, rfl, rfl, h0, h1⟩ k hk
    rcases List.mem_append.1 hk with hk | hk
    · obtain ⟨q, hq, h⟩ := a.ty h0 k hk
      exact ⟨q, List.mem_append_left _ hq, h⟩
    · obtain ⟨q, hq, h⟩ := b.ty h1 k hk
      exact ⟨q, List.mem_append_right _ hq, h⟩
def iso {α β : Type} (r : Rp α) (f : β → α) : Rp β where
  d := Kd.iso r.d f
  E := r.E
  P := fun w x cs fp => r.P w (f x) cs fp
  toK := fun h => r.toK h
  loc := fun h hm => r.loc h hm
  ty := fun h => r.ty h
end Rp
end Go.Proofs.Ytocdlibnmlcokaa
namespace Go.Proofs.Ytocdlibnmlcokaa
open Go.RowKit Go.Proofs.YtocdlibnmlcokaaW.PrintWords Go.Proofs.YtocdlibnmlcokaaW.PrintLast
set_option linter.unusedVariables false
namespace Rp
def Got {α : Type} (r : Rp α) (e lo : Nat) (w : World) (v : Value) (xs : List α) : Prop := ∃ fp, r.Row e w v xs fp ∧ fp.Nodup ∧ ∀ b ∈ fp, lo ≤ b
section
variable {α : Type} {enc : α → Value} {h1 : ∀ x, (enc x).oneCell' = true} {e : Nat} {w w1 : World} {v : Value} {xs ys : List α} {fp : List Nat}
theorem all3_scalar (w : World) (xs : List α) : All3 ((scalar enc h1).P w) xs (xs.map fun x => [enc x]) (xs.map fun _ => ([] : List Nat)) := by
  induction xs with
  | nil => exact .nil
  | cons x xs ih => exact .cons ⟨rfl, rfl⟩ ih
theorem flat_single (xs : List α) : (xs.map fun x => [enc x]).flatten = encs enc xs := by
  induction xs with
  | nil => rfl
  | cons x xs ih => simp [encs] at ih ⊢; exact ih
theorem flat_none (xs : List α) : (xs.map fun _ => ([] : List Nat)).flatten = [] := by
  induction xs with
  | nil => rfl
  | cons x xs ih => simp
theorem Row_own (ho : w.ownsRow 0 e 1 v xs.length (encs enc xs)) : (scalar enc h1).Row e w v xs v.ownBlock.toList :=
  ⟨_, _, by rw [flat_single]; exact ho, all3_scalar w xs, by rw [flat_none, List.append_nil]⟩
theorem scalar_css {css : List (List Value)} {fps : List (List Nat)} (h : All3 ((scalar enc h1).P w) xs css fps) : css.flatten = encs enc xs ∧ fps.flatten = [] := by
  induction h with
  | nil => exact ⟨rfl, rfl⟩
  | cons h0 _ ih => rw [h0.1, h0.2]; simp [encs] at ih ⊢; exact ih
theorem own_Row (h : (scalar enc h1).Row e w v xs fp) : w.ownsRow 0 e 1 v xs.length (encs enc xs) ∧ fp = v.ownBlock.toList := by
  obtain ⟨css, fps, ho, ha, rfl⟩ := h
  obtain ⟨h2, h3⟩ := scalar_css ha
  rw [h2] at ho
  exact ⟨ho, by rw [h3, List.append_nil]⟩
theorem nodup_toList (o : Option Nat) : o.toList.Nodup := by cases o <;> simp
theorem at_toList {o : Option Nat} {w : World} {u : Option Nat} (hat : o = u ∨ ∃ b, o = some b ∧ w.heap.size ≤ b) : ∀ b ∈ o.toList, b ∈ u.toList ∨ w.heap.size ≤ b := by
  intro b hb
  rcases hat with h | ⟨g, h, hle⟩
  · rw [h] at hb; exact .inl hb
  · rw [h] at hb; simp at hb; exact .inr (by omega)
end
section
variable {P : Program} {ops : Array Oper} {rest : List Oper} {o : Oper} {a : Act} {Q : Exit → Act → World → Prop} {W : World} {α : Type}
theorem nodup_new {f g : List Nat} {n : Nat} (hf : f.Nodup) (hg : g.Nodup) (hlt : ∀ b ∈ f, b < n) (hge : ∀ b ∈ g, n ≤ b) : (f ++ g).Nodup :=
  List.nodup_append.2 ⟨hf, hg, fun a ha b hb he => by have := hlt a ha; have := hge b hb; omega⟩
theorem app_row {enc : α → Value} {h1 : ∀ x, (enc x).oneCell' = true} (d : α) (hgd : o.guard = none) (s x : Operand) (t e : TypeId) (z : Value) (bytes : Nat)
    (ho : o.op = .call { callee := .builtin .append, args := #[s, x], argTypes := #[t, t] })
    (ht : P.underlying t = some (.slice e)) (hinfo : (P.info? e).map (fun i => (i.zero, i.size, i.bytes)) = some (some z, 1, bytes)) (hz : z.cells.size = 1) (hb0 : 0 < bytes)
    (v : Value) (xs ys : List α) (A : Option Addr) (m c : Nat) (hs : a.eval s = v) (hx : a.eval x = .slice A m c) {fp : List Nat}
    (HO : (scalar enc h1).Row e W v xs fp) (HR : (Kd.scalar enc h1).C W A m ys) (hl : (xs.length + m) * bytes ≤ 140737488355328)
    (h : ∀ v1 w1 fp1, (scalar enc h1).Row e w1 v1 (xs ++ ys) fp1 → fp1.Nodup → (∀ b ∈ fp1, b ∈ fp ∨ W.heap.size ≤ b) → W.grownBy w1 v.ownBlock → wpList P ops Q rest (a.put o.dst v1) w1) :
    wpList P ops Q (o :: rest) a W := by
  obtain ⟨ho', rfl⟩ := own_Row HO
  refine print_append_row_of (w0 := W) enc d 0 hgd s x t e z bytes ho ht hinfo hz hb0 h1 v xs ys A m c hs hx ho' (Kd.reads_of_C (d := d) HR) (Below.refl _ _) (Nat.zero_le _) hl ?_
  intro v1 w1 hown _ hg hat
  exact h v1 w1 _ (Row_own hown) (nodup_toList _) (at_toList hat) hg
theorem app_one (r : Rp α) (hgd : o.guard = none) (s x : Operand) (t e : TypeId) (z : Value) (bytes : Nat)
    (ho : o.op = .call { callee := .builtin .append, args := #[s, x], argTypes := #[t, t] })
    (ht : P.underlying t = some (.slice e)) (hinfo : (P.info? e).map (fun i => (i.zero, i.size, i.bytes)) = some (some z, r.d.sz, bytes)) (hz : z.cells.size = r.d.sz) (hs0 : 0 < r.d.sz) (hb0 : 0 < bytes)
    (v : Value) (xs : List α) (p : α) (cs : List Value) (hs : a.eval s = v) (hx : a.eval x = .slice (some ⟨W.heap.size, 0, none⟩) 1 1) {fp fpx : List Nat}
    (HO : r.Row e W v xs fp) (hp : r.P W p cs fpx) (hnd : (fp ++ fpx).Nodup) (hl : (xs.length + 1) * bytes ≤ 140737488355328)
    (h : ∀ v1 w1 fp1, r.Row e w1 v1 (xs ++ [p]) fp1 → fp1.Nodup → (∀ b ∈ fp1, b ∈ fp ∨ b ∈ fpx ∨ W.heap.size ≤ b) → W.grownBy w1 v.ownBlock → wpList P ops Q rest (a.put o.dst v1) w1) :
    wpList P ops Q (o :: rest) a (W.alloc (.cells cs.toArray e)) := by
  obtain ⟨css, fps, hown, ha, rfl⟩ := HO
  refine print_append_cells (w0 := W) 0 hgd s x t e z r.d.sz bytes ho ht hinfo hz hs0 hb0 v xs.length css.flatten cs hs hx (r.len hp) (r.d.K_one (r.toK hp)) hown (Below.refl _ _) (Nat.zero_le _) hl ?_
  intro v1 w1 hown1 _ hg hat
  obtain ⟨fp1, h2, h3, h4⟩ := Row_snoc hown ha hp hnd hown1 hg hat
  exact h v1 w1 fp1 h2 h3 h4 hg
theorem app_one_step (r : Rp α) {K : Act → World → Prop} {E : Prop} (hgd : o.guard = none) (s x : Operand) (t e : TypeId) (z : Value) (bytes : Nat)
    (ho : o.op = .call { callee := .builtin .append, args := #[s, x], argTypes := #[t, t] })
    (ht : P.underlying t = some (.slice e)) (hinfo : (P.info? e).map (fun i => (i.zero, i.size, i.bytes)) = some (some z, r.d.sz, bytes)) (hz : z.cells.size = r.d.sz) (hs0 : 0 < r.d.sz) (hb0 : 0 < bytes)
    (v : Value) (xs : List α) (p : α) (cs : List Value) (hs : a.eval s = v) (hx : a.eval x = .slice (some ⟨W.heap.size, 0, none⟩) 1 1) {fp fpx : List Nat}
    (HO : r.Row e W v xs fp) (hp : r.P W p cs fpx) (hnd : (fp ++ fpx).Nodup) (hl : (xs.length + 1) * bytes ≤ 140737488355328)
    (h : ∀ v1 w1 fp1, r.Row e w1 v1 (xs ++ [p]) fp1 → fp1.Nodup → (∀ b ∈ fp1, b ∈ fp ∨ b ∈ fpx ∨ W.heap.size ≤ b) → W.grownBy w1 v.ownBlock → K (a.put o.dst v1) w1) :
    if Region.wanted o (yielded ops a.tmps) = true then Oper.wp P o a (W.alloc (.cells cs.toArray e)) K Q else E := by
  have hw : Region.wanted o (yielded ops a.tmps) = true := by simp [Region.wanted, hgd]
  obtain ⟨css, fps, hown, ha, rfl⟩ := HO
  have := step_append_cells (Q := Q) (K := K) (ops := ops) (w0 := W) 0 hw s x t e z r.d.sz bytes ho ht hinfo hz hs0 hb0 v xs.length css.flatten cs hs hx (r.len hp) (r.d.K_one (r.toK hp)) hown (Below.refl _ _) (Nat.zero_le _) hl (by
    intro v1 w1 hown1 _ hg hat
    obtain ⟨fp1, h2, h3, h4⟩ := Row_snoc hown ha hp hnd hown1 hg hat
    exact h v1 w1 fp1 h2 h3 h4 hg)
  rw [if_pos hw] at this ⊢
  exact this
theorem mk_core (r : Rp α) (t e : TypeId) (x y : Operand) (ho : o.op = .makeSlice t x y) (n : Int) (hx : a.eval x = .int .i64 n) (hy : a.eval y = .int .i64 n)
    (ht : P.underlying t = some (.slice e)) (z : Value) (bytes : Nat) (hinfo : (P.info? e).map (fun i => (i.zero, i.size, i.bytes)) = some (some z, r.d.sz, bytes)) (hz : z.cells.size = r.d.sz) (hs0 : 0 < r.d.sz) (hb0 : 0 < bytes)
    (z0 : α) (hzero : ∀ w, r.P w z0 z.cells.toList []) (h0 : 0 ≤ n) (hl : n.toNat * bytes ≤ 281474976710656) :
    ∃ w1, (execOp a.eval o).run P W = .ok (.value (.slice (some ⟨W.heap.size, 0, none⟩) n.toNat n.toNat)) w1 ∧ r.Row e w1 (.slice (some ⟨W.heap.size, 0, none⟩) n.toNat n.toNat) (List.replicate n.toNat z0) [W.heap.size] ∧ Below W.heap.size W w1 := by
  obtain ⟨m, rfl⟩ := Int.eq_ofNat_of_zero_le h0
  simp only [Int.toNat_natCast] at hl ⊢
  obtain ⟨i0, hi, hzz⟩ := Option.map_eq_some_iff.1 hinfo
  simp only [Prod.mk.injEq] at hzz
  obtain ⟨hz0, hz1, hz2⟩ := hzz
  have hm : m ≤ 281474976710656 := Nat.le_trans (Nat.le_mul_of_pos_right _ hb0) hl
  have hr := run_make (P := P) W t e i0 z ht hi hz0 .i64 .i64 (m : Int) (m : Int) (by omega) (by omega)
    (by
      have h3 : ((i0.bytes * m : Nat) : Int) ≤ 281474976710656 := by rw [hz2, Nat.mul_comm]; omega
      rwa [Int.natCast_mul] at h3) (by omega)
  simp only [Int.toNat_natCast] at hr
  rw [hz1] at hr
  refine ⟨W.alloc (.cells (madeCells z.cells (m * r.d.sz)) e), by simp [execOp, ho, hx, hy, hr], ?_, below_alloc (Below.refl _ _) _⟩
  have key : ∀ k : Nat, k ≤ m → All3 (r.P (W.alloc (.cells (madeCells z.cells (m * r.d.sz)) e))) (List.replicate k z0) (List.replicate k z.cells.toList) (List.replicate k ([] : List Nat)) := by
    intro k
    induction k with
    | zero => intro _; exact .nil
    | succ k ih => intro hk; exact .cons (hzero _) (ih (by omega))
  have hfl : (List.replicate m z.cells.toList).flatten = (madeCells z.cells (m * r.d.sz)).toList := by
    have hzl : z.cells.toList.length = r.d.sz := by rw [Array.length_toList, hz]
    apply List.ext_getElem
    · rw [flat_len (n := r.d.sz) (fun c hc => by rw [List.mem_replicate] at hc; rw [hc.2, hzl])]
      simp [size_madeCells]
    · intro i h3 h4
      have hi4 : i < m * r.d.sz := by simpa [size_madeCells] using h4
      have hq : i / r.d.sz < m := (Nat.div_lt_iff_lt_mul hs0).2 hi4
      have e1 := flat_get (n := r.d.sz) (css := List.replicate m z.cells.toList) (fun c hc => by rw [List.mem_replicate] at hc; rw [hc.2, hzl]) (i / r.d.sz) (by simpa using hq)
      have hmod := Nat.mod_lt i hs0
      have hdm : i / r.d.sz * r.d.sz + i % r.d.sz = i := by rw [Nat.mul_comm]; exact Nat.div_add_mod i r.d.sz
      have e2 : (List.replicate m z.cells.toList).flatten[i]? = z.cells.toList[i % r.d.sz]? := by
        have e3 := congrArg (fun l => l[i % r.d.sz]?) e1
        simp only [List.getElem?_take, List.getElem?_drop, List.getElem_replicate] at e3
        rw [if_pos hmod, hdm] at e3
        exact e3
      rw [List.getElem?_eq_getElem h3, List.getElem?_eq_getElem (by rw [hzl]; exact hmod)] at e2
      injection e2 with e2
      rw [e2]
      simp [madeCells, hz]
      rw [getElem!_pos z.cells _ (by rw [hz]; exact hmod)]
  refine ⟨List.replicate m z.cells.toList, List.replicate m [], ?_, ?_, ?_⟩
  · rw [hfl, List.length_replicate]
    have h2 := World.ownsRow_lit (base := 0) (e := e) (size := r.d.sz) W (madeCells z.cells (m * r.d.sz)) m (Nat.zero_le _) (by simp only [maxLen]; omega) (by simp [size_madeCells])
    simpa using h2
  · exact key m (Nat.le_refl _)
  · simp [Value.ownBlock]
theorem mk_row (r : Rp α) (hgd : o.guard = none) {N : Tmp} (hd : o.dst = some N) (t e : TypeId) (x y : Operand) (ho : o.op = .makeSlice t x y) (n : Int) (hx : a.eval x = .int .i64 n) (hy : a.eval y = .int .i64 n)
    (ht : P.underlying t = some (.slice e)) (z : Value) (bytes : Nat) (hinfo : (P.info? e).map (fun i => (i.zero, i.size, i.bytes)) = some (some z, r.d.sz, bytes)) (hz : z.cells.size = r.d.sz) (hs0 : 0 < r.d.sz) (hb0 : 0 < bytes)
    (z0 : α) (hzero : ∀ w, r.P w z0 z.cells.toList []) (h0 : 0 ≤ n) (hl : n.toNat * bytes ≤ 281474976710656)
    (h : ∀ g w1, g = W.heap.size → r.Row e w1 (.slice (some ⟨g, 0, none⟩) n.toNat n.toNat) (List.replicate n.toNat z0) [g] → Below W.heap.size W w1 → wpList P ops Q rest (a.put o.dst (.slice (some ⟨g, 0, none⟩) n.toNat n.toNat)) w1) : wpList P ops Q (o :: rest) a W := by
  obtain ⟨w1, hrun, hr, hb⟩ := mk_core (W := W) (o := o) (a := a) r t e x y ho n hx hy ht z bytes hinfo hz hs0 hb0 z0 hzero h0 hl
  exact Kd.event_run hgd hrun (h _ _ rfl hr hb)
theorem mk_row_step (r : Rp α) {K : Act → World → Prop} {E : Prop} (hgd : o.guard = none) (t e : TypeId) (x y : Operand) (ho : o.op = .makeSlice t x y) (n : Int) (hx : a.eval x = .int .i64 n) (hy : a.eval y = .int .i64 n)
    (ht : P.underlying t = some (.slice e)) (z : Value) (bytes : Nat) (hinfo : (P.info? e).map (fun i => (i.zero, i.size, i.bytes)) = some (some z, r.d.sz, bytes)) (hz : z.cells.size = r.d.sz) (hs0 : 0 < r.d.sz) (hb0 : 0 < bytes)
    (z0 : α) (hzero : ∀ w, r.P w z0 z.cells.toList []) (h0 : 0 ≤ n) (hl : n.toNat * bytes ≤ 281474976710656)
    (h : ∀ g w1, g = W.heap.size → r.Row e w1 (.slice (some ⟨g, 0, none⟩) n.toNat n.toNat) (List.replicate n.toNat z0) [g] → Below W.heap.size W w1 → K (a.put o.dst (.slice (some ⟨g, 0, none⟩) n.toNat n.toNat)) w1) : if Region.wanted o (yielded ops a.tmps) = true then Oper.wp P o a W K Q else E := by
  obtain ⟨w1, hrun, hr, hb⟩ := mk_core (W := W) (o := o) (a := a) r t e x y ho n hx hy ht z bytes hinfo hz hs0 hb0 z0 hzero h0 hl
  have hw : Region.wanted o (yielded ops a.tmps) = true := by simp [Region.wanted, hgd]
  rw [if_pos hw]
  unfold Oper.wp
  rw [hrun]
  exact h _ _ rfl hr hb
theorem app_row_step {enc : α → Value} {h1 : ∀ x, (enc x).oneCell' = true} {K : Act → World → Prop} {E : Prop} (hgd : o.guard = none) (s x : Operand) (t e : TypeId) (z : Value) (bytes : Nat)
    (ho : o.op = .call { callee := .builtin .append, args := #[s, x], argTypes := #[t, t] })
    (ht : P.underlying t = some (.slice e)) (hinfo : (P.info? e).map (fun i => (i.zero, i.size, i.bytes)) = some (some z, 1, bytes)) (hz : z.cells.size = 1) (hb0 : 0 < bytes)
    (v : Value) (xs ys : List α) (A : Option Addr) (m c : Nat) (hs : a.eval s = v) (hx : a.eval x = .slice A m c) {fp : List Nat}
    (HO : (scalar enc h1).Row e W v xs fp) (HR : (Kd.scalar enc h1).C W A m ys) (hl : (xs.length + m) * bytes ≤ 140737488355328)
    (h : ∀ v1 w1 fp1, (scalar enc h1).Row e w1 v1 (xs ++ ys) fp1 → fp1.Nodup → (∀ b ∈ fp1, b ∈ fp ∨ W.heap.size ≤ b) → W.grownBy w1 v.ownBlock → K (a.put o.dst v1) w1) :
    if Region.wanted o (yielded ops a.tmps) = true then Oper.wp P o a W K Q else E := by
  have hw : Region.wanted o (yielded ops a.tmps) = true := by simp [Region.wanted, hgd]
  obtain ⟨ho', rfl⟩ := own_Row HO
  have := Kd.R_append_rows_step (Q := Q) (Kc := K) (ops := ops) (Kd.scalar enc h1) (Rr := (Kd.scalar enc h1).K W) (w0 := W) 0 hw s x t e z bytes ho ht hinfo hz (by show 0 < 1; omega) hb0 v xs ys A m c (fun _ => True) (fun _ => False) hs hx (Kd.R_of_own ho' (fun _ _ => trivial)) HR (fun _ _ h => h) (fun _ h => h.elim) (fun _ _ => trivial) (Below.refl _ _) (Nat.zero_le _) hl (by
    intro v1 w1 hr _ hg hat
    exact h v1 w1 _ (Row_own (Kd.own_of_R hr)) (nodup_toList _) (at_toList hat) hg)
  rw [if_pos hw] at this ⊢
  exact this
end
end Rp
structure Kp (w w1 : World) (S : List Nat) : Prop where
  os : w1.os = w.os
  tape : w1.tape = w.tape
  output : w1.output = w.output
  size : w.heap.size ≤ w1.heap.size
  block : ∀ b, b < w.heap.size → b ∉ S → w1.heap[b]? = w.heap[b]?
namespace Kp
variable {w w0 w1 w2 : World} {S S' : List Nat}
theorem refl (w : World) : Kp w w [] := ⟨rfl, rfl, rfl, Nat.le_refl _, fun _ _ _ => rfl⟩
theorem below (h : Below w.heap.size w w1) : Kp w w1 [] := ⟨h.os, h.tape, h.output, h.size, fun b hb _ => h.block b hb⟩
theorem grown {row : Option Nat} (h : w.grownBy w1 row) : Kp w w1 row.toList := ⟨h.os, h.tape, h.output, h.size, fun b hb hn => h.block b hb (by rintro rfl; simp at hn)⟩
theorem set (w : World) (g j : Nat) (u : Value) : Kp w (w.setCell ⟨g, j, none⟩ u) [g] := ⟨rfl, rfl, rfl, by simp, fun b _ hn => Below.heap_setCell w ⟨g, j, none⟩ u b (by simpa using hn)⟩
theorem trans (h : Kp w w1 S) (k : Kp w1 w2 S') (hs : ∀ b ∈ S', b < w.heap.size → b ∈ S) : Kp w w2 S :=
  ⟨k.os.trans h.os, k.tape.trans h.tape, k.output.trans h.output, Nat.le_trans h.size k.size, fun b hb hn => (k.block b (Nat.lt_of_lt_of_le hb h.size) (fun hm => hn (hs b hm hb))).trans (h.block b hb hn)⟩
theorem mono (h : Kp w w1 S) (hs : ∀ b ∈ S, b < w.heap.size → b ∈ S') : Kp w w1 S' := ⟨h.os, h.tape, h.output, h.size, fun b hb hn => h.block b hb (fun hm => hn (hs b hm hb))⟩
theorem blk (h : Kp w w1 S) {g : Nat} {o : Obj} (hg : w.heap[g]? = some o) (hn : g ∉ S) : w1.heap[g]? = some o := (h.block g (blk_lt hg) hn).trans hg
theorem row (h : Kp w w1 S) {α : Type} {r : Rp α} {e : Nat} {v : Value} {xs : List α} {fp : List Nat} (hr : r.Row e w v xs fp) (hn : ∀ b ∈ fp, b ∉ S) : r.Row e w1 v xs fp := Rp.Row_step hr fun b hb hlt => h.block b hlt (hn b hb)
theorem toBelow (h : Kp w w1 S) {B : Nat} (hb : Below B w0 w) (hB : B ≤ w.heap.size) (hs : ∀ b ∈ S, B ≤ b) : Below B w0 w1 :=
  ⟨h.os.trans hb.os, h.tape.trans hb.tape, h.output.trans hb.output, Nat.le_trans hb.size h.size, fun k hk => (h.block k (Nat.lt_of_lt_of_le hk hB) (fun hm => Nat.lt_irrefl _ (Nat.lt_of_lt_of_le hk (hs k hm)))).trans (hb.block k hk)⟩
end Kp
theorem box_app {α : Type} {r : Rp α} {e t g : Nat} {W w2 : World} {v v1 : Value} {xs xs1 : List α} {fp fp1 : List Nat} {cells : Array Value} (HO : r.Row e W v xs fp) (hg : W.heap[g]? = some (.cells cells t (0, 0))) (ht : t ∉ e :: r.E) (hgr : W.grownBy w2 v.ownBlock)
    (hr1 : r.Row e w2 v1 xs1 fp1) (j : Nat) : r.Row e (w2.setCell ⟨g, j, none⟩ v1) v1 xs1 fp1 ∧ (w2.setCell ⟨g, j, none⟩ v1).heap[g]? = some (.cells (cells.setIfInBounds j v1) t (0, 0)) ∧ Kp W (w2.setCell ⟨g, j, none⟩ v1) (fp ++ [g]) := by
  have hg2 := blk_grown hg hgr (Rp.Row_ne HO (Rp.Row_not HO hg ht))
  refine ⟨Rp.Row_set hr1 hg2 ht j v1, blk_set hg2 j v1, ?_⟩
  exact ((Kp.grown hgr).mono (S' := fp ++ [g]) (fun b hb _ => List.mem_append_left _ (Rp.Row_block HO (by simpa using hb)))).trans (Kp.set w2 g j v1) (fun b hb _ => List.mem_append_right _ hb)
theorem set1 {w : World} {g t : Nat} {cells : Array Value} (h : w.heap[g]? = some (.cells cells t (0, 0))) (j : Nat) (x : Value) : (w.setCell ⟨g, j, none⟩ x).heap[g]? = some (.cells (cells.setIfInBounds j x) t (0, 0)) ∧ Kp w (w.setCell ⟨g, j, none⟩ x) [g] := ⟨blk_set h j x, Kp.set _ _ _ _⟩
theorem set2 {w : World} {g t : Nat} {a b : Value} (h : w.heap[g]? = some (.cells #[a, b] t (0, 0))) (x y : Value) : ((w.setCell ⟨g, 0, none⟩ x).setCell ⟨g, 1, none⟩ y).heap[g]? = some (.cells #[x, y] t (0, 0)) ∧ Kp w ((w.setCell ⟨g, 0, none⟩ x).setCell ⟨g, 1, none⟩ y) [g] :=
  ⟨blk_set (blk_set h 0 x) 1 y, (Kp.set _ _ _ _).trans (Kp.set _ _ _ _) (fun _ hb _ => hb)⟩
theorem set3 {w : World} {g t : Nat} {a b c : Value} (h : w.heap[g]? = some (.cells #[a, b, c] t (0, 0))) (x y z : Value) : (((w.setCell ⟨g, 0, none⟩ x).setCell ⟨g, 1, none⟩ y).setCell ⟨g, 2, none⟩ z).heap[g]? = some (.cells #[x, y, z] t (0, 0)) ∧ Kp w (((w.setCell ⟨g, 0, none⟩ x).setCell ⟨g, 1, none⟩ y).setCell ⟨g, 2, none⟩ z) [g] :=
  ⟨blk_set (blk_set (blk_set h 0 x) 1 y) 2 z, ((Kp.set _ _ _ _).trans (Kp.set _ _ _ _) (fun _ hb _ => hb)).trans (Kp.set _ _ _ _) (fun _ hb _ => hb)⟩
theorem blk_new' {w : World} (o : Obj) {n : Nat} (h : w.heap.size = n) : (w.alloc o).heap[n]? = some o := by subst h; exact blk_new w o
theorem alloc1 {w w1 : World} {o1 : Obj} (h : w.alloc o1 = w1) : w1.heap[w.heap.size]? = some o1 ∧ Below w.heap.size w w1 ∧ w1.heap.size = w.heap.size + 1 := by
  subst h
  exact ⟨blk_new w o1, below_alloc (Below.refl _ w) o1, by simp⟩
theorem alloc2 {w w1 : World} {o1 o2 : Obj} (h : (w.alloc o1).alloc o2 = w1) : w1.heap[w.heap.size]? = some o1 ∧ w1.heap[w.heap.size + 1]? = some o2 ∧ Below w.heap.size w w1 ∧ w1.heap.size = w.heap.size + 2 := by
  subst h
  exact ⟨blk_alloc (blk_new w o1) _, blk_new' _ (by simp), below_alloc (below_alloc (Below.refl _ w) o1) o2, by simp⟩
theorem alloc3 {w w1 : World} {o1 o2 o3 : Obj} (h : ((w.alloc o1).alloc o2).alloc o3 = w1) : w1.heap[w.heap.size]? = some o1 ∧ w1.heap[w.heap.size + 1]? = some o2 ∧ w1.heap[w.heap.size + 1 + 1]? = some o3 ∧ Below w.heap.size w w1 ∧ w1.heap.size = w.heap.size + 3 := by
  subst h
  exact ⟨blk_alloc (blk_alloc (blk_new w o1) _) _, blk_alloc (blk_new' _ (by simp)) _, blk_new' _ (by simp), below_alloc (below_alloc (below_alloc (Below.refl _ w) o1) o2) o3, by simp⟩
end Go.Proofs.Ytocdlibnmlcokaa
namespace Go.Proofs.Ytocdlibnmlcokaa
open Go.RowKit Go.Proofs.YtocdlibnmlcokaaW.PrintWords Go.Proofs.YtocdlibnmlcokaaW.PrintLast
set_option linter.unusedVariables false
set_option linter.unusedSimpArgs false
theorem info5 : (Try.prog.info? 5).map (fun i => (i.zero, i.size, i.bytes)) = some (some (.int .u8 0), 1, 1) := by kernel_rfl
abbrev rB : Rp Int := Rp.int .u8
abbrev kB : Kd Int := Kd.int .u8
theorem cp_c (A : Option Addr) (c : Nat) (xs : List Int) (w : World) (hx : kB.C w A xs.length xs) (hm : xs.length ≤ 140737488355328) :
    Calls Try.prog 114 #[.slice A xs.length c] w fun e w' => ∃ v, e = .returned v ∧ Rp.Got rB 5 w.heap.size w' v xs ∧ Below w.heap.size w w' := by
  have HX := Aside0.mk hx; have HM := Aside0.mk hm; clear hx hm
  go_enter Try.func114, Try.ntmps114
  go_wp2_with (at_builtin; refine Rp.app_row (enc := Value.int .u8) (h1 := fun _ => rfl) 0 rfl _ _ 22 5 (.int .u8 0) 1 rfl Try.underlying22 info5 rfl (by omega) (.slice none 0 0) [] xs A xs.length c rfl rfl (Rp.Row_nil rB 5 _) HX.out (by have := HM.out; simp; omega) ?_; intro v1 w1 fp1 hr hn hf hg; have HR := Aside0.mk hr; have HN := Aside0.mk hn; have HF := Aside0.mk hf; have HG := Aside0.mk hg; clear hr hn hf hg)
  go_ret
  exact ⟨_, rfl, ⟨fp1, HR.out, HN.out, fun b hb => by simpa using HF.out b hb⟩, (Below.refl _ _).grown HG.out (Nat.le_refl _) (by simp [Value.ownBlock])⟩
end Go.Proofs.Ytocdlibnmlcokaa
namespace Go.Proofs.Ytocdlibnmlcokaa
open Go Go.RowKit Go.Proofs.YtocdlibnmlcokaaW.PrintWords Go.Proofs.YtocdlibnmlcokaaW.PrintLast
set_option linter.unusedVariables false
def bl (n m : Nat) : Array Bool := ((List.range n).map m.testBit).toArray
section
variable {P : Program} {ops : Array Oper} {Q : Exit → Act → World → Prop} {md : Region.Mode} {S : World → Prop} {ds : List Nat} {n m fuel : Nat} {a a' : Act} {w w1 : World} {N : Option Tmp} {oi : Oper} {v : Value} {K : Act → World → Prop}
theorem sta (S : World → Prop) (ds : List Nat) {id : Nat} (n : Nat) (hS : S w.drew) (h : S w.drew → wpAnyLast P .any ops Q S ds n (bl n 0) a w.drew) (hm : P.follows .mixedOrders = true := by kernel_rfl) (hn : ops.size = n := by rfl) (hl : Array.replicate n false = bl n 0 := by kernel_rfl) : (Code.region id ops true).wp P Q a w :=
  start_ _ hm hn hl hS h
theorem pu (i m' : Nat) (h : wpAnyLast P md ops Q S ds fuel (bl n m') a' w) (hi : ops[i]? = some oi := by simp only [List.getElem?_toArray, List.getElem?_cons_succ, List.getElem?_cons_zero]; rfl) (hN : oi.dst = N := by rfl) (hc : anyB md ops (bl n m) (bl n m') i = true := by kernel_rfl)
    (hQ : ∀ c a w, Q (.panic c) (a.put oi.dst v) w → Q (.panic c) a w := by exact fun _ _ _ h => h) (hw : Region.wanted oi (yielded ops a.tmps) = true := by rfl)
    (hr : ∀ w', (execOp a.eval oi).run P w' = .ok (.value v) w' := by intro w'; go_simp; with_reducible rfl)
    (ha : a.put N v = a' := by first | (simp only [Act.put, List.setIfInBounds_toArray, List.set_cons_zero, List.set_cons_succ, i64_w, i32_w]; rfl) | rfl) : wpAnyLast P md ops Q S ds (fuel + 1) (bl n m) a w :=
  pure_ _ hi hN hc hQ (Or.inl ⟨hw, hr⟩) ha h
theorem po (i m' : Nat) (h : wpAnyLast P md ops Q S ds fuel (bl n m') a' w) (hi : ops[i]? = some oi := by simp only [List.getElem?_toArray, List.getElem?_cons_succ, List.getElem?_cons_zero]; rfl) (hN : oi.dst = N := by rfl) (hc : anyB md ops (bl n m) (bl n m') i = true := by kernel_rfl)
    (hQ : ∀ c a w, Q (.panic c) (a.put oi.dst undef) w → Q (.panic c) a w := by exact fun _ _ _ h => h) (hw : Region.wanted oi (yielded ops a.tmps) = false := by rfl)
    (ha : a.put N undef = a' := by first | (simp only [Act.put, List.setIfInBounds_toArray, List.set_cons_zero, List.set_cons_succ]; rfl) | rfl) : wpAnyLast P md ops Q S ds (fuel + 1) (bl n m) a w :=
  pure_ _ hi hN hc hQ (Or.inr ⟨hw, rfl⟩) ha h
theorem tk (i m' : Nat) (hS : S w) (h : wpAnyLast P md ops Q S ds fuel (bl n m') a' w) (hi : ops[i]? = some oi := by simp only [List.getElem?_toArray, List.getElem?_cons_succ, List.getElem?_cons_zero]; rfl) (hN : oi.dst = N := by rfl) (hc : takeB md ops ds (bl n m) (bl n m') i = true := by kernel_rfl)
    (hQ : ∀ c a w, Q (.panic c) (a.put oi.dst v) w → Q (.panic c) a w := by exact fun _ _ _ h => h) (hw : Region.wanted oi (yielded ops a.tmps) = true := by rfl)
    (hr : ∀ w', S w' → (execOp a.eval oi).run P w' = .ok (.value v) w' := by intro w' hs_; (try simp only [and_assoc] at hs_); go_simp; with_reducible rfl)
    (ha : a.put N v = a' := by first | (simp only [Act.put, List.setIfInBounds_toArray, List.set_cons_zero, List.set_cons_succ, i64_w, i32_w]; rfl) | rfl) : wpAnyLast P md ops Q S ds (fuel + 1) (bl n m) a w :=
  take_ _ hi hN hc hQ (Or.inl ⟨hw, hr⟩) hS ha h
theorem on (i m' : Nat) (h : ∀ K : Act → World → Prop, Shut (∀ a' w', S w' → (S w' → wpAnyLast P md ops Q S ds fuel (bl n m') a' w') → K a' w') → if Region.wanted oi (yielded ops a.tmps) = true then Oper.wp P oi a w K Q else K (a.put N undef) w)
    (hi : ops[i]? = some oi := by simp only [List.getElem?_toArray, List.getElem?_cons_succ, List.getElem?_cons_zero]; rfl) (hN : oi.dst = N := by rfl) (hc : readyB md ops (bl n m) (bl n m') i = true := by kernel_rfl) (hd : i ∉ ds := by decide) : wpAnyLast P md ops Q S ds (fuel + 1) (bl n m) a w := one_ _ hi hN hc hd h
theorem la (i m' : Nat) (h : ∀ K : Act → World → Prop, Shut (∀ a' w', wpAnyLast P md ops Q S ds fuel (bl n m') a' w' → K a' w') → if Region.wanted oi (yielded ops a.tmps) = true then Oper.wp P oi a w K Q else K (a.put N undef) w)
    (hi : ops[i]? = some oi := by simp only [List.getElem?_toArray, List.getElem?_cons_succ, List.getElem?_cons_zero]; rfl) (hN : oi.dst = N := by rfl) (hc : readyB md ops (bl n m) (bl n m') i = true := by kernel_rfl) (hd : i ∈ ds := by decide) : wpAnyLast P md ops Q S ds (fuel + 1) (bl n m) a w := last_ _ hi hN hc hd h
theorem nx {l' : Array Bool} (hK : Shut (∀ a' w', S w' → (S w' → wpAnyLast P md ops Q S ds fuel l' a' w') → K a' w')) (hS : S w) (h : S w → wpAnyLast P md ops Q S ds fuel l' a' w) (ha : a = a' := by first | (simp only [Act.put, List.setIfInBounds_toArray, List.set_cons_zero, List.set_cons_succ, i64_w, i32_w]; rfl) | rfl) : K a w := hK.out _ _ hS (fun hS => ha ▸ h hS)
theorem nl {l' : Array Bool} (hK : Shut (∀ a' w', wpAnyLast P md ops Q S ds fuel l' a' w' → K a' w')) (h : wpAnyLast P md ops Q S ds fuel l' a' w) (ha : a = a' := by first | (simp only [Act.put, List.setIfInBounds_toArray, List.set_cons_zero, List.set_cons_succ, i64_w, i32_w]; rfl) | rfl) : K a w := hK.out _ _ (ha ▸ h)
theorem dn {l : Array Bool} (h : Q .normal a w) (hr : (Region.ready md ops l == []) = true := by kernel_rfl) : wpAnyLast P md ops Q S ds n l a w := done_ hr h
theorem va (h : K (a.put N v) w1) (hw : Region.wanted oi (yielded ops a.tmps) = true := by rfl) (hN : oi.dst = N := by rfl) (hrun : (execOp a.eval oi).run P w = .ok (.value v) w1 := by go_simp; constructor <;> rfl) : if Region.wanted oi (yielded ops a.tmps) = true then Oper.wp P oi a w K Q else K (a.put N undef) w := value_ hw hN hrun h
theorem st (h : K a w1) (hw : Region.wanted oi (yielded ops a.tmps) = true := by rfl) (hN : oi.dst = none := by rfl) (hrun : (execOp a.eval oi).run P w = .ok .skip w1 := by go_simp; rfl) : if Region.wanted oi (yielded ops a.tmps) = true then Oper.wp P oi a w K Q else K (a.put none undef) w := skip_ hw hN hrun h
theorem ca {R : Ending → World → Prop} {f : FuncId} {fn : Func} {A : Array Operand} {ts : Array TypeId} {args : Array Value} (hcon : Calls P f args w R) (hf : P.funcs[f]? = some fn) (h : ∀ e w', R e w' → ∃ v, e = .returned v ∧ K (a.put N v) w')
    (hname : (fn.name == "runtime.NumGoroutine") = false := by kernel_rfl) (hb : fn.body.isSome = true := by rfl) (hw : Region.wanted oi (yielded ops a.tmps) = true := by rfl) (hN : oi.dst = N := by rfl)
    (hop : oi.op = .call { callee := .value (.func f), args := A, argTypes := ts } := by rfl) (hargs : A.map a.eval = args := by simp only [List.map_toArray, List.map_cons, List.map_nil]; rfl) : if Region.wanted oi (yielded ops a.tmps) = true then Oper.wp P oi a w K Q else K (a.put N undef) w :=
  goes_ hf hname hb args hw hN hop hargs (hcon.mono h)
end
end Go.Proofs.Ytocdlibnmlcokaa
namespace Go.Proofs.Ytocdlibnmlcokaa
open Go.RowKit Go.Proofs.YtocdlibnmlcokaaW.PrintWords Go.Proofs.YtocdlibnmlcokaaW.PrintLast
set_option linter.unusedVariables false
set_option linter.unusedSimpArgs false
theorem info22 : (Try.prog.info? 22).map (fun i => (i.zero, i.size, i.bytes)) = some (some (.slice none 0 0), 1, 24) := by kernel_rfl
theorem info147 : (Try.prog.info? 147).map (fun i => (i.zero, i.size, i.bytes)) = some (some (.agg #[(.int .i64 0), (.slice none 0 0)]), 2, 32) := by kernel_rfl
def gBS (xs : List (List Int)) (i : Int) : List Int := xs.getD i.toNat []
structure Wr where
  block : Int
  bytes : List Int
def gW (xs : List Wr) (i : Int) : Wr := xs.getD i.toNat ⟨0, []⟩
abbrev rBS : Rp (List Int) := Rp.slice 5 rB
abbrev rW : Rp Wr := Rp.iso (Rp.pair (Rp.int .i64) rBS) (fun x => (x.block, x.bytes))
theorem at_BS {w : World} {A : Option Addr} {n : Nat} {xs : List (List Int)} (h : rBS.d.C w A n xs) (i : Int) (h0 : 0 ≤ i) (h1 : i < n) : ∃ ad A0 c0, A = some ad ∧ w.cell? (ad.add i.toNat) = some (.slice A0 (gBS xs i).length c0) ∧ (gBS xs i).length ≤ c0 ∧ kB.C w A0 (gBS xs i).length (gBS xs i) := by
  obtain ⟨ad, c, e, _, hK, hc0⟩ := Kd.C_get h ([] : List Int) i h0 h1
  have hc : ∀ j u, c[j]? = some u → w.cell? (ad.add (i.toNat * 1 + j)) = some u := hc0
  obtain ⟨A0, c0, rfl, l0, g0⟩ := hK
  exact ⟨ad, A0, c0, e, by have hq := hc 0 _ rfl; rwa [Nat.mul_one, Nat.add_zero] at hq, l0, g0⟩
theorem at_W {w : World} {A : Option Addr} {n : Nat} {xs : List Wr} (h : rW.d.C w A n xs) (i : Int) (h0 : 0 ≤ i) (h1 : i < n) : ∃ ad A1 c1, A = some ad ∧ w.cell? (ad.add (i.toNat * 2)) = some (.int .i64 (gW xs i).block) ∧ w.cell? ⟨(ad.add (i.toNat * 2)).block, (ad.add (i.toNat * 2)).off + 1, none⟩ = some (.slice A1 (gW xs i).bytes.length c1) ∧ (gW xs i).bytes.length ≤ c1 ∧ kB.C w A1 (gW xs i).bytes.length (gW xs i).bytes := by
  obtain ⟨ad, c, e, _, hK, hc0⟩ := Kd.C_get h (⟨0, []⟩ : Wr) i h0 h1
  have hc : ∀ j u, c[j]? = some u → w.cell? (ad.add (i.toNat * 2 + j)) = some u := hc0
  obtain ⟨_, _, rfl, rfl, ⟨A1, c1, rfl, l1, g1⟩⟩ := hK
  exact ⟨ad, A1, c1, e, hc 0 _ rfl, by rw [← add_field _ _ 1 (by omega)]; exact hc 1 _ rfl, l1, g1⟩
theorem W_mk {w : World} {v : Value} {fp : List Nat} (x : Wr) (h : rB.Row 5 w v x.bytes fp) : rW.P w x [.int .i64 x.block, v] fp := ⟨[.int .i64 x.block], [v], [], fp, rfl, rfl, ⟨rfl, rfl⟩, ⟨v, rfl, h⟩⟩
theorem W_open {w : World} {cs : List Value} {fp : List Nat} {x : Wr} (h : rW.P w x cs fp) : ∃ v, cs = [.int .i64 x.block, v] ∧ rB.Row 5 w v x.bytes fp := by
  obtain ⟨c0, c1, f0, f1, rfl, rfl, ⟨rfl, rfl⟩, ⟨v, rfl, h⟩⟩ := h
  exact ⟨v, rfl, h⟩
theorem take_snoc_g {xs : List (List Int)} {i : Int} (h : i.toNat < xs.length) : xs.take (i.toNat + 1) = xs.take i.toNat ++ [gBS xs i] := by
  rw [List.take_succ_eq_append_getElem h]; simp [gBS, List.getD_eq_getElem?_getD, h]
theorem take_snoc_w {xs : List Wr} {i : Int} (h : i.toNat < xs.length) : xs.take (i.toNat + 1) = xs.take i.toNat ++ [gW xs i] := by
  rw [List.take_succ_eq_append_getElem h]; simp [gW, List.getD_eq_getElem?_getD, h]
def GotDisk (w : World) (bs : List (List Int)) (ws : List Wr) (e : Ending) (w' : World) : Prop :=
  ∃ v0 v1 f0 f1, e = .returned (.agg #[v0, v1]) ∧ rBS.Row 22 w' v0 bs f0 ∧ rW.Row 147 w' v1 ws f1 ∧ (f0 ++ f1).Nodup ∧ (∀ b ∈ f0 ++ f1, w.heap.size ≤ b) ∧ Below w.heap.size w w'
set_option maxHeartbeats 1000000 in
set_option maxRecDepth 100000 in
theorem copyDisk_c (A0 : Option Addr) (c0 : Nat) (bs : List (List Int)) (A1 : Option Addr) (c1 : Nat) (ws : List Wr) (w : World) (hb : rBS.d.C w A0 bs.length bs) (hw : rW.d.C w A1 ws.length ws)
    (hm : bs.length ≤ 1000) (hm1 : ws.length ≤ 1000) (hm2 : ∀ x ∈ bs, x.length ≤ 1000) (hm3 : ∀ x ∈ ws, x.bytes.length ≤ 1000) :
    Calls Try.prog 115 #[.agg #[.slice A0 bs.length c0, .slice A1 ws.length c1]] w (GotDisk w bs ws) := by
  have HX := Aside0.mk hb; have HY := Aside0.mk hw; clear hb hw
  have HM := Aside0.mk hm; have HM1 := Aside0.mk hm1; have HM2 := Aside0.mk hm2; have HM3 := Aside0.mk hm3; clear hm hm1 hm2 hm3
  go_enter Try.func115, Try.ntmps115
  go_wp2
  generalize hw1 : World.alloc (World.alloc (World.alloc w _) _) _ = w1
  obtain ⟨K1, K2, K3, hB, _⟩ := alloc3 hw1
  clear hw1
  have BK1 := Aside0.mk K1; have BK2 := Aside0.mk K2; have BK3 := Aside0.mk K3; have HB := Aside0.mk hB; clear K1 K2 K3 hB
  go_loopg [11] bs.length (fun k v wr => ∃ (i : Int) (u : Value) (f0 : List Nat), v = .int .i64 i ∧ Aside0 (0 ≤ i ∧ i ≤ bs.length ∧ bs.length - i.toNat ≤ k) ∧ Aside0 (rBS.Row 22 wr u (bs.take i.toNat) f0) ∧ Aside0 (f0.Nodup ∧ ∀ b ∈ f0, w.heap.size ≤ b)
     ∧ Aside0 (wr.heap[w.heap.size]? = some (Obj.cells #[Value.slice A0 bs.length c0, Value.slice A1 ws.length c1] 43)) ∧ Aside0 (wr.heap[w.heap.size + 1]? = some (Obj.cells #[Value.slice none 0 0, Value.slice none 0 0] 43)) ∧ Aside0 (wr.heap[w.heap.size + 1 + 1]? = some (Obj.cells #[u, Value.slice none 0 0] 43)) ∧ Aside0 (Below w.heap.size w wr))
  case atStart => exact ⟨0, _, [], rfl, ⟨by simp⟩, ⟨Rp.Row_nil _ _ _⟩, ⟨by simp⟩, BK1, BK2, BK3, HB⟩
  case round =>
    clear BK1 BK2 BK3 HB
    obtain ⟨i, u, f0, rfl, HI, HO, HF, BK1, BK2, BK3, HB⟩ := hrel
    by_cases h1 : i < (bs.length : Int)
    · have h0 : 0 ≤ i := HI.out.1
      obtain ⟨ad, Ai, ci, e1, hc1, hl1, hC1⟩ := at_BS (Kd.C_below HX.out HB.out) i h0 h1
      cases e1
      have HC1 := Aside0.mk hC1; have HL1 := Aside0.mk hl1; clear hC1 hl1
      go_wp2
      have HLi : Aside0 ((gBS bs i).length ≤ 1000) := ⟨by have := HM2.out; exact this _ (by unfold gBS; rw [List.getD_eq_getElem?_getD, List.getElem?_eq_getElem (by omega)]; simp)⟩
      refine sta (fun w' => w'.cell? ⟨w.heap.size + 1 + 1, 0, none⟩ = some u) [7] 8 ((blk_cell BK3.out 0).trans rfl) (fun hS => ?_)
      replace HO := Aside0.mk (Rp.Row_drew HO.out)
      replace HC1 := Aside0.mk (Kd.C_drew HC1.out)
      replace BK1 := Aside0.mk (blk_drew BK1.out)
      replace BK2 := Aside0.mk (blk_drew BK2.out)
      replace BK3 := Aside0.mk (blk_drew BK3.out)
      replace HB := Aside0.mk (below_drew HB.out)
      generalize wr.drew = wd at HO HC1 BK1 BK2 BK3 HB hS ⊢
      refine pu 0 1 ?_
      refine pu 2 5 ?_
      refine tk 1 7 hS ?_
      refine on 3 15 (fun K hK => ?_)
      refine ca (cp_c _ _ (gBS bs i) _ HC1.out (by have := HLi.out; omega)) Try.func114 ?_
      rintro e wa ⟨va_, rfl, ⟨fa, hra, hna, hfa⟩, hba⟩
      obtain ⟨Aa, ca_, rfl, _, _⟩ := Rp.Row_reads hra
      refine ⟨_, rfl, nx hK (pw_cell_below hba hS) (fun hS => ?_)⟩
      clear hK K
      refine on 4 31 (fun K hK => ?_)
      refine va ?_
      refine nx hK (pw_cell_below (below_alloc (Below.refl _ _) _) hS) (fun hS => ?_)
      clear hK K
      have HOa := Rp.Row_below HO.out hba
      have BKa := blk_below BK3.out hba
      refine on 5 63 (fun K hK => ?_)
      refine Rp.app_one_step rBS (by rfl) (.tmp 16) (.tmp 19) 40 22 (.slice none 0 0) 24 (by rfl) Try.underlying40 info22 rfl (by decide) (by omega) u (bs.take i.toNat) (gBS bs i) [.slice Aa (gBS bs i).length ca_] (by rfl) (by rfl) HOa ⟨_, rfl, hra⟩ (Rp.nodup_new HF.out.1 hna (Rp.Row_lt HO.out) hfa) (by have := HM.out; have := HI.out; simp; omega) ?_
      intro v1 w2 fp1 hr1 hn1 hf1 hg1
      generalize hL : List.take i.toNat bs ++ [gBS bs i] = L at hr1
      have HL := Aside0.mk hL; clear hL
      obtain ⟨Av, cv, rfl, _, _⟩ := Rp.Row_reads hr1
      obtain ⟨hr3, hk3, kp3⟩ := box_app HOa BKa (by decide) hg1 hr1 0
      have BKw := blk_grown BKa hg1 (Rp.Row_ne HOa (Rp.Row_not HOa BKa (by decide)))
      refine nx hK ((blk_cell BKw 0).trans rfl) (fun hS => ?_)
      clear hK K
      refine pu 6 127 ?_
      refine la 7 255 (fun K hK => ?_)
      have z := blk_frozen BKw 0
      refine st ?_
      refine nl hK (dn ?_)
      clear hK K z hS
      generalize w2.setCell _ _ = wf at hr3 hk3 kp3 ⊢
      have kp : Kp wd wf (f0 ++ [w.heap.size + 1 + 1]) := ((Kp.below hba).mono (by simp)).trans kp3 (fun b hb _ => hb)
      have BK1 := Aside0.mk (kp.blk BK1.out (by have := Rp.Row_not HO.out BK1.out (by decide); simp; exact ⟨this, by omega⟩))
      have BK2 := Aside0.mk (kp.blk BK2.out (by have := Rp.Row_not HO.out BK2.out (by decide); simp; exact this))
      have HB1 := Aside0.mk (kp.toBelow HB.out HB.out.size (fun b hb => by rcases List.mem_append.1 hb with h | h; exact HF.out.2 b h; simp at h; omega))
      have HF1 : Aside0 (fp1.Nodup ∧ ∀ b ∈ fp1, w.heap.size ≤ b) := ⟨hn1, fun b hb => by
        rcases hf1 b hb with h | h | h
        · exact HF.out.2 b h
        · have := hfa b h; have := HB.out.size; omega
        · have := hba.size; have := HB.out.size; omega⟩
      have HR1 := Aside0.mk hr3; have BK3 := Aside0.mk hk3
      clear hn1 hf1 hg1 hr1 hba hfa hna hra hr3 hk3 kp kp3 HOa BKa BKw HO HB
      go_wp2
      go_roundg (gk - 1)
      case measure => have := HI.out; omega
      case rel =>
        refine ⟨i + 1, _, fp1, ?_, ⟨by have := HI.out; omega, by have := HI.out; omega, by have := HI.out; omega⟩, ?_, HF1, BK1, BK2, BK3, HB1⟩
        · first | rfl | (rw [wrap_succ (by omega) (by have := HM.out; omega)])
        · have := HR1.out; rw [show (i + 1).toNat = i.toNat + 1 by omega]; exact ⟨by rw [take_snoc_g (by have := HI.out; omega), HL.out]; exact this⟩
    · have hi := HI.out
      have e1 : bs.take i.toNat = bs := List.take_of_length_le (by omega)
      replace HO := HO.out; rw [e1] at HO; replace HO := Aside0.mk HO
      clear e1 hi
      have c1_ := (blk_cell BK1.out 1).trans rfl
      go_wp2
      clear c1_
      obtain ⟨wo, hwo⟩ : ∃ wo : World, wo = wr := ⟨_, rfl⟩
      rw [← hwo] at HO BK1 BK2 BK3 HB
      rw [← hwo]
      clear hwo
      go_loopg [26] ws.length (fun k v wr => ∃ (i : Int) (u2 : Value) (f1 : List Nat), v = .int .i64 i ∧ Aside0 (0 ≤ i ∧ i ≤ ws.length ∧ ws.length - i.toNat ≤ k) ∧ Aside0 (rBS.Row 22 wr u bs f0) ∧ Aside0 (rW.Row 147 wr u2 (ws.take i.toNat) f1) ∧ Aside0 ((f0 ++ f1).Nodup ∧ ∀ b ∈ f0 ++ f1, w.heap.size ≤ b)
         ∧ Aside0 (wr.heap[w.heap.size]? = some (Obj.cells #[Value.slice A0 bs.length c0, Value.slice A1 ws.length c1] 43)) ∧ Aside0 (wr.heap[w.heap.size + 1]? = some (Obj.cells #[Value.slice none 0 0, Value.slice none 0 0] 43)) ∧ Aside0 (wr.heap[w.heap.size + 1 + 1]? = some (Obj.cells #[u, u2] 43)) ∧ Aside0 (Below w.heap.size w wr))
      case atStart => exact ⟨0, _, [], rfl, ⟨by simp⟩, HO, ⟨Rp.Row_nil _ _ _⟩, ⟨by simpa using HF.out⟩, BK1, BK2, BK3, HB⟩
      case round =>
        clear BK1 BK2 BK3 HB HO HF
        obtain ⟨i, u2, f1, rfl, HI, HO, HO2, HF, BK1, BK2, BK3, HB⟩ := hrel
        by_cases h1 : i < (ws.length : Int)
        · have h0 : 0 ≤ i := HI.out.1
          obtain ⟨ad, Ai, ci, e1, hc1, hc2, hl1, hC1⟩ := at_W (Kd.C_below HY.out HB.out) i h0 h1
          cases e1
          have HC1 := Aside0.mk hC1; have HL1 := Aside0.mk hl1; clear hC1 hl1
          go_wp2
          have HLi : Aside0 ((gW ws i).bytes.length ≤ 1000) := ⟨by have := HM3.out; exact this _ (by unfold gW; rw [List.getD_eq_getElem?_getD, List.getElem?_eq_getElem (by omega)]; simp)⟩
          have BKe := Aside0.mk (blk_new wr (Obj.cells #[Value.int IntKind.i64 (gW ws i).block, Value.slice Ai (gW ws i).bytes.length ci] 147))
          have HLo := Aside0.mk (Rp.Row_lt HO.out); have HLo2 := Aside0.mk (Rp.Row_lt HO2.out)
          have ne3 : w.heap.size + 1 + 1 < wr.heap.size := blk_lt BK3.out
          replace HO := Aside0.mk (Rp.Row_drew (Rp.Row_alloc HO.out (Obj.cells #[Value.int IntKind.i64 (gW ws i).block, Value.slice Ai (gW ws i).bytes.length ci] 147)))
          replace HO2 := Aside0.mk (Rp.Row_drew (Rp.Row_alloc HO2.out (Obj.cells #[Value.int IntKind.i64 (gW ws i).block, Value.slice Ai (gW ws i).bytes.length ci] 147)))
          replace HC1 := Aside0.mk (Kd.C_drew (Kd.C_alloc HC1.out (Obj.cells #[Value.int IntKind.i64 (gW ws i).block, Value.slice Ai (gW ws i).bytes.length ci] 147)))
          replace BKe := Aside0.mk (blk_drew BKe.out)
          replace BK1 := Aside0.mk (blk_drew (blk_alloc BK1.out (Obj.cells #[Value.int IntKind.i64 (gW ws i).block, Value.slice Ai (gW ws i).bytes.length ci] 147)))
          replace BK2 := Aside0.mk (blk_drew (blk_alloc BK2.out (Obj.cells #[Value.int IntKind.i64 (gW ws i).block, Value.slice Ai (gW ws i).bytes.length ci] 147)))
          replace BK3 := Aside0.mk (blk_drew (blk_alloc BK3.out (Obj.cells #[Value.int IntKind.i64 (gW ws i).block, Value.slice Ai (gW ws i).bytes.length ci] 147)))
          replace HB := Aside0.mk (below_drew (below_then HB.out HB.out.size (below_alloc (Below.refl _ wr) (Obj.cells #[Value.int IntKind.i64 (gW ws i).block, Value.slice Ai (gW ws i).bytes.length ci] 147))))
          clear hc1 hc2
          refine sta (fun w' => w'.cell? ⟨w.heap.size + 1 + 1, 1, none⟩ = some u2 ∧ w'.cell? ⟨wr.heap.size, 0, none⟩ = some (.int .i64 (gW ws i).block) ∧ w'.cell? ⟨wr.heap.size, 1, none⟩ = some (.slice Ai (gW ws i).bytes.length ci)) [11] 12 ⟨(blk_cell BK3.out 1).trans rfl, (blk_cell BKe.out 0).trans rfl, (blk_cell BKe.out 1).trans rfl⟩ (fun hS => ?_)
          generalize hwd : (wr.alloc _).drew = wd at HO HO2 HC1 BKe BK1 BK2 BK3 HB hS ⊢
          clear hwd
          generalize wr.heap.size = gb at HLo HLo2 ne3 BKe hS ⊢
          refine pu 0 1 ?_
          refine pu 2 5 ?_
          refine pu 4 21 ?_
          refine tk 1 23 hS ?_
          refine tk 3 31 hS ?_
          refine tk 5 63 hS ?_
          refine on 6 127 (fun K hK => ?_)
          refine ca (cp_c _ _ (gW ws i).bytes _ HC1.out (by have := HLi.out; omega)) Try.func114 ?_
          rintro e wa ⟨va_, rfl, ⟨fa, hra, hna, hfa⟩, hba⟩
          obtain ⟨Aa, ca_, rfl, _, _⟩ := Rp.Row_reads hra
          refine ⟨_, rfl, nx hK ⟨pw_cell_below hba hS.1, pw_cell_below hba hS.2.1, pw_cell_below hba hS.2.2⟩ (fun hS => ?_)⟩
          clear hK K
          have hSa := hS
          refine pu 7 255 ?_
          refine on 8 511 (fun K hK => ?_)
          refine va ?_
          refine nx hK ⟨pw_cell_below (below_alloc (Below.refl _ _) _) hS.1, pw_cell_below (below_alloc (Below.refl _ _) _) hS.2.1, pw_cell_below (below_alloc (Below.refl _ _) _) hS.2.2⟩ (fun hS => ?_)
          clear hK K
          have HOa := Rp.Row_below HO.out hba
          have HO2a := Rp.Row_below HO2.out hba
          have BKa := blk_below BK3.out hba
          have hnd := List.nodup_append.1 HF.out.1
          refine on 9 1023 (fun K hK => ?_)
          refine Rp.app_one_step rW (by rfl) (.tmp 31) (.tmp 38) 41 147 (.agg #[(.int .i64 0), (.slice none 0 0)]) 32 (by rfl) Try.underlying41 info147 rfl (by decide) (by omega) u2 (ws.take i.toNat) (⟨(gW ws i).block, (gW ws i).bytes⟩ : Wr) [.int .i64 (gW ws i).block, .slice Aa (gW ws i).bytes.length ca_] (by rfl) (by rfl) HO2a (W_mk ⟨(gW ws i).block, (gW ws i).bytes⟩ hra) (Rp.nodup_new hnd.2.1 hna (Rp.Row_lt HO2.out) hfa) (by have := HM1.out; have := HI.out; simp; omega) ?_
          intro v1 w2 fp1 hr1 hn1 hf1 hg1
          generalize hL : List.take i.toNat ws ++ [(⟨(gW ws i).block, (gW ws i).bytes⟩ : Wr)] = L at hr1
          have HL := Aside0.mk hL; clear hL
          obtain ⟨Av, cv, rfl, _, _⟩ := Rp.Row_reads hr1
          obtain ⟨hr3, hk3, kp3⟩ := box_app HO2a BKa (by decide) hg1 hr1 1
          have BKw := blk_grown BKa hg1 (Rp.Row_ne HO2a (Rp.Row_not HO2a BKa (by decide)))
          refine nx hK ?_ (fun hS => ?_)
          · refine ⟨(blk_cell BKw 1).trans rfl, hg1.cell hSa.2.1 ?_, hg1.cell hSa.2.2 ?_⟩
            · exact Rp.Row_ne HO2a (fun h => by have := HLo2.out gb h; omega)
            · exact Rp.Row_ne HO2a (fun h => by have := HLo2.out gb h; omega)
          clear hK K
          refine pu 10 2047 ?_
          refine la 11 4095 (fun K hK => ?_)
          have z := blk_frozen BKw 1
          refine st ?_
          refine nl hK (dn ?_)
          clear hK K z hS hSa
          generalize w2.setCell _ _ = wf at hr3 hk3 kp3 ⊢
          have kp : Kp wd wf (f1 ++ [w.heap.size + 1 + 1]) := ((Kp.below hba).mono (by simp)).trans kp3 (fun b hb _ => hb)
          have n1 := Rp.Row_not HO2.out BK1.out (by decide)
          have n2 := Rp.Row_not HO2.out BK2.out (by decide)
          have n3 := Rp.Row_not HO.out BK3.out (by decide)
          have BK1 := Aside0.mk (kp.blk BK1.out (by simp; exact ⟨n1, by omega⟩))
          have BK2 := Aside0.mk (kp.blk BK2.out (by simp; exact n2))
          have HO1 := Aside0.mk (kp.row HO.out (fun b hb hm => by
            rcases List.mem_append.1 hm with h | h
            · exact hnd.2.2 b hb b h rfl
            · simp at h; exact n3 (h ▸ hb)))
          have HB1 := Aside0.mk (kp.toBelow HB.out HB.out.size (fun b hb => by rcases List.mem_append.1 hb with h | h; exact HF.out.2 b (List.mem_append_right _ h); simp at h; omega))
          have HF1 : Aside0 ((f0 ++ fp1).Nodup ∧ ∀ b ∈ f0 ++ fp1, w.heap.size ≤ b) := ⟨List.nodup_append.2 ⟨hnd.1, hn1, fun a ha b hb he => by
              subst he
              have h5 := Rp.Row_lt HO.out a ha
              rcases hf1 a hb with h | h | h
              · exact hnd.2.2 a ha a h rfl
              · have := hfa a h; omega
              · have := hba.size; omega⟩, fun b hb => by
            rcases List.mem_append.1 hb with h | h
            · exact HF.out.2 b (List.mem_append_left _ h)
            rcases hf1 b h with h | h | h
            · exact HF.out.2 b (List.mem_append_right _ h)
            · have := hfa b h; have := HB.out.size; omega
            · have := hba.size; have := HB.out.size; omega⟩
          have HR1 := Aside0.mk hr3; have BK3 := Aside0.mk hk3
          clear hn1 hf1 hg1 hr1 hba hfa hna hra hr3 hk3 kp kp3 HOa HO2a BKa BKw HO HB n1 n2 n3 hnd
          go_wp2
          go_roundg (gk - 1)
          case measure => have := HI.out; omega
          case rel =>
            refine ⟨i + 1, _, fp1, ?_, ⟨by have := HI.out; omega, by have := HI.out; omega, by have := HI.out; omega⟩, HO1, ?_, HF1, BK1, BK2, BK3, HB1⟩
            · first | rfl | (rw [wrap_succ (by omega) (by have := HM1.out; omega)])
            · have := HR1.out; rw [show (i + 1).toNat = i.toNat + 1 by omega]; exact ⟨by rw [take_snoc_w (by have := HI.out; omega)]; rw [show [gW ws i] = [(⟨(gW ws i).block, (gW ws i).bytes⟩ : Wr)] from rfl, HL.out]; exact this⟩
        · have hi := HI.out
          have e1 : ws.take i.toNat = ws := List.take_of_length_le (by omega)
          replace HO2 := HO2.out; rw [e1] at HO2
          obtain ⟨Av, cv, rfl, _, _⟩ := Rp.Row_reads HO2
          obtain ⟨Au, cu, rfl, _, _⟩ := Rp.Row_reads HO.out
          clear e1 hi
          have c0_ := (blk_cell BK3.out 0).trans rfl
          have c1_ := (blk_cell BK3.out 1).trans rfl
          have c2_ := (blk_cell BK2.out 0).trans rfl
          have c3_ := (blk_cell BK2.out 1).trans rfl
          have z0_ := blk_frozen BK2.out 0
          have z1_ := blk_frozen BK2.out 1
          obtain ⟨K5, kp⟩ := set2 BK2.out (.slice Au bs.length cu) (.slice Av ws.length cv)
          have H2 := Aside0.mk HO2; clear HO2
          have K5 := Aside0.mk K5; have kp := Aside0.mk kp
          go_wp2
          refine bodyPost_ret (results_cell_row rfl _ _ (w.heap.size + 1) 43 #[.slice Au bs.length cu, .slice Av ws.length cv] (0, 0) _ rfl K5.out Try.underlying43 rfl (by kernel_rfl)) rfl ?_
          have n2 := Rp.Row_not HO.out BK2.out (by decide)
          have n3 := Rp.Row_not H2.out BK2.out (by decide)
          exact ⟨_, _, f0, f1, rfl, kp.out.row HO.out (fun b hb h => by simp at h; exact n2 (h ▸ hb)), kp.out.row H2.out (fun b hb h => by simp at h; exact n3 (h ▸ hb)), HF.out.1, HF.out.2, kp.out.toBelow HB.out HB.out.size (fun b hb => by simp at hb; omega)⟩
end Go.Proofs.Ytocdlibnmlcokaa
namespace Go.Proofs.Ytocdlibnmlcokaa
open Go.RowKit Go.Proofs.YtocdlibnmlcokaaW.PrintWords Go.Proofs.YtocdlibnmlcokaaW.PrintLast
set_option linter.unusedVariables false
set_option linter.unusedSimpArgs false
theorem empty_row (w : World) : rB.Row 5 (w.alloc (.cells #[] 5)) (.slice (some ⟨w.heap.size, 0, none⟩) 0 0) [] [w.heap.size] :=
  ⟨[], [], ⟨rfl, .inr ⟨w.heap.size, 0, #[], rfl, Nat.zero_le _, blk_new w _, Nat.le_refl _, by simp [maxLen], rfl, rfl⟩⟩, .nil, rfl⟩
theorem empty_after {w wa : World} {fa : List Nat} (hg : (w.alloc (.cells #[] 5)).grownBy wa (Value.slice (some ⟨w.heap.size, 0, none⟩) 0 0).ownBlock) (hf : ∀ b ∈ fa, b ∈ [w.heap.size] ∨ (w.alloc (.cells #[] 5)).heap.size ≤ b) :
    Below w.heap.size w wa ∧ ∀ b ∈ fa, w.heap.size ≤ b := by
  refine ⟨(below_alloc (Below.refl _ w) (.cells #[] 5)).grown hg (by simp) (fun k hk => by simp [Value.ownBlock] at hk; omega), fun b hb => ?_⟩
  rcases hf b hb with h | h
  · simp at h; omega
  · simp at h; omega
set_option maxHeartbeats 1000000 in
set_option maxRecDepth 100000 in
theorem l2copy_c (A0 : Option Addr) (c0 : Nat) (bs : List (List Int)) (A1 : Option Addr) (c1 : Nat) (ws : List Wr) (w : World) (hb : rBS.d.C w A0 bs.length bs) (hw : rW.d.C w A1 ws.length ws)
    (hm : bs.length ≤ 1000) (hm1 : ws.length ≤ 1000) (hm2 : ∀ x ∈ bs, x.length ≤ 1000) (hm3 : ∀ x ∈ ws, x.bytes.length ≤ 1000) :
    Calls Try.prog 121 #[.agg #[.slice A0 bs.length c0, .slice A1 ws.length c1]] w (GotDisk w bs ws) := by
  have HX := Aside0.mk hb; have HY := Aside0.mk hw; clear hb hw
  have HM := Aside0.mk hm; have HM1 := Aside0.mk hm1; have HM2 := Aside0.mk hm2; have HM3 := Aside0.mk hm3; clear hm hm1 hm2 hm3
  go_enter Try.func121, Try.ntmps121
  go_wp2
  generalize hw1 : World.alloc (World.alloc (World.alloc w _) _) _ = w1
  obtain ⟨K1, K2, K3, hB, _⟩ := alloc3 hw1
  clear hw1
  have BK1 := Aside0.mk K1; have BK2 := Aside0.mk K2; have BK3 := Aside0.mk K3; have HB := Aside0.mk hB; clear K1 K2 K3 hB
  go_loopg [11] bs.length (fun k v wr => ∃ (i : Int) (u : Value) (f0 : List Nat), v = .int .i64 i ∧ Aside0 (0 ≤ i ∧ i ≤ bs.length ∧ bs.length - i.toNat ≤ k) ∧ Aside0 (rBS.Row 22 wr u (bs.take i.toNat) f0) ∧ Aside0 (f0.Nodup ∧ ∀ b ∈ f0, w.heap.size ≤ b)
     ∧ Aside0 (wr.heap[w.heap.size]? = some (Obj.cells #[Value.slice A0 bs.length c0, Value.slice A1 ws.length c1] 43)) ∧ Aside0 (wr.heap[w.heap.size + 1]? = some (Obj.cells #[Value.slice none 0 0, Value.slice none 0 0] 43)) ∧ Aside0 (wr.heap[w.heap.size + 1 + 1]? = some (Obj.cells #[u, Value.slice none 0 0] 43)) ∧ Aside0 (Below w.heap.size w wr))
  case atStart => exact ⟨0, _, [], rfl, ⟨by simp⟩, ⟨Rp.Row_nil _ _ _⟩, ⟨by simp⟩, BK1, BK2, BK3, HB⟩
  case round =>
    clear BK1 BK2 BK3 HB
    obtain ⟨i, u, f0, rfl, HI, HO, HF, BK1, BK2, BK3, HB⟩ := hrel
    by_cases h1 : i < (bs.length : Int)
    · have h0 : 0 ≤ i := HI.out.1
      obtain ⟨ad, Ai, ci, e1, hc1, hl1, hC1⟩ := at_BS (Kd.C_below HX.out HB.out) i h0 h1
      cases e1
      have HC1 := Aside0.mk hC1; have HL1 := Aside0.mk hl1; clear hC1 hl1
      go_wp2
      have HLi : Aside0 ((gBS bs i).length ≤ 1000) := ⟨by have := HM2.out; exact this _ (by unfold gBS; rw [List.getD_eq_getElem?_getD, List.getElem?_eq_getElem (by omega)]; simp)⟩
      refine sta (fun w' => w'.cell? ⟨w.heap.size + 1 + 1, 0, none⟩ = some u) [8] 9 ((blk_cell BK3.out 0).trans rfl) (fun hS => ?_)
      replace HO := Aside0.mk (Rp.Row_drew HO.out)
      replace HC1 := Aside0.mk (Kd.C_drew HC1.out)
      replace BK1 := Aside0.mk (blk_drew BK1.out)
      replace BK2 := Aside0.mk (blk_drew BK2.out)
      replace BK3 := Aside0.mk (blk_drew BK3.out)
      replace HB := Aside0.mk (below_drew HB.out)
      generalize wr.drew = wd at HO HC1 BK1 BK2 BK3 HB hS ⊢
      refine pu 0 1 ?_
      refine pu 3 9 ?_
      refine tk 1 11 hS ?_
      refine on 2 15 (fun K hK => ?_)
      refine va ?_
      refine nx hK (pw_cell_below (below_alloc (Below.refl _ _) _) hS) (fun hS => ?_)
      clear hK K
      refine on 4 31 (fun K hK => ?_)
      refine Rp.app_row_step (by rfl) (.tmp 17) (.tmp 18) 22 5 (.int .u8 0) 1 (by rfl) Try.underlying22 info5 rfl (by decide) (.slice (some ⟨wd.heap.size, 0, none⟩) 0 0) [] (gBS bs i) Ai (gBS bs i).length ci (by rfl) (by rfl) (empty_row wd) (Kd.C_alloc HC1.out _) (by have := HLi.out; simp; omega) ?_
      intro va_ wa fa hra hna hfa0 hga0
      obtain ⟨hba, hfa⟩ := empty_after hga0 hfa0
      rw [List.nil_append] at hra
      clear hga0 hfa0
      obtain ⟨Aa, ca_, rfl, _, _⟩ := Rp.Row_reads hra
      have hS0 : wd.cell? ⟨w.heap.size + 1 + 1, 0, none⟩ = some u := (blk_cell BK3.out 0).trans rfl
      refine nx hK (pw_cell_below hba hS0) (fun hS => ?_)
      clear hK K hS0
      refine on 5 63 (fun K hK => ?_)
      refine va ?_
      refine nx hK (pw_cell_below (below_alloc (Below.refl _ _) _) hS) (fun hS => ?_)
      clear hK K
      have HOa := Rp.Row_below HO.out hba
      have BKa := blk_below BK3.out hba
      refine on 6 127 (fun K hK => ?_)
      refine Rp.app_one_step rBS (by rfl) (.tmp 16) (.tmp 20) 40 22 (.slice none 0 0) 24 (by rfl) Try.underlying40 info22 rfl (by decide) (by omega) u (bs.take i.toNat) (gBS bs i) [.slice Aa (gBS bs i).length ca_] (by rfl) (by rfl) HOa ⟨_, rfl, hra⟩ (Rp.nodup_new HF.out.1 hna (Rp.Row_lt HO.out) hfa) (by have := HM.out; have := HI.out; simp; omega) ?_
      intro v1 w2 fp1 hr1 hn1 hf1 hg1
      generalize hL : List.take i.toNat bs ++ [gBS bs i] = L at hr1
      have HL := Aside0.mk hL; clear hL
      obtain ⟨Av, cv, rfl, _, _⟩ := Rp.Row_reads hr1
      obtain ⟨hr3, hk3, kp3⟩ := box_app HOa BKa (by decide) hg1 hr1 0
      have BKw := blk_grown BKa hg1 (Rp.Row_ne HOa (Rp.Row_not HOa BKa (by decide)))
      refine nx hK ((blk_cell BKw 0).trans rfl) (fun hS => ?_)
      clear hK K
      refine pu 7 255 ?_
      refine la 8 511 (fun K hK => ?_)
      have z := blk_frozen BKw 0
      refine st ?_
      refine nl hK (dn ?_)
      clear hK K z hS
      generalize w2.setCell _ _ = wf at hr3 hk3 kp3 ⊢
      have kp : Kp wd wf (f0 ++ [w.heap.size + 1 + 1]) := ((Kp.below hba).mono (by simp)).trans kp3 (fun b hb _ => hb)
      have BK1 := Aside0.mk (kp.blk BK1.out (by have := Rp.Row_not HO.out BK1.out (by decide); simp; exact ⟨this, by omega⟩))
      have BK2 := Aside0.mk (kp.blk BK2.out (by have := Rp.Row_not HO.out BK2.out (by decide); simp; exact this))
      have HB1 := Aside0.mk (kp.toBelow HB.out HB.out.size (fun b hb => by rcases List.mem_append.1 hb with h | h; exact HF.out.2 b h; simp at h; omega))
      have HF1 : Aside0 (fp1.Nodup ∧ ∀ b ∈ fp1, w.heap.size ≤ b) := ⟨hn1, fun b hb => by
        rcases hf1 b hb with h | h | h
        · exact HF.out.2 b h
        · have := hfa b h; have := HB.out.size; omega
        · have := hba.size; have := HB.out.size; omega⟩
      have HR1 := Aside0.mk hr3; have BK3 := Aside0.mk hk3
      clear hn1 hf1 hg1 hr1 hba hfa hna hra hr3 hk3 kp kp3 HOa BKa BKw HO HB
      go_wp2
      go_roundg (gk - 1)
      case measure => have := HI.out; omega
      case rel =>
        refine ⟨i + 1, _, fp1, ?_, ⟨by have := HI.out; omega, by have := HI.out; omega, by have := HI.out; omega⟩, ?_, HF1, BK1, BK2, BK3, HB1⟩
        · first | rfl | (rw [wrap_succ (by omega) (by have := HM.out; omega)])
        · have := HR1.out; rw [show (i + 1).toNat = i.toNat + 1 by omega]; exact ⟨by rw [take_snoc_g (by have := HI.out; omega), HL.out]; exact this⟩
    · have hi := HI.out
      have e1 : bs.take i.toNat = bs := List.take_of_length_le (by omega)
      replace HO := HO.out; rw [e1] at HO; replace HO := Aside0.mk HO
      clear e1 hi
      have c1_ := (blk_cell BK1.out 1).trans rfl
      go_wp2
      clear c1_
      obtain ⟨wo, hwo⟩ : ∃ wo : World, wo = wr := ⟨_, rfl⟩
      rw [← hwo] at HO BK1 BK2 BK3 HB
      rw [← hwo]
      clear hwo
      go_loopg [27] ws.length (fun k v wr => ∃ (i : Int) (u2 : Value) (f1 : List Nat), v = .int .i64 i ∧ Aside0 (0 ≤ i ∧ i ≤ ws.length ∧ ws.length - i.toNat ≤ k) ∧ Aside0 (rBS.Row 22 wr u bs f0) ∧ Aside0 (rW.Row 147 wr u2 (ws.take i.toNat) f1) ∧ Aside0 ((f0 ++ f1).Nodup ∧ ∀ b ∈ f0 ++ f1, w.heap.size ≤ b)
         ∧ Aside0 (wr.heap[w.heap.size]? = some (Obj.cells #[Value.slice A0 bs.length c0, Value.slice A1 ws.length c1] 43)) ∧ Aside0 (wr.heap[w.heap.size + 1]? = some (Obj.cells #[Value.slice none 0 0, Value.slice none 0 0] 43)) ∧ Aside0 (wr.heap[w.heap.size + 1 + 1]? = some (Obj.cells #[u, u2] 43)) ∧ Aside0 (Below w.heap.size w wr))
      case atStart => exact ⟨0, _, [], rfl, ⟨by simp⟩, HO, ⟨Rp.Row_nil _ _ _⟩, ⟨by simpa using HF.out⟩, BK1, BK2, BK3, HB⟩
      case round =>
        clear BK1 BK2 BK3 HB HO HF
        obtain ⟨i, u2, f1, rfl, HI, HO, HO2, HF, BK1, BK2, BK3, HB⟩ := hrel
        by_cases h1 : i < (ws.length : Int)
        · have h0 : 0 ≤ i := HI.out.1
          obtain ⟨ad, Ai, ci, e1, hc1, hc2, hl1, hC1⟩ := at_W (Kd.C_below HY.out HB.out) i h0 h1
          cases e1
          have HC1 := Aside0.mk hC1; have HL1 := Aside0.mk hl1; clear hC1 hl1
          go_wp2
          have HLi : Aside0 ((gW ws i).bytes.length ≤ 1000) := ⟨by have := HM3.out; exact this _ (by unfold gW; rw [List.getD_eq_getElem?_getD, List.getElem?_eq_getElem (by omega)]; simp)⟩
          have BKe := Aside0.mk (blk_new wr (Obj.cells #[Value.int IntKind.i64 (gW ws i).block, Value.slice Ai (gW ws i).bytes.length ci] 147))
          have HLo := Aside0.mk (Rp.Row_lt HO.out); have HLo2 := Aside0.mk (Rp.Row_lt HO2.out)
          have ne3 : w.heap.size + 1 + 1 < wr.heap.size := blk_lt BK3.out
          replace HO := Aside0.mk (Rp.Row_drew (Rp.Row_alloc HO.out (Obj.cells #[Value.int IntKind.i64 (gW ws i).block, Value.slice Ai (gW ws i).bytes.length ci] 147)))
          replace HO2 := Aside0.mk (Rp.Row_drew (Rp.Row_alloc HO2.out (Obj.cells #[Value.int IntKind.i64 (gW ws i).block, Value.slice Ai (gW ws i).bytes.length ci] 147)))
          replace HC1 := Aside0.mk (Kd.C_drew (Kd.C_alloc HC1.out (Obj.cells #[Value.int IntKind.i64 (gW ws i).block, Value.slice Ai (gW ws i).bytes.length ci] 147)))
          replace BKe := Aside0.mk (blk_drew BKe.out)
          replace BK1 := Aside0.mk (blk_drew (blk_alloc BK1.out (Obj.cells #[Value.int IntKind.i64 (gW ws i).block, Value.slice Ai (gW ws i).bytes.length ci] 147)))
          replace BK2 := Aside0.mk (blk_drew (blk_alloc BK2.out (Obj.cells #[Value.int IntKind.i64 (gW ws i).block, Value.slice Ai (gW ws i).bytes.length ci] 147)))
          replace BK3 := Aside0.mk (blk_drew (blk_alloc BK3.out (Obj.cells #[Value.int IntKind.i64 (gW ws i).block, Value.slice Ai (gW ws i).bytes.length ci] 147)))
          replace HB := Aside0.mk (below_drew (below_then HB.out HB.out.size (below_alloc (Below.refl _ wr) (Obj.cells #[Value.int IntKind.i64 (gW ws i).block, Value.slice Ai (gW ws i).bytes.length ci] 147))))
          clear hc1 hc2
          refine sta (fun w' => w'.cell? ⟨w.heap.size + 1 + 1, 1, none⟩ = some u2 ∧ w'.cell? ⟨wr.heap.size, 0, none⟩ = some (.int .i64 (gW ws i).block) ∧ w'.cell? ⟨wr.heap.size, 1, none⟩ = some (.slice Ai (gW ws i).bytes.length ci)) [12] 13 ⟨(blk_cell BK3.out 1).trans rfl, (blk_cell BKe.out 0).trans rfl, (blk_cell BKe.out 1).trans rfl⟩ (fun hS => ?_)
          generalize hwd : (wr.alloc _).drew = wd at HO HO2 HC1 BKe BK1 BK2 BK3 HB hS ⊢
          clear hwd
          generalize wr.heap.size = gb at HLo HLo2 ne3 BKe hS ⊢
          refine pu 0 1 ?_
          refine pu 2 5 ?_
          refine pu 5 37 ?_
          refine tk 1 39 hS ?_
          refine tk 3 47 hS ?_
          refine tk 6 111 hS ?_
          refine on 4 127 (fun K hK => ?_)
          refine va ?_
          refine nx hK ⟨pw_cell_below (below_alloc (Below.refl _ _) _) hS.1, pw_cell_below (below_alloc (Below.refl _ _) _) hS.2.1, pw_cell_below (below_alloc (Below.refl _ _) _) hS.2.2⟩ (fun hS2 => ?_)
          clear hK K hS2
          refine on 7 255 (fun K hK => ?_)
          refine Rp.app_row_step (by rfl) (.tmp 35) (.tmp 37) 22 5 (.int .u8 0) 1 (by rfl) Try.underlying22 info5 rfl (by decide) (.slice (some ⟨wd.heap.size, 0, none⟩) 0 0) [] (gW ws i).bytes Ai (gW ws i).bytes.length ci (by rfl) (by rfl) (empty_row wd) (Kd.C_alloc HC1.out _) (by have := HLi.out; simp; omega) ?_
          intro va_ wa fa hra hna hfa0 hga0
          obtain ⟨hba, hfa⟩ := empty_after hga0 hfa0
          rw [List.nil_append] at hra
          clear hga0 hfa0
          obtain ⟨Aa, ca_, rfl, _, _⟩ := Rp.Row_reads hra
          refine nx hK ⟨pw_cell_below hba hS.1, pw_cell_below hba hS.2.1, pw_cell_below hba hS.2.2⟩ (fun hS => ?_)
          clear hK K
          have hSa := hS
          refine pu 8 511 ?_
          refine on 9 1023 (fun K hK => ?_)
          refine va ?_
          refine nx hK ⟨pw_cell_below (below_alloc (Below.refl _ _) _) hS.1, pw_cell_below (below_alloc (Below.refl _ _) _) hS.2.1, pw_cell_below (below_alloc (Below.refl _ _) _) hS.2.2⟩ (fun hS => ?_)
          clear hK K
          have HOa := Rp.Row_below HO.out hba
          have HO2a := Rp.Row_below HO2.out hba
          have BKa := blk_below BK3.out hba
          have hnd := List.nodup_append.1 HF.out.1
          refine on 10 2047 (fun K hK => ?_)
          refine Rp.app_one_step rW (by rfl) (.tmp 32) (.tmp 40) 41 147 (.agg #[(.int .i64 0), (.slice none 0 0)]) 32 (by rfl) Try.underlying41 info147 rfl (by decide) (by omega) u2 (ws.take i.toNat) (⟨(gW ws i).block, (gW ws i).bytes⟩ : Wr) [.int .i64 (gW ws i).block, .slice Aa (gW ws i).bytes.length ca_] (by rfl) (by rfl) HO2a (W_mk ⟨(gW ws i).block, (gW ws i).bytes⟩ hra) (Rp.nodup_new hnd.2.1 hna (Rp.Row_lt HO2.out) hfa) (by have := HM1.out; have := HI.out; simp; omega) ?_
          intro v1 w2 fp1 hr1 hn1 hf1 hg1
          generalize hL : List.take i.toNat ws ++ [(⟨(gW ws i).block, (gW ws i).bytes⟩ : Wr)] = L at hr1
          have HL := Aside0.mk hL; clear hL
          obtain ⟨Av, cv, rfl, _, _⟩ := Rp.Row_reads hr1
          obtain ⟨hr3, hk3, kp3⟩ := box_app HO2a BKa (by decide) hg1 hr1 1
          have BKw := blk_grown BKa hg1 (Rp.Row_ne HO2a (Rp.Row_not HO2a BKa (by decide)))
          refine nx hK ?_ (fun hS => ?_)
          · refine ⟨(blk_cell BKw 1).trans rfl, hg1.cell hSa.2.1 ?_, hg1.cell hSa.2.2 ?_⟩
            · exact Rp.Row_ne HO2a (fun h => by have := HLo2.out gb h; omega)
            · exact Rp.Row_ne HO2a (fun h => by have := HLo2.out gb h; omega)
          clear hK K
          refine pu 11 4095 ?_
          refine la 12 8191 (fun K hK => ?_)
          have z := blk_frozen BKw 1
          refine st ?_
          refine nl hK (dn ?_)
          clear hK K z hS hSa
          generalize w2.setCell _ _ = wf at hr3 hk3 kp3 ⊢
          have kp : Kp wd wf (f1 ++ [w.heap.size + 1 + 1]) := ((Kp.below hba).mono (by simp)).trans kp3 (fun b hb _ => hb)
          have n1 := Rp.Row_not HO2.out BK1.out (by decide)
          have n2 := Rp.Row_not HO2.out BK2.out (by decide)
          have n3 := Rp.Row_not HO.out BK3.out (by decide)
          have BK1 := Aside0.mk (kp.blk BK1.out (by simp; exact ⟨n1, by omega⟩))
          have BK2 := Aside0.mk (kp.blk BK2.out (by simp; exact n2))
          have HO1 := Aside0.mk (kp.row HO.out (fun b hb hm => by
            rcases List.mem_append.1 hm with h | h
            · exact hnd.2.2 b hb b h rfl
            · simp at h; exact n3 (h ▸ hb)))
          have HB1 := Aside0.mk (kp.toBelow HB.out HB.out.size (fun b hb => by rcases List.mem_append.1 hb with h | h; exact HF.out.2 b (List.mem_append_right _ h); simp at h; omega))
          have HF1 : Aside0 ((f0 ++ fp1).Nodup ∧ ∀ b ∈ f0 ++ fp1, w.heap.size ≤ b) := ⟨List.nodup_append.2 ⟨hnd.1, hn1, fun a ha b hb he => by
              subst he
              have h5 := Rp.Row_lt HO.out a ha
              rcases hf1 a hb with h | h | h
              · exact hnd.2.2 a ha a h rfl
              · have := hfa a h; omega
              · have := hba.size; omega⟩, fun b hb => by
            rcases List.mem_append.1 hb with h | h
            · exact HF.out.2 b (List.mem_append_left _ h)
            rcases hf1 b h with h | h | h
            · exact HF.out.2 b (List.mem_append_right _ h)
            · have := hfa b h; have := HB.out.size; omega
            · have := hba.size; have := HB.out.size; omega⟩
          have HR1 := Aside0.mk hr3; have BK3 := Aside0.mk hk3
          clear hn1 hf1 hg1 hr1 hba hfa hna hra hr3 hk3 kp kp3 HOa HO2a BKa BKw HO HB n1 n2 n3 hnd
          go_wp2
          go_roundg (gk - 1)
          case measure => have := HI.out; omega
          case rel =>
            refine ⟨i + 1, _, fp1, ?_, ⟨by have := HI.out; omega, by have := HI.out; omega, by have := HI.out; omega⟩, HO1, ?_, HF1, BK1, BK2, BK3, HB1⟩
            · first | rfl | (rw [wrap_succ (by omega) (by have := HM1.out; omega)])
            · have := HR1.out; rw [show (i + 1).toNat = i.toNat + 1 by omega]; exact ⟨by rw [take_snoc_w (by have := HI.out; omega)]; rw [show [gW ws i] = [(⟨(gW ws i).block, (gW ws i).bytes⟩ : Wr)] from rfl, HL.out]; exact this⟩
        · have hi := HI.out
          have e1 : ws.take i.toNat = ws := List.take_of_length_le (by omega)
          replace HO2 := HO2.out; rw [e1] at HO2
          obtain ⟨Av, cv, rfl, _, _⟩ := Rp.Row_reads HO2
          obtain ⟨Au, cu, rfl, _, _⟩ := Rp.Row_reads HO.out
          clear e1 hi
          have c0_ := (blk_cell BK3.out 0).trans rfl
          have c1_ := (blk_cell BK3.out 1).trans rfl
          have c2_ := (blk_cell BK2.out 0).trans rfl
          have c3_ := (blk_cell BK2.out 1).trans rfl
          have z0_ := blk_frozen BK2.out 0
          have z1_ := blk_frozen BK2.out 1
          obtain ⟨K5, kp⟩ := set2 BK2.out (.slice Au bs.length cu) (.slice Av ws.length cv)
          have H2 := Aside0.mk HO2; clear HO2
          have K5 := Aside0.mk K5; have kp := Aside0.mk kp
          go_wp2
          refine bodyPost_ret (results_cell_row rfl _ _ (w.heap.size + 1) 43 #[.slice Au bs.length cu, .slice Av ws.length cv] (0, 0) _ rfl K5.out Try.underlying43 rfl (by kernel_rfl)) rfl ?_
          have n2 := Rp.Row_not HO.out BK2.out (by decide)
          have n3 := Rp.Row_not H2.out BK2.out (by decide)
          exact ⟨_, _, f0, f1, rfl, kp.out.row HO.out (fun b hb h => by simp at h; exact n2 (h ▸ hb)), kp.out.row H2.out (fun b hb h => by simp at h; exact n3 (h ▸ hb)), HF.out.1, HF.out.2, kp.out.toBelow HB.out HB.out.size (fun b hb => by simp at hb; omega)⟩
end Go.Proofs.Ytocdlibnmlcokaa
namespace Go.Proofs.Ytocdlibnmlcokaa
open Go.RowKit Go.Proofs.YtocdlibnmlcokaaW.PrintWords Go.Proofs.YtocdlibnmlcokaaW.PrintLast
set_option linter.unusedVariables false
set_option linter.unusedSimpArgs false
def GotApp {α : Type} (r : Rp α) (e : Nat) (w : World) (xs : List α) (fp : List Nat) (en : Ending) (w' : World) : Prop :=
  ∃ v f, en = .returned v ∧ r.Row e w' v xs f ∧ f.Nodup ∧ (∀ b ∈ f, b ∈ fp ∨ w.heap.size ≤ b) ∧ Kp w w' fp
def shTo (v : Int) : Nat → Int
  | 0 => v
  | i + 1 => shTo v i / 256
def lowTo (v : Int) : Nat → List Int
  | 0 => []
  | i + 1 => lowTo v i ++ [shTo v i % 256]
theorem lowTo_len (v : Int) : ∀ i, (lowTo v i).length = i
  | 0 => rfl
  | i + 1 => by simp only [lowTo, List.length_append, lowTo_len v i, List.length_cons, List.length_nil]
set_option maxHeartbeats 1000000 in
set_option maxRecDepth 100000 in
theorem low_c (v0 : Value) (xs : List Int) (fp : List Nat) (v : Int) (k : Nat) (w : World) (hr : rB.Row 5 w v0 xs fp) (hn : fp.Nodup) (hl : xs.length ≤ 1000) (hk : k ≤ 8) :
    Calls Try.prog 148 #[v0, .int .u64 v, .int .i64 k] w (GotApp rB 5 w (xs ++ lowTo v k) fp) := by
  have HR := Aside0.mk hr; have HN := Aside0.mk hn; clear hr hn
  go_enter Try.func148, Try.ntmps148
  go_wp2
  go_loopg [0, 1, 8] k (fun m vu vv vi wr => ∃ (i : Int) (f0 : List Nat), vi = .int .i64 i ∧ vv = .int .u64 (shTo v i.toNat) ∧ Aside0 (0 ≤ i ∧ i ≤ k ∧ k - i.toNat ≤ m) ∧ Aside0 (rB.Row 5 wr vu (xs ++ lowTo v i.toNat) f0) ∧ Aside0 (f0.Nodup ∧ ∀ b ∈ f0, b ∈ fp ∨ w.heap.size ≤ b) ∧ Aside0 (Kp w wr fp))
  case atStart => exact ⟨0, fp, rfl, rfl, ⟨by simp⟩, ⟨by simpa [lowTo] using HR.out⟩, ⟨HN.out, fun b hb => .inl hb⟩, ⟨(Kp.below (Below.refl _ w)).mono (by simp)⟩⟩
  case round =>
    obtain ⟨i, f0, rfl, rfl, HI, HO, HF, HK⟩ := hrel
    by_cases h1 : i < (k : Int)
    · have h0 : 0 ≤ i := HI.out.1
      have hi2 : i.toNat ≤ 8 := by have := HI.out; omega
      go_wp2_with (at_builtin; go_loud (refine Rp.app_one rB rfl (.tmp 10) (.tmp 13) 22 5 (.int .u8 0) 1 rfl Try.underlying22 info5 rfl (by decide) (by decide) _ _ (shTo v i.toNat % 256) _ rfl rfl HO.out (fpx := []) ⟨rfl, rfl⟩ (by simpa using HF.out.1) (by have := lowTo_len v i.toNat; simp; omega) ?_); intro v1 w1 fp1 hr hn hf hg; have HR1 := Aside0.mk hr; have HN1 := Aside0.mk hn; have HF1 := Aside0.mk hf; have HG1 := Aside0.mk hg; clear hr hn hf hg)
      go_roundg (gk - 1)
      case measure => have := HI.out; omega
      case rel =>
        refine ⟨i + 1, fp1, ?_, ?_, ⟨by have := HI.out; omega, by have := HI.out; omega, by have := HI.out; omega⟩, ⟨?_⟩, ⟨HN1.out, fun b hb => ?_⟩, ⟨?_⟩⟩
        · first | rfl | (rw [wrap_succ (by omega) (by omega)])
        · rw [show (i + 1).toNat = i.toNat + 1 by omega]; rfl
        · have := HR1.out; rw [List.append_assoc] at this; rw [show (i + 1).toNat = i.toNat + 1 by omega]; exact this
        · rcases HF1.out b hb with h | h | h
          · exact HF.out.2 b h
          · cases h
          · exact .inr (Nat.le_trans HK.out.size h)
        · refine HK.out.trans ((Kp.grown HG1.out).mono (S' := f0) (fun b hb _ => ?_)) (fun b hb hlt => ?_)
          · exact Rp.Row_block HO.out (Option.mem_toList.1 hb)
          · rcases HF.out.2 b hb with h | h
            · exact h
            · omega
    · have e1 : i.toNat = k := by have := HI.out; omega
      rw [e1] at HO
      go_wp2
      go_ret
      exact ⟨_, f0, rfl, HO.out, HF.out.1, HF.out.2, HK.out⟩
set_option maxHeartbeats 1000000 in
set_option maxRecDepth 100000 in
theorem l1put_c (v0 : Value) (xs : List Int) (fp : List Nat) (v : Int) (k : Nat) (w : World) (hr : rB.Row 5 w v0 xs fp) (hn : fp.Nodup) (hl : xs.length ≤ 1000) (hk : k ≤ 8) :
    Calls Try.prog 156 #[v0, .int .u64 v, .int .i64 k] w (GotApp rB 5 w (xs ++ lowTo v k) fp) := by
  have HR := Aside0.mk hr; have HN := Aside0.mk hn; clear hr hn
  go_enter Try.func156, Try.ntmps156
  go_wp2
  go_loopg [0, 1, 7] k (fun m vu vv vi wr => ∃ (i : Int) (f0 : List Nat), vi = .int .i64 i ∧ vv = .int .u64 (shTo v i.toNat) ∧ Aside0 (0 ≤ i ∧ i ≤ k ∧ k - i.toNat ≤ m) ∧ Aside0 (rB.Row 5 wr vu (xs ++ lowTo v i.toNat) f0) ∧ Aside0 (f0.Nodup ∧ ∀ b ∈ f0, b ∈ fp ∨ w.heap.size ≤ b) ∧ Aside0 (Kp w wr fp))
  case atStart => exact ⟨0, fp, rfl, rfl, ⟨by simp⟩, ⟨by simpa [lowTo] using HR.out⟩, ⟨HN.out, fun b hb => .inl hb⟩, ⟨(Kp.below (Below.refl _ w)).mono (by simp)⟩⟩
  case round =>
    obtain ⟨i, f0, rfl, rfl, HI, HO, HF, HK⟩ := hrel
    by_cases h1 : i < (k : Int)
    · have h0 : 0 ≤ i := HI.out.1
      have hi2 : i.toNat ≤ 8 := by have := HI.out; omega
      go_wp2_with (at_builtin; go_loud (refine Rp.app_one rB rfl (.tmp 13) (.tmp 16) 22 5 (.int .u8 0) 1 rfl Try.underlying22 info5 rfl (by decide) (by decide) _ _ (shTo v i.toNat % 256) _ rfl rfl HO.out (fpx := []) ⟨rfl, rfl⟩ (by simpa using HF.out.1) (by have := lowTo_len v i.toNat; simp; omega) ?_); intro v1 w1 fp1 hr hn hf hg; have HR1 := Aside0.mk hr; have HN1 := Aside0.mk hn; have HF1 := Aside0.mk hf; have HG1 := Aside0.mk hg; clear hr hn hf hg)
      go_roundg (gk - 1)
      case measure => have := HI.out; omega
      case rel =>
        refine ⟨i + 1, fp1, ?_, ?_, ⟨by have := HI.out; omega, by have := HI.out; omega, by have := HI.out; omega⟩, ⟨?_⟩, ⟨HN1.out, fun b hb => ?_⟩, ⟨?_⟩⟩
        · first | rfl | (rw [wrap_succ (by omega) (by omega)])
        · rw [show (i + 1).toNat = i.toNat + 1 by omega]; rfl
        · have := HR1.out; rw [List.append_assoc] at this; rw [show (i + 1).toNat = i.toNat + 1 by omega]; exact this
        · rcases HF1.out b hb with h | h | h
          · exact HF.out.2 b h
          · cases h
          · exact .inr (Nat.le_trans HK.out.size h)
        · refine HK.out.trans ((Kp.grown HG1.out).mono (S' := f0) (fun b hb _ => ?_)) (fun b hb hlt => ?_)
          · exact Rp.Row_block HO.out (Option.mem_toList.1 hb)
          · rcases HF.out.2 b hb with h | h
            · exact h
            · omega
    · have e1 : i.toNat = k := by have := HI.out; omega
      rw [e1] at HO
      go_wp2
      go_ret
      exact ⟨_, f0, rfl, HO.out, HF.out.1, HF.out.2, HK.out⟩
end Go.Proofs.Ytocdlibnmlcokaa
namespace Go.Proofs.Ytocdlibnmlcokaa
open Go.RowKit Go.Proofs.YtocdlibnmlcokaaW.PrintWords Go.Proofs.YtocdlibnmlcokaaW.PrintLast
set_option linter.unusedVariables false
set_option linter.unusedSimpArgs false
def step8 (v x : Int) : Int := bits BinOp.or IntKind.u64 (IntKind.u64.wrap (v * 256)) (IntKind.u64.wrap x)
def numL : List Int → Int
  | [] => 0
  | x :: r => step8 (numL r) x
theorem numL_drop (xs : List Int) {i : Int} (h0 : 0 ≤ i) (h1 : i < xs.length) : numL (xs.drop i.toNat) = step8 (numL (xs.drop (i + 1).toNat)) (rd xs i) := by
  rw [List.drop_eq_getElem_cons (by omega : i.toNat < xs.length), show (i + 1).toNat = i.toNat + 1 by omega]
  simp only [numL]
  rw [rd_eq (by omega)]
def sumTo (xs : List Int) : Nat → Int
  | 0 => 0
  | i + 1 => if i = 1 then sumTo xs i else IntKind.u8.wrap (sumTo xs i + rd xs i)
set_option maxHeartbeats 1000000 in
theorem num_c (A : Option Addr) (c : Nat) (xs : List Int) (w : World) (hx : kB.C w A xs.length xs) :
    Calls Try.prog 162 #[.slice A xs.length c] w (fun e w' => e = .returned (.int .u64 (numL xs)) ∧ w' = w) := by
  have hl : xs.length ≤ 9223372036854775807 := hx.2.1
  have HX := Aside0.mk hx; clear hx
  go_enter Try.func162, Try.ntmps162
  go_wp2
  go_loopg [3, 4] xs.length (fun m vv vi wr => ∃ i : Int, vi = .int .i64 i ∧ vv = .int .u64 (numL (xs.drop (i + 1).toNat)) ∧ Aside0 (-1 ≤ i ∧ i < xs.length ∧ (i + 1).toNat ≤ m) ∧ wr = w)
  case atStart => exact ⟨xs.length - 1, rfl, by rw [List.drop_of_length_le (by omega)]; rfl, ⟨by omega⟩, rfl⟩
  case round =>
    obtain ⟨i, rfl, rfl, HI, rfl⟩ := hrel
    by_cases h1 : 0 ≤ i
    · have h0 : i < xs.length := HI.out.2.1
      obtain ⟨ad, e1, c1⟩ := Kd.at_int HX.out i h1 h0
      cases e1
      go_wp2
      go_roundg (gk - 1)
      case measure => have := HI.out; omega
      case rel =>
        refine ⟨i - 1, rfl, ?_, ⟨by omega, by omega, by have := HI.out; omega⟩, rfl⟩
        rw [show (i - 1 + 1).toNat = i.toNat by omega, numL_drop xs h1 h0]
        rfl
    · have hi := HI.out
      have e2 : (i + 1).toNat = 0 := by omega
      rw [e2]
      clear hi
      go_wp2
      go_ret
      exact ⟨rfl, rfl⟩
set_option maxHeartbeats 1000000 in
theorem l1get_c (A : Option Addr) (c : Nat) (xs : List Int) (w : World) (hx : kB.C w A xs.length xs) :
    Calls Try.prog 163 #[.slice A xs.length c] w (fun e w' => e = .returned (.int .u64 (numL xs)) ∧ w' = w) := by
  have hl : xs.length ≤ 9223372036854775807 := hx.2.1
  have HX := Aside0.mk hx; clear hx
  go_enter Try.func163, Try.ntmps163
  go_wp2
  go_loopg [3, 4] xs.length (fun m vv vi wr => ∃ i : Int, vi = .int .i64 i ∧ vv = .int .u64 (numL (xs.drop (i + 1).toNat)) ∧ Aside0 (-1 ≤ i ∧ i < xs.length ∧ (i + 1).toNat ≤ m) ∧ wr = w)
  case atStart => exact ⟨xs.length - 1, rfl, by rw [List.drop_of_length_le (by omega)]; rfl, ⟨by omega⟩, rfl⟩
  case round =>
    obtain ⟨i, rfl, rfl, HI, rfl⟩ := hrel
    by_cases h1 : 0 ≤ i
    · have h0 : i < xs.length := HI.out.2.1
      obtain ⟨ad, e1, c1⟩ := Kd.at_int HX.out i h1 h0
      cases e1
      go_wp2
      go_roundg (gk - 1)
      case measure => have := HI.out; omega
      case rel =>
        refine ⟨i - 1, rfl, ?_, ⟨by omega, by omega, by have := HI.out; omega⟩, rfl⟩
        rw [show (i - 1 + 1).toNat = i.toNat by omega, numL_drop xs h1 h0]
        rfl
    · have hi := HI.out
      have e2 : (i + 1).toNat = 0 := by omega
      rw [e2]
      clear hi
      go_wp2
      go_ret
      exact ⟨rfl, rfl⟩
set_option maxHeartbeats 1000000 in
theorem check_c (A : Option Addr) (c : Nat) (xs : List Int) (w : World) (hx : kB.C w A xs.length xs) :
    Calls Try.prog 149 #[.slice A xs.length c] w (fun e w' => e = .returned (.int .u8 (sumTo xs xs.length)) ∧ w' = w) := by
  have hl : xs.length ≤ 9223372036854775807 := hx.2.1
  have HX := Aside0.mk hx; clear hx
  go_enter Try.func149, Try.ntmps149
  go_wp2
  go_loopg [3, 8] xs.length (fun m vv vi wr => ∃ i : Int, vi = .int .i64 i ∧ vv = .int .u8 (sumTo xs i.toNat) ∧ Aside0 (0 ≤ i ∧ i ≤ xs.length ∧ xs.length - i.toNat ≤ m) ∧ wr = w)
  case atStart => exact ⟨0, rfl, rfl, ⟨by simp⟩, rfl⟩
  case round =>
    obtain ⟨i, rfl, rfl, HI, rfl⟩ := hrel
    by_cases h1 : i < (xs.length : Int)
    · have h0 : 0 ≤ i := HI.out.1
      obtain ⟨ad, e1, c1⟩ := Kd.at_int HX.out i h0 h1
      cases e1
      have hs : sumTo xs (i.toNat + 1) = if i = 1 then sumTo xs i.toNat else IntKind.u8.wrap (sumTo xs i.toNat + rd xs i) := by
        simp only [sumTo]
        by_cases e : i = 1
        · subst e; rfl
        · rw [if_neg e, if_neg (by omega)]; rfl
      have HS := Aside0.mk hs
      clear hs
      by_cases e : i = 1
      · have e1 : i ≤ 1 := by omega
        have e2 : 1 ≤ i := by omega
        clear e
        go_wp2
        go_roundg (gk - 1)
        case measure => have := HI.out; omega
        case rel => exact ⟨i + 1, rfl, by rw [show (i + 1).toNat = i.toNat + 1 by omega, HS.out, if_pos (by omega)], ⟨by omega, by omega, by have := HI.out; omega⟩, rfl⟩
      · go_wp2
        go_roundg (gk - 1)
        case measure => have := HI.out; omega
        case rel => exact ⟨i + 1, rfl, by rw [show (i + 1).toNat = i.toNat + 1 by omega, HS.out, if_neg e]; rfl, ⟨by omega, by omega, by have := HI.out; omega⟩, rfl⟩
    · have e2 : i.toNat = xs.length := by have := HI.out; omega
      rw [e2]
      go_wp2
      go_ret
      exact ⟨rfl, rfl⟩
set_option maxHeartbeats 1000000 in
theorem l2check_c (A : Option Addr) (c : Nat) (xs : List Int) (w : World) (hx : kB.C w A xs.length xs) :
    Calls Try.prog 157 #[.slice A xs.length c] w (fun e w' => e = .returned (.int .u8 (sumTo xs xs.length)) ∧ w' = w) := by
  have hl : xs.length ≤ 9223372036854775807 := hx.2.1
  have HX := Aside0.mk hx; clear hx
  go_enter Try.func157, Try.ntmps157
  go_wp2
  go_loopg [3, 8] xs.length (fun m vv vi wr => ∃ i : Int, vi = .int .i64 i ∧ vv = .int .u8 (sumTo xs i.toNat) ∧ Aside0 (0 ≤ i ∧ i ≤ xs.length ∧ xs.length - i.toNat ≤ m) ∧ wr = w)
  case atStart => exact ⟨0, rfl, rfl, ⟨by simp⟩, rfl⟩
  case round =>
    obtain ⟨i, rfl, rfl, HI, rfl⟩ := hrel
    by_cases h1 : i < (xs.length : Int)
    · have h0 : 0 ≤ i := HI.out.1
      obtain ⟨ad, e1, c1⟩ := Kd.at_int HX.out i h0 h1
      cases e1
      have hs : sumTo xs (i.toNat + 1) = if i = 1 then sumTo xs i.toNat else IntKind.u8.wrap (sumTo xs i.toNat + rd xs i) := by
        simp only [sumTo]
        by_cases e : i = 1
        · subst e; rfl
        · rw [if_neg e, if_neg (by omega)]; rfl
      have HS := Aside0.mk hs
      clear hs
      by_cases e : i = 1
      · have e1 : i ≤ 1 := by omega
        have e2 : 1 ≤ i := by omega
        clear e
        go_wp2
        go_roundg (gk - 1)
        case measure => have := HI.out; omega
        case rel => exact ⟨i + 1, rfl, by rw [show (i + 1).toNat = i.toNat + 1 by omega, HS.out, if_pos (by omega)], ⟨by omega, by omega, by have := HI.out; omega⟩, rfl⟩
      · go_wp2
        go_roundg (gk - 1)
        case measure => have := HI.out; omega
        case rel => exact ⟨i + 1, rfl, by rw [show (i + 1).toNat = i.toNat + 1 by omega, HS.out, if_neg e]; rfl, ⟨by omega, by omega, by have := HI.out; omega⟩, rfl⟩
    · have e2 : i.toNat = xs.length := by have := HI.out; omega
      rw [e2]
      go_wp2
      go_ret
      exact ⟨rfl, rfl⟩
end Go.Proofs.Ytocdlibnmlcokaa
namespace Go.Proofs.Ytocdlibnmlcokaa
open Go.RowKit Go.Proofs.YtocdlibnmlcokaaW.PrintWords Go.Proofs.YtocdlibnmlcokaaW.PrintLast
set_option linter.unusedVariables false
theorem flat_set {n : Nat} (u : Value) : ∀ {css : List (List Value)}, (∀ c ∈ css, c.length = n) → ∀ (i j : Nat) (hi : i < css.length), j < n → css.flatten.set (i * n + j) u = (css.set i (css[i].set j u)).flatten
  | [], _, i, j, hi, _ => by simp at hi
  | c :: css, h, i, j, hi, hj => by
    have hc := h c List.mem_cons_self
    cases i with
    | zero => simp [hc, hj]
    | succ i =>
      have := flat_set (n := n) u (css := css) (fun c hc => h c (List.mem_cons_of_mem _ hc)) i j (by simpa using hi) hj
      simp only [List.flatten_cons, List.set_cons_succ, List.getElem_cons_succ]
      rw [← this, List.set_append, hc, if_neg (by rw [Nat.succ_mul]; omega)]
      congr 2
      rw [Nat.succ_mul]; omega
theorem flat_at {n : Nat} {css : List (List Value)} (h : ∀ c ∈ css, c.length = n) {i : Nat} (hi : i < css.length) {j : Nat} {u : Value} (hu : css[i][j]? = some u) : css.flatten[i * n + j]? = some u := by
  have e := Rp.flat_get h i hi
  have hj : j < n := by
    have := (List.getElem?_eq_some_iff.1 hu).1
    rwa [h _ (List.getElem_mem hi)] at this
  rw [← e, List.getElem?_take, if_pos hj, List.getElem?_drop] at hu
  exact hu
theorem mem_set_flat {fps : List (List Nat)} {i : Nat} {f : List Nat} {b : Nat} (hb : b ∈ (fps.set i f).flatten) : b ∈ fps.flatten ∨ b ∈ f := by
  obtain ⟨g, hg, hbg⟩ := List.mem_flatten.1 hb
  rcases List.mem_or_eq_of_mem_set hg with h | h
  · exact .inl (List.mem_flatten.2 ⟨g, h, hbg⟩)
  · exact .inr (h ▸ hbg)
theorem nodup_set_flat {f : List Nat} : ∀ {fps : List (List Nat)} {i : Nat}, fps.flatten.Nodup → f.Nodup → (∀ b ∈ f, b ∉ fps.flatten) → (fps.set i f).flatten.Nodup
  | [], i, h, _, _ => by simp
  | g :: fps, i, h, hf, hd => by
    rw [List.flatten_cons, List.nodup_append] at h
    cases i with
    | zero =>
      rw [List.set_cons_zero, List.flatten_cons, List.nodup_append]
      exact ⟨hf, h.2.1, fun a ha b hb he => hd a ha (by rw [he]; exact List.mem_append_right _ hb)⟩
    | succ i =>
      rw [List.set_cons_succ, List.flatten_cons, List.nodup_append]
      refine ⟨h.1, nodup_set_flat h.2.1 hf (fun b hb hm => hd b hb (List.mem_append_right _ hm)), fun a ha b hb he => ?_⟩
      rcases mem_set_flat hb with hb | hb
      · exact h.2.2 a ha b hb he
      · exact hd b hb (by rw [← he]; exact List.mem_append_left _ ha)
theorem nodup_flat_mem : ∀ {fps : List (List Nat)} {f : List Nat}, fps.flatten.Nodup → f ∈ fps → f.Nodup
  | [], _, _, h => by simp at h
  | g :: fps, f, hn, h => by
    rw [List.flatten_cons, List.nodup_append] at hn
    rcases List.mem_cons.1 h with rfl | h
    · exact hn.1
    · exact nodup_flat_mem hn.2.1 h
theorem nodup_flat_ne : ∀ {fps : List (List Nat)} {i j : Nat} (hi : i < fps.length) (hj : j < fps.length) {b : Nat}, fps.flatten.Nodup → i ≠ j → b ∈ fps[i] → b ∉ fps[j]
  | [], i, _, hi, _, _, _, _, _ => by simp at hi
  | g :: fps, i, j, hi, hj, b, hn, hne, hb => by
    rw [List.flatten_cons, List.nodup_append] at hn
    intro hbj
    cases i with
    | zero =>
      cases j with
      | zero => omega
      | succ j => exact hn.2.2 b hb b (List.mem_flatten.2 ⟨_, List.getElem_mem (by simpa using hj), hbj⟩) rfl
    | succ i =>
      cases j with
      | zero => exact hn.2.2 b hbj b (List.mem_flatten.2 ⟨_, List.getElem_mem (by simpa using hi), hb⟩) rfl
      | succ j => exact nodup_flat_ne (by simpa using hi) (by simpa using hj) hn.2.1 (by omega) hb hbj
namespace Rp
section
variable {α : Type} {r : Rp α} {e g cap n : Nat} {w w1 : World} {v : Value} {xs : List α} {fp : List Nat}
theorem Row_form (h : r.Row e w v xs fp) (hn : 0 < xs.length) : ∃ g cap, v = .slice (some ⟨g, 0, none⟩) xs.length cap ∧ g ∈ fp ∧ xs.length ≤ cap := by
  obtain ⟨css, fps, ho, ha, rfl⟩ := h
  rcases ho.2 with ⟨rfl, h0⟩ | ⟨g, cap, cur, rfl, _, _, hc, _⟩
  · omega
  · exact ⟨g, cap, rfl, by simp [Value.ownBlock], hc⟩
theorem Row_elem (h : r.Row e w (.slice (some ⟨g, 0, none⟩) n cap) xs fp) (hnd : fp.Nodup) (i : Nat) (hi : i < xs.length) :
    ∃ cs f, r.P w xs[i] cs f ∧ f.Nodup ∧ (∀ b ∈ f, b ∈ fp ∧ b ≠ g) ∧ g ∈ fp ∧ (∀ j u, cs[j]? = some u → w.cell? ⟨g, i * r.d.sz + j, none⟩ = some u) ∧ (∀ j, w.frozen? ⟨g, j, none⟩ = false)
      ∧ (∀ w' x', Kp w w' f → r.P w' x' cs f → r.Row e w' (.slice (some ⟨g, 0, none⟩) n cap) (xs.set i x') fp)
      ∧ (∀ j u x' f', j < r.d.sz → r.P (w.setCell ⟨g, i * r.d.sz + j, none⟩ u) x' (cs.set j u) f' → f'.Nodup → (∀ b ∈ f', b ∈ f ∨ b ∉ fp) → (f' = f ∨ ∀ b ∈ f', b ∉ fp) →
          ∃ fp', r.Row e (w.setCell ⟨g, i * r.d.sz + j, none⟩ u) (.slice (some ⟨g, 0, none⟩) n cap) (xs.set i x') fp' ∧ fp'.Nodup ∧ (∀ b ∈ fp', b ∈ fp ∨ b ∈ f') ∧ (f' = f → fp' = fp)) := by
  obtain ⟨css, fps, ho, ha, rfl⟩ := h
  have hn : n = xs.length := by
    rcases ho.2 with ⟨h0, _⟩ | ⟨g', cap', cur, h0, _⟩
    · injection h0 with h0; cases h0
    · injection h0
  subst hn
  have hl1 := ha.len1
  have hl2 := ha.len2
  have hP := ha.get (i := i) hi (by omega) (by omega)
  have hall := all_len ha
  simp only [Value.ownBlock, Option.toList_some, List.singleton_append] at hnd ⊢
  rw [List.nodup_cons] at hnd
  have hmem : ∀ b ∈ fps[i], b ∈ fps.flatten := fun b hb => List.mem_flatten.2 ⟨_, List.getElem_mem (by omega), hb⟩
  have hndi : fps[i].Nodup := nodup_flat_mem hnd.2 (List.getElem_mem (by omega))
  have hother : ∀ j (hj : j < fps.length), j ≠ i → ∀ b ∈ fps[j], b ∉ fps[i] := fun j hj hne b hb => nodup_flat_ne hj (by omega) hnd.2 hne hb
  have hgf : ∀ f ∈ fps, ∀ b ∈ f, b ≠ g := fun f hf b hb he => hnd.1 (he ▸ List.mem_flatten.2 ⟨f, hf, hb⟩)
  have hlt : ∀ f ∈ fps, ∀ b ∈ f, b < w.heap.size := by
    intro f hf b hb
    obtain ⟨j, hj, rfl⟩ := List.getElem_of_mem hf
    exact P_lt (ha.get (i := j) (by omega) (by omega) hj) b hb
  have hgb : g < w.heap.size := own_lt ho g rfl
  have hAll : ∀ (w' : World) x' cs' f', r.P w' x' cs' f' → (∀ j (hj : j < fps.length), j ≠ i → ∀ b ∈ fps[j], w'.heap[b]? = w.heap[b]?) → All3 (r.P w') (xs.set i x') (css.set i cs') (fps.set i f') := by
    intro w' x' cs' f' hp hsame
    have key : ∀ (xs : List α) (css : List (List Value)) (fps : List (List Nat)) (i : Nat), All3 (r.P w) xs css fps → (∀ j (hj : j < fps.length), j ≠ i → ∀ b ∈ fps[j], w'.heap[b]? = w.heap[b]?) → All3 (r.P w') (xs.set i x') (css.set i cs') (fps.set i f') := by
      intro xs css fps i h
      induction h generalizing i with
      | nil => intro _; exact .nil
      | cons h0 ht ih =>
        intro hs
        cases i with
        | zero =>
          refine .cons hp ?_
          have hz := ht.imp (S := r.P w') (fun a b c hc hP => r.loc hP fun k hk => ?_)
          · exact hz
          · obtain ⟨j, hj, rfl⟩ := List.getElem_of_mem hc
            exact hs (j + 1) (by simp; omega) (by omega) k (by simpa using hk)
        | succ i =>
          refine .cons (r.loc h0 fun k hk => hs 0 (by simp) (by omega) k (by simpa using hk)) (ih i fun j hj hne b hb => hs (j + 1) (by simp; omega) (by omega) b (by simpa using hb))
    exact key xs css fps i ha hsame
  refine ⟨css[i], fps[i], hP, hndi, fun b hb => ⟨List.mem_cons_of_mem _ (hmem b hb), hgf _ (List.getElem_mem (by omega)) b hb⟩, List.mem_cons_self, ?_, fun j => ?_, ?_, ?_⟩
  · intro j u hu
    have := ho.cells (g := g) rfl _ u (flat_at hall (by omega) hu)
    rwa [add_plain] at this
  · obtain ⟨cells, hc⟩ := own_typed ho g rfl
    exact blk_frozen hc j
  · intro w' x' hk hp
    refine ⟨css.set i css[i], fps.set i fps[i], ?_, hAll w' x' _ _ hp ?_, ?_⟩
    · rw [List.set_getElem_self, List.length_set]
      exact own_move ho fun k hk' => by
        have : g = k := by simpa [Value.ownBlock] using hk'
        subst this
        exact hk.block g hgb (fun hm => hgf _ (List.getElem_mem (by omega)) g hm rfl)
    · intro j hj hne b hb
      exact hk.block b (hlt _ (List.getElem_mem hj) b hb) (hother j hj hne b hb)
    · simp [Value.ownBlock]
  · intro j u x' f' hj hp hf' hdis hor
    refine ⟨g :: (fps.set i f').flatten, ⟨css.set i (css[i].set j u), fps.set i f', ?_, hAll _ x' _ _ hp ?_, ?_⟩, ?_, ?_, ?_⟩
    · rw [← flat_set u hall i j (by omega) hj, List.length_set]
      exact (ho.stored _ u).1
    · intro j' hj' hne b hb
      exact Below.heap_setCell w _ u b (hgf _ (List.getElem_mem hj') b hb)
    · simp [Value.ownBlock]
    · rcases hor with h | h
      · subst h
        rw [List.set_getElem_self]
        exact List.nodup_cons.2 hnd
      · refine List.nodup_cons.2 ⟨fun hm => ?_, nodup_set_flat hnd.2 hf' (fun b hb hm => h b hb (List.mem_cons_of_mem _ hm))⟩
        rcases mem_set_flat hm with hm | hm
        · exact hnd.1 hm
        · exact h g hm List.mem_cons_self
    · intro b hb
      rcases List.mem_cons.1 hb with rfl | hb
      · exact .inl List.mem_cons_self
      · rcases mem_set_flat hb with h | h
        · exact .inl (List.mem_cons_of_mem _ h)
        · exact .inr h
    · intro h
      rw [h, List.set_getElem_self]
end
end Rp
end Go.Proofs.Ytocdlibnmlcokaa
namespace Go.Proofs.Ytocdlibnmlcokaa
open Go.RowKit Go.Proofs.YtocdlibnmlcokaaW.PrintWords Go.Proofs.YtocdlibnmlcokaaW.PrintLast
set_option linter.unusedVariables false
set_option linter.unusedSimpArgs false
structure Bx (w : World) (g t : Nat) (cells : Array Value) (wi : World) (v : Value) (xs : List Int) : Prop where
  row : ∃ f, rB.Row 5 wi v xs f ∧ f.Nodup ∧ ∀ b ∈ f, w.heap.size ≤ b
  bel : Below w.heap.size w wi
  box : wi.heap[g]? = some (.cells cells t (0, 0))
theorem lit_row (w : World) (xs : List Int) (hl : xs.length ≤ 1000) : rB.Row 5 (w.alloc (.cells (encs (Value.int .u8) xs).toArray 5)) (.slice (some ⟨w.heap.size, 0, none⟩) xs.length xs.length) xs [w.heap.size] := by
  have h2 := World.ownsRow_lit (base := 0) (e := 5) (size := 1) w (encs (Value.int .u8) xs).toArray xs.length (Nat.zero_le _) (by simp only [maxLen]; omega) (by simp [encs])
  exact Rp.Row_own (enc := Value.int .u8) (h1 := fun _ => rfl) (by simpa using h2)
section
variable {w wi w1 : World} {g t : Nat} {cells : Array Value} {v : Value} {xs ys : List Int}
theorem Bx.lit (hb : Below w.heap.size w wi) (hg : wi.heap[g]? = some (.cells cells t (0, 0))) (ys : List Int) (hl : ys.length ≤ 1000) :
    Bx w g t cells (wi.alloc (.cells (encs (Value.int .u8) ys).toArray 5)) (.slice (some ⟨wi.heap.size, 0, none⟩) ys.length ys.length) ys :=
  ⟨⟨[wi.heap.size], lit_row wi ys hl, by simp, fun b hb' => by have := hb.size; simp at hb'; omega⟩, below_then hb hb.size (below_alloc (Below.refl _ _) _), blk_alloc hg _⟩
theorem Bx.below (h : Bx w g t cells wi v xs) (hb : Below wi.heap.size wi w1) : Bx w g t cells w1 v xs := by
  obtain ⟨⟨f, hr, hn, hf⟩, h2, h3⟩ := h
  exact ⟨⟨f, Rp.Row_below hr hb, hn, hf⟩, below_then h2 h2.size hb, blk_below h3 hb⟩
theorem Bx.got {f f1 : List Nat} (h : Bx w g t cells wi v xs) (ht : t ≠ 5) (hr : rB.Row 5 wi v xs f) (hf : ∀ b ∈ f, w.heap.size ≤ b) {v1 : Value} {ys : List Int} (h1 : rB.Row 5 w1 v1 ys f1) (hn : f1.Nodup) (hf1 : ∀ b ∈ f1, b ∈ f ∨ wi.heap.size ≤ b) (k : Kp wi w1 f) : Bx w g t cells w1 v1 ys := by
  refine ⟨⟨f1, h1, hn, fun b hb => ?_⟩, k.toBelow h.bel h.bel.size hf, k.blk h.box (Rp.Row_not hr h.box (by show t ∉ [5]; simpa using ht))⟩
  rcases hf1 b hb with h2 | h2
  · exact hf b h2
  · have := h.bel.size; omega
theorem Bx.app {f1 : List Nat} (h : Bx w g t cells wi v xs) (ht : t ≠ 5) {v1 : Value} {ys : List Int} (h1 : rB.Row 5 w1 v1 ys f1) (hn : f1.Nodup) (hf1 : ∀ b ∈ f1, b ∈ v.ownBlock.toList ∨ wi.heap.size ≤ b) (hg : wi.grownBy w1 v.ownBlock) : Bx w g t cells w1 v1 ys := by
  obtain ⟨⟨f, hr, hnf, hf⟩, h2, h3⟩ := h
  have e := (Rp.own_Row hr).2
  subst e
  exact Bx.got ⟨⟨_, hr, hnf, hf⟩, h2, h3⟩ ht hr hf h1 hn hf1 (Kp.grown hg)
theorem Bx.form (h : Bx w g t cells wi v xs) : ∃ A c, v = .slice A xs.length c ∧ kB.C wi A xs.length xs := by
  obtain ⟨⟨f, hr, _, _⟩, _, _⟩ := h
  obtain ⟨A, c, e, _, hC⟩ := Rp.Row_reads hr
  exact ⟨A, c, e, hC⟩
theorem Bx.C {A : Option Addr} {n c : Nat} (h : Bx w g t cells wi (.slice A n c) xs) : kB.C wi A xs.length xs := by
  obtain ⟨⟨f, hr, _, _⟩, _, _⟩ := h
  exact (Rp.Row_C hr).2.2
theorem Bx.form1 (h : Bx w g t cells wi v xs) (hn : 0 < xs.length) : ∃ b c, v = .slice (some ⟨b, 0, none⟩) xs.length c ∧ kB.C wi (some ⟨b, 0, none⟩) xs.length xs := by
  obtain ⟨⟨f, hr, _, _⟩, _, _⟩ := h
  obtain ⟨b, c, rfl, _, _⟩ := Rp.Row_form hr hn
  exact ⟨b, c, rfl, (Rp.Row_C hr).2.2⟩
theorem Bx.done (h : Bx w g t cells wi v xs) : Rp.Got rB 5 w.heap.size wi v xs ∧ Below w.heap.size w wi := ⟨h.row, h.bel⟩
end
section
variable {P : Program} {ops : Array Oper} {rest : List Oper} {o : Oper} {a : Act} {Q : Exit → Act → World → Prop} {w W : World} {g t : Nat} {cells : Array Value}
theorem Bx.app_row (ht : t ≠ 5) (hgd : o.guard = none) (s x : Operand)
    (ho : o.op = .call { callee := .builtin .append, args := #[s, x], argTypes := #[22, 22] })
    (v : Value) (xs ys : List Int) (A : Option Addr) (m c : Nat) (hs : a.eval s = v) (hx : a.eval x = .slice A m c)
    (HO : Bx w g t cells W v xs) (HR : kB.C W A m ys) (hl : xs.length + m ≤ 100000)
    (h : ∀ v1 w1, Bx w g t cells w1 v1 (xs ++ ys) → wpList Try.prog ops Q rest (a.put o.dst v1) w1) :
    wpList Try.prog ops Q (o :: rest) a W := by
  obtain ⟨f, hr, hn, hf⟩ := HO.row
  have e := (Rp.own_Row hr).2
  subst e
  refine Rp.app_row (enc := Value.int .u8) (h1 := fun _ => rfl) 0 hgd s x 22 5 (.int .u8 0) 1 ho Try.underlying22 info5 rfl (by omega) v xs ys A m c hs hx hr HR (by omega) ?_
  intro v1 w1 fp1 hr1 hn1 hf1 hg1
  exact h v1 w1 (HO.app ht hr1 hn1 hf1 hg1)
theorem Bx.app_lit {W' : World} (ht : t ≠ 5) (hgd : o.guard = none) (s x : Operand)
    (ho : o.op = .call { callee := .builtin .append, args := #[s, x], argTypes := #[22, 22] })
    (v : Value) (xs ys : List Int) (hy : ys.length ≤ 1000) (HO : Bx w g t cells W v xs) (hW : W' = W.alloc (.cells (encs (Value.int .u8) ys).toArray 5)) (hs : a.eval s = v) (hx : a.eval x = .slice (some ⟨W.heap.size, 0, none⟩) ys.length ys.length)
    (hl : xs.length + ys.length ≤ 100000)
    (h : ∀ v1 w1, Bx w g t cells w1 v1 (xs ++ ys) → wpList Try.prog ops Q rest (a.put o.dst v1) w1) :
    wpList Try.prog ops Q (o :: rest) a W' := by
  subst hW
  exact Bx.app_row ht hgd s x ho v xs ys _ _ _ hs hx (HO.below (below_alloc (Below.refl _ _) _)) (Rp.Row_C (lit_row W ys hy)).2.2 hl h
theorem zeros_eq (m : Nat) : (Builtin.zeroCells (Value.int .u8 0).cells m).toList = encs (Value.int .u8) (List.replicate m 0) := by
  unfold Builtin.zeroCells encs
  rw [List.map_replicate]
  apply List.ext_getElem
  · simp [Value.cells]
  · intro i h1 h2
    simp [Value.cells, Nat.mod_one]
theorem Bx.app_zeros (ht : t ≠ 5) (hgd : o.guard = none) (s x : Operand)
    (ho : o.op = .call { callee := .builtin .append, args := #[s, x], argTypes := #[22, 3] })
    (v : Value) (xs : List Int) (m : Nat) {i : Int} (hs : a.eval s = v) (hx : a.eval x = .int .i64 i) (him : i = m)
    (HO : Bx w g t cells W v xs) (hl : xs.length + m ≤ 100000)
    (h : ∀ v1 w1, Bx w g t cells w1 v1 (xs ++ List.replicate m 0) → wpList Try.prog ops Q rest (a.put o.dst v1) w1) :
    wpList Try.prog ops Q (o :: rest) a W := by
  subst him
  obtain ⟨f, hr, hn, hf⟩ := HO.row
  obtain ⟨hown, e⟩ := Rp.own_Row hr
  subst e
  obtain ⟨i0, hi, hzz⟩ := Option.map_eq_some_iff.1 info5
  simp only [Prod.mk.injEq] at hzz
  obtain ⟨hz0, hz1, hz2⟩ := hzz
  obtain ⟨v1, w1, hrun, h2, hg, hat⟩ := run_append_zeros (P := Try.prog) W 0 22 3 o.type 5 i0 (.int .u8 0) 1 1 Try.underlying22 Try.underlying3 hi hz0 hz1 hz2 rfl (by omega) (by omega) v xs.length _ hown .i64 m (by rw [zeros_eq]; intro u hu; simp [encs] at hu; rw [hu.2]; rfl) (by omega) (Nat.zero_le _)
  rw [zeros_eq] at h2
  have h3 : w1.ownsRow 0 5 1 v1 (xs ++ List.replicate m 0).length (encs (Value.int .u8) (xs ++ List.replicate m 0)) := by
    simpa [encs] using h2
  refine wpList_plain hgd fun K hK => ?_
  unfold Oper.wp execOp
  simp only [ho, resolve, invoke, builtin, Sem.run_bind, Sem.run_pure, Result.andThen_ok, List.map_toArray, List.map_cons, List.map_nil, hs, hx, hrun]
  refine hK _ _ (h v1 w1 (HO.app ht (Rp.Row_own (enc := Value.int .u8) (h1 := fun _ => rfl) h3) (Rp.nodup_toList _) (fun b hb => ?_) hg))
  rcases hat with hat | hat
  · rw [hat] at hb; exact .inl hb
  · rw [hat] at hb; simp at hb; exact .inr (by omega)
end
theorem Bx.low {w wi w1 : World} {g t : Nat} {cells : Array Value} {v : Value} {xs ys : List Int} {f : List Nat} {e : Ending} (h : Bx w g t cells wi v xs) (ht : t ≠ 5) (hr : rB.Row 5 wi v xs f) (hf : ∀ b ∈ f, w.heap.size ≤ b) (hg : GotApp rB 5 wi ys f e w1) : ∃ v1, e = .returned v1 ∧ Bx w g t cells w1 v1 ys := by
  obtain ⟨v1, f1, rfl, h1, h2, h3, h4⟩ := hg
  exact ⟨v1, rfl, h.got ht hr hf h1 h2 h3 h4⟩
theorem Bx.low_c {w wi : World} {g t : Nat} {cells : Array Value} {v0 : Value} {xs : List Int} (h : Bx w g t cells wi v0 xs) (ht : t ≠ 5) (v : Int) (k : Nat) (hl : xs.length ≤ 1000) (hk : k ≤ 8) :
    Calls Try.prog 148 #[v0, .int .u64 v, .int .i64 k] wi (fun e w1 => ∃ v1, e = .returned v1 ∧ Bx w g t cells w1 v1 (xs ++ lowTo v k)) := by
  obtain ⟨f, hr, hn, hf⟩ := h.row
  exact (Ytocdlibnmlcokaa.low_c v0 xs f v k wi hr hn hl hk).mono fun e w1 hg => h.low ht hr hf hg
theorem Bx.l1put_c {w wi : World} {g t : Nat} {cells : Array Value} {v0 : Value} {xs : List Int} (h : Bx w g t cells wi v0 xs) (ht : t ≠ 5) (v : Int) (k : Nat) (hl : xs.length ≤ 1000) (hk : k ≤ 8) :
    Calls Try.prog 156 #[v0, .int .u64 v, .int .i64 k] wi (fun e w1 => ∃ v1, e = .returned v1 ∧ Bx w g t cells w1 v1 (xs ++ lowTo v k)) := by
  obtain ⟨f, hr, hn, hf⟩ := h.row
  exact (Ytocdlibnmlcokaa.l1put_c v0 xs f v k wi hr hn hl hk).mono fun e w1 hg => h.low ht hr hf hg
theorem Bx.set {w wi : World} {g t : Nat} {cells : Array Value} {b n c : Nat} {xs : List Int} (h : Bx w g t cells wi (.slice (some ⟨b, 0, none⟩) n c) xs) (ht : t ≠ 5) {j : Nat} (hj : j < xs.length) (x : Int) :
    Bx w g t cells (wi.setCell ⟨b, j, none⟩ (.int .u8 x)) (.slice (some ⟨b, 0, none⟩) n c) (xs.set j x) ∧ (∃ u, wi.cell? ⟨b, j, none⟩ = some u) ∧ wi.frozen? ⟨b, j, none⟩ = false := by
  obtain ⟨⟨f, hr, hn, hf⟩, hb, hg⟩ := h
  obtain ⟨cs, f0, hP, _, _, hgb, hcell, hfr, _, hst⟩ := Rp.Row_elem hr hn j hj
  obtain ⟨hcs, hf0⟩ := hP
  subst hcs; subst hf0
  have e0 : j * rB.d.sz + 0 = j := Nat.mul_one _
  have c1 := hcell 0 _ rfl
  rw [e0] at c1
  obtain ⟨fp', hr', hn', _, he⟩ := hst 0 (.int .u8 x) x [] (by decide) ⟨rfl, rfl⟩ (by simp) (by simp) (.inl rfl)
  rw [he rfl, e0] at hr'
  have hk := Kp.set wi b j (.int .u8 x)
  have hm : ∀ y ∈ [b], y ∈ f := fun y hy => by simp at hy; subst hy; exact Rp.Row_block hr rfl
  exact ⟨⟨⟨f, hr', hn, hf⟩, hk.toBelow hb hb.size (fun y hy => hf y (hm y hy)), hk.blk hg (fun hm' => Rp.Row_not hr hg (by show t ∉ [5]; simpa using ht) (hm _ hm'))⟩, ⟨_, c1⟩, hfr j⟩
end Go.Proofs.Ytocdlibnmlcokaa
namespace Go.Proofs.Ytocdlibnmlcokaa
open Go.RowKit Go.Proofs.YtocdlibnmlcokaaW.PrintWords Go.Proofs.YtocdlibnmlcokaaW.PrintLast
set_option linter.unusedVariables false
set_option linter.unusedSimpArgs false
def markL {α : Type} (mk : Int → α → α) (cnt : α → Int) : Int → List α → List α
  | _, [] => []
  | k, x :: r => mk k x :: markL mk cnt (k + cnt x) r
def cntL {α : Type} (cnt : α → Int) : List α → Int
  | [] => 0
  | x :: r => cnt x + cntL cnt r
section
variable {α : Type} {mk : Int → α → α} {cnt : α → Int}
theorem markL_len : ∀ (k : Int) (xs : List α), (markL mk cnt k xs).length = xs.length
  | _, [] => rfl
  | k, x :: r => by simp [markL, markL_len _ r]
theorem cntL_append : ∀ (xs ys : List α), cntL cnt (xs ++ ys) = cntL cnt xs + cntL cnt ys
  | [], ys => by simp [cntL]
  | x :: r, ys => by simp only [List.cons_append, cntL, cntL_append r ys]; omega
theorem markL_append : ∀ (k : Int) (xs ys : List α), markL mk cnt k (xs ++ ys) = markL mk cnt k xs ++ markL mk cnt (k + cntL cnt xs) ys
  | k, [], ys => by simp [markL, cntL]
  | k, x :: r, ys => by simp only [List.cons_append, markL, cntL, markL_append _ r ys]; rw [show k + cnt x + cntL cnt r = k + (cnt x + cntL cnt r) by omega]
def markTo (mk : Int → α → α) (cnt : α → Int) (k : Int) (xs : List α) (i : Nat) : List α := markL mk cnt k (xs.take i) ++ xs.drop i
theorem markTo_len (k : Int) (xs : List α) (i : Nat) : (markTo mk cnt k xs i).length = xs.length := by
  simp only [markTo, List.length_append, markL_len, List.length_take, List.length_drop]; omega
theorem markTo_zero (k : Int) (xs : List α) : markTo mk cnt k xs 0 = xs := by simp [markTo, markL]
theorem markTo_end (k : Int) (xs : List α) {i : Nat} (h : xs.length ≤ i) : markTo mk cnt k xs i = markL mk cnt k xs := by
  simp [markTo, List.take_of_length_le h, List.drop_eq_nil_of_le h]
theorem markTo_get (k : Int) (xs : List α) {i : Nat} (h : i < xs.length) : (markTo mk cnt k xs i)[i]'(by rw [markTo_len]; exact h) = xs[i] := by
  have hl : (markL mk cnt k (xs.take i)).length = i := by rw [markL_len, List.length_take]; omega
  simp [markTo, List.getElem_append, hl]
theorem markTo_succ (k : Int) (xs : List α) {i : Nat} (h : i < xs.length) : (markTo mk cnt k xs i).set i (mk (k + cntL cnt (xs.take i)) xs[i]) = markTo mk cnt k xs (i + 1) := by
  have hl : (markL mk cnt k (xs.take i)).length = i := by rw [markL_len, List.length_take]; omega
  unfold markTo
  rw [List.set_append, hl, if_neg (by omega), Nat.sub_self, List.take_succ_eq_append_getElem h, markL_append, List.drop_eq_getElem_cons h, List.set_cons_zero]
  simp [markL]
theorem cntL_succ (xs : List α) {i : Nat} (h : i < xs.length) : cntL cnt (xs.take (i + 1)) = cntL cnt (xs.take i) + cnt xs[i] := by
  rw [List.take_succ_eq_append_getElem h, cntL_append]; simp [cntL]
theorem markL_get (k : Int) (xs : List α) {i : Nat} (h : i < xs.length) : (markL mk cnt k xs)[i]'(by rw [markL_len]; exact h) = mk (k + cntL cnt (xs.take i)) xs[i] := by
  have := markTo_succ (mk := mk) (cnt := cnt) k xs h
  have h2 : xs = xs.take (i + 1) ++ xs.drop (i + 1) := (List.take_append_drop _ _).symm
  have h3 : markL mk cnt k xs = markL mk cnt k (xs.take (i + 1)) ++ markL mk cnt (k + cntL cnt (xs.take (i + 1))) (xs.drop (i + 1)) := by rw [← markL_append, ← h2]
  have hl : (markL mk cnt k (xs.take (i + 1))).length = i + 1 := by rw [markL_len, List.length_take]; omega
  have hl2 : (markL mk cnt k (xs.take i)).length = i := by rw [markL_len, List.length_take]; omega
  have e1 : (markL mk cnt k xs)[i]'(by rw [markL_len]; exact h) = (markL mk cnt k (xs.take (i + 1)))[i]'(by omega) := by
    simp only [h3]
    rw [List.getElem_append_left]
  rw [e1]
  have e2 : markL mk cnt k (xs.take (i + 1)) = markL mk cnt k (xs.take i) ++ [mk (k + cntL cnt (xs.take i)) xs[i]] := by
    rw [List.take_succ_eq_append_getElem h, markL_append]; simp [markL]
  simp only [e2]
  rw [List.getElem_append_right (by omega)]
  simp [hl2]
theorem cntL_nonneg (hc : ∀ x, 0 ≤ cnt x) : ∀ xs : List α, 0 ≤ cntL cnt xs
  | [] => Int.le_refl _
  | x :: r => by have := hc x; have := cntL_nonneg hc r; simp only [cntL]; omega
theorem cntL_le (hc : ∀ x, 0 ≤ cnt x) (xs : List α) (i : Nat) : cntL cnt (xs.take i) ≤ cntL cnt xs := by
  have h2 : cntL cnt xs = cntL cnt (xs.take i) + cntL cnt (xs.drop i) := by rw [← cntL_append, List.take_append_drop]
  have := cntL_nonneg (cnt := cnt) hc (xs.drop i)
  omega
end
def mkB (k _x : Int) : Int := k % 256
def cn1 {α : Type} (_x : α) : Int := 1
theorem cnt1 {α : Type} : ∀ xs : List α, cntL cn1 xs = xs.length
  | [] => rfl
  | x :: r => by simp only [cntL, cn1, cnt1 r, List.length_cons]; omega
def GotMark {α : Type} (r : Rp α) (e : Nat) (w : World) (v : Value) (xs : List α) (fp : List Nat) (k : Int) (en : Ending) (w' : World) : Prop :=
  en = .returned (.int .i64 k) ∧ r.Row e w' v xs fp ∧ Kp w w' fp
set_option maxHeartbeats 1000000 in
theorem markByteS_c (v : Value) (xs : List Int) (fp : List Nat) (k : Int) (w : World) (hr : rB.Row 5 w v xs fp) (hnd : fp.Nodup) (h0 : 0 ≤ k) (h1 : k + xs.length ≤ 1000000000) :
    Calls Try.prog 56 #[v, .int .i64 k] w (GotMark rB 5 w v (markL mkB cn1 k xs) fp (k + xs.length)) := by
  obtain ⟨A, c, rfl, _, _⟩ := Rp.Row_reads hr
  have HR := Aside0.mk hr; have HN := Aside0.mk hnd; clear hr hnd
  go_enter Try.func56, Try.ntmps56
  go_wp2
  go_loopg [1, 5] xs.length (fun m vk vi wr => ∃ i : Int, vi = .int .i64 i ∧ vk = .int .i64 (k + i) ∧ Aside0 (0 ≤ i ∧ i ≤ xs.length ∧ xs.length - i.toNat ≤ m) ∧ Aside0 (rB.Row 5 wr (.slice A xs.length c) (markTo mkB cn1 k xs i.toNat) fp) ∧ Aside0 (Kp w wr fp))
  case atStart => exact ⟨0, rfl, by rw [Int.add_zero], ⟨by simp⟩, ⟨by simpa [markTo_zero] using HR.out⟩, ⟨(Kp.refl w).mono (by simp)⟩⟩
  case round =>
    obtain ⟨i, rfl, rfl, HI, HO, HK⟩ := hrel
    by_cases hlt : i < (xs.length : Int)
    · have hi0 : 0 ≤ i := HI.out.1
      obtain ⟨g, cap, hv, _, _⟩ := Rp.Row_form HO.out (by rw [markTo_len]; omega)
      rw [markTo_len] at hv
      injection hv with hA _ hc
      subst hA; subst hc
      obtain ⟨cs, f, hP, _, _, hg, hcell, hfr, _, hst⟩ := Rp.Row_elem HO.out HN.out i.toNat (by rw [markTo_len]; omega)
      obtain ⟨hcs, hf⟩ := hP
      subst hcs; subst hf
      have e0 : i.toNat * rB.d.sz + 0 = i.toNat := Nat.mul_one _
      have c1 := hcell 0 _ rfl
      rw [e0] at c1
      have z1 := hfr i.toNat
      clear hcell hfr
      obtain ⟨fp', hr', _, _, he⟩ := hst 0 (.int .u8 (mkB (k + i) 0)) (mkB (k + i) 0) [] (by decide) ⟨rfl, rfl⟩ (by simp) (by simp) (.inl rfl)
      have he := he rfl
      subst he
      rw [e0] at hr'
      have HO' := Aside0.mk hr'
      clear hst hr' e0
      go_wp2
      go_roundg (gk - 1)
      case measure => have := HI.out; omega
      case rel =>
        refine ⟨i + 1, ?_, ?_, ⟨by have := HI.out; omega, by have := HI.out; omega, by have := HI.out; omega⟩, ?_, ?_⟩
        · rfl
        · rw [Int.add_assoc]
        · have hs := markTo_succ (mk := mkB) (cnt := cn1) k xs (i := i.toNat) (by omega)
          rw [cnt1, List.length_take, show ((min i.toNat xs.length : Nat) : Int) = i by omega] at hs
          rw [show (i + 1).toNat = i.toNat + 1 by omega, ← hs]
          exact HO'
        · exact ⟨HK.out.trans (Kp.set _ _ _ _) (fun b hb _ => by simp at hb; subst hb; exact hg)⟩
    · have hi := HI.out
      have e1 := markTo_end (mk := mkB) (cnt := cn1) k xs (i := i.toNat) (by omega)
      replace HO := HO.out; rw [e1] at HO
      have e2 : i = xs.length := by omega
      subst e2
      have HO := Aside0.mk HO
      clear e1 hi
      go_wp2
      go_ret
      exact ⟨rfl, HO.out, HK.out⟩
end Go.Proofs.Ytocdlibnmlcokaa
namespace Go.Proofs.Ytocdlibnmlcokaa
open Go.RowKit Go.Proofs.YtocdlibnmlcokaaW.PrintWords Go.Proofs.YtocdlibnmlcokaaW.PrintLast
set_option linter.unusedVariables false
set_option linter.unusedSimpArgs false
set_option maxHeartbeats 1000000 in
theorem heldByteS_c (A : Option Addr) (c : Nat) (xs : List Int) (k : Int) (w : World) (n : Nat) (hn : xs.length = n) (hx : kB.C w A n (markL mkB cn1 k xs)) (h0 : 0 ≤ k) (h1 : k + xs.length ≤ 1000000000) :
    Calls Try.prog 124 #[.slice A n c, .int .i64 k] w fun e w' => e = .returned (.int .i64 (k + xs.length)) ∧ w' = w := by
  subst hn
  have HX := Aside0.mk hx; clear hx
  go_enter Try.func124, Try.ntmps124
  go_wp2
  go_loopg [1, 5] xs.length (fun m vk vi wr => ∃ i : Int, vi = .int .i64 i ∧ vk = .int .i64 (k + i) ∧ Aside0 (0 ≤ i ∧ i ≤ xs.length ∧ xs.length - i.toNat ≤ m) ∧ wr = w)
  case atStart => exact ⟨0, rfl, by rw [Int.add_zero], ⟨by simp⟩, rfl⟩
  case round =>
    obtain ⟨i, rfl, rfl, HI, rfl⟩ := hrel
    by_cases hlt : i < (xs.length : Int)
    · have hi0 : 0 ≤ i := HI.out.1
      obtain ⟨ad, hA, c1⟩ := Kd.at_int HX.out i hi0 hlt
      cases hA
      rw [rd_eq (by rw [markL_len]; omega), markL_get k xs (by omega), cnt1, List.length_take, show ((min i.toNat xs.length : Nat) : Int) = i by omega] at c1
      simp only [mkB] at c1
      go_wp2
      go_roundg (gk - 1)
      case measure => have := HI.out; omega
      case rel => exact ⟨i + 1, rfl, by rw [Int.add_assoc], ⟨by have := HI.out; omega, by have := HI.out; omega, by have := HI.out; omega⟩, rfl⟩
    · have e2 : i = xs.length := by have := HI.out; omega
      subst e2
      go_wp2
      go_ret
      exact ⟨rfl, rfl⟩
def cnB (x : List Int) : Int := x.length
def mkBS (k : Int) (x : List Int) : List Int := markL mkB cn1 k x
theorem cnB_nonneg (x : List Int) : 0 ≤ cnB x := by unfold cnB; omega
set_option maxHeartbeats 1000000 in
theorem markByteSS_c (v : Value) (xs : List (List Int)) (fp : List Nat) (k : Int) (w : World) (hr : rBS.Row 22 w v xs fp) (hnd : fp.Nodup) (h0 : 0 ≤ k) (h1 : k + cntL cnB xs ≤ 1000000000) :
    Calls Try.prog 60 #[v, .int .i64 k] w (GotMark rBS 22 w v (markL mkBS cnB k xs) fp (k + cntL cnB xs)) := by
  have hl : xs.length ≤ 9223372036854775807 := Rp.Row_len hr
  obtain ⟨A, c, rfl, _, _⟩ := Rp.Row_reads hr
  have HR := Aside0.mk hr; have HN := Aside0.mk hnd; have H1 := Aside0.mk h1; clear hr hnd h1
  go_enter Try.func60, Try.ntmps60
  go_wp2
  go_loopg [1, 5] xs.length (fun m vk vi wr => ∃ i kc : Int, vi = .int .i64 i ∧ vk = .int .i64 kc ∧ Aside0 (0 ≤ i ∧ i ≤ xs.length ∧ xs.length - i.toNat ≤ m ∧ kc = k + cntL cnB (xs.take i.toNat)) ∧ Aside0 (rBS.Row 22 wr (.slice A xs.length c) (markTo mkBS cnB k xs i.toNat) fp) ∧ Aside0 (Kp w wr fp))
  case atStart => exact ⟨0, k, rfl, rfl, ⟨by simp [cntL]⟩, ⟨by simpa [markTo_zero] using HR.out⟩, ⟨(Kp.refl w).mono (by simp)⟩⟩
  case round =>
    obtain ⟨i, kc, rfl, rfl, HI, HO, HK⟩ := hrel
    by_cases hlt : i < (xs.length : Int)
    · have hi0 : 0 ≤ i := HI.out.1
      have hs1 := cntL_succ (cnt := cnB) xs (i := i.toNat) (by omega)
      have hs2 := cntL_le (cnt := cnB) cnB_nonneg xs (i.toNat + 1)
      have hs3 := cntL_nonneg (cnt := cnB) cnB_nonneg (xs.take i.toNat)
      have hkc : 0 ≤ kc ∧ kc + (xs[i.toNat]'(by omega)).length ≤ 1000000000 := by have := HI.out; have := H1.out; unfold cnB at *; omega
      have hs1 := Aside0.mk hs1
      clear hs2 hs3
      obtain ⟨g, cap, hv, _, _⟩ := Rp.Row_form HO.out (by rw [markTo_len]; omega)
      rw [markTo_len] at hv
      injection hv with hA _ hc
      subst hA; subst hc
      obtain ⟨cs, f, hP, hnf, hff, hg, hcell, _, hup, _⟩ := Rp.Row_elem HO.out HN.out i.toNat (by rw [markTo_len]; omega)
      rw [markTo_get k xs (by omega)] at hP
      generalize hxi : xs[i.toNat]'(by omega) = xi at hP hkc hs1
      have Hxi := Aside0.mk hxi; clear hxi
      obtain ⟨vi, rfl, hri⟩ := hP
      obtain ⟨Ai, ci, rfl, _, _⟩ := Rp.Row_reads hri
      have e0 : i.toNat * rBS.d.sz + 0 = i.toNat := Nat.mul_one _
      have c1 := hcell 0 _ rfl
      rw [e0] at c1
      have Hup := Aside0.mk hup; have Hri := Aside0.mk hri; have Hnf := Aside0.mk hnf; have Hff := Aside0.mk hff; have HKC := Aside0.mk hkc
      clear hcell hup hri e0 hnf hff hkc
      go_wp2_with (go_at_call 56; refine (markByteS_c _ xi f kc _ Hri.out Hnf.out HKC.out.1 HKC.out.2).mono ?_; rintro e w1 ⟨rfl, hr1, hk1⟩; have HR1 := Aside0.mk (Hup.out w1 _ hk1 ⟨_, rfl, hr1⟩); have HK1 := Aside0.mk (HK.out.trans hk1 (fun b hb _ => (Hff.out b hb).1)); clear hr1 hk1)
      go_roundg (gk - 1)
      case measure => have := HI.out; omega
      case rel =>
        have hi := HI.out; have hs := hs1.out; have hx := Hxi.out
        refine ⟨i + 1, _, rfl, rfl, ⟨by omega, by omega, by omega, ?_⟩, ?_, HK1⟩
        · rw [show (i + 1).toNat = i.toNat + 1 by omega, hs]; unfold cnB at *; omega
        · have hm := markTo_succ (mk := mkBS) (cnt := cnB) k xs (i := i.toNat) (by omega)
          rw [show (i + 1).toNat = i.toNat + 1 by omega, ← hm, hx, ← hi.2.2.2]
          exact HR1
    · have hi := HI.out
      have e1 := markTo_end (mk := mkBS) (cnt := cnB) k xs (i := i.toNat) (by omega)
      replace HO := HO.out; rw [e1] at HO
      have e2 : kc = k + cntL cnB xs := by rw [hi.2.2.2, List.take_of_length_le (by omega)]
      subst e2
      have HO := Aside0.mk HO
      clear e1 hi
      go_wp2
      go_ret
      exact ⟨rfl, HO.out, HK.out⟩
theorem gBS_eq {xs : List (List Int)} {i : Int} (h : i.toNat < xs.length) : gBS xs i = xs[i.toNat] := by simp [gBS, List.getD_eq_getElem?_getD, h]
theorem gW_eq {xs : List Wr} {i : Int} (h : i.toNat < xs.length) : gW xs i = xs[i.toNat] := by simp [gW, List.getD_eq_getElem?_getD, h]
set_option maxHeartbeats 1000000 in
theorem heldByteSS_c (A : Option Addr) (c : Nat) (xs : List (List Int)) (k : Int) (w : World) (n : Nat) (hn : xs.length = n) (hx : rBS.d.C w A n (markL mkBS cnB k xs)) (h0 : 0 ≤ k) (h1 : k + cntL cnB xs ≤ 1000000000) :
    Calls Try.prog 61 #[.slice A n c, .int .i64 k] w fun e w' => e = .returned (.int .i64 (k + cntL cnB xs)) ∧ w' = w := by
  subst hn
  have hl : xs.length ≤ 9223372036854775807 := hx.2.1
  have HX := Aside0.mk hx; have H1 := Aside0.mk h1; clear hx h1
  go_enter Try.func61, Try.ntmps61
  go_wp2
  go_loopg [1, 5] xs.length (fun m vk vi wr => ∃ i kc : Int, vi = .int .i64 i ∧ vk = .int .i64 kc ∧ Aside0 (0 ≤ i ∧ i ≤ xs.length ∧ xs.length - i.toNat ≤ m ∧ kc = k + cntL cnB (xs.take i.toNat)) ∧ wr = w)
  case atStart => exact ⟨0, k, rfl, rfl, ⟨by simp [cntL]⟩, rfl⟩
  case round =>
    obtain ⟨i, kc, rfl, rfl, HI, rfl⟩ := hrel
    by_cases hlt : i < (xs.length : Int)
    · have hi0 : 0 ≤ i := HI.out.1
      have hs1 := cntL_succ (cnt := cnB) xs (i := i.toNat) (by omega)
      have hs2 := cntL_le (cnt := cnB) cnB_nonneg xs (i.toNat + 1)
      have hs3 := cntL_nonneg (cnt := cnB) cnB_nonneg (xs.take i.toNat)
      have hkc : 0 ≤ kc ∧ kc + (xs[i.toNat]'(by omega)).length ≤ 1000000000 := by have := HI.out; have := H1.out; unfold cnB at *; omega
      have hs1 := Aside0.mk hs1
      clear hs2 hs3
      obtain ⟨ad, A0, c0, hA, c1, _, hC⟩ := at_BS HX.out i hi0 hlt
      cases hA
      have hkk := HI.out.2.2.2
      rw [gBS_eq (by rw [markL_len]; omega), markL_get k xs (by omega), ← hkk] at c1 hC
      generalize hxi : xs[i.toNat]'(by omega) = xi at c1 hC hkc hs1
      have hlx : xi.length = (mkBS kc xi).length := by unfold mkBS; rw [markL_len]
      generalize (mkBS kc xi).length = nn at c1 hC hlx
      have Hxi := Aside0.mk hxi; have HC := Aside0.mk hC; have HL := Aside0.mk hlx; have hk0 := hkc.1; have HKC := Aside0.mk hkc; have hpos : 0 ≤ kc + (xi.length : Int) := by omega
      clear hxi hC hlx hkk hkc
      go_wp2_with (go_at_call 124; refine (heldByteS_c _ _ xi kc _ nn HL.out HC.out HKC.out.1 HKC.out.2).mono ?_; rintro e w1 ⟨rfl, rfl⟩)
      go_roundg (gk - 1)
      case measure => have := HI.out; omega
      case rel =>
        have hi := HI.out; have hs := hs1.out; have hx := Hxi.out
        refine ⟨i + 1, _, rfl, rfl, ⟨by omega, by omega, by omega, ?_⟩, rfl⟩
        rw [show (i + 1).toNat = i.toNat + 1 by omega, hs]; unfold cnB at *; omega
    · have hi := HI.out
      have e2 : kc = k + cntL cnB xs := by rw [hi.2.2.2, List.take_of_length_le (by omega)]
      subst e2
      clear hi
      go_wp2
      go_ret
      exact ⟨rfl, rfl⟩
theorem cell_set_ne {w : World} {p q : Addr} {u : Value} (h : q ≠ p) : (w.setCell p u).cell? q = w.cell? q := World.cell?_setCell_other w p q u (fun e => h e.symm)
def cnW (x : Wr) : Int := 1 + x.bytes.length
def mkW (k : Int) (x : Wr) : Wr := ⟨k, markL mkB cn1 (k + 1) x.bytes⟩
theorem cnW_nonneg (x : Wr) : 0 ≤ cnW x := by unfold cnW; omega
set_option maxHeartbeats 1000000 in
theorem markWriteS_c (v : Value) (xs : List Wr) (fp : List Nat) (k : Int) (w : World) (hr : rW.Row 147 w v xs fp) (hnd : fp.Nodup) (h0 : 0 ≤ k) (h1 : k + cntL cnW xs ≤ 1000000000) :
    Calls Try.prog 102 #[v, .int .i64 k] w (GotMark rW 147 w v (markL mkW cnW k xs) fp (k + cntL cnW xs)) := by
  have hl : xs.length ≤ 9223372036854775807 := Rp.Row_len hr
  obtain ⟨A, c, rfl, _, _⟩ := Rp.Row_reads hr
  have HR := Aside0.mk hr; have HN := Aside0.mk hnd; have H1 := Aside0.mk h1; clear hr hnd h1
  go_enter Try.func102, Try.ntmps102
  go_wp2
  go_loopg [1, 5] xs.length (fun m vk vi wr => ∃ i kc : Int, vi = .int .i64 i ∧ vk = .int .i64 kc ∧ Aside0 (0 ≤ i ∧ i ≤ xs.length ∧ xs.length - i.toNat ≤ m ∧ kc = k + cntL cnW (xs.take i.toNat)) ∧ Aside0 (rW.Row 147 wr (.slice A xs.length c) (markTo mkW cnW k xs i.toNat) fp) ∧ Aside0 (Kp w wr fp))
  case atStart => exact ⟨0, k, rfl, rfl, ⟨by simp [cntL]⟩, ⟨by simpa [markTo_zero] using HR.out⟩, ⟨(Kp.refl w).mono (by simp)⟩⟩
  case round =>
    obtain ⟨i, kc, rfl, rfl, HI, HO, HK⟩ := hrel
    by_cases hlt : i < (xs.length : Int)
    · have hi0 : 0 ≤ i := HI.out.1
      have hs1 := cntL_succ (cnt := cnW) xs (i := i.toNat) (by omega)
      have hs2 := cntL_le (cnt := cnW) cnW_nonneg xs (i.toNat + 1)
      have hs3 := cntL_nonneg (cnt := cnW) cnW_nonneg (xs.take i.toNat)
      have hkc : 0 ≤ kc ∧ kc + 1 + (xs[i.toNat]'(by omega)).bytes.length ≤ 1000000000 := by have := HI.out; have := H1.out; unfold cnW at *; omega
      have hs1 := Aside0.mk hs1
      clear hs2 hs3
      obtain ⟨g, cap, hv, _, _⟩ := Rp.Row_form HO.out (by rw [markTo_len]; omega)
      rw [markTo_len] at hv
      injection hv with hA _ hc
      subst hA; subst hc
      obtain ⟨cs, f, hP, hnf, hff, hg, hcell, hfr, _, hst⟩ := Rp.Row_elem HO.out HN.out i.toNat (by rw [markTo_len]; omega)
      rw [markTo_get k xs (by omega)] at hP
      generalize hxi : xs[i.toNat]'(by omega) = xi at hP hkc hs1
      have Hxi := Aside0.mk hxi; clear hxi
      obtain ⟨vi, rfl, hri⟩ := W_open hP
      obtain ⟨Ai, ci, rfl, _, _⟩ := Rp.Row_reads hri
      obtain ⟨fp', hr', _, _, he⟩ := hst 0 (.int .i64 kc) ⟨kc, xi.bytes⟩ f (by decide) (W_mk ⟨kc, xi.bytes⟩ (Rp.Row_far hri (p := ⟨g, i.toNat * rW.d.sz + 0, none⟩) (fun h => (hff g h).2 rfl) (.int .i64 kc))) hnf (fun b hb => .inl hb) (.inl rfl)
      have he := he rfl
      subst he
      have c0 : wr.cell? ⟨g, i.toNat * 2, none⟩ = some (.int .i64 xi.block) := hcell 0 _ rfl
      have z0 : wr.frozen? ⟨g, i.toNat * 2, none⟩ = false := hfr _
      have hr' : rW.Row 147 (wr.setCell ⟨g, i.toNat * 2, none⟩ (.int .i64 kc)) (.slice (some ⟨g, 0, none⟩) xs.length c) ((markTo mkW cnW k xs i.toNat).set i.toNat ⟨kc, xi.bytes⟩) fp' := hr'
      have hk2 : Kp w (wr.setCell ⟨g, i.toNat * 2, none⟩ (.int .i64 kc)) fp' := HK.out.trans (Kp.set _ _ _ _) (fun b hb _ => by simp at hb; subst hb; exact hg)
      clear hcell hfr hst hri hP hnf hff
      obtain ⟨cs, f, hP, hnf, hff, _, hcell, _, hup, _⟩ := Rp.Row_elem hr' HN.out i.toNat (by rw [List.length_set, markTo_len]; omega)
      rw [List.getElem_set_self] at hP
      obtain ⟨vj, rfl, hri⟩ := W_open hP
      obtain ⟨Aj, cj, rfl, _, _⟩ := Rp.Row_reads hri
      have c1 : (wr.setCell ⟨g, i.toNat * 2, none⟩ (.int .i64 kc)).cell? ⟨g, i.toNat * 2 + 1, none⟩ = some (.slice Aj xi.bytes.length cj) := hcell 1 _ rfl
      rw [cell_set_ne (by simp)] at c1
      have Hup := Aside0.mk hup; have Hri := Aside0.mk hri; have Hnf := Aside0.mk hnf; have Hff := Aside0.mk hff; have HKC := Aside0.mk hkc; have HK2 := Aside0.mk hk2
      have hk0 := hkc.1; have hk1 : kc + 1 ≤ 1000000000 := by omega
      clear hcell hup hri hnf hff hkc hr' hP hk2
      go_wp2_with (go_at_call 56; refine (markByteS_c _ xi.bytes f (kc + 1) _ Hri.out Hnf.out (by omega) HKC.out.2).mono ?_; rintro e w1 ⟨rfl, hr1, hk1⟩; have HR1 := Aside0.mk (Hup.out w1 _ hk1 (W_mk ⟨kc, _⟩ hr1)); have HK1 := Aside0.mk (HK2.out.trans hk1 (fun b hb _ => (Hff.out b hb).1)); clear hr1 hk1)
      go_roundg (gk - 1)
      case measure => have := HI.out; omega
      case rel =>
        have hi := HI.out; have hs := hs1.out; have hx := Hxi.out
        refine ⟨i + 1, _, rfl, rfl, ⟨by omega, by omega, by omega, ?_⟩, ?_, HK1⟩
        · rw [show (i + 1).toNat = i.toNat + 1 by omega, hs]; unfold cnW at *; omega
        · have hm := markTo_succ (mk := mkW) (cnt := cnW) k xs (i := i.toNat) (by omega)
          rw [show (i + 1).toNat = i.toNat + 1 by omega, ← hm, hx, ← hi.2.2.2]
          have h9 := HR1.out
          rw [List.set_set] at h9
          exact ⟨h9⟩
    · have hi := HI.out
      have e1 := markTo_end (mk := mkW) (cnt := cnW) k xs (i := i.toNat) (by omega)
      replace HO := HO.out; rw [e1] at HO
      have e2 : kc = k + cntL cnW xs := by rw [hi.2.2.2, List.take_of_length_le (by omega)]
      subst e2
      have HO := Aside0.mk HO
      clear e1 hi
      go_wp2
      go_ret
      exact ⟨rfl, HO.out, HK.out⟩
end Go.Proofs.Ytocdlibnmlcokaa
namespace Go.Proofs.Ytocdlibnmlcokaa
open Go.RowKit Go.Proofs.YtocdlibnmlcokaaW.PrintWords Go.Proofs.YtocdlibnmlcokaaW.PrintLast
set_option linter.unusedVariables false
set_option linter.unusedSimpArgs false
def szR (cost left : Int) : Int := if cost ≤ left then left - cost else -1
theorem szR_yes {cost left : Int} (h : cost ≤ left) : szR cost left = left - cost := if_pos h
theorem szR_no {cost left : Int} (h : ¬ cost ≤ left) : szR cost left = -1 := if_neg h
def Num (w : World) (k : Int) (e : Ending) (w' : World) : Prop := e = .returned (.int .i64 k) ∧ Below w.heap.size w w'
theorem szByteS_c (A : Option Addr) (c n : Nat) (left : Int) (w : World) (hn : n ≤ 9223372036854775807) (h0 : 0 ≤ left) (h1 : left ≤ 1048576) :
    Calls Try.prog 151 #[.slice A n c, .int .i64 left] w (Num w (szR n left)) := by
  by_cases h : (n : Int) ≤ left
  · have HR := Aside0.mk (szR_yes h)
    go_enter Try.func151, Try.ntmps151
    go_wp2
    go_ret
    exact ⟨by rw [HR.out]; rfl, Below.refl _ _⟩
  · have HR := Aside0.mk (szR_no h)
    go_enter Try.func151, Try.ntmps151
    go_wp2
    go_ret
    exact ⟨by rw [HR.out]; rfl, Below.refl _ _⟩
def costBS (xs : List (List Int)) : Int := xs.length + cntL cnB xs
def cnV (x : Wr) : Int := x.bytes.length
def costWS (xs : List Wr) : Int := xs.length + cntL cnV xs
theorem cnV_nonneg (x : Wr) : 0 ≤ cnV x := by unfold cnV; omega
theorem szWrite_c (b : Int) (A : Option Addr) (c n : Nat) (left : Int) (w : World) (hn : n ≤ 9223372036854775807) (h0 : 0 ≤ left) (h1 : left ≤ 1048576) :
    Calls Try.prog 152 #[.agg #[.int .i64 b, .slice A n c], .int .i64 left] w (Num w (szR n left)) := by
  have hb := Aside0.mk (below_alloc (Below.refl w.heap.size w) (.cells #[.int .i64 b, .slice A n c] 176))
  by_cases h : (n : Int) ≤ left
  · have hr := szR_yes h
    go_enter Try.func152, Try.ntmps152
    go_wp2_with (go_at_call 151; refine (szByteS_c A c n left _ hn h0 h1).mono ?_; rintro e w1 ⟨rfl, hb1⟩; rw [hr]; have HB := Aside0.mk (below_then hb.out (by simp) hb1); clear hb1)
    go_ret
    exact ⟨by rw [hr]; rfl, HB.out⟩
  · have hr := szR_no h
    go_enter Try.func152, Try.ntmps152
    go_wp2_with (go_at_call 151; refine (szByteS_c A c n left _ hn h0 h1).mono ?_; rintro e w1 ⟨rfl, hb1⟩; rw [hr]; have HB := Aside0.mk (below_then hb.out (by simp) hb1); clear hb1)
    go_ret
    exact ⟨by rw [hr]; rfl, HB.out⟩
set_option maxHeartbeats 1000000 in
theorem szByteSS_c (A : Option Addr) (c : Nat) (xs : List (List Int)) (left : Int) (w : World) (hx : rBS.d.C w A xs.length xs) (h0 : 0 ≤ left) (h1 : left ≤ 1048576) :
    Calls Try.prog 118 #[.slice A xs.length c, .int .i64 left] w (Num w (szR (xs.length + cntL cnB xs) left)) := by
  have hl : xs.length ≤ 9223372036854775807 := hx.2.1
  have HX := Aside0.mk hx; clear hx
  have hnn := cntL_nonneg (cnt := cnB) cnB_nonneg xs
  by_cases hq : (xs.length : Int) ≤ left
  · go_enter Try.func118, Try.ntmps118
    go_wp2
    go_loopg [1, 5] xs.length (fun m vl vi wr => ∃ i lc : Int, vi = .int .i64 i ∧ vl = .int .i64 lc ∧ Aside0 (0 ≤ i ∧ i ≤ xs.length ∧ xs.length - i.toNat ≤ m ∧ lc = left - xs.length - cntL cnB (xs.take i.toNat)) ∧ Aside0 (0 ≤ lc) ∧ Aside0 (Below w.heap.size w wr))
    case atStart => exact ⟨0, left - xs.length, rfl, rfl, ⟨by simp [cntL]⟩, ⟨by omega⟩, ⟨Below.refl _ _⟩⟩
    case round =>
      obtain ⟨i, lc, rfl, rfl, HI, HL, HB⟩ := hrel
      by_cases hlt : i < (xs.length : Int)
      · have hi0 : 0 ≤ i := HI.out.1
        have hs1 := cntL_succ (cnt := cnB) xs (i := i.toNat) (by omega)
        have hs2 := cntL_le (cnt := cnB) cnB_nonneg xs (i.toNat + 1)
        have hs3 := cntL_nonneg (cnt := cnB) cnB_nonneg (xs.take i.toNat)
        have hll : 0 ≤ lc ∧ lc ≤ 1048576 := ⟨HL.out, by have := HI.out; omega⟩
        obtain ⟨ad, A0, c0, hA, c1, _, hC⟩ := at_BS (Kd.C_below HX.out HB.out) i hi0 hlt
        cases hA
        have hg := gBS_eq (xs := xs) (i := i) (by omega)
        by_cases hf : cnB (gBS xs i) ≤ lc
        · have hr := szR_yes hf
          have hs : lc - cnB (gBS xs i) = left - xs.length - cntL cnB (xs.take (i + 1).toNat) := by rw [show (i + 1).toNat = i.toNat + 1 by omega, hs1, hg]; have := HI.out; omega
          have HS := Aside0.mk hs; have HR := Aside0.mk hr
          have hpos : 0 ≤ lc - cnB (gBS xs i) := by omega
          clear hs1 hs2 hs3 hg hs hr hf
          go_wp2_with (go_at_call 151; refine (szByteS_c _ _ (gBS xs i).length lc _ hC.2.1 hll.1 hll.2).mono ?_; rintro e w1 ⟨rfl, hb1⟩; rw [show szR ((gBS xs i).length : Int) lc = _ from HR.out]; have HB1 := Aside0.mk (below_then HB.out HB.out.size hb1); clear hb1)
          go_roundg (gk - 1)
          case measure => have := HI.out; omega
          case rel => exact ⟨i + 1, _, rfl, rfl, ⟨by have := HI.out; omega, by have := HI.out; omega, by have := HI.out; omega, HS.out⟩, ⟨hpos⟩, HB1⟩
        · have hr := szR_no hf
          have hs : szR (xs.length + cntL cnB xs) left = -1 := szR_no (by rw [hg] at hf; have := HI.out; omega)
          have HS := Aside0.mk hs; have HR := Aside0.mk hr
          clear hs1 hs2 hs3 hg hs hr hf
          go_wp2_with (go_at_call 151; refine (szByteS_c _ _ (gBS xs i).length lc _ hC.2.1 hll.1 hll.2).mono ?_; rintro e w1 ⟨rfl, hb1⟩; rw [show szR ((gBS xs i).length : Int) lc = _ from HR.out]; have HB1 := Aside0.mk (below_then HB.out HB.out.size hb1); clear hb1)
          go_ret
          exact ⟨by rw [HS.out]; rfl, HB1.out⟩
      · have hi := HI.out
        have hs : szR (xs.length + cntL cnB xs) left = lc := by
          have e : xs.take i.toNat = xs := List.take_of_length_le (by omega)
          rw [e] at hi
          rw [szR_yes (by have := HL.out; omega)]; omega
        have HS := Aside0.mk hs; clear hs hi
        go_wp2
        go_ret
        exact ⟨by rw [HS.out]; rfl, HB.out⟩
  · have HR := Aside0.mk (szR_no (cost := xs.length + cntL cnB xs) (left := left) (by omega))
    go_enter Try.func118, Try.ntmps118
    go_wp2
    go_ret
    exact ⟨by rw [HR.out]; rfl, Below.refl _ _⟩
set_option maxHeartbeats 1000000 in
theorem szWriteS_c (A : Option Addr) (c : Nat) (xs : List Wr) (left : Int) (w : World) (hx : rW.d.C w A xs.length xs) (h0 : 0 ≤ left) (h1 : left ≤ 1048576) :
    Calls Try.prog 119 #[.slice A xs.length c, .int .i64 left] w (Num w (szR (xs.length + cntL cnV xs) left)) := by
  have hl : xs.length ≤ 9223372036854775807 := hx.2.1
  have HX := Aside0.mk hx; clear hx
  have hnn := cntL_nonneg (cnt := cnV) cnV_nonneg xs
  by_cases hq : (xs.length : Int) ≤ left
  · go_enter Try.func119, Try.ntmps119
    go_wp2
    go_loopg [1, 5] xs.length (fun m vl vi wr => ∃ i lc : Int, vi = .int .i64 i ∧ vl = .int .i64 lc ∧ Aside0 (0 ≤ i ∧ i ≤ xs.length ∧ xs.length - i.toNat ≤ m ∧ lc = left - xs.length - cntL cnV (xs.take i.toNat)) ∧ Aside0 (0 ≤ lc) ∧ Aside0 (Below w.heap.size w wr))
    case atStart => exact ⟨0, left - xs.length, rfl, rfl, ⟨by simp [cntL]⟩, ⟨by omega⟩, ⟨Below.refl _ _⟩⟩
    case round =>
      obtain ⟨i, lc, rfl, rfl, HI, HL, HB⟩ := hrel
      by_cases hlt : i < (xs.length : Int)
      · have hi0 : 0 ≤ i := HI.out.1
        have hs1 := cntL_succ (cnt := cnV) xs (i := i.toNat) (by omega)
        have hs2 := cntL_le (cnt := cnV) cnV_nonneg xs (i.toNat + 1)
        have hs3 := cntL_nonneg (cnt := cnV) cnV_nonneg (xs.take i.toNat)
        have hll : 0 ≤ lc ∧ lc ≤ 1048576 := ⟨HL.out, by have := HI.out; omega⟩
        obtain ⟨ad, A0, c0, hA, c1, c2, _, hC⟩ := at_W (Kd.C_below HX.out HB.out) i hi0 hlt
        cases hA
        have hg := gW_eq (xs := xs) (i := i) (by omega)
        by_cases hf : cnV (gW xs i) ≤ lc
        · have hr := szR_yes hf
          have hs : lc - cnV (gW xs i) = left - xs.length - cntL cnV (xs.take (i + 1).toNat) := by rw [show (i + 1).toNat = i.toNat + 1 by omega, hs1, hg]; have := HI.out; omega
          have HS := Aside0.mk hs; have HR := Aside0.mk hr
          have hpos : 0 ≤ lc - cnV (gW xs i) := by omega
          clear hs1 hs2 hs3 hg hs hr hf
          go_wp2_with (go_at_call 152; refine (szWrite_c _ _ _ (gW xs i).bytes.length lc _ hC.2.1 hll.1 hll.2).mono ?_; rintro e w1 ⟨rfl, hb1⟩; rw [show szR ((gW xs i).bytes.length : Int) lc = _ from HR.out]; have HB1 := Aside0.mk (below_then HB.out HB.out.size hb1); clear hb1)
          go_roundg (gk - 1)
          case measure => have := HI.out; omega
          case rel => exact ⟨i + 1, _, rfl, rfl, ⟨by have := HI.out; omega, by have := HI.out; omega, by have := HI.out; omega, HS.out⟩, ⟨hpos⟩, HB1⟩
        · have hr := szR_no hf
          have hs : szR (xs.length + cntL cnV xs) left = -1 := szR_no (by rw [hg] at hf; have := HI.out; omega)
          have HS := Aside0.mk hs; have HR := Aside0.mk hr
          clear hs1 hs2 hs3 hg hs hr hf
          go_wp2_with (go_at_call 152; refine (szWrite_c _ _ _ (gW xs i).bytes.length lc _ hC.2.1 hll.1 hll.2).mono ?_; rintro e w1 ⟨rfl, hb1⟩; rw [show szR ((gW xs i).bytes.length : Int) lc = _ from HR.out]; have HB1 := Aside0.mk (below_then HB.out HB.out.size hb1); clear hb1)
          go_ret
          exact ⟨by rw [HS.out]; rfl, HB1.out⟩
      · have hi := HI.out
        have hs : szR (xs.length + cntL cnV xs) left = lc := by
          have e : xs.take i.toNat = xs := List.take_of_length_le (by omega)
          rw [e] at hi
          rw [szR_yes (by have := HL.out; omega)]; omega
        have HS := Aside0.mk hs; clear hs hi
        go_wp2
        go_ret
        exact ⟨by rw [HS.out]; rfl, HB.out⟩
  · have HR := Aside0.mk (szR_no (cost := xs.length + cntL cnV xs) (left := left) (by omega))
    go_enter Try.func119, Try.ntmps119
    go_wp2
    go_ret
    exact ⟨by rw [HR.out]; rfl, Below.refl _ _⟩
def costD (bs : List (List Int)) (ws : List Wr) : Int := costBS bs + costWS ws
theorem costBS_nonneg (xs : List (List Int)) : 0 ≤ costBS xs := by have := cntL_nonneg (cnt := cnB) cnB_nonneg xs; unfold costBS; omega
theorem costWS_nonneg (xs : List Wr) : 0 ≤ costWS xs := by have := cntL_nonneg (cnt := cnV) cnV_nonneg xs; unfold costWS; omega
set_option maxHeartbeats 1000000 in
theorem szDisk_c (A0 A1 : Option Addr) (c0 c1 : Nat) (bs : List (List Int)) (ws : List Wr) (left : Int) (w : World) (hx : rBS.d.C w A0 bs.length bs) (hy : rW.d.C w A1 ws.length ws) (h0 : 0 ≤ left) (h1 : left ≤ 1048576) :
    Calls Try.prog 50 #[.agg #[.slice A0 bs.length c0, .slice A1 ws.length c1], .int .i64 left] w (Num w (szR (costD bs ws) left)) := by
  have hb := below_alloc (Below.refl w.heap.size w) (.cells #[.slice A0 bs.length c0, .slice A1 ws.length c1] 78)
  have HX := Aside0.mk (Kd.C_below hx hb); have HY := Aside0.mk (Kd.C_below hy hb); have BK := Aside0.mk (blk_new w (.cells #[.slice A0 bs.length c0, .slice A1 ws.length c1] 78)); have HB := Aside0.mk hb
  have n0 := costBS_nonneg bs
  have n1 := costWS_nonneg ws
  clear hx hy hb
  by_cases ha : costBS bs ≤ left
  · have hr := Aside0.mk (szR_yes ha)
    have hl1 : 0 ≤ left - costBS bs ∧ left - costBS bs ≤ 1048576 := by omega
    by_cases hc : costWS ws ≤ left - costBS bs
    · have hr2 := Aside0.mk (szR_yes hc)
      have hpos : 0 ≤ left - costBS bs - costWS ws := by omega
      have HS : Aside0 (szR (costD bs ws) left = left - costBS bs - costWS ws) := ⟨by unfold costD; rw [szR_yes (by omega)]; omega⟩
      clear ha hc
      go_enter Try.func50, Try.ntmps50
      go_wp2_with (first
        | (go_at_call 118; refine (szByteSS_c _ _ bs left _ HX.out h0 h1).mono ?_; rintro e wa ⟨rfl, hb1⟩; rw [show szR (bs.length + cntL cnB bs) left = _ from hr.out]; have k1 := (blk_cell (blk_below BK.out hb1) 1).trans rfl; have HB1 := Aside0.mk (below_then HB.out (by simp) hb1); have HY1 := Aside0.mk (Kd.C_below HY.out hb1); clear hb1)
        | (go_at_call 119; refine (szWriteS_c _ _ ws _ _ HY1.out hl1.1 hl1.2).mono ?_; rintro e wb ⟨rfl, hb1⟩; rw [show szR (ws.length + cntL cnV ws) _ = _ from hr2.out]; have HB2 := Aside0.mk (below_then HB1.out HB1.out.size hb1); clear hb1))
      go_ret
      exact ⟨by rw [HS.out]; rfl, HB2.out⟩
    · have hr2 := Aside0.mk (szR_no hc)
      have HS : Aside0 (szR (costD bs ws) left = -1) := ⟨by unfold costD; rw [szR_no (by omega)]⟩
      clear ha hc
      go_enter Try.func50, Try.ntmps50
      go_wp2_with (first
        | (go_at_call 118; refine (szByteSS_c _ _ bs left _ HX.out h0 h1).mono ?_; rintro e wa ⟨rfl, hb1⟩; rw [show szR (bs.length + cntL cnB bs) left = _ from hr.out]; have k1 := (blk_cell (blk_below BK.out hb1) 1).trans rfl; have HB1 := Aside0.mk (below_then HB.out (by simp) hb1); have HY1 := Aside0.mk (Kd.C_below HY.out hb1); clear hb1)
        | (go_at_call 119; refine (szWriteS_c _ _ ws _ _ HY1.out hl1.1 hl1.2).mono ?_; rintro e wb ⟨rfl, hb1⟩; rw [show szR (ws.length + cntL cnV ws) _ = _ from hr2.out]; have HB2 := Aside0.mk (below_then HB1.out HB1.out.size hb1); clear hb1))
      go_ret
      exact ⟨by rw [HS.out]; rfl, HB2.out⟩
  · have hr := Aside0.mk (szR_no ha)
    have HS : Aside0 (szR (costD bs ws) left = -1) := ⟨by unfold costD; rw [szR_no (by omega)]⟩
    clear ha
    go_enter Try.func50, Try.ntmps50
    go_wp2_with (go_at_call 118; refine (szByteSS_c _ _ bs left _ HX.out h0 h1).mono ?_; rintro e wa ⟨rfl, hb1⟩; rw [show szR (bs.length + cntL cnB bs) left = _ from hr.out]; have HB1 := Aside0.mk (below_then HB.out (by simp) hb1); clear hb1)
    go_ret
    exact ⟨by rw [HS.out]; rfl, HB1.out⟩
end Go.Proofs.Ytocdlibnmlcokaa
namespace Go.Proofs.Ytocdlibnmlcokaa
open Go.RowKit Go.Proofs.YtocdlibnmlcokaaW.PrintWords Go.Proofs.YtocdlibnmlcokaaW.PrintLast
set_option linter.unusedVariables false
set_option linter.unusedSimpArgs false
theorem eqT {a b : Int} (h : a = b) : (a == b) = true ∧ (a != b) = false := by simp [h]
theorem eqF {a b : Int} (h : ¬ a = b) : (a == b) = false ∧ (a != b) = true := by simp [h]
def DkOk (bs : List (List Int)) (ws : List Wr) : Prop := bs.length = 128 ∧ ws.length ≤ 200 ∧ (∀ b ∈ bs, b.length = 64) ∧ ∀ x ∈ ws, 0 ≤ x.block ∧ x.block < 128 ∧ x.bytes.length = 64
def YesNo (b : Bool) (w : World) (e : Ending) (w' : World) : Prop := e = .returned (.bool b) ∧ Below w.heap.size w w'
theorem not_b {b : Bool} {p : Prop} (hb : b = true ↔ p) (h : ¬ p) : b = false := by cases b; rfl; exact absurd (hb.1 rfl) h
set_option maxRecDepth 100000 in
theorem l1in_c (x a b : Int) (w : World) : Calls Try.prog 120 #[.int .i64 x, .int .i64 a, .int .i64 b] w fun e w' => e = .returned (.bool (decide (a ≤ x) && decide (x ≤ b))) ∧ w' = w := by
  by_cases h : a ≤ x
  · have h1 : decide (a ≤ x) = true := decide_eq_true h
    by_cases h2 : x ≤ b
    · have h3 : decide (x ≤ b) = true := decide_eq_true h2
      rw [h1, h3]
      go_enter Try.func120, Try.ntmps120
      go_wp2
      go_ret
      exact ⟨rfl, rfl⟩
    · have h3 : decide (x ≤ b) = false := decide_eq_false h2
      rw [h1, h3]
      go_enter Try.func120, Try.ntmps120
      go_wp2
      go_ret
      exact ⟨rfl, rfl⟩
  · have h1 : decide (a ≤ x) = false := decide_eq_false h
    rw [h1]
    go_enter Try.func120, Try.ntmps120
    go_wp2
    go_ret
    exact ⟨rfl, rfl⟩
set_option maxRecDepth 100000 in
set_option maxHeartbeats 2000000 in
theorem implDiskOk_c (A0 A1 : Option Addr) (c0 c1 : Nat) (bs : List (List Int)) (ws : List Wr) (b : Bool) (hb : b = true ↔ DkOk bs ws) (w : World) (hx : rBS.d.C w A0 bs.length bs) (hy : rW.d.C w A1 ws.length ws) :
    Calls Try.prog 108 #[.agg #[.slice A0 bs.length c0, .slice A1 ws.length c1]] w (YesNo b w) := by
  have hb0 := below_alloc (Below.refl w.heap.size w) (.cells #[.slice A0 bs.length c0, .slice A1 ws.length c1] 43)
  have hbk := blk_new w (.cells #[.slice A0 bs.length c0, .slice A1 ws.length c1] 43)
  have hl0 : bs.length ≤ 9223372036854775807 := hx.2.1
  have hl1 : ws.length ≤ 9223372036854775807 := hy.2.1
  have HX := Aside0.mk hx; have HY := Aside0.mk hy; have HBB := Aside0.mk hb; have HB0 := Aside0.mk hb0; have HBK := Aside0.mk hbk; clear hx hy hb hb0 hbk
  by_cases h1 : (bs.length : Int) = 128
  · by_cases h2 : (ws.length : Int) ≤ 200
    · have b1 := eqT h1
      have H1 := Aside0.mk h1; clear h1
      go_enter Try.func108, Try.ntmps108
      go_wp2
      generalize World.alloc w _ = w1 at HB0 HBK ⊢
      clear b1
      go_loopg [20] bs.length (fun m vi wr => ∃ i : Int, vi = .int .i64 i ∧ Aside0 (0 ≤ i ∧ i ≤ bs.length ∧ bs.length - i.toNat ≤ m ∧ ∀ x ∈ bs.take i.toNat, x.length = 64) ∧ Aside0 (wr.heap[w.heap.size]? = some (.cells #[.slice A0 bs.length c0, .slice A1 ws.length c1] 43 (0, 0))) ∧ Aside0 (Below w.heap.size w wr))
      case atStart => exact ⟨0, rfl, ⟨by simp⟩, HBK, HB0⟩
      case round =>
        clear HB0 HBK
        obtain ⟨i, rfl, HI, BK, HB⟩ := hrel
        by_cases hlt : i < (bs.length : Int)
        · have hi0 : 0 ≤ i := HI.out.1
          obtain ⟨ad, E0, d0, hA, k1, _, _⟩ := at_BS (Kd.C_below HX.out HB.out) i hi0 hlt
          cases hA
          have hg := gBS_eq (xs := bs) (i := i) (by omega)
          by_cases he : ((gBS bs i).length : Int) = 64
          · have b2 := eqT he
            have hall : ∀ x ∈ bs.take (i + 1).toNat, x.length = 64 := by
              rw [show (i + 1).toNat = i.toNat + 1 by omega, take_snoc_g (by omega)]
              intro x hx
              rcases List.mem_append.1 hx with h | h
              · exact HI.out.2.2.2 x h
              · simp at h; subst h; omega
            have HA := Aside0.mk hall
            clear hall he hg
            go_wp2
            go_roundg (gk - 1)
            case measure => have := HI.out; omega
            case rel => exact ⟨i + 1, rfl, ⟨by have := HI.out; omega, by have := HI.out; omega, by have := HI.out; omega, HA.out⟩, BK, HB⟩
          · have b2 := eqF he
            have hf := not_b HBB.out (fun hd => he (by rw [hg]; have := hd.2.2.1 _ (List.getElem_mem (l := bs) (n := i.toNat) (by omega)); omega))
            subst hf
            clear he hg
            go_wp2
            go_ret
            exact ⟨rfl, HB.out⟩
        · have hall : ∀ x ∈ bs, x.length = 64 := by have h := HI.out.2.2.2; rwa [List.take_of_length_le (by omega)] at h
          have HALL := Aside0.mk hall; clear hall
          have k1 := (blk_cell BK.out 1).trans rfl
          go_wp2
          clear k1
          obtain ⟨wo, hwo⟩ : ∃ wo : World, wo = wr := ⟨_, rfl⟩
          rw [← hwo] at HB BK
          rw [← hwo]
          clear hwo
          go_loopg [31] ws.length (fun m vi wr => ∃ i : Int, vi = .int .i64 i ∧ Aside0 (0 ≤ i ∧ i ≤ ws.length ∧ ws.length - i.toNat ≤ m ∧ ∀ x ∈ ws.take i.toNat, 0 ≤ x.block ∧ x.block < 128 ∧ x.bytes.length = 64) ∧ Aside0 (Below w.heap.size w wr))
          case atStart => exact ⟨0, rfl, ⟨by simp⟩, HB⟩
          case round =>
            clear HB BK
            obtain ⟨i, rfl, HI, HB⟩ := hrel
            by_cases hlt : i < (ws.length : Int)
            · have hi0 : 0 ≤ i := HI.out.1
              obtain ⟨ad, E0, d0, hA, k1, k2, _, _⟩ := at_W (Kd.C_below HY.out HB.out) i hi0 hlt
              cases hA
              have hg := gW_eq (xs := ws) (i := i) (by omega)
              have HB1 := Aside0.mk (below_then HB.out HB.out.size (below_alloc (Below.refl _ wr) (.cells #[.int .i64 (gW ws i).block, .slice E0 (gW ws i).bytes.length d0] 147)))
              have hno : ¬ (0 ≤ (gW ws i).block ∧ (gW ws i).block < 128 ∧ (gW ws i).bytes.length = 64) → b = false := fun hn => not_b HBB.out (fun hd => hn (by rw [hg]; exact hd.2.2.2 _ (List.getElem_mem (l := ws) (n := i.toNat) (by omega))))
              by_cases ha : 0 ≤ (gW ws i).block
              · by_cases hc : (gW ws i).block < 128
                · by_cases hd : ((gW ws i).bytes.length : Int) = 64
                  · have b3 := eqT hd
                    have hall : ∀ x ∈ ws.take (i + 1).toNat, 0 ≤ x.block ∧ x.block < 128 ∧ x.bytes.length = 64 := by
                      rw [show (i + 1).toNat = i.toNat + 1 by omega, take_snoc_w (by omega)]
                      intro x hx
                      rcases List.mem_append.1 hx with h | h
                      · exact HI.out.2.2.2 x h
                      · simp at h; subst h; omega
                    have HA := Aside0.mk hall
                    clear hall hg hno
                    clear hd
                    go_wp2
                    go_roundg (gk - 1)
                    case measure => have := HI.out; omega
                    case rel => exact ⟨i + 1, rfl, ⟨by have := HI.out; omega, by have := HI.out; omega, by have := HI.out; omega, HA.out⟩, HB1⟩
                  · have b3 := eqF hd
                    have hf := hno (by omega)
                    subst hf
                    clear hd hg hno
                    go_wp2
                    go_ret
                    exact ⟨rfl, HB1.out⟩
                · have hf := hno (by omega)
                  subst hf
                  clear hg hno
                  go_wp2
                  go_ret
                  exact ⟨rfl, HB1.out⟩
              · have hf := hno (by omega)
                subst hf
                clear hg hno
                go_wp2
                go_ret
                exact ⟨rfl, HB1.out⟩
            · have hall : ∀ x ∈ ws, 0 ≤ x.block ∧ x.block < 128 ∧ x.bytes.length = 64 := by have h := HI.out.2.2.2; rwa [List.take_of_length_le (by omega)] at h
              have ht : b = true := HBB.out.2 ⟨by have := H1.out; omega, by omega, HALL.out, hall⟩
              subst ht
              go_wp2
              go_ret
              exact ⟨rfl, HB.out⟩
    · have b1 := eqT h1
      have hf := not_b HBB.out (fun hd => h2 (by have := hd.2.1; omega))
      subst hf
      go_enter Try.func108, Try.ntmps108
      go_wp2
      go_ret
      exact ⟨rfl, HB0.out⟩
  · have b1 := eqF h1
    have hf := not_b HBB.out (fun hd => h1 (by have := hd.1; omega))
    subst hf
    go_enter Try.func108, Try.ntmps108
    go_wp2
    go_ret
    exact ⟨rfl, HB0.out⟩
set_option maxRecDepth 100000 in
set_option maxHeartbeats 2000000 in
theorem specDiskOk_c (A0 A1 : Option Addr) (c0 c1 : Nat) (bs : List (List Int)) (ws : List Wr) (b : Bool) (hb : b = true ↔ DkOk bs ws) (w : World) (hx : rBS.d.C w A0 bs.length bs) (hy : rW.d.C w A1 ws.length ws) :
    Calls Try.prog 99 #[.agg #[.slice A0 bs.length c0, .slice A1 ws.length c1]] w (YesNo b w) := by
  have hb0 := below_alloc (Below.refl w.heap.size w) (.cells #[.slice A0 bs.length c0, .slice A1 ws.length c1] 43)
  have hbk := blk_new w (.cells #[.slice A0 bs.length c0, .slice A1 ws.length c1] 43)
  have hl0 : bs.length ≤ 9223372036854775807 := hx.2.1
  have hl1 : ws.length ≤ 9223372036854775807 := hy.2.1
  have HX := Aside0.mk hx; have HY := Aside0.mk hy; have HBB := Aside0.mk hb; have HB0 := Aside0.mk hb0; have HBK := Aside0.mk hbk; clear hx hy hb hb0 hbk
  by_cases h1 : (bs.length : Int) = 128
  · by_cases h2 : (ws.length : Int) ≤ 200
    · have b1 := eqT h1
      have H1 := Aside0.mk h1; clear h1
      go_enter Try.func99, Try.ntmps99
      go_wp2
      generalize World.alloc w _ = w1 at HB0 HBK ⊢
      clear b1
      go_loopg [20] bs.length (fun m vi wr => ∃ i : Int, vi = .int .i64 i ∧ Aside0 (0 ≤ i ∧ i ≤ bs.length ∧ bs.length - i.toNat ≤ m ∧ ∀ x ∈ bs.take i.toNat, x.length = 64) ∧ Aside0 (wr.heap[w.heap.size]? = some (.cells #[.slice A0 bs.length c0, .slice A1 ws.length c1] 43 (0, 0))) ∧ Aside0 (Below w.heap.size w wr))
      case atStart => exact ⟨0, rfl, ⟨by simp⟩, HBK, HB0⟩
      case round =>
        clear HB0 HBK
        obtain ⟨i, rfl, HI, BK, HB⟩ := hrel
        by_cases hlt : i < (bs.length : Int)
        · have hi0 : 0 ≤ i := HI.out.1
          obtain ⟨ad, E0, d0, hA, k1, _, _⟩ := at_BS (Kd.C_below HX.out HB.out) i hi0 hlt
          cases hA
          have hg := gBS_eq (xs := bs) (i := i) (by omega)
          by_cases he : ((gBS bs i).length : Int) = 64
          · have b2 := eqT he
            have hall : ∀ x ∈ bs.take (i + 1).toNat, x.length = 64 := by
              rw [show (i + 1).toNat = i.toNat + 1 by omega, take_snoc_g (by omega)]
              intro x hx
              rcases List.mem_append.1 hx with h | h
              · exact HI.out.2.2.2 x h
              · simp at h; subst h; omega
            have HA := Aside0.mk hall
            clear hall he hg
            go_wp2
            go_roundg (gk - 1)
            case measure => have := HI.out; omega
            case rel => exact ⟨i + 1, rfl, ⟨by have := HI.out; omega, by have := HI.out; omega, by have := HI.out; omega, HA.out⟩, BK, HB⟩
          · have b2 := eqF he
            have hf := not_b HBB.out (fun hd => he (by rw [hg]; have := hd.2.2.1 _ (List.getElem_mem (l := bs) (n := i.toNat) (by omega)); omega))
            subst hf
            clear he hg
            go_wp2
            go_ret
            exact ⟨rfl, HB.out⟩
        · have hall : ∀ x ∈ bs, x.length = 64 := by have h := HI.out.2.2.2; rwa [List.take_of_length_le (by omega)] at h
          have HALL := Aside0.mk hall; clear hall
          have k1 := (blk_cell BK.out 1).trans rfl
          go_wp2
          clear k1
          obtain ⟨wo, hwo⟩ : ∃ wo : World, wo = wr := ⟨_, rfl⟩
          rw [← hwo] at HB BK
          rw [← hwo]
          clear hwo
          go_loopg [31] ws.length (fun m vi wr => ∃ i : Int, vi = .int .i64 i ∧ Aside0 (0 ≤ i ∧ i ≤ ws.length ∧ ws.length - i.toNat ≤ m ∧ ∀ x ∈ ws.take i.toNat, 0 ≤ x.block ∧ x.block < 128 ∧ x.bytes.length = 64) ∧ Aside0 (Below w.heap.size w wr))
          case atStart => exact ⟨0, rfl, ⟨by simp⟩, HB⟩
          case round =>
            clear HB BK
            obtain ⟨i, rfl, HI, HB⟩ := hrel
            by_cases hlt : i < (ws.length : Int)
            · have hi0 : 0 ≤ i := HI.out.1
              obtain ⟨ad, E0, d0, hA, k1, k2, _, _⟩ := at_W (Kd.C_below HY.out HB.out) i hi0 hlt
              cases hA
              have hg := gW_eq (xs := ws) (i := i) (by omega)
              have HB1 := Aside0.mk (below_then HB.out HB.out.size (below_alloc (Below.refl _ wr) (.cells #[.int .i64 (gW ws i).block, .slice E0 (gW ws i).bytes.length d0] 147)))
              have hno : ¬ (0 ≤ (gW ws i).block ∧ (gW ws i).block < 128 ∧ (gW ws i).bytes.length = 64) → b = false := fun hn => not_b HBB.out (fun hd => hn (by rw [hg]; exact hd.2.2.2 _ (List.getElem_mem (l := ws) (n := i.toNat) (by omega))))
              by_cases ha : 0 ≤ (gW ws i).block ∧ (gW ws i).block ≤ 127
              · have hr : (decide (0 ≤ (gW ws i).block) && decide ((gW ws i).block ≤ 127)) = true := by simp; exact ha
                have HR := Aside0.mk hr; clear hr
                by_cases hd : ((gW ws i).bytes.length : Int) = 64
                · have b3 := eqT hd
                  have hall : ∀ x ∈ ws.take (i + 1).toNat, 0 ≤ x.block ∧ x.block < 128 ∧ x.bytes.length = 64 := by
                    rw [show (i + 1).toNat = i.toNat + 1 by omega, take_snoc_w (by omega)]
                    intro x hx
                    rcases List.mem_append.1 hx with h | h
                    · exact HI.out.2.2.2 x h
                    · simp at h; subst h; omega
                  have HA := Aside0.mk hall
                  clear hall hg hno
                  clear hd ha
                  go_wp2_with (go_at_call 120; refine (l1in_c _ 0 127 _).mono ?_; rintro e w1 ⟨rfl, rfl⟩; rw [HR.out])
                  go_roundg (gk - 1)
                  case measure => have := HI.out; omega
                  case rel => exact ⟨i + 1, rfl, ⟨by have := HI.out; omega, by have := HI.out; omega, by have := HI.out; omega, HA.out⟩, HB1⟩
                · have b3 := eqF hd
                  have hf := hno (by omega)
                  subst hf
                  clear hd hg hno ha
                  go_wp2_with (go_at_call 120; refine (l1in_c _ 0 127 _).mono ?_; rintro e w1 ⟨rfl, rfl⟩; rw [HR.out])
                  go_ret
                  exact ⟨rfl, HB1.out⟩
              · have hr : (decide (0 ≤ (gW ws i).block) && decide ((gW ws i).block ≤ 127)) = false := by rw [Bool.and_eq_false_iff]; simp; omega
                have HR := Aside0.mk hr; clear hr
                have hf := hno (by omega)
                subst hf
                clear hg hno ha
                go_wp2_with (go_at_call 120; refine (l1in_c _ 0 127 _).mono ?_; rintro e w1 ⟨rfl, rfl⟩; rw [HR.out])
                go_ret
                exact ⟨rfl, HB1.out⟩
            · have hall : ∀ x ∈ ws, 0 ≤ x.block ∧ x.block < 128 ∧ x.bytes.length = 64 := by have h := HI.out.2.2.2; rwa [List.take_of_length_le (by omega)] at h
              have ht : b = true := HBB.out.2 ⟨by have := H1.out; omega, by omega, HALL.out, hall⟩
              subst ht
              go_wp2
              go_ret
              exact ⟨rfl, HB.out⟩
    · have b1 := eqT h1
      have hf := not_b HBB.out (fun hd => h2 (by have := hd.2.1; omega))
      subst hf
      go_enter Try.func99, Try.ntmps99
      go_wp2
      go_ret
      exact ⟨rfl, HB0.out⟩
  · have b1 := eqF h1
    have hf := not_b HBB.out (fun hd => h1 (by have := hd.1; omega))
    subst hf
    go_enter Try.func99, Try.ntmps99
    go_wp2
    go_ret
    exact ⟨rfl, HB0.out⟩
end Go.Proofs.Ytocdlibnmlcokaa
namespace Go.Proofs.Ytocdlibnmlcokaa
open Go.RowKit Go.Proofs.YtocdlibnmlcokaaW.PrintWords Go.Proofs.YtocdlibnmlcokaaW.PrintLast
set_option linter.unusedVariables false
set_option linter.unusedSimpArgs false
def fillTo {α : Type} (z : α) (xs : List α) (i : Nat) : List α := xs.take i ++ List.replicate (xs.length - i) z
theorem fillTo_len {α : Type} (z : α) (xs : List α) (i : Nat) (h : i ≤ xs.length) : (fillTo z xs i).length = xs.length := by
  simp only [fillTo, List.length_append, List.length_take, List.length_replicate]; omega
theorem fillTo_zero {α : Type} (z : α) (xs : List α) : fillTo z xs 0 = List.replicate xs.length z := by simp [fillTo]
theorem fillTo_end {α : Type} (z : α) (xs : List α) {i : Nat} (h : xs.length ≤ i) : fillTo z xs i = xs := by
  simp [fillTo, List.take_of_length_le h, Nat.sub_eq_zero_of_le h]
theorem fillTo_succ {α : Type} (z : α) (xs : List α) {i : Nat} (h : i < xs.length) : (fillTo z xs i).set i xs[i] = fillTo z xs (i + 1) := by
  have hl : (xs.take i).length = i := by rw [List.length_take]; omega
  unfold fillTo
  rw [List.set_append, hl, if_neg (by omega), Nat.sub_self, show xs.length - i = (xs.length - (i + 1)) + 1 by omega, List.replicate_succ, List.set_cons_zero, List.take_succ_eq_append_getElem h, List.append_assoc]
  rfl
def GotRow {α : Type} (r : Rp α) (e : Nat) (w : World) (xs : List α) (en : Ending) (w' : World) : Prop :=
  ∃ v, en = .returned v ∧ Rp.Got r e w.heap.size w' v xs ∧ Below w.heap.size w w'
set_option maxRecDepth 100000 in
set_option maxHeartbeats 1000000 in
theorem toByteS_c (A : Option Addr) (c : Nat) (xs : List Int) (w : World) (hx : kB.C w A xs.length xs) (hm : xs.length ≤ 10000000) :
    Calls Try.prog 53 #[.slice A xs.length c] w (GotRow rB 5 w xs) := by
  have HX := Aside0.mk hx; have HM := Aside0.mk hm; clear hx
  go_enter Try.func53, Try.ntmps53
  go_wp2_with ((with_reducible refine gate_dst (N := 7) rfl ?_); refine Rp.mk_row rB rfl (N := 7) rfl 22 5 _ _ rfl (xs.length : Int) rfl rfl Try.underlying22 (.int .u8 0) 1 info5 rfl (by decide) (by omega) 0 (fun _ => ⟨rfl, rfl⟩) (by omega) (by have := HM.out; omega) ?_; intro g w1 hg hr hb; have HG := Aside0.mk hg; have HR := Aside0.mk hr; have HB := Aside0.mk hb; clear hg hr hb)
  have hr0 := HR.out
  simp only [Int.toNat_natCast] at hr0
  rw [← fillTo_zero] at hr0
  replace HR := Aside0.mk hr0; clear hr0
  go_loopg [4] xs.length (fun m vi wr => ∃ i : Int, vi = .int .i64 i ∧ Aside0 (0 ≤ i ∧ i ≤ xs.length ∧ xs.length - i.toNat ≤ m) ∧ Aside0 (rB.Row 5 wr (.slice (some ⟨g, 0, none⟩) xs.length xs.length) (fillTo 0 xs i.toNat) [g]) ∧ Aside0 (Below w.heap.size w wr))
  case atStart => exact ⟨0, rfl, ⟨by simp⟩, HR, HB⟩
  case round =>
    clear HR HB
    obtain ⟨i, rfl, HI, HO, HB⟩ := hrel
    by_cases hlt : i < (xs.length : Int)
    · have hi0 : 0 ≤ i := HI.out.1
      obtain ⟨ad, hA, c1⟩ := Kd.at_int (Kd.C_below HX.out HB.out) i hi0 hlt
      cases hA
      obtain ⟨cs, f, hP, _, _, hg, hcell, hfr, _, hst⟩ := Rp.Row_elem HO.out (by simp) i.toNat (by rw [fillTo_len _ _ _ (by omega)]; omega)
      obtain ⟨hcs, hf⟩ := hP
      subst hcs; subst hf
      have e0 : i.toNat * rB.d.sz + 0 = i.toNat := Nat.mul_one _
      have c2 := hcell 0 _ rfl
      rw [e0] at c2
      have z1 := hfr i.toNat
      clear hcell hfr
      obtain ⟨fp', hr', _, _, he⟩ := hst 0 (.int .u8 (rd xs i)) (rd xs i) [] (by decide) ⟨rfl, rfl⟩ (by simp) (by simp) (.inl rfl)
      have he := he rfl
      subst he
      rw [e0, rd_eq (by omega), fillTo_succ _ _ (by omega), ← rd_eq (by omega)] at hr'
      have HO' := Aside0.mk hr'
      have hb' := HB.out.setCell (p := ⟨g, i.toNat, none⟩) (by rw [HG.out]; exact Nat.le_refl _) (.int .u8 (rd xs i))
      have HB' := Aside0.mk hb'
      clear hst hr' e0 hg hb'
      go_wp2
      go_roundg (gk - 1)
      case measure => have := HI.out; omega
      case rel => exact ⟨i + 1, rfl, ⟨by have := HI.out; omega, by have := HI.out; omega, by have := HI.out; omega⟩, by rw [show (i + 1).toNat = i.toNat + 1 by omega]; exact HO', HB'⟩
    · have e1 := fillTo_end 0 xs (i := i.toNat) (by have := HI.out; omega)
      replace HO := HO.out; rw [e1] at HO
      have HO := Aside0.mk HO
      clear e1
      go_wp2
      go_ret
      exact ⟨_, rfl, ⟨[g], HO.out, by simp, fun b hb => by simp at hb; have := HG.out; omega⟩, HB.out⟩
set_option maxRecDepth 100000 in
set_option maxHeartbeats 1000000 in
theorem toByteSS_c (A : Option Addr) (c : Nat) (xs : List (List Int)) (w : World) (hx : rBS.d.C w A xs.length xs) (hm : xs.length ≤ 10000000) (hm2 : ∀ x ∈ xs, x.length ≤ 10000000) :
    Calls Try.prog 122 #[.slice A xs.length c] w (GotRow rBS 22 w xs) := by
  have HX := Aside0.mk hx; have HM := Aside0.mk hm; have HM2 := Aside0.mk hm2; clear hx hm2
  go_enter Try.func122, Try.ntmps122
  go_wp2_with ((with_reducible refine gate_dst (N := 7) rfl ?_); refine Rp.mk_row rBS rfl (N := 7) rfl 40 22 _ _ rfl (xs.length : Int) rfl rfl Try.underlying40 (.slice none 0 0) 24 info22 rfl (by decide) (by omega) [] (fun w => ⟨_, rfl, Rp.Row_nil rB 5 w⟩) (by omega) (by have := HM.out; omega) ?_; intro g w1 hg hr hb; have HG := Aside0.mk hg; have HR := Aside0.mk hr; have HB := Aside0.mk hb; clear hg hr hb)
  have hr0 := HR.out
  simp only [Int.toNat_natCast] at hr0
  rw [← fillTo_zero] at hr0
  replace HR := Aside0.mk hr0; clear hr0
  go_loopg [4] xs.length (fun m vi wr => ∃ (i : Int) (fp : List Nat), vi = .int .i64 i ∧ Aside0 (0 ≤ i ∧ i ≤ xs.length ∧ xs.length - i.toNat ≤ m) ∧ Aside0 (rBS.Row 22 wr (.slice (some ⟨g, 0, none⟩) xs.length xs.length) (fillTo [] xs i.toNat) fp) ∧ Aside0 (fp.Nodup ∧ ∀ b ∈ fp, w.heap.size ≤ b) ∧ Aside0 (Below w.heap.size w wr))
  case atStart => exact ⟨0, [g], rfl, ⟨by simp⟩, HR, ⟨by simp, fun b hb => by simp at hb; have := HG.out; omega⟩, HB⟩
  case round =>
    clear HR HB
    obtain ⟨i, fp, rfl, HI, HO, HF, HB⟩ := hrel
    by_cases hlt : i < (xs.length : Int)
    · have hi0 : 0 ≤ i := HI.out.1
      obtain ⟨ad, A0, c0, hA, c1, _, hC⟩ := at_BS (Kd.C_below HX.out HB.out) i hi0 hlt
      cases hA
      have HC := Aside0.mk hC; clear hC
      have HLi : Aside0 ((gBS xs i).length ≤ 10000000) := ⟨by rw [gBS_eq (by omega)]; exact HM2.out _ (List.getElem_mem _)⟩
      go_wp2_with fail
      refine (toByteS_c _ _ (gBS xs i) _ HC.out HLi.out).mono ?_
      rintro e wa ⟨va, rfl, ⟨fa, hra, hna, hfa⟩, hba⟩
      obtain ⟨Aa, ca, rfl, _, _⟩ := Rp.Row_reads hra
      have HOa := Rp.Row_below HO.out hba
      have hltf := Rp.Row_lt HO.out
      obtain ⟨cs, f, hP, _, hff, hg, hcell, hfr, _, hst⟩ := Rp.Row_elem HOa HF.out.1 i.toNat (by rw [fillTo_len _ _ _ (by omega)]; omega)
      obtain ⟨v, rfl, _⟩ := hP
      have e0 : i.toNat * rBS.d.sz + 0 = i.toNat := Nat.mul_one _
      have c2 := hcell 0 _ rfl
      rw [e0] at c2
      have z1 := hfr i.toNat
      have hnot : ∀ b ∈ fa, b ∉ fp := fun b hb hm => by have := hfa b hb; have := hltf b hm; omega
      have hgw : w.heap.size ≤ g := HF.out.2 g hg
      have hga : g ∉ fa := fun h => hnot g h hg
      obtain ⟨fp', hr', hn', hf', _⟩ := hst 0 (.slice Aa (gBS xs i).length ca) (gBS xs i) fa (by decide) ⟨_, rfl, Rp.Row_far hra (p := ⟨g, i.toNat * rBS.d.sz + 0, none⟩) hga _⟩ hna (fun b hb => .inr (hnot b hb)) (.inr hnot)
      rw [e0] at hr'
      have hset : (fillTo [] xs i.toNat).set i.toNat (gBS xs i) = fillTo [] xs (i + 1).toNat := by rw [gBS_eq (by omega), fillTo_succ _ _ (by omega), show (i + 1).toNat = i.toNat + 1 by omega]
      rw [hset] at hr'
      have HO' := Aside0.mk hr'
      have HB' := Aside0.mk ((below_then HB.out HB.out.size hba).setCell (p := ⟨g, i.toNat, none⟩) hgw (.slice Aa (gBS xs i).length ca))
      have HF' : Aside0 (fp'.Nodup ∧ ∀ b ∈ fp', w.heap.size ≤ b) := ⟨hn', fun b hb => by
        rcases hf' b hb with h | h
        · exact HF.out.2 b h
        · have := hfa b h; have := HB.out.size; omega⟩
      clear hst hr' e0 hg hra hba hfa hna HOa hnot hgw hga hn' hf' hset hff hcell hfr hltf
      go_wp2
      go_roundg (gk - 1)
      case measure => have := HI.out; omega
      case rel => exact ⟨i + 1, fp', rfl, ⟨by have := HI.out; omega, by have := HI.out; omega, by have := HI.out; omega⟩, HO', HF', HB'⟩
    · have e1 := fillTo_end [] xs (i := i.toNat) (by have := HI.out; omega)
      replace HO := HO.out; rw [e1] at HO
      have HO := Aside0.mk HO
      clear e1
      go_wp2
      go_ret
      exact ⟨_, rfl, ⟨fp, HO.out, HF.out.1, HF.out.2⟩, HB.out⟩
def GotWr (w : World) (x : Wr) (e : Ending) (w' : World) : Prop :=
  ∃ v, e = .returned (.agg #[.int .i64 x.block, v]) ∧ Rp.Got rB 5 w.heap.size w' v x.bytes ∧ Below w.heap.size w w'
set_option maxRecDepth 100000 in
set_option maxHeartbeats 1000000 in
theorem toWrite_c (A : Option Addr) (c : Nat) (b : Int) (xs : List Int) (w : World) (hx : kB.C w A xs.length xs) (hm : xs.length ≤ 10000000) :
    Calls Try.prog 153 #[.agg #[.int .i64 b, .slice A xs.length c]] w (GotWr w ⟨b, xs⟩) := by
  have HX := Aside0.mk hx; have HM := Aside0.mk hm; clear hx
  go_enter Try.func153, Try.ntmps153
  go_wp2_with fail
  generalize hw1 : World.alloc (World.alloc (World.alloc w _) _) _ = w1
  obtain ⟨K1, K2, K3, hB, hs⟩ := alloc3 hw1
  clear hw1
  refine (toByteS_c _ _ xs _ (Kd.C_below HX.out hB) HM.out).mono ?_
  rintro e wa ⟨va, rfl, ⟨fa, hra, hna, hfa⟩, hba⟩
  obtain ⟨Aa, ca, rfl, _, _⟩ := Rp.Row_reads hra
  have K1 := blk_below K1 hba; have K2 := blk_below K2 hba; have K3 := blk_below K3 hba
  have n2 := Rp.Row_not hra K2 (by decide); have n3 := Rp.Row_not hra K3 (by decide)
  obtain ⟨J3, q3⟩ := set1 K3 1 (.slice Aa xs.length ca)
  have J2 := q3.blk K2 (by simp)
  obtain ⟨I2, q2⟩ := set2 J2 (.int .i64 b) (.slice Aa xs.length ca)
  have hr := q2.row (q3.row hra (fun x hx hm => n3 (by simp at hm; exact hm ▸ hx))) (fun x hx hm => n2 (by simp at hm; exact hm ▸ hx))
  have hb := q2.toBelow (q3.toBelow (below_then hB hB.size hba) (Nat.le_trans hB.size hba.size) (fun x hx => by simp at hx; omega)) (Nat.le_trans hB.size (Nat.le_trans hba.size q3.size)) (fun x hx => by simp at hx; omega)
  have c1 := (blk_cell K3 1).trans rfl; have z1 := blk_frozen K3 1
  have c2 := (blk_cell J3 0).trans rfl; have c3 := (blk_cell J3 1).trans rfl
  have d2 := (blk_cell J2 0).trans rfl; have d3 := (blk_cell J2 1).trans rfl
  have y2 := blk_frozen J2 0; have y3 := blk_frozen J2 1
  have HR := Aside0.mk hr; have HB := Aside0.mk hb; have II := Aside0.mk I2; have HN := Aside0.mk hna; have HF := Aside0.mk hfa; have HS := Aside0.mk hs; have hsz := Aside0.mk hB.size
  clear hr hb I2 hna hfa K1 K2 K3 n2 n3 J3 q3 J2 q2 hra hba hB hs
  go_wp2
  refine bodyPost_ret (results_cell_row rfl _ _ (w.heap.size + 1) 147 #[.int .i64 b, .slice Aa xs.length ca] (0, 0) _ rfl II.out Try.underlying147 rfl (by kernel_rfl)) rfl ?_
  exact ⟨_, rfl, ⟨fa, HR.out, HN.out, fun x hx => by have := HF.out x hx; have := HS.out; omega⟩, HB.out⟩
def zW : Wr := ⟨0, []⟩
set_option maxRecDepth 100000 in
set_option maxHeartbeats 1000000 in
theorem toWriteS_c (A : Option Addr) (c : Nat) (xs : List Wr) (w : World) (hx : rW.d.C w A xs.length xs) (hm : xs.length ≤ 10000000) (hm2 : ∀ x ∈ xs, x.bytes.length ≤ 10000000) :
    Calls Try.prog 123 #[.slice A xs.length c] w (GotRow rW 147 w xs) := by
  have HX := Aside0.mk hx; have HM := Aside0.mk hm; have HM2 := Aside0.mk hm2; clear hx hm2
  go_enter Try.func123, Try.ntmps123
  go_wp2_with ((with_reducible refine gate_dst (N := 7) rfl ?_); refine Rp.mk_row rW rfl (N := 7) rfl 41 147 _ _ rfl (xs.length : Int) rfl rfl Try.underlying41 (.agg #[(.int .i64 0), (.slice none 0 0)]) 32 info147 rfl (by decide) (by omega) zW (fun w => W_mk zW (Rp.Row_nil rB 5 w)) (by omega) (by have := HM.out; omega) ?_; intro g w1 hg hr hb; have HG := Aside0.mk hg; have HR := Aside0.mk hr; have HB := Aside0.mk hb; clear hg hr hb)
  have hr0 := HR.out
  simp only [Int.toNat_natCast] at hr0
  rw [← fillTo_zero] at hr0
  replace HR := Aside0.mk hr0; clear hr0
  go_loopg [4] xs.length (fun m vi wr => ∃ (i : Int) (fp : List Nat), vi = .int .i64 i ∧ Aside0 (0 ≤ i ∧ i ≤ xs.length ∧ xs.length - i.toNat ≤ m) ∧ Aside0 (rW.Row 147 wr (.slice (some ⟨g, 0, none⟩) xs.length xs.length) (fillTo zW xs i.toNat) fp) ∧ Aside0 (fp.Nodup ∧ ∀ b ∈ fp, w.heap.size ≤ b) ∧ Aside0 (Below w.heap.size w wr))
  case atStart => exact ⟨0, [g], rfl, ⟨by simp⟩, HR, ⟨by simp, fun b hb => by simp at hb; have := HG.out; omega⟩, HB⟩
  case round =>
    clear HR HB
    obtain ⟨i, fp, rfl, HI, HO, HF, HB⟩ := hrel
    by_cases hlt : i < (xs.length : Int)
    · have hi0 : 0 ≤ i := HI.out.1
      obtain ⟨ad, A0, c0, hA, c1, c1', _, hC⟩ := at_W (Kd.C_below HX.out HB.out) i hi0 hlt
      cases hA
      have HC := Aside0.mk hC; clear hC
      have HLi : Aside0 ((gW xs i).bytes.length ≤ 10000000) := ⟨by rw [gW_eq (by omega)]; exact HM2.out _ (List.getElem_mem _)⟩
      go_wp2_with fail
      refine (toWrite_c _ _ (gW xs i).block (gW xs i).bytes _ HC.out HLi.out).mono ?_
      rintro e wa ⟨va, rfl, ⟨fa, hra, hna, hfa⟩, hba⟩
      obtain ⟨Aa, ca, rfl, _, _⟩ := Rp.Row_reads hra
      have HOa := Rp.Row_below HO.out hba
      have hltf := Rp.Row_lt HO.out
      have hnot : ∀ b ∈ fa, b ∉ fp := fun b hb hm => by have := hfa b hb; have := hltf b hm; omega
      obtain ⟨cs, f, hP, hnf, hff, hg, hcell, hfr, _, hst⟩ := Rp.Row_elem HOa HF.out.1 i.toNat (by rw [fillTo_len _ _ _ (by omega)]; omega)
      generalize (fillTo zW xs i.toNat)[i.toNat]'_ = ye at hP
      obtain ⟨v, rfl, hv⟩ := W_open hP
      have hgw : w.heap.size ≤ g := HF.out.2 g hg
      have hga : g ∉ fa := fun h => hnot g h hg
      have c2 : wa.cell? ⟨g, i.toNat * 2, none⟩ = _ := hcell 0 _ rfl
      have c3 : wa.cell? ⟨g, i.toNat * 2 + 1, none⟩ = _ := hcell 1 _ rfl
      have z1 := hfr (i.toNat * 2)
      have z2 := hfr (i.toNat * 2 + 1)
      obtain ⟨fp1, hr1, hn1, hf1, he1⟩ := hst 0 (.int .i64 (gW xs i).block) ⟨(gW xs i).block, ye.bytes⟩ f (by decide) (W_mk ⟨(gW xs i).block, ye.bytes⟩ (Rp.Row_far hv (p := ⟨g, i.toNat * rW.d.sz + 0, none⟩) (fun h => (hff g h).2 rfl) _)) hnf (fun b hb => .inl hb) (.inl rfl)
      have he1 := he1 rfl
      subst he1
      clear hst hcell hfr
      have hra1 := Rp.Row_far hra (p := ⟨g, i.toNat * 2, none⟩) hga (.int .i64 (gW xs i).block)
      obtain ⟨cs, f2, hP2, _, _, _, _, _, _, hst⟩ := Rp.Row_elem hr1 HF.out.1 i.toNat (by rw [List.length_set, fillTo_len _ _ _ (by omega)]; omega)
      rw [List.getElem_set_self] at hP2
      obtain ⟨v2, rfl, hv2⟩ := W_open hP2
      obtain ⟨fp', hr', hn', hf', _⟩ := hst 1 (.slice Aa (gW xs i).bytes.length ca) (gW xs i) fa (by decide) (W_mk (gW xs i) (Rp.Row_far hra1 (p := ⟨g, i.toNat * rW.d.sz + 1, none⟩) hga _)) hna (fun b hb => .inr (hnot b hb)) (.inr hnot)
      have hset : ((fillTo zW xs i.toNat).set i.toNat ⟨(gW xs i).block, ye.bytes⟩).set i.toNat (gW xs i) = fillTo zW xs (i + 1).toNat := by rw [List.set_set, gW_eq (by omega), fillTo_succ _ _ (by omega), show (i + 1).toNat = i.toNat + 1 by omega]
      have hr' : rW.Row 147 ((wa.setCell ⟨g, i.toNat * 2, none⟩ (.int .i64 (gW xs i).block)).setCell ⟨g, i.toNat * 2 + 1, none⟩ (.slice Aa (gW xs i).bytes.length ca)) (.slice (some ⟨g, 0, none⟩) xs.length xs.length) _ fp' := hr'
      rw [hset] at hr'
      have HO' := Aside0.mk hr'
      have HB' := Aside0.mk (((below_then HB.out HB.out.size hba).setCell (p := ⟨g, i.toNat * 2, none⟩) hgw (.int .i64 (gW xs i).block)).setCell (p := ⟨g, i.toNat * 2 + 1, none⟩) hgw (.slice Aa (gW xs i).bytes.length ca))
      have HF' : Aside0 (fp'.Nodup ∧ ∀ b ∈ fp', w.heap.size ≤ b) := ⟨hn', fun b hb => by
        rcases hf' b hb with h | h
        · exact HF.out.2 b h
        · have := hfa b h; have := HB.out.size; omega⟩
      clear hst hr' hr1 hra1 hP hP2 hv hv2 hn1 hf1 hg hra hba hfa hna HOa hnot hgw hga hn' hf' hset hff hltf
      go_wp2
      go_roundg (gk - 1)
      case measure => have := HI.out; omega
      case rel => exact ⟨i + 1, fp', rfl, ⟨by have := HI.out; omega, by have := HI.out; omega, by have := HI.out; omega⟩, HO', HF', HB'⟩
    · have e1 := fillTo_end zW xs (i := i.toNat) (by have := HI.out; omega)
      replace HO := HO.out; rw [e1] at HO
      have HO := Aside0.mk HO
      clear e1
      go_wp2
      go_ret
      exact ⟨_, rfl, ⟨fp, HO.out, HF.out.1, HF.out.2⟩, HB.out⟩
set_option maxRecDepth 100000 in
set_option maxHeartbeats 1000000 in
theorem toDisk_c (A0 A1 : Option Addr) (c0 c1 : Nat) (bs : List (List Int)) (ws : List Wr) (w : World) (hx : rBS.d.C w A0 bs.length bs) (hy : rW.d.C w A1 ws.length ws) (hm0 : bs.length ≤ 10000000) (hm1 : ws.length ≤ 10000000) (hm2 : ∀ x ∈ bs, x.length ≤ 10000000) (hm3 : ∀ x ∈ ws, x.bytes.length ≤ 10000000) :
    Calls Try.prog 52 #[.agg #[.slice A0 bs.length c0, .slice A1 ws.length c1]] w (GotDisk w bs ws) := by
  have HX := Aside0.mk hx; have HY := Aside0.mk hy; have HM0 := Aside0.mk hm0; have HM1 := Aside0.mk hm1; have HM2 := Aside0.mk hm2; have HM3 := Aside0.mk hm3; clear hx hy hm2 hm3
  go_enter Try.func52, Try.ntmps52
  go_wp2_with fail
  generalize hw1 : World.alloc (World.alloc (World.alloc w _) _) _ = w1
  obtain ⟨K1, K2, K3, hB, hs⟩ := alloc3 hw1
  clear hw1
  refine (toByteSS_c _ _ bs _ (Kd.C_below HX.out hB) HM0.out HM2.out).mono ?_
  rintro e wa ⟨va, rfl, ⟨fa, hra, hna, hfa⟩, hba⟩
  obtain ⟨Aa, ca, rfl, _, _⟩ := Rp.Row_reads hra
  have K1 := blk_below K1 hba; have K2 := blk_below K2 hba; have K3 := blk_below K3 hba
  have n3 := Rp.Row_not hra K3 (by decide)
  obtain ⟨J3, q3⟩ := set1 K3 0 (.slice Aa bs.length ca)
  have J2 := q3.blk K2 (by simp)
  have J1 := q3.blk K1 (by simp; omega)
  have hr := q3.row hra (fun x hx hm => n3 (by simp at hm; exact hm ▸ hx))
  have hb := q3.toBelow (below_then hB hB.size hba) (Nat.le_trans hB.size hba.size) (fun x hx => by simp at hx; omega)
  have c1 := (blk_cell K3 0).trans rfl; have z1 := blk_frozen K3 0
  have k1 := (blk_cell J1 1).trans rfl
  have HR := Aside0.mk hr; have HB := Aside0.mk hb; have HN := Aside0.mk hna; have HF := Aside0.mk hfa; have HS := Aside0.mk hs; have J1 := Aside0.mk J1; have J2 := Aside0.mk J2; have J3 := Aside0.mk J3
  clear hr hb hna hfa K1 K2 K3 n3 q3 hra hba hB hs
  go_wp2_with fail
  clear c1 z1 k1
  generalize wa.setCell _ _ = wb at HR HB J1 J2 J3 ⊢
  refine (toWriteS_c _ _ ws _ (Kd.C_below HY.out HB.out) HM1.out HM3.out).mono ?_
  rintro e wc ⟨vc, rfl, ⟨fc, hrc, hnc, hfc⟩, hbc⟩
  obtain ⟨Ac, cc, rfl, _, _⟩ := Rp.Row_reads hrc
  have K2 := blk_below J2.out hbc; have K3 := blk_below J3.out hbc
  have hra := Rp.Row_below HR.out hbc
  have n2 := Rp.Row_not hrc K2 (by decide); have n3 := Rp.Row_not hrc K3 (by decide)
  have m2 := Rp.Row_not hra K2 (by decide); have m3 := Rp.Row_not hra K3 (by decide)
  obtain ⟨L3, q3⟩ := set1 K3 1 (.slice Ac ws.length cc)
  have L2 := q3.blk K2 (by simp)
  obtain ⟨M2, q2⟩ := set2 L2 (.slice Aa bs.length ca) (.slice Ac ws.length cc)
  have r1 := q2.row (q3.row hrc (fun x hx hm => n3 (by simp at hm; exact hm ▸ hx))) (fun x hx hm => n2 (by simp at hm; exact hm ▸ hx))
  have r0 := q2.row (q3.row hra (fun x hx hm => m3 (by simp at hm; exact hm ▸ hx))) (fun x hx hm => m2 (by simp at hm; exact hm ▸ hx))
  have hb := q2.toBelow (q3.toBelow (below_then HB.out HB.out.size hbc) (Nat.le_trans HB.out.size hbc.size) (fun x hx => by simp at hx; omega)) (Nat.le_trans HB.out.size (Nat.le_trans hbc.size q3.size)) (fun x hx => by simp at hx; omega)
  have c1 := (blk_cell K3 1).trans rfl; have z1 := blk_frozen K3 1
  have c2 := (blk_cell L3 0).trans rfl; have c3 := (blk_cell L3 1).trans rfl
  have d2 := (blk_cell L2 0).trans rfl; have d3 := (blk_cell L2 1).trans rfl
  have y2 := blk_frozen L2 0; have y3 := blk_frozen L2 1
  have hlt := Rp.Row_lt HR.out
  have hnd : (fa ++ fc).Nodup := Rp.nodup_new HN.out hnc hlt hfc
  have hge : ∀ b ∈ fa ++ fc, w.heap.size ≤ b := fun b hb => by
    rcases List.mem_append.1 hb with h | h
    · have := HF.out b h; have := HS.out; omega
    · have := hfc b h; have := HB.out.size; omega
  have R0 := Aside0.mk r0; have R1 := Aside0.mk r1; have HB := Aside0.mk hb; have MM := Aside0.mk M2; have HN := Aside0.mk hnd; have HF := Aside0.mk hge
  clear r0 r1 hb M2 hnd hge K2 K3 n2 n3 m2 m3 L3 q3 L2 q2 hra hrc hbc hnc hfc hlt
  go_wp2
  refine bodyPost_ret (results_cell_row rfl _ _ (w.heap.size + 1) 43 #[.slice Aa bs.length ca, .slice Ac ws.length cc] (0, 0) _ rfl MM.out Try.underlying43 rfl (by kernel_rfl)) rfl ?_
  exact ⟨_, _, fa, fc, rfl, R0.out, R1.out, HN.out, HF.out, HB.out⟩
end Go.Proofs.Ytocdlibnmlcokaa
namespace Go.Proofs.Ytocdlibnmlcokaa
open Go.RowKit Go.Proofs.YtocdlibnmlcokaaW.PrintWords Go.Proofs.YtocdlibnmlcokaaW.PrintLast
set_option linter.unusedVariables false
set_option linter.unusedSimpArgs false
def PgOk (ok : Bool) (gen : Int) (bytes : List Int) : Prop := ok = true ∧ 1 ≤ gen ∧ gen ≤ 1000000000 ∧ bytes.length ≤ 56
def pre0 (gen : Int) (bytes : List Int) : List Int := ((([76, 0] : List Int) ++ lowTo gen 4) ++ [(bytes.length : Int), 0]) ++ bytes
def preL (gen : Int) (bytes : List Int) : List Int := pre0 gen bytes ++ List.replicate (64 - (pre0 gen bytes).length) 0
def blockL (gen : Int) (bytes : List Int) : List Int := (preL gen bytes).set 1 (sumTo (preL gen bytes) (preL gen bytes).length)
theorem pre0_len (gen : Int) (bytes : List Int) : (pre0 gen bytes).length = 8 + bytes.length := by
  simp only [pre0, List.length_append, lowTo_len, List.length_cons, List.length_nil]
set_option maxHeartbeats 4000000 in
set_option maxRecDepth 100000 in
theorem implPageBlock_yes (A : Option Addr) (c : Nat) (gen : Int) (bytes : List Int) (w : World) (hx : kB.C w A bytes.length bytes) (hok : PgOk true gen bytes) :
    Calls Try.prog 110 #[.agg #[.bool true, .int .i64 gen, .slice A bytes.length c]] w (GotRow rB 5 w (blockL gen bytes)) := by
  have HX := Aside0.mk hx; clear hx
  obtain ⟨_, g1, g2, g3⟩ := hok
  have p3 := pre0_len gen bytes
  have hz : 64 - (pre0 gen bytes).length = 56 - bytes.length := by omega
  have BK := Aside0.mk (blk_new w (.cells #[.bool true, .int .i64 gen, .slice A bytes.length c] 138))
  have HB := Aside0.mk (below_alloc (Below.refl w.heap.size w) (.cells #[.bool true, .int .i64 gen, .slice A bytes.length c] 138))
  go_enter Try.func110, Try.ntmps110
  go_upto_region 1 with (fail)
  generalize w.alloc _ = w0 at BK HB ⊢
  have q0 := (blk_cell BK.out 0).trans rfl; have q1 := (blk_cell BK.out 1).trans rfl; have q2 := (blk_cell BK.out 2).trans rfl
  go_upto_region 4 with (fail)
  have hX : Bx w w.heap.size 138 #[.bool true, .int .i64 gen, .slice A bytes.length c] (w0.alloc (.cells #[.int .u8 76, .int .u8 0] 5)) (.slice (some ⟨w0.heap.size, 0, none⟩) 2 2) [76, 0] := Bx.lit HB.out BK.out [76, 0] (by decide)
  generalize w0.alloc _ = w1 at hX ⊢
  generalize (some (⟨w0.heap.size, 0, none⟩ : Addr)) = B1 at hX ⊢
  have X1 := Aside0.mk hX
  clear hX BK HB q0 q1 q2
  have q1 := (blk_cell X1.out.box 1).trans rfl
  go_wp2_with fail
  refine (X1.out.low_c (by decide) _ 4 (by decide) (by decide)).mono ?_
  rintro e w2 ⟨v2, rfl, hX⟩
  have X2 := Aside0.mk hX
  clear hX X1 q1
  have q2 := (blk_cell X2.out.box 2).trans rfl
  go_upto_region 6 with (at_builtin; go_loud (refine Bx.app_lit (t := 138) (by decide) rfl (.tmp 29) (.tmp 34) rfl v2 _ [(bytes.length : Int), 0] (by simp) X2.out rfl rfl rfl (by simp [lowTo_len]) ?_); intro v3 w3 hX; have X3 := Aside0.mk hX; clear hX)
  clear q2 X2
  have q2 := (blk_cell X3.out.box 2).trans rfl
  go_upto_region 7 with (at_builtin; refine Bx.app_row (t := 138) (by decide) rfl (.tmp 36) (.tmp 38) rfl v3 _ bytes A bytes.length c rfl rfl X3.out (Kd.C_below HX.out X3.out.bel) (by simp [lowTo_len]; omega) ?_; intro v4 w4 hX; have X4 := Aside0.mk hX; clear hX)
  clear q2 X3
  have hX : Bx w w.heap.size 138 #[.bool true, .int .i64 gen, .slice A bytes.length c] w4 v4 (pre0 gen bytes) := X4.out
  clear X4
  obtain ⟨P0, hP⟩ : ∃ P, P = pre0 gen bytes := ⟨_, rfl⟩
  have HP : Aside0 (blockL gen bytes = (P0 ++ List.replicate (64 - P0.length) 0).set 1 (sumTo (P0 ++ List.replicate (64 - P0.length) 0) (P0 ++ List.replicate (64 - P0.length) 0).length)) := ⟨by rw [hP]; rfl⟩
  rw [← hP] at hX p3 hz
  clear hP
  obtain ⟨A4, c4, rfl, _⟩ := hX.form
  have X4 := Aside0.mk hX
  clear hX
  go_upto_region 8 with (at_builtin; go_loud (refine Bx.app_zeros (t := 138) (by decide) rfl (.tmp 40) (.tmp 43) rfl (.slice A4 P0.length c4) P0 (64 - P0.length) rfl rfl (by omega) X4.out (by omega) ?_); intro v5 w5 hX; have X5 := Aside0.mk hX; clear hX)
  clear X4
  have hl : (P0 ++ List.replicate (64 - P0.length) 0).length = 64 := by simp; omega
  replace HP := HP.out
  have hX := X5.out
  clear X5
  generalize P0 ++ List.replicate (64 - P0.length) 0 = P1 at HP hX hl
  obtain ⟨b5, c5, rfl, hC⟩ := hX.form1 (by omega)
  have HP := Aside0.mk HP; have HC := Aside0.mk hC; have X5 := Aside0.mk hX
  obtain ⟨_, ⟨u1, z1⟩, z2⟩ := hX.set (by decide) (j := 1) (by omega) 0
  have hl1 : 1 < P1.length := by omega
  clear hl hX hC p3 hz
  go_wp2_with (go_at_call 149; refine (check_c _ _ _ _ HC.out).mono ?_; rintro e w6 ⟨rfl, rfl⟩)
  go_ret
  obtain ⟨hX, _, _⟩ := X5.out.set (by decide) hl1 (sumTo P1 P1.length)
  rw [HP.out]
  exact ⟨_, rfl, hX.done⟩
set_option maxHeartbeats 4000000 in
theorem implPageBlock_no (A : Option Addr) (c : Nat) (ok : Bool) (gen : Int) (bytes : List Int) (w : World) (hx : bytes.length ≤ 9223372036854775807) (hno : ¬ PgOk ok gen bytes) :
    Calls Try.prog 110 #[.agg #[.bool ok, .int .i64 gen, .slice A bytes.length c]] w (GotRow rB 5 w []) := by
  have BK := Aside0.mk (blk_new w (.cells #[.bool ok, .int .i64 gen, .slice A bytes.length c] 138))
  have HB := Aside0.mk (below_alloc (Below.refl w.heap.size w) (.cells #[.bool ok, .int .i64 gen, .slice A bytes.length c] 138))
  have HN := Aside0.mk hno; clear hno
  go_enter Try.func110, Try.ntmps110
  go_upto_region 1 with (fail)
  generalize w.alloc _ = w0 at BK HB ⊢
  have q0 := (blk_cell BK.out 0).trans rfl; have q1 := (blk_cell BK.out 1).trans rfl; have q2 := (blk_cell BK.out 2).trans rfl
  cases ok with
  | false =>
    go_wp2
    go_ret
    exact ⟨_, rfl, ⟨[], Rp.Row_nil _ _ _, by simp, by simp⟩, HB.out⟩
  | true =>
    by_cases h1 : 1 ≤ gen
    · by_cases h2 : gen ≤ 1000000000
      · have h3 : 56 < bytes.length := by
          have := HN.out
          unfold PgOk at this
          rcases Nat.lt_or_ge 56 bytes.length with h | h
          · exact h
          · exact absurd ⟨rfl, h1, h2, h⟩ this
        go_wp2
        go_ret
        exact ⟨_, rfl, ⟨[], Rp.Row_nil _ _ _, by simp, by simp⟩, HB.out⟩
      · go_wp2
        go_ret
        exact ⟨_, rfl, ⟨[], Rp.Row_nil _ _ _, by simp, by simp⟩, HB.out⟩
    · go_wp2
      go_ret
      exact ⟨_, rfl, ⟨[], Rp.Row_nil _ _ _, by simp, by simp⟩, HB.out⟩
set_option maxHeartbeats 4000000 in
theorem specPageBlock_no (A : Option Addr) (c : Nat) (ok : Bool) (gen : Int) (bytes : List Int) (w : World) (hx : bytes.length ≤ 9223372036854775807) (hno : ¬ PgOk ok gen bytes) :
    Calls Try.prog 132 #[.agg #[.bool ok, .int .i64 gen, .slice A bytes.length c]] w (GotRow rB 5 w []) := by
  have BK := Aside0.mk (blk_new w (.cells #[.bool ok, .int .i64 gen, .slice A bytes.length c] 138))
  have HB := Aside0.mk (below_alloc (Below.refl w.heap.size w) (.cells #[.bool ok, .int .i64 gen, .slice A bytes.length c] 138))
  have HN := Aside0.mk hno; clear hno
  go_enter Try.func132, Try.ntmps132
  go_upto_region 1 with (fail)
  generalize w.alloc _ = w0 at BK HB ⊢
  have q0 := (blk_cell BK.out 0).trans rfl; have q1 := (blk_cell BK.out 1).trans rfl; have q2 := (blk_cell BK.out 2).trans rfl
  cases ok with
  | false =>
    go_wp2
    go_ret
    exact ⟨_, rfl, ⟨[], Rp.Row_nil _ _ _, by simp, by simp⟩, HB.out⟩
  | true =>
    by_cases h1 : 1 ≤ gen ∧ gen ≤ 1000000000
    · have h3 : 56 < bytes.length := by
        have := HN.out
        unfold PgOk at this
        rcases Nat.lt_or_ge 56 bytes.length with h | h
        · exact h
        · exact absurd ⟨rfl, h1.1, h1.2, h⟩ this
      have HR : Aside0 ((decide (1 ≤ gen) && decide (gen ≤ 1000000000)) = true) := ⟨by simp; omega⟩
      clear h1
      go_wp2_with (go_at_call 120; refine (l1in_c _ 1 1000000000 _).mono ?_; rintro e w1 ⟨rfl, rfl⟩; rw [HR.out])
      go_ret
      exact ⟨_, rfl, ⟨[], Rp.Row_nil _ _ _, by simp, by simp⟩, HB.out⟩
    · have HR : Aside0 ((decide (1 ≤ gen) && decide (gen ≤ 1000000000)) = false) := ⟨by simp; omega⟩
      clear h1
      go_wp2_with (go_at_call 120; refine (l1in_c _ 1 1000000000 _).mono ?_; rintro e w1 ⟨rfl, rfl⟩; rw [HR.out])
      go_ret
      exact ⟨_, rfl, ⟨[], Rp.Row_nil _ _ _, by simp, by simp⟩, HB.out⟩
set_option maxHeartbeats 4000000 in
set_option maxRecDepth 100000 in
theorem specPageBlock_yes (A : Option Addr) (c : Nat) (gen : Int) (bytes : List Int) (w : World) (hx : kB.C w A bytes.length bytes) (hok : PgOk true gen bytes) :
    Calls Try.prog 132 #[.agg #[.bool true, .int .i64 gen, .slice A bytes.length c]] w (GotRow rB 5 w (blockL gen bytes)) := by
  have HX := Aside0.mk hx; clear hx
  obtain ⟨_, g1, g2, g3⟩ := hok
  have p3 := pre0_len gen bytes
  have HR : Aside0 ((decide (1 ≤ gen) && decide (gen ≤ 1000000000)) = true) := ⟨by simp; omega⟩
  have BK := Aside0.mk (blk_new w (.cells #[.bool true, .int .i64 gen, .slice A bytes.length c] 138))
  have HB := Aside0.mk (below_alloc (Below.refl w.heap.size w) (.cells #[.bool true, .int .i64 gen, .slice A bytes.length c] 138))
  go_enter Try.func132, Try.ntmps132
  go_upto_region 1 with (fail)
  generalize w.alloc _ = w0 at BK HB ⊢
  have q0 := (blk_cell BK.out 0).trans rfl; have q1 := (blk_cell BK.out 1).trans rfl; have q2 := (blk_cell BK.out 2).trans rfl
  go_upto_region 4 with (go_at_call 120; refine (l1in_c _ 1 1000000000 _).mono ?_; rintro e w9 ⟨rfl, hE⟩; have hE := hE.symm; subst hE; rw [HR.out])
  have hX : Bx w w.heap.size 138 #[.bool true, .int .i64 gen, .slice A bytes.length c] (w0.alloc (.cells #[.int .u8 76, .int .u8 0] 5)) (.slice (some ⟨w0.heap.size, 0, none⟩) 2 2) [76, 0] := Bx.lit HB.out BK.out [76, 0] (by decide)
  generalize w0.alloc _ = w1 at hX ⊢
  generalize (some (⟨w0.heap.size, 0, none⟩ : Addr)) = B1 at hX ⊢
  have X1 := Aside0.mk hX
  clear hX BK HB q0 q1 q2 HR
  have q1 := (blk_cell X1.out.box 1).trans rfl
  go_wp2_with fail
  refine (X1.out.l1put_c (by decide) _ 4 (by decide) (by decide)).mono ?_
  rintro e w2 ⟨v2, rfl, hX⟩
  have X2 := Aside0.mk hX
  clear hX X1 q1
  have q2 := (blk_cell X2.out.box 2).trans rfl
  go_upto_region 6 with (at_builtin; refine Bx.app_lit (t := 138) (by decide) rfl (.tmp 25) (.tmp 30) rfl v2 _ [(bytes.length : Int), 0] (by simp) X2.out rfl rfl rfl (by simp [lowTo_len]) ?_; intro v3 w3 hX; have X3 := Aside0.mk hX; clear hX)
  clear q2 X2
  have q2 := (blk_cell X3.out.box 2).trans rfl
  have hup : X3 = X3 := rfl
  go_wp2_with (at_builtin; refine Bx.app_row (t := 138) (by decide) rfl (.tmp 32) (.tmp 34) rfl v3 _ bytes A bytes.length c rfl rfl X3.out (Kd.C_below HX.out X3.out.bel) (by simp [lowTo_len]; omega) ?_; intro v4 w4 hX; have X4 := Aside0.mk hX; clear hX)
  clear q2 X3
  have hX : Bx w w.heap.size 138 #[.bool true, .int .i64 gen, .slice A bytes.length c] w4 v4 (pre0 gen bytes) := X4.out
  clear X4
  obtain ⟨P0, hP⟩ : ∃ P, P = pre0 gen bytes := ⟨_, rfl⟩
  have HP : Aside0 (blockL gen bytes = (P0 ++ List.replicate (64 - P0.length) 0).set 1 (sumTo (P0 ++ List.replicate (64 - P0.length) 0) (P0 ++ List.replicate (64 - P0.length) 0).length)) := ⟨by rw [hP]; rfl⟩
  rw [← hP] at hX p3
  clear hP
  have X4 := Aside0.mk hX
  have P3 := Aside0.mk p3
  clear hX p3
  go_loopg [3] 64 (fun m vv wr => ∃ i : Nat, Aside0 (P0.length + i ≤ 64 ∧ 64 - (P0.length + i) ≤ m) ∧ Aside0 (Bx w w.heap.size 138 #[.bool true, .int .i64 gen, .slice A bytes.length c] wr vv (P0 ++ List.replicate i 0)))
  case atStart => exact ⟨0, ⟨by have := P3.out; omega⟩, ⟨by simpa using X4.out⟩⟩
  case round =>
    obtain ⟨i, HI, XI⟩ := hrel
    obtain ⟨Av, cv, rfl, hC⟩ := XI.out.form
    obtain ⟨L, hL⟩ : ∃ L, L = P0 ++ List.replicate i (0 : Int) := ⟨_, rfl⟩
    have hl : L.length = P0.length + i := by rw [hL]; simp
    have XI2 := XI.out
    rw [← hL] at XI2 hC ⊢
    have HL := Aside0.mk hL
    clear hL XI
    have XI := Aside0.mk XI2
    clear XI2
    by_cases hi : P0.length + i < 64
    · have h64 : L.length < 64 := by omega
      clear hl hi
      go_wp2_with (at_builtin; refine Bx.app_lit (t := 138) (by decide) rfl (.tmp 39) (.tmp 40) rfl (.slice Av L.length cv) L [0] (by simp) XI.out rfl rfl rfl (by simp; omega) ?_; intro v5 w5 hX; have X5 := Aside0.mk hX; clear hX)
      go_roundg (gk - 1)
      case measure => have := HI.out; have := congrArg List.length HL.out; simp at this; omega
      case rel =>
        have e := congrArg List.length HL.out
        simp at e
        refine ⟨i + 1, ⟨by omega, by have := HI.out; omega⟩, ⟨?_⟩⟩
        have := X5.out
        rw [HL.out, List.append_assoc, ← List.replicate_succ'] at this
        exact this
    · have e : i = 64 - P0.length := by have := HI.out; omega
      have HL2 : Aside0 (blockL gen bytes = L.set 1 (sumTo L L.length)) := ⟨by rw [HL.out, e]; exact HP.out⟩
      have hl64 : L.length = 64 := by have := HI.out; omega
      clear HL HP
      have hX := XI.out
      clear XI
      obtain ⟨b5, c5, e5, hC5⟩ := hX.form1 (by omega)
      injection e5 with e5 _ e6
      subst e5; subst e6
      have HC := Aside0.mk hC5; have X5 := Aside0.mk hX
      obtain ⟨_, ⟨u1, z1⟩, z2⟩ := hX.set (by decide) (j := 1) (by omega) 0
      have hl1 : 1 < L.length := by omega
      have h64 : 64 ≤ L.length := by omega
      clear hl hX hC hC5 hl64 e hi
      go_wp2_with (go_at_call 157; refine (l2check_c _ _ _ _ HC.out).mono ?_; rintro e w6 ⟨rfl, rfl⟩)
      go_ret
      obtain ⟨hX, _, _⟩ := X5.out.set (by decide) hl1 (sumTo L L.length)
      rw [HL2.out]
      exact ⟨_, rfl, hX.done⟩
end Go.Proofs.Ytocdlibnmlcokaa
namespace Go.Proofs.Ytocdlibnmlcokaa
open Go Go.RowKit Go.Proofs.YtocdlibnmlcokaaW.PrintWords Go.Proofs.YtocdlibnmlcokaaW.PrintLast
set_option linter.unusedVariables false
section
variable {P : Program} {ops : Array Oper} {Q : Exit → Act → World → Prop} {md : Region.Mode} {S : World → Prop} {ds : List Nat} {n m fuel : Nat} {a a' : Act} {w w1 : World} {Ni Nj Nk : Option Tmp} {oi oj ok : Oper} {v : Value} {K : Act → World → Prop}
theorem tw (i j mi mj : Nat)
    (h1 : ∀ K : Act → World → Prop, Shut (∀ a' w', S w' → (S w' → wpAnyLast P md ops Q S ds fuel (bl n mi) a' w') → K a' w') → if Region.wanted oi (yielded ops a.tmps) = true then Oper.wp P oi a w K Q else K (a.put Ni undef) w)
    (h2 : ∀ K : Act → World → Prop, Shut (∀ a' w', S w' → (S w' → wpAnyLast P md ops Q S ds fuel (bl n mj) a' w') → K a' w') → if Region.wanted oj (yielded ops a.tmps) = true then Oper.wp P oj a w K Q else K (a.put Nj undef) w)
    (hi : ops[i]? = some oi := by simp only [List.getElem?_toArray, List.getElem?_cons_succ, List.getElem?_cons_zero]; rfl) (hj : ops[j]? = some oj := by simp only [List.getElem?_toArray, List.getElem?_cons_succ, List.getElem?_cons_zero]; rfl) (hNi : oi.dst = Ni := by rfl) (hNj : oj.dst = Nj := by rfl)
    (hc : (Region.ready md ops (bl n m) == [i, j] && (bl n m).setIfInBounds i true == bl n mi && (bl n m).setIfInBounds j true == bl n mj) = true := by kernel_rfl) (hdi : i ∉ ds := by decide) (hdj : j ∉ ds := by decide) : wpAnyLast P md ops Q S ds (fuel + 1) (bl n m) a w :=
  two_ _ _ hi hj hNi hNj hc hdi hdj h1 h2
theorem th (i j k mi mj mk : Nat)
    (h1 : ∀ K : Act → World → Prop, Shut (∀ a' w', S w' → (S w' → wpAnyLast P md ops Q S ds fuel (bl n mi) a' w') → K a' w') → if Region.wanted oi (yielded ops a.tmps) = true then Oper.wp P oi a w K Q else K (a.put Ni undef) w)
    (h2 : ∀ K : Act → World → Prop, Shut (∀ a' w', S w' → (S w' → wpAnyLast P md ops Q S ds fuel (bl n mj) a' w') → K a' w') → if Region.wanted oj (yielded ops a.tmps) = true then Oper.wp P oj a w K Q else K (a.put Nj undef) w)
    (h3 : ∀ K : Act → World → Prop, Shut (∀ a' w', S w' → (S w' → wpAnyLast P md ops Q S ds fuel (bl n mk) a' w') → K a' w') → if Region.wanted ok (yielded ops a.tmps) = true then Oper.wp P ok a w K Q else K (a.put Nk undef) w)
    (hi : ops[i]? = some oi := by simp only [List.getElem?_toArray, List.getElem?_cons_succ, List.getElem?_cons_zero]; rfl) (hj : ops[j]? = some oj := by simp only [List.getElem?_toArray, List.getElem?_cons_succ, List.getElem?_cons_zero]; rfl) (hk : ops[k]? = some ok := by simp only [List.getElem?_toArray, List.getElem?_cons_succ, List.getElem?_cons_zero]; rfl) (hNi : oi.dst = Ni := by rfl) (hNj : oj.dst = Nj := by rfl) (hNk : ok.dst = Nk := by rfl)
    (hc : (Region.ready md ops (bl n m) == [i, j, k] && (bl n m).setIfInBounds i true == bl n mi && (bl n m).setIfInBounds j true == bl n mj && (bl n m).setIfInBounds k true == bl n mk) = true := by kernel_rfl) (hdi : i ∉ ds := by decide) (hdj : j ∉ ds := by decide) (hdk : k ∉ ds := by decide) : wpAnyLast P md ops Q S ds (fuel + 1) (bl n m) a w :=
  three_ _ _ _ hi hj hk hNi hNj hNk hc hdi hdj hdk h1 h2 h3
end
end Go.Proofs.Ytocdlibnmlcokaa
namespace Go.Proofs.Ytocdlibnmlcokaa.Math
open Go.RowKit Go.Proofs.YtocdlibnmlcokaaW.PrintWords Go.Proofs.YtocdlibnmlcokaaW.PrintLast
set_option linter.unusedVariables false
set_option linter.unusedSimpArgs false
theorem Ev.succ {α : Type} {g : Nat → Option α} {r : α} (h : Ev (fun k => g (k + 1)) r) : Ev g r := Ev.step (fun _ => rfl) h
theorem Ev.some {α : Type} {r r' : α} (h : r = r') : Ev (fun _ => Option.some r) r' := h ▸ Ev.now r
theorem Ev.ok {α : Type} {g : Option α} {r : α} (h : g = Option.some r) : Ev (fun _ => g) r := h ▸ Ev.now r
theorem getD_mem {α : Type} (l : List α) (i : Nat) (d : α) (h : i < l.length) : l.getD i d ∈ l := by
  simp [List.getD, List.getElem?_eq_getElem h]
theorem bytesOf_len (s : ByteArray) : (bytesOf s).length = s.size := bytesOf_length s
def Bs (l : List Int) : Prop := ∀ x ∈ l, 0 ≤ x ∧ x ≤ 255
theorem Bs.drop {l : List Int} (h : Bs l) (n : Nat) : Bs (l.drop n) := fun x hx => h x (List.mem_of_mem_drop hx)
theorem Bs.take {l : List Int} (h : Bs l) (n : Nat) : Bs (l.take n) := fun x hx => h x (List.mem_of_mem_take hx)
theorem Bs.append {a b : List Int} (ha : Bs a) (hb : Bs b) : Bs (a ++ b) := fun x hx => (List.mem_append.1 hx).elim (ha x) (hb x)
theorem Bs.getD {l : List Int} (h : Bs l) (i : Nat) : 0 ≤ l.getD i 0 ∧ l.getD i 0 ≤ 255 := by
  by_cases hi : i < l.length
  · exact h _ (getD_mem l i 0 hi)
  · simp [List.getD, List.getElem?_eq_none (Nat.le_of_not_lt hi)]
theorem toList_inj {a b : ByteArray} (h : a.toList = b.toList) : a = b := by
  rw [ByteArray.toList_eq, ByteArray.toList_eq] at h
  cases a; cases b
  simp_all
theorem strOfNums_inj {a b : List Int} (ha : Bs a) (hb : Bs b) (h : strOfNums a = strOfNums b) : a = b := by
  have h1 : (a.map fun n => UInt8.ofNat n.toNat) = b.map fun n => UInt8.ofNat n.toNat := by
    have := congrArg (fun s : ByteArray => s.data.toList) h
    simpa [strOfNums] using this
  apply List.ext_getElem?
  intro i
  have h2 := congrArg (fun l => l[i]?) h1
  simp only [List.getElem?_map] at h2
  cases ea : a[i]? with
  | none =>
    cases eb : b[i]? with
    | none => rfl
    | some y => rw [ea, eb] at h2; simp at h2
  | some x =>
    cases eb : b[i]? with
    | none => rw [ea, eb] at h2; simp at h2
    | some y =>
      rw [ea, eb] at h2
      simp only [Option.map_some, Option.some.injEq] at h2
      have hx := ha x (List.mem_of_getElem? ea)
      have hy := hb y (List.mem_of_getElem? eb)
      have h3 := congrArg UInt8.toNat h2
      simp only [UInt8.toNat_ofNat'] at h3
      congr 1
      omega
end Go.Proofs.Ytocdlibnmlcokaa.Math
namespace Go.Proofs.Ytocdlibnmlcokaa
open Go.RowKit Go.Proofs.YtocdlibnmlcokaaW.PrintWords Go.Proofs.YtocdlibnmlcokaaW.PrintLast
set_option linter.unusedVariables false
set_option linter.unusedSimpArgs false
def seg (xs : List Int) (a b : Nat) : List Int := (xs.take b).drop a
theorem seg_len (xs : List Int) {a b : Nat} (hb : b ≤ xs.length) : (seg xs a b).length = b - a := by simp [seg]; omega
theorem mid_c {A : Option Addr} {c : Nat} {xs : List Int} (a b : Int) (x y : Nat) (ha : a.toNat = x) (hb : b.toNat = y) (h0 : 0 ≤ a) (h1 : a ≤ b) (hm : b ≤ xs.length) (hc : xs.length ≤ c) :
    ∃ A' : Option Addr, (∀ W : World, (Instr.slice 22 (.slice A xs.length c) (some (.int .i64 a)) (some (.int .i64 b)) none).run Try.prog W = .ok (.slice A' (seg xs x y).length (c - x)) W) ∧
      (∀ w : World, kB.C w A xs.length xs → kB.C w A' (seg xs x y).length (seg xs x y)) ∧ (seg xs x y).length ≤ c - x := by
  subst ha; subst hb
  obtain ⟨i0, hi, hzz⟩ := Option.map_eq_some_iff.1 info5
  simp only [Prod.mk.injEq] at hzz
  obtain ⟨A', h2, h3, h4⟩ := print_mid_of (P := Try.prog) (Value.int .u8) 0 22 5 .i64 .i64 Try.underlying22 hi hzz.2.1 A c xs a b h0 h1 hm hc
  exact ⟨A', h2, fun w h => Kd.C_of_reads (h1 := fun _ => rfl) (h3 w (Kd.reads_of_C h)), h4⟩
def genOf (b : List Int) : Int := wrap64 (numL (seg b 2 6))
def bytesOf (b : List Int) : List Int := seg b 8 (8 + (rd b 6).toNat)
def PgIs (b : List Int) : Prop := b.length = 64 ∧ rd b 6 ≤ 56 ∧ PgOk true (genOf b) (bytesOf b) ∧ blockL (genOf b) (bytesOf b) = b
def GotPg (w : World) (ok : Bool) (gen : Int) (bytes : List Int) (e : Ending) (w' : World) : Prop :=
  ∃ v f, e = .returned (.agg #[.bool ok, .int .i64 gen, v]) ∧ rB.Row 5 w' v bytes f ∧ f.Nodup ∧ (∀ b ∈ f, w.heap.size ≤ b) ∧ Below w.heap.size w w'
def BsOk (xs : List Int) : Prop := ∀ x ∈ xs, 0 ≤ x ∧ x < 256
theorem BsOk.rd {xs : List Int} (h : BsOk xs) (i : Int) : 0 ≤ rd xs i ∧ rd xs i < 256 := by
  unfold Go.Proofs.YtocdlibnmlcokaaW.PrintWords.rd
  rw [List.getD_eq_getElem?_getD]
  by_cases hi : i.toNat < xs.length
  · rw [List.getElem?_eq_getElem hi]; exact h _ (List.getElem_mem _)
  · rw [List.getElem?_eq_none (by omega)]; simp
theorem got_below {lo : Nat} {w w1 : World} {v : Value} {xs : List Int} (h : Rp.Got rB 5 lo w v xs) (hb : Below w.heap.size w w1) : Rp.Got rB 5 lo w1 v xs := by
  obtain ⟨f, hr, hn, hf⟩ := h
  exact ⟨f, Rp.Row_below hr hb, hn, hf⟩
set_option maxHeartbeats 8000000 in
set_option maxRecDepth 100000 in
theorem implPageOf_y (A : Option Addr) (c : Nat) (b X : List Int) (w : World) (hx : kB.C w A b.length b) (hc : b.length ≤ c) (hb : BsOk b) (h64 : b.length = 64) (h56 : rd b 6 ≤ 56)
    (hp : ∀ (A : Option Addr) (c : Nat) (w : World), kB.C w A (bytesOf b).length (bytesOf b) → Calls Try.prog 110 #[.agg #[.bool true, .int .i64 (genOf b), .slice A (bytesOf b).length c]] w (GotRow rB 5 w X))
    (hs : ((strOfNums X).toList == (strOfNums b).toList) = true) :
    Calls Try.prog 146 #[.slice A b.length c] w (GotPg w true (genOf b) (bytesOf b)) := by
  have hb6 := (hb.rd 6).1
  have hl1 : 63 < b.length := by omega
  have hl2 : b.length ≤ 64 := by omega
  have HX := Aside0.mk hx; have HP := Aside0.mk hp; clear hx hb h64 hp
  have hE2 : wrap64 (8 + wrap64 (rd b 6)) = 8 + rd b 6 := by unfold wrap64; omega
  obtain ⟨A1, hcut1, hC1, hle1⟩ := mid_c (A := A) (c := c) (xs := b) 2 6 2 6 rfl rfl (by omega) (by omega) (by omega) hc
  obtain ⟨A2, hcut2, hC2, hle2⟩ := mid_c (A := A) (c := c) (xs := b) 8 (wrap64 (8 + wrap64 (rd b 6))) 8 _ rfl rfl (by omega) (by omega) (by omega) hc
  have hsg : seg b 8 (wrap64 (8 + wrap64 (rd b 6))).toNat = bytesOf b := by rw [hE2]; unfold bytesOf; congr 1; omega
  rw [hsg] at hcut2 hC2
  have hbl : (bytesOf b).length ≤ 56 := by unfold bytesOf; rw [seg_len b (by omega)]; omega
  clear hE2 hsg
  obtain ⟨ad, e1, c6⟩ := Kd.at_int HX.out 6 (by omega) (by omega)
  cases e1
  have HC1 := Aside0.mk hC1; have HC2 := Aside0.mk hC2; clear hC1 hC2
  simp only [show (6 : Int).toNat = 6 from rfl, Go.Addr.add, Nat.reduceEqDiff, if_false] at c6
  have C6 := Aside0.mk c6
  have BK := Aside0.mk (blk_new w (.cells #[.bool false, .int .i64 0, .slice none 0 0] 138))
  have HB := Aside0.mk (below_alloc (Below.refl w.heap.size w) (.cells #[.bool false, .int .i64 0, .slice none 0 0] 138))
  go_enter Try.func146, Try.ntmps146
  go_upto_region 1 with (fail)
  replace c6 := pw_cell_below HB.out c6
  generalize w.alloc _ = w0 at BK HB c6 ⊢
  go_upto_region 3 with (fail)
  refine sta (fun w' => w'.cell? ⟨ad.block, ad.off + 6, none⟩ = some (.int .u8 (rd b 6))) [] 15 c6 (fun hS => ?_)
  replace BK := Aside0.mk (blk_drew BK.out); replace HB := Aside0.mk (below_drew HB.out)
  clear c6
  generalize w0.drew = w1 at BK HB hS ⊢
  refine pu 0 1 ?_
  refine pu 1 3 ?_
  refine pu 4 19 ?_
  refine pu 5 51 ?_
  refine pu 6 115 ?_
  refine tk 7 243 hS ?_
  refine pu 8 499 ?_
  refine pu 9 1011 ?_
  refine pu 10 2035 ?_
  refine join_ (σ := Value × Nat) 1 (bl 15 16383) (fun s => [(16, .int .u64 (numL (seg b 2 6))), (17, .int .i64 (wrap64 (numL (seg b 2 6)))), (25, s.1), (26, .agg #[.bool true, .int .i64 (wrap64 (numL (seg b 2 6))), s.1]), (3, .pointer (some ⟨s.2, 0, none⟩))]) (fun s w' => w'.cell? ⟨ad.block, ad.off + 6, none⟩ = some (.int .u8 (rd b 6)) ∧ Rp.Got rB 5 w.heap.size w' s.1 (bytesOf b) ∧ w'.heap[w.heap.size]? = some (.cells #[.bool false, .int .i64 0, .slice none 0 0] 138 (0, 0)) ∧ w'.heap[s.2]? = some (.cells #[.bool false, .int .i64 0, .slice none 0 0] 138 (0, 0)) ∧ w.heap.size < s.2 ∧ Below w.heap.size w w') ?_ ?_
  rotate_left
  · intro hCont
    refine tw 2 13 2039 10227 (fun K hK => ?_) (fun K hK => ?_)
    · skip
      refine ca (num_c _ _ _ _ (HC1.out _ (Kd.C_below HX.out HB.out))) Try.func162 ?_
      rintro e wd1 ⟨rfl, hE⟩
      have hE := hE.symm
      subst hE
      refine ⟨_, rfl, nx hK hS (fun hS => ?_)⟩
      clear hK K
      refine pu 3 2047 ?_
      refine tw 11 13 4095 10239 (fun K hK => ?_) (fun K hK => ?_)
      · skip
        refine ca (cp_c _ _ _ _ (HC2.out _ (Kd.C_below HX.out HB.out)) (by omega)) Try.func114 ?_
        rintro e wd2 ⟨v, rfl, ⟨f, hr, hn, hf⟩, hb2⟩
        obtain ⟨A3, c3, rfl, _, _⟩ := Rp.Row_reads hr
        refine ⟨_, rfl, nx hK (pw_cell_below hb2 hS) (fun hS => ?_)⟩
        clear hK K
        have GR0 : Aside0 (Rp.Got rB 5 w.heap.size wd2 (.slice A3 (bytesOf b).length c3) (bytesOf b)) := ⟨⟨f, hr, hn, fun x hx => Nat.le_trans HB.out.size (hf x hx)⟩⟩
        replace BK := Aside0.mk (blk_below BK.out hb2)
        replace HB := Aside0.mk (below_then HB.out HB.out.size hb2)
        have GR := GR0
        clear GR0 hr hn hf hb2
        refine pu 12 8191 ?_
        refine on 13 16383 (fun K hK => ?_)
        refine va ?_
        refine nx hK (pw_cell_below (below_alloc (Below.refl _ _) _) hS) (fun hS => ?_)
        clear hK K
        generalize hg : wd2.heap.size = g at hS ⊢
        generalize hw3 : wd2.alloc _ = wd3 at hS ⊢
        obtain ⟨K3, hb3, hsz⟩ := alloc1 hw3
        clear hw3 hsz
        rw [hg] at K3
        have GW : Aside0 (w.heap.size < g) := ⟨by rw [← hg]; exact blk_lt BK.out⟩
        replace BK := Aside0.mk (blk_below BK.out hb3)
        replace GR := Aside0.mk (got_below GR.out hb3)
        replace HB := Aside0.mk (below_then HB.out HB.out.size hb3)
        have GK := Aside0.mk K3
        clear K3 hb3 hg
        exact norm_ (by simp only [putAll, Act.put, List.setIfInBounds_toArray, List.set_cons_zero, List.set_cons_succ]) (hCont (.slice A3 (bytesOf b).length c3, g) _ ⟨hS, GR.out, BK.out, GK.out, GW.out, HB.out⟩)
      · skip
        refine va ?_
        refine nx hK (pw_cell_below (below_alloc (Below.refl _ _) _) hS) (fun hS => ?_)
        clear hK K
        generalize hg : w1.heap.size = g at hS ⊢
        generalize hw3 : w1.alloc _ = wd4 at hS ⊢
        obtain ⟨K3, hb3, hsz⟩ := alloc1 hw3
        clear hw3 hsz
        rw [hg] at K3
        have GW : Aside0 (w.heap.size < g) := ⟨by rw [← hg]; exact blk_lt BK.out⟩
        replace BK := Aside0.mk (blk_below BK.out hb3)
        replace HB := Aside0.mk (below_then HB.out HB.out.size hb3)
        have GK := Aside0.mk K3
        clear K3 hb3 hg
        refine on 11 12287 (fun K hK => ?_)
        refine ca (cp_c _ _ _ _ (HC2.out _ (Kd.C_below HX.out HB.out)) (by omega)) Try.func114 ?_
        rintro e wd5 ⟨v, rfl, ⟨f, hr, hn, hf⟩, hb2⟩
        obtain ⟨A3, c3, rfl, _, _⟩ := Rp.Row_reads hr
        refine ⟨_, rfl, nx hK (pw_cell_below hb2 hS) (fun hS => ?_)⟩
        clear hK K
        have GR0 : Aside0 (Rp.Got rB 5 w.heap.size wd5 (.slice A3 (bytesOf b).length c3) (bytesOf b)) := ⟨⟨f, hr, hn, fun x hx => Nat.le_trans HB.out.size (hf x hx)⟩⟩
        replace BK := Aside0.mk (blk_below BK.out hb2)
        replace GK := Aside0.mk (blk_below GK.out hb2)
        replace HB := Aside0.mk (below_then HB.out HB.out.size hb2)
        have GR := GR0
        clear GR0 hr hn hf hb2
        refine pu 12 16383 ?_
        exact norm_ (by simp only [putAll, Act.put, List.setIfInBounds_toArray, List.set_cons_zero, List.set_cons_succ]) (hCont (.slice A3 (bytesOf b).length c3, g) _ ⟨hS, GR.out, BK.out, GK.out, GW.out, HB.out⟩)
    · skip
      refine va ?_
      refine nx hK (pw_cell_below (below_alloc (Below.refl _ _) _) hS) (fun hS => ?_)
      clear hK K
      generalize hg : w1.heap.size = g at hS ⊢
      generalize hw3 : w1.alloc _ = wd6 at hS ⊢
      obtain ⟨K3, hb3, hsz⟩ := alloc1 hw3
      clear hw3 hsz
      rw [hg] at K3
      have GW : Aside0 (w.heap.size < g) := ⟨by rw [← hg]; exact blk_lt BK.out⟩
      replace BK := Aside0.mk (blk_below BK.out hb3)
      replace HB := Aside0.mk (below_then HB.out HB.out.size hb3)
      have GK := Aside0.mk K3
      clear K3 hb3 hg
      refine on 2 10231 (fun K hK => ?_)
      refine ca (num_c _ _ _ _ (HC1.out _ (Kd.C_below HX.out HB.out))) Try.func162 ?_
      rintro e wd7 ⟨rfl, hE⟩
      have hE := hE.symm
      subst hE
      refine ⟨_, rfl, nx hK hS (fun hS => ?_)⟩
      clear hK K
      refine pu 3 10239 ?_
      refine on 11 12287 (fun K hK => ?_)
      refine ca (cp_c _ _ _ _ (HC2.out _ (Kd.C_below HX.out HB.out)) (by omega)) Try.func114 ?_
      rintro e wd8 ⟨v, rfl, ⟨f, hr, hn, hf⟩, hb2⟩
      obtain ⟨A3, c3, rfl, _, _⟩ := Rp.Row_reads hr
      refine ⟨_, rfl, nx hK (pw_cell_below hb2 hS) (fun hS => ?_)⟩
      clear hK K
      have GR0 : Aside0 (Rp.Got rB 5 w.heap.size wd8 (.slice A3 (bytesOf b).length c3) (bytesOf b)) := ⟨⟨f, hr, hn, fun x hx => Nat.le_trans HB.out.size (hf x hx)⟩⟩
      replace BK := Aside0.mk (blk_below BK.out hb2)
      replace GK := Aside0.mk (blk_below GK.out hb2)
      replace HB := Aside0.mk (below_then HB.out HB.out.size hb2)
      have GR := GR0
      clear GR0 hr hn hf hb2
      refine pu 12 16383 ?_
      exact norm_ (by simp only [putAll, Act.put, List.setIfInBounds_toArray, List.set_cons_zero, List.set_cons_succ]) (hCont (.slice A3 (bytesOf b).length c3, g) _ ⟨hS, GR.out, BK.out, GK.out, GW.out, HB.out⟩)
  rintro ⟨v, g⟩ wj ⟨hS, GR, BK0, GK, GW, HB0⟩
  clear BK HB
  have GW : w.heap.size < g := GW
  have GK : wj.heap[g]? = some (.cells #[.bool false, .int .i64 0, .slice none 0 0] 138 (0, 0)) := GK
  refine norm_ (a' := ?_) ?_ ?_
  rotate_left
  · simp only [putAll, Act.put, List.setIfInBounds_toArray, List.set_cons_zero, List.set_cons_succ]
    rfl
  obtain ⟨f, hr, hn, hf⟩ := GR
  obtain ⟨A3, c3, rfl, _, _⟩ := Rp.Row_reads hr
  have d0 := (blk_cell GK 0).trans rfl; have d1 := (blk_cell GK 1).trans rfl; have d2 := (blk_cell GK 2).trans rfl
  have z0 := blk_frozen GK 0; have z1 := blk_frozen GK 1; have z2 := blk_frozen GK 2
  obtain ⟨GK2, q3⟩ := set3 GK (.bool true) (.int .i64 (wrap64 (numL (seg b 2 6)))) (.slice A3 (bytesOf b).length c3)
  refine on 14 32767 (fun K hK => ?_)
  refine st ?_
  have HR := Aside0.mk (q3.row hr (fun x hx hm => Rp.Row_not hr GK (by decide) (by simp at hm; exact hm ▸ hx)))
  have BK := Aside0.mk (q3.blk BK0 (by simp; omega))
  have HB := Aside0.mk (q3.toBelow HB0 HB0.size (fun x hx => by simp at hx; omega))
  have GK := Aside0.mk GK2
  have HN := Aside0.mk hn; have HF := Aside0.mk hf
  refine nx hK (pw_cell_below HB.out C6.out) (fun hS => dn ?_)
  clear hK K hS d0 d1 d2 z0 z1 z2 q3 GK2 hr hn hf BK0 HB0
  generalize ((wj.setCell _ _).setCell _ _).setCell _ _ = w3 at HR BK HB GK ⊢
  go_upto_region 4 with (fail)
  have hs1 : ((strOfNums X).toList != (strOfNums b).toList) = false := by simp only [bne, hs]; rfl
  refine sta (fun w' => w'.cell? ⟨g, 0, none⟩ = some (.bool true) ∧ w'.cell? ⟨g, 1, none⟩ = some (.int .i64 (wrap64 (numL (seg b 2 6)))) ∧ w'.cell? ⟨g, 2, none⟩ = some (.slice A3 (bytesOf b).length c3) ∧ (convert 22 9 (.slice (some ad) b.length c)).run Try.prog w' = .ok (.string (strOfNums b)) w') [] 6 ⟨(blk_cell GK.out 0).trans rfl, (blk_cell GK.out 1).trans rfl, (blk_cell GK.out 2).trans rfl, Kd.C_string (P := Try.prog) Try.underlying22 Try.underlying5 Try.underlying9 (Kd.C_drew (Kd.C_below HX.out HB.out))⟩ (fun hS => ?_)
  replace HR := Aside0.mk (Rp.Row_drew HR.out); replace BK := Aside0.mk (blk_drew BK.out); replace HB := Aside0.mk (below_drew HB.out); replace GK := Aside0.mk (blk_drew GK.out)
  generalize w3.drew = w4 at HR BK HB GK hS ⊢
  refine pu 3 8 ?_
  refine tk 0 9 hS ?_ (hr := by rintro w' ⟨s0, s1, s2, s3⟩; go_simp; with_reducible rfl)
  refine tk 4 25 hS ?_ (hr := by rintro w' ⟨s0, s1, s2, s3⟩; go_simp; with_reducible rfl)
  refine on 1 27 (fun K hK => ?_)
  refine ca (HP.out _ _ _ (Rp.Row_C HR.out).2.2) Try.func110 ?_
  rintro e w5 ⟨vX, rfl, ⟨fX, hrX, hnX, hfX⟩, hb5⟩
  obtain ⟨AX, cX, rfl, _, _⟩ := Rp.Row_reads hrX
  replace HR := Aside0.mk (Rp.Row_below HR.out hb5); replace BK := Aside0.mk (blk_below BK.out hb5); replace GK := Aside0.mk (blk_below GK.out hb5); replace HB := Aside0.mk (below_then HB.out HB.out.size hb5)
  have hcv := Kd.C_string (P := Try.prog) (c := cX) Try.underlying22 Try.underlying5 Try.underlying9 (Rp.Row_C hrX).2.2
  clear hb5 hrX hnX hfX
  have hS2 : w5.cell? ⟨g, 0, none⟩ = some (.bool true) ∧ w5.cell? ⟨g, 1, none⟩ = some (.int .i64 (wrap64 (numL (seg b 2 6)))) ∧ w5.cell? ⟨g, 2, none⟩ = some (.slice A3 (bytesOf b).length c3) ∧ (convert 22 9 (.slice (some ad) b.length c)).run Try.prog w5 = .ok (.string (strOfNums b)) w5 := ⟨(blk_cell GK.out 0).trans rfl, (blk_cell GK.out 1).trans rfl, (blk_cell GK.out 2).trans rfl, Kd.C_string (P := Try.prog) Try.underlying22 Try.underlying5 Try.underlying9 (Kd.C_below HX.out HB.out)⟩
  refine ⟨_, rfl, nx hK hS2 (fun hS => ?_)⟩
  clear hK K
  refine on 2 31 (fun K hK => ?_)
  refine va ?_
  clear hcv
  refine nx hK hS2 (fun hS => ?_)
  clear hK K hS2
  refine pu 5 63 ?_
  refine dn ?_
  clear hS
  have y0 := (blk_cell GK.out 0).trans rfl; have y1 := (blk_cell GK.out 1).trans rfl; have y2 := (blk_cell GK.out 2).trans rfl
  have d0 := (blk_cell BK.out 0).trans rfl; have d1 := (blk_cell BK.out 1).trans rfl; have d2 := (blk_cell BK.out 2).trans rfl
  have z0 := blk_frozen BK.out 0; have z1 := blk_frozen BK.out 1; have z2 := blk_frozen BK.out 2
  go_wp2
  obtain ⟨BK2, q⟩ := set3 BK.out (.bool true) (.int .i64 (wrap64 (numL (seg b 2 6)))) (.slice A3 (bytesOf b).length c3)
  refine bodyPost_ret (results_cell_row rfl _ _ w.heap.size 138 #[.bool true, .int .i64 (wrap64 (numL (seg b 2 6))), .slice A3 (bytesOf b).length c3] (0, 0) _ rfl BK2 Try.underlying138 rfl (by kernel_rfl)) rfl ?_
  exact ⟨_, f, rfl, q.row HR.out (fun x hx hm => Rp.Row_not HR.out BK.out (by decide) (by simp at hm; exact hm ▸ hx)), HN.out, HF.out, q.toBelow HB.out HB.out.size (fun x hx => by simp at hx; omega)⟩
set_option maxHeartbeats 8000000 in
set_option maxRecDepth 100000 in
theorem implPageOf_n (A : Option Addr) (c : Nat) (b X : List Int) (w : World) (hx : kB.C w A b.length b) (hc : b.length ≤ c) (hb : BsOk b) (h64 : b.length = 64) (h56 : rd b 6 ≤ 56)
    (hp : ∀ (A : Option Addr) (c : Nat) (w : World), kB.C w A (bytesOf b).length (bytesOf b) → Calls Try.prog 110 #[.agg #[.bool true, .int .i64 (genOf b), .slice A (bytesOf b).length c]] w (GotRow rB 5 w X))
    (hs : ((strOfNums X).toList == (strOfNums b).toList) = false) :
    Calls Try.prog 146 #[.slice A b.length c] w (GotPg w false 0 []) := by
  have hb6 := (hb.rd 6).1
  have hl1 : 63 < b.length := by omega
  have hl2 : b.length ≤ 64 := by omega
  have HX := Aside0.mk hx; have HP := Aside0.mk hp; clear hx hb h64 hp
  have hE2 : wrap64 (8 + wrap64 (rd b 6)) = 8 + rd b 6 := by unfold wrap64; omega
  obtain ⟨A1, hcut1, hC1, hle1⟩ := mid_c (A := A) (c := c) (xs := b) 2 6 2 6 rfl rfl (by omega) (by omega) (by omega) hc
  obtain ⟨A2, hcut2, hC2, hle2⟩ := mid_c (A := A) (c := c) (xs := b) 8 (wrap64 (8 + wrap64 (rd b 6))) 8 _ rfl rfl (by omega) (by omega) (by omega) hc
  have hsg : seg b 8 (wrap64 (8 + wrap64 (rd b 6))).toNat = bytesOf b := by rw [hE2]; unfold bytesOf; congr 1; omega
  rw [hsg] at hcut2 hC2
  have hbl : (bytesOf b).length ≤ 56 := by unfold bytesOf; rw [seg_len b (by omega)]; omega
  clear hE2 hsg
  obtain ⟨ad, e1, c6⟩ := Kd.at_int HX.out 6 (by omega) (by omega)
  cases e1
  have HC1 := Aside0.mk hC1; have HC2 := Aside0.mk hC2; clear hC1 hC2
  simp only [show (6 : Int).toNat = 6 from rfl, Go.Addr.add, Nat.reduceEqDiff, if_false] at c6
  have C6 := Aside0.mk c6
  have BK := Aside0.mk (blk_new w (.cells #[.bool false, .int .i64 0, .slice none 0 0] 138))
  have HB := Aside0.mk (below_alloc (Below.refl w.heap.size w) (.cells #[.bool false, .int .i64 0, .slice none 0 0] 138))
  go_enter Try.func146, Try.ntmps146
  go_upto_region 1 with (fail)
  replace c6 := pw_cell_below HB.out c6
  generalize w.alloc _ = w0 at BK HB c6 ⊢
  go_upto_region 3 with (fail)
  refine sta (fun w' => w'.cell? ⟨ad.block, ad.off + 6, none⟩ = some (.int .u8 (rd b 6))) [] 15 c6 (fun hS => ?_)
  replace BK := Aside0.mk (blk_drew BK.out); replace HB := Aside0.mk (below_drew HB.out)
  clear c6
  generalize w0.drew = w1 at BK HB hS ⊢
  refine pu 0 1 ?_
  refine pu 1 3 ?_
  refine pu 4 19 ?_
  refine pu 5 51 ?_
  refine pu 6 115 ?_
  refine tk 7 243 hS ?_
  refine pu 8 499 ?_
  refine pu 9 1011 ?_
  refine pu 10 2035 ?_
  refine join_ (σ := Value × Nat) 1 (bl 15 16383) (fun s => [(16, .int .u64 (numL (seg b 2 6))), (17, .int .i64 (wrap64 (numL (seg b 2 6)))), (25, s.1), (26, .agg #[.bool true, .int .i64 (wrap64 (numL (seg b 2 6))), s.1]), (3, .pointer (some ⟨s.2, 0, none⟩))]) (fun s w' => w'.cell? ⟨ad.block, ad.off + 6, none⟩ = some (.int .u8 (rd b 6)) ∧ Rp.Got rB 5 w.heap.size w' s.1 (bytesOf b) ∧ w'.heap[w.heap.size]? = some (.cells #[.bool false, .int .i64 0, .slice none 0 0] 138 (0, 0)) ∧ w'.heap[s.2]? = some (.cells #[.bool false, .int .i64 0, .slice none 0 0] 138 (0, 0)) ∧ w.heap.size < s.2 ∧ Below w.heap.size w w') ?_ ?_
  rotate_left
  · intro hCont
    refine tw 2 13 2039 10227 (fun K hK => ?_) (fun K hK => ?_)
    · skip
      refine ca (num_c _ _ _ _ (HC1.out _ (Kd.C_below HX.out HB.out))) Try.func162 ?_
      rintro e wd1 ⟨rfl, hE⟩
      have hE := hE.symm
      subst hE
      refine ⟨_, rfl, nx hK hS (fun hS => ?_)⟩
      clear hK K
      refine pu 3 2047 ?_
      refine tw 11 13 4095 10239 (fun K hK => ?_) (fun K hK => ?_)
      · skip
        refine ca (cp_c _ _ _ _ (HC2.out _ (Kd.C_below HX.out HB.out)) (by omega)) Try.func114 ?_
        rintro e wd2 ⟨v, rfl, ⟨f, hr, hn, hf⟩, hb2⟩
        obtain ⟨A3, c3, rfl, _, _⟩ := Rp.Row_reads hr
        refine ⟨_, rfl, nx hK (pw_cell_below hb2 hS) (fun hS => ?_)⟩
        clear hK K
        have GR0 : Aside0 (Rp.Got rB 5 w.heap.size wd2 (.slice A3 (bytesOf b).length c3) (bytesOf b)) := ⟨⟨f, hr, hn, fun x hx => Nat.le_trans HB.out.size (hf x hx)⟩⟩
        replace BK := Aside0.mk (blk_below BK.out hb2)
        replace HB := Aside0.mk (below_then HB.out HB.out.size hb2)
        have GR := GR0
        clear GR0 hr hn hf hb2
        refine pu 12 8191 ?_
        refine on 13 16383 (fun K hK => ?_)
        refine va ?_
        refine nx hK (pw_cell_below (below_alloc (Below.refl _ _) _) hS) (fun hS => ?_)
        clear hK K
        generalize hg : wd2.heap.size = g at hS ⊢
        generalize hw3 : wd2.alloc _ = wd3 at hS ⊢
        obtain ⟨K3, hb3, hsz⟩ := alloc1 hw3
        clear hw3 hsz
        rw [hg] at K3
        have GW : Aside0 (w.heap.size < g) := ⟨by rw [← hg]; exact blk_lt BK.out⟩
        replace BK := Aside0.mk (blk_below BK.out hb3)
        replace GR := Aside0.mk (got_below GR.out hb3)
        replace HB := Aside0.mk (below_then HB.out HB.out.size hb3)
        have GK := Aside0.mk K3
        clear K3 hb3 hg
        exact norm_ (by simp only [putAll, Act.put, List.setIfInBounds_toArray, List.set_cons_zero, List.set_cons_succ]) (hCont (.slice A3 (bytesOf b).length c3, g) _ ⟨hS, GR.out, BK.out, GK.out, GW.out, HB.out⟩)
      · skip
        refine va ?_
        refine nx hK (pw_cell_below (below_alloc (Below.refl _ _) _) hS) (fun hS => ?_)
        clear hK K
        generalize hg : w1.heap.size = g at hS ⊢
        generalize hw3 : w1.alloc _ = wd4 at hS ⊢
        obtain ⟨K3, hb3, hsz⟩ := alloc1 hw3
        clear hw3 hsz
        rw [hg] at K3
        have GW : Aside0 (w.heap.size < g) := ⟨by rw [← hg]; exact blk_lt BK.out⟩
        replace BK := Aside0.mk (blk_below BK.out hb3)
        replace HB := Aside0.mk (below_then HB.out HB.out.size hb3)
        have GK := Aside0.mk K3
        clear K3 hb3 hg
        refine on 11 12287 (fun K hK => ?_)
        refine ca (cp_c _ _ _ _ (HC2.out _ (Kd.C_below HX.out HB.out)) (by omega)) Try.func114 ?_
        rintro e wd5 ⟨v, rfl, ⟨f, hr, hn, hf⟩, hb2⟩
        obtain ⟨A3, c3, rfl, _, _⟩ := Rp.Row_reads hr
        refine ⟨_, rfl, nx hK (pw_cell_below hb2 hS) (fun hS => ?_)⟩
        clear hK K
        have GR0 : Aside0 (Rp.Got rB 5 w.heap.size wd5 (.slice A3 (bytesOf b).length c3) (bytesOf b)) := ⟨⟨f, hr, hn, fun x hx => Nat.le_trans HB.out.size (hf x hx)⟩⟩
        replace BK := Aside0.mk (blk_below BK.out hb2)
        replace GK := Aside0.mk (blk_below GK.out hb2)
        replace HB := Aside0.mk (below_then HB.out HB.out.size hb2)
        have GR := GR0
        clear GR0 hr hn hf hb2
        refine pu 12 16383 ?_
        exact norm_ (by simp only [putAll, Act.put, List.setIfInBounds_toArray, List.set_cons_zero, List.set_cons_succ]) (hCont (.slice A3 (bytesOf b).length c3, g) _ ⟨hS, GR.out, BK.out, GK.out, GW.out, HB.out⟩)
    · skip
      refine va ?_
      refine nx hK (pw_cell_below (below_alloc (Below.refl _ _) _) hS) (fun hS => ?_)
      clear hK K
      generalize hg : w1.heap.size = g at hS ⊢
      generalize hw3 : w1.alloc _ = wd6 at hS ⊢
      obtain ⟨K3, hb3, hsz⟩ := alloc1 hw3
      clear hw3 hsz
      rw [hg] at K3
      have GW : Aside0 (w.heap.size < g) := ⟨by rw [← hg]; exact blk_lt BK.out⟩
      replace BK := Aside0.mk (blk_below BK.out hb3)
      replace HB := Aside0.mk (below_then HB.out HB.out.size hb3)
      have GK := Aside0.mk K3
      clear K3 hb3 hg
      refine on 2 10231 (fun K hK => ?_)
      refine ca (num_c _ _ _ _ (HC1.out _ (Kd.C_below HX.out HB.out))) Try.func162 ?_
      rintro e wd7 ⟨rfl, hE⟩
      have hE := hE.symm
      subst hE
      refine ⟨_, rfl, nx hK hS (fun hS => ?_)⟩
      clear hK K
      refine pu 3 10239 ?_
      refine on 11 12287 (fun K hK => ?_)
      refine ca (cp_c _ _ _ _ (HC2.out _ (Kd.C_below HX.out HB.out)) (by omega)) Try.func114 ?_
      rintro e wd8 ⟨v, rfl, ⟨f, hr, hn, hf⟩, hb2⟩
      obtain ⟨A3, c3, rfl, _, _⟩ := Rp.Row_reads hr
      refine ⟨_, rfl, nx hK (pw_cell_below hb2 hS) (fun hS => ?_)⟩
      clear hK K
      have GR0 : Aside0 (Rp.Got rB 5 w.heap.size wd8 (.slice A3 (bytesOf b).length c3) (bytesOf b)) := ⟨⟨f, hr, hn, fun x hx => Nat.le_trans HB.out.size (hf x hx)⟩⟩
      replace BK := Aside0.mk (blk_below BK.out hb2)
      replace GK := Aside0.mk (blk_below GK.out hb2)
      replace HB := Aside0.mk (below_then HB.out HB.out.size hb2)
      have GR := GR0
      clear GR0 hr hn hf hb2
      refine pu 12 16383 ?_
      exact norm_ (by simp only [putAll, Act.put, List.setIfInBounds_toArray, List.set_cons_zero, List.set_cons_succ]) (hCont (.slice A3 (bytesOf b).length c3, g) _ ⟨hS, GR.out, BK.out, GK.out, GW.out, HB.out⟩)
  rintro ⟨v, g⟩ wj ⟨hS, GR, BK0, GK, GW, HB0⟩
  clear BK HB
  have GW : w.heap.size < g := GW
  have GK : wj.heap[g]? = some (.cells #[.bool false, .int .i64 0, .slice none 0 0] 138 (0, 0)) := GK
  refine norm_ (a' := ?_) ?_ ?_
  rotate_left
  · simp only [putAll, Act.put, List.setIfInBounds_toArray, List.set_cons_zero, List.set_cons_succ]
    rfl
  obtain ⟨f, hr, hn, hf⟩ := GR
  obtain ⟨A3, c3, rfl, _, _⟩ := Rp.Row_reads hr
  have d0 := (blk_cell GK 0).trans rfl; have d1 := (blk_cell GK 1).trans rfl; have d2 := (blk_cell GK 2).trans rfl
  have z0 := blk_frozen GK 0; have z1 := blk_frozen GK 1; have z2 := blk_frozen GK 2
  obtain ⟨GK2, q3⟩ := set3 GK (.bool true) (.int .i64 (wrap64 (numL (seg b 2 6)))) (.slice A3 (bytesOf b).length c3)
  refine on 14 32767 (fun K hK => ?_)
  refine st ?_
  have HR := Aside0.mk (q3.row hr (fun x hx hm => Rp.Row_not hr GK (by decide) (by simp at hm; exact hm ▸ hx)))
  have BK := Aside0.mk (q3.blk BK0 (by simp; omega))
  have HB := Aside0.mk (q3.toBelow HB0 HB0.size (fun x hx => by simp at hx; omega))
  have GK := Aside0.mk GK2
  have HN := Aside0.mk hn; have HF := Aside0.mk hf
  refine nx hK (pw_cell_below HB.out C6.out) (fun hS => dn ?_)
  clear hK K hS d0 d1 d2 z0 z1 z2 q3 GK2 hr hn hf BK0 HB0
  generalize ((wj.setCell _ _).setCell _ _).setCell _ _ = w3 at HR BK HB GK ⊢
  go_upto_region 4 with (fail)
  have hs1 : ((strOfNums X).toList != (strOfNums b).toList) = true := by simp only [bne, hs]; rfl
  refine sta (fun w' => w'.cell? ⟨g, 0, none⟩ = some (.bool true) ∧ w'.cell? ⟨g, 1, none⟩ = some (.int .i64 (wrap64 (numL (seg b 2 6)))) ∧ w'.cell? ⟨g, 2, none⟩ = some (.slice A3 (bytesOf b).length c3) ∧ (convert 22 9 (.slice (some ad) b.length c)).run Try.prog w' = .ok (.string (strOfNums b)) w') [] 6 ⟨(blk_cell GK.out 0).trans rfl, (blk_cell GK.out 1).trans rfl, (blk_cell GK.out 2).trans rfl, Kd.C_string (P := Try.prog) Try.underlying22 Try.underlying5 Try.underlying9 (Kd.C_drew (Kd.C_below HX.out HB.out))⟩ (fun hS => ?_)
  replace HR := Aside0.mk (Rp.Row_drew HR.out); replace BK := Aside0.mk (blk_drew BK.out); replace HB := Aside0.mk (below_drew HB.out); replace GK := Aside0.mk (blk_drew GK.out)
  generalize w3.drew = w4 at HR BK HB GK hS ⊢
  refine pu 3 8 ?_
  refine tk 0 9 hS ?_ (hr := by rintro w' ⟨s0, s1, s2, s3⟩; go_simp; with_reducible rfl)
  refine tk 4 25 hS ?_ (hr := by rintro w' ⟨s0, s1, s2, s3⟩; go_simp; with_reducible rfl)
  refine on 1 27 (fun K hK => ?_)
  refine ca (HP.out _ _ _ (Rp.Row_C HR.out).2.2) Try.func110 ?_
  rintro e w5 ⟨vX, rfl, ⟨fX, hrX, hnX, hfX⟩, hb5⟩
  obtain ⟨AX, cX, rfl, _, _⟩ := Rp.Row_reads hrX
  replace HR := Aside0.mk (Rp.Row_below HR.out hb5); replace BK := Aside0.mk (blk_below BK.out hb5); replace GK := Aside0.mk (blk_below GK.out hb5); replace HB := Aside0.mk (below_then HB.out HB.out.size hb5)
  have hcv := Kd.C_string (P := Try.prog) (c := cX) Try.underlying22 Try.underlying5 Try.underlying9 (Rp.Row_C hrX).2.2
  clear hb5 hrX hnX hfX
  have hS2 : w5.cell? ⟨g, 0, none⟩ = some (.bool true) ∧ w5.cell? ⟨g, 1, none⟩ = some (.int .i64 (wrap64 (numL (seg b 2 6)))) ∧ w5.cell? ⟨g, 2, none⟩ = some (.slice A3 (bytesOf b).length c3) ∧ (convert 22 9 (.slice (some ad) b.length c)).run Try.prog w5 = .ok (.string (strOfNums b)) w5 := ⟨(blk_cell GK.out 0).trans rfl, (blk_cell GK.out 1).trans rfl, (blk_cell GK.out 2).trans rfl, Kd.C_string (P := Try.prog) Try.underlying22 Try.underlying5 Try.underlying9 (Kd.C_below HX.out HB.out)⟩
  refine ⟨_, rfl, nx hK hS2 (fun hS => ?_)⟩
  clear hK K
  refine on 2 31 (fun K hK => ?_)
  refine va ?_
  clear hcv
  refine nx hK hS2 (fun hS => ?_)
  clear hK K hS2
  refine pu 5 63 ?_
  refine dn ?_
  clear hS
  have d0 := (blk_cell BK.out 0).trans rfl; have d1 := (blk_cell BK.out 1).trans rfl; have d2 := (blk_cell BK.out 2).trans rfl
  have z0 := blk_frozen BK.out 0; have z1 := blk_frozen BK.out 1; have z2 := blk_frozen BK.out 2
  go_wp2
  obtain ⟨BK2, q⟩ := set3 BK.out (.bool false) (.int .i64 0) (.slice none 0 0)
  refine bodyPost_ret (results_cell_row rfl _ _ w.heap.size 138 #[.bool false, .int .i64 0, .slice none 0 0] (0, 0) _ rfl BK2 Try.underlying138 rfl (by kernel_rfl)) rfl ?_
  exact ⟨_, [], rfl, Rp.Row_nil _ _ _, by simp, by simp, q.toBelow HB.out HB.out.size (fun x hx => by simp at hx; omega)⟩
set_option maxHeartbeats 1000000 in
theorem implPageOf_early (A : Option Addr) (c : Nat) (b : List Int) (w : World) (hx : kB.C w A b.length b) (hb : BsOk b) (hno : ¬ (b.length = 64 ∧ rd b 6 ≤ 56)) :
    Calls Try.prog 146 #[.slice A b.length c] w (GotPg w false 0 []) := by
  have hbl : b.length ≤ 9223372036854775807 := hx.2.1
  have hb6 := hb.rd 6
  have hb60 := hb6.1
  have hb61 := hb6.2
  have HX := Aside0.mk hx; have HN := Aside0.mk hno; clear hx hb hno hb6
  have BK := Aside0.mk (blk_new w (.cells #[.bool false, .int .i64 0, .slice none 0 0] 138))
  have HB := Aside0.mk (below_alloc (Below.refl w.heap.size w) (.cells #[.bool false, .int .i64 0, .slice none 0 0] 138))
  go_enter Try.func146, Try.ntmps146
  go_upto_region 1 with (fail)
  generalize w.alloc _ = w0 at BK HB ⊢
  have d0 := (blk_cell BK.out 0).trans rfl; have d1 := (blk_cell BK.out 1).trans rfl; have d2 := (blk_cell BK.out 2).trans rfl
  have z0 := blk_frozen BK.out 0; have z1 := blk_frozen BK.out 1; have z2 := blk_frozen BK.out 2
  by_cases h : (b.length : Int) = 64
  · have h56 : 56 < rd b 6 := by
      have := HN.out
      rcases Int.lt_or_le 56 (rd b 6) with h' | h'
      · exact h'
      · exact absurd ⟨by omega, h'⟩ this
    have hl1 : 63 < b.length := by omega
    have hl2 : b.length ≤ 64 := by omega
    clear h
    obtain ⟨ad, e1, c6⟩ := Kd.at_int HX.out 6 (by omega) (by omega)
    cases e1
    simp only [show (6 : Int).toNat = 6 from rfl, Go.Addr.add, Nat.reduceEqDiff, if_false] at c6
    replace c6 := pw_cell_below HB.out c6
    go_wp2
    obtain ⟨BK2, q⟩ := set3 BK.out (.bool false) (.int .i64 0) (.slice none 0 0)
    refine bodyPost_ret (results_cell_row rfl _ _ w.heap.size 138 #[.bool false, .int .i64 0, .slice none 0 0] (0, 0) _ rfl BK2 Try.underlying138 rfl (by kernel_rfl)) rfl ?_
    exact ⟨_, [], rfl, Rp.Row_nil _ _ _, by simp, by simp, q.toBelow HB.out HB.out.size (fun x hx => by simp at hx; omega)⟩
  · have h' := eqF h
    go_wp2
    obtain ⟨BK2, q⟩ := set3 BK.out (.bool false) (.int .i64 0) (.slice none 0 0)
    refine bodyPost_ret (results_cell_row rfl _ _ w.heap.size 138 #[.bool false, .int .i64 0, .slice none 0 0] (0, 0) _ rfl BK2 Try.underlying138 rfl (by kernel_rfl)) rfl ?_
    exact ⟨_, [], rfl, Rp.Row_nil _ _ _, by simp, by simp, q.toBelow HB.out HB.out.size (fun x hx => by simp at hx; omega)⟩
theorem str_same {a b : List Int} (ha : BsOk a) (hb : BsOk b) : ((strOfNums a).toList == (strOfNums b).toList) = decide (a = b) := by
  by_cases h : a = b
  · subst h; simp
  · rw [decide_eq_false h]
    exact beq_eq_false_iff_ne.mpr (fun e => h (Math.strOfNums_inj (fun x hx => by have := ha x hx; omega) (fun x hx => by have := hb x hx; omega) (Math.toList_inj e)))
theorem BsOk.append {a b : List Int} (ha : BsOk a) (hb : BsOk b) : BsOk (a ++ b) := fun x hx => (List.mem_append.1 hx).elim (ha x) (hb x)
theorem BsOk.seg {a : List Int} (ha : BsOk a) (i j : Nat) : BsOk (seg a i j) := fun x hx => ha x (List.mem_of_mem_take (List.mem_of_mem_drop hx))
theorem BsOk.low (v : Int) : ∀ i, BsOk (lowTo v i)
  | 0 => fun x hx => by cases hx
  | i + 1 => (BsOk.low v i).append fun x hx => by simp at hx; subst hx; omega
theorem sumTo_ok (xs : List Int) : ∀ i, 0 ≤ sumTo xs i ∧ sumTo xs i < 256
  | 0 => by simp [sumTo]
  | i + 1 => by
    simp only [sumTo]
    split
    · exact sumTo_ok xs i
    · rw [IntKind.wrap_u8]; omega
theorem block_ok {gen : Int} {bytes : List Int} (hb : BsOk bytes) (hl : bytes.length ≤ 56) : BsOk (blockL gen bytes) := by
  have h1 : BsOk (preL gen bytes) := by
    unfold preL pre0
    refine ((((BsOk.append ?_ (BsOk.low _ _)).append ?_).append hb).append ?_)
    · intro x hx; simp at hx; omega
    · intro x hx; simp at hx; omega
    · intro x hx; rw [List.mem_replicate] at hx; omega
  intro x hx
  unfold blockL at hx
  rcases List.mem_or_eq_of_mem_set hx with h | h
  · exact h1 x h
  · rw [h]; exact sumTo_ok _ _
theorem bytesOf_len {b : List Int} (hb : BsOk b) (h64 : b.length = 64) (h56 : rd b 6 ≤ 56) : (bytesOf b).length ≤ 56 := by
  have := (hb.rd 6).1
  unfold bytesOf; rw [seg_len b (by omega)]; omega
theorem implPageOf_yes (A : Option Addr) (c : Nat) (b : List Int) (w : World) (hx : kB.C w A b.length b) (hc : b.length ≤ c) (hb : BsOk b) (h : PgIs b) :
    Calls Try.prog 146 #[.slice A b.length c] w (GotPg w true (genOf b) (bytesOf b)) := by
  obtain ⟨h64, h56, hok, he⟩ := h
  refine implPageOf_y A c b b w hx hc hb h64 h56 (fun A c w hx => ?_) (by simp)
  have := implPageBlock_yes A c (genOf b) (bytesOf b) w hx hok
  rw [he] at this
  exact this
theorem implPageOf_no (A : Option Addr) (c : Nat) (b : List Int) (w : World) (hx : kB.C w A b.length b) (hc : b.length ≤ c) (hb : BsOk b) (h : ¬ PgIs b) :
    Calls Try.prog 146 #[.slice A b.length c] w (GotPg w false 0 []) := by
  by_cases h1 : b.length = 64 ∧ rd b 6 ≤ 56
  · obtain ⟨h64, h56⟩ := h1
    have hl := bytesOf_len hb h64 h56
    by_cases hok : PgOk true (genOf b) (bytesOf b)
    · refine implPageOf_n A c b (blockL (genOf b) (bytesOf b)) w hx hc hb h64 h56 (fun A c w hx => implPageBlock_yes A c _ _ w hx hok) ?_
      rw [str_same (block_ok (show BsOk (bytesOf b) from hb.seg _ _) hl) hb]
      exact decide_eq_false (fun e => h ⟨h64, h56, hok, e⟩)
    · refine implPageOf_n A c b [] w hx hc hb h64 h56 (fun A c w hx => implPageBlock_no A c _ _ _ w (by omega) hok) ?_
      rw [str_same (fun x hx => by cases hx) hb]
      exact decide_eq_false (fun e => by rw [← e] at h64; cases h64)
  · exact implPageOf_early A c b w hx hb h1
end Go.Proofs.Ytocdlibnmlcokaa
