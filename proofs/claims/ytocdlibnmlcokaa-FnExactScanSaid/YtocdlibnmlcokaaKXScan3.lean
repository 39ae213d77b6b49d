/- Contracts and words that FnExactScan rests on, part 3: for every world; conditions as each theorem says. -/
import Derived.Test.YtocdlibnmlcokaaWEqStruct
import Derived.Test.YtocdlibnmlcokaaWWords
import Derived.Test.YtocdlibnmlcokaaWMore
import Derived.ChangeArms
import Derived.ChangeSlices
import Derived.Deep.Slices
import Derived.Test.YtocdlibnmlcokaaKXScan2
namespace Go.Proofs.Ytocdlibnmlcokaa
open Go.RowKit Go.Proofs.YtocdlibnmlcokaaW.PrintWords Go.Proofs.YtocdlibnmlcokaaW.PrintLast
set_option linter.unusedVariables false
set_option linter.unusedSimpArgs false
def setTo (bs : List (List Int)) (ws : List Wr) (kf : Nat → Bool) : Nat → List (List Int)
  | 0 => bs
  | i + 1 => if kf i then (setTo bs ws kf i).set (ws.getD i ⟨0, []⟩).block.toNat (ws.getD i ⟨0, []⟩).bytes else setTo bs ws kf i
theorem setTo_len (bs : List (List Int)) (ws : List Wr) (kf : Nat → Bool) : ∀ i, (setTo bs ws kf i).length = bs.length
  | 0 => rfl
  | i + 1 => by
    simp only [setTo]
    split
    · rw [List.length_set, setTo_len bs ws kf i]
    · exact setTo_len bs ws kf i
def settleL (bs : List (List Int)) (ws : List Wr) (kf : Nat → Bool) : List (List Int) := setTo bs ws kf ws.length
def kfL (all : Bool) (kl : List Bool) (i : Nat) : Bool := all || kl.getD i false
theorem elem_at {α : Type} {r : Rp α} {e g cap n : Nat} {w : World} {xs : List α} {css : List (List Value)} {fps : List (List Nat)} (ho : w.ownsRow 0 e r.d.sz (.slice (some ⟨g, 0, none⟩) n cap) n css.flatten) (ha : All3 (r.P w) xs css fps) (i : Nat) (hi : i < xs.length) :
    ∃ cs, r.P w xs[i] cs (fps[i]'(by rw [ha.len2]; exact hi)) ∧ ∀ j u, cs[j]? = some u → w.cell? ⟨g, i * r.d.sz + j, none⟩ = some u := by
  refine ⟨css[i]'(by rw [ha.len1]; exact hi), ha.get hi _ _, fun j u hu => ?_⟩
  have := ho.cells (g := g) rfl _ u (flat_at (Rp.all_len ha) (by rw [ha.len1]; exact hi) hu)
  rwa [add_plain] at this
theorem All3_loc {α : Type} {r : Rp α} {w w1 : World} {xs : List α} {css : List (List Value)} {fps : List (List Nat)} (ha : All3 (r.P w) xs css fps) (hm : ∀ b ∈ fps.flatten, w1.heap[b]? = w.heap[b]?) : All3 (r.P w1) xs css fps :=
  ha.imp fun a b c hc hP => r.loc hP fun k hk => hm k (List.mem_flatten.2 ⟨c, hc, hk⟩)
def Parts (w : World) (v : Value) (ws : List Wr) (css : List (List Value)) (fps : List (List Nat)) : Prop :=
  w.ownsRow 0 147 2 v ws.length css.flatten ∧ All3 (rW.P w) ws css fps
theorem Parts.row {w : World} {v : Value} {ws : List Wr} {css : List (List Value)} {fps : List (List Nat)} (h : Parts w v ws css fps) : rW.Row 147 w v ws (v.ownBlock.toList ++ fps.flatten) := ⟨css, fps, h.1, h.2, rfl⟩
theorem Parts.kp {w w1 : World} {v : Value} {ws : List Wr} {css : List (List Value)} {fps : List (List Nat)} {S : List Nat} (h : Parts w v ws css fps) (k : Kp w w1 S) (hS : ∀ b ∈ v.ownBlock.toList ++ fps.flatten, b ∉ S) : Parts w1 v ws css fps := by
  have hlt := Rp.Row_lt h.row
  obtain ⟨ho, ha⟩ := h
  refine ⟨own_move ho fun b hb => ?_, All3_loc ha fun b hb => k.block b (hlt b (List.mem_append_right _ hb)) (hS b (List.mem_append_right _ hb))⟩
  have hm : b ∈ v.ownBlock.toList ++ fps.flatten := List.mem_append_left _ (by rw [hb]; simp)
  exact k.block b (hlt b hm) (hS b hm)
set_option maxRecDepth 100000 in
set_option maxHeartbeats 4000000 in
theorem l2settle_c (A0 A1 A2 : Option Addr) (c0 c1 c2_ : Nat) (bs : List (List Int)) (ws : List Wr) (all : Bool) (kl : List Bool) (w : World) (hx : rBS.d.C w A0 bs.length bs) (hy : rW.d.C w A1 ws.length ws) (hk : Kd.bool.C w A2 kl.length kl) (hd : DkOk bs ws) :
    Calls Try.prog 125 #[.agg #[.slice A0 bs.length c0, .slice A1 ws.length c1], .bool all, .slice A2 kl.length c2_] w (GotDisk w (settleL bs ws (kfL all kl)) []) := by
  have hb0 := below_alloc (below_alloc (Below.refl w.heap.size w) (.cells #[.slice A0 bs.length c0, .slice A1 ws.length c1] 43)) (.cells #[.slice none 0 0, .slice none 0 0] 43)
  have BK2 := Aside0.mk (blk_new' (w := w.alloc (.cells #[.slice A0 bs.length c0, .slice A1 ws.length c1] 43)) (.cells #[.slice none 0 0, .slice none 0 0] 43) (n := w.heap.size + 1) (by simp))
  have HX := Aside0.mk (Kd.C_below hx hb0); have HY := Aside0.mk (Kd.C_below hy hb0); have HKL := Aside0.mk hk; have HB0 := Aside0.mk hb0
  have hkl : kl.length ≤ 9223372036854775807 := hk.2.1
  have HD := Aside0.mk hd
  clear hx hy hk hb0 hd
  go_enter Try.func125, Try.ntmps125
  go_wp2_with fail
  refine (l2copy_c _ _ bs _ _ ws _ HX.out HY.out (by have := HD.out.1; omega) (by have := HD.out.2.1; omega) (fun x hx => by have := HD.out.2.2.1 x hx; omega) (fun x hx => by have := HD.out.2.2.2 x hx; omega)).mono ?_
  rintro e w2 ⟨v0, v1, f0i, f1, rfl, r0, r1, hnd, hge, hb2⟩
  obtain ⟨Ap, cp_, rfl, _, _⟩ := Rp.Row_reads r0
  obtain ⟨Aq, cq, rfl, _, _⟩ := Rp.Row_reads r1
  obtain ⟨css, fps, ho, ha, rfl⟩ := r1
  have q2 : Parts w2 (.slice Aq ws.length cq) ws css fps := ⟨ho, ha⟩
  have hwl : (ws.length : Int) ≤ 200 := by have := HD.out.2.1; omega
  clear ho ha
  replace BK2 := Aside0.mk (blk_below BK2.out hb2)
  have HB2 := Aside0.mk (below_then HB0.out (by simp; omega) hb2)
  have HND := Aside0.mk hnd
  have HGE : Aside0 (∀ x ∈ f0i ++ ((Value.slice Aq ws.length cq).ownBlock.toList ++ fps.flatten), w.heap.size ≤ x) := ⟨fun x hx => by have := hge x hx; simp at this; omega⟩
  have HG0 : Aside0 (∀ b ∈ (Value.slice Ap bs.length cp_).ownBlock.toList, b ∉ fps.flatten) := ⟨fun b hb hm => by
    have h1 : b ∈ f0i := Rp.Row_block r0 (by cases hv : (Value.slice Ap bs.length cp_).ownBlock with | none => rw [hv] at hb; simp at hb | some k => rw [hv] at hb; simp at hb; rw [hb])
    exact (List.nodup_append.1 hnd).2.2 b h1 b (List.mem_append_right _ hm) rfl⟩
  clear hnd hge hb2 HX HY HB0
  go_wp2_with fail
  generalize hw3 : w2.alloc _ = w3
  obtain ⟨k7, hb3, hs3⟩ := alloc1 hw3
  clear hw3
  have hne : w.heap.size + 1 < w2.heap.size := blk_lt BK2.out
  have BK7 := Aside0.mk k7
  replace BK2 := Aside0.mk (blk_below BK2.out hb3)
  have R0 := Aside0.mk (Rp.Row_below r0 hb3)
  have Q0 := Aside0.mk (q2.kp (Kp.below hb3) (by simp))
  have hsz := HB2.out.size
  have HB3 := Aside0.mk (below_then HB2.out HB2.out.size hb3)
  clear k7 hb3 hs3 HB2 r0 q2
  generalize w2.heap.size = g7 at BK7 hne hsz ⊢
  go_loopg [15] ws.length (fun m vi wr => ∃ (i : Int) (f0 : List Nat), vi = .int .i64 i ∧ Aside0 (0 ≤ i ∧ i ≤ ws.length ∧ ws.length - i.toNat ≤ m) ∧ Aside0 (rBS.Row 22 wr (.slice Ap bs.length cp_) (setTo bs ws (kfL all kl) i.toNat) f0) ∧ Aside0 (Parts wr (.slice Aq ws.length cq) ws css fps)
    ∧ Aside0 (f0.Nodup ∧ ∀ b ∈ f0, b ∈ f0i ∨ ∃ j, ∃ h : j < fps.length, j < i.toNat ∧ b ∈ fps[j]) ∧ Aside0 (wr.heap[w.heap.size + 1]? = some (.cells #[.slice none 0 0, .slice none 0 0] 43 (0, 0))) ∧ Aside0 (wr.heap[g7]? = some (.cells #[.slice Ap bs.length cp_, .slice Aq ws.length cq] 43 (0, 0))) ∧ Aside0 (Below w.heap.size w wr))
  case atStart => exact ⟨0, f0i, rfl, ⟨by simp⟩, R0, Q0, ⟨(List.nodup_append.1 HND.out).1, fun b hb => .inl hb⟩, BK2, BK7, HB3⟩
  case round =>
    clear R0 Q0 BK2 BK7 HB3
    obtain ⟨i, f0, rfl, HI, HO, HQ, HF, BK2, BK7, HB⟩ := hrel
    have hge0 : Aside0 (∀ b ∈ f0, w.heap.size ≤ b) := ⟨fun b hb => by
      rcases HF.out.2 b hb with h | ⟨j, hj, _, h⟩
      · exact HGE.out b (List.mem_append_left _ h)
      · exact HGE.out b (List.mem_append_right _ (List.mem_append_right _ (List.mem_flatten.2 ⟨_, List.getElem_mem hj, h⟩)))⟩
    by_cases hlt : i < (ws.length : Int)
    · have hi0 : 0 ≤ i := HI.out.1
      have hil : i.toNat < ws.length := by omega
      obtain ⟨gq, capq, hvq, _, _⟩ := Rp.Row_form HQ.out.row (by omega)
      injection hvq with hAq _ hcq
      subst hAq; subst hcq
      obtain ⟨css_, hP, hcell⟩ := elem_at HQ.out.1 HQ.out.2 i.toNat hil
      have hfl : i.toNat < fps.length := by rw [HQ.out.2.len2]; exact hil
      have hgx : ws.getD i.toNat ⟨0, []⟩ = ws[i.toNat] := by simp [List.getD_eq_getElem?_getD, hil]
      have hxo := HD.out.2.2.2 _ (List.getElem_mem (l := ws) hil)
      generalize hxx : ws[i.toNat] = x at hP hgx hxo
      have HGX := Aside0.mk hgx
      obtain ⟨v, rfl, hri⟩ := W_open hP
      obtain ⟨Ai, ci, rfl, _, _⟩ := Rp.Row_reads hri
      have c0 : wr.cell? ⟨gq, i.toNat * 2, none⟩ = _ := hcell 0 _ rfl
      have c1 : wr.cell? ⟨gq, i.toNat * 2 + 1, none⟩ = _ := hcell 1 _ rfl
      have Hri : Aside0 (rB.Row 5 wr (.slice Ai x.bytes.length ci) x.bytes (fps[i.toNat]'hfl)) := ⟨hri⟩
      have hx0 := hxo.1; have hx1 : x.block < (bs.length : Int) := by have := HD.out.1; omega
      have k8 := (blk_cell (blk_alloc BK7.out (.cells #[.int .i64 x.block, .slice Ai x.bytes.length ci] 147)) 0).trans rfl
      have HXO := Aside0.mk hxo
      clear hP hcell hgx hri hxx hxo
      have hout : ¬ kfL all kl i.toNat = true → setTo bs ws (kfL all kl) (i + 1).toNat = setTo bs ws (kfL all kl) i.toNat := by
        intro hn
        rw [show (i + 1).toNat = i.toNat + 1 by omega]; simp only [setTo]; rw [if_neg hn]
      have HOUT := Aside0.mk hout; clear hout
      cases all with
      | true =>
        have hkf : kfL true kl i.toNat = true := rfl
        obtain ⟨g0, cap0, hv0, hg0m, _⟩ := Rp.Row_form HO.out (by rw [setTo_len]; have := HD.out.1; omega)
        rw [setTo_len] at hv0
        injection hv0 with hA0 _ hc0
        subst hA0; subst hc0
        obtain ⟨csb, fb, hPb, _, _, _, hcellb, hfrb, _, hst⟩ := Rp.Row_elem (Rp.Row_alloc HO.out (.cells #[.int .i64 x.block, .slice Ai x.bytes.length ci] 147)) HF.out.1 x.block.toNat (by rw [setTo_len]; have := HD.out.1; omega)
        obtain ⟨vb, rfl, _⟩ := hPb
        have e0 : x.block.toNat * rBS.d.sz + 0 = x.block.toNat := Nat.mul_one _
        have c5 := hcellb 0 _ rfl
        rw [e0] at c5
        have z5 := hfrb x.block.toNat
        have hnd1 := List.nodup_append.1 HND.out
        have hnd2 := List.nodup_append.1 hnd1.2.1
        have hnotf : ∀ b ∈ fps[i.toNat]'hfl, b ∉ f0 := fun b hb hm => by
          rcases HF.out.2 b hm with h | ⟨j, hj, hji, h⟩
          · exact hnd1.2.2 b h b (List.mem_append_right _ (List.mem_flatten.2 ⟨_, List.getElem_mem hfl, hb⟩)) rfl
          · exact nodup_flat_ne hj hfl hnd2.2.1 (by omega) h hb
        have hga : g0 ∉ fps[i.toNat]'hfl := fun h => hnotf g0 h hg0m
        have hq0 : ∀ b ∈ (Value.slice (some ⟨gq, 0, none⟩) ws.length cq).ownBlock.toList ++ fps.flatten, b ≠ g0 := by
          intro b hb he
          subst he
          rcases List.mem_append.1 hb with h | h
          · rcases HF.out.2 b hg0m with h2 | ⟨j, hj, _, h2⟩
            · exact hnd1.2.2 b h2 b (List.mem_append_left _ h) rfl
            · exact hnd2.2.2 b h b (List.mem_flatten.2 ⟨_, List.getElem_mem hj, h2⟩) rfl
          · exact HG0.out b (by simp [Value.ownBlock]) h
        obtain ⟨fp', hr', hn', hf', _⟩ := hst 0 (.slice Ai x.bytes.length ci) x.bytes (fps[i.toNat]'hfl) (by decide) ⟨_, rfl, Rp.Row_far (Rp.Row_alloc Hri.out _) (p := ⟨g0, x.block.toNat * rBS.d.sz + 0, none⟩) hga _⟩ (nodup_flat_mem hnd2.2.1 (List.getElem_mem _)) (fun b hb => .inr (hnotf b hb)) (.inr hnotf)
        rw [e0] at hr'
        have hset : (setTo bs ws (kfL true kl) i.toNat).set x.block.toNat x.bytes = setTo bs ws (kfL true kl) (i + 1).toNat := by
          rw [show (i + 1).toNat = i.toNat + 1 by omega]; simp only [setTo]; rw [if_pos hkf, HGX.out]
        rw [hset] at hr'
        have kp : Kp wr ((wr.alloc (.cells #[.int .i64 x.block, .slice Ai x.bytes.length ci] 147)).setCell ⟨g0, x.block.toNat, none⟩ (.slice Ai x.bytes.length ci)) [g0] := ((Kp.below (below_alloc (Below.refl _ wr) _)).mono (by simp)).trans (Kp.set _ _ _ _) (fun b hb _ => hb)
        have ng7 : g7 ≠ g0 := fun h => Rp.Row_not HO.out BK7.out (by decide) (h ▸ hg0m)
        have ng2 : w.heap.size + 1 ≠ g0 := fun h => Rp.Row_not HO.out BK2.out (by decide) (h ▸ hg0m)
        have HO' := Aside0.mk hr'
        have HQ' := Aside0.mk (HQ.out.kp kp (fun b hb hm => by simp at hm; exact hq0 b hb hm))
        have BK2' := Aside0.mk (kp.blk BK2.out (by simp; exact ng2))
        have BK7' := Aside0.mk (kp.blk BK7.out (by simp; exact ng7))
        have HB' := Aside0.mk (kp.toBelow HB.out HB.out.size (fun b hb => by simp at hb; subst hb; exact hge0.out b hg0m))
        have HF' : Aside0 (fp'.Nodup ∧ ∀ b ∈ fp', b ∈ f0i ∨ ∃ j, ∃ h : j < fps.length, j < (i + 1).toNat ∧ b ∈ fps[j]) := ⟨hn', fun b hb => by
          rcases hf' b hb with h | h
          · rcases HF.out.2 b h with h2 | ⟨j, hj, hji, h2⟩
            · exact .inl h2
            · exact .inr ⟨j, hj, by omega, h2⟩
          · exact .inr ⟨i.toNat, hfl, by omega, h⟩⟩
        clear hst hr' e0 hnd1 hnd2 hnotf hga hq0 hn' hf' hset kp ng7 ng2 hcellb hfrb hkf HO HQ BK2 BK7 HB HF
        go_wp2
        go_roundg (gk - 1)
        case measure => have := HI.out; omega
        case rel => exact ⟨i + 1, fp', rfl, ⟨by have := HI.out; omega, by have := HI.out; omega, by have := HI.out; omega⟩, HO', HQ', HF', BK2', BK7', HB'⟩
      | false =>
        by_cases hin : i < (kl.length : Int)
        · obtain ⟨adk, hAk, ck⟩ := Kd.at_bool (Kd.C_alloc (Kd.C_below HKL.out HB.out) (.cells #[.int .i64 x.block, .slice Ai x.bytes.length ci] 147)) i hi0 hin
          cases hAk
          by_cases hkt : rdOf false kl i = true
          · have hkf : kfL false kl i.toNat = true := hkt
            rw [hkt] at ck
            clear hkt
            obtain ⟨g0, cap0, hv0, hg0m, _⟩ := Rp.Row_form HO.out (by rw [setTo_len]; have := HD.out.1; omega)
            rw [setTo_len] at hv0
            injection hv0 with hA0 _ hc0
            subst hA0; subst hc0
            obtain ⟨csb, fb, hPb, _, _, _, hcellb, hfrb, _, hst⟩ := Rp.Row_elem (Rp.Row_alloc HO.out (.cells #[.int .i64 x.block, .slice Ai x.bytes.length ci] 147)) HF.out.1 x.block.toNat (by rw [setTo_len]; have := HD.out.1; omega)
            obtain ⟨vb, rfl, _⟩ := hPb
            have e0 : x.block.toNat * rBS.d.sz + 0 = x.block.toNat := Nat.mul_one _
            have c5 := hcellb 0 _ rfl
            rw [e0] at c5
            have z5 := hfrb x.block.toNat
            have hnd1 := List.nodup_append.1 HND.out
            have hnd2 := List.nodup_append.1 hnd1.2.1
            have hnotf : ∀ b ∈ fps[i.toNat]'hfl, b ∉ f0 := fun b hb hm => by
              rcases HF.out.2 b hm with h | ⟨j, hj, hji, h⟩
              · exact hnd1.2.2 b h b (List.mem_append_right _ (List.mem_flatten.2 ⟨_, List.getElem_mem hfl, hb⟩)) rfl
              · exact nodup_flat_ne hj hfl hnd2.2.1 (by omega) h hb
            have hga : g0 ∉ fps[i.toNat]'hfl := fun h => hnotf g0 h hg0m
            have hq0 : ∀ b ∈ (Value.slice (some ⟨gq, 0, none⟩) ws.length cq).ownBlock.toList ++ fps.flatten, b ≠ g0 := by
              intro b hb he
              subst he
              rcases List.mem_append.1 hb with h | h
              · rcases HF.out.2 b hg0m with h2 | ⟨j, hj, _, h2⟩
                · exact hnd1.2.2 b h2 b (List.mem_append_left _ h) rfl
                · exact hnd2.2.2 b h b (List.mem_flatten.2 ⟨_, List.getElem_mem hj, h2⟩) rfl
              · exact HG0.out b (by simp [Value.ownBlock]) h
            obtain ⟨fp', hr', hn', hf', _⟩ := hst 0 (.slice Ai x.bytes.length ci) x.bytes (fps[i.toNat]'hfl) (by decide) ⟨_, rfl, Rp.Row_far (Rp.Row_alloc Hri.out _) (p := ⟨g0, x.block.toNat * rBS.d.sz + 0, none⟩) hga _⟩ (nodup_flat_mem hnd2.2.1 (List.getElem_mem _)) (fun b hb => .inr (hnotf b hb)) (.inr hnotf)
            rw [e0] at hr'
            have hset : (setTo bs ws (kfL false kl) i.toNat).set x.block.toNat x.bytes = setTo bs ws (kfL false kl) (i + 1).toNat := by
              rw [show (i + 1).toNat = i.toNat + 1 by omega]; simp only [setTo]; rw [if_pos hkf, HGX.out]
            rw [hset] at hr'
            have kp : Kp wr ((wr.alloc (.cells #[.int .i64 x.block, .slice Ai x.bytes.length ci] 147)).setCell ⟨g0, x.block.toNat, none⟩ (.slice Ai x.bytes.length ci)) [g0] := ((Kp.below (below_alloc (Below.refl _ wr) _)).mono (by simp)).trans (Kp.set _ _ _ _) (fun b hb _ => hb)
            have ng7 : g7 ≠ g0 := fun h => Rp.Row_not HO.out BK7.out (by decide) (h ▸ hg0m)
            have ng2 : w.heap.size + 1 ≠ g0 := fun h => Rp.Row_not HO.out BK2.out (by decide) (h ▸ hg0m)
            have HO' := Aside0.mk hr'
            have HQ' := Aside0.mk (HQ.out.kp kp (fun b hb hm => by simp at hm; exact hq0 b hb hm))
            have BK2' := Aside0.mk (kp.blk BK2.out (by simp; exact ng2))
            have BK7' := Aside0.mk (kp.blk BK7.out (by simp; exact ng7))
            have HB' := Aside0.mk (kp.toBelow HB.out HB.out.size (fun b hb => by simp at hb; subst hb; exact hge0.out b hg0m))
            have HF' : Aside0 (fp'.Nodup ∧ ∀ b ∈ fp', b ∈ f0i ∨ ∃ j, ∃ h : j < fps.length, j < (i + 1).toNat ∧ b ∈ fps[j]) := ⟨hn', fun b hb => by
              rcases hf' b hb with h | h
              · rcases HF.out.2 b h with h2 | ⟨j, hj, hji, h2⟩
                · exact .inl h2
                · exact .inr ⟨j, hj, by omega, h2⟩
              · exact .inr ⟨i.toNat, hfl, by omega, h⟩⟩
            clear hst hr' e0 hnd1 hnd2 hnotf hga hq0 hn' hf' hset kp ng7 ng2 hcellb hfrb hkf HO HQ BK2 BK7 HB HF
            go_wp2
            go_roundg (gk - 1)
            case measure => have := HI.out; omega
            case rel => exact ⟨i + 1, fp', rfl, ⟨by have := HI.out; omega, by have := HI.out; omega, by have := HI.out; omega⟩, HO', HQ', HF', BK2', BK7', HB'⟩
          · have hkf : ¬ kfL false kl i.toNat = true := hkt
            rw [Bool.not_eq_true] at hkt
            rw [hkt] at ck
            clear hkt
            have kp : Kp wr (wr.alloc (.cells #[.int .i64 x.block, .slice Ai x.bytes.length ci] 147)) [] := Kp.below (below_alloc (Below.refl _ wr) _)
            have HO' := Aside0.mk (kp.row HO.out (by simp))
            have HQ' := Aside0.mk (HQ.out.kp kp (by simp))
            have BK2' := Aside0.mk (kp.blk BK2.out (by simp)); have BK7' := Aside0.mk (kp.blk BK7.out (by simp))
            have HB' := Aside0.mk (kp.toBelow HB.out HB.out.size (by simp))
            have HF' : Aside0 (f0.Nodup ∧ ∀ b ∈ f0, b ∈ f0i ∨ ∃ j, ∃ h : j < fps.length, j < (i + 1).toNat ∧ b ∈ fps[j]) := ⟨HF.out.1, fun b hb => by
              rcases HF.out.2 b hb with h2 | ⟨j, hj, hji, h2⟩
              · exact .inl h2
              · exact .inr ⟨j, hj, by omega, h2⟩⟩
            have HKF := Aside0.mk hkf
            clear kp hkf HO HQ BK2 BK7 HB HF
            go_wp2
            go_roundg (gk - 1)
            case measure => have := HI.out; omega
            case rel => exact ⟨i + 1, f0, rfl, ⟨by have := HI.out; omega, by have := HI.out; omega, by have := HI.out; omega⟩, by rw [HOUT.out HKF.out]; exact HO', HQ', HF', BK2', BK7', HB'⟩
        · have hkf : ¬ kfL false kl i.toNat = true := by
            simp [kfL, List.getElem?_eq_none (show kl.length ≤ i.toNat by omega)]
          have kp : Kp wr (wr.alloc (.cells #[.int .i64 x.block, .slice Ai x.bytes.length ci] 147)) [] := Kp.below (below_alloc (Below.refl _ wr) _)
          have HO' := Aside0.mk (kp.row HO.out (by simp))
          have HQ' := Aside0.mk (HQ.out.kp kp (by simp))
          have BK2' := Aside0.mk (kp.blk BK2.out (by simp)); have BK7' := Aside0.mk (kp.blk BK7.out (by simp))
          have HB' := Aside0.mk (kp.toBelow HB.out HB.out.size (by simp))
          have HF' : Aside0 (f0.Nodup ∧ ∀ b ∈ f0, b ∈ f0i ∨ ∃ j, ∃ h : j < fps.length, j < (i + 1).toNat ∧ b ∈ fps[j]) := ⟨HF.out.1, fun b hb => by
            rcases HF.out.2 b hb with h2 | ⟨j, hj, hji, h2⟩
            · exact .inl h2
            · exact .inr ⟨j, hj, by omega, h2⟩⟩
          have HKF := Aside0.mk hkf
          clear kp hkf HO HQ BK2 BK7 HB HF
          go_wp2
          go_roundg (gk - 1)
          case measure => have := HI.out; omega
          case rel => exact ⟨i + 1, f0, rfl, ⟨by have := HI.out; omega, by have := HI.out; omega, by have := HI.out; omega⟩, by rw [HOUT.out HKF.out]; exact HO', HQ', HF', BK2', BK7', HB'⟩
    · have hi := HI.out
      have e2 : i = ws.length := by omega
      subst e2
      have HO2 := HO.out
      simp only [Int.toNat_natCast] at HO2
      have HO3 : Aside0 (rBS.Row 22 wr (.slice Ap bs.length cp_) (settleL bs ws (kfL all kl)) f0) := ⟨HO2⟩
      have hlen : (settleL bs ws (kfL all kl)).length = bs.length := setTo_len _ _ _ _
      clear HO2 hi HO HQ
      obtain ⟨J7, q7⟩ := set1 BK7.out 1 (.slice none 0 0)
      have J2 := q7.blk BK2.out (by simp; omega)
      obtain ⟨I2, q2⟩ := set2 J2 (.slice Ap bs.length cp_) (.slice none 0 0)
      have n7 := Rp.Row_not HO3.out BK7.out (by decide)
      have n2 := Rp.Row_not HO3.out BK2.out (by decide)
      have HR := Aside0.mk (q2.row (q7.row HO3.out (fun x hx hm => n7 (by simp at hm; exact hm ▸ hx))) (fun x hx hm => n2 (by simp at hm; exact hm ▸ hx)))
      have HB5 := Aside0.mk (q2.toBelow (q7.toBelow HB.out HB.out.size (fun x hx => by simp at hx; omega)) (Nat.le_trans HB.out.size q7.size) (fun x hx => by simp at hx; omega))
      have II := Aside0.mk I2
      have k7 := (blk_cell BK7.out 1).trans rfl; have z7 := blk_frozen BK7.out 1
      have k8 := (blk_cell J7 0).trans rfl; have k9 := (blk_cell J7 1).trans rfl
      have c2 := (blk_cell J2 0).trans rfl; have c3 := (blk_cell J2 1).trans rfl; have z2 := blk_frozen J2 0; have z3 := blk_frozen J2 1
      have HLEN := Aside0.mk hlen
      clear I2 q2 J2 J7 q7 n7 n2 hlen
      go_wp2
      refine bodyPost_ret (results_cell_row rfl _ _ (w.heap.size + 1) 43 #[.slice Ap bs.length cp_, .slice none 0 0] (0, 0) _ rfl II.out Try.underlying43 rfl (by kernel_rfl)) rfl ?_
      exact ⟨_, _, f0, [], rfl, HR.out, Rp.Row_nil _ _ _, by simpa using HF.out.1, by simpa using hge0.out, HB5.out⟩
end Go.Proofs.Ytocdlibnmlcokaa
namespace Go.Proofs.Ytocdlibnmlcokaa
open Go.RowKit Go.Proofs.YtocdlibnmlcokaaW.PrintWords Go.Proofs.YtocdlibnmlcokaaW.PrintLast
set_option linter.unusedVariables false
set_option linter.unusedSimpArgs false
set_option maxRecDepth 100000 in
set_option maxHeartbeats 4000000 in
theorem implCrash_yes (A0 A1 A2 : Option Addr) (c0 c1 c2_ : Nat) (bs : List (List Int)) (ws : List Wr) (kl : List Bool) (w : World) (hx : rBS.d.C w A0 bs.length bs) (hy : rW.d.C w A1 ws.length ws) (hk : Kd.bool.C w A2 kl.length kl) (hd : DkOk bs ws) :
    Calls Try.prog 66 #[.agg #[.slice A0 bs.length c0, .slice A1 ws.length c1], .slice A2 kl.length c2_] w (GotDisk w (settleL bs ws (kfL false kl)) []) := by
  have hb0 := below_alloc (below_alloc (Below.refl w.heap.size w) (.cells #[.slice A0 bs.length c0, .slice A1 ws.length c1] 43)) (.cells #[.slice none 0 0, .slice none 0 0] 43)
  have BK1 := Aside0.mk (blk_alloc (blk_new w (.cells #[.slice A0 bs.length c0, .slice A1 ws.length c1] 43)) (.cells #[.slice none 0 0, .slice none 0 0] 43))
  have BK2 := Aside0.mk (blk_new' (w := w.alloc (.cells #[.slice A0 bs.length c0, .slice A1 ws.length c1] 43)) (.cells #[.slice none 0 0, .slice none 0 0] 43) (n := w.heap.size + 1) (by simp))
  have HX := Aside0.mk (Kd.C_below hx hb0); have HY := Aside0.mk (Kd.C_below hy hb0); have HKL := Aside0.mk hk; have HB0 := Aside0.mk hb0
  have hkl : kl.length ≤ 9223372036854775807 := hk.2.1
  have HD := Aside0.mk hd
  clear hx hy hk hb0 hd
  go_enter Try.func66, Try.ntmps66
  go_wp2_with fail
  refine (implDiskOk_c _ _ _ _ bs ws true ⟨fun _ => HD.out, fun _ => rfl⟩ _ HX.out HY.out).mono ?_
  rintro e w1 ⟨rfl, hb1⟩
  have J1 := blk_below BK1.out hb1; have J2 := blk_below BK2.out hb1
  have d0 := (blk_cell J1 0).trans rfl; have d1 := (blk_cell J1 1).trans rfl
  replace HX := Aside0.mk (Kd.C_below HX.out hb1); replace HY := Aside0.mk (Kd.C_below HY.out hb1)
  have HB1 := Aside0.mk (below_then HB0.out (by simp; omega) hb1); replace BK2 := Aside0.mk J2
  clear J1 J2 hb1 HB0 BK1
  go_wp2_with fail
  refine (copyDisk_c _ _ bs _ _ ws _ HX.out HY.out (by have := HD.out.1; omega) (by have := HD.out.2.1; omega) (fun x hx => by have := HD.out.2.2.1 x hx; omega) (fun x hx => by have := HD.out.2.2.2 x hx; omega)).mono ?_
  rintro e w2 ⟨v0, v1, f0i, f1, rfl, r0, r1, hnd, hge, hb2⟩
  obtain ⟨Ap, cp_, rfl, _, _⟩ := Rp.Row_reads r0
  obtain ⟨Aq, cq, rfl, _, _⟩ := Rp.Row_reads r1
  have hwl : (ws.length : Int) ≤ 200 := by have := HD.out.2.1; omega
  replace BK2 := Aside0.mk (blk_below BK2.out hb2)
  have HB2 := Aside0.mk (below_then HB1.out HB1.out.size hb2)
  have HND : Aside0 ((f0i ++ f1).Nodup ∧ ∀ x ∈ f0i ++ f1, w.heap.size ≤ x) := ⟨hnd, fun x hx => by have := hge x hx; have := HB1.out.size; omega⟩
  clear hnd hge hb2 HX HY HB1 d0 d1
  go_wp2_with fail
  generalize hw3 : w2.alloc _ = w3
  obtain ⟨k7, hb3, hs3⟩ := alloc1 hw3
  clear hw3
  have hne : w.heap.size + 1 < w2.heap.size := blk_lt BK2.out
  have BK7 := Aside0.mk k7
  replace BK2 := Aside0.mk (blk_below BK2.out hb3)
  have R0 := Aside0.mk (Rp.Row_below r0 hb3)
  have R1 := Aside0.mk (Rp.Row_below r1 hb3)
  have hsz := HB2.out.size
  have HB3 := Aside0.mk (below_then HB2.out HB2.out.size hb3)
  clear k7 hb3 hs3 HB2 r0 r1
  generalize w2.heap.size = g7 at BK7 hne hsz ⊢
  go_loopg [17] ws.length (fun m vi wr => ∃ (i : Int) (f0 : List Nat), vi = .int .i64 i ∧ Aside0 (0 ≤ i ∧ i ≤ ws.length ∧ ws.length - i.toNat ≤ m) ∧ Aside0 (rBS.Row 22 wr (.slice Ap bs.length cp_) (setTo bs ws (kfL false kl) i.toNat) f0) ∧ Aside0 (rW.Row 147 wr (.slice Aq ws.length cq) ws f1)
    ∧ Aside0 ((f0 ++ f1).Nodup ∧ ∀ b ∈ f0 ++ f1, w.heap.size ≤ b) ∧ Aside0 (wr.heap[w.heap.size + 1]? = some (.cells #[.slice none 0 0, .slice none 0 0] 43 (0, 0))) ∧ Aside0 (wr.heap[g7]? = some (.cells #[.slice Ap bs.length cp_, .slice Aq ws.length cq] 43 (0, 0))) ∧ Aside0 (Below w.heap.size w wr))
  case atStart => exact ⟨0, f0i, rfl, ⟨by simp⟩, R0, R1, HND, BK2, BK7, HB3⟩
  case round =>
    clear R0 R1 BK2 BK7 HB3 HND
    obtain ⟨i, f0, rfl, HI, HO, HQ, HF, BK2, BK7, HB⟩ := hrel
    by_cases hlt : i < (ws.length : Int)
    · have hi0 : 0 ≤ i := HI.out.1
      have hil : i.toNat < ws.length := by omega
      have hndd := List.nodup_append.1 HF.out.1
      obtain ⟨gq, capq, hvq, _, _⟩ := Rp.Row_form HQ.out (by omega)
      injection hvq with hAq _ hcq
      subst hAq; subst hcq
      obtain ⟨css_, fx, hP, _, _, _, hcell, _, _, _⟩ := Rp.Row_elem HQ.out hndd.2.1 i.toNat hil
      have hgx : ws.getD i.toNat ⟨0, []⟩ = ws[i.toNat] := by simp [List.getD_eq_getElem?_getD, hil]
      have hxo := HD.out.2.2.2 _ (List.getElem_mem (l := ws) hil)
      generalize hxx : ws[i.toNat] = x at hP hgx hxo
      have HGX := Aside0.mk hgx
      obtain ⟨v, rfl, hri⟩ := W_open hP
      obtain ⟨Ai, ci, rfl, _, _⟩ := Rp.Row_reads hri
      have c0 : wr.cell? ⟨gq, i.toNat * 2, none⟩ = _ := hcell 0 _ rfl
      have c1 : wr.cell? ⟨gq, i.toNat * 2 + 1, none⟩ = _ := hcell 1 _ rfl
      have Hri := Aside0.mk (Rp.Row_C hri).2.2
      have hx0 := hxo.1; have hx1 : x.block < (bs.length : Int) := by have := HD.out.1; omega
      have HXO := Aside0.mk hxo
      clear hP hcell hgx hri hxx hxo hndd
      have hout : ¬ kfL false kl i.toNat = true → setTo bs ws (kfL false kl) (i + 1).toNat = setTo bs ws (kfL false kl) i.toNat := by
        intro hn
        rw [show (i + 1).toNat = i.toNat + 1 by omega]; simp only [setTo]; rw [if_neg hn]
      have HOUT := Aside0.mk hout; clear hout
      by_cases hin : i < (kl.length : Int)
      · obtain ⟨adk, hAk, ck⟩ := Kd.at_bool (Kd.C_alloc (Kd.C_below HKL.out HB.out) (.cells #[.int .i64 x.block, .slice Ai x.bytes.length ci] 147)) i hi0 hin
        cases hAk
        by_cases hkt : rdOf false kl i = true
        · have hkf : kfL false kl i.toNat = true := hkt
          rw [hkt] at ck
          clear hkt
          have HKF := Aside0.mk hkf; clear hkf
          go_wp2
          clear ck c0 c1
          have BKe := Aside0.mk (blk_drew (blk_new wr (.cells #[.int .i64 x.block, .slice Ai x.bytes.length ci] 147)))
          have hba0 := below_drew (below_alloc (Below.refl _ wr) (.cells #[.int .i64 x.block, .slice Ai x.bytes.length ci] 147))
          have hle := Aside0.mk (Rp.Row_lt HO.out)
          have hlq := Aside0.mk (Rp.Row_lt HQ.out)
          replace HO := Aside0.mk (Rp.Row_below HO.out hba0); replace HQ := Aside0.mk (Rp.Row_below HQ.out hba0)
          replace BK2 := Aside0.mk (blk_below BK2.out hba0); replace BK7 := Aside0.mk (blk_below BK7.out hba0)
          replace Hri := Aside0.mk (Kd.C_below Hri.out hba0)
          replace HB := Aside0.mk (below_then HB.out HB.out.size hba0)
          clear hba0
          refine sta (fun w' => w'.cell? ⟨g7, 0, none⟩ = some (.slice Ap bs.length cp_) ∧ w'.cell? ⟨wr.heap.size, 0, none⟩ = some (.int .i64 x.block) ∧ w'.cell? ⟨wr.heap.size, 1, none⟩ = some (.slice Ai x.bytes.length ci)) [8] 9 ⟨(blk_cell BK7.out 0).trans rfl, (blk_cell BKe.out 0).trans rfl, (blk_cell BKe.out 1).trans rfl⟩ (fun hS => ?_)
          generalize (wr.alloc _).drew = wd at HO HQ BK2 BK7 Hri HB BKe hS ⊢
          generalize wr.heap.size = gb at hle hlq BKe hS ⊢
          obtain ⟨g0, cap0, hv0, hg0m, _⟩ := Rp.Row_form HO.out (by rw [setTo_len]; have := HD.out.1; omega)
          rw [setTo_len] at hv0
          injection hv0 with hA0 _ hc0
          subst hA0; subst hc0
          refine pu 0 1 ?_
          refine pu 2 5 ?_
          refine pu 4 21 ?_
          refine tk 1 23 hS ?_
          refine tk 3 31 hS ?_
          refine tk 5 63 hS ?_
          refine on 6 127 (fun K hK => ?_)
          refine ca (cp_c _ _ x.bytes _ Hri.out (by have := HXO.out.2.2; omega)) Try.func114 ?_
          rintro e wa ⟨va_, rfl, ⟨fa, hra, hna, hfa⟩, hba⟩
          obtain ⟨Aa, ca_, rfl, _, _⟩ := Rp.Row_reads hra
          refine ⟨_, rfl, nx hK ⟨pw_cell_below hba hS.1, pw_cell_below hba hS.2.1, pw_cell_below hba hS.2.2⟩ (fun hS => ?_)⟩
          clear hK K
          have hndd := List.nodup_append.1 HF.out.1
          have HOa := Rp.Row_below HO.out hba
          have hltd := Rp.Row_lt HO.out; have hltq := Rp.Row_lt HQ.out
          obtain ⟨csb, fb, hPb, _, _, _, hcellb, hfrb, _, hst⟩ := Rp.Row_elem HOa hndd.1 x.block.toNat (by rw [setTo_len]; have := HD.out.1; omega)
          obtain ⟨vb, rfl, _⟩ := hPb
          have e0 : x.block.toNat * rBS.d.sz + 0 = x.block.toNat := Nat.mul_one _
          have c5 := hcellb 0 _ rfl
          rw [e0] at c5
          have z5 := hfrb x.block.toNat
          have hnotf : ∀ b ∈ fa, b ∉ f0 := fun b hb hm => by have := hfa b hb; have := hltd b hm; omega
          have hga : g0 ∉ fa := fun h => hnotf g0 h hg0m
          obtain ⟨fp', hr', hn', hf', _⟩ := hst 0 (.slice Aa x.bytes.length ca_) x.bytes fa (by decide) ⟨_, rfl, Rp.Row_far hra (p := ⟨g0, x.block.toNat * rBS.d.sz + 0, none⟩) hga _⟩ hna (fun b hb => .inr (hnotf b hb)) (.inr hnotf)
          rw [e0] at hr'
          have hset : (setTo bs ws (kfL false kl) i.toNat).set x.block.toNat x.bytes = setTo bs ws (kfL false kl) (i + 1).toNat := by
            rw [show (i + 1).toNat = i.toNat + 1 by omega]; simp only [setTo]; rw [if_pos HKF.out, HGX.out]
          rw [hset] at hr'
          refine pu 7 255 ?_
          refine la 8 511 (fun K hK => ?_)
          refine st ?_
          refine nl hK (dn ?_)
          clear hK K hS c5 z5
          have kp : Kp wd (wa.setCell ⟨g0, x.block.toNat, none⟩ (.slice Aa x.bytes.length ca_)) [g0] := ((Kp.below hba).mono (by simp)).trans (Kp.set _ _ _ _) (fun b hb _ => hb)
          generalize wa.setCell _ _ = wf at hr' kp ⊢
          have ng7 : g7 ≠ g0 := fun h => Rp.Row_not HO.out BK7.out (by decide) (h ▸ hg0m)
          have ng2 : w.heap.size + 1 ≠ g0 := fun h => Rp.Row_not HO.out BK2.out (by decide) (h ▸ hg0m)
          have HO' := Aside0.mk hr'
          have HQ' := Aside0.mk (kp.row HQ.out (fun b hb hm => by simp at hm; subst hm; exact hndd.2.2 b hg0m b hb rfl))
          have BK2' := Aside0.mk (kp.blk BK2.out (by simp; exact ng2))
          have BK7' := Aside0.mk (kp.blk BK7.out (by simp; exact ng7))
          have HB' := Aside0.mk (kp.toBelow HB.out HB.out.size (fun b hb => by simp at hb; subst hb; exact HF.out.2 b (List.mem_append_left _ hg0m)))
          have HF' : Aside0 ((fp' ++ f1).Nodup ∧ ∀ b ∈ fp' ++ f1, w.heap.size ≤ b) := ⟨List.nodup_append.2 ⟨hn', hndd.2.1, fun a ha b hb he => by
            subst he
            rcases hf' a ha with h | h
            · exact hndd.2.2 a h a hb rfl
            · have := hfa a h; have := hltq a hb; omega⟩, fun b hb => by
            rcases List.mem_append.1 hb with h | h
            · rcases hf' b h with h | h
              · exact HF.out.2 b (List.mem_append_left _ h)
              · have := hfa b h; have := HB.out.size; omega
            · exact HF.out.2 b (List.mem_append_right _ h)⟩
          clear hst hr' e0 hnotf hga hn' hf' hset kp ng7 ng2 hcellb hfrb HO HQ BK2 BK7 HB HF hltd hltq hndd HOa hba hra hna hfa BKe hle hlq
          go_wp2
          go_roundg (gk - 1)
          case measure => have := HI.out; omega
          case rel => exact ⟨i + 1, fp', rfl, ⟨by have := HI.out; omega, by have := HI.out; omega, by have := HI.out; omega⟩, HO', HQ', HF', BK2', BK7', HB'⟩
        · have hkf : ¬ kfL false kl i.toNat = true := hkt
          rw [Bool.not_eq_true] at hkt
          rw [hkt] at ck
          clear hkt
          have kp : Kp wr (wr.alloc (.cells #[.int .i64 x.block, .slice Ai x.bytes.length ci] 147)) [] := Kp.below (below_alloc (Below.refl _ wr) _)
          have HO' := Aside0.mk (kp.row HO.out (by simp))
          have HQ' := Aside0.mk (kp.row HQ.out (by simp))
          have BK2' := Aside0.mk (kp.blk BK2.out (by simp)); have BK7' := Aside0.mk (kp.blk BK7.out (by simp))
          have HB' := Aside0.mk (kp.toBelow HB.out HB.out.size (by simp))
          have HKF := Aside0.mk hkf
          clear kp hkf HO HQ BK2 BK7 HB
          go_wp2
          go_roundg (gk - 1)
          case measure => have := HI.out; omega
          case rel => exact ⟨i + 1, f0, rfl, ⟨by have := HI.out; omega, by have := HI.out; omega, by have := HI.out; omega⟩, by rw [HOUT.out HKF.out]; exact HO', HQ', HF, BK2', BK7', HB'⟩
      · have hkf : ¬ kfL false kl i.toNat = true := by
          simp [kfL, List.getElem?_eq_none (show kl.length ≤ i.toNat by omega)]
        have kp : Kp wr (wr.alloc (.cells #[.int .i64 x.block, .slice Ai x.bytes.length ci] 147)) [] := Kp.below (below_alloc (Below.refl _ wr) _)
        have HO' := Aside0.mk (kp.row HO.out (by simp))
        have HQ' := Aside0.mk (kp.row HQ.out (by simp))
        have BK2' := Aside0.mk (kp.blk BK2.out (by simp)); have BK7' := Aside0.mk (kp.blk BK7.out (by simp))
        have HB' := Aside0.mk (kp.toBelow HB.out HB.out.size (by simp))
        have HKF := Aside0.mk hkf
        clear kp hkf HO HQ BK2 BK7 HB
        go_wp2
        go_roundg (gk - 1)
        case measure => have := HI.out; omega
        case rel => exact ⟨i + 1, f0, rfl, ⟨by have := HI.out; omega, by have := HI.out; omega, by have := HI.out; omega⟩, by rw [HOUT.out HKF.out]; exact HO', HQ', HF, BK2', BK7', HB'⟩
    · have hi := HI.out
      have e2 : i = ws.length := by omega
      subst e2
      have HO2 := HO.out
      simp only [Int.toNat_natCast] at HO2
      have HO3 : Aside0 (rBS.Row 22 wr (.slice Ap bs.length cp_) (settleL bs ws (kfL false kl)) f0) := ⟨HO2⟩
      clear HO2 hi HO HQ
      obtain ⟨J7, q7⟩ := set1 BK7.out 1 (.slice none 0 0)
      have J2 := q7.blk BK2.out (by simp; omega)
      obtain ⟨I2, q2⟩ := set2 J2 (.slice Ap bs.length cp_) (.slice none 0 0)
      have n7 := Rp.Row_not HO3.out BK7.out (by decide)
      have n2 := Rp.Row_not HO3.out BK2.out (by decide)
      have HR := Aside0.mk (q2.row (q7.row HO3.out (fun x hx hm => n7 (by simp at hm; exact hm ▸ hx))) (fun x hx hm => n2 (by simp at hm; exact hm ▸ hx)))
      have HB5 := Aside0.mk (q2.toBelow (q7.toBelow HB.out HB.out.size (fun x hx => by simp at hx; omega)) (Nat.le_trans HB.out.size q7.size) (fun x hx => by simp at hx; omega))
      have II := Aside0.mk I2
      have k7 := (blk_cell BK7.out 1).trans rfl; have z7 := blk_frozen BK7.out 1
      have k8 := (blk_cell J7 0).trans rfl; have k9 := (blk_cell J7 1).trans rfl
      have c2 := (blk_cell J2 0).trans rfl; have c3 := (blk_cell J2 1).trans rfl; have z2 := blk_frozen J2 0; have z3 := blk_frozen J2 1
      clear I2 q2 J2 J7 q7 n7 n2
      go_wp2
      refine bodyPost_ret (results_cell_row rfl _ _ (w.heap.size + 1) 43 #[.slice Ap bs.length cp_, .slice none 0 0] (0, 0) _ rfl II.out Try.underlying43 rfl (by kernel_rfl)) rfl ?_
      exact ⟨_, _, f0, [], rfl, HR.out, Rp.Row_nil _ _ _, by simpa using (List.nodup_append.1 HF.out.1).1, by simpa using fun b hb => HF.out.2 b (List.mem_append_left _ hb), HB5.out⟩
set_option maxRecDepth 100000 in
set_option maxHeartbeats 1000000 in
theorem specSync_yes (A0 A1 : Option Addr) (c0 c1 : Nat) (bs : List (List Int)) (ws : List Wr) (w : World) (hx : rBS.d.C w A0 bs.length bs) (hy : rW.d.C w A1 ws.length ws) (hd : DkOk bs ws) :
    Calls Try.prog 62 #[.agg #[.slice A0 bs.length c0, .slice A1 ws.length c1]] w (GotDisk w (settleL bs ws (kfL true [])) []) := by
  have hb0 := below_alloc (below_alloc (Below.refl w.heap.size w) (.cells #[.slice A0 bs.length c0, .slice A1 ws.length c1] 43)) (.cells #[.slice none 0 0, .slice none 0 0] 43)
  have BK1 := Aside0.mk (blk_alloc (blk_new w (.cells #[.slice A0 bs.length c0, .slice A1 ws.length c1] 43)) (.cells #[.slice none 0 0, .slice none 0 0] 43))
  have BK2 := Aside0.mk (blk_new' (w := w.alloc (.cells #[.slice A0 bs.length c0, .slice A1 ws.length c1] 43)) (.cells #[.slice none 0 0, .slice none 0 0] 43) (n := w.heap.size + 1) (by simp))
  have HX := Aside0.mk (Kd.C_below hx hb0); have HY := Aside0.mk (Kd.C_below hy hb0); have HB0 := Aside0.mk hb0; have HD := Aside0.mk hd
  clear hx hy hb0 hd
  go_enter Try.func62, Try.ntmps62
  go_wp2_with fail
  refine (specDiskOk_c _ _ _ _ bs ws true ⟨fun _ => HD.out, fun _ => rfl⟩ _ HX.out HY.out).mono ?_
  rintro e w1 ⟨rfl, hb1⟩
  have J1 := blk_below BK1.out hb1
  have d0 := (blk_cell J1 0).trans rfl; have d1 := (blk_cell J1 1).trans rfl
  have HX1 := Aside0.mk (Kd.C_below HX.out hb1); have HY1 := Aside0.mk (Kd.C_below HY.out hb1)
  have HB1 := Aside0.mk (below_then HB0.out (by simp; omega) hb1); have BK2' := Aside0.mk (blk_below BK2.out hb1)
  clear J1 hb1
  go_wp2_with fail
  refine (l2settle_c _ _ none _ _ _ bs ws true [] _ HX1.out HY1.out ⟨rfl, by simp, fun h => absurd h (by simp)⟩ HD.out).mono ?_
  rintro e w2 ⟨v0, v1, f0, f1, rfl, r0, r1, hnd, hge, hb2⟩
  obtain ⟨L, hL⟩ : ∃ L, L = settleL bs ws (kfL true []) := ⟨_, rfl⟩
  obtain ⟨W0, hW⟩ : ∃ W0, W0 = ([] : List Wr) := ⟨_, rfl⟩
  rw [← hL] at r0
  rw [← hW] at r1
  have HL := Aside0.mk hL; have HW := Aside0.mk hW
  clear hL hW
  obtain ⟨Ap, cp_, rfl, _, _⟩ := Rp.Row_reads r0
  obtain ⟨Aq, cq, rfl, _, _⟩ := Rp.Row_reads r1
  have J2 := blk_below BK2'.out hb2
  have c2 := (blk_cell J2 0).trans rfl; have c3 := (blk_cell J2 1).trans rfl; have z2 := blk_frozen J2 0; have z3 := blk_frozen J2 1
  obtain ⟨I2, q2⟩ := set2 J2 (.slice Ap L.length cp_) (.slice Aq W0.length cq)
  have n0 := Rp.Row_not r0 J2 (by decide); have n1 := Rp.Row_not r1 J2 (by decide)
  have R0 := Aside0.mk (q2.row r0 (fun x hx hm => n0 (by simp at hm; exact hm ▸ hx))); have R1 := Aside0.mk (q2.row r1 (fun x hx hm => n1 (by simp at hm; exact hm ▸ hx)))
  have HB2 := Aside0.mk (q2.toBelow (below_then HB1.out HB1.out.size hb2) (Nat.le_trans HB1.out.size hb2.size) (fun x hx => by simp at hx; omega))
  have HN := Aside0.mk hnd; have HG : Aside0 (∀ x ∈ f0 ++ f1, w.heap.size ≤ x) := ⟨fun x hx => by have := hge x hx; have := HB1.out.size; omega⟩
  have II := Aside0.mk I2
  clear I2 q2 n0 n1 r0 r1 hnd hge hb2 J2 d0 d1
  go_wp2
  refine bodyPost_ret (results_cell_row rfl _ _ (w.heap.size + 1) 43 #[.slice Ap L.length cp_, .slice Aq W0.length cq] (0, 0) _ rfl II.out Try.underlying43 rfl (by kernel_rfl)) rfl ?_
  have hL := HL.out; have hW := HW.out
  subst hL; subst hW
  exact ⟨_, _, f0, f1, rfl, R0.out, R1.out, HN.out, HG.out, HB2.out⟩
end Go.Proofs.Ytocdlibnmlcokaa
namespace Go.Proofs.Ytocdlibnmlcokaa
open Go.RowKit Go.Proofs.YtocdlibnmlcokaaW.PrintWords Go.Proofs.YtocdlibnmlcokaaW.PrintLast
set_option linter.unusedVariables false
set_option linter.unusedSimpArgs false
theorem info4 : (Try.prog.info? 4).map (fun i => (i.zero, i.size, i.bytes)) = some (some (.bool false), 1, 1) := by kernel_rfl
theorem setTo_congr (bs : List (List Int)) (ws : List Wr) (kf kg : Nat → Bool) : ∀ i, (∀ j, j < i → kf j = kg j) → setTo bs ws kf i = setTo bs ws kg i
  | 0, _ => rfl
  | i + 1, h => by simp only [setTo]; rw [h i (by omega), setTo_congr bs ws kf kg i (fun j hj => h j (by omega))]
theorem settle_all (bs : List (List Int)) (ws : List Wr) : settleL bs ws (kfL false (List.replicate ws.length true)) = settleL bs ws (kfL true []) :=
  setTo_congr bs ws _ _ _ fun j hj => by simp [kfL, hj]
set_option maxRecDepth 100000 in
set_option maxHeartbeats 2000000 in
theorem implSync_w (A0 A1 : Option Addr) (c0 c1 : Nat) (bs bs' : List (List Int)) (ws : List Wr) (w : World) (hx : rBS.d.C w A0 bs.length bs) (hy : rW.d.C w A1 ws.length ws) (hm : ws.length ≤ 10000000)
    (hcr : ∀ (g : Nat) (w' : World), rBS.d.C w' A0 bs.length bs → rW.d.C w' A1 ws.length ws → Kd.bool.C w' (some ⟨g, 0, none⟩) ws.length (List.replicate ws.length true) → Calls Try.prog 66 #[.agg #[.slice A0 bs.length c0, .slice A1 ws.length c1], .slice (some ⟨g, 0, none⟩) ws.length ws.length] w' (GotDisk w' bs' [])) :
    Calls Try.prog 63 #[.agg #[.slice A0 bs.length c0, .slice A1 ws.length c1]] w (GotDisk w bs' []) := by
  have hb0 := below_alloc (below_alloc (Below.refl w.heap.size w) (.cells #[.slice A0 bs.length c0, .slice A1 ws.length c1] 43)) (.cells #[.slice none 0 0, .slice none 0 0] 43)
  have BK1 := Aside0.mk (blk_alloc (blk_new w (.cells #[.slice A0 bs.length c0, .slice A1 ws.length c1] 43)) (.cells #[.slice none 0 0, .slice none 0 0] 43))
  have BK2 := Aside0.mk (blk_new' (w := w.alloc (.cells #[.slice A0 bs.length c0, .slice A1 ws.length c1] 43)) (.cells #[.slice none 0 0, .slice none 0 0] 43) (n := w.heap.size + 1) (by simp))
  have HX := Aside0.mk hx; have HY := Aside0.mk hy; have HM := Aside0.mk hm; have HCR := Aside0.mk hcr; have HB0 := Aside0.mk hb0
  clear hx hy hcr hb0
  go_enter Try.func63, Try.ntmps63
  go_wp2_with ((with_reducible refine gate_dst (N := 8) rfl ?_); refine Rp.mk_row Rp.bool rfl (N := 8) rfl 34 4 _ _ rfl (ws.length : Int) rfl rfl Try.underlying34 (.bool false) 1 info4 rfl (by decide) (by omega) false (fun _ => ⟨rfl, rfl⟩) (by omega) (by have := HM.out; omega) ?_; intro g w1 hg hr hb; have HG := Aside0.mk hg; have HR := Aside0.mk hr; have HB1 := Aside0.mk hb; clear hg hr hb)
  have hr0 := HR.out
  simp only [Int.toNat_natCast] at hr0
  have el : (List.replicate ws.length true).length = ws.length := List.length_replicate
  have hr1 : Rp.bool.Row 4 w1 (.slice (some ⟨g, 0, none⟩) ws.length ws.length) (fillTo false (List.replicate ws.length true) 0) [g] := by rw [fillTo_zero, el]; exact hr0
  have HR1 := Aside0.mk hr1
  replace BK1 := Aside0.mk (blk_below BK1.out HB1.out); replace BK2 := Aside0.mk (blk_below BK2.out HB1.out)
  have hgs : w.heap.size + 2 ≤ g := by have := HG.out; simp at this; omega
  have HB := Aside0.mk (below_then HB0.out (by simp; omega) HB1.out)
  clear hr0 hr1 HR HB1 HB0 HG
  go_loopg [11] ws.length (fun m vi wr => ∃ i : Int, vi = .int .i64 i ∧ Aside0 (0 ≤ i ∧ i ≤ ws.length ∧ ws.length - i.toNat ≤ m) ∧ Aside0 (Rp.bool.Row 4 wr (.slice (some ⟨g, 0, none⟩) ws.length ws.length) (fillTo false (List.replicate ws.length true) i.toNat) [g]) ∧ Aside0 (wr.heap[w.heap.size]? = some (.cells #[.slice A0 bs.length c0, .slice A1 ws.length c1] 43 (0, 0))) ∧ Aside0 (wr.heap[w.heap.size + 1]? = some (.cells #[.slice none 0 0, .slice none 0 0] 43 (0, 0))) ∧ Aside0 (Below w.heap.size w wr))
  case atStart => exact ⟨0, rfl, ⟨by simp⟩, HR1, BK1, BK2, HB⟩
  case round =>
    clear HR1 BK1 BK2 HB
    obtain ⟨i, rfl, HI, HO, BK1, BK2, HB⟩ := hrel
    by_cases hlt : i < (ws.length : Int)
    · have hi0 : 0 ≤ i := HI.out.1
      obtain ⟨cs, f, hP, _, _, hg, hcell, hfr, _, hst⟩ := Rp.Row_elem HO.out (by simp) i.toNat (by rw [fillTo_len _ _ _ (by rw [el]; omega), el]; omega)
      obtain ⟨hcs, hf⟩ := hP
      subst hcs; subst hf
      have e0 : i.toNat * Rp.bool.d.sz + 0 = i.toNat := Nat.mul_one _
      have c2 := hcell 0 _ rfl
      rw [e0] at c2
      have z1 := hfr i.toNat
      obtain ⟨fp', hr', _, _, he⟩ := hst 0 (.bool true) true [] (by decide) ⟨rfl, rfl⟩ (by simp) (by simp) (.inl rfl)
      have he := he rfl
      subst he
      have hs := fillTo_succ false (List.replicate ws.length true) (i := i.toNat) (by rw [el]; omega)
      rw [List.getElem_replicate] at hs
      rw [e0, hs] at hr'
      have HO' := Aside0.mk hr'
      have HB' := Aside0.mk (HB.out.setCell (p := ⟨g, i.toNat, none⟩) (by show w.heap.size ≤ g; omega) (.bool true))
      have BK1' := Aside0.mk (blk_far (p := ⟨g, i.toNat, none⟩) BK1.out (by show w.heap.size ≠ g; omega) (.bool true))
      have BK2' := Aside0.mk (blk_far (p := ⟨g, i.toNat, none⟩) BK2.out (by show w.heap.size + 1 ≠ g; omega) (.bool true))
      clear hst hr' e0 hg hcell hfr hs HO HB BK1 BK2
      go_wp2
      go_roundg (gk - 1)
      case measure => have := HI.out; omega
      case rel => exact ⟨i + 1, rfl, ⟨by have := HI.out; omega, by have := HI.out; omega, by have := HI.out; omega⟩, by rw [show (i + 1).toNat = i.toNat + 1 by omega]; exact HO', BK1', BK2', HB'⟩
    · have e1 := fillTo_end false (List.replicate ws.length true) (i := i.toNat) (by rw [el]; have := HI.out; omega)
      replace HO := HO.out; rw [e1] at HO
      have HC := (Rp.Row_C HO).2.2
      rw [el] at HC
      have HC := Aside0.mk HC
      have d0 := (blk_cell BK1.out 0).trans rfl; have d1 := (blk_cell BK1.out 1).trans rfl
      clear e1 el HO
      go_wp2_with fail
      refine (HCR.out g _ (Kd.C_below HX.out HB.out) (Kd.C_below HY.out HB.out) HC.out).mono ?_
      rintro e w2 ⟨v0, v1, f0, f1, rfl, r0, r1, hnd, hge, hb2⟩
      obtain ⟨W0, hW⟩ : ∃ W0, W0 = ([] : List Wr) := ⟨_, rfl⟩
      rw [← hW] at r1
      have HW := Aside0.mk hW
      clear hW
      obtain ⟨Ap, cp_, rfl, _, _⟩ := Rp.Row_reads r0
      obtain ⟨Aq, cq, rfl, _, _⟩ := Rp.Row_reads r1
      have J2 := blk_below BK2.out hb2
      have c2 := (blk_cell J2 0).trans rfl; have c3 := (blk_cell J2 1).trans rfl; have z2 := blk_frozen J2 0; have z3 := blk_frozen J2 1
      obtain ⟨I2, q2⟩ := set2 J2 (.slice Ap bs'.length cp_) (.slice Aq W0.length cq)
      have n0 := Rp.Row_not r0 J2 (by decide); have n1 := Rp.Row_not r1 J2 (by decide)
      have R0 := Aside0.mk (q2.row r0 (fun x hx hm => n0 (by simp at hm; exact hm ▸ hx))); have R1 := Aside0.mk (q2.row r1 (fun x hx hm => n1 (by simp at hm; exact hm ▸ hx)))
      have HB2 := Aside0.mk (q2.toBelow (below_then HB.out HB.out.size hb2) (Nat.le_trans HB.out.size hb2.size) (fun x hx => by simp at hx; omega))
      have HN := Aside0.mk hnd; have HG : Aside0 (∀ x ∈ f0 ++ f1, w.heap.size ≤ x) := ⟨fun x hx => by have := hge x hx; have := HB.out.size; omega⟩
      have II := Aside0.mk I2
      clear I2 q2 n0 n1 r0 r1 hnd hge hb2 J2 d0 d1
      go_wp2
      refine bodyPost_ret (results_cell_row rfl _ _ (w.heap.size + 1) 43 #[.slice Ap bs'.length cp_, .slice Aq W0.length cq] (0, 0) _ rfl II.out Try.underlying43 rfl (by kernel_rfl)) rfl ?_
      have hW := HW.out
      subst hW
      exact ⟨_, _, f0, f1, rfl, R0.out, R1.out, HN.out, HG.out, HB2.out⟩
theorem implSync_yes (A0 A1 : Option Addr) (c0 c1 : Nat) (bs : List (List Int)) (ws : List Wr) (w : World) (hx : rBS.d.C w A0 bs.length bs) (hy : rW.d.C w A1 ws.length ws) (hd : DkOk bs ws) :
    Calls Try.prog 63 #[.agg #[.slice A0 bs.length c0, .slice A1 ws.length c1]] w (GotDisk w (settleL bs ws (kfL true [])) []) := by
  refine implSync_w A0 A1 c0 c1 bs _ ws w hx hy (by have := hd.2.1; omega) fun g w' h0 h1 h2 => ?_
  have el : (List.replicate ws.length true).length = ws.length := List.length_replicate
  have := implCrash_yes A0 A1 (some ⟨g, 0, none⟩) c0 c1 ws.length bs ws (List.replicate ws.length true) w' h0 h1 (by rw [el]; exact h2) hd
  rw [settle_all, el] at this
  exact this
end Go.Proofs.Ytocdlibnmlcokaa
namespace Go.Proofs.Ytocdlibnmlcokaa
open Go.RowKit Go.Proofs.YtocdlibnmlcokaaW.PrintWords Go.Proofs.YtocdlibnmlcokaaW.PrintLast
set_option linter.unusedVariables false
set_option linter.unusedSimpArgs false
set_option maxRecDepth 100000 in
set_option maxHeartbeats 1000000 in
theorem implSeen_w (A0 A1 : Option Addr) (c0 c1 : Nat) (bs bs' : List (List Int)) (ws : List Wr) (w : World) (hx : rBS.d.C w A0 bs.length bs) (hy : rW.d.C w A1 ws.length ws)
    (hcr : ∀ (w' : World), rBS.d.C w' A0 bs.length bs → rW.d.C w' A1 ws.length ws → Calls Try.prog 63 #[.agg #[.slice A0 bs.length c0, .slice A1 ws.length c1]] w' (GotDisk w' bs' [])) :
    Calls Try.prog 58 #[.agg #[.slice A0 bs.length c0, .slice A1 ws.length c1]] w (GotRow rBS 22 w bs') := by
  have hb0 := Aside0.mk (below_alloc (Below.refl w.heap.size w) (.cells #[.slice A0 bs.length c0, .slice A1 ws.length c1] 43))
  have hfv : ∀ (x y : Value) (W : World), (Instr.field 43 (.agg #[x, y]) 0).run Try.prog W = .ok x W := by
    intro x y W
    have hu_ := Try.underlying43
    simp [Instr.field, go_sem, hu_, asAgg]
  have HX := Aside0.mk hx; have HY := Aside0.mk hy; have HCR := Aside0.mk hcr; clear hx hy hcr
  go_enter Try.func58, Try.ntmps58
  go_wp2_with fail
  refine (HCR.out _ (Kd.C_below HX.out hb0.out) (Kd.C_below HY.out hb0.out)).mono ?_
  rintro e w2 ⟨v0, v1, f0, f1, rfl, r0, r1, hnd, hge, hb2⟩
  obtain ⟨Ap, cp_, rfl, _, _⟩ := Rp.Row_reads r0
  have R0 := Aside0.mk r0; have HN := Aside0.mk hnd; have HG := Aside0.mk hge; have HB := Aside0.mk (below_then hb0.out (by simp) hb2)
  clear r0 r1 hnd hge hb2
  go_wp2
  go_ret
  exact ⟨_, rfl, ⟨f0, R0.out, (List.nodup_append.1 HN.out).1, fun b hb => by have := HG.out b (List.mem_append_left _ hb); simp at this; omega⟩, HB.out⟩
theorem implSeen_yes (A0 A1 : Option Addr) (c0 c1 : Nat) (bs : List (List Int)) (ws : List Wr) (w : World) (hx : rBS.d.C w A0 bs.length bs) (hy : rW.d.C w A1 ws.length ws) (hd : DkOk bs ws) :
    Calls Try.prog 58 #[.agg #[.slice A0 bs.length c0, .slice A1 ws.length c1]] w (GotRow rBS 22 w (settleL bs ws (kfL true []))) :=
  implSeen_w A0 A1 c0 c1 bs _ ws w hx hy fun w' h0 h1 => implSync_yes A0 A1 c0 c1 bs ws w' h0 h1 hd
set_option maxRecDepth 100000 in
set_option maxHeartbeats 1000000 in
theorem specSeen_yes (A0 A1 : Option Addr) (c0 c1 : Nat) (bs : List (List Int)) (ws : List Wr) (w : World) (hx : rBS.d.C w A0 bs.length bs) (hy : rW.d.C w A1 ws.length ws) (hd : DkOk bs ws) :
    Calls Try.prog 57 #[.agg #[.slice A0 bs.length c0, .slice A1 ws.length c1]] w (GotRow rBS 22 w (settleL bs ws (kfL true []))) := by
  have hb0 := Aside0.mk (below_alloc (Below.refl w.heap.size w) (.cells #[.slice A0 bs.length c0, .slice A1 ws.length c1] 43))
  have BK1 := Aside0.mk (blk_new w (.cells #[.slice A0 bs.length c0, .slice A1 ws.length c1] 43))
  have HX := Aside0.mk hx; have HY := Aside0.mk hy; have HD := Aside0.mk hd; clear hx hy hd
  go_enter Try.func57, Try.ntmps57
  go_wp2_with fail
  refine (specDiskOk_c _ _ _ _ bs ws true ⟨fun _ => HD.out, fun _ => rfl⟩ _ (Kd.C_below HX.out hb0.out) (Kd.C_below HY.out hb0.out)).mono ?_
  rintro e w1 ⟨rfl, hb1⟩
  have J1 := blk_below BK1.out hb1
  have d0 := (blk_cell J1 0).trans rfl; have d1 := (blk_cell J1 1).trans rfl
  have HB1 := Aside0.mk (below_then hb0.out (by simp) hb1)
  clear J1 hb1
  go_wp2_with fail
  refine (specSync_yes _ _ _ _ bs ws _ (Kd.C_below HX.out HB1.out) (Kd.C_below HY.out HB1.out) HD.out).mono ?_
  rintro e w2 ⟨v0, v1, f0, f1, rfl, r0, r1, hnd, hge, hb2⟩
  obtain ⟨L, hL⟩ : ∃ L, L = settleL bs ws (kfL true []) := ⟨_, rfl⟩
  rw [← hL] at r0
  have HL := Aside0.mk hL
  clear hL
  obtain ⟨W0, hW⟩ : ∃ W0, W0 = ([] : List Wr) := ⟨_, rfl⟩
  rw [← hW] at r1
  clear hW
  obtain ⟨Ap, cp_, rfl, _, _⟩ := Rp.Row_reads r0
  obtain ⟨Aq, cq, rfl, _, _⟩ := Rp.Row_reads r1
  have R0 := Aside0.mk (Rp.Row_alloc r0 (.cells #[.slice Ap L.length cp_, .slice Aq W0.length cq] 43)); have HN := Aside0.mk hnd; have HG := Aside0.mk hge
  have HB := Aside0.mk (below_then (below_then HB1.out HB1.out.size hb2) (Nat.le_trans HB1.out.size hb2.size) (below_alloc (Below.refl _ w2) (.cells #[.slice Ap L.length cp_, .slice Aq W0.length cq] 43)))
  have hs1 := Aside0.mk HB1.out.size
  clear r0 r1 hnd hge hb2 d0 d1
  go_wp2
  go_ret
  have hL := HL.out
  subst hL
  exact ⟨_, rfl, ⟨f0, R0.out, (List.nodup_append.1 HN.out).1, fun b hb => by have := HG.out b (List.mem_append_left _ hb); have := hs1.out; omega⟩, HB.out⟩
end Go.Proofs.Ytocdlibnmlcokaa
namespace Go.Proofs.Ytocdlibnmlcokaa
open Go.RowKit Go.Proofs.YtocdlibnmlcokaaW.PrintWords Go.Proofs.YtocdlibnmlcokaaW.PrintLast
set_option linter.unusedVariables false
set_option linter.unusedSimpArgs false
theorem Nt.ext' {x y : Nt} (h0 : x.tick = y.tick) (h1 : x.kind = y.kind) (h2 : x.who = y.who) (h3 : x.n = y.n) (h4 : x.text = y.text) : x = y := by
  cases x; cases y; simp_all
instance : DecidableEq Nt := fun x y =>
  decidable_of_iff (x.tick = y.tick ∧ x.kind = y.kind ∧ x.who = y.who ∧ x.n = y.n ∧ x.text = y.text) ⟨fun h => Nt.ext' h.1 h.2.1 h.2.2.1 h.2.2.2.1 h.2.2.2.2, fun h => by subst h; simp⟩
theorem bytes_same (a b : ByteArray) : (a.toList == b.toList) = decide (a = b) := by
  by_cases h : a = b
  · subst h; simp
  · rw [decide_eq_false h]
    exact beq_eq_false_iff_ne.mpr (fun e => h (Math.toList_inj e))
theorem nt_same (x y : Nt) : (x.tick == y.tick && (x.kind == y.kind && (x.who == y.who && (x.n == y.n && (x.text.toList == y.text.toList))))) = decide (x = y) := by
  rw [bytes_same]
  by_cases h : x = y
  · subst h; simp
  · rw [decide_eq_false h]
    cases he : (x.tick == y.tick && (x.kind == y.kind && (x.who == y.who && (x.n == y.n && decide (x.text = y.text))))) with
    | false => rfl
    | true =>
      simp only [Bool.and_eq_true, beq_iff_eq, decide_eq_true_eq] at he
      exact absurd (Nt.ext' he.1 he.2.1 he.2.2.1 he.2.2.2.1 he.2.2.2.2) h
theorem eqN33 (d : Nat) (w : World) (x y : Nt) :
    (Op.equalIn (d + 2) 33 (.agg #[.int .i64 x.tick, .int .i64 x.kind, .int .i64 x.who, .int .i64 x.n, .string x.text]) (.agg #[.int .i64 y.tick, .int .i64 y.kind, .int .i64 y.who, .int .i64 y.n, .string y.text])).run Try.prog w = .ok (decide (x = y)) w := by
  rw [← nt_same]
  refine eqA_of Try.underlying33 (by kernel_rfl) ?_
  refine eqf_cons (by rfl) (by go_simp; rfl) (by go_simp; rfl) (by go_simp) ?_
  refine eqf_cons (by rfl) (by go_simp; rfl) (by go_simp; rfl) (by go_simp) ?_
  refine eqf_cons (by rfl) (by go_simp; rfl) (by go_simp; rfl) (by go_simp) ?_
  refine eqf_cons (by rfl) (by go_simp; rfl) (by go_simp; rfl) (by go_simp) ?_
  exact eqf_last (by rfl) (by go_simp; rfl) (by go_simp; rfl) (by go_simp)
def sameN : List Nt → List Nt → Nat
  | x :: xs, y :: ys => if x = y then sameN xs ys + 1 else 0
  | [], _ => 0
  | _ :: _, [] => 0
theorem sameN_yes {xs ys : List Nt} {i : Nat} (h1 : i < xs.length) (h2 : i < ys.length) (h : xs[i] = ys[i]) : sameN (xs.drop i) (ys.drop i) = sameN (xs.drop (i + 1)) (ys.drop (i + 1)) + 1 := by
  rw [List.drop_eq_getElem_cons h1, List.drop_eq_getElem_cons h2, sameN, if_pos h]
theorem sameN_ne {xs ys : List Nt} {i : Nat} (h1 : i < xs.length) (h2 : i < ys.length) (h : ¬ xs[i] = ys[i]) : sameN (xs.drop i) (ys.drop i) = 0 := by
  rw [List.drop_eq_getElem_cons h1, List.drop_eq_getElem_cons h2, sameN, if_neg h]
theorem sameN_out {xs ys : List Nt} {i : Nat} (h : xs.length ≤ i ∨ ys.length ≤ i) : sameN (xs.drop i) (ys.drop i) = 0 := by
  rcases h with h | h
  · rw [List.drop_of_length_le h]; cases ys.drop i <;> rfl
  · rw [List.drop_of_length_le h]; cases xs.drop i <;> rfl
structure Lg where
  ok : Bool
  notes : List Nt
  len : Int
  gen : Int
  safe : Int
def lg0 : Lg := ⟨false, [], 0, 0, 0⟩
def GotLg (l : Lg) (w : World) (e : Ending) (w' : World) : Prop :=
  ∃ v, e = .returned (.agg #[.bool l.ok, v, .int .i64 l.len, .int .i64 l.gen, .int .i64 l.safe]) ∧ Own w w' [Rs.row rN 33 v l.notes]
abbrev syncL (bs : List (List Int)) (ws : List Wr) : List (List Int) := settleL bs ws (kfL true [])
def foundL (bs : List (List Int)) : List Nt × Nat := framesL (logBytes bs)
def scanL (bs : List (List Int)) (ws : List Wr) : Lg := ⟨true, (foundL (syncL bs ws)).1, (foundL (syncL bs ws)).2, logGen (syncL bs ws), sameN (foundL (syncL bs ws)).1 (foundL bs).1⟩
def BkOk (bs : List (List Int)) (ws : List Wr) : Prop := (∀ b ∈ bs, BsOk b) ∧ ∀ x ∈ ws, BsOk x.bytes
theorem found_c (A : Option Addr) (c : Nat) (bs : List (List Int)) (w : World) (hx : rBS.d.C w A bs.length bs) (hc : bs.length ≤ c) (hb : BlOk bs) :
    Calls Try.prog 109 #[.slice A bs.length c] w (GotFound w (foundL bs).1 (foundL bs).2 (logGen bs) ((logBytes bs).take (foundL bs).2)) := by
  unfold foundL
  by_cases hh : headOk bs
  · have hl := logBytes_ok hb
    refine found_yes A c bs (logBytes bs) w hx hc hb hh hl.1 (by omega) (logGen bs) (by unfold logGen; rw [if_pos hh]) (by unfold logGen logBytes; rw [if_pos hh, if_pos hh, bodyL_zero]) _ (fun _ _ h => h)
  · have e : logBytes bs = [] := by unfold logBytes; rw [if_neg hh]
    have e2 : logGen bs = 0 := by unfold logGen; rw [if_neg hh]
    rw [e, e2]
    exact found_no A c bs w hx hc hb hh
theorem sync_bytes {bs : List (List Int)} {ws : List Wr} (kf : Nat → Bool) (hk : BkOk bs ws) : ∀ i, i ≤ ws.length → ∀ x ∈ setTo bs ws kf i, BsOk x
  | 0, _, x, hx => hk.1 x hx
  | i + 1, hi, x, hx => by
    simp only [setTo] at hx
    split at hx
    · rcases List.mem_or_eq_of_mem_set hx with h | rfl
      · exact sync_bytes kf hk i (by omega) x h
      · rw [List.getD_eq_getElem?_getD, List.getElem?_eq_getElem (by omega)]
        exact hk.2 _ (List.getElem_mem _)
    · exact sync_bytes kf hk i (by omega) x hx
theorem Own.st5 {w0 w w1 : World} {L : List Rs} {g t : Nat} {a b c d e x y z u v : Value} (h : Own w0 w (Rs.box g t #[a, b, c, d, e] :: L))
    (hw : ((((w.setCell ⟨g, 0, none⟩ x).setCell ⟨g, 1, none⟩ y).setCell ⟨g, 2, none⟩ z).setCell ⟨g, 3, none⟩ u).setCell ⟨g, 4, none⟩ v = w1) : Own w0 w1 (Rs.box g t #[x, y, z, u, v] :: L) :=
  hw ▸ ((((h.set 0 x).set 1 y).set 2 z).set 3 u).set 4 v
theorem Own.q2 {w0 w : World} {L : List Rs} {R R1 R2 : Rs} (h : Own w0 w (R :: R1 :: R2 :: L)) : Own w0 w (R1 :: R2 :: R :: L) := h.p2.p2
theorem Own.q3 {w0 w : World} {L : List Rs} {R R1 R2 R3 : Rs} (h : Own w0 w (R :: R1 :: R2 :: R3 :: L)) : Own w0 w (R1 :: R2 :: R3 :: R :: L) := h.p3.p3.p3
theorem Own.q4 {w0 w : World} {L : List Rs} {R R1 R2 R3 R4 : Rs} (h : Own w0 w (R :: R1 :: R2 :: R3 :: R4 :: L)) : Own w0 w (R1 :: R2 :: R3 :: R4 :: R :: L) := h.p4.p4.p4.p4
theorem Own.q5 {w0 w : World} {L : List Rs} {R R1 R2 R3 R4 R5 : Rs} (h : Own w0 w (R :: R1 :: R2 :: R3 :: R4 :: R5 :: L)) : Own w0 w (R1 :: R2 :: R3 :: R4 :: R5 :: R :: L) := h.p5.p5.p5.p5.p5
end Go.Proofs.Ytocdlibnmlcokaa
namespace Go.Proofs.Ytocdlibnmlcokaa
open Go.RowKit Go.Proofs.YtocdlibnmlcokaaW.PrintWords Go.Proofs.YtocdlibnmlcokaaW.PrintLast
set_option linter.unusedVariables false
set_option linter.unusedSimpArgs false
def cnD (bs : List (List Int)) (ws : List Wr) : Int := cntL cnB bs + cntL cnW ws
theorem cnD_nonneg (bs : List (List Int)) (ws : List Wr) : 0 ≤ cnD bs ws := by have := cntL_nonneg (cnt := cnB) cnB_nonneg bs; have := cntL_nonneg (cnt := cnW) cnW_nonneg ws; unfold cnD; omega
def GotMarkD (w : World) (v0 v1 : Value) (bs : List (List Int)) (ws : List Wr) (f0 f1 : List Nat) (k : Int) (en : Ending) (w' : World) : Prop :=
  en = .returned (.int .i64 (k + cnD bs ws)) ∧ rBS.Row 22 w' v0 (markL mkBS cnB k bs) f0 ∧ rW.Row 147 w' v1 (markL mkW cnW (k + cntL cnB bs) ws) f1 ∧ Kp w w' (f0 ++ f1)
set_option maxHeartbeats 1000000 in
theorem markDisk_c (v0 v1 : Value) (bs : List (List Int)) (ws : List Wr) (f0 f1 : List Nat) (k : Int) (w : World) (hr0 : rBS.Row 22 w v0 bs f0) (hr1 : rW.Row 147 w v1 ws f1) (hnd : (f0 ++ f1).Nodup) (h0 : 0 ≤ k) (h1 : k + cnD bs ws ≤ 1000000000) :
    Calls Try.prog 29 #[.agg #[v0, v1], .int .i64 k] w (GotMarkD w v0 v1 bs ws f0 f1 k) := by
  have hb0 := cntL_nonneg (cnt := cnB) cnB_nonneg bs
  have hw0 := cntL_nonneg (cnt := cnW) cnW_nonneg ws
  unfold cnD at h1
  obtain ⟨A0, c0, rfl, _, _⟩ := Rp.Row_reads hr0
  obtain ⟨A1, c1, rfl, _, _⟩ := Rp.Row_reads hr1
  obtain ⟨n0, n1, n2⟩ := List.nodup_append.1 hnd
  have R0 := Aside0.mk (Rp.Row_alloc hr0 (.cells #[.slice A0 bs.length c0, .slice A1 ws.length c1] 43))
  have R1 := Aside0.mk (Rp.Row_alloc hr1 (.cells #[.slice A0 bs.length c0, .slice A1 ws.length c1] 43))
  have L0 := Aside0.mk (Rp.Row_lt hr0); have L1 := Aside0.mk (Rp.Row_lt hr1)
  have N0 := Aside0.mk n0; have N1 := Aside0.mk n1; have N2 := Aside0.mk n2
  have K0 := Aside0.mk (Kp.below (below_alloc (Below.refl _ w) (.cells #[.slice A0 bs.length c0, .slice A1 ws.length c1] 43)))
  have B0 := Aside0.mk (blk_new w (.cells #[.slice A0 bs.length c0, .slice A1 ws.length c1] 43))
  clear hr0 hr1 hnd n0 n1 n2
  go_enter Try.func29, Try.ntmps29
  go_wp2_with (first
    | (go_at_call 60; refine (markByteSS_c _ bs f0 k _ R0.out N0.out (by omega) (by omega)).mono ?_; rintro e wa ⟨rfl, hra, hka⟩; have B1 := Aside0.mk (hka.blk B0.out (fun h => by have := L0.out _ h; omega)); have ca := (blk_cell B1.out 1).trans rfl; have RA := Aside0.mk hra; have KA := Aside0.mk hka; clear hra hka)
    | (go_at_call 102; refine (markWriteS_c _ ws f1 _ _ (KA.out.row R1.out (fun b hb hm => N2.out b hm b hb rfl)) N1.out (by omega) (by omega)).mono ?_; rintro e wb ⟨rfl, hrb, hkb⟩; have RB := Aside0.mk hrb; have KB := Aside0.mk hkb; clear hrb hkb))
  go_ret
  refine ⟨by rw [show k + cnD bs ws = k + cntL cnB bs + cntL cnW ws by unfold cnD; omega]; rfl, KB.out.row RA.out (fun b hb hm => N2.out b hb b hm rfl), RB.out, ?_⟩
  exact ((K0.out.mono (by simp)).trans KA.out (fun b hb _ => List.mem_append_left _ hb)).trans KB.out (fun b hb _ => List.mem_append_right _ hb)
end Go.Proofs.Ytocdlibnmlcokaa
namespace Go.Proofs.Ytocdlibnmlcokaa
open Go.RowKit Go.Proofs.YtocdlibnmlcokaaW.PrintWords Go.Proofs.YtocdlibnmlcokaaW.PrintLast
set_option linter.unusedVariables false
def ObD (w : World) (lo hi b : Nat) (bs : List (List Int)) (ws : List Wr) : Prop :=
  ∃ A0 c0 A1 c1 f0 f1, w.heap[b]? = some (.cells #[.slice A0 bs.length c0, .slice A1 ws.length c1] 43 (0, 0)) ∧ rBS.Row 22 w (.slice A0 bs.length c0) bs f0 ∧ rW.Row 147 w (.slice A1 ws.length c1) ws f1 ∧ (f0 ++ f1).Nodup ∧ (∀ x ∈ f0 ++ f1, lo ≤ x ∧ x < hi) ∧ hi ≤ b ∧ lo ≤ hi
theorem ObD.kp {w w1 : World} {lo hi b : Nat} {bs : List (List Int)} {ws : List Wr} {S : List Nat} (h : ObD w lo hi b bs ws) (k : Kp w w1 S) (hS : ∀ x ∈ S, x < lo ∨ (hi ≤ x ∧ x ≠ b)) (hlb : lo ≤ b := by omega) : ObD w1 lo hi b bs ws := by
  obtain ⟨A0, c0, A1, c1, f0, f1, hb, h0, h1, hn, hr, hhb, hlh⟩ := h
  refine ⟨A0, c0, A1, c1, f0, f1, k.blk hb (fun hm => ?_), k.row h0 (fun x hx hm => ?_), k.row h1 (fun x hx hm => ?_), hn, hr, hhb, hlh⟩
  · have := hS b hm; omega
  · have := hS x hm; have := hr x (List.mem_append_left _ hx); omega
  · have := hS x hm; have := hr x (List.mem_append_right _ hx); omega
theorem ObD.below {w w1 : World} {lo hi b : Nat} {bs : List (List Int)} {ws : List Wr} (h : ObD w lo hi b bs ws) (k : Below w.heap.size w w1) : ObD w1 lo hi b bs ws := by
  have hlb : lo ≤ b := by obtain ⟨_, _, _, _, _, _, _, _, _, _, _, h1, h2⟩ := h; omega
  exact h.kp (Kp.below k) (by simp) hlb
def ObR {α : Type} (r : Rp α) (e : Nat) (w : World) (lo hi : Nat) (v : Value) (xs : List α) : Prop := ∃ fp, r.Row e w v xs fp ∧ fp.Nodup ∧ (∀ x ∈ fp, lo ≤ x ∧ x < hi)
section
variable {α : Type} {r : Rp α} {e lo hi l u : Nat} {w w0 w1 : World} {v : Value} {xs xs' : List α} {S : List Nat}
theorem ObR.below (h : ObR r e w lo hi v xs) (k : Below w.heap.size w w1) : ObR r e w1 lo hi v xs := by
  obtain ⟨fp, hr, hn, hx⟩ := h
  exact ⟨fp, Rp.Row_below hr k, hn, hx⟩
theorem ObR.C {A : Option Addr} {n c : Nat} (h : ObR r e w lo hi (.slice A n c) xs) : n = xs.length ∧ xs.length ≤ c ∧ r.d.C w A xs.length xs := by
  obtain ⟨fp, hr, _, _⟩ := h
  exact Rp.Row_C hr
end
end Go.Proofs.Ytocdlibnmlcokaa
namespace Go.Proofs.Ytocdlibnmlcokaa.Open
open Go.RowKit Go.Proofs.YtocdlibnmlcokaaW.PrintWords Go.Proofs.YtocdlibnmlcokaaW.PrintLast
open Go.ChangeShapes Go.WideShapes
set_option linter.unusedVariables false
def Opens (P : Program) (t : TypeId) {α : Type} (d : Kd α) (ok : α → Prop) : Prop :=
  ∀ (H : Type) (enc : TypeId × Value → H) (w : World) (fuel : Nat) (cs : List Value) (x : DataW H × List MemPlace), DataW.trod enc P w 0 (fun _ => true) true fuel t cs = some x → ∃ y : α, d.K w y cs ∧ ok y
theorem opens_int {P : Program} {t : TypeId} {k : IntKind} (ht : P.underlying t = some (.int k)) : Opens P t (Kd.int k) (fun n => (Lit.int k n).wf = true) := by
  intro H enc w fuel cs x h
  obtain ⟨n, rfl, _, hw⟩ := DataW.trod_int ht h
  exact ⟨n, rfl, hw⟩
theorem opens_slice {P : Program} {t e : TypeId} {α : Type} {d : Kd α} {ok : α → Prop} (e' : Nat) (ht : P.underlying t = some (.slice e)) (hc : P.cellsOf e = d.sz) (he : Opens P e d ok) :
    Opens P t (Kd.slice e' d) (fun xs => xs.length ≤ maxLen ∧ ∀ x ∈ xs, ok x) := by
  intro H enc w fuel cs x h
  rcases Go.Deep.open_slice ht h with ⟨rfl, _⟩ | ⟨a, len, cap, m, n, D, Pl, rfl, _, hl, hm, hmm, _, hx⟩
  · exact ⟨[], ⟨none, 0, rfl, by simp, by simp, by simp, fun h => absurd h (by simp)⟩, by simp, by simp⟩
  · have hlm : len ≤ m := by rw [hmm]; split <;> omega
    have key : ∀ n' : Nat, n' ≤ len → ∃ ys : List α, ys.length = n' ∧ (∀ y ∈ ys, ok y) ∧ ∀ j p, ys[j]? = some p → ∃ c, c.length = d.sz ∧ d.K w p c ∧ ∀ i u, c[i]? = some u → w.cell? (a.add (j * d.sz + i)) = some u := by
      intro n'
      induction n' with
      | zero => exact fun _ => ⟨[], rfl, by simp, by simp⟩
      | succ n' ih =>
        intro hn
        obtain ⟨ys, hyl, hyo, hyc⟩ := ih (by omega)
        obtain ⟨cs', h1, h2⟩ := hx n' (by omega)
        obtain ⟨y, hK, hok⟩ := he H enc w _ _ _ h2
        obtain ⟨_, hlen, hcell⟩ := World.cells?_some h1
        rw [hc] at hlen hcell
        refine ⟨ys ++ [y], by simp [hyl], ?_, ?_⟩
        · intro z hz
          rcases List.mem_append.1 hz with hz | hz
          · exact hyo z hz
          · rw [List.mem_singleton.1 hz]; exact hok
        · intro j p hj
          rcases Nat.lt_or_ge j ys.length with hlt | hge
          · rw [List.getElem?_append_left hlt] at hj
            exact hyc j p hj
          · rw [List.getElem?_append_right hge] at hj
            have hj0 : j - ys.length = 0 := by
              rcases Nat.eq_zero_or_pos (j - ys.length) with h0 | h0
              · exact h0
              · rw [List.getElem?_eq_none (by simp; omega)] at hj
                cases hj
            have hjn : j = n' := by omega
            subst hjn
            rw [hj0] at hj
            obtain rfl : y = p := by simpa using hj
            refine ⟨cs', hlen, hK, fun i u hu => ?_⟩
            have hi : i < d.sz := by
              have := (List.getElem?_eq_some_iff.1 hu).1
              omega
            have hc1 := hcell i hi
            rw [hu, Go.Deep.add_add] at hc1
            exact hc1
    obtain ⟨ys, hyl, hyo, hyc⟩ := key len (Nat.le_refl _)
    have hb : len ≤ 9223372036854775807 := by
      unfold maxLen at hm
      omega
    subst hyl
    exact ⟨ys, ⟨some a, cap, rfl, hl, rfl, hb, fun _ => ⟨a, rfl, hyc⟩⟩, by omega, hyo⟩
def OpensF (P : Program) (off : Nat) (fs : List Field) {α : Type} (d : Kd α) (ok : α → Prop) : Prop :=
  ∀ (H : Type) (enc : TypeId × Value → H) (w : World) (n : Nat) (cs : List Value), off + d.sz ≤ cs.length → (∀ f ∈ fs, ∃ x, DataW.trod enc P w 0 (fun _ => true) true n f.type ((cs.drop f.offset).take (P.cellsOf f.type)) = some x) →
    ∃ y : α, d.K w y ((cs.drop off).take d.sz) ∧ ok y
theorem opensF_one {P : Program} {off : Nat} {f : Field} {α : Type} {d : Kd α} {ok : α → Prop} (ho : f.offset = off) (hc : P.cellsOf f.type = d.sz) (h : Opens P f.type d ok) : OpensF P off [f] d ok := by
  intro H enc w n cs _ hf
  obtain ⟨x, hx⟩ := hf f (List.mem_singleton.2 rfl)
  rw [ho, hc] at hx
  exact h H enc w n _ x hx
theorem opensF_cons {P : Program} {off : Nat} {f : Field} {fs : List Field} {α β : Type} {d : Kd α} {d' : Kd β} {ok : α → Prop} {ok' : β → Prop} (ho : f.offset = off) (hc : P.cellsOf f.type = d.sz) (h : Opens P f.type d ok) (hr : OpensF P (off + d.sz) fs d' ok') :
    OpensF P off (f :: fs) (Kd.pair d d') (fun y => ok y.1 ∧ ok' y.2) := by
  intro H enc w n cs hl hf
  obtain ⟨x, hx⟩ := hf f List.mem_cons_self
  rw [ho, hc] at hx
  obtain ⟨y, hK, hy⟩ := h H enc w n _ x hx
  have hl' : off + (d.sz + d'.sz) ≤ cs.length := hl
  obtain ⟨z, hK', hz⟩ := hr H enc w n cs (by omega) (fun g hg => hf g (List.mem_cons_of_mem _ hg))
  refine ⟨(y, z), ⟨_, _, ?_, hK, hK'⟩, hy, hz⟩
  show (cs.drop off).take (d.sz + d'.sz) = _
  rw [List.take_add, List.drop_drop]
theorem opens_struct {P : Program} {t : TypeId} {fs : Array Field} {α : Type} {d : Kd α} {ok : α → Prop} (ht : P.underlying t = some (.struct fs)) (hc : P.cellsOf t = d.sz) (h : OpensF P 0 fs.toList d ok) : Opens P t d ok := by
  intro H enc w fuel cs x hx
  obtain ⟨xs, n, _, _, hl, hxl, hf⟩ := DataW.trod_struct ht hx
  obtain ⟨y, hK, hy⟩ := h H enc w n cs (by omega) (fun f hm => by
    obtain ⟨i, hi⟩ := List.getElem?_of_mem hm
    have hi' : fs[i]? = some f := by simpa using hi
    have hlt : i < xs.length := by
      have := (Array.getElem?_eq_some_iff.1 hi').1
      omega
    exact ⟨xs[i], by rw [hf i f hi', List.getElem?_eq_getElem hlt]⟩)
  refine ⟨y, ?_, hy⟩
  rw [List.drop_zero, List.take_of_length_le (by omega)] at hK
  exact hK
theorem opens_iso {P : Program} {t : TypeId} {α β : Type} {d : Kd α} {ok : α → Prop} {f : β → α} {ok' : β → Prop} (h : Opens P t d ok) (hs : ∀ x : α, ok x → ∃ y, f y = x ∧ ok' y) : Opens P t (Kd.iso d f) ok' := by
  intro H enc w fuel cs x hx
  obtain ⟨y, hK, hy⟩ := h H enc w fuel cs x hx
  obtain ⟨z, rfl, hz⟩ := hs y hy
  exact ⟨z, hK, hz⟩
theorem opens_mono {P : Program} {t : TypeId} {α : Type} {d : Kd α} {ok ok' : α → Prop} (h : Opens P t d ok) (hs : ∀ x : α, ok x → ok' x) : Opens P t d ok' := by
  intro H enc w fuel cs x hx
  obtain ⟨y, hK, hy⟩ := h H enc w fuel cs x hx
  exact ⟨y, hK, hs y hy⟩
theorem opens_Trod {P : Program} {t : TypeId} {α : Type} {d : Kd α} {ok : α → Prop} (h : Opens P t d ok) {H : Type} {enc : TypeId × Value → H} {w : World} {v : Value} {D : DataW H} {ps : List MemPlace} (hd : DataW.Trod enc P w 0 (fun _ => true) true t v D ps) : ∃ y : α, d.K w y v.cells.toList ∧ ok y := by
  obtain ⟨fuel, hf⟩ := hd
  exact h H enc w fuel _ _ hf
section
variable {P : Program} {w : World} {r : Reach} {base : Nat} {t : TypeId} {v : Value}
theorem agg_of {fs : Array Field} (hs : P.underlying t = some (.struct fs)) (hv : Value.okWide P w r base t v) {l : List Value} (h : v.cells.toList = l) : v = .agg l.toArray := by
  obtain ⟨cs, rfl, _⟩ := okWide_struct hs hv
  subst h
  simp [Value.cells]
end
end Go.Proofs.Ytocdlibnmlcokaa.Open
namespace Go.Proofs.Ytocdlibnmlcokaa
open Go.RowKit Go.Proofs.YtocdlibnmlcokaaW.PrintWords Go.Proofs.YtocdlibnmlcokaaW.PrintLast Go.Proofs.Ytocdlibnmlcokaa.Open
set_option linter.unusedVariables false
set_option linter.unusedSimpArgs false
theorem cntL_mem {α : Type} {cnt : α → Int} (hc : ∀ x, 0 ≤ cnt x) : ∀ (xs : List α), ∀ x ∈ xs, cnt x ≤ cntL cnt xs
  | [], x, h => by cases h
  | y :: r, x, h => by
    have h0 := hc y
    have h1 := cntL_nonneg (cnt := cnt) hc r
    rcases List.mem_cons.1 h with rfl | h
    · simp only [cntL]; omega
    · have := cntL_mem hc r x h; simp only [cntL]; omega
theorem cntW_V : ∀ ws : List Wr, cntL cnW ws = ws.length + cntL cnV ws
  | [] => rfl
  | y :: r => by simp only [cntL, cntW_V r, cnW, cnV, List.length_cons]; omega
def Small (bs : List (List Int)) (ws : List Wr) : Prop := bs.length ≤ 10000000 ∧ ws.length ≤ 10000000 ∧ (∀ x ∈ bs, x.length ≤ 10000000) ∧ ∀ x ∈ ws, x.bytes.length ≤ 10000000
theorem small_of {bs : List (List Int)} {ws : List Wr} (h : costD bs ws ≤ 1048576) : Small bs ws ∧ cnD bs ws ≤ 100000000 := by
  have h0 := cntL_nonneg (cnt := cnB) cnB_nonneg bs
  have h1 := cntL_nonneg (cnt := cnV) cnV_nonneg ws
  have h2 := cntW_V ws
  unfold costD costBS costWS at h
  refine ⟨⟨by omega, by omega, fun x hx => ?_, fun x hx => ?_⟩, by unfold cnD; omega⟩
  · have := cntL_mem (cnt := cnB) cnB_nonneg bs x hx; unfold cnB at *; omega
  · have := cntL_mem (cnt := cnV) cnV_nonneg ws x hx; unfold cnV at *; omega
theorem setTo_row {bs : List (List Int)} {ws : List Wr} {kf : Nat → Bool} (hd : DkOk bs ws) : ∀ i, i ≤ ws.length → ∀ x ∈ setTo bs ws kf i, x.length = 64
  | 0, _, x, hx => hd.2.2.1 x hx
  | i + 1, hi, x, hx => by
    simp only [setTo] at hx
    split at hx
    · rcases List.mem_or_eq_of_mem_set hx with h | rfl
      · exact setTo_row hd i (by omega) x h
      · rw [List.getD_eq_getElem?_getD, List.getElem?_eq_getElem (by omega)]
        exact (hd.2.2.2 _ (List.getElem_mem _)).2.2
    · exact setTo_row hd i (by omega) x hx
theorem settle_ok {bs : List (List Int)} {ws : List Wr} (kf : Nat → Bool) (hd : DkOk bs ws) : (settleL bs ws kf).length = 128 ∧ ∀ x ∈ settleL bs ws kf, x.length = 64 :=
  ⟨(setTo_len bs ws kf _).trans hd.1, setTo_row hd _ (Nat.le_refl _)⟩
theorem op22 : Opens Try.prog 22 (Kd.slice 5 (Kd.int .u8)) (fun xs => xs.length ≤ maxLen ∧ ∀ x ∈ xs, (Lit.int .u8 x).wf = true) := opens_slice 5 Try.underlying22 (by kernel_rfl) (opens_int Try.underlying5)
theorem open78 {w : World} {y : List (List Int) × List Wr} {cs : List Value} (h : (Kd.pair (Kd.slice 22 rBS.d) (Kd.slice 147 rW.d)).K w y cs) :
    ∃ A0 c0 A1 c1, cs = [.slice A0 y.1.length c0, .slice A1 y.2.length c1] ∧ rBS.d.C w A0 y.1.length y.1 ∧ rW.d.C w A1 y.2.length y.2 := by
  obtain ⟨_, _, rfl, ⟨A0, c0, rfl, _, h0⟩, ⟨A1, c1, rfl, _, h1⟩⟩ := h
  exact ⟨A0, c0, A1, c1, rfl, h0, h1⟩
end Go.Proofs.Ytocdlibnmlcokaa
namespace Go.Proofs.Ytocdlibnmlcokaa
open Go.RowKit Go.Proofs.YtocdlibnmlcokaaW.PrintWords Go.Proofs.YtocdlibnmlcokaaW.PrintLast
attribute [local go_sem high] eqN33
set_option linter.unusedVariables false
set_option linter.unusedSimpArgs false
theorem sync_ok {bs : List (List Int)} {ws : List Wr} (hd : DkOk bs ws) (hk : BkOk bs ws) : BlOk (syncL bs ws) := by
  have h := settle_ok (kfL true []) hd
  exact ⟨h.1, fun b hb => ⟨h.2 b hb, sync_bytes _ hk _ (Nat.le_refl _) b hb⟩⟩
theorem bl_ok {bs : List (List Int)} {ws : List Wr} (hd : DkOk bs ws) (hk : BkOk bs ws) : BlOk bs := ⟨hd.1, fun b hb => ⟨hd.2.2.1 b hb, hk.1 b hb⟩⟩
theorem frames_len : ∀ (k : Nat) (b : List Int), BsOk b → (framesF k b).1.length ≤ b.length ∧ (framesF k b).2 ≤ b.length
  | 0, b, _ => by simp [framesF]
  | k + 1, b, hb => by
    by_cases h : FrIs b
    · obtain ⟨h1, h2⟩ := fr_len hb h
      have ih := frames_len k (b.drop (frLen b).toNat) (hb.drop _)
      rw [framesF_yes h]
      rw [List.length_drop] at ih
      simp only [List.length_cons]
      omega
    · rw [framesF_no h]; simp
set_option maxHeartbeats 8000000 in
set_option maxRecDepth 100000 in
theorem implScan_no (A0 A1 : Option Addr) (c0 c1 : Nat) (bs : List (List Int)) (ws : List Wr) (w : World) (hx : rBS.d.C w A0 bs.length bs) (hy : rW.d.C w A1 ws.length ws) (hd : ¬ DkOk bs ws) :
    Calls Try.prog 72 #[.agg #[.slice A0 bs.length c0, .slice A1 ws.length c1]] w (GotLg lg0 w) := by
  have HX := Aside0.mk hx; have HY := Aside0.mk hy; have HD := Aside0.mk hd; clear hx hy hd
  go_enter Try.func72, Try.ntmps72
  go_upto_region 1 with (fail)
  generalize hw : World.alloc (World.alloc w _) _ = w1
  have O := Aside0.mk ((Own.nil w).of2 hw); clear hw
  have p0 := (blk_cell O.out.b1 0).trans rfl; have p1 := (blk_cell O.out.b1 1).trans rfl
  go_wp2_with fail
  refine (implDiskOk_c _ _ _ _ bs ws false ⟨fun h => (by cases h), fun h => absurd h HD.out⟩ _ (Kd.C_below HX.out O.out.bel) (Kd.C_below HY.out O.out.bel)).mono ?_
  rintro e w2 ⟨rfl, hb⟩
  replace O := Aside0.mk (O.out.below hb)
  clear p0 p1 hb
  have u0 := (blk_cell O.out.b0 0).trans rfl; have u1 := (blk_cell O.out.b0 1).trans rfl; have u2 := (blk_cell O.out.b0 2).trans rfl; have u3 := (blk_cell O.out.b0 3).trans rfl; have u4 := (blk_cell O.out.b0 4).trans rfl
  have z0 := blk_frozen O.out.b0 0; have z1 := blk_frozen O.out.b0 1; have z2 := blk_frozen O.out.b0 2; have z3 := blk_frozen O.out.b0 3; have z4 := blk_frozen O.out.b0 4
  go_wp2
  generalize hw : World.setCell _ _ _ = w3
  replace O := Aside0.mk (O.out.st5 hw); clear hw
  refine bodyPost_ret (results_cell_row rfl _ _ (w.heap.size + 1) 59 _ (0, 0) _ rfl O.out.b0 Try.underlying59 rfl (by kernel_rfl)) rfl ?_
  exact ⟨_, rfl, (O.out.drop.drop).nilRow rN 33⟩
set_option maxHeartbeats 8000000 in
set_option maxRecDepth 100000 in
theorem implScan_yes (A0 A1 : Option Addr) (c0 c1 : Nat) (bs : List (List Int)) (ws : List Wr) (w : World) (hx : rBS.d.C w A0 bs.length bs) (hy : rW.d.C w A1 ws.length ws) (hc : bs.length ≤ c0) (hd : DkOk bs ws) (hk : BkOk bs ws) :
    Calls Try.prog 72 #[.agg #[.slice A0 bs.length c0, .slice A1 ws.length c1]] w (GotLg (scanL bs ws) w) := by
  obtain ⟨S, hS⟩ : ∃ S, S = settleL bs ws (kfL true []) := ⟨_, rfl⟩
  obtain ⟨N, hN⟩ : ∃ N, N = (foundL S).1 := ⟨_, rfl⟩
  obtain ⟨L, hL⟩ : ∃ L, L = (foundL S).2 := ⟨_, rfl⟩
  obtain ⟨M, hM⟩ : ∃ M, M = (foundL bs).1 := ⟨_, rfl⟩
  obtain ⟨G, hG⟩ : ∃ G, G = logGen S := ⟨_, rfl⟩
  have hSok : BlOk S := hS ▸ sync_ok hd hk
  have hBok := bl_ok hd hk
  have hNl : N.length ≤ 10000 := by
    have h1 := logBytes_ok hSok
    have h2 := frames_len (logBytes S).length (logBytes S) h1.1
    rw [hN]; unfold foundL framesL; omega
  obtain ⟨R, hR⟩ : ∃ R, R = scanL bs ws := ⟨_, rfl⟩
  have HR : Aside0 (R = ⟨true, N, L, G, sameN N M⟩) := ⟨by rw [hR]; unfold scanL syncL; rw [← hS, ← hN, ← hL, ← hG, ← hM]⟩
  rw [← hR]; clear hR
  have HS := Aside0.mk hS; have HN := Aside0.mk hN; have HL := Aside0.mk hL; have HM := Aside0.mk hM; have HG := Aside0.mk hG; have HSok := Aside0.mk hSok; have HBok := Aside0.mk hBok
  have HX := Aside0.mk hx; have HY := Aside0.mk hy; have HD := Aside0.mk hd; clear hx hy hd hS hN hL hM hG hSok hBok
  go_enter Try.func72, Try.ntmps72
  go_upto_region 1 with (fail)
  generalize hw : World.alloc (World.alloc w _) _ = w1
  have O := Aside0.mk ((Own.nil w).of2 hw); clear hw
  have p0 := (blk_cell O.out.b1 0).trans rfl; have p1 := (blk_cell O.out.b1 1).trans rfl
  go_wp2_with fail
  refine (implDiskOk_c _ _ _ _ bs ws true ⟨fun _ => HD.out, fun _ => rfl⟩ _ (Kd.C_below HX.out O.out.bel) (Kd.C_below HY.out O.out.bel)).mono ?_
  rintro e w2 ⟨rfl, hb⟩
  replace O := Aside0.mk (O.out.below hb)
  clear p0 p1 hb
  have p0 := (blk_cell O.out.b1 0).trans rfl; have p1 := (blk_cell O.out.b1 1).trans rfl
  go_wp2_with fail
  refine (implSeen_yes _ _ _ _ bs ws _ (Kd.C_below HX.out O.out.bel) (Kd.C_below HY.out O.out.bel) HD.out).mono ?_
  intro e w3 hg
  obtain ⟨v, rfl, k⟩ := own_row hg
  rw [← HS.out] at k
  replace O := Aside0.mk (O.out.app1 k); clear k hg p0 p1
  obtain ⟨As, cs, rfl, hcs⟩ := O.out.f0
  have HCS := Aside0.mk hcs; clear hcs
  go_wp2_with fail
  refine (found_c _ _ S _ O.out.c0 HCS.out HSok.out).mono ?_
  intro e w4 hg
  rw [← HN.out, ← HL.out, ← HG.out] at hg
  obtain ⟨vn, vb, rfl, k⟩ := hg
  replace O := Aside0.mk ((O.out.app1 k.only1).p1.drop); clear k
  obtain ⟨An, cn, rfl, _⟩ := O.out.f0
  go_upto_region 4 with (fail)
  generalize hw : w4.alloc _ = w5
  replace O := Aside0.mk (O.out.of hw); clear hw
  generalize w4.heap.size = g3 at O ⊢
  have p0 := (blk_cell O.out.b3 0).trans rfl
  go_wp2_with fail
  refine (found_c _ _ bs _ (Kd.C_below HX.out O.out.bel) hc HBok.out).mono ?_
  intro e w6 hg
  rw [← HM.out] at hg
  generalize hL2 : ((foundL bs).2 : Int) = L2 at hg
  generalize hG2 : logGen bs = G2 at hg
  obtain ⟨vm, vb2, rfl, k⟩ := hg
  replace O := Aside0.mk (O.out.app1 k.only1); clear k p0 hL2 hG2
  obtain ⟨Am, cm, rfl, _⟩ := O.out.f0
  go_upto_region 5 with (fail)
  generalize hw : w6.alloc _ = w7
  replace O := Aside0.mk (O.out.of hw); clear hw
  generalize w6.heap.size = g5 at O ⊢
  go_loopg [36] (N.length + 1) (fun m v36 wr => ∃ i : Nat, Aside0 (i ≤ N.length ∧ N.length - i < m ∧ sameN N M = i + sameN (N.drop i) (M.drop i))
    ∧ Aside0 (Own w wr [Rs.box g5 59 #[.bool true, .slice Am M.length cm, .int .i64 L2, .int .i64 G2, .int .i64 0], Rs.row rN 33 (.slice Am M.length cm) M, Rs.box g3 59 #[.bool true, .slice An N.length cn, .int .i64 L, .int .i64 G, .int .i64 i], Rs.row rN 33 (.slice An N.length cn) N, Rs.box (w.heap.size + 1) 59 #[.bool false, .slice none 0 0, .int .i64 0, .int .i64 0, .int .i64 0], Rs.box w.heap.size 43 #[.slice A0 bs.length c0, .slice A1 ws.length c1]]))
  case atStart => exact ⟨0, ⟨by simp⟩, O⟩
  case round =>
    clear O
    obtain ⟨i, HI, O⟩ := hrel
    have q1 := (blk_cell O.out.b0 1).trans rfl
    have r1 := (blk_cell O.out.b2 1).trans rfl; have r4 := (blk_cell O.out.b2 4).trans rfl
    by_cases h1 : i < N.length
    · by_cases h2 : i < M.length
      · obtain ⟨ad, e1, a0, a1, a2, a3, a4⟩ := at_N O.out.c3 (i : Int) (by omega) (by omega)
        obtain ⟨ad', e2, b0, b1, b2, b3, b4⟩ := at_N O.out.c1 (i : Int) (by omega) (by omega)
        cases e1; cases e2
        simp only [Int.toNat_natCast] at a0 a1 a2 a3 a4 b0 b1 b2 b3 b4
        go_wp2
        go_quiet (fail)
        clear a0 a1 a2 a3 a4 b0 b1 b2 b3 b4 q1 r1 r4
        replace O := Aside0.mk (O.out.drewN nq)
        generalize wr.drewN nq = wd at O ⊢
        generalize hb : decide (gN N ↑i = gN M ↑i) = b
        have HBQ := Aside0.mk hb; clear hb
        cases b with
        | true =>
          have he : N[i] = M[i] := by have := of_decide_eq_true HBQ.out; rwa [gN_eq (by omega), gN_eq (by omega)] at this
          have HE := Aside0.mk he; clear he
          have r4 := (blk_cell O.out.b2 4).trans rfl; have z4 := blk_frozen O.out.b2 4
          go_wp2
          generalize hw : World.setCell _ _ _ = w8
          replace O := Aside0.mk ((O.out.p2.st hw #[.bool true, .slice (some ad) N.length cn, .int .i64 L, .int .i64 G, .int .i64 (i + 1)] rfl).q2); clear hw
          go_roundg (gk - 1)
          case measure => have := HI.out; omega
          case rel =>
            refine ⟨i + 1, ⟨by omega, by have := HI.out; omega, by have := HI.out.2.2; rw [sameN_yes (by omega) (by omega) HE.out] at this; omega⟩, ?_⟩
            exact O
        | false =>
          have he : ¬ N[i] = M[i] := by have := of_decide_eq_false HBQ.out; rwa [gN_eq (by omega), gN_eq (by omega)] at this
          have HE := Aside0.mk he; clear he
          have r0 := (blk_cell O.out.b2 0).trans rfl; have r1 := (blk_cell O.out.b2 1).trans rfl; have r2 := (blk_cell O.out.b2 2).trans rfl; have r3 := (blk_cell O.out.b2 3).trans rfl; have r4 := (blk_cell O.out.b2 4).trans rfl
          have u0 := (blk_cell O.out.b4 0).trans rfl; have u1 := (blk_cell O.out.b4 1).trans rfl; have u2 := (blk_cell O.out.b4 2).trans rfl; have u3 := (blk_cell O.out.b4 3).trans rfl; have u4 := (blk_cell O.out.b4 4).trans rfl
          have z0 := blk_frozen O.out.b4 0; have z1 := blk_frozen O.out.b4 1; have z2 := blk_frozen O.out.b4 2; have z3 := blk_frozen O.out.b4 3; have z4 := blk_frozen O.out.b4 4
          go_wp2
          generalize hw : World.setCell _ _ _ = w8
          replace O := Aside0.mk (O.out.p4.st5 hw); clear hw
          refine bodyPost_ret (results_cell_row rfl _ _ (w.heap.size + 1) 59 _ (0, 0) _ rfl O.out.b0 Try.underlying59 rfl (by kernel_rfl)) rfl ?_
          rw [HR.out]
          have hs : sameN N M = i := by rw [HI.out.2.2, sameN_ne (by omega) (by omega) HE.out]; rfl
          rw [hs]
          exact ⟨_, rfl, O.out.p4.only1⟩
      · go_wp2
        go_quiet (fail)
        clear q1 r1 r4
        replace O := Aside0.mk (O.out.drewN nq)
        generalize wr.drewN nq = wd at O ⊢
        have r0 := (blk_cell O.out.b2 0).trans rfl; have r1 := (blk_cell O.out.b2 1).trans rfl; have r2 := (blk_cell O.out.b2 2).trans rfl; have r3 := (blk_cell O.out.b2 3).trans rfl; have r4 := (blk_cell O.out.b2 4).trans rfl
        have u0 := (blk_cell O.out.b4 0).trans rfl; have u1 := (blk_cell O.out.b4 1).trans rfl; have u2 := (blk_cell O.out.b4 2).trans rfl; have u3 := (blk_cell O.out.b4 3).trans rfl; have u4 := (blk_cell O.out.b4 4).trans rfl
        have z0 := blk_frozen O.out.b4 0; have z1 := blk_frozen O.out.b4 1; have z2 := blk_frozen O.out.b4 2; have z3 := blk_frozen O.out.b4 3; have z4 := blk_frozen O.out.b4 4
        go_wp2
        generalize hw : World.setCell _ _ _ = w8
        replace O := Aside0.mk (O.out.p4.st5 hw); clear hw
        refine bodyPost_ret (results_cell_row rfl _ _ (w.heap.size + 1) 59 _ (0, 0) _ rfl O.out.b0 Try.underlying59 rfl (by kernel_rfl)) rfl ?_
        rw [HR.out]
        have hs : sameN N M = i := by rw [HI.out.2.2, sameN_out (.inr (by omega))]; rfl
        rw [hs]
        exact ⟨_, rfl, O.out.p4.only1⟩
    · go_wp2
      go_quiet (fail)
      clear q1 r1 r4
      replace O := Aside0.mk (O.out.drewN nq)
      generalize wr.drewN nq = wd at O ⊢
      have r0 := (blk_cell O.out.b2 0).trans rfl; have r1 := (blk_cell O.out.b2 1).trans rfl; have r2 := (blk_cell O.out.b2 2).trans rfl; have r3 := (blk_cell O.out.b2 3).trans rfl; have r4 := (blk_cell O.out.b2 4).trans rfl
      have u0 := (blk_cell O.out.b4 0).trans rfl; have u1 := (blk_cell O.out.b4 1).trans rfl; have u2 := (blk_cell O.out.b4 2).trans rfl; have u3 := (blk_cell O.out.b4 3).trans rfl; have u4 := (blk_cell O.out.b4 4).trans rfl
      have z0 := blk_frozen O.out.b4 0; have z1 := blk_frozen O.out.b4 1; have z2 := blk_frozen O.out.b4 2; have z3 := blk_frozen O.out.b4 3; have z4 := blk_frozen O.out.b4 4
      go_wp2
      generalize hw : World.setCell _ _ _ = w8
      replace O := Aside0.mk (O.out.p4.st5 hw); clear hw
      refine bodyPost_ret (results_cell_row rfl _ _ (w.heap.size + 1) 59 _ (0, 0) _ rfl O.out.b0 Try.underlying59 rfl (by kernel_rfl)) rfl ?_
      rw [HR.out]
      have hs : sameN N M = i := by rw [HI.out.2.2, sameN_out (.inl (by omega))]; rfl
      rw [hs]
      exact ⟨_, rfl, O.out.p4.only1⟩
end Go.Proofs.Ytocdlibnmlcokaa
namespace Go.Proofs.Ytocdlibnmlcokaa
open Go.RowKit Go.Proofs.YtocdlibnmlcokaaW.PrintWords Go.Proofs.YtocdlibnmlcokaaW.PrintLast
attribute [local go_sem high] eqN33
set_option linter.unusedVariables false
set_option linter.unusedSimpArgs false
set_option maxHeartbeats 8000000 in
set_option maxRecDepth 100000 in
theorem specScan_no (A0 A1 : Option Addr) (c0 c1 : Nat) (bs : List (List Int)) (ws : List Wr) (w : World) (hx : rBS.d.C w A0 bs.length bs) (hy : rW.d.C w A1 ws.length ws) (hd : ¬ DkOk bs ws) :
    Calls Try.prog 73 #[.agg #[.slice A0 bs.length c0, .slice A1 ws.length c1]] w (GotLg lg0 w) := by
  have HX := Aside0.mk hx; have HY := Aside0.mk hy; have HD := Aside0.mk hd; clear hx hy hd
  go_enter Try.func73, Try.ntmps73
  go_upto_region 1 with (fail)
  generalize hw : World.alloc (World.alloc w _) _ = w1
  have O := Aside0.mk ((Own.nil w).of2 hw); clear hw
  have p0 := (blk_cell O.out.b1 0).trans rfl; have p1 := (blk_cell O.out.b1 1).trans rfl
  go_wp2_with fail
  refine (specDiskOk_c _ _ _ _ bs ws false ⟨fun h => (by cases h), fun h => absurd h HD.out⟩ _ (Kd.C_below HX.out O.out.bel) (Kd.C_below HY.out O.out.bel)).mono ?_
  rintro e w2 ⟨rfl, hb⟩
  replace O := Aside0.mk (O.out.below hb)
  clear p0 p1 hb
  have u0 := (blk_cell O.out.b0 0).trans rfl; have u1 := (blk_cell O.out.b0 1).trans rfl; have u2 := (blk_cell O.out.b0 2).trans rfl; have u3 := (blk_cell O.out.b0 3).trans rfl; have u4 := (blk_cell O.out.b0 4).trans rfl
  have z0 := blk_frozen O.out.b0 0; have z1 := blk_frozen O.out.b0 1; have z2 := blk_frozen O.out.b0 2; have z3 := blk_frozen O.out.b0 3; have z4 := blk_frozen O.out.b0 4
  go_wp2
  generalize hw : World.setCell _ _ _ = w3
  replace O := Aside0.mk (O.out.st5 hw); clear hw
  refine bodyPost_ret (results_cell_row rfl _ _ (w.heap.size + 1) 59 _ (0, 0) _ rfl O.out.b0 Try.underlying59 rfl (by kernel_rfl)) rfl ?_
  exact ⟨_, rfl, (O.out.drop.drop).nilRow rN 33⟩
set_option maxHeartbeats 8000000 in
set_option maxRecDepth 100000 in
theorem specScan_yes (A0 A1 : Option Addr) (c0 c1 : Nat) (bs : List (List Int)) (ws : List Wr) (w : World) (hx : rBS.d.C w A0 bs.length bs) (hy : rW.d.C w A1 ws.length ws) (hc : bs.length ≤ c0) (hd : DkOk bs ws) (hk : BkOk bs ws) :
    Calls Try.prog 73 #[.agg #[.slice A0 bs.length c0, .slice A1 ws.length c1]] w (GotLg (scanL bs ws) w) := by
  obtain ⟨S, hS⟩ : ∃ S, S = settleL bs ws (kfL true []) := ⟨_, rfl⟩
  obtain ⟨N, hN⟩ : ∃ N, N = (foundL S).1 := ⟨_, rfl⟩
  obtain ⟨L, hL⟩ : ∃ L, L = (foundL S).2 := ⟨_, rfl⟩
  obtain ⟨M, hM⟩ : ∃ M, M = (foundL bs).1 := ⟨_, rfl⟩
  obtain ⟨G, hG⟩ : ∃ G, G = logGen S := ⟨_, rfl⟩
  have hSok : BlOk S := hS ▸ sync_ok hd hk
  have hBok := bl_ok hd hk
  have hNl : N.length ≤ 10000 := by
    have h1 := logBytes_ok hSok
    have h2 := frames_len (logBytes S).length (logBytes S) h1.1
    rw [hN]; unfold foundL framesL; omega
  obtain ⟨R, hR⟩ : ∃ R, R = scanL bs ws := ⟨_, rfl⟩
  have HR : Aside0 (R = ⟨true, N, L, G, sameN N M⟩) := ⟨by rw [hR]; unfold scanL syncL; rw [← hS, ← hN, ← hL, ← hG, ← hM]⟩
  rw [← hR]; clear hR
  have HS := Aside0.mk hS; have HN := Aside0.mk hN; have HL := Aside0.mk hL; have HM := Aside0.mk hM; have HG := Aside0.mk hG; have HSok := Aside0.mk hSok; have HBok := Aside0.mk hBok
  have HX := Aside0.mk hx; have HY := Aside0.mk hy; have HD := Aside0.mk hd; clear hx hy hd hS hN hL hM hG hSok hBok
  go_enter Try.func73, Try.ntmps73
  go_upto_region 1 with (fail)
  generalize hw : World.alloc (World.alloc w _) _ = w1
  have O := Aside0.mk ((Own.nil w).of2 hw); clear hw
  have p0 := (blk_cell O.out.b1 0).trans rfl; have p1 := (blk_cell O.out.b1 1).trans rfl
  go_wp2_with fail
  refine (specDiskOk_c _ _ _ _ bs ws true ⟨fun _ => HD.out, fun _ => rfl⟩ _ (Kd.C_below HX.out O.out.bel) (Kd.C_below HY.out O.out.bel)).mono ?_
  rintro e w2 ⟨rfl, hb⟩
  replace O := Aside0.mk (O.out.below hb)
  clear p0 p1 hb
  have p0 := (blk_cell O.out.b1 0).trans rfl
  go_wp2_with fail
  refine (l3scan_c _ _ bs _ (Kd.C_below HX.out O.out.bel) hc HBok.out).mono ?_
  intro e w6 hg
  change GotLog _ (foundL bs).1 (foundL bs).2 _ _ _ _ at hg
  rw [← HM.out] at hg
  generalize hL2 : ((foundL bs).2 : Int) = L2 at hg
  generalize hG2 : logGen bs = G2 at hg
  obtain ⟨vm, rfl, k⟩ := own_log hg
  replace O := Aside0.mk (O.out.app1 k); clear k p0 hL2 hG2 hg
  obtain ⟨Am, cm, rfl, _⟩ := O.out.f0
  go_upto_region 4 with (fail)
  generalize hw : w6.alloc _ = w7
  replace O := Aside0.mk (O.out.of hw); clear hw
  generalize w6.heap.size = g5 at O ⊢
  have p0 := (blk_cell O.out.b3 0).trans rfl; have p1 := (blk_cell O.out.b3 1).trans rfl
  go_wp2_with fail
  refine (specSeen_yes _ _ _ _ bs ws _ (Kd.C_below HX.out O.out.bel) (Kd.C_below HY.out O.out.bel) HD.out).mono ?_
  intro e w3 hg
  obtain ⟨v, rfl, k⟩ := own_row hg
  rw [← HS.out] at k
  replace O := Aside0.mk (O.out.app1 k); clear k hg p0 p1
  obtain ⟨As, cs, rfl, hcs⟩ := O.out.f0
  have HCS := Aside0.mk hcs; clear hcs
  go_wp2_with fail
  refine (l3scan_c _ _ S _ O.out.c0 HCS.out HSok.out).mono ?_
  intro e w4 hg
  change GotLog _ (foundL S).1 (foundL S).2 _ _ _ _ at hg
  rw [← HN.out, ← HL.out, ← HG.out] at hg
  obtain ⟨vn, rfl, k⟩ := own_log hg
  replace O := Aside0.mk ((O.out.app1 k).p1.drop); clear k hg
  obtain ⟨An, cn, rfl, _⟩ := O.out.f0
  go_upto_region 5 with (fail)
  generalize hw : w4.alloc _ = w5
  replace O := Aside0.mk (O.out.of hw); clear hw
  generalize w4.heap.size = g3 at O ⊢
  replace O := Aside0.mk O.out.q3.q3
  go_loopg [28] (N.length + 1) (fun m v28 wr => ∃ i : Nat, Aside0 (i ≤ N.length ∧ N.length - i < m ∧ sameN N M = i + sameN (N.drop i) (M.drop i))
    ∧ Aside0 (Own w wr [Rs.box g5 59 #[.bool true, .slice Am M.length cm, .int .i64 L2, .int .i64 G2, .int .i64 0], Rs.row rN 33 (.slice Am M.length cm) M, Rs.box g3 59 #[.bool true, .slice An N.length cn, .int .i64 L, .int .i64 G, .int .i64 i], Rs.row rN 33 (.slice An N.length cn) N, Rs.box (w.heap.size + 1) 59 #[.bool false, .slice none 0 0, .int .i64 0, .int .i64 0, .int .i64 0], Rs.box w.heap.size 43 #[.slice A0 bs.length c0, .slice A1 ws.length c1]]))
  case atStart => exact ⟨0, ⟨by simp⟩, O⟩
  case round =>
    clear O
    obtain ⟨i, HI, O⟩ := hrel
    have q1 := (blk_cell O.out.b0 1).trans rfl
    have r1 := (blk_cell O.out.b2 1).trans rfl; have r4 := (blk_cell O.out.b2 4).trans rfl
    by_cases h1 : i < M.length
    · by_cases h2 : i < N.length
      · obtain ⟨ad, e1, a0, a1, a2, a3, a4⟩ := at_N O.out.c3 (i : Int) (by omega) (by omega)
        obtain ⟨ad', e2, b0, b1, b2, b3, b4⟩ := at_N O.out.c1 (i : Int) (by omega) (by omega)
        cases e1; cases e2
        simp only [Int.toNat_natCast] at a0 a1 a2 a3 a4 b0 b1 b2 b3 b4
        go_wp2
        go_quiet (fail)
        clear a0 a1 a2 a3 a4 b0 b1 b2 b3 b4 q1 r1 r4
        replace O := Aside0.mk (O.out.drewN nq)
        generalize wr.drewN nq = wd at O ⊢
        rw [show decide (gN M ↑i = gN N ↑i) = decide (gN N ↑i = gN M ↑i) from decide_eq_decide.2 eq_comm]
        generalize hb : decide (gN N ↑i = gN M ↑i) = b
        have HBQ := Aside0.mk hb; clear hb
        cases b with
        | true =>
          have he : N[i] = M[i] := by have := of_decide_eq_true HBQ.out; rwa [gN_eq (by omega), gN_eq (by omega)] at this
          have HE := Aside0.mk he; clear he
          have r4 := (blk_cell O.out.b2 4).trans rfl; have z4 := blk_frozen O.out.b2 4
          go_wp2
          generalize hw : World.setCell _ _ _ = w8
          replace O := Aside0.mk ((O.out.p2.st hw #[.bool true, .slice (some ad) N.length cn, .int .i64 L, .int .i64 G, .int .i64 (i + 1)] rfl).q2); clear hw
          go_roundg (gk - 1)
          case measure => have := HI.out; omega
          case rel =>
            refine ⟨i + 1, ⟨by omega, by have := HI.out; omega, by have := HI.out.2.2; rw [sameN_yes (by omega) (by omega) HE.out] at this; omega⟩, ?_⟩
            exact O
        | false =>
          have he : ¬ N[i] = M[i] := by have := of_decide_eq_false HBQ.out; rwa [gN_eq (by omega), gN_eq (by omega)] at this
          have HE := Aside0.mk he; clear he
          have r0 := (blk_cell O.out.b2 0).trans rfl; have r1 := (blk_cell O.out.b2 1).trans rfl; have r2 := (blk_cell O.out.b2 2).trans rfl; have r3 := (blk_cell O.out.b2 3).trans rfl; have r4 := (blk_cell O.out.b2 4).trans rfl
          have u0 := (blk_cell O.out.b4 0).trans rfl; have u1 := (blk_cell O.out.b4 1).trans rfl; have u2 := (blk_cell O.out.b4 2).trans rfl; have u3 := (blk_cell O.out.b4 3).trans rfl; have u4 := (blk_cell O.out.b4 4).trans rfl
          have z0 := blk_frozen O.out.b4 0; have z1 := blk_frozen O.out.b4 1; have z2 := blk_frozen O.out.b4 2; have z3 := blk_frozen O.out.b4 3; have z4 := blk_frozen O.out.b4 4
          go_wp2
          generalize hw : World.setCell _ _ _ = w8
          replace O := Aside0.mk (O.out.p4.st5 hw); clear hw
          refine bodyPost_ret (results_cell_row rfl _ _ (w.heap.size + 1) 59 _ (0, 0) _ rfl O.out.b0 Try.underlying59 rfl (by kernel_rfl)) rfl ?_
          rw [HR.out]
          have hs : sameN N M = i := by rw [HI.out.2.2, sameN_ne (by omega) (by omega) HE.out]; rfl
          rw [hs]
          exact ⟨_, rfl, O.out.p4.only1⟩
      · go_wp2
        go_quiet (fail)
        clear q1 r1 r4
        replace O := Aside0.mk (O.out.drewN nq)
        generalize wr.drewN nq = wd at O ⊢
        have r0 := (blk_cell O.out.b2 0).trans rfl; have r1 := (blk_cell O.out.b2 1).trans rfl; have r2 := (blk_cell O.out.b2 2).trans rfl; have r3 := (blk_cell O.out.b2 3).trans rfl; have r4 := (blk_cell O.out.b2 4).trans rfl
        have u0 := (blk_cell O.out.b4 0).trans rfl; have u1 := (blk_cell O.out.b4 1).trans rfl; have u2 := (blk_cell O.out.b4 2).trans rfl; have u3 := (blk_cell O.out.b4 3).trans rfl; have u4 := (blk_cell O.out.b4 4).trans rfl
        have z0 := blk_frozen O.out.b4 0; have z1 := blk_frozen O.out.b4 1; have z2 := blk_frozen O.out.b4 2; have z3 := blk_frozen O.out.b4 3; have z4 := blk_frozen O.out.b4 4
        go_wp2
        generalize hw : World.setCell _ _ _ = w8
        replace O := Aside0.mk (O.out.p4.st5 hw); clear hw
        refine bodyPost_ret (results_cell_row rfl _ _ (w.heap.size + 1) 59 _ (0, 0) _ rfl O.out.b0 Try.underlying59 rfl (by kernel_rfl)) rfl ?_
        rw [HR.out]
        have hs : sameN N M = i := by rw [HI.out.2.2, sameN_out (.inl (by omega))]; rfl
        rw [hs]
        exact ⟨_, rfl, O.out.p4.only1⟩
    · go_wp2
      go_quiet (fail)
      clear q1 r1 r4
      replace O := Aside0.mk (O.out.drewN nq)
      generalize wr.drewN nq = wd at O ⊢
      have r0 := (blk_cell O.out.b2 0).trans rfl; have r1 := (blk_cell O.out.b2 1).trans rfl; have r2 := (blk_cell O.out.b2 2).trans rfl; have r3 := (blk_cell O.out.b2 3).trans rfl; have r4 := (blk_cell O.out.b2 4).trans rfl
      have u0 := (blk_cell O.out.b4 0).trans rfl; have u1 := (blk_cell O.out.b4 1).trans rfl; have u2 := (blk_cell O.out.b4 2).trans rfl; have u3 := (blk_cell O.out.b4 3).trans rfl; have u4 := (blk_cell O.out.b4 4).trans rfl
      have z0 := blk_frozen O.out.b4 0; have z1 := blk_frozen O.out.b4 1; have z2 := blk_frozen O.out.b4 2; have z3 := blk_frozen O.out.b4 3; have z4 := blk_frozen O.out.b4 4
      go_wp2
      generalize hw : World.setCell _ _ _ = w8
      replace O := Aside0.mk (O.out.p4.st5 hw); clear hw
      refine bodyPost_ret (results_cell_row rfl _ _ (w.heap.size + 1) 59 _ (0, 0) _ rfl O.out.b0 Try.underlying59 rfl (by kernel_rfl)) rfl ?_
      rw [HR.out]
      have hs : sameN N M = i := by rw [HI.out.2.2, sameN_out (.inr (by omega))]; rfl
      rw [hs]
      exact ⟨_, rfl, O.out.p4.only1⟩
end Go.Proofs.Ytocdlibnmlcokaa
namespace Go.Proofs.Ytocdlibnmlcokaa
open Go.RowKit Go.Proofs.YtocdlibnmlcokaaW.PrintWords Go.Proofs.YtocdlibnmlcokaaW.PrintLast
set_option linter.unusedVariables false
set_option linter.unusedSimpArgs false
section
variable {P : Program} {ops : Array Oper} {rest : List Oper} {o : Oper} {a : Act} {Q : Exit → Act → World → Prop} {w0 W : World} {L : List Rs} {α : Type}
theorem Own.mk_row (r : Rp α) (hgd : o.guard = none) {N : Tmp} (hd : o.dst = some N) (t e : TypeId) (x y : Operand) (ho : o.op = .makeSlice t x y) (n : Int) (hx : a.eval x = .int .i64 n) (hy : a.eval y = .int .i64 n)
    (ht : P.underlying t = some (.slice e)) (z : Value) (bytes : Nat) (hinfo : (P.info? e).map (fun i => (i.zero, i.size, i.bytes)) = some (some z, r.d.sz, bytes)) (hz : z.cells.size = r.d.sz) (hs0 : 0 < r.d.sz) (hb0 : 0 < bytes)
    (z0 : α) (hzero : ∀ w, r.P w z0 z.cells.toList []) (h0 : 0 ≤ n) (hl : n.toNat * bytes ≤ 281474976710656) (HO : Own w0 W L)
    (h : ∀ g w1, Own w0 w1 (Rs.row r e (.slice (some ⟨g, 0, none⟩) n.toNat n.toNat) (List.replicate n.toNat z0) :: L) → wpList P ops Q rest (a.put o.dst (.slice (some ⟨g, 0, none⟩) n.toNat n.toNat)) w1) : wpList P ops Q (o :: rest) a W :=
  Rp.mk_row r hgd hd t e x y ho n hx hy ht z bytes hinfo hz hs0 hb0 z0 hzero h0 hl fun g w1 hg hr hb => h g w1 (HO.app1 (Own.one hb hr (by simp) (fun b hb' => by simp at hb'; omega)))
end
end Go.Proofs.Ytocdlibnmlcokaa
namespace Go.Proofs.Ytocdlibnmlcokaa
open Go.RowKit Go.Proofs.YtocdlibnmlcokaaW.PrintWords Go.Proofs.YtocdlibnmlcokaaW.PrintLast
set_option linter.unusedVariables false
set_option linter.unusedSimpArgs false
end Go.Proofs.Ytocdlibnmlcokaa
namespace Go.Proofs.Ytocdlibnmlcokaa
open Go.RowKit Go.Proofs.YtocdlibnmlcokaaW.PrintWords Go.Proofs.YtocdlibnmlcokaaW.PrintLast
set_option linter.unusedVariables false
set_option linter.unusedSimpArgs false
structure Opn where
  ok : Bool
  lg : Lg
  bs : List (List Int)
  ws : List Wr
abbrev zero8 : Array Value := #[.bool false, .bool false, .slice none 0 0, .int .i64 0, .int .i64 0, .int .i64 0, .slice none 0 0, .slice none 0 0]
end Go.Proofs.Ytocdlibnmlcokaa
namespace Go.Proofs.Ytocdlibnmlcokaa
open Go.RowKit Go.Proofs.YtocdlibnmlcokaaW.PrintWords Go.Proofs.YtocdlibnmlcokaaW.PrintLast
set_option linter.unusedVariables false
set_option linter.unusedSimpArgs false
end Go.Proofs.Ytocdlibnmlcokaa
namespace Go.Proofs.Ytocdlibnmlcokaa
open Go.RowKit Go.Proofs.YtocdlibnmlcokaaW.PrintWords Go.Proofs.YtocdlibnmlcokaaW.PrintLast
attribute [local go_sem high] eqN33
set_option linter.unusedVariables false
set_option linter.unusedSimpArgs false
end Go.Proofs.Ytocdlibnmlcokaa
namespace Go.Proofs.Ytocdlibnmlcokaa
open Go.RowKit Go.Proofs.YtocdlibnmlcokaaW.PrintWords Go.Proofs.YtocdlibnmlcokaaW.PrintLast
set_option linter.unusedVariables false
set_option linter.unusedSimpArgs false
end Go.Proofs.Ytocdlibnmlcokaa
namespace Go.Proofs.Ytocdlibnmlcokaa
open Go.RowKit Go.Proofs.YtocdlibnmlcokaaW.PrintWords Go.Proofs.YtocdlibnmlcokaaW.PrintLast
set_option linter.unusedVariables false
set_option linter.unusedSimpArgs false
end Go.Proofs.Ytocdlibnmlcokaa
namespace Go.Proofs.Ytocdlibnmlcokaa
open Go.RowKit Go.Proofs.YtocdlibnmlcokaaW.PrintWords Go.Proofs.YtocdlibnmlcokaaW.PrintLast
set_option linter.unusedVariables false
set_option linter.unusedSimpArgs false
end Go.Proofs.Ytocdlibnmlcokaa
namespace Go.Proofs.Ytocdlibnmlcokaa
open Go.RowKit Go.Proofs.YtocdlibnmlcokaaW.PrintWords Go.Proofs.YtocdlibnmlcokaaW.PrintLast
set_option linter.unusedVariables false
set_option linter.unusedSimpArgs false
end Go.Proofs.Ytocdlibnmlcokaa
namespace Go.Proofs.Ytocdlibnmlcokaa
open Go.RowKit Go.Proofs.YtocdlibnmlcokaaW.PrintWords Go.Proofs.YtocdlibnmlcokaaW.PrintLast
set_option linter.unusedVariables false
set_option linter.unusedSimpArgs false
end Go.Proofs.Ytocdlibnmlcokaa
namespace Go.Proofs.Ytocdlibnmlcokaa
open Go.RowKit Go.Proofs.YtocdlibnmlcokaaW.PrintWords Go.Proofs.YtocdlibnmlcokaaW.PrintLast
set_option linter.unusedVariables false
set_option linter.unusedSimpArgs false
end Go.Proofs.Ytocdlibnmlcokaa
namespace Go.Proofs.Ytocdlibnmlcokaa
open Go.RowKit Go.Proofs.YtocdlibnmlcokaaW.PrintWords Go.Proofs.YtocdlibnmlcokaaW.PrintLast
set_option linter.unusedVariables false
set_option linter.unusedSimpArgs false
theorem own_markLog {w0 w : World} {L : List Rs} {v : Value} {xs : List Nt} (h : Own w0 w (Rs.row rN 33 v xs :: L)) (ok : Bool) (len gen safe k : Int) (h0 : 0 ≤ k) (h1 : k + cntL cnN xs ≤ 1000000000) :
    Calls Try.prog 75 #[.agg #[.bool ok, v, .int .i64 len, .int .i64 gen, .int .i64 safe], .int .i64 k] w (fun e w' => e = .returned (.int .i64 (k + cntL cnN xs)) ∧ Own w0 w' (Rs.row rN 33 v (markL mkN cnN k xs) :: L)) := by
  obtain ⟨f, hf, hn, hl, c⟩ := h.take
  exact (markLog_c ok v xs f len gen safe k w hf hn h0 h1).mono fun e w' ⟨he, hr, hk⟩ => ⟨he, c (M := [Rs.row rN 33 v (markL mkN cnN k xs)]) ⟨f, [], by simp, hr, rfl⟩ hn (fun b hb => .inl hb) hk⟩
theorem own_markDisk {w0 w : World} {L : List Rs} {v0 v1 : Value} {bs : List (List Int)} {ws : List Wr} (h : Own w0 w (Rs.row rBS 22 v0 bs :: Rs.row rW 147 v1 ws :: L)) (k : Int) (h0 : 0 ≤ k) (h1 : k + cnD bs ws ≤ 1000000000) :
    Calls Try.prog 29 #[.agg #[v0, v1], .int .i64 k] w (fun e w' => e = .returned (.int .i64 (k + cnD bs ws)) ∧ Own w0 w' (Rs.row rBS 22 v0 (markL mkBS cnB k bs) :: Rs.row rW 147 v1 (markL mkW cnW (k + cntL cnB bs) ws) :: L)) := by
  obtain ⟨f, g, hf, hg, hn, hl, c⟩ := h.take2
  exact (markDisk_c v0 v1 bs ws f g k w hf hg hn h0 h1).mono fun e w' ⟨he, hr0, hr1, hk⟩ => ⟨he, c (M := [Rs.row rBS 22 v0 (markL mkBS cnB k bs), Rs.row rW 147 v1 (markL mkW cnW (k + cntL cnB bs) ws)]) ⟨f, g, rfl, hr0, g, [], by simp, hr1, rfl⟩ hn (fun b hb => .inl hb) hk⟩
end Go.Proofs.Ytocdlibnmlcokaa
namespace Go.Proofs.Ytocdlibnmlcokaa
open Go.RowKit Go.Proofs.YtocdlibnmlcokaaW.PrintWords Go.Proofs.YtocdlibnmlcokaaW.PrintLast
set_option linter.unusedVariables false
namespace Own
theorem p9 {w0 w : World} {L : List Rs} {R R1 R2 R3 R4 R5 R6 R7 R8 R9 : Rs} (h : Own w0 w (R1 :: R2 :: R3 :: R4 :: R5 :: R6 :: R7 :: R8 :: R9 :: R :: L)) : Own w0 w (R :: R1 :: R2 :: R3 :: R4 :: R5 :: R6 :: R7 :: R8 :: R9 :: L) := swap [R1, R2, R3, R4, R5, R6, R7, R8, R9] h
theorem b9 {w0 w : World} {L : List Rs} {R1 R2 R3 R4 R5 R6 R7 R8 R9 : Rs} {g t : Nat} {c : Array Value} (h : Own w0 w (R1 :: R2 :: R3 :: R4 :: R5 :: R6 :: R7 :: R8 :: R9 :: Rs.box g t c :: L)) : w.heap[g]? = some (.cells c t (0, 0)) := h.p9.b0
end Own
end Go.Proofs.Ytocdlibnmlcokaa
namespace Go.Proofs.Ytocdlibnmlcokaa
open Go.RowKit Go.Proofs.YtocdlibnmlcokaaW.PrintWords Go.Proofs.YtocdlibnmlcokaaW.PrintLast Go.Proofs.Ytocdlibnmlcokaa.Open
set_option linter.unusedVariables false
set_option linter.unusedSimpArgs false
theorem u8_of {x : Int} (h : (Lit.int .u8 x).wf = true) : 0 ≤ x ∧ x < 256 := by
  simp [Lit.wf] at h
  have e1 : IntKind.u8.min = 0 := by decide
  have e2 : IntKind.u8.max = 255 := by decide
  rw [e1, e2] at h
  omega
theorem op78b : Opens Try.prog 78 (Kd.pair (Kd.slice 22 rBS.d) (Kd.slice 147 rW.d)) (fun y => BkOk y.1 y.2) :=
  opens_mono (opens_struct Try.underlying78 (by kernel_rfl) (opensF_cons (by kernel_rfl) (by kernel_rfl) (opens_slice 22 Try.underlying40 (by kernel_rfl) op22)
    (opensF_one (by kernel_rfl) (by kernel_rfl) (opens_slice 147 Try.underlying76 (by kernel_rfl) (opens_iso (ok' := fun x : Wr => ∀ b ∈ x.bytes, (Lit.int .u8 b).wf = true) (f := fun x : Wr => (x.block, x.bytes)) (opens_struct Try.underlying176 (by kernel_rfl) (opensF_cons (by kernel_rfl) (by kernel_rfl) (opens_int Try.underlying3) (opensF_one (by kernel_rfl) (by kernel_rfl) op22)))
      (fun x hx => ⟨⟨x.1, x.2⟩, rfl, hx.2.2⟩)))))) (fun y hy => ⟨fun b hb x hx => u8_of ((hy.1.2 b hb).2 x hx), fun x hx b hb => u8_of (hy.2.2 x hx b hb)⟩)
theorem found_notes {S : List (List Int)} (h : BlOk S) : (foundL S).1.length ≤ 7112 := by
  have h1 := logBytes_ok h
  have h2 := frames_len (logBytes S).length (logBytes S) h1.1
  unfold foundL framesL; omega
end Go.Proofs.Ytocdlibnmlcokaa
namespace Go.Proofs.Ytocdlibnmlcokaa
open Go.RowKit Go.Proofs.YtocdlibnmlcokaaW.PrintWords Go.Proofs.YtocdlibnmlcokaaW.PrintLast
set_option linter.unusedVariables false
set_option linter.unusedSimpArgs false
set_option maxRecDepth 100000 in
set_option maxHeartbeats 8000000 in
theorem fnExactScan_l (A0 : Option Addr) (Ac0 : Nat) (A1 : Option Addr) (Ac1 : Nat) (bs : List (List Int)) (ws : List Wr) (w : World) (hA0 : rBS.d.C w A0 bs.length bs) (hA1 : rW.d.C w A1 ws.length ws) (hsz : ¬ costD bs ws ≤ 1048576) :
    Calls Try.prog 15 #[.agg #[.slice A0 bs.length Ac0, .slice A1 ws.length Ac1]] w (Yes w) := by
  have HSZ := Aside0.mk (szR_no hsz); clear hsz
  have HA0 := Aside0.mk hA0; have HA1 := Aside0.mk hA1; clear hA0 hA1
  go_enter Try.func15, Try.ntmps15
  go_upto_region 1 with fail
  generalize hw : w.alloc _ = w1
  have O := Aside0.mk ((Own.nil w).of hw); clear hw
  have p0 := (blk_cell O.out.b0 0).trans rfl; have p1 := (blk_cell O.out.b0 1).trans rfl
  go_wp2_with fail
  refine (szDisk_c _ _ _ _ bs ws 1048576 _ (Kd.C_below HA0.out O.out.bel) (Kd.C_below HA1.out O.out.bel) (by omega) (by omega)).mono ?_
  rintro e w1_ ⟨rfl, hb⟩
  rw [HSZ.out]
  replace O := Aside0.mk (O.out.below hb); clear hb
  clear p0 p1
  go_wp2_with fail
  go_ret
  exact ⟨rfl, O.out.bel⟩
set_option maxRecDepth 100000 in
set_option maxHeartbeats 8000000 in
theorem fnExactScan_w (A0 : Option Addr) (Ac0 : Nat) (A1 : Option Addr) (Ac1 : Nat) (bs : List (List Int)) (ws : List Wr) (rlok : Bool) (rns : List Nt) (rlen rgen rsafe : Int) (w : World) (hA0 : rBS.d.C w A0 bs.length bs) (hA1 : rW.d.C w A1 ws.length ws) (hsz : costD bs ws ≤ 1048576) (hm : Small bs ws) (hcx : cnD bs ws ≤ 100000000) (hcn : cntL cnN rns ≤ 100000000)
    (hs : ∀ (B0 : Option Addr) (Bc0 : Nat) (B1 : Option Addr) (Bc1 : Nat) (w : World), rBS.d.C w B0 bs.length bs → rW.d.C w B1 ws.length ws → bs.length ≤ Bc0 → Calls Try.prog 73 #[.agg #[.slice B0 bs.length Bc0, .slice B1 ws.length Bc1]] w (GotLg ⟨rlok, rns, rlen, rgen, rsafe⟩ w))
    (hi : ∀ (B0 : Option Addr) (Bc0 : Nat) (B1 : Option Addr) (Bc1 : Nat) (w : World), rBS.d.C w B0 bs.length bs → rW.d.C w B1 ws.length ws → bs.length ≤ Bc0 → Calls Try.prog 72 #[.agg #[.slice B0 bs.length Bc0, .slice B1 ws.length Bc1]] w (GotLg ⟨rlok, rns, rlen, rgen, rsafe⟩ w)) :
    Calls Try.prog 15 #[.agg #[.slice A0 bs.length Ac0, .slice A1 ws.length Ac1]] w (Yes w) := by
  have hpos : 0 ≤ 1048576 - costD bs ws := by omega
  have HSZ := Aside0.mk (szR_yes hsz); have HM := Aside0.mk hm; have HS := Aside0.mk hs; have HI := Aside0.mk hi; have HCX := Aside0.mk hcx
  clear hm hs hi hsz hcx
  have HCN := Aside0.mk hcn; clear hcn
  have hnA : 0 ≤ cnD bs ws := cnD_nonneg bs ws
  have hnR : 0 ≤ cntL cnN rns := by rw [cntN]; omega
  have HA0 := Aside0.mk hA0; have HA1 := Aside0.mk hA1; clear hA0 hA1
  go_enter Try.func15, Try.ntmps15
  go_upto_region 1 with fail
  generalize hw : w.alloc _ = w1
  have O := Aside0.mk ((Own.nil w).of hw); clear hw
  have p0 := (blk_cell O.out.b0 0).trans rfl; have p1 := (blk_cell O.out.b0 1).trans rfl
  go_wp2_with fail
  refine (szDisk_c _ _ _ _ bs ws 1048576 _ (Kd.C_below HA0.out O.out.bel) (Kd.C_below HA1.out O.out.bel) (by omega) (by omega)).mono ?_
  rintro e w2_ ⟨rfl, hb⟩
  rw [HSZ.out]
  replace O := Aside0.mk (O.out.below hb); clear hb
  clear p0 p1
  have p0 := (blk_cell O.out.b0 0).trans rfl; have p1 := (blk_cell O.out.b0 1).trans rfl
  go_wp2_with fail
  refine (toDisk_c _ _ _ _ bs ws _ (Kd.C_below HA0.out O.out.bel) (Kd.C_below HA1.out O.out.bel) HM.out.1 HM.out.2.1 HM.out.2.2.1 HM.out.2.2.2).mono ?_
  intro e w3_ hg
  obtain ⟨v0, v1, rfl, k⟩ := own_disk hg
  clear hg
  replace O := Aside0.mk (O.out.app2 k); clear k
  obtain ⟨T0, Tc0, rfl, Th0⟩ := O.out.f0
  have TH0 := Aside0.mk Th0; clear Th0
  obtain ⟨T1, Tc1, rfl, Th1⟩ := O.out.f1
  have TH1 := Aside0.mk Th1; clear Th1
  clear p0 p1
  go_wp2_with fail
  refine (HS.out _ _ _ _ _  O.out.c0 O.out.c1 TH0.out).mono ?_
  rintro e w4_ ⟨vn, rfl, k⟩
  simp only at k
  replace O := Aside0.mk (O.out.app1 k); clear k
  obtain ⟨Wn, Wcn, rfl, Whn⟩ := O.out.f0
  have WHn := Aside0.mk Whn; clear Whn
  replace O := Aside0.mk O.out.p1.drop
  replace O := Aside0.mk O.out.p1.drop
  go_upto_region 6 with fail
  generalize hw : w4_.alloc _ = w5_
  replace O := Aside0.mk (O.out.of hw); clear hw
  generalize w4_.heap.size = gW at O ⊢
  have p0 := (blk_cell O.out.b2 0).trans rfl; have p1 := (blk_cell O.out.b2 1).trans rfl
  go_wp2_with fail
  refine (toDisk_c _ _ _ _ bs ws _ (Kd.C_below HA0.out O.out.bel) (Kd.C_below HA1.out O.out.bel) HM.out.1 HM.out.2.1 HM.out.2.2.1 HM.out.2.2.2).mono ?_
  intro e w6_ hg
  obtain ⟨v0, v1, rfl, k⟩ := own_disk hg
  clear hg
  replace O := Aside0.mk (O.out.app2 k); clear k
  obtain ⟨X0, Xc0, rfl, Xh0⟩ := O.out.f0
  have XH0 := Aside0.mk Xh0; clear Xh0
  obtain ⟨X1, Xc1, rfl, Xh1⟩ := O.out.f1
  have XH1 := Aside0.mk Xh1; clear Xh1
  clear p0 p1
  go_upto_region 7 with fail
  generalize hw : w6_.alloc _ = w7_
  replace O := Aside0.mk (O.out.of hw); clear hw
  generalize w6_.heap.size = gX at O ⊢
  have x0 := (blk_cell O.out.b0 0).trans rfl; have x1 := (blk_cell O.out.b0 1).trans rfl
  go_wp2_with fail
  refine (HI.out _ _ _ _ _  O.out.c1 O.out.c2 XH0.out).mono ?_
  rintro e w8_ ⟨vn, rfl, k⟩
  simp only at k
  replace O := Aside0.mk (O.out.app1 k); clear k
  obtain ⟨Gn, Gcn, rfl, Ghn⟩ := O.out.f0
  have GHn := Aside0.mk Ghn; clear Ghn
  clear x0 x1
  go_upto_region 8 with fail
  generalize hw : w8_.alloc _ = w9_
  replace O := Aside0.mk (O.out.of hw); clear hw
  generalize w8_.heap.size = gG at O ⊢
  have y0 := (blk_cell O.out.b0 0).trans rfl; have y1 := (blk_cell O.out.b0 1).trans rfl; have y2 := (blk_cell O.out.b0 2).trans rfl; have y3 := (blk_cell O.out.b0 3).trans rfl; have y4 := (blk_cell O.out.b0 4).trans rfl
  have z0 := (blk_cell O.out.b5 0).trans rfl; have z1 := (blk_cell O.out.b5 1).trans rfl; have z2 := (blk_cell O.out.b5 2).trans rfl; have z3 := (blk_cell O.out.b5 3).trans rfl; have z4 := (blk_cell O.out.b5 4).trans rfl
  go_wp2_with fail
  refine (eqLog_t rlok _ _ _ _ rns rlen rgen rsafe _ O.out.c1 O.out.c6).mono ?_
  rintro e w10_ ⟨rfl, hb⟩
  replace O := Aside0.mk (O.out.below hb); clear hb
  clear y0 y1 y2 y3 y4 z0 z1 z2 z3 z4
  go_upto_region 10 with fail
  have x0 := (blk_cell O.out.b2 0).trans rfl; have x1 := (blk_cell O.out.b2 1).trans rfl
  have p0 := (blk_cell O.out.b7 0).trans rfl; have p1 := (blk_cell O.out.b7 1).trans rfl
  refine sta (fun w' => (w'.cell? ⟨gX, 0, none⟩ = some (.slice X0 bs.length Xc0) ∧ w'.cell? ⟨gX, 1, none⟩ = some (.slice X1 ws.length Xc1)) ∧ (w'.cell? ⟨w.heap.size, 0, none⟩ = some (.slice A0 bs.length Ac0) ∧ w'.cell? ⟨w.heap.size, 1, none⟩ = some (.slice A1 ws.length Ac1))) [] 5 ⟨⟨x0, x1⟩, ⟨p0, p1⟩⟩ (fun hS => ?_)
  clear x0 x1 p0 p1
  replace O := Aside0.mk O.out.drew
  generalize w10_.drew = wd11_ at O hS ⊢
  refine tk 0 1 hS ?_
  refine tk 1 3 hS ?_
  refine on 2 7 (fun K hK => ?_)
  refine ca (toDisk_c _ _ _ _ bs ws _ (Kd.C_below HA0.out O.out.bel) (Kd.C_below HA1.out O.out.bel) HM.out.1 HM.out.2.1 HM.out.2.2.1 HM.out.2.2.2) Try.func52 ?_
  intro e w12_ hg
  obtain ⟨v0, v1, rfl, k⟩ := own_disk hg
  clear hg
  replace O := Aside0.mk (O.out.app2 k); clear k
  obtain ⟨T0, Tc0, rfl, Th0⟩ := O.out.f0
  have TH0 := Aside0.mk Th0; clear Th0
  obtain ⟨T1, Tc1, rfl, Th1⟩ := O.out.f1
  have TH1 := Aside0.mk Th1; clear Th1
  refine ⟨_, rfl, nx hK ⟨⟨(blk_cell O.out.b4 0).trans rfl, (blk_cell O.out.b4 1).trans rfl⟩, ⟨(blk_cell O.out.b9 0).trans rfl, (blk_cell O.out.b9 1).trans rfl⟩⟩ (fun hS => ?_)⟩
  clear hK K
  refine on 3 15 (fun K hK => ?_)
  refine ca (eqDisk_t _ _ _ _ _ _ _ _ bs ws _ O.out.c5 O.out.c6 O.out.c0 O.out.c1) Try.func28 ?_
  rintro e w13_ ⟨rfl, hb⟩
  replace O := Aside0.mk (O.out.below hb); clear hb
  refine ⟨_, rfl, nx hK ⟨⟨(blk_cell O.out.b4 0).trans rfl, (blk_cell O.out.b4 1).trans rfl⟩, ⟨(blk_cell O.out.b9 0).trans rfl, (blk_cell O.out.b9 1).trans rfl⟩⟩ (fun hS => ?_)⟩
  clear hK K hS
  refine pu 4 31 (dn ?_)
  replace O := Aside0.mk O.out.drop
  replace O := Aside0.mk O.out.drop
  go_upto_region 13 with fail
  replace O := Aside0.mk O.out.p4
  replace O := Aside0.mk O.out.p4
  have x0 := (blk_cell O.out.b4 0).trans rfl; have x1 := (blk_cell O.out.b4 1).trans rfl
  go_wp2_with fail
  refine (own_markDisk O.out 1 (by omega) (by have := HCX.out; omega)).mono ?_
  rintro e w14_ ⟨rfl, hO⟩
  clear O
  have O := Aside0.mk hO; clear hO x0 x1
  have y0 := (blk_cell O.out.b2 0).trans rfl; have y1 := (blk_cell O.out.b2 1).trans rfl; have y2 := (blk_cell O.out.b2 2).trans rfl; have y3 := (blk_cell O.out.b2 3).trans rfl; have y4 := (blk_cell O.out.b2 4).trans rfl
  have z0 := (blk_cell O.out.b5 0).trans rfl; have z1 := (blk_cell O.out.b5 1).trans rfl; have z2 := (blk_cell O.out.b5 2).trans rfl; have z3 := (blk_cell O.out.b5 3).trans rfl; have z4 := (blk_cell O.out.b5 4).trans rfl
  go_wp2_with fail
  refine (eqLog_t rlok _ _ _ _ rns rlen rgen rsafe _ O.out.c3 O.out.c6).mono ?_
  rintro e w15_ ⟨rfl, hb⟩
  replace O := Aside0.mk (O.out.below hb); clear hb
  clear y0 y1 y2 y3 y4 z0 z1 z2 z3 z4
  go_upto_region 17 with fail
  replace O := Aside0.mk O.out.p3
  have x0 := (blk_cell O.out.b3 0).trans rfl; have x1 := (blk_cell O.out.b3 1).trans rfl; have x2 := (blk_cell O.out.b3 2).trans rfl; have x3 := (blk_cell O.out.b3 3).trans rfl; have x4 := (blk_cell O.out.b3 4).trans rfl
  go_wp2_with fail
  refine (own_markLog O.out rlok rlen rgen rsafe 1 (by omega) (by have := HCN.out; omega)).mono ?_
  rintro e w16_ ⟨rfl, hO⟩
  clear O
  have O := Aside0.mk hO; clear hO x0 x1 x2 x3 x4
  have x0 := (blk_cell O.out.b3 0).trans rfl; have x1 := (blk_cell O.out.b3 1).trans rfl; have x2 := (blk_cell O.out.b3 2).trans rfl; have x3 := (blk_cell O.out.b3 3).trans rfl; have x4 := (blk_cell O.out.b3 4).trans rfl
  go_wp2_with fail
  refine (heldLog_c rlok _ _ rns rlen rgen rsafe 1 _ _ rfl (by have := O.out.c0; rw [markL_len] at this; exact this) (by omega) (by have := HCN.out; omega)).mono ?_
  rintro e w17_ ⟨rfl, hb⟩
  replace O := Aside0.mk (O.out.below hb); clear hb
  clear x0 x1 x2 x3 x4
  have hq0 : 0 ≤ 1 + cntL cnN rns := by omega
  have hne : ((1 + cntL cnN rns) != (1 + cntL cnN rns)) = false := (eqT rfl).2
  go_upto_region 24 with fail
  have p0 := (blk_cell O.out.b7 0).trans rfl; have p1 := (blk_cell O.out.b7 1).trans rfl
  go_wp2_with fail
  refine (toDisk_c _ _ _ _ bs ws _ (Kd.C_below HA0.out O.out.bel) (Kd.C_below HA1.out O.out.bel) HM.out.1 HM.out.2.1 HM.out.2.2.1 HM.out.2.2.2).mono ?_
  intro e w18_ hg
  obtain ⟨v0, v1, rfl, k⟩ := own_disk hg
  clear hg
  replace O := Aside0.mk (O.out.app2 k); clear k
  obtain ⟨T0, Tc0, rfl, Th0⟩ := O.out.f0
  have TH0 := Aside0.mk Th0; clear Th0
  obtain ⟨T1, Tc1, rfl, Th1⟩ := O.out.f1
  have TH1 := Aside0.mk Th1; clear Th1
  clear p0 p1
  go_wp2_with fail
  refine (HI.out _ _ _ _ _  O.out.c0 O.out.c1 TH0.out).mono ?_
  rintro e w19_ ⟨vn, rfl, k⟩
  simp only at k
  replace O := Aside0.mk (O.out.app1 k); clear k
  obtain ⟨Hn, Hcn, rfl, Hhn⟩ := O.out.f0
  have HHn := Aside0.mk Hhn; clear Hhn
  replace O := Aside0.mk O.out.p1.drop
  replace O := Aside0.mk O.out.p1.drop
  go_upto_region 25 with fail
  generalize hw : w19_.alloc _ = w20_
  replace O := Aside0.mk (O.out.of hw); clear hw
  generalize w19_.heap.size = gH at O ⊢
  have y0 := (blk_cell O.out.b0 0).trans rfl; have y1 := (blk_cell O.out.b0 1).trans rfl; have y2 := (blk_cell O.out.b0 2).trans rfl; have y3 := (blk_cell O.out.b0 3).trans rfl; have y4 := (blk_cell O.out.b0 4).trans rfl
  have z0 := (blk_cell O.out.b7 0).trans rfl; have z1 := (blk_cell O.out.b7 1).trans rfl; have z2 := (blk_cell O.out.b7 2).trans rfl; have z3 := (blk_cell O.out.b7 3).trans rfl; have z4 := (blk_cell O.out.b7 4).trans rfl
  go_wp2_with fail
  refine (eqLog_t rlok _ _ _ _ rns rlen rgen rsafe _ O.out.c1 O.out.c8).mono ?_
  rintro e w21_ ⟨rfl, hb⟩
  replace O := Aside0.mk (O.out.below hb); clear hb
  clear y0 y1 y2 y3 y4 z0 z1 z2 z3 z4
  have x0 := (blk_cell O.out.b5 0).trans rfl; have x1 := (blk_cell O.out.b5 1).trans rfl; have x2 := (blk_cell O.out.b5 2).trans rfl; have x3 := (blk_cell O.out.b5 3).trans rfl; have x4 := (blk_cell O.out.b5 4).trans rfl
  go_wp2_with fail
  refine (heldLog_c rlok _ _ rns rlen rgen rsafe 1 _ _ rfl (by have := O.out.c2; rw [markL_len] at this; exact this) (by omega) (by have := HCN.out; omega)).mono ?_
  rintro e w22_ ⟨rfl, hb⟩
  replace O := Aside0.mk (O.out.below hb); clear hb
  clear x0 x1 x2 x3 x4
  go_wp2_with fail
  go_ret
  exact ⟨rfl, O.out.bel⟩
end Go.Proofs.Ytocdlibnmlcokaa
namespace Go.Proofs.Ytocdlibnmlcokaa
open Go.RowKit Go.Proofs.YtocdlibnmlcokaaW.PrintWords Go.Proofs.YtocdlibnmlcokaaW.PrintLast
set_option linter.unusedVariables false
set_option linter.unusedSimpArgs false
theorem fnExactScan_c (A0 A1 : Option Addr) (c0 c1 : Nat) (bs : List (List Int)) (ws : List Wr) (w : World) (hx : rBS.d.C w A0 bs.length bs) (hy : rW.d.C w A1 ws.length ws) (hk : BkOk bs ws) :
    Calls Try.prog 15 #[.agg #[.slice A0 bs.length c0, .slice A1 ws.length c1]] w (Yes w) := by
  by_cases hsz : costD bs ws ≤ 1048576
  rotate_left
  · exact fnExactScan_l A0 c0 A1 c1 bs ws w hx hy hsz
  obtain ⟨hm, hc⟩ := small_of hsz
  by_cases hd : DkOk bs ws
  · have hn := found_notes (sync_ok hd hk)
    exact fnExactScan_w A0 c0 A1 c1 bs ws true (foundL (syncL bs ws)).1 (foundL (syncL bs ws)).2 (logGen (syncL bs ws)) (sameN (foundL (syncL bs ws)).1 (foundL bs).1) w hx hy hsz hm hc (by rw [cntN]; omega)
      (fun _ _ _ _ w h0 h1 hc => specScan_yes _ _ _ _ bs ws w h0 h1 hc hd hk) (fun _ _ _ _ w h0 h1 hc => implScan_yes _ _ _ _ bs ws w h0 h1 hc hd hk)
  · exact fnExactScan_w A0 c0 A1 c1 bs ws false [] 0 0 0 w hx hy hsz hm hc (by rw [cntN]; simp)
      (fun _ _ _ _ w h0 h1 _ => specScan_no _ _ _ _ bs ws w h0 h1 hd) (fun _ _ _ _ w h0 h1 _ => implScan_no _ _ _ _ bs ws w h0 h1 hd)
end Go.Proofs.Ytocdlibnmlcokaa
