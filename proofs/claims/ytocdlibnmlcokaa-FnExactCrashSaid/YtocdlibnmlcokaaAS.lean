/- What is written: l2settle, Crash. -/
import Derived.Test.YtocdlibnmlcokaaAP
namespace Go.Proofs.Ytocdlibnmlcokaa
open Go.RowKit Go.Proofs.YtocdlibnmlcokaaW.PrintWords Go.Proofs.YtocdlibnmlcokaaW.PrintLast
set_option linter.unusedVariables false
set_option linter.unusedSimpArgs false
/-- The writes that wait, those of kf, in their order, up to i. -/
def setTo (bs : List (List Int)) (ws : List Wr) (kf : Nat → Bool) : Nat → List (List Int)
  | 0 => bs
  | i + 1 => if kf i then (setTo bs ws kf i).set (ws.getD i ⟨0, []⟩).block.toNat (ws.getD i ⟨0, []⟩).bytes else setTo bs ws kf i
theorem setTo_len (bs : List (List Int)) (ws : List Wr) (kf : Nat → Bool) : ∀ i, (setTo bs ws kf i).length = bs.length
  | 0 => rfl
  | i + 1 => by
    simp only [setTo]
    split
    · rw [List.length_set, setTo_len bs ws kf i]
    · exact setTo_len bs ws kf i
def settleL (bs : List (List Int)) (ws : List Wr) (kf : Nat → Bool) : List (List Int) := setTo bs ws kf ws.length
def kfL (all : Bool) (kl : List Bool) (i : Nat) : Bool := all || kl.getD i false
/-- An element of a row, where the row's parts are known. -/
theorem elem_at {α : Type} {r : Rp α} {e g cap n : Nat} {w : World} {xs : List α} {css : List (List Value)} {fps : List (List Nat)} (ho : w.ownsRow 0 e r.d.sz (.slice (some ⟨g, 0, none⟩) n cap) n css.flatten) (ha : All3 (r.P w) xs css fps) (i : Nat) (hi : i < xs.length) :
    ∃ cs, r.P w xs[i] cs (fps[i]'(by rw [ha.len2]; exact hi)) ∧ ∀ j u, cs[j]? = some u → w.cell? ⟨g, i * r.d.sz + j, none⟩ = some u := by
  refine ⟨css[i]'(by rw [ha.len1]; exact hi), ha.get hi _ _, fun j u hu => ?_⟩
  have := ho.cells (g := g) rfl _ u (flat_at (Rp.all_len ha) (by rw [ha.len1]; exact hi) hu)
  rwa [add_plain] at this
theorem All3_loc {α : Type} {r : Rp α} {w w1 : World} {xs : List α} {css : List (List Value)} {fps : List (List Nat)} (ha : All3 (r.P w) xs css fps) (hm : ∀ b ∈ fps.flatten, w1.heap[b]? = w.heap[b]?) : All3 (r.P w1) xs css fps :=
  ha.imp fun a b c hc hP => r.loc hP fun k hk => hm k (List.mem_flatten.2 ⟨c, hc, hk⟩)
/-- The waiting row, its parts known. -/
def Parts (w : World) (v : Value) (ws : List Wr) (css : List (List Value)) (fps : List (List Nat)) : Prop :=
  w.ownsRow 0 147 2 v ws.length css.flatten ∧ All3 (rW.P w) ws css fps
theorem Parts.row {w : World} {v : Value} {ws : List Wr} {css : List (List Value)} {fps : List (List Nat)} (h : Parts w v ws css fps) : rW.Row 147 w v ws (v.ownBlock.toList ++ fps.flatten) := ⟨css, fps, h.1, h.2, rfl⟩
theorem Parts.kp {w w1 : World} {v : Value} {ws : List Wr} {css : List (List Value)} {fps : List (List Nat)} {S : List Nat} (h : Parts w v ws css fps) (k : Kp w w1 S) (hS : ∀ b ∈ v.ownBlock.toList ++ fps.flatten, b ∉ S) : Parts w1 v ws css fps := by
  have hlt := Rp.Row_lt h.row
  obtain ⟨ho, ha⟩ := h
  refine ⟨own_move ho fun b hb => ?_, All3_loc ha fun b hb => k.block b (hlt b (List.mem_append_right _ hb)) (hS b (List.mem_append_right _ hb))⟩
  have hm : b ∈ v.ownBlock.toList ++ fps.flatten := List.mem_append_left _ (by rw [hb]; simp)
  exact k.block b (hlt b hm) (hS b hm)
set_option maxRecDepth 100000 in
set_option maxHeartbeats 4000000 in
theorem l2settle_c (A0 A1 A2 : Option Addr) (c0 c1 c2_ : Nat) (bs : List (List Int)) (ws : List Wr) (all : Bool) (kl : List Bool) (w : World) (hx : rBS.d.C w A0 bs.length bs) (hy : rW.d.C w A1 ws.length ws) (hk : Kd.bool.C w A2 kl.length kl) (hd : DkOk bs ws) :
    Calls Try.prog 125 #[.agg #[.slice A0 bs.length c0, .slice A1 ws.length c1], .bool all, .slice A2 kl.length c2_] w (GotDisk w (settleL bs ws (kfL all kl)) []) := by
  have hb0 := below_alloc (below_alloc (Below.refl w.heap.size w) (.cells #[.slice A0 bs.length c0, .slice A1 ws.length c1] 43)) (.cells #[.slice none 0 0, .slice none 0 0] 43)
  have BK2 := Aside0.mk (blk_new' (w := w.alloc (.cells #[.slice A0 bs.length c0, .slice A1 ws.length c1] 43)) (.cells #[.slice none 0 0, .slice none 0 0] 43) (n := w.heap.size + 1) (by simp))
  have HX := Aside0.mk (Kd.C_below hx hb0); have HY := Aside0.mk (Kd.C_below hy hb0); have HKL := Aside0.mk hk; have HB0 := Aside0.mk hb0
  have hkl : kl.length ≤ 9223372036854775807 := hk.2.1
  have HD := Aside0.mk hd
  clear hx hy hk hb0 hd
  go_enter Try.func125, Try.ntmps125
  go_wp2_with fail
  refine (l2copy_c _ _ bs _ _ ws _ HX.out HY.out (by have := HD.out.1; omega) (by have := HD.out.2.1; omega) (fun x hx => by have := HD.out.2.2.1 x hx; omega) (fun x hx => by have := HD.out.2.2.2 x hx; omega)).mono ?_
  rintro e w2 ⟨v0, v1, f0i, f1, rfl, r0, r1, hnd, hge, hb2⟩
  obtain ⟨Ap, cp_, rfl, _, _⟩ := Rp.Row_reads r0
  obtain ⟨Aq, cq, rfl, _, _⟩ := Rp.Row_reads r1
  obtain ⟨css, fps, ho, ha, rfl⟩ := r1
  have q2 : Parts w2 (.slice Aq ws.length cq) ws css fps := ⟨ho, ha⟩
  have hwl : (ws.length : Int) ≤ 200 := by have := HD.out.2.1; omega
  clear ho ha
  replace BK2 := Aside0.mk (blk_below BK2.out hb2)
  have HB2 := Aside0.mk (below_then HB0.out (by simp; omega) hb2)
  have HND := Aside0.mk hnd
  have HGE : Aside0 (∀ x ∈ f0i ++ ((Value.slice Aq ws.length cq).ownBlock.toList ++ fps.flatten), w.heap.size ≤ x) := ⟨fun x hx => by have := hge x hx; simp at this; omega⟩
  have HG0 : Aside0 (∀ b ∈ (Value.slice Ap bs.length cp_).ownBlock.toList, b ∉ fps.flatten) := ⟨fun b hb hm => by
    have h1 : b ∈ f0i := Rp.Row_block r0 (by cases hv : (Value.slice Ap bs.length cp_).ownBlock with | none => rw [hv] at hb; simp at hb | some k => rw [hv] at hb; simp at hb; rw [hb])
    exact (List.nodup_append.1 hnd).2.2 b h1 b (List.mem_append_right _ hm) rfl⟩
  clear hnd hge hb2 HX HY HB0
  go_wp2_with fail
  generalize hw3 : w2.alloc _ = w3
  obtain ⟨k7, hb3, hs3⟩ := alloc1 hw3
  clear hw3
  have hne : w.heap.size + 1 < w2.heap.size := blk_lt BK2.out
  have BK7 := Aside0.mk k7
  replace BK2 := Aside0.mk (blk_below BK2.out hb3)
  have R0 := Aside0.mk (Rp.Row_below r0 hb3)
  have Q0 := Aside0.mk (q2.kp (Kp.below hb3) (by simp))
  have hsz := HB2.out.size
  have HB3 := Aside0.mk (below_then HB2.out HB2.out.size hb3)
  clear k7 hb3 hs3 HB2 r0 q2
  generalize w2.heap.size = g7 at BK7 hne hsz ⊢
  go_loopg [15] ws.length (fun m vi wr => ∃ (i : Int) (f0 : List Nat), vi = .int .i64 i ∧ Aside0 (0 ≤ i ∧ i ≤ ws.length ∧ ws.length - i.toNat ≤ m) ∧ Aside0 (rBS.Row 22 wr (.slice Ap bs.length cp_) (setTo bs ws (kfL all kl) i.toNat) f0) ∧ Aside0 (Parts wr (.slice Aq ws.length cq) ws css fps)
    ∧ Aside0 (f0.Nodup ∧ ∀ b ∈ f0, b ∈ f0i ∨ ∃ j, ∃ h : j < fps.length, j < i.toNat ∧ b ∈ fps[j]) ∧ Aside0 (wr.heap[w.heap.size + 1]? = some (.cells #[.slice none 0 0, .slice none 0 0] 43 (0, 0))) ∧ Aside0 (wr.heap[g7]? = some (.cells #[.slice Ap bs.length cp_, .slice Aq ws.length cq] 43 (0, 0))) ∧ Aside0 (Below w.heap.size w wr))
  case atStart => exact ⟨0, f0i, rfl, ⟨by simp⟩, R0, Q0, ⟨(List.nodup_append.1 HND.out).1, fun b hb => .inl hb⟩, BK2, BK7, HB3⟩
  case round =>
    clear R0 Q0 BK2 BK7 HB3
    obtain ⟨i, f0, rfl, HI, HO, HQ, HF, BK2, BK7, HB⟩ := hrel
    have hge0 : Aside0 (∀ b ∈ f0, w.heap.size ≤ b) := ⟨fun b hb => by
      rcases HF.out.2 b hb with h | ⟨j, hj, _, h⟩
      · exact HGE.out b (List.mem_append_left _ h)
      · exact HGE.out b (List.mem_append_right _ (List.mem_append_right _ (List.mem_flatten.2 ⟨_, List.getElem_mem hj, h⟩)))⟩
    by_cases hlt : i < (ws.length : Int)
    · have hi0 : 0 ≤ i := HI.out.1
      have hil : i.toNat < ws.length := by omega
      obtain ⟨gq, capq, hvq, _, _⟩ := Rp.Row_form HQ.out.row (by omega)
      injection hvq with hAq _ hcq
      subst hAq; subst hcq
      obtain ⟨css_, hP, hcell⟩ := elem_at HQ.out.1 HQ.out.2 i.toNat hil
      have hfl : i.toNat < fps.length := by rw [HQ.out.2.len2]; exact hil
      have hgx : ws.getD i.toNat ⟨0, []⟩ = ws[i.toNat] := by simp [List.getD_eq_getElem?_getD, hil]
      have hxo := HD.out.2.2.2 _ (List.getElem_mem (l := ws) hil)
      generalize hxx : ws[i.toNat] = x at hP hgx hxo
      have HGX := Aside0.mk hgx
      obtain ⟨v, rfl, hri⟩ := W_open hP
      obtain ⟨Ai, ci, rfl, _, _⟩ := Rp.Row_reads hri
      have c0 : wr.cell? ⟨gq, i.toNat * 2, none⟩ = _ := hcell 0 _ rfl
      have c1 : wr.cell? ⟨gq, i.toNat * 2 + 1, none⟩ = _ := hcell 1 _ rfl
      have Hri : Aside0 (rB.Row 5 wr (.slice Ai x.bytes.length ci) x.bytes (fps[i.toNat]'hfl)) := ⟨hri⟩
      have hx0 := hxo.1; have hx1 : x.block < (bs.length : Int) := by have := HD.out.1; omega
      have k8 := (blk_cell (blk_alloc BK7.out (.cells #[.int .i64 x.block, .slice Ai x.bytes.length ci] 147)) 0).trans rfl
      have HXO := Aside0.mk hxo
      clear hP hcell hgx hri hxx hxo
      have hout : ¬ kfL all kl i.toNat = true → setTo bs ws (kfL all kl) (i + 1).toNat = setTo bs ws (kfL all kl) i.toNat := by
        intro hn
        rw [show (i + 1).toNat = i.toNat + 1 by omega]; simp only [setTo]; rw [if_neg hn]
      have HOUT := Aside0.mk hout; clear hout
      cases all with
      | true =>
        have hkf : kfL true kl i.toNat = true := rfl
        obtain ⟨g0, cap0, hv0, hg0m, _⟩ := Rp.Row_form HO.out (by rw [setTo_len]; have := HD.out.1; omega)
        rw [setTo_len] at hv0
        injection hv0 with hA0 _ hc0
        subst hA0; subst hc0
        obtain ⟨csb, fb, hPb, _, _, _, hcellb, hfrb, _, hst⟩ := Rp.Row_elem (Rp.Row_alloc HO.out (.cells #[.int .i64 x.block, .slice Ai x.bytes.length ci] 147)) HF.out.1 x.block.toNat (by rw [setTo_len]; have := HD.out.1; omega)
        obtain ⟨vb, rfl, _⟩ := hPb
        have e0 : x.block.toNat * rBS.d.sz + 0 = x.block.toNat := Nat.mul_one _
        have c5 := hcellb 0 _ rfl
        rw [e0] at c5
        have z5 := hfrb x.block.toNat
        have hnd1 := List.nodup_append.1 HND.out
        have hnd2 := List.nodup_append.1 hnd1.2.1
        have hnotf : ∀ b ∈ fps[i.toNat]'hfl, b ∉ f0 := fun b hb hm => by
          rcases HF.out.2 b hm with h | ⟨j, hj, hji, h⟩
          · exact hnd1.2.2 b h b (List.mem_append_right _ (List.mem_flatten.2 ⟨_, List.getElem_mem hfl, hb⟩)) rfl
          · exact nodup_flat_ne hj hfl hnd2.2.1 (by omega) h hb
        have hga : g0 ∉ fps[i.toNat]'hfl := fun h => hnotf g0 h hg0m
        have hq0 : ∀ b ∈ (Value.slice (some ⟨gq, 0, none⟩) ws.length cq).ownBlock.toList ++ fps.flatten, b ≠ g0 := by
          intro b hb he
          subst he
          rcases List.mem_append.1 hb with h | h
          · rcases HF.out.2 b hg0m with h2 | ⟨j, hj, _, h2⟩
            · exact hnd1.2.2 b h2 b (List.mem_append_left _ h) rfl
            · exact hnd2.2.2 b h b (List.mem_flatten.2 ⟨_, List.getElem_mem hj, h2⟩) rfl
          · exact HG0.out b (by simp [Value.ownBlock]) h
        obtain ⟨fp', hr', hn', hf', _⟩ := hst 0 (.slice Ai x.bytes.length ci) x.bytes (fps[i.toNat]'hfl) (by decide) ⟨_, rfl, Rp.Row_far (Rp.Row_alloc Hri.out _) (p := ⟨g0, x.block.toNat * rBS.d.sz + 0, none⟩) hga _⟩ (nodup_flat_mem hnd2.2.1 (List.getElem_mem _)) (fun b hb => .inr (hnotf b hb)) (.inr hnotf)
        rw [e0] at hr'
        have hset : (setTo bs ws (kfL true kl) i.toNat).set x.block.toNat x.bytes = setTo bs ws (kfL true kl) (i + 1).toNat := by
          rw [show (i + 1).toNat = i.toNat + 1 by omega]; simp only [setTo]; rw [if_pos hkf, HGX.out]
        rw [hset] at hr'
        have kp : Kp wr ((wr.alloc (.cells #[.int .i64 x.block, .slice Ai x.bytes.length ci] 147)).setCell ⟨g0, x.block.toNat, none⟩ (.slice Ai x.bytes.length ci)) [g0] := ((Kp.below (below_alloc (Below.refl _ wr) _)).mono (by simp)).trans (Kp.set _ _ _ _) (fun b hb _ => hb)
        have ng7 : g7 ≠ g0 := fun h => Rp.Row_not HO.out BK7.out (by decide) (h ▸ hg0m)
        have ng2 : w.heap.size + 1 ≠ g0 := fun h => Rp.Row_not HO.out BK2.out (by decide) (h ▸ hg0m)
        have HO' := Aside0.mk hr'
        have HQ' := Aside0.mk (HQ.out.kp kp (fun b hb hm => by simp at hm; exact hq0 b hb hm))
        have BK2' := Aside0.mk (kp.blk BK2.out (by simp; exact ng2))
        have BK7' := Aside0.mk (kp.blk BK7.out (by simp; exact ng7))
        have HB' := Aside0.mk (kp.toBelow HB.out HB.out.size (fun b hb => by simp at hb; subst hb; exact hge0.out b hg0m))
        have HF' : Aside0 (fp'.Nodup ∧ ∀ b ∈ fp', b ∈ f0i ∨ ∃ j, ∃ h : j < fps.length, j < (i + 1).toNat ∧ b ∈ fps[j]) := ⟨hn', fun b hb => by
          rcases hf' b hb with h | h
          · rcases HF.out.2 b h with h2 | ⟨j, hj, hji, h2⟩
            · exact .inl h2
            · exact .inr ⟨j, hj, by omega, h2⟩
          · exact .inr ⟨i.toNat, hfl, by omega, h⟩⟩
        clear hst hr' e0 hnd1 hnd2 hnotf hga hq0 hn' hf' hset kp ng7 ng2 hcellb hfrb hkf HO HQ BK2 BK7 HB HF
        go_wp2
        go_roundg (gk - 1)
        case measure => have := HI.out; omega
        case rel => exact ⟨i + 1, fp', rfl, ⟨by have := HI.out; omega, by have := HI.out; omega, by have := HI.out; omega⟩, HO', HQ', HF', BK2', BK7', HB'⟩
      | false =>
        by_cases hin : i < (kl.length : Int)
        · obtain ⟨adk, hAk, ck⟩ := Kd.at_bool (Kd.C_alloc (Kd.C_below HKL.out HB.out) (.cells #[.int .i64 x.block, .slice Ai x.bytes.length ci] 147)) i hi0 hin
          cases hAk
          by_cases hkt : rdOf false kl i = true
          · have hkf : kfL false kl i.toNat = true := hkt
            rw [hkt] at ck
            clear hkt
            obtain ⟨g0, cap0, hv0, hg0m, _⟩ := Rp.Row_form HO.out (by rw [setTo_len]; have := HD.out.1; omega)
            rw [setTo_len] at hv0
            injection hv0 with hA0 _ hc0
            subst hA0; subst hc0
            obtain ⟨csb, fb, hPb, _, _, _, hcellb, hfrb, _, hst⟩ := Rp.Row_elem (Rp.Row_alloc HO.out (.cells #[.int .i64 x.block, .slice Ai x.bytes.length ci] 147)) HF.out.1 x.block.toNat (by rw [setTo_len]; have := HD.out.1; omega)
            obtain ⟨vb, rfl, _⟩ := hPb
            have e0 : x.block.toNat * rBS.d.sz + 0 = x.block.toNat := Nat.mul_one _
            have c5 := hcellb 0 _ rfl
            rw [e0] at c5
            have z5 := hfrb x.block.toNat
            have hnd1 := List.nodup_append.1 HND.out
            have hnd2 := List.nodup_append.1 hnd1.2.1
            have hnotf : ∀ b ∈ fps[i.toNat]'hfl, b ∉ f0 := fun b hb hm => by
              rcases HF.out.2 b hm with h | ⟨j, hj, hji, h⟩
              · exact hnd1.2.2 b h b (List.mem_append_right _ (List.mem_flatten.2 ⟨_, List.getElem_mem hfl, hb⟩)) rfl
              · exact nodup_flat_ne hj hfl hnd2.2.1 (by omega) h hb
            have hga : g0 ∉ fps[i.toNat]'hfl := fun h => hnotf g0 h hg0m
            have hq0 : ∀ b ∈ (Value.slice (some ⟨gq, 0, none⟩) ws.length cq).ownBlock.toList ++ fps.flatten, b ≠ g0 := by
              intro b hb he
              subst he
              rcases List.mem_append.1 hb with h | h
              · rcases HF.out.2 b hg0m with h2 | ⟨j, hj, _, h2⟩
                · exact hnd1.2.2 b h2 b (List.mem_append_left _ h) rfl
                · exact hnd2.2.2 b h b (List.mem_flatten.2 ⟨_, List.getElem_mem hj, h2⟩) rfl
              · exact HG0.out b (by simp [Value.ownBlock]) h
            obtain ⟨fp', hr', hn', hf', _⟩ := hst 0 (.slice Ai x.bytes.length ci) x.bytes (fps[i.toNat]'hfl) (by decide) ⟨_, rfl, Rp.Row_far (Rp.Row_alloc Hri.out _) (p := ⟨g0, x.block.toNat * rBS.d.sz + 0, none⟩) hga _⟩ (nodup_flat_mem hnd2.2.1 (List.getElem_mem _)) (fun b hb => .inr (hnotf b hb)) (.inr hnotf)
            rw [e0] at hr'
            have hset : (setTo bs ws (kfL false kl) i.toNat).set x.block.toNat x.bytes = setTo bs ws (kfL false kl) (i + 1).toNat := by
              rw [show (i + 1).toNat = i.toNat + 1 by omega]; simp only [setTo]; rw [if_pos hkf, HGX.out]
            rw [hset] at hr'
            have kp : Kp wr ((wr.alloc (.cells #[.int .i64 x.block, .slice Ai x.bytes.length ci] 147)).setCell ⟨g0, x.block.toNat, none⟩ (.slice Ai x.bytes.length ci)) [g0] := ((Kp.below (below_alloc (Below.refl _ wr) _)).mono (by simp)).trans (Kp.set _ _ _ _) (fun b hb _ => hb)
            have ng7 : g7 ≠ g0 := fun h => Rp.Row_not HO.out BK7.out (by decide) (h ▸ hg0m)
            have ng2 : w.heap.size + 1 ≠ g0 := fun h => Rp.Row_not HO.out BK2.out (by decide) (h ▸ hg0m)
            have HO' := Aside0.mk hr'
            have HQ' := Aside0.mk (HQ.out.kp kp (fun b hb hm => by simp at hm; exact hq0 b hb hm))
            have BK2' := Aside0.mk (kp.blk BK2.out (by simp; exact ng2))
            have BK7' := Aside0.mk (kp.blk BK7.out (by simp; exact ng7))
            have HB' := Aside0.mk (kp.toBelow HB.out HB.out.size (fun b hb => by simp at hb; subst hb; exact hge0.out b hg0m))
            have HF' : Aside0 (fp'.Nodup ∧ ∀ b ∈ fp', b ∈ f0i ∨ ∃ j, ∃ h : j < fps.length, j < (i + 1).toNat ∧ b ∈ fps[j]) := ⟨hn', fun b hb => by
              rcases hf' b hb with h | h
              · rcases HF.out.2 b h with h2 | ⟨j, hj, hji, h2⟩
                · exact .inl h2
                · exact .inr ⟨j, hj, by omega, h2⟩
              · exact .inr ⟨i.toNat, hfl, by omega, h⟩⟩
            clear hst hr' e0 hnd1 hnd2 hnotf hga hq0 hn' hf' hset kp ng7 ng2 hcellb hfrb hkf HO HQ BK2 BK7 HB HF
            go_wp2
            go_roundg (gk - 1)
            case measure => have := HI.out; omega
            case rel => exact ⟨i + 1, fp', rfl, ⟨by have := HI.out; omega, by have := HI.out; omega, by have := HI.out; omega⟩, HO', HQ', HF', BK2', BK7', HB'⟩
          · have hkf : ¬ kfL false kl i.toNat = true := hkt
            rw [Bool.not_eq_true] at hkt
            rw [hkt] at ck
            clear hkt
            have kp : Kp wr (wr.alloc (.cells #[.int .i64 x.block, .slice Ai x.bytes.length ci] 147)) [] := Kp.below (below_alloc (Below.refl _ wr) _)
            have HO' := Aside0.mk (kp.row HO.out (by simp))
            have HQ' := Aside0.mk (HQ.out.kp kp (by simp))
            have BK2' := Aside0.mk (kp.blk BK2.out (by simp)); have BK7' := Aside0.mk (kp.blk BK7.out (by simp))
            have HB' := Aside0.mk (kp.toBelow HB.out HB.out.size (by simp))
            have HF' : Aside0 (f0.Nodup ∧ ∀ b ∈ f0, b ∈ f0i ∨ ∃ j, ∃ h : j < fps.length, j < (i + 1).toNat ∧ b ∈ fps[j]) := ⟨HF.out.1, fun b hb => by
              rcases HF.out.2 b hb with h2 | ⟨j, hj, hji, h2⟩
              · exact .inl h2
              · exact .inr ⟨j, hj, by omega, h2⟩⟩
            have HKF := Aside0.mk hkf
            clear kp hkf HO HQ BK2 BK7 HB HF
            go_wp2
            go_roundg (gk - 1)
            case measure => have := HI.out; omega
            case rel => exact ⟨i + 1, f0, rfl, ⟨by have := HI.out; omega, by have := HI.out; omega, by have := HI.out; omega⟩, by rw [HOUT.out HKF.out]; exact HO', HQ', HF', BK2', BK7', HB'⟩
        · have hkf : ¬ kfL false kl i.toNat = true := by
            simp [kfL, List.getElem?_eq_none (show kl.length ≤ i.toNat by omega)]
          have kp : Kp wr (wr.alloc (.cells #[.int .i64 x.block, .slice Ai x.bytes.length ci] 147)) [] := Kp.below (below_alloc (Below.refl _ wr) _)
          have HO' := Aside0.mk (kp.row HO.out (by simp))
          have HQ' := Aside0.mk (HQ.out.kp kp (by simp))
          have BK2' := Aside0.mk (kp.blk BK2.out (by simp)); have BK7' := Aside0.mk (kp.blk BK7.out (by simp))
          have HB' := Aside0.mk (kp.toBelow HB.out HB.out.size (by simp))
          have HF' : Aside0 (f0.Nodup ∧ ∀ b ∈ f0, b ∈ f0i ∨ ∃ j, ∃ h : j < fps.length, j < (i + 1).toNat ∧ b ∈ fps[j]) := ⟨HF.out.1, fun b hb => by
            rcases HF.out.2 b hb with h2 | ⟨j, hj, hji, h2⟩
            · exact .inl h2
            · exact .inr ⟨j, hj, by omega, h2⟩⟩
          have HKF := Aside0.mk hkf
          clear kp hkf HO HQ BK2 BK7 HB HF
          go_wp2
          go_roundg (gk - 1)
          case measure => have := HI.out; omega
          case rel => exact ⟨i + 1, f0, rfl, ⟨by have := HI.out; omega, by have := HI.out; omega, by have := HI.out; omega⟩, by rw [HOUT.out HKF.out]; exact HO', HQ', HF', BK2', BK7', HB'⟩
    · have hi := HI.out
      have e2 : i = ws.length := by omega
      subst e2
      have HO2 := HO.out
      simp only [Int.toNat_natCast] at HO2
      have HO3 : Aside0 (rBS.Row 22 wr (.slice Ap bs.length cp_) (settleL bs ws (kfL all kl)) f0) := ⟨HO2⟩
      have hlen : (settleL bs ws (kfL all kl)).length = bs.length := setTo_len _ _ _ _
      clear HO2 hi HO HQ
      obtain ⟨J7, q7⟩ := set1 BK7.out 1 (.slice none 0 0)
      have J2 := q7.blk BK2.out (by simp; omega)
      obtain ⟨I2, q2⟩ := set2 J2 (.slice Ap bs.length cp_) (.slice none 0 0)
      have n7 := Rp.Row_not HO3.out BK7.out (by decide)
      have n2 := Rp.Row_not HO3.out BK2.out (by decide)
      have HR := Aside0.mk (q2.row (q7.row HO3.out (fun x hx hm => n7 (by simp at hm; exact hm ▸ hx))) (fun x hx hm => n2 (by simp at hm; exact hm ▸ hx)))
      have HB5 := Aside0.mk (q2.toBelow (q7.toBelow HB.out HB.out.size (fun x hx => by simp at hx; omega)) (Nat.le_trans HB.out.size q7.size) (fun x hx => by simp at hx; omega))
      have II := Aside0.mk I2
      have k7 := (blk_cell BK7.out 1).trans rfl; have z7 := blk_frozen BK7.out 1
      have k8 := (blk_cell J7 0).trans rfl; have k9 := (blk_cell J7 1).trans rfl
      have c2 := (blk_cell J2 0).trans rfl; have c3 := (blk_cell J2 1).trans rfl; have z2 := blk_frozen J2 0; have z3 := blk_frozen J2 1
      have HLEN := Aside0.mk hlen
      clear I2 q2 J2 J7 q7 n7 n2 hlen
      go_wp2
      refine bodyPost_ret (results_cell_row rfl _ _ (w.heap.size + 1) 43 #[.slice Ap bs.length cp_, .slice none 0 0] (0, 0) _ rfl II.out Try.underlying43 rfl (by kernel_rfl)) rfl ?_
      exact ⟨_, _, f0, [], rfl, HR.out, Rp.Row_nil _ _ _, by simpa using HF.out.1, by simpa using hge0.out, HB5.out⟩
end Go.Proofs.Ytocdlibnmlcokaa
