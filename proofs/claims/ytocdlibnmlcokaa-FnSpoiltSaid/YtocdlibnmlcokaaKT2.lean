/- Contracts and words that the laws rest on, part 2: for every world; conditions as each theorem says. -/
import Derived.Test.YtocdlibnmlcokaaWEqStruct
import Derived.Test.YtocdlibnmlcokaaWWords
import Derived.Test.YtocdlibnmlcokaaWMore
import Derived.ChangeArms
import Derived.ChangeSlices
import Derived.Deep.Slices
import Derived.Maps.AppendAt
import Derived.Test.YtocdlibnmlcokaaKT1
namespace Go.Proofs.Ytocdlibnmlcokaa
open Go.RowKit Go.Proofs.YtocdlibnmlcokaaW.PrintWords Go.Proofs.YtocdlibnmlcokaaW.PrintLast
set_option linter.unusedVariables false
set_option linter.unusedSimpArgs false
set_option maxRecDepth 100000 in
set_option maxHeartbeats 4000000 in
theorem implCrash_yes (A0 A1 A2 : Option Addr) (c0 c1 c2_ : Nat) (bs : List (List Int)) (ws : List Wr) (kl : List Bool) (w : World) (hx : rBS.d.C w A0 bs.length bs) (hy : rW.d.C w A1 ws.length ws) (hk : Kd.bool.C w A2 kl.length kl) (hd : DkOk bs ws) :
    Calls Try.prog 66 #[.agg #[.slice A0 bs.length c0, .slice A1 ws.length c1], .slice A2 kl.length c2_] w (GotDisk w (settleL bs ws (kfL false kl)) []) := by
  have hb0 := below_alloc (below_alloc (Below.refl w.heap.size w) (.cells #[.slice A0 bs.length c0, .slice A1 ws.length c1] 43)) (.cells #[.slice none 0 0, .slice none 0 0] 43)
  have BK1 := Aside0.mk (blk_alloc (blk_new w (.cells #[.slice A0 bs.length c0, .slice A1 ws.length c1] 43)) (.cells #[.slice none 0 0, .slice none 0 0] 43))
  have BK2 := Aside0.mk (blk_new' (w := w.alloc (.cells #[.slice A0 bs.length c0, .slice A1 ws.length c1] 43)) (.cells #[.slice none 0 0, .slice none 0 0] 43) (n := w.heap.size + 1) (by simp))
  have HX := Aside0.mk (Kd.C_below hx hb0); have HY := Aside0.mk (Kd.C_below hy hb0); have HKL := Aside0.mk hk; have HB0 := Aside0.mk hb0
  have hkl : kl.length ≤ 9223372036854775807 := hk.2.1
  have HD := Aside0.mk hd
  clear hx hy hk hb0 hd
  go_enter Try.func66, Try.ntmps66
  go_wp2_with fail
  refine (implDiskOk_c _ _ _ _ bs ws true ⟨fun _ => HD.out, fun _ => rfl⟩ _ HX.out HY.out).mono ?_
  rintro e w1 ⟨rfl, hb1⟩
  have J1 := blk_below BK1.out hb1; have J2 := blk_below BK2.out hb1
  have d0 := (blk_cell J1 0).trans rfl; have d1 := (blk_cell J1 1).trans rfl
  replace HX := Aside0.mk (Kd.C_below HX.out hb1); replace HY := Aside0.mk (Kd.C_below HY.out hb1)
  have HB1 := Aside0.mk (below_then HB0.out (by simp; omega) hb1); replace BK2 := Aside0.mk J2
  clear J1 J2 hb1 HB0 BK1
  go_wp2_with fail
  refine (copyDisk_c _ _ bs _ _ ws _ HX.out HY.out (by have := HD.out.1; omega) (by have := HD.out.2.1; omega) (fun x hx => by have := HD.out.2.2.1 x hx; omega) (fun x hx => by have := HD.out.2.2.2 x hx; omega)).mono ?_
  rintro e w2 ⟨v0, v1, f0i, f1, rfl, r0, r1, hnd, hge, hb2⟩
  obtain ⟨Ap, cp_, rfl, _, _⟩ := Rp.Row_reads r0
  obtain ⟨Aq, cq, rfl, _, _⟩ := Rp.Row_reads r1
  have hwl : (ws.length : Int) ≤ 200 := by have := HD.out.2.1; omega
  replace BK2 := Aside0.mk (blk_below BK2.out hb2)
  have HB2 := Aside0.mk (below_then HB1.out HB1.out.size hb2)
  have HND : Aside0 ((f0i ++ f1).Nodup ∧ ∀ x ∈ f0i ++ f1, w.heap.size ≤ x) := ⟨hnd, fun x hx => by have := hge x hx; have := HB1.out.size; omega⟩
  clear hnd hge hb2 HX HY HB1 d0 d1
  go_wp2_with fail
  generalize hw3 : w2.alloc _ = w3
  obtain ⟨k7, hb3, hs3⟩ := alloc1 hw3
  clear hw3
  have hne : w.heap.size + 1 < w2.heap.size := blk_lt BK2.out
  have BK7 := Aside0.mk k7
  replace BK2 := Aside0.mk (blk_below BK2.out hb3)
  have R0 := Aside0.mk (Rp.Row_below r0 hb3)
  have R1 := Aside0.mk (Rp.Row_below r1 hb3)
  have hsz := HB2.out.size
  have HB3 := Aside0.mk (below_then HB2.out HB2.out.size hb3)
  clear k7 hb3 hs3 HB2 r0 r1
  generalize w2.heap.size = g7 at BK7 hne hsz ⊢
  go_loopg [17] ws.length (fun m vi wr => ∃ (i : Int) (f0 : List Nat), vi = .int .i64 i ∧ Aside0 (0 ≤ i ∧ i ≤ ws.length ∧ ws.length - i.toNat ≤ m) ∧ Aside0 (rBS.Row 22 wr (.slice Ap bs.length cp_) (setTo bs ws (kfL false kl) i.toNat) f0) ∧ Aside0 (rW.Row 147 wr (.slice Aq ws.length cq) ws f1)
    ∧ Aside0 ((f0 ++ f1).Nodup ∧ ∀ b ∈ f0 ++ f1, w.heap.size ≤ b) ∧ Aside0 (wr.heap[w.heap.size + 1]? = some (.cells #[.slice none 0 0, .slice none 0 0] 43 (0, 0))) ∧ Aside0 (wr.heap[g7]? = some (.cells #[.slice Ap bs.length cp_, .slice Aq ws.length cq] 43 (0, 0))) ∧ Aside0 (Below w.heap.size w wr))
  case atStart => exact ⟨0, f0i, rfl, ⟨by simp⟩, R0, R1, HND, BK2, BK7, HB3⟩
  case round =>
    clear R0 R1 BK2 BK7 HB3 HND
    obtain ⟨i, f0, rfl, HI, HO, HQ, HF, BK2, BK7, HB⟩ := hrel
    by_cases hlt : i < (ws.length : Int)
    · have hi0 : 0 ≤ i := HI.out.1
      have hil : i.toNat < ws.length := by omega
      have hndd := List.nodup_append.1 HF.out.1
      obtain ⟨gq, capq, hvq, _, _⟩ := Rp.Row_form HQ.out (by omega)
      injection hvq with hAq _ hcq
      subst hAq; subst hcq
      obtain ⟨css_, fx, hP, _, _, _, hcell, _, _, _⟩ := Rp.Row_elem HQ.out hndd.2.1 i.toNat hil
      have hgx : ws.getD i.toNat ⟨0, []⟩ = ws[i.toNat] := by simp [List.getD_eq_getElem?_getD, hil]
      have hxo := HD.out.2.2.2 _ (List.getElem_mem (l := ws) hil)
      generalize hxx : ws[i.toNat] = x at hP hgx hxo
      have HGX := Aside0.mk hgx
      obtain ⟨v, rfl, hri⟩ := W_open hP
      obtain ⟨Ai, ci, rfl, _, _⟩ := Rp.Row_reads hri
      have c0 : wr.cell? ⟨gq, i.toNat * 2, none⟩ = _ := hcell 0 _ rfl
      have c1 : wr.cell? ⟨gq, i.toNat * 2 + 1, none⟩ = _ := hcell 1 _ rfl
      have Hri := Aside0.mk (Rp.Row_C hri).2.2
      have hx0 := hxo.1; have hx1 : x.block < (bs.length : Int) := by have := HD.out.1; omega
      have HXO := Aside0.mk hxo
      clear hP hcell hgx hri hxx hxo hndd
      have hout : ¬ kfL false kl i.toNat = true → setTo bs ws (kfL false kl) (i + 1).toNat = setTo bs ws (kfL false kl) i.toNat := by
        intro hn
        rw [show (i + 1).toNat = i.toNat + 1 by omega]; simp only [setTo]; rw [if_neg hn]
      have HOUT := Aside0.mk hout; clear hout
      by_cases hin : i < (kl.length : Int)
      · obtain ⟨adk, hAk, ck⟩ := Kd.at_bool (Kd.C_alloc (Kd.C_below HKL.out HB.out) (.cells #[.int .i64 x.block, .slice Ai x.bytes.length ci] 147)) i hi0 hin
        cases hAk
        by_cases hkt : rdOf false kl i = true
        · have hkf : kfL false kl i.toNat = true := hkt
          rw [hkt] at ck
          clear hkt
          have HKF := Aside0.mk hkf; clear hkf
          go_wp2
          clear ck c0 c1
          have BKe := Aside0.mk (blk_drew (blk_new wr (.cells #[.int .i64 x.block, .slice Ai x.bytes.length ci] 147)))
          have hba0 := below_drew (below_alloc (Below.refl _ wr) (.cells #[.int .i64 x.block, .slice Ai x.bytes.length ci] 147))
          have hle := Aside0.mk (Rp.Row_lt HO.out)
          have hlq := Aside0.mk (Rp.Row_lt HQ.out)
          replace HO := Aside0.mk (Rp.Row_below HO.out hba0); replace HQ := Aside0.mk (Rp.Row_below HQ.out hba0)
          replace BK2 := Aside0.mk (blk_below BK2.out hba0); replace BK7 := Aside0.mk (blk_below BK7.out hba0)
          replace Hri := Aside0.mk (Kd.C_below Hri.out hba0)
          replace HB := Aside0.mk (below_then HB.out HB.out.size hba0)
          clear hba0
          refine sta (fun w' => w'.cell? ⟨g7, 0, none⟩ = some (.slice Ap bs.length cp_) ∧ w'.cell? ⟨wr.heap.size, 0, none⟩ = some (.int .i64 x.block) ∧ w'.cell? ⟨wr.heap.size, 1, none⟩ = some (.slice Ai x.bytes.length ci)) [8] 9 ⟨(blk_cell BK7.out 0).trans rfl, (blk_cell BKe.out 0).trans rfl, (blk_cell BKe.out 1).trans rfl⟩ (fun hS => ?_)
          generalize (wr.alloc _).drew = wd at HO HQ BK2 BK7 Hri HB BKe hS ⊢
          generalize wr.heap.size = gb at hle hlq BKe hS ⊢
          obtain ⟨g0, cap0, hv0, hg0m, _⟩ := Rp.Row_form HO.out (by rw [setTo_len]; have := HD.out.1; omega)
          rw [setTo_len] at hv0
          injection hv0 with hA0 _ hc0
          subst hA0; subst hc0
          refine pu 0 1 ?_
          refine pu 2 5 ?_
          refine pu 4 21 ?_
          refine tk 1 23 hS ?_
          refine tk 3 31 hS ?_
          refine tk 5 63 hS ?_
          refine on 6 127 (fun K hK => ?_)
          refine ca (cp_c _ _ x.bytes _ Hri.out (by have := HXO.out.2.2; omega)) Try.func114 ?_
          rintro e wa ⟨va_, rfl, ⟨fa, hra, hna, hfa⟩, hba⟩
          obtain ⟨Aa, ca_, rfl, _, _⟩ := Rp.Row_reads hra
          refine ⟨_, rfl, nx hK ⟨pw_cell_below hba hS.1, pw_cell_below hba hS.2.1, pw_cell_below hba hS.2.2⟩ (fun hS => ?_)⟩
          clear hK K
          have hndd := List.nodup_append.1 HF.out.1
          have HOa := Rp.Row_below HO.out hba
          have hltd := Rp.Row_lt HO.out; have hltq := Rp.Row_lt HQ.out
          obtain ⟨csb, fb, hPb, _, _, _, hcellb, hfrb, _, hst⟩ := Rp.Row_elem HOa hndd.1 x.block.toNat (by rw [setTo_len]; have := HD.out.1; omega)
          obtain ⟨vb, rfl, _⟩ := hPb
          have e0 : x.block.toNat * rBS.d.sz + 0 = x.block.toNat := Nat.mul_one _
          have c5 := hcellb 0 _ rfl
          rw [e0] at c5
          have z5 := hfrb x.block.toNat
          have hnotf : ∀ b ∈ fa, b ∉ f0 := fun b hb hm => by have := hfa b hb; have := hltd b hm; omega
          have hga : g0 ∉ fa := fun h => hnotf g0 h hg0m
          obtain ⟨fp', hr', hn', hf', _⟩ := hst 0 (.slice Aa x.bytes.length ca_) x.bytes fa (by decide) ⟨_, rfl, Rp.Row_far hra (p := ⟨g0, x.block.toNat * rBS.d.sz + 0, none⟩) hga _⟩ hna (fun b hb => .inr (hnotf b hb)) (.inr hnotf)
          rw [e0] at hr'
          have hset : (setTo bs ws (kfL false kl) i.toNat).set x.block.toNat x.bytes = setTo bs ws (kfL false kl) (i + 1).toNat := by
            rw [show (i + 1).toNat = i.toNat + 1 by omega]; simp only [setTo]; rw [if_pos HKF.out, HGX.out]
          rw [hset] at hr'
          refine pu 7 255 ?_
          refine la 8 511 (fun K hK => ?_)
          refine st ?_
          refine nl hK (dn ?_)
          clear hK K hS c5 z5
          have kp : Kp wd (wa.setCell ⟨g0, x.block.toNat, none⟩ (.slice Aa x.bytes.length ca_)) [g0] := ((Kp.below hba).mono (by simp)).trans (Kp.set _ _ _ _) (fun b hb _ => hb)
          generalize wa.setCell _ _ = wf at hr' kp ⊢
          have ng7 : g7 ≠ g0 := fun h => Rp.Row_not HO.out BK7.out (by decide) (h ▸ hg0m)
          have ng2 : w.heap.size + 1 ≠ g0 := fun h => Rp.Row_not HO.out BK2.out (by decide) (h ▸ hg0m)
          have HO' := Aside0.mk hr'
          have HQ' := Aside0.mk (kp.row HQ.out (fun b hb hm => by simp at hm; subst hm; exact hndd.2.2 b hg0m b hb rfl))
          have BK2' := Aside0.mk (kp.blk BK2.out (by simp; exact ng2))
          have BK7' := Aside0.mk (kp.blk BK7.out (by simp; exact ng7))
          have HB' := Aside0.mk (kp.toBelow HB.out HB.out.size (fun b hb => by simp at hb; subst hb; exact HF.out.2 b (List.mem_append_left _ hg0m)))
          have HF' : Aside0 ((fp' ++ f1).Nodup ∧ ∀ b ∈ fp' ++ f1, w.heap.size ≤ b) := ⟨List.nodup_append.2 ⟨hn', hndd.2.1, fun a ha b hb he => by
            subst he
            rcases hf' a ha with h | h
            · exact hndd.2.2 a h a hb rfl
            · have := hfa a h; have := hltq a hb; omega⟩, fun b hb => by
            rcases List.mem_append.1 hb with h | h
            · rcases hf' b h with h | h
              · exact HF.out.2 b (List.mem_append_left _ h)
              · have := hfa b h; have := HB.out.size; omega
            · exact HF.out.2 b (List.mem_append_right _ h)⟩
          clear hst hr' e0 hnotf hga hn' hf' hset kp ng7 ng2 hcellb hfrb HO HQ BK2 BK7 HB HF hltd hltq hndd HOa hba hra hna hfa BKe hle hlq
          go_wp2
          go_roundg (gk - 1)
          case measure => have := HI.out; omega
          case rel => exact ⟨i + 1, fp', rfl, ⟨by have := HI.out; omega, by have := HI.out; omega, by have := HI.out; omega⟩, HO', HQ', HF', BK2', BK7', HB'⟩
        · have hkf : ¬ kfL false kl i.toNat = true := hkt
          rw [Bool.not_eq_true] at hkt
          rw [hkt] at ck
          clear hkt
          have kp : Kp wr (wr.alloc (.cells #[.int .i64 x.block, .slice Ai x.bytes.length ci] 147)) [] := Kp.below (below_alloc (Below.refl _ wr) _)
          have HO' := Aside0.mk (kp.row HO.out (by simp))
          have HQ' := Aside0.mk (kp.row HQ.out (by simp))
          have BK2' := Aside0.mk (kp.blk BK2.out (by simp)); have BK7' := Aside0.mk (kp.blk BK7.out (by simp))
          have HB' := Aside0.mk (kp.toBelow HB.out HB.out.size (by simp))
          have HKF := Aside0.mk hkf
          clear kp hkf HO HQ BK2 BK7 HB
          go_wp2
          go_roundg (gk - 1)
          case measure => have := HI.out; omega
          case rel => exact ⟨i + 1, f0, rfl, ⟨by have := HI.out; omega, by have := HI.out; omega, by have := HI.out; omega⟩, by rw [HOUT.out HKF.out]; exact HO', HQ', HF, BK2', BK7', HB'⟩
      · have hkf : ¬ kfL false kl i.toNat = true := by
          simp [kfL, List.getElem?_eq_none (show kl.length ≤ i.toNat by omega)]
        have kp : Kp wr (wr.alloc (.cells #[.int .i64 x.block, .slice Ai x.bytes.length ci] 147)) [] := Kp.below (below_alloc (Below.refl _ wr) _)
        have HO' := Aside0.mk (kp.row HO.out (by simp))
        have HQ' := Aside0.mk (kp.row HQ.out (by simp))
        have BK2' := Aside0.mk (kp.blk BK2.out (by simp)); have BK7' := Aside0.mk (kp.blk BK7.out (by simp))
        have HB' := Aside0.mk (kp.toBelow HB.out HB.out.size (by simp))
        have HKF := Aside0.mk hkf
        clear kp hkf HO HQ BK2 BK7 HB
        go_wp2
        go_roundg (gk - 1)
        case measure => have := HI.out; omega
        case rel => exact ⟨i + 1, f0, rfl, ⟨by have := HI.out; omega, by have := HI.out; omega, by have := HI.out; omega⟩, by rw [HOUT.out HKF.out]; exact HO', HQ', HF, BK2', BK7', HB'⟩
    · have hi := HI.out
      have e2 : i = ws.length := by omega
      subst e2
      have HO2 := HO.out
      simp only [Int.toNat_natCast] at HO2
      have HO3 : Aside0 (rBS.Row 22 wr (.slice Ap bs.length cp_) (settleL bs ws (kfL false kl)) f0) := ⟨HO2⟩
      clear HO2 hi HO HQ
      obtain ⟨J7, q7⟩ := set1 BK7.out 1 (.slice none 0 0)
      have J2 := q7.blk BK2.out (by simp; omega)
      obtain ⟨I2, q2⟩ := set2 J2 (.slice Ap bs.length cp_) (.slice none 0 0)
      have n7 := Rp.Row_not HO3.out BK7.out (by decide)
      have n2 := Rp.Row_not HO3.out BK2.out (by decide)
      have HR := Aside0.mk (q2.row (q7.row HO3.out (fun x hx hm => n7 (by simp at hm; exact hm ▸ hx))) (fun x hx hm => n2 (by simp at hm; exact hm ▸ hx)))
      have HB5 := Aside0.mk (q2.toBelow (q7.toBelow HB.out HB.out.size (fun x hx => by simp at hx; omega)) (Nat.le_trans HB.out.size q7.size) (fun x hx => by simp at hx; omega))
      have II := Aside0.mk I2
      have k7 := (blk_cell BK7.out 1).trans rfl; have z7 := blk_frozen BK7.out 1
      have k8 := (blk_cell J7 0).trans rfl; have k9 := (blk_cell J7 1).trans rfl
      have c2 := (blk_cell J2 0).trans rfl; have c3 := (blk_cell J2 1).trans rfl; have z2 := blk_frozen J2 0; have z3 := blk_frozen J2 1
      clear I2 q2 J2 J7 q7 n7 n2
      go_wp2
      refine bodyPost_ret (results_cell_row rfl _ _ (w.heap.size + 1) 43 #[.slice Ap bs.length cp_, .slice none 0 0] (0, 0) _ rfl II.out Try.underlying43 rfl (by kernel_rfl)) rfl ?_
      exact ⟨_, _, f0, [], rfl, HR.out, Rp.Row_nil _ _ _, by simpa using (List.nodup_append.1 HF.out.1).1, by simpa using fun b hb => HF.out.2 b (List.mem_append_left _ hb), HB5.out⟩
end Go.Proofs.Ytocdlibnmlcokaa
namespace Go.Proofs.Ytocdlibnmlcokaa
open Go.RowKit Go.Proofs.YtocdlibnmlcokaaW.PrintWords Go.Proofs.YtocdlibnmlcokaaW.PrintLast
set_option linter.unusedVariables false
set_option linter.unusedSimpArgs false
theorem info4 : (Try.prog.info? 4).map (fun i => (i.zero, i.size, i.bytes)) = some (some (.bool false), 1, 1) := by kernel_rfl
theorem setTo_congr (bs : List (List Int)) (ws : List Wr) (kf kg : Nat → Bool) : ∀ i, (∀ j, j < i → kf j = kg j) → setTo bs ws kf i = setTo bs ws kg i
  | 0, _ => rfl
  | i + 1, h => by simp only [setTo]; rw [h i (by omega), setTo_congr bs ws kf kg i (fun j hj => h j (by omega))]
theorem settle_all (bs : List (List Int)) (ws : List Wr) : settleL bs ws (kfL false (List.replicate ws.length true)) = settleL bs ws (kfL true []) :=
  setTo_congr bs ws _ _ _ fun j hj => by simp [kfL, hj]
set_option maxRecDepth 100000 in
set_option maxHeartbeats 2000000 in
theorem implSync_w (A0 A1 : Option Addr) (c0 c1 : Nat) (bs bs' : List (List Int)) (ws : List Wr) (w : World) (hx : rBS.d.C w A0 bs.length bs) (hy : rW.d.C w A1 ws.length ws) (hm : ws.length ≤ 10000000)
    (hcr : ∀ (g : Nat) (w' : World), rBS.d.C w' A0 bs.length bs → rW.d.C w' A1 ws.length ws → Kd.bool.C w' (some ⟨g, 0, none⟩) ws.length (List.replicate ws.length true) → Calls Try.prog 66 #[.agg #[.slice A0 bs.length c0, .slice A1 ws.length c1], .slice (some ⟨g, 0, none⟩) ws.length ws.length] w' (GotDisk w' bs' [])) :
    Calls Try.prog 63 #[.agg #[.slice A0 bs.length c0, .slice A1 ws.length c1]] w (GotDisk w bs' []) := by
  have hb0 := below_alloc (below_alloc (Below.refl w.heap.size w) (.cells #[.slice A0 bs.length c0, .slice A1 ws.length c1] 43)) (.cells #[.slice none 0 0, .slice none 0 0] 43)
  have BK1 := Aside0.mk (blk_alloc (blk_new w (.cells #[.slice A0 bs.length c0, .slice A1 ws.length c1] 43)) (.cells #[.slice none 0 0, .slice none 0 0] 43))
  have BK2 := Aside0.mk (blk_new' (w := w.alloc (.cells #[.slice A0 bs.length c0, .slice A1 ws.length c1] 43)) (.cells #[.slice none 0 0, .slice none 0 0] 43) (n := w.heap.size + 1) (by simp))
  have HX := Aside0.mk hx; have HY := Aside0.mk hy; have HM := Aside0.mk hm; have HCR := Aside0.mk hcr; have HB0 := Aside0.mk hb0
  clear hx hy hcr hb0
  go_enter Try.func63, Try.ntmps63
  go_wp2_with ((with_reducible refine gate_dst (N := 8) rfl ?_); refine Rp.mk_row Rp.bool rfl (N := 8) rfl 34 4 _ _ rfl (ws.length : Int) rfl rfl Try.underlying34 (.bool false) 1 info4 rfl (by decide) (by omega) false (fun _ => ⟨rfl, rfl⟩) (by omega) (by have := HM.out; omega) ?_; intro g w1 hg hr hb; have HG := Aside0.mk hg; have HR := Aside0.mk hr; have HB1 := Aside0.mk hb; clear hg hr hb)
  have hr0 := HR.out
  simp only [Int.toNat_natCast] at hr0
  have el : (List.replicate ws.length true).length = ws.length := List.length_replicate
  have hr1 : Rp.bool.Row 4 w1 (.slice (some ⟨g, 0, none⟩) ws.length ws.length) (fillTo false (List.replicate ws.length true) 0) [g] := by rw [fillTo_zero, el]; exact hr0
  have HR1 := Aside0.mk hr1
  replace BK1 := Aside0.mk (blk_below BK1.out HB1.out); replace BK2 := Aside0.mk (blk_below BK2.out HB1.out)
  have hgs : w.heap.size + 2 ≤ g := by have := HG.out; simp at this; omega
  have HB := Aside0.mk (below_then HB0.out (by simp; omega) HB1.out)
  clear hr0 hr1 HR HB1 HB0 HG
  go_loopg [11] ws.length (fun m vi wr => ∃ i : Int, vi = .int .i64 i ∧ Aside0 (0 ≤ i ∧ i ≤ ws.length ∧ ws.length - i.toNat ≤ m) ∧ Aside0 (Rp.bool.Row 4 wr (.slice (some ⟨g, 0, none⟩) ws.length ws.length) (fillTo false (List.replicate ws.length true) i.toNat) [g]) ∧ Aside0 (wr.heap[w.heap.size]? = some (.cells #[.slice A0 bs.length c0, .slice A1 ws.length c1] 43 (0, 0))) ∧ Aside0 (wr.heap[w.heap.size + 1]? = some (.cells #[.slice none 0 0, .slice none 0 0] 43 (0, 0))) ∧ Aside0 (Below w.heap.size w wr))
  case atStart => exact ⟨0, rfl, ⟨by simp⟩, HR1, BK1, BK2, HB⟩
  case round =>
    clear HR1 BK1 BK2 HB
    obtain ⟨i, rfl, HI, HO, BK1, BK2, HB⟩ := hrel
    by_cases hlt : i < (ws.length : Int)
    · have hi0 : 0 ≤ i := HI.out.1
      obtain ⟨cs, f, hP, _, _, hg, hcell, hfr, _, hst⟩ := Rp.Row_elem HO.out (by simp) i.toNat (by rw [fillTo_len _ _ _ (by rw [el]; omega), el]; omega)
      obtain ⟨hcs, hf⟩ := hP
      subst hcs; subst hf
      have e0 : i.toNat * Rp.bool.d.sz + 0 = i.toNat := Nat.mul_one _
      have c2 := hcell 0 _ rfl
      rw [e0] at c2
      have z1 := hfr i.toNat
      obtain ⟨fp', hr', _, _, he⟩ := hst 0 (.bool true) true [] (by decide) ⟨rfl, rfl⟩ (by simp) (by simp) (.inl rfl)
      have he := he rfl
      subst he
      have hs := fillTo_succ false (List.replicate ws.length true) (i := i.toNat) (by rw [el]; omega)
      rw [List.getElem_replicate] at hs
      rw [e0, hs] at hr'
      have HO' := Aside0.mk hr'
      have HB' := Aside0.mk (HB.out.setCell (p := ⟨g, i.toNat, none⟩) (by show w.heap.size ≤ g; omega) (.bool true))
      have BK1' := Aside0.mk (blk_far (p := ⟨g, i.toNat, none⟩) BK1.out (by show w.heap.size ≠ g; omega) (.bool true))
      have BK2' := Aside0.mk (blk_far (p := ⟨g, i.toNat, none⟩) BK2.out (by show w.heap.size + 1 ≠ g; omega) (.bool true))
      clear hst hr' e0 hg hcell hfr hs HO HB BK1 BK2
      go_wp2
      go_roundg (gk - 1)
      case measure => have := HI.out; omega
      case rel => exact ⟨i + 1, rfl, ⟨by have := HI.out; omega, by have := HI.out; omega, by have := HI.out; omega⟩, by rw [show (i + 1).toNat = i.toNat + 1 by omega]; exact HO', BK1', BK2', HB'⟩
    · have e1 := fillTo_end false (List.replicate ws.length true) (i := i.toNat) (by rw [el]; have := HI.out; omega)
      replace HO := HO.out; rw [e1] at HO
      have HC := (Rp.Row_C HO).2.2
      rw [el] at HC
      have HC := Aside0.mk HC
      have d0 := (blk_cell BK1.out 0).trans rfl; have d1 := (blk_cell BK1.out 1).trans rfl
      clear e1 el HO
      go_wp2_with fail
      refine (HCR.out g _ (Kd.C_below HX.out HB.out) (Kd.C_below HY.out HB.out) HC.out).mono ?_
      rintro e w2 ⟨v0, v1, f0, f1, rfl, r0, r1, hnd, hge, hb2⟩
      obtain ⟨W0, hW⟩ : ∃ W0, W0 = ([] : List Wr) := ⟨_, rfl⟩
      rw [← hW] at r1
      have HW := Aside0.mk hW
      clear hW
      obtain ⟨Ap, cp_, rfl, _, _⟩ := Rp.Row_reads r0
      obtain ⟨Aq, cq, rfl, _, _⟩ := Rp.Row_reads r1
      have J2 := blk_below BK2.out hb2
      have c2 := (blk_cell J2 0).trans rfl; have c3 := (blk_cell J2 1).trans rfl; have z2 := blk_frozen J2 0; have z3 := blk_frozen J2 1
      obtain ⟨I2, q2⟩ := set2 J2 (.slice Ap bs'.length cp_) (.slice Aq W0.length cq)
      have n0 := Rp.Row_not r0 J2 (by decide); have n1 := Rp.Row_not r1 J2 (by decide)
      have R0 := Aside0.mk (q2.row r0 (fun x hx hm => n0 (by simp at hm; exact hm ▸ hx))); have R1 := Aside0.mk (q2.row r1 (fun x hx hm => n1 (by simp at hm; exact hm ▸ hx)))
      have HB2 := Aside0.mk (q2.toBelow (below_then HB.out HB.out.size hb2) (Nat.le_trans HB.out.size hb2.size) (fun x hx => by simp at hx; omega))
      have HN := Aside0.mk hnd; have HG : Aside0 (∀ x ∈ f0 ++ f1, w.heap.size ≤ x) := ⟨fun x hx => by have := hge x hx; have := HB.out.size; omega⟩
      have II := Aside0.mk I2
      clear I2 q2 n0 n1 r0 r1 hnd hge hb2 J2 d0 d1
      go_wp2
      refine bodyPost_ret (results_cell_row rfl _ _ (w.heap.size + 1) 43 #[.slice Ap bs'.length cp_, .slice Aq W0.length cq] (0, 0) _ rfl II.out Try.underlying43 rfl (by kernel_rfl)) rfl ?_
      have hW := HW.out
      subst hW
      exact ⟨_, _, f0, f1, rfl, R0.out, R1.out, HN.out, HG.out, HB2.out⟩
theorem implSync_yes (A0 A1 : Option Addr) (c0 c1 : Nat) (bs : List (List Int)) (ws : List Wr) (w : World) (hx : rBS.d.C w A0 bs.length bs) (hy : rW.d.C w A1 ws.length ws) (hd : DkOk bs ws) :
    Calls Try.prog 63 #[.agg #[.slice A0 bs.length c0, .slice A1 ws.length c1]] w (GotDisk w (settleL bs ws (kfL true [])) []) := by
  refine implSync_w A0 A1 c0 c1 bs _ ws w hx hy (by have := hd.2.1; omega) fun g w' h0 h1 h2 => ?_
  have el : (List.replicate ws.length true).length = ws.length := List.length_replicate
  have := implCrash_yes A0 A1 (some ⟨g, 0, none⟩) c0 c1 ws.length bs ws (List.replicate ws.length true) w' h0 h1 (by rw [el]; exact h2) hd
  rw [settle_all, el] at this
  exact this
end Go.Proofs.Ytocdlibnmlcokaa
namespace Go.Proofs.Ytocdlibnmlcokaa
open Go.RowKit Go.Proofs.YtocdlibnmlcokaaW.PrintWords Go.Proofs.YtocdlibnmlcokaaW.PrintLast
set_option linter.unusedVariables false
set_option linter.unusedSimpArgs false
set_option maxRecDepth 100000 in
set_option maxHeartbeats 1000000 in
theorem implSeen_w (A0 A1 : Option Addr) (c0 c1 : Nat) (bs bs' : List (List Int)) (ws : List Wr) (w : World) (hx : rBS.d.C w A0 bs.length bs) (hy : rW.d.C w A1 ws.length ws)
    (hcr : ∀ (w' : World), rBS.d.C w' A0 bs.length bs → rW.d.C w' A1 ws.length ws → Calls Try.prog 63 #[.agg #[.slice A0 bs.length c0, .slice A1 ws.length c1]] w' (GotDisk w' bs' [])) :
    Calls Try.prog 58 #[.agg #[.slice A0 bs.length c0, .slice A1 ws.length c1]] w (GotRow rBS 22 w bs') := by
  have hb0 := Aside0.mk (below_alloc (Below.refl w.heap.size w) (.cells #[.slice A0 bs.length c0, .slice A1 ws.length c1] 43))
  have hfv : ∀ (x y : Value) (W : World), (Instr.field 43 (.agg #[x, y]) 0).run Try.prog W = .ok x W := by
    intro x y W
    have hu_ := Try.underlying43
    simp [Instr.field, go_sem, hu_, asAgg]
  have HX := Aside0.mk hx; have HY := Aside0.mk hy; have HCR := Aside0.mk hcr; clear hx hy hcr
  go_enter Try.func58, Try.ntmps58
  go_wp2_with fail
  refine (HCR.out _ (Kd.C_below HX.out hb0.out) (Kd.C_below HY.out hb0.out)).mono ?_
  rintro e w2 ⟨v0, v1, f0, f1, rfl, r0, r1, hnd, hge, hb2⟩
  obtain ⟨Ap, cp_, rfl, _, _⟩ := Rp.Row_reads r0
  have R0 := Aside0.mk r0; have HN := Aside0.mk hnd; have HG := Aside0.mk hge; have HB := Aside0.mk (below_then hb0.out (by simp) hb2)
  clear r0 r1 hnd hge hb2
  go_wp2
  go_ret
  exact ⟨_, rfl, ⟨f0, R0.out, (List.nodup_append.1 HN.out).1, fun b hb => by have := HG.out b (List.mem_append_left _ hb); simp at this; omega⟩, HB.out⟩
theorem implSeen_yes (A0 A1 : Option Addr) (c0 c1 : Nat) (bs : List (List Int)) (ws : List Wr) (w : World) (hx : rBS.d.C w A0 bs.length bs) (hy : rW.d.C w A1 ws.length ws) (hd : DkOk bs ws) :
    Calls Try.prog 58 #[.agg #[.slice A0 bs.length c0, .slice A1 ws.length c1]] w (GotRow rBS 22 w (settleL bs ws (kfL true []))) :=
  implSeen_w A0 A1 c0 c1 bs _ ws w hx hy fun w' h0 h1 => implSync_yes A0 A1 c0 c1 bs ws w' h0 h1 hd
end Go.Proofs.Ytocdlibnmlcokaa
namespace Go.Proofs.Ytocdlibnmlcokaa
open Go.RowKit Go.Proofs.YtocdlibnmlcokaaW.PrintWords Go.Proofs.YtocdlibnmlcokaaW.PrintLast
set_option linter.unusedVariables false
set_option linter.unusedSimpArgs false
theorem Nt.ext' {x y : Nt} (h0 : x.tick = y.tick) (h1 : x.kind = y.kind) (h2 : x.who = y.who) (h3 : x.n = y.n) (h4 : x.text = y.text) : x = y := by
  cases x; cases y; simp_all
instance : DecidableEq Nt := fun x y =>
  decidable_of_iff (x.tick = y.tick ∧ x.kind = y.kind ∧ x.who = y.who ∧ x.n = y.n ∧ x.text = y.text) ⟨fun h => Nt.ext' h.1 h.2.1 h.2.2.1 h.2.2.2.1 h.2.2.2.2, fun h => by subst h; simp⟩
theorem bytes_same (a b : ByteArray) : (a.toList == b.toList) = decide (a = b) := by
  by_cases h : a = b
  · subst h; simp
  · rw [decide_eq_false h]
    exact beq_eq_false_iff_ne.mpr (fun e => h (Math.toList_inj e))
theorem nt_same (x y : Nt) : (x.tick == y.tick && (x.kind == y.kind && (x.who == y.who && (x.n == y.n && (x.text.toList == y.text.toList))))) = decide (x = y) := by
  rw [bytes_same]
  by_cases h : x = y
  · subst h; simp
  · rw [decide_eq_false h]
    cases he : (x.tick == y.tick && (x.kind == y.kind && (x.who == y.who && (x.n == y.n && decide (x.text = y.text))))) with
    | false => rfl
    | true =>
      simp only [Bool.and_eq_true, beq_iff_eq, decide_eq_true_eq] at he
      exact absurd (Nt.ext' he.1 he.2.1 he.2.2.1 he.2.2.2.1 he.2.2.2.2) h
theorem eqN33 (d : Nat) (w : World) (x y : Nt) :
    (Op.equalIn (d + 2) 33 (.agg #[.int .i64 x.tick, .int .i64 x.kind, .int .i64 x.who, .int .i64 x.n, .string x.text]) (.agg #[.int .i64 y.tick, .int .i64 y.kind, .int .i64 y.who, .int .i64 y.n, .string y.text])).run Try.prog w = .ok (decide (x = y)) w := by
  rw [← nt_same]
  refine eqA_of Try.underlying33 (by kernel_rfl) ?_
  refine eqf_cons (by rfl) (by go_simp; rfl) (by go_simp; rfl) (by go_simp) ?_
  refine eqf_cons (by rfl) (by go_simp; rfl) (by go_simp; rfl) (by go_simp) ?_
  refine eqf_cons (by rfl) (by go_simp; rfl) (by go_simp; rfl) (by go_simp) ?_
  refine eqf_cons (by rfl) (by go_simp; rfl) (by go_simp; rfl) (by go_simp) ?_
  exact eqf_last (by rfl) (by go_simp; rfl) (by go_simp; rfl) (by go_simp)
def sameN : List Nt → List Nt → Nat
  | x :: xs, y :: ys => if x = y then sameN xs ys + 1 else 0
  | [], _ => 0
  | _ :: _, [] => 0
theorem sameN_yes {xs ys : List Nt} {i : Nat} (h1 : i < xs.length) (h2 : i < ys.length) (h : xs[i] = ys[i]) : sameN (xs.drop i) (ys.drop i) = sameN (xs.drop (i + 1)) (ys.drop (i + 1)) + 1 := by
  rw [List.drop_eq_getElem_cons h1, List.drop_eq_getElem_cons h2, sameN, if_pos h]
theorem sameN_ne {xs ys : List Nt} {i : Nat} (h1 : i < xs.length) (h2 : i < ys.length) (h : ¬ xs[i] = ys[i]) : sameN (xs.drop i) (ys.drop i) = 0 := by
  rw [List.drop_eq_getElem_cons h1, List.drop_eq_getElem_cons h2, sameN, if_neg h]
theorem sameN_out {xs ys : List Nt} {i : Nat} (h : xs.length ≤ i ∨ ys.length ≤ i) : sameN (xs.drop i) (ys.drop i) = 0 := by
  rcases h with h | h
  · rw [List.drop_of_length_le h]; cases ys.drop i <;> rfl
  · rw [List.drop_of_length_le h]; cases xs.drop i <;> rfl
structure Lg where
  ok : Bool
  notes : List Nt
  len : Int
  gen : Int
  safe : Int
def lg0 : Lg := ⟨false, [], 0, 0, 0⟩
def GotLg (l : Lg) (w : World) (e : Ending) (w' : World) : Prop :=
  ∃ v, e = .returned (.agg #[.bool l.ok, v, .int .i64 l.len, .int .i64 l.gen, .int .i64 l.safe]) ∧ Own w w' [Rs.row rN 33 v l.notes]
abbrev syncL (bs : List (List Int)) (ws : List Wr) : List (List Int) := settleL bs ws (kfL true [])
def foundL (bs : List (List Int)) : List Nt × Nat := framesL (logBytes bs)
def scanL (bs : List (List Int)) (ws : List Wr) : Lg := ⟨true, (foundL (syncL bs ws)).1, (foundL (syncL bs ws)).2, logGen (syncL bs ws), sameN (foundL (syncL bs ws)).1 (foundL bs).1⟩
def BkOk (bs : List (List Int)) (ws : List Wr) : Prop := (∀ b ∈ bs, BsOk b) ∧ ∀ x ∈ ws, BsOk x.bytes
theorem found_c (A : Option Addr) (c : Nat) (bs : List (List Int)) (w : World) (hx : rBS.d.C w A bs.length bs) (hc : bs.length ≤ c) (hb : BlOk bs) :
    Calls Try.prog 109 #[.slice A bs.length c] w (GotFound w (foundL bs).1 (foundL bs).2 (logGen bs) ((logBytes bs).take (foundL bs).2)) := by
  unfold foundL
  by_cases hh : headOk bs
  · have hl := logBytes_ok hb
    refine found_yes A c bs (logBytes bs) w hx hc hb hh hl.1 (by omega) (logGen bs) (by unfold logGen; rw [if_pos hh]) (by unfold logGen logBytes; rw [if_pos hh, if_pos hh, bodyL_zero]) _ (fun _ _ h => h)
  · have e : logBytes bs = [] := by unfold logBytes; rw [if_neg hh]
    have e2 : logGen bs = 0 := by unfold logGen; rw [if_neg hh]
    rw [e, e2]
    exact found_no A c bs w hx hc hb hh
theorem sync_bytes {bs : List (List Int)} {ws : List Wr} (kf : Nat → Bool) (hk : BkOk bs ws) : ∀ i, i ≤ ws.length → ∀ x ∈ setTo bs ws kf i, BsOk x
  | 0, _, x, hx => hk.1 x hx
  | i + 1, hi, x, hx => by
    simp only [setTo] at hx
    split at hx
    · rcases List.mem_or_eq_of_mem_set hx with h | rfl
      · exact sync_bytes kf hk i (by omega) x h
      · rw [List.getD_eq_getElem?_getD, List.getElem?_eq_getElem (by omega)]
        exact hk.2 _ (List.getElem_mem _)
    · exact sync_bytes kf hk i (by omega) x hx
theorem Own.st5 {w0 w w1 : World} {L : List Rs} {g t : Nat} {a b c d e x y z u v : Value} (h : Own w0 w (Rs.box g t #[a, b, c, d, e] :: L))
    (hw : ((((w.setCell ⟨g, 0, none⟩ x).setCell ⟨g, 1, none⟩ y).setCell ⟨g, 2, none⟩ z).setCell ⟨g, 3, none⟩ u).setCell ⟨g, 4, none⟩ v = w1) : Own w0 w1 (Rs.box g t #[x, y, z, u, v] :: L) :=
  hw ▸ ((((h.set 0 x).set 1 y).set 2 z).set 3 u).set 4 v
theorem Own.st2 {w0 w w1 : World} {L : List Rs} {g t : Nat} {a b x y : Value} (h : Own w0 w (Rs.box g t #[a, b] :: L))
    (hw : (w.setCell ⟨g, 0, none⟩ x).setCell ⟨g, 1, none⟩ y = w1) : Own w0 w1 (Rs.box g t #[x, y] :: L) :=
  hw ▸ (h.set 0 x).set 1 y
theorem Own.q2 {w0 w : World} {L : List Rs} {R R1 R2 : Rs} (h : Own w0 w (R :: R1 :: R2 :: L)) : Own w0 w (R1 :: R2 :: R :: L) := h.p2.p2
theorem Own.q3 {w0 w : World} {L : List Rs} {R R1 R2 R3 : Rs} (h : Own w0 w (R :: R1 :: R2 :: R3 :: L)) : Own w0 w (R1 :: R2 :: R3 :: R :: L) := h.p3.p3.p3
theorem Own.q4 {w0 w : World} {L : List Rs} {R R1 R2 R3 R4 : Rs} (h : Own w0 w (R :: R1 :: R2 :: R3 :: R4 :: L)) : Own w0 w (R1 :: R2 :: R3 :: R4 :: R :: L) := h.p4.p4.p4.p4
theorem Own.q5 {w0 w : World} {L : List Rs} {R R1 R2 R3 R4 R5 : Rs} (h : Own w0 w (R :: R1 :: R2 :: R3 :: R4 :: R5 :: L)) : Own w0 w (R1 :: R2 :: R3 :: R4 :: R5 :: R :: L) := h.p5.p5.p5.p5.p5
theorem Own.q6 {w0 w : World} {L : List Rs} {R R1 R2 R3 R4 R5 R6 : Rs} (h : Own w0 w (R :: R1 :: R2 :: R3 :: R4 :: R5 :: R6 :: L)) : Own w0 w (R1 :: R2 :: R3 :: R4 :: R5 :: R6 :: R :: L) := h.p6.p6.p6.p6.p6.p6
end Go.Proofs.Ytocdlibnmlcokaa
namespace Go.Proofs.Ytocdlibnmlcokaa
open Go.RowKit Go.Proofs.YtocdlibnmlcokaaW.PrintWords Go.Proofs.YtocdlibnmlcokaaW.PrintLast
set_option linter.unusedVariables false
set_option linter.unusedSimpArgs false
end Go.Proofs.Ytocdlibnmlcokaa
namespace Go.Proofs.Ytocdlibnmlcokaa
open Go.RowKit Go.Proofs.YtocdlibnmlcokaaW.PrintWords Go.Proofs.YtocdlibnmlcokaaW.PrintLast
set_option linter.unusedVariables false
def ObD (w : World) (lo hi b : Nat) (bs : List (List Int)) (ws : List Wr) : Prop :=
  ∃ A0 c0 A1 c1 f0 f1, w.heap[b]? = some (.cells #[.slice A0 bs.length c0, .slice A1 ws.length c1] 43 (0, 0)) ∧ rBS.Row 22 w (.slice A0 bs.length c0) bs f0 ∧ rW.Row 147 w (.slice A1 ws.length c1) ws f1 ∧ (f0 ++ f1).Nodup ∧ (∀ x ∈ f0 ++ f1, lo ≤ x ∧ x < hi) ∧ hi ≤ b ∧ lo ≤ hi
theorem ObD.kp {w w1 : World} {lo hi b : Nat} {bs : List (List Int)} {ws : List Wr} {S : List Nat} (h : ObD w lo hi b bs ws) (k : Kp w w1 S) (hS : ∀ x ∈ S, x < lo ∨ (hi ≤ x ∧ x ≠ b)) (hlb : lo ≤ b := by omega) : ObD w1 lo hi b bs ws := by
  obtain ⟨A0, c0, A1, c1, f0, f1, hb, h0, h1, hn, hr, hhb, hlh⟩ := h
  refine ⟨A0, c0, A1, c1, f0, f1, k.blk hb (fun hm => ?_), k.row h0 (fun x hx hm => ?_), k.row h1 (fun x hx hm => ?_), hn, hr, hhb, hlh⟩
  · have := hS b hm; omega
  · have := hS x hm; have := hr x (List.mem_append_left _ hx); omega
  · have := hS x hm; have := hr x (List.mem_append_right _ hx); omega
theorem ObD.below {w w1 : World} {lo hi b : Nat} {bs : List (List Int)} {ws : List Wr} (h : ObD w lo hi b bs ws) (k : Below w.heap.size w w1) : ObD w1 lo hi b bs ws := by
  have hlb : lo ≤ b := by obtain ⟨_, _, _, _, _, _, _, _, _, _, _, h1, h2⟩ := h; omega
  exact h.kp (Kp.below k) (by simp) hlb
def ObR {α : Type} (r : Rp α) (e : Nat) (w : World) (lo hi : Nat) (v : Value) (xs : List α) : Prop := ∃ fp, r.Row e w v xs fp ∧ fp.Nodup ∧ (∀ x ∈ fp, lo ≤ x ∧ x < hi)
section
variable {α : Type} {r : Rp α} {e lo hi l u : Nat} {w w0 w1 : World} {v : Value} {xs xs' : List α} {S : List Nat}
theorem ObR.below (h : ObR r e w lo hi v xs) (k : Below w.heap.size w w1) : ObR r e w1 lo hi v xs := by
  obtain ⟨fp, hr, hn, hx⟩ := h
  exact ⟨fp, Rp.Row_below hr k, hn, hx⟩
theorem ObR.C {A : Option Addr} {n c : Nat} (h : ObR r e w lo hi (.slice A n c) xs) : n = xs.length ∧ xs.length ≤ c ∧ r.d.C w A xs.length xs := by
  obtain ⟨fp, hr, _, _⟩ := h
  exact Rp.Row_C hr
end
end Go.Proofs.Ytocdlibnmlcokaa
namespace Go.Proofs.Ytocdlibnmlcokaa.Open
open Go.RowKit Go.Proofs.YtocdlibnmlcokaaW.PrintWords Go.Proofs.YtocdlibnmlcokaaW.PrintLast
open Go.ChangeShapes Go.WideShapes
set_option linter.unusedVariables false
def Opens (P : Program) (t : TypeId) {α : Type} (d : Kd α) (ok : α → Prop) : Prop :=
  ∀ (H : Type) (enc : TypeId × Value → H) (w : World) (fuel : Nat) (cs : List Value) (x : DataW H × List MemPlace), DataW.trod enc P w 0 (fun _ => true) true fuel t cs = some x → ∃ y : α, d.K w y cs ∧ ok y
theorem opens_int {P : Program} {t : TypeId} {k : IntKind} (ht : P.underlying t = some (.int k)) : Opens P t (Kd.int k) (fun n => (Lit.int k n).wf = true) := by
  intro H enc w fuel cs x h
  obtain ⟨n, rfl, _, hw⟩ := DataW.trod_int ht h
  exact ⟨n, rfl, hw⟩
theorem opens_slice {P : Program} {t e : TypeId} {α : Type} {d : Kd α} {ok : α → Prop} (e' : Nat) (ht : P.underlying t = some (.slice e)) (hc : P.cellsOf e = d.sz) (he : Opens P e d ok) :
    Opens P t (Kd.slice e' d) (fun xs => xs.length ≤ maxLen ∧ ∀ x ∈ xs, ok x) := by
  intro H enc w fuel cs x h
  rcases Go.Deep.open_slice ht h with ⟨rfl, _⟩ | ⟨a, len, cap, m, n, D, Pl, rfl, _, hl, hm, hmm, _, hx⟩
  · exact ⟨[], ⟨none, 0, rfl, by simp, by simp, by simp, fun h => absurd h (by simp)⟩, by simp, by simp⟩
  · have hlm : len ≤ m := by rw [hmm]; split <;> omega
    have key : ∀ n' : Nat, n' ≤ len → ∃ ys : List α, ys.length = n' ∧ (∀ y ∈ ys, ok y) ∧ ∀ j p, ys[j]? = some p → ∃ c, c.length = d.sz ∧ d.K w p c ∧ ∀ i u, c[i]? = some u → w.cell? (a.add (j * d.sz + i)) = some u := by
      intro n'
      induction n' with
      | zero => exact fun _ => ⟨[], rfl, by simp, by simp⟩
      | succ n' ih =>
        intro hn
        obtain ⟨ys, hyl, hyo, hyc⟩ := ih (by omega)
        obtain ⟨cs', h1, h2⟩ := hx n' (by omega)
        obtain ⟨y, hK, hok⟩ := he H enc w _ _ _ h2
        obtain ⟨_, hlen, hcell⟩ := World.cells?_some h1
        rw [hc] at hlen hcell
        refine ⟨ys ++ [y], by simp [hyl], ?_, ?_⟩
        · intro z hz
          rcases List.mem_append.1 hz with hz | hz
          · exact hyo z hz
          · rw [List.mem_singleton.1 hz]; exact hok
        · intro j p hj
          rcases Nat.lt_or_ge j ys.length with hlt | hge
          · rw [List.getElem?_append_left hlt] at hj
            exact hyc j p hj
          · rw [List.getElem?_append_right hge] at hj
            have hj0 : j - ys.length = 0 := by
              rcases Nat.eq_zero_or_pos (j - ys.length) with h0 | h0
              · exact h0
              · rw [List.getElem?_eq_none (by simp; omega)] at hj
                cases hj
            have hjn : j = n' := by omega
            subst hjn
            rw [hj0] at hj
            obtain rfl : y = p := by simpa using hj
            refine ⟨cs', hlen, hK, fun i u hu => ?_⟩
            have hi : i < d.sz := by
              have := (List.getElem?_eq_some_iff.1 hu).1
              omega
            have hc1 := hcell i hi
            rw [hu, Go.Deep.add_add] at hc1
            exact hc1
    obtain ⟨ys, hyl, hyo, hyc⟩ := key len (Nat.le_refl _)
    have hb : len ≤ 9223372036854775807 := by
      unfold maxLen at hm
      omega
    subst hyl
    exact ⟨ys, ⟨some a, cap, rfl, hl, rfl, hb, fun _ => ⟨a, rfl, hyc⟩⟩, by omega, hyo⟩
theorem opens_Trod {P : Program} {t : TypeId} {α : Type} {d : Kd α} {ok : α → Prop} (h : Opens P t d ok) {H : Type} {enc : TypeId × Value → H} {w : World} {v : Value} {D : DataW H} {ps : List MemPlace} (hd : DataW.Trod enc P w 0 (fun _ => true) true t v D ps) : ∃ y : α, d.K w y v.cells.toList ∧ ok y := by
  obtain ⟨fuel, hf⟩ := hd
  exact h H enc w fuel _ _ hf
section
variable {P : Program} {w : World} {r : Reach} {base : Nat} {t : TypeId} {v : Value}
theorem slice_of {e : TypeId} (hs : P.underlying t = some (.slice e)) (hv : Value.okWide P w r base t v) {x : Value} (h : v.cells.toList = [x]) : v = x := by
  obtain ⟨a, len, cap, rfl⟩ := okWide_slice hs hv
  simpa [Value.cells] using h
end
end Go.Proofs.Ytocdlibnmlcokaa.Open
namespace Go.Proofs.Ytocdlibnmlcokaa
open Go.RowKit Go.Proofs.YtocdlibnmlcokaaW.PrintWords Go.Proofs.YtocdlibnmlcokaaW.PrintLast Go.Proofs.Ytocdlibnmlcokaa.Open
set_option linter.unusedVariables false
set_option linter.unusedSimpArgs false
theorem setTo_row {bs : List (List Int)} {ws : List Wr} {kf : Nat → Bool} (hd : DkOk bs ws) : ∀ i, i ≤ ws.length → ∀ x ∈ setTo bs ws kf i, x.length = 64
  | 0, _, x, hx => hd.2.2.1 x hx
  | i + 1, hi, x, hx => by
    simp only [setTo] at hx
    split at hx
    · rcases List.mem_or_eq_of_mem_set hx with h | rfl
      · exact setTo_row hd i (by omega) x h
      · rw [List.getD_eq_getElem?_getD, List.getElem?_eq_getElem (by omega)]
        exact (hd.2.2.2 _ (List.getElem_mem _)).2.2
    · exact setTo_row hd i (by omega) x hx
theorem settle_ok {bs : List (List Int)} {ws : List Wr} (kf : Nat → Bool) (hd : DkOk bs ws) : (settleL bs ws kf).length = 128 ∧ ∀ x ∈ settleL bs ws kf, x.length = 64 :=
  ⟨(setTo_len bs ws kf _).trans hd.1, setTo_row hd _ (Nat.le_refl _)⟩
theorem op22 : Opens Try.prog 22 (Kd.slice 5 (Kd.int .u8)) (fun xs => xs.length ≤ maxLen ∧ ∀ x ∈ xs, (Lit.int .u8 x).wf = true) := opens_slice 5 Try.underlying22 (by kernel_rfl) (opens_int Try.underlying5)
theorem open22 {w : World} {y : List Int} {cs : List Value} (h : (Kd.slice 5 (Kd.int .u8)).K w y cs) : ∃ A c, cs = [.slice A y.length c] ∧ kB.C w A y.length y := by
  obtain ⟨A, c, rfl, _, h0⟩ := h
  exact ⟨A, c, rfl, h0⟩
end Go.Proofs.Ytocdlibnmlcokaa
namespace Go.Proofs.Ytocdlibnmlcokaa
open Go.RowKit Go.Proofs.YtocdlibnmlcokaaW.PrintWords Go.Proofs.YtocdlibnmlcokaaW.PrintLast
attribute [local go_sem high] eqN33
set_option linter.unusedVariables false
set_option linter.unusedSimpArgs false
theorem sync_ok {bs : List (List Int)} {ws : List Wr} (hd : DkOk bs ws) (hk : BkOk bs ws) : BlOk (syncL bs ws) := by
  have h := settle_ok (kfL true []) hd
  exact ⟨h.1, fun b hb => ⟨h.2 b hb, sync_bytes _ hk _ (Nat.le_refl _) b hb⟩⟩
theorem bl_ok {bs : List (List Int)} {ws : List Wr} (hd : DkOk bs ws) (hk : BkOk bs ws) : BlOk bs := ⟨hd.1, fun b hb => ⟨hd.2.2.1 b hb, hk.1 b hb⟩⟩
theorem frames_len : ∀ (k : Nat) (b : List Int), BsOk b → (framesF k b).1.length ≤ b.length ∧ (framesF k b).2 ≤ b.length
  | 0, b, _ => by simp [framesF]
  | k + 1, b, hb => by
    by_cases h : FrIs b
    · obtain ⟨h1, h2⟩ := fr_len hb h
      have ih := frames_len k (b.drop (frLen b).toNat) (hb.drop _)
      rw [framesF_yes h]
      rw [List.length_drop] at ih
      simp only [List.length_cons]
      omega
    · rw [framesF_no h]; simp
set_option maxHeartbeats 8000000 in
set_option maxRecDepth 100000 in
theorem implScan_yes (A0 A1 : Option Addr) (c0 c1 : Nat) (bs : List (List Int)) (ws : List Wr) (w : World) (hx : rBS.d.C w A0 bs.length bs) (hy : rW.d.C w A1 ws.length ws) (hc : bs.length ≤ c0) (hd : DkOk bs ws) (hk : BkOk bs ws) :
    Calls Try.prog 72 #[.agg #[.slice A0 bs.length c0, .slice A1 ws.length c1]] w (GotLg (scanL bs ws) w) := by
  obtain ⟨S, hS⟩ : ∃ S, S = settleL bs ws (kfL true []) := ⟨_, rfl⟩
  obtain ⟨N, hN⟩ : ∃ N, N = (foundL S).1 := ⟨_, rfl⟩
  obtain ⟨L, hL⟩ : ∃ L, L = (foundL S).2 := ⟨_, rfl⟩
  obtain ⟨M, hM⟩ : ∃ M, M = (foundL bs).1 := ⟨_, rfl⟩
  obtain ⟨G, hG⟩ : ∃ G, G = logGen S := ⟨_, rfl⟩
  have hSok : BlOk S := hS ▸ sync_ok hd hk
  have hBok := bl_ok hd hk
  have hNl : N.length ≤ 10000 := by
    have h1 := logBytes_ok hSok
    have h2 := frames_len (logBytes S).length (logBytes S) h1.1
    rw [hN]; unfold foundL framesL; omega
  obtain ⟨R, hR⟩ : ∃ R, R = scanL bs ws := ⟨_, rfl⟩
  have HR : Aside0 (R = ⟨true, N, L, G, sameN N M⟩) := ⟨by rw [hR]; unfold scanL syncL; rw [← hS, ← hN, ← hL, ← hG, ← hM]⟩
  rw [← hR]; clear hR
  have HS := Aside0.mk hS; have HN := Aside0.mk hN; have HL := Aside0.mk hL; have HM := Aside0.mk hM; have HG := Aside0.mk hG; have HSok := Aside0.mk hSok; have HBok := Aside0.mk hBok
  have HX := Aside0.mk hx; have HY := Aside0.mk hy; have HD := Aside0.mk hd; clear hx hy hd hS hN hL hM hG hSok hBok
  go_enter Try.func72, Try.ntmps72
  go_upto_region 1 with (fail)
  generalize hw : World.alloc (World.alloc w _) _ = w1
  have O := Aside0.mk ((Own.nil w).of2 hw); clear hw
  have p0 := (blk_cell O.out.b1 0).trans rfl; have p1 := (blk_cell O.out.b1 1).trans rfl
  go_wp2_with fail
  refine (implDiskOk_c _ _ _ _ bs ws true ⟨fun _ => HD.out, fun _ => rfl⟩ _ (Kd.C_below HX.out O.out.bel) (Kd.C_below HY.out O.out.bel)).mono ?_
  rintro e w2 ⟨rfl, hb⟩
  replace O := Aside0.mk (O.out.below hb)
  clear p0 p1 hb
  have p0 := (blk_cell O.out.b1 0).trans rfl; have p1 := (blk_cell O.out.b1 1).trans rfl
  go_wp2_with fail
  refine (implSeen_yes _ _ _ _ bs ws _ (Kd.C_below HX.out O.out.bel) (Kd.C_below HY.out O.out.bel) HD.out).mono ?_
  intro e w3 hg
  obtain ⟨v, rfl, k⟩ := own_row hg
  rw [← HS.out] at k
  replace O := Aside0.mk (O.out.app1 k); clear k hg p0 p1
  obtain ⟨As, cs, rfl, hcs⟩ := O.out.f0
  have HCS := Aside0.mk hcs; clear hcs
  go_wp2_with fail
  refine (found_c _ _ S _ O.out.c0 HCS.out HSok.out).mono ?_
  intro e w4 hg
  rw [← HN.out, ← HL.out, ← HG.out] at hg
  obtain ⟨vn, vb, rfl, k⟩ := hg
  replace O := Aside0.mk ((O.out.app1 k.only1).p1.drop); clear k
  obtain ⟨An, cn, rfl, _⟩ := O.out.f0
  go_upto_region 4 with (fail)
  generalize hw : w4.alloc _ = w5
  replace O := Aside0.mk (O.out.of hw); clear hw
  generalize w4.heap.size = g3 at O ⊢
  have p0 := (blk_cell O.out.b3 0).trans rfl
  go_wp2_with fail
  refine (found_c _ _ bs _ (Kd.C_below HX.out O.out.bel) hc HBok.out).mono ?_
  intro e w6 hg
  rw [← HM.out] at hg
  generalize hL2 : ((foundL bs).2 : Int) = L2 at hg
  generalize hG2 : logGen bs = G2 at hg
  obtain ⟨vm, vb2, rfl, k⟩ := hg
  replace O := Aside0.mk (O.out.app1 k.only1); clear k p0 hL2 hG2
  obtain ⟨Am, cm, rfl, _⟩ := O.out.f0
  go_upto_region 5 with (fail)
  generalize hw : w6.alloc _ = w7
  replace O := Aside0.mk (O.out.of hw); clear hw
  generalize w6.heap.size = g5 at O ⊢
  go_loopg [36] (N.length + 1) (fun m v36 wr => ∃ i : Nat, Aside0 (i ≤ N.length ∧ N.length - i < m ∧ sameN N M = i + sameN (N.drop i) (M.drop i))
    ∧ Aside0 (Own w wr [Rs.box g5 59 #[.bool true, .slice Am M.length cm, .int .i64 L2, .int .i64 G2, .int .i64 0], Rs.row rN 33 (.slice Am M.length cm) M, Rs.box g3 59 #[.bool true, .slice An N.length cn, .int .i64 L, .int .i64 G, .int .i64 i], Rs.row rN 33 (.slice An N.length cn) N, Rs.box (w.heap.size + 1) 59 #[.bool false, .slice none 0 0, .int .i64 0, .int .i64 0, .int .i64 0], Rs.box w.heap.size 43 #[.slice A0 bs.length c0, .slice A1 ws.length c1]]))
  case atStart => exact ⟨0, ⟨by simp⟩, O⟩
  case round =>
    clear O
    obtain ⟨i, HI, O⟩ := hrel
    have q1 := (blk_cell O.out.b0 1).trans rfl
    have r1 := (blk_cell O.out.b2 1).trans rfl; have r4 := (blk_cell O.out.b2 4).trans rfl
    by_cases h1 : i < N.length
    · by_cases h2 : i < M.length
      · obtain ⟨ad, e1, a0, a1, a2, a3, a4⟩ := at_N O.out.c3 (i : Int) (by omega) (by omega)
        obtain ⟨ad', e2, b0, b1, b2, b3, b4⟩ := at_N O.out.c1 (i : Int) (by omega) (by omega)
        cases e1; cases e2
        simp only [Int.toNat_natCast] at a0 a1 a2 a3 a4 b0 b1 b2 b3 b4
        go_wp2
        go_quiet (fail)
        clear a0 a1 a2 a3 a4 b0 b1 b2 b3 b4 q1 r1 r4
        replace O := Aside0.mk (O.out.drewN nq)
        generalize wr.drewN nq = wd at O ⊢
        generalize hb : decide (gN N ↑i = gN M ↑i) = b
        have HBQ := Aside0.mk hb; clear hb
        cases b with
        | true =>
          have he : N[i] = M[i] := by have := of_decide_eq_true HBQ.out; rwa [gN_eq (by omega), gN_eq (by omega)] at this
          have HE := Aside0.mk he; clear he
          have r4 := (blk_cell O.out.b2 4).trans rfl; have z4 := blk_frozen O.out.b2 4
          go_wp2
          generalize hw : World.setCell _ _ _ = w8
          replace O := Aside0.mk ((O.out.p2.st hw #[.bool true, .slice (some ad) N.length cn, .int .i64 L, .int .i64 G, .int .i64 (i + 1)] rfl).q2); clear hw
          go_roundg (gk - 1)
          case measure => have := HI.out; omega
          case rel =>
            refine ⟨i + 1, ⟨by omega, by have := HI.out; omega, by have := HI.out.2.2; rw [sameN_yes (by omega) (by omega) HE.out] at this; omega⟩, ?_⟩
            exact O
        | false =>
          have he : ¬ N[i] = M[i] := by have := of_decide_eq_false HBQ.out; rwa [gN_eq (by omega), gN_eq (by omega)] at this
          have HE := Aside0.mk he; clear he
          have r0 := (blk_cell O.out.b2 0).trans rfl; have r1 := (blk_cell O.out.b2 1).trans rfl; have r2 := (blk_cell O.out.b2 2).trans rfl; have r3 := (blk_cell O.out.b2 3).trans rfl; have r4 := (blk_cell O.out.b2 4).trans rfl
          have u0 := (blk_cell O.out.b4 0).trans rfl; have u1 := (blk_cell O.out.b4 1).trans rfl; have u2 := (blk_cell O.out.b4 2).trans rfl; have u3 := (blk_cell O.out.b4 3).trans rfl; have u4 := (blk_cell O.out.b4 4).trans rfl
          have z0 := blk_frozen O.out.b4 0; have z1 := blk_frozen O.out.b4 1; have z2 := blk_frozen O.out.b4 2; have z3 := blk_frozen O.out.b4 3; have z4 := blk_frozen O.out.b4 4
          go_wp2
          generalize hw : World.setCell _ _ _ = w8
          replace O := Aside0.mk (O.out.p4.st5 hw); clear hw
          refine bodyPost_ret (results_cell_row rfl _ _ (w.heap.size + 1) 59 _ (0, 0) _ rfl O.out.b0 Try.underlying59 rfl (by kernel_rfl)) rfl ?_
          rw [HR.out]
          have hs : sameN N M = i := by rw [HI.out.2.2, sameN_ne (by omega) (by omega) HE.out]; rfl
          rw [hs]
          exact ⟨_, rfl, O.out.p4.only1⟩
      · go_wp2
        go_quiet (fail)
        clear q1 r1 r4
        replace O := Aside0.mk (O.out.drewN nq)
        generalize wr.drewN nq = wd at O ⊢
        have r0 := (blk_cell O.out.b2 0).trans rfl; have r1 := (blk_cell O.out.b2 1).trans rfl; have r2 := (blk_cell O.out.b2 2).trans rfl; have r3 := (blk_cell O.out.b2 3).trans rfl; have r4 := (blk_cell O.out.b2 4).trans rfl
        have u0 := (blk_cell O.out.b4 0).trans rfl; have u1 := (blk_cell O.out.b4 1).trans rfl; have u2 := (blk_cell O.out.b4 2).trans rfl; have u3 := (blk_cell O.out.b4 3).trans rfl; have u4 := (blk_cell O.out.b4 4).trans rfl
        have z0 := blk_frozen O.out.b4 0; have z1 := blk_frozen O.out.b4 1; have z2 := blk_frozen O.out.b4 2; have z3 := blk_frozen O.out.b4 3; have z4 := blk_frozen O.out.b4 4
        go_wp2
        generalize hw : World.setCell _ _ _ = w8
        replace O := Aside0.mk (O.out.p4.st5 hw); clear hw
        refine bodyPost_ret (results_cell_row rfl _ _ (w.heap.size + 1) 59 _ (0, 0) _ rfl O.out.b0 Try.underlying59 rfl (by kernel_rfl)) rfl ?_
        rw [HR.out]
        have hs : sameN N M = i := by rw [HI.out.2.2, sameN_out (.inr (by omega))]; rfl
        rw [hs]
        exact ⟨_, rfl, O.out.p4.only1⟩
    · go_wp2
      go_quiet (fail)
      clear q1 r1 r4
      replace O := Aside0.mk (O.out.drewN nq)
      generalize wr.drewN nq = wd at O ⊢
      have r0 := (blk_cell O.out.b2 0).trans rfl; have r1 := (blk_cell O.out.b2 1).trans rfl; have r2 := (blk_cell O.out.b2 2).trans rfl; have r3 := (blk_cell O.out.b2 3).trans rfl; have r4 := (blk_cell O.out.b2 4).trans rfl
      have u0 := (blk_cell O.out.b4 0).trans rfl; have u1 := (blk_cell O.out.b4 1).trans rfl; have u2 := (blk_cell O.out.b4 2).trans rfl; have u3 := (blk_cell O.out.b4 3).trans rfl; have u4 := (blk_cell O.out.b4 4).trans rfl
      have z0 := blk_frozen O.out.b4 0; have z1 := blk_frozen O.out.b4 1; have z2 := blk_frozen O.out.b4 2; have z3 := blk_frozen O.out.b4 3; have z4 := blk_frozen O.out.b4 4
      go_wp2
      generalize hw : World.setCell _ _ _ = w8
      replace O := Aside0.mk (O.out.p4.st5 hw); clear hw
      refine bodyPost_ret (results_cell_row rfl _ _ (w.heap.size + 1) 59 _ (0, 0) _ rfl O.out.b0 Try.underlying59 rfl (by kernel_rfl)) rfl ?_
      rw [HR.out]
      have hs : sameN N M = i := by rw [HI.out.2.2, sameN_out (.inl (by omega))]; rfl
      rw [hs]
      exact ⟨_, rfl, O.out.p4.only1⟩
end Go.Proofs.Ytocdlibnmlcokaa
namespace Go.Proofs.Ytocdlibnmlcokaa
open Go.RowKit Go.Proofs.YtocdlibnmlcokaaW.PrintWords Go.Proofs.YtocdlibnmlcokaaW.PrintLast
attribute [local go_sem high] eqN33
set_option linter.unusedVariables false
set_option linter.unusedSimpArgs false
end Go.Proofs.Ytocdlibnmlcokaa
namespace Go.Proofs.Ytocdlibnmlcokaa
open Go.RowKit Go.Proofs.YtocdlibnmlcokaaW.PrintWords Go.Proofs.YtocdlibnmlcokaaW.PrintLast
set_option linter.unusedVariables false
set_option linter.unusedSimpArgs false
section
variable {P : Program} {ops : Array Oper} {rest : List Oper} {o : Oper} {a : Act} {Q : Exit → Act → World → Prop} {w0 W : World} {L : List Rs} {α : Type}
theorem Own.mk_row (r : Rp α) (hgd : o.guard = none) {N : Tmp} (hd : o.dst = some N) (t e : TypeId) (x y : Operand) (ho : o.op = .makeSlice t x y) (n : Int) (hx : a.eval x = .int .i64 n) (hy : a.eval y = .int .i64 n)
    (ht : P.underlying t = some (.slice e)) (z : Value) (bytes : Nat) (hinfo : (P.info? e).map (fun i => (i.zero, i.size, i.bytes)) = some (some z, r.d.sz, bytes)) (hz : z.cells.size = r.d.sz) (hs0 : 0 < r.d.sz) (hb0 : 0 < bytes)
    (z0 : α) (hzero : ∀ w, r.P w z0 z.cells.toList []) (h0 : 0 ≤ n) (hl : n.toNat * bytes ≤ 281474976710656) (HO : Own w0 W L)
    (h : ∀ g w1, Own w0 w1 (Rs.row r e (.slice (some ⟨g, 0, none⟩) n.toNat n.toNat) (List.replicate n.toNat z0) :: L) → wpList P ops Q rest (a.put o.dst (.slice (some ⟨g, 0, none⟩) n.toNat n.toNat)) w1) : wpList P ops Q (o :: rest) a W :=
  Rp.mk_row r hgd hd t e x y ho n hx hy ht z bytes hinfo hz hs0 hb0 z0 hzero h0 hl fun g w1 hg hr hb => h g w1 (HO.app1 (Own.one hb hr (by simp) (fun b hb' => by simp at hb'; omega)))
theorem Own.mk_row_step (r : Rp α) {K : Act → World → Prop} {E : Prop} (hgd : o.guard = none) (t e : TypeId) (x y : Operand) (ho : o.op = .makeSlice t x y) (n : Int) (hx : a.eval x = .int .i64 n) (hy : a.eval y = .int .i64 n)
    (ht : P.underlying t = some (.slice e)) (z : Value) (bytes : Nat) (hinfo : (P.info? e).map (fun i => (i.zero, i.size, i.bytes)) = some (some z, r.d.sz, bytes)) (hz : z.cells.size = r.d.sz) (hs0 : 0 < r.d.sz) (hb0 : 0 < bytes)
    (z0 : α) (hzero : ∀ w, r.P w z0 z.cells.toList []) (h0 : 0 ≤ n) (hl : n.toNat * bytes ≤ 281474976710656) (HO : Own w0 W L)
    (h : ∀ g w1, Own w0 w1 (Rs.row r e (.slice (some ⟨g, 0, none⟩) n.toNat n.toNat) (List.replicate n.toNat z0) :: L) → K (a.put o.dst (.slice (some ⟨g, 0, none⟩) n.toNat n.toNat)) w1) : if Region.wanted o (yielded ops a.tmps) = true then Oper.wp P o a W K Q else E :=
  Rp.mk_row_step r hgd t e x y ho n hx hy ht z bytes hinfo hz hs0 hb0 z0 hzero h0 hl fun g w1 hg hr hb => h g w1 (HO.app1 (Own.one hb hr (by simp) (fun b hb' => by simp at hb'; omega)))
end
theorem disk_own {w w1 : World} {v0 v1 : Value} {bs : List (List Int)} {ws : List Wr} (h : Own w w1 [Rs.row rBS 22 v0 bs, Rs.row rW 147 v1 ws]) : GotDisk w bs ws (.returned (.agg #[v0, v1])) w1 := by
  obtain ⟨f, g, hf, hg, hn, hl, _⟩ := h.take2
  exact ⟨v0, v1, f, g, rfl, hf, hg, hn, hl, h.bel⟩
def zeroB : List Int := List.replicate 64 0
def pageB (X : List Int) (k : Nat) (gen : Int) : List Int := if k * 56 < X.length then blockL gen (seg X (k * 56) (min X.length (k * 56 + 56))) else zeroB
theorem seg_short (X : List Int) (k : Nat) : (seg X (k * 56) (min X.length (k * 56 + 56))).length ≤ 56 := by rw [seg_len _ (by omega)]; omega
theorem pageB_len (X : List Int) (k : Nat) (gen : Int) : (pageB X k gen).length = 64 := by
  unfold pageB
  split
  · exact block_len (seg_short X k)
  · simp [zeroB]
set_option maxHeartbeats 8000000 in
set_option maxRecDepth 100000 in
theorem lay_c (A0 A1 A2 : Option Addr) (c0 c1 c2 : Nat) (bs : List (List Int)) (ws : List Wr) (X : List Int) (k : Nat) (gen : Int) (w : World) (hx : rBS.d.C w A0 bs.length bs) (hy : rW.d.C w A1 ws.length ws) (hz : kB.C w A2 X.length X) (hc : X.length ≤ c2)
    (hd : DkOk bs ws) (hw : ws.length < 200) (hk : k < 127) (hg : 1 ≤ gen) (hg2 : gen ≤ 1000000000) (hX : X.length ≤ 100000) :
    Calls Try.prog 111 #[.agg #[.slice A0 bs.length c0, .slice A1 ws.length c1], .int .i64 k, .slice A2 X.length c2, .int .i64 gen] w (GotDisk w bs (ws ++ [⟨k + 1, pageB X k gen⟩])) := by
  obtain ⟨Bk, hB⟩ : ∃ B, B = pageB X k gen := ⟨_, rfl⟩
  have hBl : Bk.length = 64 := by rw [hB]; exact pageB_len X k gen
  have HPut : Aside0 (PutOk bs ws (k + 1) Bk) := ⟨⟨hd, by omega, by omega, hBl, hw⟩⟩
  rw [← hB]
  obtain ⟨W1, hW1⟩ : ∃ W1, W1 = ws ++ [⟨(k : Int) + 1, Bk⟩] := ⟨_, rfl⟩
  rw [← hW1]
  have HW1 := Aside0.mk hW1; clear hW1
  suffices H : ∀ Q : Ending → World → Prop, (∀ e w', GotDisk w bs W1 e w' → Q e w') → Calls Try.prog 111 #[.agg #[.slice A0 bs.length c0, .slice A1 ws.length c1], .int .i64 k, .slice A2 X.length c2, .int .i64 gen] w Q from H _ (fun _ _ h => h)
  intro Q hQ
  have HX := Aside0.mk hx; have HY := Aside0.mk hy; have HZ := Aside0.mk hz; have HB := Aside0.mk hB; have HQ := Aside0.mk hQ; clear hx hy hz hd hB hQ hBl
  go_enter Try.func111, Try.ntmps111
  go_upto_region 1 with (fail)
  generalize hw : World.alloc (World.alloc w _) _ = w1
  have O := Aside0.mk ((Own.nil w).of2 hw); clear hw
  go_upto_region 2 with ((with_reducible refine gate_dst (N := 11) rfl ?_); refine Own.mk_row rB rfl (N := 11) rfl 22 5 _ _ rfl 64 rfl rfl Try.underlying22 (.int .u8 0) 1 info5 rfl (by decide) (by omega) 0 (fun _ => ⟨rfl, rfl⟩) (by omega) (by omega) O.out ?_; intro g w2 hO; have O2 := Aside0.mk hO; clear hO)
  clear O
  have O : Aside0 (Own w w2 [Rs.row rB 5 (.slice (some ⟨g, 0, none⟩) 64 64) zeroB, Rs.box (w.heap.size + 1) 43 #[.slice none 0 0, .slice none 0 0], Rs.box w.heap.size 43 #[.slice A0 bs.length c0, .slice A1 ws.length c1]]) := ⟨O2.out⟩
  clear O2
  by_cases hin : (k : Int) * 56 < X.length
  · go_upto_region 4 with (fail)
    obtain ⟨y, hy⟩ : ∃ y, y = min X.length (k * 56 + 56) := ⟨_, rfl⟩
    obtain ⟨A', hcut, hC, hle⟩ := mid_c (A := A2) (c := c2) (xs := X) ((k : Int) * 56) (y : Int) (k * 56) y (by omega) (by omega) (by omega) (by omega) (by omega) hc
    have hseg : (seg X (k * 56) y).length ≤ 56 := by rw [hy]; exact seg_short X k
    replace HB : Aside0 (Bk = blockL gen (seg X (k * 56) y)) := ⟨by rw [HB.out]; unfold pageB; rw [if_pos (by omega), hy]⟩
    generalize seg X (k * 56) y = S at hcut hC hle hseg HB
    have HCs := Aside0.mk (hC _ (Kd.C_below HZ.out O.out.bel))
    have hy1 : y = if (X.length : Int) ≤ (k : Int) * 56 + 56 then X.length else k * 56 + 56 := by rw [hy]; split <;> omega
    clear hC hy
    by_cases hsh : (X.length : Int) ≤ (k : Int) * 56 + 56
    · rw [if_pos hsh] at hy1
      subst hy1
      go_wp2_with fail
      refine (implPageBlock_yes _ _ gen S _ HCs.out ⟨rfl, hg, hg2, hseg⟩).mono ?_
      intro e w3 hg1
      rw [← HB.out] at hg1
      obtain ⟨v, rfl, k1⟩ := own_row hg1
      replace O := Aside0.mk ((O.out.drop).app1 k1); clear k1 hg1 hcut
      obtain ⟨A9, c9, rfl, _⟩ := O.out.f0
      go_upto_region 5 with (fail)
      have HC9 := Aside0.mk O.out.c0
      have p0 := (blk_cell O.out.b2 0).trans rfl; have p1 := (blk_cell O.out.b2 1).trans rfl
      go_wp2_with fail
      refine (implPut_yes _ _ _ _ _ _ bs ws _ Bk _ (Kd.C_below HX.out O.out.bel) (Kd.C_below HY.out O.out.bel) HC9.out HPut.out).mono ?_
      intro e w4 hg
      rw [← HW1.out] at hg
      obtain ⟨v0, v1, rfl, k2⟩ := own_disk hg
      replace O := Aside0.mk (O.out.app2 k2); clear k2 hg p0 p1
      have u0 := (blk_cell O.out.b3 0).trans rfl; have u1 := (blk_cell O.out.b3 1).trans rfl
      have z0 := blk_frozen O.out.b3 0; have z1 := blk_frozen O.out.b3 1
      obtain ⟨B0, d0, rfl, _⟩ := O.out.f0
      obtain ⟨B1, d1, rfl, _⟩ := O.out.f1
      go_wp2
      generalize hw : World.setCell _ _ _ = w5
      replace O := Aside0.mk (O.out.p3.st2 hw); clear hw
      refine bodyPost_ret (results_cell_row rfl _ _ (w.heap.size + 1) 43 _ (0, 0) _ rfl O.out.b0 Try.underlying43 rfl (by kernel_rfl)) rfl ?_
      exact HQ.out _ _ (disk_own O.out.drop.only2)
    · rw [if_neg hsh] at hy1
      subst hy1
      rw [show ((k * 56 + 56 : Nat) : Int) = (k : Int) * 56 + 56 by omega] at hcut
      go_wp2_with fail
      refine (implPageBlock_yes _ _ gen S _ HCs.out ⟨rfl, hg, hg2, hseg⟩).mono ?_
      intro e w3 hg1
      rw [← HB.out] at hg1
      obtain ⟨v, rfl, k1⟩ := own_row hg1
      replace O := Aside0.mk ((O.out.drop).app1 k1); clear k1 hg1 hcut
      obtain ⟨A9, c9, rfl, _⟩ := O.out.f0
      go_upto_region 5 with (fail)
      have HC9 := Aside0.mk O.out.c0
      have p0 := (blk_cell O.out.b2 0).trans rfl; have p1 := (blk_cell O.out.b2 1).trans rfl
      go_wp2_with fail
      refine (implPut_yes _ _ _ _ _ _ bs ws _ Bk _ (Kd.C_below HX.out O.out.bel) (Kd.C_below HY.out O.out.bel) HC9.out HPut.out).mono ?_
      intro e w4 hg
      rw [← HW1.out] at hg
      obtain ⟨v0, v1, rfl, k2⟩ := own_disk hg
      replace O := Aside0.mk (O.out.app2 k2); clear k2 hg p0 p1
      have u0 := (blk_cell O.out.b3 0).trans rfl; have u1 := (blk_cell O.out.b3 1).trans rfl
      have z0 := blk_frozen O.out.b3 0; have z1 := blk_frozen O.out.b3 1
      obtain ⟨B0, d0, rfl, _⟩ := O.out.f0
      obtain ⟨B1, d1, rfl, _⟩ := O.out.f1
      go_wp2
      generalize hw : World.setCell _ _ _ = w5
      replace O := Aside0.mk (O.out.p3.st2 hw); clear hw
      refine bodyPost_ret (results_cell_row rfl _ _ (w.heap.size + 1) 43 _ (0, 0) _ rfl O.out.b0 Try.underlying43 rfl (by kernel_rfl)) rfl ?_
      exact HQ.out _ _ (disk_own O.out.drop.only2)
  · replace HB : Aside0 (Bk = zeroB) := ⟨by rw [HB.out]; unfold pageB; rw [if_neg (by omega)]⟩
    rw [← HB.out] at O
    go_upto_region 5 with (fail)
    have HC9 := Aside0.mk O.out.c0
    have hl9 : Bk.length = 64 := HPut.out.2.2.2.1
    have P9 : Aside0 (Calls Try.prog 54 #[.agg #[.slice A0 bs.length c0, .slice A1 ws.length c1], .int .i64 (k + 1), .slice (some ⟨g, 0, none⟩) 64 64] w2 (GotDisk w2 bs (ws ++ [⟨k + 1, Bk⟩]))) := ⟨by
      have h := implPut_yes A0 A1 (some ⟨g, 0, none⟩) c0 c1 64 bs ws (k + 1) Bk w2 (Kd.C_below HX.out O.out.bel) (Kd.C_below HY.out O.out.bel) HC9.out HPut.out
      rw [hl9] at h
      exact h⟩
    clear hl9
    have p0 := (blk_cell O.out.b2 0).trans rfl; have p1 := (blk_cell O.out.b2 1).trans rfl
    go_wp2_with fail
    refine P9.out.mono ?_
    intro e w4 hg
    rw [← HW1.out] at hg
    obtain ⟨v0, v1, rfl, k2⟩ := own_disk hg
    replace O := Aside0.mk (O.out.app2 k2); clear k2 hg p0 p1
    have u0 := (blk_cell O.out.b3 0).trans rfl; have u1 := (blk_cell O.out.b3 1).trans rfl
    have z0 := blk_frozen O.out.b3 0; have z1 := blk_frozen O.out.b3 1
    obtain ⟨B0, d0, rfl, _⟩ := O.out.f0
    obtain ⟨B1, d1, rfl, _⟩ := O.out.f1
    go_wp2
    generalize hw : World.setCell _ _ _ = w5
    replace O := Aside0.mk (O.out.p3.st2 hw); clear hw
    refine bodyPost_ret (results_cell_row rfl _ _ (w.heap.size + 1) 43 _ (0, 0) _ rfl O.out.b0 Try.underlying43 rfl (by kernel_rfl)) rfl ?_
    exact HQ.out _ _ (disk_own O.out.drop.only2)
end Go.Proofs.Ytocdlibnmlcokaa
namespace Go.Proofs.Ytocdlibnmlcokaa
open Go.RowKit Go.Proofs.YtocdlibnmlcokaaW.PrintWords Go.Proofs.YtocdlibnmlcokaaW.PrintLast
set_option linter.unusedVariables false
set_option linter.unusedSimpArgs false
end Go.Proofs.Ytocdlibnmlcokaa
namespace Go.Proofs.Ytocdlibnmlcokaa
open Go.RowKit Go.Proofs.YtocdlibnmlcokaaW.PrintWords Go.Proofs.YtocdlibnmlcokaaW.PrintLast
set_option linter.unusedVariables false
set_option linter.unusedSimpArgs false
structure Opn where
  ok : Bool
  lg : Lg
  bs : List (List Int)
  ws : List Wr
def op0 : Opn := ⟨false, lg0, [], []⟩
def GotOp (o : Opn) (w : World) (e : Ending) (w' : World) : Prop :=
  ∃ vn v0 v1, e = .returned (.agg #[.bool o.ok, .bool o.lg.ok, vn, .int .i64 o.lg.len, .int .i64 o.lg.gen, .int .i64 o.lg.safe, v0, v1]) ∧ Own w w' [Rs.row rN 33 vn o.lg.notes, Rs.row rBS 22 v0 o.bs, Rs.row rW 147 v1 o.ws]
def zerosW (i : Nat) : List Wr := (List.range i).map fun k : Nat => (⟨(k : Int) + 1, zeroB⟩ : Wr)
theorem zerosW_succ (i : Nat) : zerosW (i + 1) = zerosW i ++ [⟨(i : Int) + 1, zeroB⟩] := by simp [zerosW, List.range_succ]
theorem zerosW_len (i : Nat) : (zerosW i).length = i := by simp [zerosW]
def openWs (s : List (List Int)) : List Wr :=
  ⟨0, blockL (logGen s + 1) []⟩ :: (if logGen s = 0 then zerosW 127 else if (foundL s).2 / 56 + 1 < 128 then [⟨((foundL s).2 / 56 : Nat) + 1, pageB ((logBytes s).take (foundL s).2) ((foundL s).2 / 56) (logGen s + 1)⟩] else [])
def openS (s : List (List Int)) : Opn := if logGen s = 1000000000 then op0 else ⟨true, scanL (syncL s (openWs s)) [], syncL s (openWs s), []⟩
def openL (bs : List (List Int)) (ws : List Wr) : Opn := openS (syncL bs ws)
theorem zeroB_ok : BsOk zeroB := fun x hx => by rw [List.eq_of_mem_replicate hx]; omega
theorem pageB_ok {X : List Int} (h : BsOk X) (k : Nat) (gen : Int) : BsOk (pageB X k gen) := by
  unfold pageB
  split
  · exact block_ok (h.seg _ _) (seg_short X k)
  · exact zeroB_ok
def WrOk (x : Wr) : Prop := (0 ≤ x.block ∧ x.block < 128 ∧ x.bytes.length = 64) ∧ BsOk x.bytes
theorem dk_of {S : List (List Int)} {ws : List Wr} (h : BlOk S) (hl : ws.length ≤ 200) (hw : ∀ x ∈ ws, WrOk x) : DkOk S ws ∧ BkOk S ws :=
  ⟨⟨h.1, hl, fun b hb => (h.2 b hb).1, fun x hx => (hw x hx).1⟩, fun b hb => (h.2 b hb).2, fun x hx => (hw x hx).2⟩
theorem zerosW_ok (i : Nat) (hi : i ≤ 127) : ∀ x ∈ zerosW i, WrOk x := by
  intro x hx
  simp only [zerosW, List.mem_map, List.mem_range] at hx
  obtain ⟨k, hk, rfl⟩ := hx
  exact ⟨⟨by simp only []; omega, by simp only []; omega, by simp [zeroB]⟩, zeroB_ok⟩
theorem head_ok (gen : Int) : WrOk ⟨0, blockL gen []⟩ := ⟨⟨by simp, by simp, block_len (by simp)⟩, block_ok (fun x hx => by cases hx) (by simp)⟩
theorem openWs_ok {S : List (List Int)} (h : BlOk S) : DkOk S (openWs S) ∧ BkOk S (openWs S) := by
  refine dk_of h ?_ ?_
  · unfold openWs
    split
    · rw [List.length_cons, zerosW_len]; omega
    · split <;> simp
  · unfold openWs
    intro x hx
    rcases List.mem_cons.1 hx with rfl | hx
    · exact head_ok _
    · split at hx
      · exact zerosW_ok 127 (by omega) x hx
      · split at hx
        · simp only [List.mem_singleton] at hx
          subst hx
          exact ⟨⟨by simp only []; omega, by simp only []; omega, pageB_len _ _ _⟩, pageB_ok (fun y hy => (logBytes_ok h).1 y (List.mem_of_mem_take hy)) _ _⟩
        · cases hx
theorem nilC (w : World) : kB.C w none 0 [] := (Rp.Row_C (Rp.Row_nil rB 5 w)).2.2
theorem logGen_range {bs : List (List Int)} : 0 ≤ logGen bs ∧ logGen bs ≤ 1000000000 := by
  unfold logGen
  split
  · next h => have := h.1.2.2.1; unfold PgOk at this; omega
  · omega
theorem Own.st8 {w0 w w1 : World} {L : List Rs} {g t : Nat} {a b c d e f i j x y z u v r s q : Value} (h : Own w0 w (Rs.box g t #[a, b, c, d, e, f, i, j] :: L))
    (hw : (((((((w.setCell ⟨g, 0, none⟩ x).setCell ⟨g, 1, none⟩ y).setCell ⟨g, 2, none⟩ z).setCell ⟨g, 3, none⟩ u).setCell ⟨g, 4, none⟩ v).setCell ⟨g, 5, none⟩ r).setCell ⟨g, 6, none⟩ s).setCell ⟨g, 7, none⟩ q = w1) : Own w0 w1 (Rs.box g t #[x, y, z, u, v, r, s, q] :: L) :=
  hw ▸ (Own.st (j := 7) (u := q) (Own.st (j := 6) (u := s) (Own.st (j := 5) (u := r) (Own.st (j := 4) (u := v) (Own.st (j := 3) (u := u) (Own.st (j := 2) (u := z) (Own.st (j := 1) (u := y) (Own.st (j := 0) (u := x) h rfl #[x, b, c, d, e, f, i, j] rfl) rfl #[x, y, c, d, e, f, i, j] rfl) rfl #[x, y, z, d, e, f, i, j] rfl) rfl #[x, y, z, u, e, f, i, j] rfl) rfl #[x, y, z, u, v, f, i, j] rfl) rfl #[x, y, z, u, v, r, i, j] rfl) rfl #[x, y, z, u, v, r, s, j] rfl) rfl #[x, y, z, u, v, r, s, q] rfl)
abbrev zero8 : Array Value := #[.bool false, .bool false, .slice none 0 0, .int .i64 0, .int .i64 0, .int .i64 0, .slice none 0 0, .slice none 0 0]
set_option maxHeartbeats 8000000 in
set_option maxRecDepth 100000 in
theorem implOpen_yes (A0 A1 : Option Addr) (c0 c1 : Nat) (bs : List (List Int)) (ws : List Wr) (w : World) (hx : rBS.d.C w A0 bs.length bs) (hy : rW.d.C w A1 ws.length ws) (hd : DkOk bs ws) (hk : BkOk bs ws) :
    Calls Try.prog 37 #[.agg #[.slice A0 bs.length c0, .slice A1 ws.length c1]] w (GotOp (openL bs ws) w) := by
  obtain ⟨S, hS⟩ : ∃ S, S = settleL bs ws (kfL true []) := ⟨_, rfl⟩
  obtain ⟨N, hN⟩ : ∃ N, N = (foundL S).1 := ⟨_, rfl⟩
  obtain ⟨L, hL⟩ : ∃ L, L = (foundL S).2 := ⟨_, rfl⟩
  obtain ⟨Y, hY⟩ : ∃ Y, Y = (logBytes S).take L := ⟨_, rfl⟩
  obtain ⟨G, hG⟩ : ∃ G, G = logGen S := ⟨_, rfl⟩
  have hSok : BlOk S := hS ▸ sync_ok hd hk
  have hLb := logBytes_ok hSok
  have hLl : L ≤ 7112 ∧ Y.length = L := by
    have h2 := frames_len (logBytes S).length (logBytes S) hLb.1
    rw [hY, List.length_take, hL]; unfold foundL framesL; omega
  have hGr : 0 ≤ G ∧ G ≤ 1000000000 := hG ▸ logGen_range
  suffices H : ∀ Q : Ending → World → Prop, (∀ e w', GotOp (openS S) w e w' → Q e w') → Calls Try.prog 37 #[.agg #[.slice A0 bs.length c0, .slice A1 ws.length c1]] w Q from H _ (fun e w' h => by unfold openL syncL; rw [← hS]; exact h)
  intro Q hQ
  have HS := Aside0.mk hS; have HN := Aside0.mk hN; have HL := Aside0.mk hL; have HYb := Aside0.mk hY; have HG := Aside0.mk hG; have HSok := Aside0.mk hSok; have HQ := Aside0.mk hQ
  have HLl := Aside0.mk hLl
  have HX := Aside0.mk hx; have HY := Aside0.mk hy; have HD := Aside0.mk hd; have HK := Aside0.mk hk; clear hx hy hd hS hN hL hY hG hSok hQ hLb hLl hk
  go_enter Try.func37, Try.ntmps37
  go_upto_region 1 with (fail)
  generalize hw : World.alloc (World.alloc w _) _ = w1
  have O := Aside0.mk ((Own.nil w).of2 hw); clear hw
  have p0 := (blk_cell O.out.b1 0).trans rfl; have p1 := (blk_cell O.out.b1 1).trans rfl
  go_wp2_with fail
  refine (implDiskOk_c _ _ _ _ bs ws true ⟨fun _ => HD.out, fun _ => rfl⟩ _ (Kd.C_below HX.out O.out.bel) (Kd.C_below HY.out O.out.bel)).mono ?_
  rintro e w2 ⟨rfl, hb⟩
  replace O := Aside0.mk (O.out.below hb)
  clear p0 p1 hb
  have p0 := (blk_cell O.out.b1 0).trans rfl; have p1 := (blk_cell O.out.b1 1).trans rfl
  go_wp2_with fail
  refine (implSync_yes _ _ _ _ bs ws _ (Kd.C_below HX.out O.out.bel) (Kd.C_below HY.out O.out.bel) HD.out).mono ?_
  intro e w3 hg
  rw [← HS.out] at hg
  obtain ⟨v0, v1, rfl, k⟩ := own_disk hg
  replace O := Aside0.mk (O.out.app2 k); clear k hg p0 p1
  obtain ⟨B0, d0, rfl, hb0⟩ := O.out.f0
  obtain ⟨B1, d1, rfl, _⟩ := O.out.f1
  have HB0 := Aside0.mk hb0; clear hb0
  have p0 := (blk_cell O.out.b3 0).trans rfl; have p1 := (blk_cell O.out.b3 1).trans rfl
  have z0 := blk_frozen O.out.b3 0; have z1 := blk_frozen O.out.b3 1
  go_upto_region 4 with (fail)
  generalize hw : World.setCell _ _ _ = w4
  replace O := Aside0.mk (O.out.p3.st2 hw); clear hw p0 p1 z0 z1
  have p0 := (blk_cell O.out.b0 0).trans rfl
  go_wp2_with fail
  refine (found_c _ _ S _ O.out.c1 HB0.out HSok.out).mono ?_
  intro e w5 hg
  rw [← HN.out, ← HL.out, ← HG.out, ← HYb.out] at hg
  obtain ⟨vn, vb, rfl, k⟩ := hg
  replace O := Aside0.mk (O.out.app2 k); clear k p0
  obtain ⟨An, cn, rfl, _⟩ := O.out.f0
  obtain ⟨Ab, cb, rfl, hcb⟩ := O.out.f1
  have HCB := Aside0.mk hcb; clear hcb
  go_upto_region 5 with (fail)
  generalize hw : w5.alloc _ = w6
  replace O := Aside0.mk (O.out.of hw); clear hw
  generalize w5.heap.size = g3 at O ⊢
  have q3 := (blk_cell O.out.b0 3).trans rfl
  by_cases hmax : G = 1000000000
  · obtain ⟨hmA, _⟩ := eqT hmax
    have HM := Aside0.mk hmax; clear hmax
    have u0 := (blk_cell O.out.b6 0).trans rfl; have u1 := (blk_cell O.out.b6 1).trans rfl; have u2 := (blk_cell O.out.b6 2).trans rfl; have u3 := (blk_cell O.out.b6 3).trans rfl; have u4 := (blk_cell O.out.b6 4).trans rfl; have u5 := (blk_cell O.out.b6 5).trans rfl; have u6 := (blk_cell O.out.b6 6).trans rfl; have u7 := (blk_cell O.out.b6 7).trans rfl
    have z0 := blk_frozen O.out.b6 0; have z1 := blk_frozen O.out.b6 1; have z2 := blk_frozen O.out.b6 2; have z3 := blk_frozen O.out.b6 3; have z4 := blk_frozen O.out.b6 4; have z5 := blk_frozen O.out.b6 5; have z6 := blk_frozen O.out.b6 6; have z7 := blk_frozen O.out.b6 7
    go_wp2
    generalize hw : World.setCell _ _ _ = w7
    replace O := Aside0.mk (O.out.p6.st8 hw); clear hw
    refine bodyPost_ret (results_cell_row rfl _ _ (w.heap.size + 1) 61 _ (0, 0) _ rfl O.out.b0 Try.underlying61 rfl (by kernel_rfl)) rfl ?_
    refine HQ.out _ _ ?_
    unfold openS
    rw [if_pos (by rw [← HG.out]; exact HM.out)]
    exact ⟨_, _, _, rfl, (((O.out.only []).nilRow rW 147).nilRow rBS 22).nilRow rN 33⟩
  · obtain ⟨hmA, _⟩ := eqF hmax
    have HM := Aside0.mk hmax; clear hmax
    have hg1 : 0 ≤ G := hGr.1
    have hg2 : G ≤ 1000000000 := hGr.2
    go_upto_region 8 with fail
    clear q3
    rename_i K8 hK8
    have HK8 := Aside0.mk hK8; clear hK8
    obtain ⟨P0, hP0⟩ : ∃ P, P = blockL (G + 1) [] := ⟨_, rfl⟩
    have hPl : P0.length = 64 := by rw [hP0]; exact block_len (by simp)
    have HP0 := Aside0.mk hP0; have HPl := Aside0.mk hPl; clear hP0 hPl
    have p0 := (blk_cell O.out.b3 0).trans rfl; have p1 := (blk_cell O.out.b3 1).trans rfl
    refine sta (fun w' => w'.cell? ⟨w.heap.size, 0, none⟩ = some (.slice B0 S.length d0) ∧ w'.cell? ⟨w.heap.size, 1, none⟩ = some (.slice B1 0 d1)) [5] 6 ⟨p0, p1⟩ (fun hS => ?_)
    clear p0 p1
    replace O := Aside0.mk O.out.drew
    generalize w6.drew = wd at O hS ⊢
    refine pu 1 2 ?_
    refine pu 2 6 ?_
    refine tk 0 7 hS ?_
    refine on 3 15 (fun K hK => ?_)
    refine ca (implPageBlock_yes none 0 (G + 1) [] _ (nilC _) ⟨rfl, by omega, by have := HM.out; omega, by simp⟩) Try.func110 ?_
    intro e w7 hg
    rw [← HP0.out] at hg
    obtain ⟨v, rfl, k⟩ := own_row hg
    replace O := Aside0.mk (O.out.app1 k); clear k hg
    obtain ⟨A9, c9, rfl, _⟩ := O.out.f0
    refine ⟨_, rfl, nx hK ⟨(blk_cell O.out.b4 0).trans rfl, (blk_cell O.out.b4 1).trans rfl⟩ (fun hS => ?_)⟩
    clear hK K
    refine on 4 31 (fun K hK => ?_)
    refine ca (implPut_yes _ _ _ _ _ _ S [] 0 P0 _ O.out.c5 O.out.c6 O.out.c0 ⟨⟨HSok.out.1, by simp, fun b hb => (HSok.out.2 b hb).1, by simp⟩, by omega, by omega, HPl.out, by simp⟩) Try.func54 ?_
    intro e w8 hg
    rw [List.nil_append] at hg
    obtain ⟨W1, hW1⟩ : ∃ W1, W1 = [(⟨0, P0⟩ : Wr)] := ⟨_, rfl⟩
    rw [← hW1] at hg
    have HW1 := Aside0.mk hW1; clear hW1
    obtain ⟨v0, v1, rfl, k⟩ := own_disk hg
    replace O := Aside0.mk (O.out.app2 k); clear k hg
    obtain ⟨D0, e0, rfl, _⟩ := O.out.f0
    obtain ⟨D1, e1, rfl, _⟩ := O.out.f1
    refine ⟨_, rfl, nx hK ⟨(blk_cell O.out.b6 0).trans rfl, (blk_cell O.out.b6 1).trans rfl⟩ (fun hS => ?_)⟩
    clear hK K hS
    have u0 := (blk_cell O.out.b6 0).trans rfl; have u1 := (blk_cell O.out.b6 1).trans rfl
    have z0 := blk_frozen O.out.b6 0; have z1 := blk_frozen O.out.b6 1
    refine la 5 63 (fun K hK => ?_)
    refine st ?_
    generalize hw : World.setCell _ _ _ = w9
    replace O := Aside0.mk ((O.out.p6.st2 hw).p3.drop.p6.drop.p6.drop.p4.drop); clear hw
    refine nl hK (dn ?_)
    clear hK K u0 u1 z0 z1
    refine HK8.out _ _ ?_
    clear HK8 K8
    go_step
    obtain ⟨W2, hW2⟩ : ∃ W2, W2 = openWs S := ⟨_, rfl⟩
    have HW2 := Aside0.mk hW2; clear hW2
    go_cut [] from 6 (fun wc => ∃ v0 v1, Aside0 (Own w wc [Rs.box w.heap.size 43 #[v0, v1], Rs.row rBS 22 v0 S, Rs.row rW 147 v1 W2, Rs.box (w.heap.size + 1) 61 zero8]))
    case first =>
      have q3 := (blk_cell O.out.b3 3).trans rfl
      by_cases hG0 : G = 0
      · obtain ⟨hm0, _⟩ := eqT hG0
        have HG0 := Aside0.mk hG0; clear hG0
        go_wp2
        replace HW2 : Aside0 (W2 = W1 ++ zerosW 127) := ⟨by rw [HW2.out, HW1.out]; unfold openWs; rw [if_pos (by rw [← HG.out]; exact HG0.out), HP0.out, HG.out]; rfl⟩
        have HWl : Aside0 (W1.length = 1) := ⟨by rw [HW1.out]; rfl⟩
        have HWo : Aside0 (∀ x ∈ W1, WrOk x) := ⟨by rw [HW1.out]; intro x hx; simp only [List.mem_singleton] at hx; subst hx; rw [HP0.out]; exact head_ok _⟩
        go_loopg [6] 128 (fun m v6 wr => ∃ (i : Nat) (v0 v1 : Value), v6 = .int .i64 ((i : Int) + 1) ∧ Aside0 (i ≤ 127 ∧ 127 - i < m) ∧ Aside0 (Own w wr [Rs.box w.heap.size 43 #[v0, v1], Rs.row rBS 22 v0 S, Rs.row rW 147 v1 (W1 ++ zerosW i), Rs.box (w.heap.size + 1) 61 zero8]))
        case atStart => exact ⟨0, _, _, rfl, ⟨by omega⟩, ⟨by have := O.out.p3.drop.p3.drop; simpa [zerosW] using this⟩⟩
        case round =>
          clear O
          obtain ⟨i, v0, v1, rfl, HI, O⟩ := hrel
          obtain ⟨U, hU⟩ : ∃ U, U = W1 ++ zerosW i := ⟨_, rfl⟩
          rw [← hU] at O
          have HU := Aside0.mk hU; clear hU
          obtain ⟨D0, e0, rfl, _⟩ := O.out.f1
          obtain ⟨D1, e1, rfl, _⟩ := O.out.f2
          by_cases hi : i < 127
          · go_upto_region 13 with fail
            have p0 := (blk_cell O.out.b0 0).trans rfl; have p1 := (blk_cell O.out.b0 1).trans rfl
            refine sta (fun w' => w'.cell? ⟨w.heap.size, 0, none⟩ = some (.slice D0 S.length e0) ∧ w'.cell? ⟨w.heap.size, 1, none⟩ = some (.slice D1 U.length e1)) [4] 5 ⟨p0, p1⟩ (fun hS => ?_)
            clear p0 p1
            replace O := Aside0.mk O.out.drew
            generalize wr.drew = wd at O hS ⊢
            refine pu 1 2 ?_
            refine tk 0 3 hS ?_
            refine on 2 7 (fun K hK => ?_)
            refine Own.mk_row_step rB rfl 22 5 _ _ rfl 64 rfl rfl Try.underlying22 (.int .u8 0) 1 info5 rfl (by decide) (by omega) 0 (fun _ => ⟨rfl, rfl⟩) (by omega) (by omega) O.out ?_
            intro g w2 hO
            clear O hS
            have O : Aside0 (Own w w2 [Rs.row rB 5 (.slice (some ⟨g, 0, none⟩) 64 64) zeroB, Rs.box w.heap.size 43 #[.slice D0 S.length e0, .slice D1 U.length e1], Rs.row rBS 22 (.slice D0 S.length e0) S, Rs.row rW 147 (.slice D1 U.length e1) U, Rs.box (w.heap.size + 1) 61 zero8]) := ⟨hO⟩
            clear hO
            refine nx hK ⟨(blk_cell O.out.b1 0).trans rfl, (blk_cell O.out.b1 1).trans rfl⟩ (fun hS => ?_)
            clear hK K
            obtain ⟨Z, hZ⟩ : ∃ Z, Z = zeroB := ⟨_, rfl⟩
            have hZl : Z.length = 64 := by rw [hZ]; simp [zeroB]
            rw [← hZ] at O
            have HZ := Aside0.mk hZ; clear hZ
            obtain ⟨V, hV⟩ : ∃ V, V = U ++ [⟨(i : Int) + 1, Z⟩] := ⟨_, rfl⟩
            have HP : Aside0 (Calls Try.prog 54 #[.agg #[.slice D0 S.length e0, .slice D1 U.length e1], .int .i64 ((i : Int) + 1), .slice (some ⟨g, 0, none⟩) 64 64] w2 (GotDisk w2 S V)) := ⟨by
              have hdk := dk_of (ws := U) HSok.out (by rw [HU.out, List.length_append, HWl.out, zerosW_len]; omega) (fun x hx => by
                rw [HU.out] at hx
                rcases List.mem_append.1 hx with h | h
                · exact HWo.out x h
                · exact zerosW_ok i (by omega) x h)
              have h := implPut_yes D0 D1 (some ⟨g, 0, none⟩) e0 e1 64 S U ((i : Int) + 1) Z w2 O.out.c2 O.out.c3 O.out.c0 ⟨hdk.1, by omega, by omega, hZl, by rw [HU.out, List.length_append, HWl.out, zerosW_len]; omega⟩
              rw [hZl, ← hV] at h
              exact h⟩
            have HV := Aside0.mk hV; clear hV hZl
            refine on 3 15 (fun K hK => ?_)
            refine ca HP.out Try.func54 ?_
            clear HP
            intro e w4 hg
            obtain ⟨v0, v1, rfl, k2⟩ := own_disk hg
            replace O := Aside0.mk (O.out.app2 k2); clear k2 hg
            obtain ⟨F0, h0, rfl, _⟩ := O.out.f0
            obtain ⟨F1, h1, rfl, _⟩ := O.out.f1
            refine ⟨_, rfl, nx hK ⟨(blk_cell O.out.b3 0).trans rfl, (blk_cell O.out.b3 1).trans rfl⟩ (fun hS => ?_)⟩
            clear hK K hS
            have u0 := (blk_cell O.out.b3 0).trans rfl; have u1 := (blk_cell O.out.b3 1).trans rfl
            have z0 := blk_frozen O.out.b3 0; have z1 := blk_frozen O.out.b3 1
            refine la 4 31 (fun K hK => ?_)
            refine st ?_
            generalize hw : World.setCell _ _ _ = w5
            replace O := Aside0.mk ((O.out.p3.st2 hw).p3.drop.p3.drop.p3.drop); clear hw
            refine nl hK (dn ?_)
            clear hK K u0 u1 z0 z1
            go_wp2
            go_roundg (gk - 1)
            case measure => have := HI.out; omega
            case rel =>
              refine ⟨i + 1, _, _, ?_, ⟨by have := HI.out; omega⟩, ⟨by rw [zerosW_succ, ← List.append_assoc, ← HU.out, ← HZ.out, ← HV.out]; exact O.out⟩⟩
              first | rfl | (congr 1; omega)
          · go_wp2
            go_meet
            case rel =>
              have e : i = 127 := by have := HI.out; omega
              subst e
              exact ⟨_, _, ⟨by rw [HW2.out, ← HU.out]; exact O.out⟩⟩
      · obtain ⟨hm0, _⟩ := eqF hG0
        have HG0 := Aside0.mk hG0; clear hG0
        have q2 := (blk_cell O.out.b3 2).trans rfl
        have hLr := HLl.out.1
        go_upto_region 15 with fail
        obtain ⟨kq, hkq⟩ : ∃ kq : Nat, kq = L / 56 := ⟨_, rfl⟩
        have e56 : ((L : Int) / 56) = (kq : Int) := by omega
        rw [e56]
        have hkr : kq ≤ 127 := by omega
        have HKQ := Aside0.mk hkq; clear hkq e56 q2 q3
        by_cases hk1 : (kq : Int) + 1 < 128
        · replace HW2 : Aside0 (W2 = W1 ++ [⟨(kq : Int) + 1, pageB Y kq (G + 1)⟩]) := ⟨by
            rw [HW2.out, HW1.out]; unfold openWs
            rw [if_neg (by rw [← HG.out]; exact HG0.out), ← HL.out, ← HKQ.out, if_pos (by omega), HP0.out, HG.out, HYb.out]; rfl⟩
          have hYl : Y.length ≤ 100000 := by have := HLl.out.2; omega
          have hg3 := HM.out
          have p0 := (blk_cell O.out.b0 0).trans rfl; have p1 := (blk_cell O.out.b0 1).trans rfl
          go_wp2_with fail
          refine (lay_c _ _ _ _ _ _ S W1 Y kq (G + 1) _ O.out.c1 O.out.c2 O.out.c4 HCB.out (dk_of HSok.out (by rw [HW1.out]; simp) (by rw [HW1.out]; intro x hx; simp only [List.mem_singleton] at hx; subst hx; rw [HP0.out]; exact head_ok _)).1 (by rw [HW1.out]; simp) (by omega) (by omega) (by omega) hYl).mono ?_
          intro e w10 hg
          rw [← HW2.out] at hg
          obtain ⟨v0, v1, rfl, k⟩ := own_disk hg
          replace O := Aside0.mk (O.out.app2 k); clear k hg p0 p1
          obtain ⟨F0, h0, rfl, _⟩ := O.out.f0
          obtain ⟨F1, h1, rfl, _⟩ := O.out.f1
          have u0 := (blk_cell O.out.b2 0).trans rfl; have u1 := (blk_cell O.out.b2 1).trans rfl
          have z0 := blk_frozen O.out.b2 0; have z1 := blk_frozen O.out.b2 1
          go_wp2
          generalize hw : World.setCell _ _ _ = w11
          replace O := Aside0.mk ((O.out.p2.st2 hw).p3.drop.p3.drop.p3.drop.p3.drop); clear hw
          go_meet
          case rel => exact ⟨_, _, O⟩
        · replace HW2 : Aside0 (W2 = W1) := ⟨by
            rw [HW2.out, HW1.out]; unfold openWs
            rw [if_neg (by rw [← HG.out]; exact HG0.out), ← HL.out, ← HKQ.out, if_neg (by omega), HP0.out, HG.out]⟩
          go_wp2
          go_meet
          case rel => exact ⟨_, _, ⟨by rw [HW2.out]; exact O.out.p3.drop.p3.drop⟩⟩
    case rest =>
      clear O
      obtain ⟨v0, v1, O⟩ := hcut
      obtain ⟨D0, e0, rfl, he0⟩ := O.out.f1
      obtain ⟨D1, e1, rfl, _⟩ := O.out.f2
      have hok := openWs_ok HSok.out
      rw [← HW2.out] at hok
      have HOK := Aside0.mk hok; clear hok
      obtain ⟨D, hD⟩ : ∃ D, D = settleL S W2 (kfL true []) := ⟨_, rfl⟩
      have HDD := Aside0.mk hD; clear hD
      have p0 := (blk_cell O.out.b0 0).trans rfl; have p1 := (blk_cell O.out.b0 1).trans rfl
      go_wp2_with fail
      refine (implSync_yes _ _ _ _ S W2 _ O.out.c1 O.out.c2 HOK.out.1).mono ?_
      intro e w7 hg
      rw [← HDD.out] at hg
      obtain ⟨v0, v1, rfl, k⟩ := own_disk hg
      replace O := Aside0.mk (O.out.app2 k); clear k hg p0 p1
      obtain ⟨F0, h0, rfl, hf0⟩ := O.out.f0
      obtain ⟨F1, h1, rfl, _⟩ := O.out.f1
      have HF0 := Aside0.mk hf0; clear hf0 he0
      have u0 := (blk_cell O.out.b2 0).trans rfl; have u1 := (blk_cell O.out.b2 1).trans rfl
      have z0 := blk_frozen O.out.b2 0; have z1 := blk_frozen O.out.b2 1
      go_upto_region 18 with fail
      generalize hw : World.setCell _ _ _ = w8
      replace O := Aside0.mk ((O.out.p2.st2 hw).p3.drop.p3.drop); clear hw u0 u1 z0 z1
      have HDok : Aside0 (DkOk D [] ∧ BkOk D []) := ⟨by have h := sync_ok HOK.out.1 HOK.out.2; exact dk_of (by rw [HDD.out]; exact h) (by simp) (fun x hx => by cases hx)⟩
      obtain ⟨R, hR⟩ : ∃ R, R = scanL D [] := ⟨_, rfl⟩
      have HR := Aside0.mk hR; clear hR
      have p0 := (blk_cell O.out.b0 0).trans rfl; have p1 := (blk_cell O.out.b0 1).trans rfl
      refine sta (fun w' => w'.cell? ⟨w.heap.size, 0, none⟩ = some (.slice F0 D.length h0) ∧ w'.cell? ⟨w.heap.size, 1, none⟩ = some (.slice F1 0 h1)) [4] 5 ⟨p0, p1⟩ (fun hS => ?_)
      clear p0 p1
      replace O := Aside0.mk O.out.drew
      generalize w8.drew = wd at O hS ⊢
      refine tk 0 1 hS ?_
      refine tk 2 5 hS ?_
      refine on 1 7 (fun K hK => ?_)
      refine ca (implScan_yes _ _ _ _ D [] _ O.out.c1 O.out.c2 HF0.out HDok.out.1 HDok.out.2) Try.func72 ?_
      intro e w9 hg
      rw [← HR.out] at hg
      obtain ⟨vn, rfl, k⟩ := hg
      replace O := Aside0.mk (O.out.app1 k); clear k
      obtain ⟨An, cn, rfl, _⟩ := O.out.f0
      refine ⟨_, rfl, nx hK ⟨(blk_cell O.out.b1 0).trans rfl, (blk_cell O.out.b1 1).trans rfl⟩ (fun hS => ?_)⟩
      clear hK K hS
      refine pu 3 15 ?_
      have u0 := (blk_cell O.out.b4 0).trans rfl; have u1 := (blk_cell O.out.b4 1).trans rfl; have u2 := (blk_cell O.out.b4 2).trans rfl; have u3 := (blk_cell O.out.b4 3).trans rfl; have u4 := (blk_cell O.out.b4 4).trans rfl; have u5 := (blk_cell O.out.b4 5).trans rfl; have u6 := (blk_cell O.out.b4 6).trans rfl; have u7 := (blk_cell O.out.b4 7).trans rfl
      have z0 := blk_frozen O.out.b4 0; have z1 := blk_frozen O.out.b4 1; have z2 := blk_frozen O.out.b4 2; have z3 := blk_frozen O.out.b4 3; have z4 := blk_frozen O.out.b4 4; have z5 := blk_frozen O.out.b4 5; have z6 := blk_frozen O.out.b4 6; have z7 := blk_frozen O.out.b4 7
      refine la 4 31 (fun K hK => ?_)
      refine st ?_
      generalize hw : World.setCell _ _ _ = w10
      replace O := Aside0.mk (O.out.p4.st8 hw); clear hw
      refine nl hK (dn ?_)
      clear hK K u0 u1 u2 u3 u4 u5 u6 u7 z0 z1 z2 z3 z4 z5 z6 z7
      go_wp2
      refine bodyPost_ret (results_cell_row rfl _ _ (w.heap.size + 1) 61 _ (0, 0) _ rfl O.out.b0 Try.underlying61 rfl (by kernel_rfl)) rfl ?_
      refine HQ.out _ _ ?_
      unfold openS
      rw [if_neg (by rw [← HG.out]; exact HM.out), ← HW2.out]
      unfold syncL
      rw [← HDD.out, ← HR.out]
      exact ⟨_, _, _, rfl, O.out.drop.p1.drop.only [_, _, _]⟩
end Go.Proofs.Ytocdlibnmlcokaa
namespace Go.Proofs.Ytocdlibnmlcokaa
open Go.RowKit Go.Proofs.YtocdlibnmlcokaaW.PrintWords Go.Proofs.YtocdlibnmlcokaaW.PrintLast
set_option linter.unusedVariables false
set_option linter.unusedSimpArgs false
theorem sync_nil (S : List (List Int)) : settleL S [] (kfL true []) = S := rfl
end Go.Proofs.Ytocdlibnmlcokaa
namespace Go.Proofs.Ytocdlibnmlcokaa
open Go.RowKit Go.Proofs.YtocdlibnmlcokaaW.PrintWords Go.Proofs.YtocdlibnmlcokaaW.PrintLast
attribute [local go_sem high] eqN33
set_option linter.unusedVariables false
set_option linter.unusedSimpArgs false
theorem eqTn {a b : Nat} (h : a = b) : (a == b) = true ∧ (a != b) = false := by simp [h]
theorem eqFn {a b : Nat} (h : ¬ a = b) : (a == b) = false ∧ (a != b) = true := by simp [h]
set_option maxHeartbeats 8000000 in
set_option maxRecDepth 100000 in
theorem sameLog_c (A B : Option Addr) (c d : Nat) (ok ok' : Bool) (xs ys : List Nt) (len len' gen gen' safe safe' : Int) (b : Bool) (hb : b = true ↔ (⟨ok, xs, len, gen, safe⟩ : Lg) = ⟨ok', ys, len', gen', safe'⟩) (w : World) (hx : rN.d.C w A xs.length xs) (hy : rN.d.C w B ys.length ys) :
    Calls Try.prog 150 #[.agg #[.bool ok, .slice A xs.length c, .int .i64 len, .int .i64 gen, .int .i64 safe], .agg #[.bool ok', .slice B ys.length d, .int .i64 len', .int .i64 gen', .int .i64 safe']] w (YesNo b w) := by
  have hlx : xs.length ≤ 9223372036854775807 := hx.2.1
  have hly : ys.length ≤ 9223372036854775807 := hy.2.1
  have HX := Aside0.mk hx; have HY := Aside0.mk hy; have HBB := Aside0.mk hb; clear hx hy hb
  go_enter Try.func150, Try.ntmps150
  go_upto_region 1 with (fail)
  generalize hw : World.alloc (World.alloc w _) _ = w1
  have O := Aside0.mk ((Own.nil w).of2 hw); clear hw
  have p0 := (blk_cell O.out.b1 0).trans rfl; have p1 := (blk_cell O.out.b1 1).trans rfl; have p2 := (blk_cell O.out.b1 2).trans rfl; have p3 := (blk_cell O.out.b1 3).trans rfl; have p4 := (blk_cell O.out.b1 4).trans rfl
  have q0 := (blk_cell O.out.b0 0).trans rfl; have q1 := (blk_cell O.out.b0 1).trans rfl; have q2 := (blk_cell O.out.b0 2).trans rfl; have q3 := (blk_cell O.out.b0 3).trans rfl; have q4 := (blk_cell O.out.b0 4).trans rfl
  have no : ∀ (P : Prop), ¬ P → (∀ h : (⟨ok, xs, len, gen, safe⟩ : Lg) = ⟨ok', ys, len', gen', safe'⟩, P) → Aside0 (b = false) := fun P hn hp => ⟨not_b HBB.out (fun h => hn (hp h))⟩
  have NO := Aside0.mk no; clear no
  by_cases h0 : ok = ok'
  · subst h0
    have E0 : (ok != ok) = false := by cases ok <;> rfl
    by_cases h2 : len = len'
    · obtain ⟨_, E2⟩ := eqT h2
      by_cases h3 : gen = gen'
      · obtain ⟨_, E3⟩ := eqT h3
        by_cases h4 : safe = safe'
        · obtain ⟨_, E4⟩ := eqT h4
          by_cases h1 : xs.length = ys.length
          · obtain ⟨_, E1⟩ := eqTn h1
            have hiff : Aside0 (b = true ↔ xs = ys) := ⟨HBB.out.trans ⟨fun h => by injection h, fun h => by subst h; subst h2; subst h3; subst h4; rfl⟩⟩
            have H1 := Aside0.mk h1
            clear h1 h2 h3 h4 NO HBB
            go_wp2
            clear E0 E1 E2 E3 E4 p0 p1 p2 p3 p4 q0 q1 q2 q3 q4
            go_loopg [44] xs.length (fun m v wr => ∃ i : Nat, v = .int .i64 i ∧ Aside0 (i ≤ xs.length ∧ xs.length - i ≤ m ∧ xs.take i = ys.take i) ∧ Aside0 (Own w wr [Rs.box (w.heap.size + 1) 59 #[.bool ok, .slice B ys.length d, .int .i64 len', .int .i64 gen', .int .i64 safe'], Rs.box w.heap.size 59 #[.bool ok, .slice A xs.length c, .int .i64 len, .int .i64 gen, .int .i64 safe]]))
            case atStart => exact ⟨0, rfl, ⟨by simp⟩, O⟩
            case round =>
              clear O
              obtain ⟨i, rfl, HI, O⟩ := hrel
              by_cases hi : i < xs.length
              · have hi2 : i < ys.length := by have := H1.out; omega
                obtain ⟨ad, e1, a0, a1, a2, a3, a4⟩ := at_N (Kd.C_below HX.out O.out.bel) (i : Int) (by omega) (by omega)
                obtain ⟨ad', e2, b0, b1, b2, b3, b4⟩ := at_N (Kd.C_below HY.out O.out.bel) (i : Int) (by omega) (by omega)
                cases e1; cases e2
                simp only [Int.toNat_natCast] at a0 a1 a2 a3 a4 b0 b1 b2 b3 b4
                have p1 := (blk_cell O.out.b1 1).trans rfl; have q1 := (blk_cell O.out.b0 1).trans rfl
                go_wp2
                go_quiet (fail)
                clear a0 a1 a2 a3 a4 b0 b1 b2 b3 b4 p1 q1
                replace O := Aside0.mk (O.out.drewN nq)
                generalize wr.drewN nq = wd at O ⊢
                generalize hb : decide (gN xs ↑i = gN ys ↑i) = bb
                have HBQ := Aside0.mk hb; clear hb
                cases bb with
                | true =>
                  have he : xs[i] = ys[i] := by have := of_decide_eq_true HBQ.out; rwa [gN_eq (by omega), gN_eq (by omega)] at this
                  have HE := Aside0.mk he; clear he
                  go_wp2
                  go_roundg (gk - 1)
                  case measure => have := HI.out; omega
                  case rel => exact ⟨i + 1, by first | rfl | (congr 1; omega), ⟨by omega, by have := HI.out; omega, take_succ_eq (by omega) (by omega) HI.out.2.2 HE.out⟩, O⟩
                | false =>
                  have he : ¬ xs[i] = ys[i] := by have := of_decide_eq_false HBQ.out; rwa [gN_eq (by omega), gN_eq (by omega)] at this
                  have NB : Aside0 (b = false) := ⟨not_b hiff.out (fun h => he (by subst h; rfl))⟩
                  clear he
                  go_wp2
                  go_ret
                  exact ⟨by rw [NB.out]; rfl, O.out.bel⟩
              · go_wp2
                go_ret
                have hxy : xs = ys := by
                  have h2 := HI.out; have h3 := H1.out
                  have : xs.take xs.length = ys.take ys.length := by have e : i = xs.length := by omega
                                                                     rw [← h3, ← e]; exact h2.2.2
                  simpa using this
                exact ⟨by rw [hiff.out.2 hxy]; rfl, O.out.bel⟩
          · obtain ⟨_, E1⟩ := eqFn h1
            have NB := NO.out _ h1 (fun h => by injection h with _ h; rw [h])
            clear h1 h2 h3 h4 NO HBB
            go_wp2
            go_ret
            exact ⟨by rw [NB.out]; rfl, O.out.bel⟩
        · obtain ⟨_, E4⟩ := eqF h4
          have NB := NO.out _ h4 (fun h => by injection h)
          clear h2 h3 h4 NO HBB
          go_wp2
          go_ret
          exact ⟨by rw [NB.out]; rfl, O.out.bel⟩
      · obtain ⟨_, E3⟩ := eqF h3
        have NB := NO.out _ h3 (fun h => by injection h)
        clear h2 h3 NO HBB
        go_wp2
        go_ret
        exact ⟨by rw [NB.out]; rfl, O.out.bel⟩
    · obtain ⟨_, E2⟩ := eqF h2
      have NB := NO.out _ h2 (fun h => by injection h)
      clear h2 NO HBB
      go_wp2
      go_ret
      exact ⟨by rw [NB.out]; rfl, O.out.bel⟩
  · have NB := NO.out _ h0 (fun h => by injection h)
    clear NO HBB
    cases ok <;> cases ok' <;> first
      | exact absurd rfl h0
      | (clear h0; go_wp2; go_ret; exact ⟨by rw [NB.out]; rfl, O.out.bel⟩)
end Go.Proofs.Ytocdlibnmlcokaa
namespace Go.Proofs.Ytocdlibnmlcokaa
open Go.RowKit Go.Proofs.YtocdlibnmlcokaaW.PrintWords Go.Proofs.YtocdlibnmlcokaaW.PrintLast
set_option linter.unusedVariables false
set_option linter.unusedSimpArgs false
def RightP (o : Opn) : Prop := o.ok = true ∧ DkOk o.bs o.ws ∧ o.lg = scanL o.bs o.ws ∧ o.lg.gen ≠ 0
set_option maxHeartbeats 8000000 in
set_option maxRecDepth 100000 in
theorem right_c (An A0 A1 : Option Addr) (cn c0 c1 : Nat) (ok lok : Bool) (notes : List Nt) (len gen safe : Int) (bs : List (List Int)) (ws : List Wr) (b : Bool) (hb : b = true ↔ RightP ⟨ok, ⟨lok, notes, len, gen, safe⟩, bs, ws⟩) (w : World)
    (hn : rN.d.C w An notes.length notes) (hx : rBS.d.C w A0 bs.length bs) (hy : rW.d.C w A1 ws.length ws) (hc : bs.length ≤ c0) (hk : BkOk bs ws) :
    Calls Try.prog 112 #[.agg #[.bool ok, .bool lok, .slice An notes.length cn, .int .i64 len, .int .i64 gen, .int .i64 safe, .slice A0 bs.length c0, .slice A1 ws.length c1]] w (YesNo b w) := by
  have HNN := Aside0.mk hn; have HX := Aside0.mk hx; have HY := Aside0.mk hy; have HBB := Aside0.mk hb; have HC := Aside0.mk hc; have HK0 := Aside0.mk hk; clear hn hx hy hb hc hk
  go_enter Try.func112, Try.ntmps112
  go_upto_region 1 with (fail)
  generalize hw : World.alloc w _ = w1
  have O := Aside0.mk ((Own.nil w).of hw); clear hw
  have p0 := (blk_cell O.out.b0 0).trans rfl; have p1 := (blk_cell O.out.b0 1).trans rfl; have p2 := (blk_cell O.out.b0 2).trans rfl; have p3 := (blk_cell O.out.b0 3).trans rfl; have p4 := (blk_cell O.out.b0 4).trans rfl; have p5 := (blk_cell O.out.b0 5).trans rfl; have p6 := (blk_cell O.out.b0 6).trans rfl; have p7 := (blk_cell O.out.b0 7).trans rfl
  refine sta (fun w' => w'.cell? ⟨w.heap.size, 0, none⟩ = some (.bool ok) ∧ w'.cell? ⟨w.heap.size, 1, none⟩ = some (.bool lok) ∧ w'.cell? ⟨w.heap.size, 2, none⟩ = some (.slice An notes.length cn) ∧ w'.cell? ⟨w.heap.size, 3, none⟩ = some (.int .i64 len) ∧ w'.cell? ⟨w.heap.size, 4, none⟩ = some (.int .i64 gen) ∧ w'.cell? ⟨w.heap.size, 5, none⟩ = some (.int .i64 safe) ∧ w'.cell? ⟨w.heap.size, 6, none⟩ = some (.slice A0 bs.length c0) ∧ w'.cell? ⟨w.heap.size, 7, none⟩ = some (.slice A1 ws.length c1)) [] 22 ⟨p0, p1, p2, p3, p4, p5, p6, p7⟩ (fun hS => ?_)
  clear p0 p1 p2 p3 p4 p5 p6 p7
  replace O := Aside0.mk O.out.drew
  generalize w1.drew = wd at O hS ⊢
  have SAgain : ∀ {w2 : World} {L : List Rs}, Own w w2 (Rs.box w.heap.size 61 #[.bool ok, .bool lok, .slice An notes.length cn, .int .i64 len, .int .i64 gen, .int .i64 safe, .slice A0 bs.length c0, .slice A1 ws.length c1] :: L) → w2.cell? ⟨w.heap.size, 0, none⟩ = some (.bool ok) ∧ w2.cell? ⟨w.heap.size, 1, none⟩ = some (.bool lok) ∧ w2.cell? ⟨w.heap.size, 2, none⟩ = some (.slice An notes.length cn) ∧ w2.cell? ⟨w.heap.size, 3, none⟩ = some (.int .i64 len) ∧ w2.cell? ⟨w.heap.size, 4, none⟩ = some (.int .i64 gen) ∧ w2.cell? ⟨w.heap.size, 5, none⟩ = some (.int .i64 safe) ∧ w2.cell? ⟨w.heap.size, 6, none⟩ = some (.slice A0 bs.length c0) ∧ w2.cell? ⟨w.heap.size, 7, none⟩ = some (.slice A1 ws.length c1) :=
    fun h => ⟨(blk_cell h.b0 0).trans rfl, (blk_cell h.b0 1).trans rfl, (blk_cell h.b0 2).trans rfl, (blk_cell h.b0 3).trans rfl, (blk_cell h.b0 4).trans rfl, (blk_cell h.b0 5).trans rfl, (blk_cell h.b0 6).trans rfl, (blk_cell h.b0 7).trans rfl⟩
  have SA := Aside0.mk @SAgain; clear SAgain
  refine pu 0 1 ?_
  refine tk 1 3 hS ?_
  refine pu 2 7 ?_
  cases ok with
  | false =>
    have NB : Aside0 (b = false) := ⟨not_b HBB.out (fun h => by cases h.1)⟩
    refine po 3 15 ?_
    refine po 4 31 ?_
    refine po 5 63 ?_
    refine pu 6 127 ?_
    refine pu 7 255 ?_
    refine po 8 511 ?_
    refine po 9 1023 ?_
    refine po 10 2047 ?_
    refine po 11 4095 ?_
    refine po 12 8191 ?_
    refine po 13 16383 ?_
    refine pu 14 32767 ?_
    refine pu 15 65535 ?_
    refine po 16 131071 ?_
    refine po 17 262143 ?_
    refine po 18 524287 ?_
    refine po 19 1048575 ?_
    refine pu 20 2097151 ?_
    refine pu 21 4194303 ?_
    refine dn ?_
    clear hS
    go_wp2
    go_ret
    exact ⟨by rw [NB.out]; rfl, O.out.bel⟩
  | true =>
    refine pu 3 15 ?_
    refine tk 4 31 hS ?_
    by_cases hd : DkOk bs ws
    · refine on 5 63 (fun K hK => ?_)
      refine ca (implDiskOk_c _ _ _ _ bs ws true ⟨fun _ => hd, fun _ => rfl⟩ _ (Kd.C_below HX.out O.out.bel) (Kd.C_below HY.out O.out.bel)) Try.func108 ?_
      rintro e w2 ⟨rfl, hb⟩
      replace O := Aside0.mk (O.out.below hb); clear hb
      refine ⟨_, rfl, nx hK (SA.out O.out) (fun hS => ?_)⟩
      clear hK K
      refine pu 6 127 ?_
      refine pu 7 255 ?_
      refine pu 8 511 ?_
      refine tk 9 1023 hS ?_
      refine pu 10 2047 ?_
      refine tk 11 4095 hS ?_
      obtain ⟨R, hR⟩ : ∃ R, R = scanL bs ws := ⟨_, rfl⟩
      refine on 12 8191 (fun K hK => ?_)
      refine ca (implScan_yes _ _ _ _ bs ws _ (Kd.C_below HX.out O.out.bel) (Kd.C_below HY.out O.out.bel) HC.out hd HK0.out) Try.func72 ?_
      intro e w3 hg
      rw [← hR] at hg
      obtain ⟨vn, rfl, k⟩ := hg
      replace O := Aside0.mk ((O.out.app1 k).p1); clear k
      obtain ⟨Am, cm, rfl, _⟩ := O.out.f1
      refine ⟨_, rfl, nx hK (SA.out O.out) (fun hS => ?_)⟩
      clear hK K
      refine on 13 16383 (fun K hK => ?_)
      by_cases hs : (⟨lok, notes, len, gen, safe⟩ : Lg) = R
      · refine ca (sameLog_c _ _ _ _ _ _ _ _ _ _ _ _ _ _ true ⟨fun _ => hs, fun _ => rfl⟩ _ (Kd.C_below HNN.out O.out.bel) O.out.c1) Try.func150 ?_
        rintro e w4 ⟨rfl, hb⟩
        replace O := Aside0.mk (O.out.below hb); clear hb
        refine ⟨_, rfl, nx hK (SA.out O.out) (fun hS => ?_)⟩
        clear hK K
        refine pu 14 32767 ?_
        refine pu 15 65535 ?_
        refine pu 16 131071 ?_
        refine pu 17 262143 ?_
        refine tk 18 524287 hS ?_
        refine pu 19 1048575 ?_
        refine pu 20 2097151 ?_
        refine pu 21 4194303 ?_
        refine dn ?_
        clear hS
        have e : (gen != 0) = b := yn b _ _ HBB.out ⟨fun h => ⟨rfl, hd, hs.trans hR, by simpa using h⟩, fun h => by simpa using h.2.2.2⟩
        have HE := Aside0.mk e; clear e
        go_wp2
        go_ret
        exact ⟨congrArg (fun x => Ending.returned (Value.bool x)) HE.out, O.out.bel⟩
      · refine ca (sameLog_c _ _ _ _ _ _ _ _ _ _ _ _ _ _ false ⟨fun h => (by cases h), fun h => absurd h hs⟩ _ (Kd.C_below HNN.out O.out.bel) O.out.c1) Try.func150 ?_
        rintro e w4 ⟨rfl, hb⟩
        replace O := Aside0.mk (O.out.below hb); clear hb
        refine ⟨_, rfl, nx hK (SA.out O.out) (fun hS => ?_)⟩
        clear hK K
        have NB : Aside0 (b = false) := ⟨not_b HBB.out (fun h => hs (by rw [hR]; exact h.2.2.1))⟩
        refine pu 14 32767 ?_
        refine pu 15 65535 ?_
        refine po 16 131071 ?_
        refine po 17 262143 ?_
        refine po 18 524287 ?_
        refine po 19 1048575 ?_
        refine pu 20 2097151 ?_
        refine pu 21 4194303 ?_
        refine dn ?_
        clear hS
        go_wp2
        go_ret
        exact ⟨by rw [NB.out]; rfl, O.out.bel⟩
    · have NB : Aside0 (b = false) := ⟨not_b HBB.out (fun h => hd h.2.1)⟩
      refine on 5 63 (fun K hK => ?_)
      refine ca (implDiskOk_c _ _ _ _ bs ws false ⟨fun h => (by cases h), fun h => absurd h hd⟩ _ (Kd.C_below HX.out O.out.bel) (Kd.C_below HY.out O.out.bel)) Try.func108 ?_
      rintro e w2 ⟨rfl, hb⟩
      replace O := Aside0.mk (O.out.below hb); clear hb
      refine ⟨_, rfl, nx hK (SA.out O.out) (fun hS => ?_)⟩
      clear hK K
      refine pu 6 127 ?_
      refine pu 7 255 ?_
      refine po 8 511 ?_
      refine po 9 1023 ?_
      refine po 10 2047 ?_
      refine po 11 4095 ?_
      refine po 12 8191 ?_
      refine po 13 16383 ?_
      refine pu 14 32767 ?_
      refine pu 15 65535 ?_
      refine po 16 131071 ?_
      refine po 17 262143 ?_
      refine po 18 524287 ?_
      refine po 19 1048575 ?_
      refine pu 20 2097151 ?_
      refine pu 21 4194303 ?_
      refine dn ?_
      clear hS
      go_wp2
      go_ret
      exact ⟨by rw [NB.out]; rfl, O.out.bel⟩
end Go.Proofs.Ytocdlibnmlcokaa
namespace Go.Proofs.Ytocdlibnmlcokaa
open Go.RowKit Go.Proofs.YtocdlibnmlcokaaW.PrintWords Go.Proofs.YtocdlibnmlcokaaW.PrintLast
set_option linter.unusedVariables false
set_option linter.unusedSimpArgs false
def commitS (d : List (List Int)) : Opn := ⟨true, scanL d [], d, []⟩
set_option maxHeartbeats 4000000 in
set_option maxRecDepth 100000 in
theorem implCommit_yes (An A0 A1 : Option Addr) (cn c0 c1 : Nat) (ok lok : Bool) (notes : List Nt) (len gen safe : Int) (bs : List (List Int)) (ws : List Wr) (w : World)
    (hn : rN.d.C w An notes.length notes) (hx : rBS.d.C w A0 bs.length bs) (hy : rW.d.C w A1 ws.length ws) (hc : bs.length ≤ c0) (hk : BkOk bs ws) (hr : RightP ⟨ok, ⟨lok, notes, len, gen, safe⟩, bs, ws⟩) :
    Calls Try.prog 40 #[.agg #[.bool ok, .bool lok, .slice An notes.length cn, .int .i64 len, .int .i64 gen, .int .i64 safe, .slice A0 bs.length c0, .slice A1 ws.length c1]] w (GotOp (commitS (syncL bs ws)) w) := by
  obtain ⟨D, hD⟩ : ∃ D, D = settleL bs ws (kfL true []) := ⟨_, rfl⟩
  have hDb : BlOk D := hD ▸ sync_ok hr.2.1 hk
  suffices H : ∀ Q : Ending → World → Prop, (∀ e w', GotOp (commitS D) w e w' → Q e w') → Calls Try.prog 40 #[.agg #[.bool ok, .bool lok, .slice An notes.length cn, .int .i64 len, .int .i64 gen, .int .i64 safe, .slice A0 bs.length c0, .slice A1 ws.length c1]] w Q from H _ (fun e w' h => by unfold syncL; rw [← hD]; exact h)
  intro Q hQ
  have HDD := Aside0.mk hD; have HDb := Aside0.mk hDb; have HQ := Aside0.mk hQ; clear hD hDb hQ
  have HNN := Aside0.mk hn; have HX := Aside0.mk hx; have HY := Aside0.mk hy; have HC := Aside0.mk hc; have HK0 := Aside0.mk hk; have HR := Aside0.mk hr; clear hn hx hy hc hk hr
  go_enter Try.func40, Try.ntmps40
  go_upto_region 1 with (fail)
  generalize hw : World.alloc (World.alloc w _) _ = w1
  have O := Aside0.mk ((Own.nil w).of2 hw); clear hw
  have p0 := (blk_cell O.out.b1 0).trans rfl; have p1 := (blk_cell O.out.b1 1).trans rfl; have p2 := (blk_cell O.out.b1 2).trans rfl; have p3 := (blk_cell O.out.b1 3).trans rfl; have p4 := (blk_cell O.out.b1 4).trans rfl; have p5 := (blk_cell O.out.b1 5).trans rfl; have p6 := (blk_cell O.out.b1 6).trans rfl; have p7 := (blk_cell O.out.b1 7).trans rfl
  go_wp2_with fail
  refine (right_c _ _ _ _ _ _ _ _ _ _ _ _ _ _ true ⟨fun _ => HR.out, fun _ => rfl⟩ _ (Kd.C_below HNN.out O.out.bel) (Kd.C_below HX.out O.out.bel) (Kd.C_below HY.out O.out.bel) HC.out HK0.out).mono ?_
  rintro e w2 ⟨rfl, hb⟩
  replace O := Aside0.mk (O.out.below hb)
  clear p0 p1 p2 p3 p4 p5 p6 p7 hb
  have p6 := (blk_cell O.out.b1 6).trans rfl; have p7 := (blk_cell O.out.b1 7).trans rfl
  go_wp2_with fail
  refine (implSync_yes _ _ _ _ bs ws _ (Kd.C_below HX.out O.out.bel) (Kd.C_below HY.out O.out.bel) HR.out.2.1).mono ?_
  intro e w7 hg
  rw [← HDD.out] at hg
  obtain ⟨v0, v1, rfl, k⟩ := own_disk hg
  replace O := Aside0.mk (O.out.app2 k); clear k hg p6 p7
  obtain ⟨F0, h0, rfl, hf0⟩ := O.out.f0
  obtain ⟨F1, h1, rfl, _⟩ := O.out.f1
  have HF0 := Aside0.mk hf0; clear hf0
  go_upto_region 4 with fail
  generalize hw : w7.alloc _ = w8
  replace O := Aside0.mk (O.out.of hw); clear hw
  generalize w7.heap.size = g3 at O ⊢
  have HDok : Aside0 (DkOk D [] ∧ BkOk D []) := ⟨dk_of HDb.out (by simp) (fun x hx => by cases hx)⟩
  obtain ⟨R, hR⟩ : ∃ R, R = scanL D [] := ⟨_, rfl⟩
  have HRR := Aside0.mk hR; clear hR
  have p0 := (blk_cell O.out.b0 0).trans rfl; have p1 := (blk_cell O.out.b0 1).trans rfl
  refine sta (fun w' => w'.cell? ⟨g3, 0, none⟩ = some (.slice F0 D.length h0) ∧ w'.cell? ⟨g3, 1, none⟩ = some (.slice F1 0 h1)) [4] 5 ⟨p0, p1⟩ (fun hS => ?_)
  clear p0 p1
  replace O := Aside0.mk O.out.drew
  generalize w8.drew = wd at O hS ⊢
  refine tk 0 1 hS ?_
  refine tk 2 5 hS ?_
  refine on 1 7 (fun K hK => ?_)
  refine ca (implScan_yes _ _ _ _ D [] _ O.out.c1 O.out.c2 HF0.out HDok.out.1 HDok.out.2) Try.func72 ?_
  intro e w9 hg
  rw [← HRR.out] at hg
  obtain ⟨vn, rfl, k⟩ := hg
  replace O := Aside0.mk (O.out.app1 k); clear k
  obtain ⟨Bn, bn, rfl, _⟩ := O.out.f0
  refine ⟨_, rfl, nx hK ⟨(blk_cell O.out.b1 0).trans rfl, (blk_cell O.out.b1 1).trans rfl⟩ (fun hS => ?_)⟩
  clear hK K hS
  refine pu 3 15 ?_
  have u0 := (blk_cell O.out.b4 0).trans rfl; have u1 := (blk_cell O.out.b4 1).trans rfl; have u2 := (blk_cell O.out.b4 2).trans rfl; have u3 := (blk_cell O.out.b4 3).trans rfl; have u4 := (blk_cell O.out.b4 4).trans rfl; have u5 := (blk_cell O.out.b4 5).trans rfl; have u6 := (blk_cell O.out.b4 6).trans rfl; have u7 := (blk_cell O.out.b4 7).trans rfl
  have z0 := blk_frozen O.out.b4 0; have z1 := blk_frozen O.out.b4 1; have z2 := blk_frozen O.out.b4 2; have z3 := blk_frozen O.out.b4 3; have z4 := blk_frozen O.out.b4 4; have z5 := blk_frozen O.out.b4 5; have z6 := blk_frozen O.out.b4 6; have z7 := blk_frozen O.out.b4 7
  refine la 4 31 (fun K hK => ?_)
  refine st ?_
  generalize hw : World.setCell _ _ _ = w10
  replace O := Aside0.mk (O.out.p4.st8 hw); clear hw
  refine nl hK (dn ?_)
  clear hK K u0 u1 u2 u3 u4 u5 u6 u7 z0 z1 z2 z3 z4 z5 z6 z7
  go_wp2
  refine bodyPost_ret (results_cell_row rfl _ _ (w.heap.size + 1) 61 _ (0, 0) _ rfl O.out.b0 Try.underlying61 rfl (by kernel_rfl)) rfl ?_
  refine HQ.out _ _ ?_
  unfold commitS
  rw [← HRR.out]
  exact ⟨_, _, _, rfl, O.out.drop.p1.drop.only [_, _, _]⟩
end Go.Proofs.Ytocdlibnmlcokaa
namespace Go.Proofs.Ytocdlibnmlcokaa
open Go.RowKit Go.Proofs.YtocdlibnmlcokaaW.PrintWords Go.Proofs.YtocdlibnmlcokaaW.PrintLast
set_option linter.unusedVariables false
set_option linter.unusedSimpArgs false
def pagesW (X : List Int) (gen : Int) (fr n : Nat) : List Wr := (List.range n).map fun i : Nat => (⟨((fr + i : Nat) : Int) + 1, pageB X (fr + i) gen⟩ : Wr)
theorem pagesW_succ (X : List Int) (gen : Int) (fr n : Nat) : pagesW X gen fr (n + 1) = pagesW X gen fr n ++ [⟨((fr + n : Nat) : Int) + 1, pageB X (fr + n) gen⟩] := by simp [pagesW, List.range_succ]
theorem pagesW_len (X : List Int) (gen : Int) (fr n : Nat) : (pagesW X gen fr n).length = n := by simp [pagesW]
theorem pagesW_ok {X : List Int} (h : BsOk X) (gen : Int) (fr n : Nat) (hn : fr + n ≤ 127) : ∀ x ∈ pagesW X gen fr n, WrOk x := by
  intro x hx
  simp only [pagesW, List.mem_map, List.mem_range] at hx
  obtain ⟨k, hk, rfl⟩ := hx
  exact ⟨⟨by simp only []; omega, by simp only []; omega, pageB_len _ _ _⟩, pageB_ok h _ _⟩
theorem strL_len (s : ByteArray) : (strL s).length = s.size := bytesOf_length s
theorem frameL_len (x : Nt) : (frameL x).length = 17 + x.text.size := by
  simp only [frameL, List.length_append, lowTo_len, List.length_cons, List.length_nil, strL_len]
theorem strL_ok (s : ByteArray) : BsOk (strL s) := by
  intro x hx
  simp only [strL, Go.Proofs.YtocdlibnmlcokaaW.PrintWords.bytesOf, List.mem_map] at hx
  obtain ⟨b, _, rfl⟩ := hx
  have := b.toNat_lt
  omega
theorem frameL_ok {x : Nt} (h : NtOk x) : BsOk (frameL x) := by
  have h1 := h.2.2.2; have h2 := h.2.1
  unfold frameL
  refine ((((BsOk.append ?_ (BsOk.low _ _)).append ?_).append (BsOk.low _ _)).append (BsOk.low _ _)).append (strL_ok _)
  · intro y hy
    simp only [List.mem_cons, List.not_mem_nil, or_false] at hy
    rcases hy with rfl | rfl <;> omega
  · intro y hy
    simp only [List.mem_cons, List.not_mem_nil, or_false] at hy
    subst hy; omega
def appX (bs : List (List Int)) (ws : List Wr) (x : Nt) : List Int := (logBytes (syncL bs ws)).take (foundL (syncL bs ws)).2 ++ frameL x
def appN (len n : Nat) : Nat := (n - 1) / 56 - len / 56 + 1
def appendO (bs : List (List Int)) (ws : List Wr) (x : Nt) : Opn :=
  if (appX bs ws x).length ≤ 7112 ∧ ws.length + appN (foundL (syncL bs ws)).2 (appX bs ws x).length ≤ 200 then
    ⟨true, scanL bs (ws ++ pagesW (appX bs ws x) (logGen (syncL bs ws)) ((foundL (syncL bs ws)).2 / 56) (appN (foundL (syncL bs ws)).2 (appX bs ws x).length)), bs, ws ++ pagesW (appX bs ws x) (logGen (syncL bs ws)) ((foundL (syncL bs ws)).2 / 56) (appN (foundL (syncL bs ws)).2 (appX bs ws x).length)⟩
  else op0
theorem take_found {S : List (List Int)} (h : BlOk S) : (foundL S).2 ≤ 7112 ∧ ((logBytes S).take (foundL S).2).length = (foundL S).2 := by
  have h1 := logBytes_ok h
  have h2 := frames_len (logBytes S).length (logBytes S) h1.1
  rw [List.length_take]; unfold foundL framesL; omega
theorem Own.empty {w0 w : World} {L : List Rs} (h : Own w0 w L) : Own w0 (w.alloc (.cells #[] 5)) (Rs.row rB 5 (.slice (some ⟨w.heap.size, 0, none⟩) 0 0) [] :: L) :=
  h.app1 (Own.one (R := Rs.row rB 5 (.slice (some ⟨w.heap.size, 0, none⟩) 0 0) []) (below_alloc (Below.refl _ _) _) (empty_row w) (by simp) (by simp))
end Go.Proofs.Ytocdlibnmlcokaa
namespace Go.Proofs.Ytocdlibnmlcokaa
open Go.RowKit Go.Proofs.YtocdlibnmlcokaaW.PrintWords Go.Proofs.YtocdlibnmlcokaaW.PrintLast
set_option linter.unusedVariables false
set_option linter.unusedSimpArgs false
set_option maxHeartbeats 8000000 in
set_option maxRecDepth 100000 in
theorem implAppend_yes (An A0 A1 : Option Addr) (cn c0 c1 : Nat) (ok lok : Bool) (notes : List Nt) (len gen safe : Int) (bs : List (List Int)) (ws : List Wr) (x : Nt) (w : World)
    (hn : rN.d.C w An notes.length notes) (hx : rBS.d.C w A0 bs.length bs) (hy : rW.d.C w A1 ws.length ws) (hc : bs.length ≤ c0) (hk : BkOk bs ws) (ht : x.text.size ≤ 9223372036854775807) (hr : RightP ⟨ok, ⟨lok, notes, len, gen, safe⟩, bs, ws⟩) (hno : NtOk x) :
    Calls Try.prog 39 #[.agg #[.bool ok, .bool lok, .slice An notes.length cn, .int .i64 len, .int .i64 gen, .int .i64 safe, .slice A0 bs.length c0, .slice A1 ws.length c1], vN x] w (GotOp (appendO bs ws x) w) := by
  obtain ⟨S, hS⟩ : ∃ S, S = settleL bs ws (kfL true []) := ⟨_, rfl⟩
  obtain ⟨N, hN⟩ : ∃ N, N = (foundL S).1 := ⟨_, rfl⟩
  obtain ⟨L, hL⟩ : ∃ L, L = (foundL S).2 := ⟨_, rfl⟩
  obtain ⟨Y, hY⟩ : ∃ Y, Y = (logBytes S).take L := ⟨_, rfl⟩
  obtain ⟨G, hG⟩ : ∃ G, G = logGen S := ⟨_, rfl⟩
  obtain ⟨F, hF⟩ : ∃ F, F = frameL x := ⟨_, rfl⟩
  obtain ⟨X, hX⟩ : ∃ X, X = Y ++ F := ⟨_, rfl⟩
  have hSok : BlOk S := hS ▸ sync_ok hr.2.1 hk
  have htf := take_found hSok
  rw [← hL, ← hY] at htf
  have hYl : Y.length = L := htf.2
  have hLl : L ≤ 7112 := htf.1
  have hFl : F.length = 17 + x.text.size := by rw [hF]; exact frameL_len x
  have ht2 : x.text.size ≤ 200 := hno.2.2.2
  have hXl : X.length = L + F.length := by rw [hX, List.length_append, hYl]
  have hXok : BsOk X := by rw [hX, hY, hF]; exact BsOk.append (fun y hy => (logBytes_ok hSok).1 y (List.mem_of_mem_take hy)) (frameL_ok hno)
  have hGr : 1 ≤ G ∧ G ≤ 1000000000 := by
    have h1 := @logGen_range S
    have h2 := hr.2.2.2
    rw [hr.2.2.1] at h2
    change logGen (syncL bs ws) ≠ 0 at h2
    unfold syncL at h2
    rw [← hS] at h2
    rw [hG]; omega
  obtain ⟨fr, hfr⟩ : ∃ fr : Nat, fr = L / 56 := ⟨_, rfl⟩
  obtain ⟨tt, hto⟩ : ∃ tt : Nat, tt = (X.length - 1) / 56 := ⟨_, rfl⟩
  obtain ⟨n, hn9⟩ : ∃ n : Nat, n = tt - fr + 1 := ⟨_, rfl⟩
  obtain ⟨V, hV⟩ : ∃ V, V = ws ++ pagesW X G fr n := ⟨_, rfl⟩
  have hle : fr ≤ tt := by omega
  have happ : appendO bs ws x = if X.length ≤ 7112 ∧ ws.length + n ≤ 200 then ⟨true, scanL bs V, bs, V⟩ else op0 := by
    unfold appendO appX appN syncL
    rw [← hS, ← hL, ← hY, ← hG, ← hF, ← hX, ← hfr, ← hto, ← hn9, ← hV]
  obtain ⟨R0, hR0⟩ : ∃ R0, R0 = appendO bs ws x := ⟨_, rfl⟩
  rw [← hR0]
  rw [← hR0] at happ
  suffices H : ∀ Q : Ending → World → Prop, (∀ e w', GotOp R0 w e w' → Q e w') → Calls Try.prog 39 #[.agg #[.bool ok, .bool lok, .slice An notes.length cn, .int .i64 len, .int .i64 gen, .int .i64 safe, .slice A0 bs.length c0, .slice A1 ws.length c1], vN x] w Q from H _ (fun e w' h => h)
  intro Q hQ
  have HAPP := Aside0.mk happ; have HS := Aside0.mk hS; have HN := Aside0.mk hN; have HL := Aside0.mk hL; have HYb := Aside0.mk hY; have HG := Aside0.mk hG; have HF := Aside0.mk hF; have HXe := Aside0.mk hX; have HSok := Aside0.mk hSok; have HXok := Aside0.mk hXok; have HFR := Aside0.mk hfr; have HTO := Aside0.mk hto; have HN9 := Aside0.mk hn9; have HV := Aside0.mk hV; have HLE := Aside0.mk hle
  have HYl := Aside0.mk hYl; have HFl := Aside0.mk hFl; have HXl := Aside0.mk hXl; have HQ := Aside0.mk hQ; have HR := Aside0.mk hr; have HNO := Aside0.mk hno; have HGr := Aside0.mk hGr
  clear happ hS hN hL hY hG hF hX hSok hXok hfr hto hn9 hV hQ hr hno hGr hR0 htf hYl hFl hXl hle
  have HNN := Aside0.mk hn; have HX := Aside0.mk hx; have HY := Aside0.mk hy; have HC := Aside0.mk hc; have HK0 := Aside0.mk hk; clear hn hx hy hc hk
  simp only [vN]
  go_enter Try.func39, Try.ntmps39
  go_upto_region 1 with (fail)
  generalize hw : World.alloc (World.alloc (World.alloc w _) _) _ = w1
  have O := Aside0.mk ((Own.nil w).of3 hw); clear hw
  have p0 := (blk_cell O.out.b2 0).trans rfl; have p1 := (blk_cell O.out.b2 1).trans rfl; have p2 := (blk_cell O.out.b2 2).trans rfl; have p3 := (blk_cell O.out.b2 3).trans rfl; have p4 := (blk_cell O.out.b2 4).trans rfl; have p5 := (blk_cell O.out.b2 5).trans rfl; have p6 := (blk_cell O.out.b2 6).trans rfl; have p7 := (blk_cell O.out.b2 7).trans rfl
  go_wp2_with fail
  refine (right_c _ _ _ _ _ _ _ _ _ _ _ _ _ _ true ⟨fun _ => HR.out, fun _ => rfl⟩ _ (Kd.C_below HNN.out O.out.bel) (Kd.C_below HX.out O.out.bel) (Kd.C_below HY.out O.out.bel) HC.out HK0.out).mono ?_
  rintro e w2 ⟨rfl, hb⟩
  replace O := Aside0.mk (O.out.below hb)
  clear p0 p1 p2 p3 p4 p5 p6 p7 hb
  have n0 := (blk_cell O.out.b1 0).trans rfl; have n1 := (blk_cell O.out.b1 1).trans rfl; have n2 := (blk_cell O.out.b1 2).trans rfl; have n3 := (blk_cell O.out.b1 3).trans rfl; have n4 := (blk_cell O.out.b1 4).trans rfl
  go_wp2_with fail
  refine (implNoteOk_c x true ⟨fun _ => HNO.out, fun _ => rfl⟩ _ ht).mono ?_
  rintro e w2 ⟨rfl, hb⟩
  replace O := Aside0.mk (O.out.below hb)
  clear n0 n1 n2 n3 n4 hb
  have p6 := (blk_cell O.out.b2 6).trans rfl; have p7 := (blk_cell O.out.b2 7).trans rfl
  go_wp2_with fail
  refine (implSeen_yes _ _ _ _ bs ws _ (Kd.C_below HX.out O.out.bel) (Kd.C_below HY.out O.out.bel) HR.out.2.1).mono ?_
  intro e w3 hg
  obtain ⟨v, rfl, k⟩ := own_row hg
  rw [← HS.out] at k
  replace O := Aside0.mk (O.out.app1 k); clear k hg p6 p7
  obtain ⟨As, cs, rfl, hcs⟩ := O.out.f0
  have HCS := Aside0.mk hcs; clear hcs
  go_wp2_with fail
  refine (found_c _ _ S _ O.out.c0 HCS.out HSok.out).mono ?_
  intro e w4 hg
  rw [← HN.out, ← HL.out, ← HG.out, ← HYb.out] at hg
  obtain ⟨vn, vb, rfl, k⟩ := hg
  replace O := Aside0.mk (O.out.app2 k); clear k
  obtain ⟨Bn, bn, rfl, _⟩ := O.out.f0
  replace O := Aside0.mk (O.out.drop.p1.drop)
  obtain ⟨Ab, cb, rfl, hcb⟩ := O.out.f0
  go_upto_region 4 with (fail)
  generalize hw : w4.alloc _ = w5
  replace O := Aside0.mk (O.out.of hw); clear hw
  generalize w4.heap.size = g5 at O ⊢
  have n0 := (blk_cell O.out.b3 0).trans rfl; have n1 := (blk_cell O.out.b3 1).trans rfl; have n2 := (blk_cell O.out.b3 2).trans rfl; have n3 := (blk_cell O.out.b3 3).trans rfl; have n4 := (blk_cell O.out.b3 4).trans rfl
  go_wp2_with fail
  refine (implFrame_yes x _ HNO.out).mono ?_
  intro e w6 hg
  rw [← HF.out] at hg
  obtain ⟨vf, rfl, k⟩ := own_row hg
  replace O := Aside0.mk (O.out.app1 k); clear k hg n0 n1 n2 n3 n4
  obtain ⟨Af, cf, rfl, _⟩ := O.out.f0
  go_upto_region 5 with (fail)
  have q2 := (blk_cell O.out.b1 2).trans rfl
  by_cases hbig : (F.length : Int) > 7112 - L
  · have E0 : Aside0 (R0 = op0) := ⟨by rw [HAPP.out, if_neg (fun h => by have := HXl.out; omega)]⟩
    have u0 := (blk_cell O.out.b3 0).trans rfl; have u1 := (blk_cell O.out.b3 1).trans rfl; have u2 := (blk_cell O.out.b3 2).trans rfl; have u3 := (blk_cell O.out.b3 3).trans rfl; have u4 := (blk_cell O.out.b3 4).trans rfl; have u5 := (blk_cell O.out.b3 5).trans rfl; have u6 := (blk_cell O.out.b3 6).trans rfl; have u7 := (blk_cell O.out.b3 7).trans rfl
    have z0 := blk_frozen O.out.b3 0; have z1 := blk_frozen O.out.b3 1; have z2 := blk_frozen O.out.b3 2; have z3 := blk_frozen O.out.b3 3; have z4 := blk_frozen O.out.b3 4; have z5 := blk_frozen O.out.b3 5; have z6 := blk_frozen O.out.b3 6; have z7 := blk_frozen O.out.b3 7
    go_wp2
    generalize hw : World.setCell _ _ _ = w90
    replace O := Aside0.mk (O.out.p3.st8 hw); clear hw
    refine bodyPost_ret (results_cell_row rfl _ _ (w.heap.size + 1 + 1) 61 _ (0, 0) _ rfl O.out.b0 Try.underlying61 rfl (by kernel_rfl)) rfl ?_
    refine HQ.out _ _ ?_
    rw [E0.out]
    exact ⟨_, _, _, rfl, (((O.out.only []).nilRow rW 147).nilRow rBS 22).nilRow rN 33⟩
  · have HBIG := Aside0.mk hbig
    have hF300 : F.length ≤ 300 := by have := HFl.out; omega
    go_upto_region 7 with (fail)
    clear q2
    have HF300 := Aside0.mk hF300; clear hF300
    go_wp2_with fail
    refine (cp_c Ab cb Y _ O.out.c2 (by have := HYl.out; omega)).mono ?_
    rintro e w7 ⟨v, rfl, ⟨fc, hrc, hnc, hlc⟩, hbc⟩
    replace O := Aside0.mk (O.out.app1 (Own.one (R := Rs.row rB 5 v Y) hbc hrc hnc hlc)); clear hrc hnc hlc hbc
    obtain ⟨Ac, cc, rfl, _⟩ := O.out.f0
    go_upto_region 8 with (at_builtin; go_loud (refine Own.app_row (enc := Value.int .u8) (h1 := fun _ => rfl) 0 rfl (.tmp 38) (.tmp 39) 22 5 (.int .u8 0) 1 rfl Try.underlying22 info5 rfl (by omega) _ Y F Af F.length cf rfl rfl O.out O.out.c1 (by have := HYl.out; have := HF300.out; omega) ?_); intro v8 w8 hO; have O3 := Aside0.mk hO; clear hO)
    clear O
    replace O3 := O3.out
    rw [← HXe.out] at O3
    obtain ⟨Ax, cx, rfl, hcx⟩ := O3.f0
    have O := Aside0.mk O3.p1.drop.p2.drop.p3.drop; clear O3
    have HCX := Aside0.mk hcx; clear hcx
    have q2 := (blk_cell O.out.b1 2).trans rfl
    have hX300 : X.length ≤ 7112 := by have := HXl.out; have := HBIG.out; omega
    have hX1 : 17 ≤ X.length := by have := HXl.out; have := HFl.out; omega
    go_upto_region 9 with fail
    rw [show ((L : Int) / 56) = (fr : Int) by have := HFR.out; omega, show (((X.length : Int) - 1) / 56) = (tt : Int) by have := HTO.out; omega]
    have p7 := (blk_cell O.out.b3 7).trans rfl
    clear q2
    have hw200 : ws.length ≤ 200 := HR.out.2.1.2.1
    have htt : tt ≤ 126 := by have := HTO.out; omega
    have hfr2 : fr ≤ tt := HLE.out
    by_cases hfit : (ws.length : Int) + tt - fr + 1 > 200
    · have E0 : Aside0 (R0 = op0) := ⟨by rw [HAPP.out, if_neg (fun h => by have := HN9.out; omega)]⟩
      have u0 := (blk_cell O.out.b2 0).trans rfl; have u1 := (blk_cell O.out.b2 1).trans rfl; have u2 := (blk_cell O.out.b2 2).trans rfl; have u3 := (blk_cell O.out.b2 3).trans rfl; have u4 := (blk_cell O.out.b2 4).trans rfl; have u5 := (blk_cell O.out.b2 5).trans rfl; have u6 := (blk_cell O.out.b2 6).trans rfl; have u7 := (blk_cell O.out.b2 7).trans rfl
      have z0 := blk_frozen O.out.b2 0; have z1 := blk_frozen O.out.b2 1; have z2 := blk_frozen O.out.b2 2; have z3 := blk_frozen O.out.b2 3; have z4 := blk_frozen O.out.b2 4; have z5 := blk_frozen O.out.b2 5; have z6 := blk_frozen O.out.b2 6; have z7 := blk_frozen O.out.b2 7
      go_wp2
      generalize hw : World.setCell _ _ _ = w90
      replace O := Aside0.mk (O.out.p2.st8 hw); clear hw
      refine bodyPost_ret (results_cell_row rfl _ _ (w.heap.size + 1 + 1) 61 _ (0, 0) _ rfl O.out.b0 Try.underlying61 rfl (by kernel_rfl)) rfl ?_
      refine HQ.out _ _ ?_
      rw [E0.out]
      exact ⟨_, _, _, rfl, (((O.out.only []).nilRow rW 147).nilRow rBS 22).nilRow rN 33⟩
    · have HFIT := Aside0.mk hfit
      go_upto_region 11 with fail
      clear p7
      have p6 := (blk_cell O.out.b3 6).trans rfl; have p7 := (blk_cell O.out.b3 7).trans rfl
      go_wp2_with fail
      refine (copyDisk_c _ _ bs _ _ ws _ (Kd.C_below HX.out O.out.bel) (Kd.C_below HY.out O.out.bel) (by have : bs.length = 128 := HR.out.2.1.1; omega) (by omega) (fun b hb => by have : b.length = 64 := HR.out.2.1.2.2.1 b hb; omega) (fun b hb => by have : b.bytes.length = 64 := (HR.out.2.1.2.2.2 b hb).2.2; omega)).mono ?_
      intro e w9 hg
      obtain ⟨v0, v1, rfl, k⟩ := own_disk hg
      replace O := Aside0.mk (O.out.app2 k); clear k hg p6 p7
      obtain ⟨D0, d0, rfl, _⟩ := O.out.f0
      obtain ⟨D1, d1, rfl, _⟩ := O.out.f1
      go_upto_region 12 with fail
      generalize hw : w9.alloc _ = w10
      replace O := Aside0.mk (O.out.of hw).p6.drop; clear hw
      generalize w9.heap.size = g10 at O ⊢
      replace O : Aside0 (Own w w10 [Rs.box g10 43 #[.slice D0 bs.length d0, .slice D1 ws.length d1], Rs.row rBS 22 (.slice D0 bs.length d0) bs, Rs.row rW 147 (.slice D1 ws.length d1) ws, Rs.row rB 5 (.slice Ax X.length cx) X, Rs.box g5 59 #[.bool true, .slice Bn N.length bn, .int .i64 L, .int .i64 G, .int .i64 0], Rs.box (w.heap.size + 1 + 1) 61 zero8]) := ⟨O.out⟩
      have hg1 : 1 ≤ G := HGr.out.1
      have hg2 : G ≤ 1000000000 := HGr.out.2
      have HDK : Aside0 (∀ i, i ≤ n → DkOk bs (ws ++ pagesW X G fr i) ∧ BkOk bs (ws ++ pagesW X G fr i)) := ⟨fun i hi => by
        refine dk_of (bl_ok HR.out.2.1 HK0.out) (by rw [List.length_append, pagesW_len]; have := HN9.out; have := HFIT.out; omega) (fun y hy => ?_)
        rcases List.mem_append.1 hy with h | h
        · exact ⟨HR.out.2.1.2.2.2 y h, HK0.out.2 y h⟩
        · exact pagesW_ok HXok.out G fr i (by have := HN9.out; omega) y h⟩
      go_wp2_with fail
      go_loopg [11] (n + 1) (fun m v11 wr => ∃ (i : Nat) (v0 v1 : Value), v11 = .int .i64 ((fr + i : Nat) : Int) ∧ Aside0 (i ≤ n ∧ n - i < m) ∧ Aside0 (Own w wr [Rs.box g10 43 #[v0, v1], Rs.row rBS 22 v0 bs, Rs.row rW 147 v1 (ws ++ pagesW X G fr i), Rs.row rB 5 (.slice Ax X.length cx) X, Rs.box g5 59 #[.bool true, .slice Bn N.length bn, .int .i64 L, .int .i64 G, .int .i64 0], Rs.box (w.heap.size + 1 + 1) 61 zero8]))
      case atStart => exact ⟨0, _, _, rfl, ⟨by omega⟩, ⟨by simpa [pagesW] using O.out⟩⟩
      case round =>
        clear O
        obtain ⟨i, v0, v1, rfl, HI, O⟩ := hrel
        obtain ⟨U, hU⟩ : ∃ U, U = ws ++ pagesW X G fr i := ⟨_, rfl⟩
        obtain ⟨kk, hkk⟩ : ∃ kk : Nat, kk = fr + i := ⟨_, rfl⟩
        rw [← hU] at O
        rw [← hkk]
        have HU := Aside0.mk hU; have HKK := Aside0.mk hkk; clear hU hkk
        obtain ⟨D0, e0, rfl, hD0⟩ := O.out.f1
        obtain ⟨D1, e1, rfl, _⟩ := O.out.f2
        have HD0 := Aside0.mk hD0; clear hD0
        by_cases hi : kk ≤ tt
        · have p0 := (blk_cell O.out.b0 0).trans rfl; have p1 := (blk_cell O.out.b0 1).trans rfl; have q3 := (blk_cell O.out.b4 3).trans rfl
          have hUd := (HDK.out i HI.out.1).1
          rw [← HU.out] at hUd
          have hUl : U.length < 200 := by have := HU.out; rw [HU.out, List.length_append, pagesW_len]; have := HN9.out; have := HFIT.out; have := HKK.out; omega
          have HUD := Aside0.mk hUd; have HUL := Aside0.mk hUl; clear hUd hUl
          go_wp2_with fail
          refine (lay_c _ _ _ _ _ _ bs U X kk G _ O.out.c1 O.out.c2 O.out.c3 HCX.out HUD.out HUL.out (by omega) hg1 hg2 (by omega)).mono ?_
          intro e w11 hg
          obtain ⟨W2, hW2⟩ : ∃ W2, W2 = U ++ [⟨(kk : Int) + 1, pageB X kk G⟩] := ⟨_, rfl⟩
          rw [← hW2] at hg
          have HW2 := Aside0.mk hW2; clear hW2
          obtain ⟨v0, v1, rfl, k⟩ := own_disk hg
          replace O := Aside0.mk (O.out.app2 k); clear k hg p0 p1 q3
          obtain ⟨F0, h0, rfl, _⟩ := O.out.f0
          obtain ⟨F1, h1, rfl, _⟩ := O.out.f1
          have u0 := (blk_cell O.out.b2 0).trans rfl; have u1 := (blk_cell O.out.b2 1).trans rfl
          have z0 := blk_frozen O.out.b2 0; have z1 := blk_frozen O.out.b2 1
          go_wp2
          generalize hw : World.setCell _ _ _ = w12
          replace O := Aside0.mk ((O.out.p2.st2 hw).p3.drop.p3.drop); clear hw
          go_roundg (gk - 1)
          case measure => have := HI.out; omega
          case rel =>
            refine ⟨i + 1, _, _, ?_, ⟨by have := HI.out; have := HN9.out; have := HKK.out; omega⟩, ⟨by rw [pagesW_succ, ← List.append_assoc, ← HU.out, ← HKK.out, ← HW2.out]; exact O.out⟩⟩
            have := HKK.out
            congr 1; omega
        · have e : i = n := by have := HI.out; have := HN9.out; have := HKK.out; omega
          replace HU : Aside0 (U = V) := ⟨by rw [HU.out, e, HV.out]⟩
          have HDV := HDK.out n (Nat.le_refl _)
          rw [← HV.out, ← HU.out] at HDV
          have HDV := Aside0.mk HDV
          have HAP : Aside0 (R0 = ⟨true, scanL bs U, bs, U⟩) := ⟨by rw [HAPP.out, if_pos (by have := HN9.out; have := HFIT.out; omega), ← HU.out]⟩
          go_upto_region 16 with fail
          have p0 := (blk_cell O.out.b0 0).trans rfl; have p1 := (blk_cell O.out.b0 1).trans rfl
          refine sta (fun w' => w'.cell? ⟨g10, 0, none⟩ = some (.slice D0 bs.length e0) ∧ w'.cell? ⟨g10, 1, none⟩ = some (.slice D1 U.length e1)) [4] 5 ⟨p0, p1⟩ (fun hS => ?_)
          clear p0 p1
          replace O := Aside0.mk O.out.drew
          generalize wr.drew = wd at O hS ⊢
          obtain ⟨R, hR⟩ : ∃ R, R = scanL bs U := ⟨_, rfl⟩
          have HRR := Aside0.mk hR; clear hR
          refine tk 0 1 hS ?_
          refine tk 2 5 hS ?_
          refine on 1 7 (fun K hK => ?_)
          refine ca (implScan_yes _ _ _ _ bs U _ O.out.c1 O.out.c2 HD0.out HDV.out.1 HDV.out.2) Try.func72 ?_
          intro e w13 hg
          rw [← HRR.out] at hg
          obtain ⟨vn, rfl, k⟩ := hg
          replace O := Aside0.mk (O.out.app1 k); clear k
          obtain ⟨Cn, cn2, rfl, _⟩ := O.out.f0
          refine ⟨_, rfl, nx hK ⟨(blk_cell O.out.b1 0).trans rfl, (blk_cell O.out.b1 1).trans rfl⟩ (fun hS => ?_)⟩
          clear hK K hS
          refine pu 3 15 ?_
          have u0 := (blk_cell O.out.b6 0).trans rfl; have u1 := (blk_cell O.out.b6 1).trans rfl; have u2 := (blk_cell O.out.b6 2).trans rfl; have u3 := (blk_cell O.out.b6 3).trans rfl; have u4 := (blk_cell O.out.b6 4).trans rfl; have u5 := (blk_cell O.out.b6 5).trans rfl; have u6 := (blk_cell O.out.b6 6).trans rfl; have u7 := (blk_cell O.out.b6 7).trans rfl
          have z0 := blk_frozen O.out.b6 0; have z1 := blk_frozen O.out.b6 1; have z2 := blk_frozen O.out.b6 2; have z3 := blk_frozen O.out.b6 3; have z4 := blk_frozen O.out.b6 4; have z5 := blk_frozen O.out.b6 5; have z6 := blk_frozen O.out.b6 6; have z7 := blk_frozen O.out.b6 7
          refine la 4 31 (fun K hK => ?_)
          refine st ?_
          generalize hw : World.setCell _ _ _ = w14
          replace O := Aside0.mk (O.out.p6.st8 hw); clear hw
          refine nl hK (dn ?_)
          clear hK K u0 u1 u2 u3 u4 u5 u6 u7 z0 z1 z2 z3 z4 z5 z6 z7
          go_wp2
          refine bodyPost_ret (results_cell_row rfl _ _ (w.heap.size + 1 + 1) 61 _ (0, 0) _ rfl O.out.b0 Try.underlying61 rfl (by kernel_rfl)) rfl ?_
          refine HQ.out _ _ ?_
          rw [HAP.out, ← HRR.out]
          exact ⟨_, _, _, rfl, O.out.drop.p1.drop.only [_, _, _]⟩
end Go.Proofs.Ytocdlibnmlcokaa
namespace Go.Proofs.Ytocdlibnmlcokaa
open Go.RowKit Go.Proofs.YtocdlibnmlcokaaW.PrintWords Go.Proofs.YtocdlibnmlcokaaW.PrintLast
set_option linter.unusedVariables false
set_option linter.unusedSimpArgs false
end Go.Proofs.Ytocdlibnmlcokaa
namespace Go.Proofs.Ytocdlibnmlcokaa
open Go.RowKit Go.Proofs.YtocdlibnmlcokaaW.PrintWords Go.Proofs.YtocdlibnmlcokaaW.PrintLast
set_option linter.unusedVariables false
set_option linter.unusedSimpArgs false
end Go.Proofs.Ytocdlibnmlcokaa
namespace Go.Proofs.Ytocdlibnmlcokaa
open Go.RowKit Go.Proofs.YtocdlibnmlcokaaW.PrintWords Go.Proofs.YtocdlibnmlcokaaW.PrintLast
set_option linter.unusedVariables false
set_option linter.unusedSimpArgs false
end Go.Proofs.Ytocdlibnmlcokaa
namespace Go.Proofs.Ytocdlibnmlcokaa
open Go.RowKit Go.Proofs.YtocdlibnmlcokaaW.PrintWords Go.Proofs.YtocdlibnmlcokaaW.PrintLast
set_option linter.unusedVariables false
namespace Own
theorem p9 {w0 w : World} {L : List Rs} {R R1 R2 R3 R4 R5 R6 R7 R8 R9 : Rs} (h : Own w0 w (R1 :: R2 :: R3 :: R4 :: R5 :: R6 :: R7 :: R8 :: R9 :: R :: L)) : Own w0 w (R :: R1 :: R2 :: R3 :: R4 :: R5 :: R6 :: R7 :: R8 :: R9 :: L) := swap [R1, R2, R3, R4, R5, R6, R7, R8, R9] h
theorem c9 {w0 w : World} {L : List Rs} {R1 R2 R3 R4 R5 R6 R7 R8 R9 : Rs} {α : Type} {r : Rp α} {e n c : Nat} {A : Option Addr} {xs : List α} (h : Own w0 w (R1 :: R2 :: R3 :: R4 :: R5 :: R6 :: R7 :: R8 :: R9 :: Rs.row r e (.slice A n c) xs :: L)) : r.d.C w A xs.length xs := h.p9.c0
end Own
end Go.Proofs.Ytocdlibnmlcokaa
namespace Go.Proofs.Ytocdlibnmlcokaa
open Go.RowKit Go.Proofs.YtocdlibnmlcokaaW.PrintWords Go.Proofs.YtocdlibnmlcokaaW.PrintLast Go.Proofs.Ytocdlibnmlcokaa.Open
set_option linter.unusedVariables false
set_option linter.unusedSimpArgs false
theorem u8_of {x : Int} (h : (Lit.int .u8 x).wf = true) : 0 ≤ x ∧ x < 256 := by
  simp [Lit.wf] at h
  have e1 : IntKind.u8.min = 0 := by decide
  have e2 : IntKind.u8.max = 255 := by decide
  rw [e1, e2] at h
  omega
end Go.Proofs.Ytocdlibnmlcokaa
namespace Go.Proofs.Ytocdlibnmlcokaa
open Go.RowKit Go.Proofs.YtocdlibnmlcokaaW.PrintWords Go.Proofs.YtocdlibnmlcokaaW.PrintLast
set_option linter.unusedVariables false
set_option linter.unusedSimpArgs false
structure Cu where
  p : Int
  s : Int
def nxS (xs : List Int) (q : Cu) : Int :=
  if q.p < xs.length then IntKind.u64.wrap (IntKind.u64.wrap (IntKind.u64.wrap (q.s * 6364136223846793005) + rd xs q.p) + 1442695040888963407) else IntKind.u64.wrap (IntKind.u64.wrap (q.s * 6364136223846793005) + 1442695040888963407)
def nxC (xs : List Int) (q : Cu) : Cu := ⟨q.p + 1, nxS xs q⟩
def nxV (xs : List Int) (q : Cu) : Int := if q.p < xs.length then rd xs q.p else nxS xs q / 1099511627776 % 256
theorem nxV_range {xs : List Int} (hb : BsOk xs) (q : Cu) : 0 ≤ nxV xs q ∧ nxV xs q < 256 := by
  unfold nxV
  split
  · exact hb.rd _
  · omega
abbrev cuB (A : Option Addr) (n c : Nat) (q : Cu) : Array Value := #[.slice A n c, .int .i64 q.p, .int .u64 q.s]
theorem Own.st12 {w0 w : World} {L : List Rs} {g t : Nat} {a b c x y : Value} (h : Own w0 w (Rs.box g t #[a, b, c] :: L)) : Own w0 ((w.setCell ⟨g, 1, none⟩ x).setCell ⟨g, 2, none⟩ y) (Rs.box g t #[a, x, y] :: L) :=
  Own.st (j := 2) (u := y) (Own.st (j := 1) (u := x) h rfl #[a, x, c] rfl) rfl #[a, x, y] rfl
theorem Own.st21 {w0 w : World} {L : List Rs} {g t : Nat} {a b c x y : Value} (h : Own w0 w (Rs.box g t #[a, b, c] :: L)) : Own w0 ((w.setCell ⟨g, 2, none⟩ y).setCell ⟨g, 1, none⟩ x) (Rs.box g t #[a, x, y] :: L) :=
  Own.st (j := 1) (u := x) (Own.st (j := 2) (u := y) h rfl #[a, b, y] rfl) rfl #[a, x, y] rfl
set_option maxHeartbeats 4000000 in
set_option maxRecDepth 100000 in
theorem next_c (A : Option Addr) (c : Nat) (xs : List Int) (q : Cu) (g : Nat) {w0 w : World} {L : List Rs} (h : Own w0 w (Rs.box g 123 (cuB A xs.length c q) :: L)) (hx : kB.C w A xs.length xs) (hb : BsOk xs) (h0 : 0 ≤ q.p) (h1 : q.p ≤ 2000000000) :
    Calls Try.prog 141 #[.pointer (some ⟨g, 0, none⟩)] w (fun e w' => e = .returned (.int .i64 (nxV xs q)) ∧ Own w0 w' (Rs.box g 123 (cuB A xs.length c (nxC xs q)) :: L)) := by
  have hl : xs.length ≤ 9223372036854775807 := hx.2.1
  obtain ⟨p, s⟩ := q
  simp only [cuB] at h ⊢ h0 h1
  have O := Aside0.mk h; have HB := Aside0.mk hb; clear h hb
  have q0 := (blk_cell O.out.b0 0).trans rfl; have q1 := (blk_cell O.out.b0 1).trans rfl; have q2 := (blk_cell O.out.b0 2).trans rfl
  have z1 := blk_frozen O.out.b0 1; have z2 := blk_frozen O.out.b0 2
  by_cases hp : p < (xs.length : Int)
  · have HS : Aside0 (nxS xs ⟨p, s⟩ = IntKind.u64.wrap (IntKind.u64.wrap (IntKind.u64.wrap (s * 6364136223846793005) + rd xs p) + 1442695040888963407)) := ⟨if_pos hp⟩
    have HV : Aside0 (nxV xs ⟨p, s⟩ = rd xs p) := ⟨if_pos hp⟩
    obtain ⟨ad, e1, hc1⟩ := Kd.at_int hx p h0 hp
    cases e1
    have hr := HB.out.rd p
    generalize rd xs p = b at hc1 hr HS HV
    have HX := Aside0.mk hx; clear hx
    go_enter Try.func141, Try.ntmps141
    go_wp2
    go_quiet (fail)
    clear q0 q1 q2 z1 z2
    replace O := Aside0.mk (O.out.drewN nq)
    have hc2 := hc1
    generalize hw1 : w.drewN nq = w1 at O ⊢
    replace hc1 : w1.cell? (ad.add p.toNat) = some (.int .u8 b) := by rw [← hw1]; simpa using hc2
    clear hc2 hw1
    have q0 := (blk_cell O.out.b0 0).trans rfl; have q1 := (blk_cell O.out.b0 1).trans rfl
    go_wp2
    go_quiet (fail)
    clear q0 q1 hc1
    replace O := Aside0.mk (O.out.drewN nq)
    generalize hw1 : w1.drewN nq = w2 at O ⊢
    clear hw1
    have q1 := (blk_cell O.out.b0 1).trans rfl; have q2 := (blk_cell O.out.b0 2).trans rfl
    have z1 := blk_frozen O.out.b0 1; have z2 := blk_frozen O.out.b0 2
    go_wp2
    go_ret
    refine ⟨by rw [HV.out]; rfl, ?_⟩
    unfold nxC
    rw [HS.out]
    exact O.out.st12
  · have HS : Aside0 (nxS xs ⟨p, s⟩ = IntKind.u64.wrap (IntKind.u64.wrap (s * 6364136223846793005) + 1442695040888963407)) := ⟨if_neg hp⟩
    have HV : Aside0 (nxV xs ⟨p, s⟩ = nxS xs ⟨p, s⟩ / 1099511627776 % 256) := ⟨if_neg hp⟩
    have HX := Aside0.mk hx; clear hx
    go_enter Try.func141, Try.ntmps141
    go_wp2
    go_quiet (fail)
    clear q0 q1 q2 z1 z2
    replace O := Aside0.mk (O.out.drewN nq)
    generalize hw1 : w.drewN nq = w1 at O ⊢
    clear hw1
    have q1 := (blk_cell O.out.b0 1).trans rfl; have q2 := (blk_cell O.out.b0 2).trans rfl
    have z1 := blk_frozen O.out.b0 1; have z2 := blk_frozen O.out.b0 2
    go_wp2
    go_ret
    refine ⟨?_, ?_⟩
    · rw [HV.out, HS.out]
      generalize u64_wrapE : IntKind.u64.wrap (IntKind.u64.wrap (s * 6364136223846793005) + 1442695040888963407) = S
      have hS : 0 ≤ S ∧ S < 18446744073709551616 := by rw [← u64_wrapE, Math.u64_wrap]; omega
      show Ending.returned (.int .i64 (wrap64 (Go.bits .and .u64 (S / 1099511627776) 255))) = _
      rw [Math.and255 _ (by omega) (by omega), Math.w64 (by omega) (by omega)]
    · unfold nxC
      rw [HS.out]
      exact O.out.st21
def pkV (xs : List Int) (k : Int) (q : Cu) : Int := if k ≤ 1 then 0 else if 200 < k then (nxV xs q * 256 + nxV xs (nxC xs q)) % k else nxV xs q % k
def pkC (xs : List Int) (k : Int) (q : Cu) : Cu := if k ≤ 1 then q else if 200 < k then nxC xs (nxC xs q) else nxC xs q
theorem pkV_range (xs : List Int) (q : Cu) {k : Int} (hk : 1 ≤ k) : 0 ≤ pkV xs k q ∧ pkV xs k q < k := by
  unfold pkV
  split
  · omega
  · split
    · exact ⟨Int.emod_nonneg _ (by omega), Int.emod_lt_of_pos _ (by omega)⟩
    · exact ⟨Int.emod_nonneg _ (by omega), Int.emod_lt_of_pos _ (by omega)⟩
theorem pkC_p (xs : List Int) (k : Int) (q : Cu) : q.p ≤ (pkC xs k q).p ∧ (pkC xs k q).p ≤ q.p + 2 := by
  unfold pkC
  split
  · omega
  · split
    · show _ ≤ q.p + 1 + 1 ∧ q.p + 1 + 1 ≤ _; omega
    · show _ ≤ q.p + 1 ∧ q.p + 1 ≤ _; omega
set_option maxHeartbeats 4000000 in
set_option maxRecDepth 100000 in
theorem pick_c (A : Option Addr) (c : Nat) (xs : List Int) (q : Cu) (g : Nat) (k : Int) {w0 w : World} {L : List Rs} (h : Own w0 w (Rs.box g 123 (cuB A xs.length c q) :: L)) (hx : kB.C w0 A xs.length xs) (hb : BsOk xs) (h0 : 0 ≤ q.p) (h1 : q.p ≤ 1000000000) (hk : 0 ≤ k) (hk2 : k ≤ 100000) :
    Calls Try.prog 95 #[.pointer (some ⟨g, 0, none⟩), .int .i64 k] w (fun e w' => e = .returned (.int .i64 (pkV xs k q)) ∧ Own w0 w' (Rs.box g 123 (cuB A xs.length c (pkC xs k q)) :: L)) := by
  have O := Aside0.mk h; have HB := Aside0.mk hb; have HX := Aside0.mk hx; clear h hb hx
  by_cases k1 : k ≤ 1
  · have HV : Aside0 (pkV xs k q = 0) := ⟨if_pos k1⟩
    have HC : Aside0 (pkC xs k q = q) := ⟨if_pos k1⟩
    go_enter Try.func95, Try.ntmps95
    go_wp2_with fail
    go_ret
    exact ⟨by rw [HV.out]; rfl, by rw [HC.out]; exact O.out⟩
  · have hr1 := nxV_range HB.out q
    have hr2 := nxV_range HB.out (nxC xs q)
    by_cases k2 : 200 < k
    · have HV : Aside0 (pkV xs k q = (nxV xs q * 256 + nxV xs (nxC xs q)) % k) := ⟨(if_neg k1).trans (if_pos k2)⟩
      have HC : Aside0 (pkC xs k q = nxC xs (nxC xs q)) := ⟨(if_neg k1).trans (if_pos k2)⟩
      go_enter Try.func95, Try.ntmps95
      go_wp2_with fail
      refine (next_c A c xs q g O.out (Kd.C_below HX.out O.out.bel) HB.out h0 (by omega)).mono ?_
      rintro e w1 ⟨rfl, hO⟩
      clear O
      have O := Aside0.mk hO; clear hO
      go_wp2_with fail
      refine (next_c A c xs (nxC xs q) g O.out (Kd.C_below HX.out O.out.bel) HB.out (by show 0 ≤ q.p + 1; omega) (by show q.p + 1 ≤ _; omega)).mono ?_
      rintro e w1 ⟨rfl, hO⟩
      clear O
      have O := Aside0.mk hO; clear hO
      have ht : Int.tmod (nxV xs q * 256 + nxV xs (nxC xs q)) k = (nxV xs q * 256 + nxV xs (nxC xs q)) % k := Int.tmod_eq_emod_of_nonneg (by omega)
      have hm0 := Int.emod_nonneg (nxV xs q * 256 + nxV xs (nxC xs q)) (by omega : k ≠ 0)
      have hm1 := Int.emod_lt_of_pos (nxV xs q * 256 + nxV xs (nxC xs q)) (by omega : 0 < k)
      have hz : ¬ k = 0 := by omega
      generalize (nxV xs q * 256 + nxV xs (nxC xs q)) % k = r at ht hm0 hm1 HV
      go_wp2
      go_ret
      exact ⟨by rw [HV.out]; rfl, by rw [HC.out]; exact O.out⟩
    · have HV : Aside0 (pkV xs k q = nxV xs q % k) := ⟨(if_neg k1).trans (if_neg k2)⟩
      have HC : Aside0 (pkC xs k q = nxC xs q) := ⟨(if_neg k1).trans (if_neg k2)⟩
      go_enter Try.func95, Try.ntmps95
      go_wp2_with fail
      refine (next_c A c xs q g O.out (Kd.C_below HX.out O.out.bel) HB.out h0 (by omega)).mono ?_
      rintro e w1 ⟨rfl, hO⟩
      clear O
      have O := Aside0.mk hO; clear hO
      have ht : Int.tmod (nxV xs q) k = nxV xs q % k := Int.tmod_eq_emod_of_nonneg (by omega)
      have hm0 := Int.emod_nonneg (nxV xs q) (by omega : k ≠ 0)
      have hm1 := Int.emod_lt_of_pos (nxV xs q) (by omega : 0 < k)
      have hz : ¬ k = 0 := by omega
      generalize nxV xs q % k = r at ht hm0 hm1 HV
      go_wp2
      go_ret
      exact ⟨by rw [HV.out]; rfl, by rw [HC.out]; exact O.out⟩
end Go.Proofs.Ytocdlibnmlcokaa
namespace Go.Proofs.Ytocdlibnmlcokaa
open Go.RowKit Go.Proofs.YtocdlibnmlcokaaW.PrintWords Go.Proofs.YtocdlibnmlcokaaW.PrintLast
set_option linter.unusedVariables false
set_option linter.unusedSimpArgs false
def ifV (b : Bool) (x y : Int) : Int := if b then x else y
def ifC (b : Bool) (x y : Cu) : Cu := if b then x else y
def tx1C (xs : List Int) (q : Cu) : Cu := pkC xs 6 (pkC xs 9 q)
def tx1B (xs : List Int) (q : Cu) : Bool := decide (pkV xs 6 (pkC xs 9 q) = 0)
def tx2N (xs : List Int) (q : Cu) : Int := ifV (tx1B xs q) (pkV xs 80 (tx1C xs q)) (pkV xs 9 q)
def tx2C (xs : List Int) (q : Cu) : Cu := ifC (tx1B xs q) (pkC xs 80 (tx1C xs q)) (tx1C xs q)
def tx3B (xs : List Int) (q : Cu) : Bool := decide (pkV xs 30 (tx2C xs q) = 0)
def tx3C (xs : List Int) (q : Cu) : Cu := pkC xs 30 (tx2C xs q)
def txN (xs : List Int) (q : Cu) : Int := ifV (tx3B xs q) (200 - pkV xs 2 (tx3C xs q)) (tx2N xs q)
def txQ (xs : List Int) (q : Cu) : Cu := ifC (tx3B xs q) (pkC xs 2 (tx3C xs q)) (tx3C xs q)
def ltr (v : Int) : ByteArray := ⟨[UInt8.ofNat (97 + v).toNat].toArray⟩
theorem ltr_size (v : Int) : (ltr v).size = 1 := rfl
theorem ltr_c (w : World) (v : Int) (h0 : 0 ≤ v) (h1 : v < 100) : (convert 22 9 (.slice (some ⟨w.heap.size, 0, none⟩) 1 1)).run Try.prog (w.alloc (.cells #[.int .u8 (97 + v)] 5)) = .ok (.string (ltr v)) (w.alloc (.cells #[.int .u8 (97 + v)] 5)) := by
  refine run_convert_bytes_back _ 22 9 5 ⟨w.heap.size, 0, none⟩ 1 [UInt8.ofNat (97 + v).toNat] Try.underlying22 Try.underlying5 Try.underlying9 (fun j hj => ?_)
  obtain rfl : j = 0 := by simp at hj; omega
  have e : (((UInt8.ofNat (97 + v).toNat).toNat : Nat) : Int) = 97 + v := by
    rw [UInt8.toNat_ofNat']; omega
  show _ = some (Value.int .u8 (((UInt8.ofNat (97 + v).toNat).toNat : Nat) : Int))
  rw [e]
  exact (blk_cell (blk_new w (.cells #[.int .u8 (97 + v)] 5)) 0).trans rfl
def txL (xs : List Int) : Nat → ByteArray → Cu → ByteArray × Cu
  | 0, s, q => (s, q)
  | k + 1, s, q => txL xs k (s ++ ltr (pkV xs 4 q)) (pkC xs 4 q)
set_option maxHeartbeats 4000000 in
set_option maxRecDepth 100000 in
theorem text_c (A : Option Addr) (c : Nat) (xs : List Int) (q : Cu) (g : Nat) {w0 w : World} {L : List Rs} (h : Own w0 w (Rs.box g 123 (cuB A xs.length c q) :: L)) (hx : kB.C w0 A xs.length xs) (hb : BsOk xs) (h0 : 0 ≤ q.p) (h1 : q.p ≤ 900000000) :
    Calls Try.prog 143 #[.pointer (some ⟨g, 0, none⟩)] w (fun e w' => e = .returned (.string (txL xs (txN xs q).toNat { data := #[] } (txQ xs q)).1) ∧ Own w0 w' (Rs.box g 123 (cuB A xs.length c (txL xs (txN xs q).toNat { data := #[] } (txQ xs q)).2) :: L)) := by
  obtain ⟨R, hR⟩ : ∃ R, R = txL xs (txN xs q).toNat { data := #[] } (txQ xs q) := ⟨_, rfl⟩
  rw [← hR]
  suffices H : ∀ Q : Ending → World → Prop, (∀ e w', e = .returned (.string R.1) ∧ Own w0 w' (Rs.box g 123 (cuB A xs.length c R.2) :: L) → Q e w') → Calls Try.prog 143 #[.pointer (some ⟨g, 0, none⟩)] w Q from H _ (fun e w' h => h)
  intro Q hQ
  have O := Aside0.mk h; have HB := Aside0.mk hb; have HX := Aside0.mk hx; have HQ := Aside0.mk hQ; have HR := Aside0.mk hR; clear h hb hx hQ hR
  have r1 := pkV_range xs q (k := 9) (by omega)
  have p1 := pkC_p xs 9 q
  go_enter Try.func143, Try.ntmps143
  go_upto_region 2 with (fail)
  rename_i K hK
  have HK := Aside0.mk hK; clear hK
  go_wp2_with fail
  refine (pick_c A c xs q g 9 O.out HX.out HB.out h0 (by omega) (by omega) (by omega)).mono ?_
  rintro e w1 ⟨rfl, hO⟩
  clear O; have O := Aside0.mk hO; clear hO
  go_wp2
  refine HK.out _ _ ?_
  clear HK K
  go_step
  go_cut [4] from 5 (fun v wc => v = .int .i64 (tx2N xs q) ∧ Aside0 (0 ≤ tx2N xs q ∧ tx2N xs q < 80) ∧ Aside0 (q.p ≤ (tx2C xs q).p ∧ (tx2C xs q).p ≤ q.p + 6) ∧ Aside0 (Own w0 wc (Rs.box g 123 (cuB A xs.length c (tx2C xs q)) :: L)))
  case first =>
    have p2 := pkC_p xs 6 (pkC xs 9 q)
    have hq2 : q.p ≤ (tx1C xs q).p ∧ (tx1C xs q).p ≤ q.p + 4 := by unfold tx1C; omega
    have hB : decide (pkV xs 6 (pkC xs 9 q) = 0) = tx1B xs q := rfl
    have hN : tx2N xs q = ifV (tx1B xs q) (pkV xs 80 (tx1C xs q)) (pkV xs 9 q) := rfl
    have hC : tx2C xs q = ifC (tx1B xs q) (pkC xs 80 (tx1C xs q)) (tx1C xs q) := rfl
    go_wp2_with fail
    refine (pick_c A c xs _ g 6 O.out HX.out HB.out (by omega) (by omega) (by omega) (by omega)).mono ?_
    rintro e w1 ⟨rfl, hO⟩
    clear O; have O := Aside0.mk hO; clear hO
    rw [show pkC xs 6 (pkC xs 9 q) = tx1C xs q from rfl] at O
    generalize pkV xs 6 (pkC xs 9 q) = v6 at hB ⊢
    generalize tx1B xs q = b1 at hB hN hC
    generalize pkV xs 9 q = n0 at r1 hN ⊢
    generalize tx1C xs q = q2 at hq2 hN hC O
    have HN := Aside0.mk hN; have HC := Aside0.mk hC; clear hN hC p1 p2
    by_cases h6 : v6 = 0
    · have hb1 : b1 = true := by rw [← hB]; exact decide_eq_true h6
      subst hb1
      have HC' : Aside0 (tx2C xs q = pkC xs 80 q2) := ⟨HC.out⟩
      have HN' : Aside0 (tx2N xs q = pkV xs 80 q2) := ⟨HN.out⟩
      have r2 := pkV_range xs q2 (k := 80) (by omega)
      have p3 := pkC_p xs 80 q2
      obtain ⟨E6, _⟩ := eqT h6
      clear h6 hB
      go_wp2_with fail
      refine (pick_c A c xs _ g 80 O.out HX.out HB.out (by omega) (by omega) (by omega) (by omega)).mono ?_
      rintro e w1 ⟨rfl, hO⟩
      clear O; have O := Aside0.mk hO; clear hO
      go_wp2
      go_meet
      case rel => exact ⟨by rw [HN'.out], ⟨by rw [HN'.out]; omega⟩, ⟨by rw [HC'.out]; omega⟩, ⟨by rw [HC'.out]; exact O.out⟩⟩
    · have hb1 : b1 = false := by rw [← hB]; exact decide_eq_false h6
      subst hb1
      have HC' : Aside0 (tx2C xs q = q2) := ⟨HC.out⟩
      have HN' : Aside0 (tx2N xs q = n0) := ⟨HN.out⟩
      obtain ⟨E6, _⟩ := eqF h6
      clear h6 hB
      go_wp2
      go_meet
      case rel => exact ⟨by rw [HN'.out], ⟨by rw [HN'.out]; omega⟩, ⟨by rw [HC'.out]; omega⟩, ⟨by rw [HC'.out]; exact O.out⟩⟩
  case rest =>
    clear O p1 r1
    obtain ⟨rfl, r2, p2, O⟩ := hcut
    rename_i K hK
    refine hK _ _ ?_
    clear hK K
    go_step
    go_cut [4] from 7 (fun v wc => v = .int .i64 (txN xs q) ∧ Aside0 (0 ≤ txN xs q ∧ txN xs q ≤ 200) ∧ Aside0 (q.p ≤ (txQ xs q).p ∧ (txQ xs q).p ≤ q.p + 10) ∧ Aside0 (Own w0 wc (Rs.box g 123 (cuB A xs.length c (txQ xs q)) :: L)))
    case first =>
      have p3 := pkC_p xs 30 (tx2C xs q)
      have hB : decide (pkV xs 30 (tx2C xs q) = 0) = tx3B xs q := rfl
      have hN : txN xs q = ifV (tx3B xs q) (200 - pkV xs 2 (tx3C xs q)) (tx2N xs q) := rfl
      have hC : txQ xs q = ifC (tx3B xs q) (pkC xs 2 (tx3C xs q)) (tx3C xs q) := rfl
      have hq2 : q.p ≤ (tx3C xs q).p ∧ (tx3C xs q).p ≤ q.p + 8 := by have := p2.out; unfold tx3C; omega
      have p2' := p2.out; have r2' := r2.out
      go_wp2_with fail
      refine (pick_c A c xs _ g 30 O.out HX.out HB.out (by omega) (by omega) (by omega) (by omega)).mono ?_
      rintro e w1 ⟨rfl, hO⟩
      clear O; have O := Aside0.mk hO; clear hO
      rw [show pkC xs 30 (tx2C xs q) = tx3C xs q from rfl] at O
      generalize pkV xs 30 (tx2C xs q) = v6 at hB ⊢
      generalize tx3B xs q = b1 at hB hN hC
      generalize tx2N xs q = n0 at r2 hN r2' ⊢
      generalize tx3C xs q = q2 at hq2 hN hC O
      have HN := Aside0.mk hN; have HC := Aside0.mk hC; clear hN hC p2 p2' p3 r2
      by_cases h6 : v6 = 0
      · have hb1 : b1 = true := by rw [← hB]; exact decide_eq_true h6
        subst hb1
        have HC' : Aside0 (txQ xs q = pkC xs 2 q2) := ⟨HC.out⟩
        have HN' : Aside0 (txN xs q = 200 - pkV xs 2 q2) := ⟨HN.out⟩
        have r2 := pkV_range xs q2 (k := 2) (by omega)
        have p3 := pkC_p xs 2 q2
        obtain ⟨E6, _⟩ := eqT h6
        clear h6 hB
        go_wp2_with fail
        refine (pick_c A c xs _ g 2 O.out HX.out HB.out (by omega) (by omega) (by omega) (by omega)).mono ?_
        rintro e w1 ⟨rfl, hO⟩
        clear O; have O := Aside0.mk hO; clear hO
        go_wp2
        go_meet
        case rel => exact ⟨by rw [HN'.out], ⟨by rw [HN'.out]; omega⟩, ⟨by rw [HC'.out]; omega⟩, ⟨by rw [HC'.out]; exact O.out⟩⟩
      · have hb1 : b1 = false := by rw [← hB]; exact decide_eq_false h6
        subst hb1
        have HC' : Aside0 (txQ xs q = q2) := ⟨HC.out⟩
        have HN' : Aside0 (txN xs q = n0) := ⟨HN.out⟩
        obtain ⟨E6, _⟩ := eqF h6
        clear h6 hB
        go_wp2
        go_meet
        case rel => exact ⟨by rw [HN'.out], ⟨by rw [HN'.out]; omega⟩, ⟨by rw [HC'.out]; omega⟩, ⟨by rw [HC'.out]; exact O.out⟩⟩
    case rest =>
      clear O p2 r2
      obtain ⟨rfl, r2, p2, O⟩ := hcut
      obtain ⟨q5, hq5⟩ : ∃ q5, q5 = txQ xs q := ⟨_, rfl⟩
      obtain ⟨n, hn⟩ : ∃ n : Nat, (n : Int) = txN xs q := ⟨(txN xs q).toNat, by have := r2.out; omega⟩
      have hn2 : (txN xs q).toNat = n := by omega
      rw [hn2, ← hq5] at HR
      rw [← hq5] at O p2
      rw [← hn] at r2
      have hn200 : n ≤ 200 := by have := r2.out; omega
      have hp5 : 0 ≤ q5.p ∧ q5.p ≤ 900000010 := by have := p2.out; omega
      rw [show (Value.int .i64 (txN xs q)) = .int .i64 (n : Int) by rw [hn]]
      clear hn hn2 hq5 r2 p2
      rename_i K hK
      refine hK _ _ ?_
      clear hK K
      go_step
      go_wp2
      go_loopg [3, 4] (n + 1) (fun m vs vi wr => ∃ (j : Nat) (s : ByteArray) (q' : Cu), vi = .int .i64 j ∧ vs = .string s ∧ Aside0 (j ≤ n ∧ j + 1 ≤ m ∧ s.size + j = n ∧ 0 ≤ q'.p ∧ q'.p + 2 * j ≤ q5.p + 2 * n) ∧ Aside0 (R = txL xs j s q') ∧ Aside0 (Own w0 wr (Rs.box g 123 (cuB A xs.length c q') :: L)))
      case atStart => exact ⟨n, { data := #[] }, q5, rfl, rfl, ⟨by omega, by omega, by simp [ByteArray.size], by omega, by omega⟩, HR, O⟩
      case round =>
        clear O HR
        obtain ⟨j, s, q', rfl, rfl, HJ, HR, O⟩ := hrel
        cases j with
        | zero =>
          go_wp2
          exact HQ.out _ _ ⟨by rw [HR.out]; rfl, by rw [HR.out]; exact O.out⟩
        | succ j =>
          have hj := HJ.out
          have r3 := pkV_range xs q' (k := 4) (by omega)
          have p3 := pkC_p xs 4 q'
          go_wp2_with fail
          refine (pick_c A c xs _ g 4 O.out HX.out HB.out (by omega) (by omega) (by omega) (by omega)).mono ?_
          rintro e w1 ⟨rfl, hO⟩
          clear O; have O := Aside0.mk hO; clear hO
          have hcv := ltr_c w1 (pkV xs 4 q') r3.1 (by omega)
          have hss : s.size + (ltr (pkV xs 4 q')).size ≤ 9223372036854775807 := by rw [ltr_size]; omega
          generalize hl : ltr (pkV xs 4 q') = lt at hcv hss
          have HL := Aside0.mk hl; clear hl
          go_upto_region 8 with (fail)
          generalize hw : w1.alloc _ = w2
          replace O := Aside0.mk (O.out.of hw).drop; clear hw hcv
          go_wp2
          have hls : lt.size = 1 := by rw [← HL.out]; rfl
          go_roundg (gk - 1)
          case measure => omega
          case rel => exact ⟨j, s ++ lt, pkC xs 4 q', by first | rfl | (congr 1; omega), rfl, ⟨by omega, by omega, by rw [ByteArray.size_append]; omega, by omega, by omega⟩, ⟨by rw [HR.out, ← HL.out]; rfl⟩, O⟩
end Go.Proofs.Ytocdlibnmlcokaa
namespace Go.Proofs.Ytocdlibnmlcokaa
open Go.RowKit Go.Proofs.YtocdlibnmlcokaaW.PrintWords Go.Proofs.YtocdlibnmlcokaaW.PrintLast
set_option linter.unusedVariables false
set_option linter.unusedSimpArgs false
def txS (xs : List Int) (q : Cu) : ByteArray := (txL xs (txN xs q).toNat { data := #[] } (txQ xs q)).1
def txE (xs : List Int) (q : Cu) : Cu := (txL xs (txN xs q).toNat { data := #[] } (txQ xs q)).2
theorem txL_size (xs : List Int) : ∀ n s q, (txL xs n s q).1.size = s.size + n
  | 0, s, q => rfl
  | n + 1, s, q => by
    show (txL xs n (s ++ ltr (pkV xs 4 q)) (pkC xs 4 q)).1.size = _
    rw [txL_size xs n, ByteArray.size_append, ltr_size]; omega
theorem txL_p (xs : List Int) : ∀ n s q, q.p ≤ (txL xs n s q).2.p ∧ (txL xs n s q).2.p ≤ q.p + 2 * n
  | 0, s, q => ⟨Int.le_refl _, by show q.p ≤ _; omega⟩
  | n + 1, s, q => by
    have h := txL_p xs n (s ++ ltr (pkV xs 4 q)) (pkC xs 4 q)
    have h2 := pkC_p xs 4 q
    show q.p ≤ (txL xs n (s ++ ltr (pkV xs 4 q)) (pkC xs 4 q)).2.p ∧ (txL xs n (s ++ ltr (pkV xs 4 q)) (pkC xs 4 q)).2.p ≤ _
    omega
theorem ifC_p (b : Bool) (x y : Cu) (lo hi : Int) (hx : lo ≤ x.p ∧ x.p ≤ hi) (hy : lo ≤ y.p ∧ y.p ≤ hi) : lo ≤ (ifC b x y).p ∧ (ifC b x y).p ≤ hi := by cases b <;> assumption
theorem ifV_r (b : Bool) (x y lo hi : Int) (hx : lo ≤ x ∧ x ≤ hi) (hy : lo ≤ y ∧ y ≤ hi) : lo ≤ ifV b x y ∧ ifV b x y ≤ hi := by cases b <;> assumption
theorem txN_range (xs : List Int) (q : Cu) : 0 ≤ txN xs q ∧ txN xs q ≤ 200 := by
  have a := pkV_range xs q (k := 9) (by omega)
  have b := pkV_range xs (tx1C xs q) (k := 80) (by omega)
  have c := pkV_range xs (tx3C xs q) (k := 2) (by omega)
  have d : 0 ≤ tx2N xs q ∧ tx2N xs q ≤ 200 := ifV_r _ _ _ _ _ (by omega) (by omega)
  exact ifV_r _ _ _ _ _ (by omega) d
theorem txQ_p (xs : List Int) (q : Cu) : q.p ≤ (txQ xs q).p ∧ (txQ xs q).p ≤ q.p + 10 := by
  have a := pkC_p xs 9 q
  have b : q.p ≤ (tx1C xs q).p ∧ (tx1C xs q).p ≤ q.p + 4 := by have := pkC_p xs 6 (pkC xs 9 q); unfold tx1C; omega
  have c : q.p ≤ (tx2C xs q).p ∧ (tx2C xs q).p ≤ q.p + 6 := by
    have := pkC_p xs 80 (tx1C xs q)
    exact ifC_p _ _ _ _ _ (by omega) (by omega)
  have d : q.p ≤ (tx3C xs q).p ∧ (tx3C xs q).p ≤ q.p + 8 := by have := pkC_p xs 30 (tx2C xs q); unfold tx3C; omega
  have := pkC_p xs 2 (tx3C xs q)
  exact ifC_p _ _ _ _ _ (by omega) (by omega)
theorem txS_size (xs : List Int) (q : Cu) : (txS xs q).size ≤ 200 := by
  have := txN_range xs q
  unfold txS
  rw [txL_size]
  show 0 + _ ≤ _
  omega
theorem txE_p (xs : List Int) (q : Cu) : q.p ≤ (txE xs q).p ∧ (txE xs q).p ≤ q.p + 410 := by
  have a := txN_range xs q
  have b := txQ_p xs q
  have c := txL_p xs (txN xs q).toNat { data := #[] } (txQ xs q)
  unfold txE; omega
def whV (xs : List Int) (q : Cu) : Int :=
  if pkV xs 6 q = 0 then 9223372036854775807 - pkV xs 3 (pkC xs 6 q) else if pkV xs 6 q = 1 then -9223372036854775808 + pkV xs 3 (pkC xs 6 q) else if pkV xs 6 q = 2 then pkV xs 70000 (pkC xs 6 q) - 35000 else pkV xs 12 (pkC xs 6 q) - 3
def whC (xs : List Int) (q : Cu) : Cu :=
  if pkV xs 6 q = 0 then pkC xs 3 (pkC xs 6 q) else if pkV xs 6 q = 1 then pkC xs 3 (pkC xs 6 q) else if pkV xs 6 q = 2 then pkC xs 70000 (pkC xs 6 q) else pkC xs 12 (pkC xs 6 q)
theorem whV_range (xs : List Int) (q : Cu) : -9223372036854775808 ≤ whV xs q ∧ whV xs q ≤ 9223372036854775807 := by
  have a := pkV_range xs (pkC xs 6 q) (k := 3) (by omega)
  have b := pkV_range xs (pkC xs 6 q) (k := 70000) (by omega)
  have c := pkV_range xs (pkC xs 6 q) (k := 12) (by omega)
  unfold whV
  repeat' split
  all_goals omega
theorem whC_p (xs : List Int) (q : Cu) : q.p ≤ (whC xs q).p ∧ (whC xs q).p ≤ q.p + 4 := by
  have a := pkC_p xs 6 q
  have b := pkC_p xs 3 (pkC xs 6 q)
  have c := pkC_p xs 70000 (pkC xs 6 q)
  have d := pkC_p xs 12 (pkC xs 6 q)
  unfold whC
  repeat' split
  all_goals omega
set_option maxHeartbeats 4000000 in
set_option maxRecDepth 100000 in
theorem whole_c (A : Option Addr) (c : Nat) (xs : List Int) (q : Cu) (g : Nat) {w0 w : World} {L : List Rs} (h : Own w0 w (Rs.box g 123 (cuB A xs.length c q) :: L)) (hx : kB.C w0 A xs.length xs) (hb : BsOk xs) (h0 : 0 ≤ q.p) (h1 : q.p ≤ 900000000) :
    Calls Try.prog 144 #[.pointer (some ⟨g, 0, none⟩)] w (fun e w' => e = .returned (.int .i64 (whV xs q)) ∧ Own w0 w' (Rs.box g 123 (cuB A xs.length c (whC xs q)) :: L)) := by
  obtain ⟨V, hV⟩ : ∃ V, V = whV xs q := ⟨_, rfl⟩
  obtain ⟨C, hC⟩ : ∃ C, C = whC xs q := ⟨_, rfl⟩
  rw [← hV, ← hC]
  have O := Aside0.mk h; have HB := Aside0.mk hb; have HX := Aside0.mk hx; clear h hb hx
  have r1 := pkV_range xs q (k := 6) (by omega)
  have p1 := pkC_p xs 6 q
  unfold whV at hV
  unfold whC at hC
  have HV := Aside0.mk hV; have HC := Aside0.mk hC; clear hV hC
  go_enter Try.func144, Try.ntmps144
  go_wp2_with fail
  refine (pick_c A c xs q g 6 O.out HX.out HB.out h0 (by omega) (by omega) (by omega)).mono ?_
  rintro e w1 ⟨rfl, hO⟩
  clear O; have O := Aside0.mk hO; clear hO
  generalize pkV xs 6 q = v at r1 HV HC ⊢
  generalize pkC xs 6 q = q1 at p1 HV HC O
  by_cases v0 : v = 0
  · replace HV : Aside0 (V = 9223372036854775807 - pkV xs 3 q1) := ⟨by have := HV.out; rwa [if_pos v0] at this⟩
    replace HC : Aside0 (C = pkC xs 3 q1) := ⟨by have := HC.out; rwa [if_pos v0] at this⟩
    have r2 := pkV_range xs q1 (k := 3) (by omega)
    obtain ⟨E, _⟩ := eqT v0
    clear v0
    go_wp2_with fail
    refine (pick_c A c xs q1 g 3 O.out HX.out HB.out (by omega) (by omega) (by omega) (by omega)).mono ?_
    rintro e w1 ⟨rfl, hO⟩
    clear O; have O := Aside0.mk hO; clear hO
    go_wp2
    go_ret
    exact ⟨by rw [HV.out]; rfl, by rw [HC.out]; exact O.out⟩
  · by_cases v1 : v = 1
    · replace HV : Aside0 (V = -9223372036854775808 + pkV xs 3 q1) := ⟨by have := HV.out; rwa [if_neg v0, if_pos v1] at this⟩
      replace HC : Aside0 (C = pkC xs 3 q1) := ⟨by have := HC.out; rwa [if_neg v0, if_pos v1] at this⟩
      have r2 := pkV_range xs q1 (k := 3) (by omega)
      obtain ⟨E0, _⟩ := eqF v0
      obtain ⟨E, _⟩ := eqT v1
      clear v0 v1
      go_wp2_with fail
      refine (pick_c A c xs q1 g 3 O.out HX.out HB.out (by omega) (by omega) (by omega) (by omega)).mono ?_
      rintro e w1 ⟨rfl, hO⟩
      clear O; have O := Aside0.mk hO; clear hO
      go_wp2
      go_ret
      exact ⟨by rw [HV.out]; rfl, by rw [HC.out]; exact O.out⟩
    · by_cases v2 : v = 2
      · replace HV : Aside0 (V = pkV xs 70000 q1 - 35000) := ⟨by have := HV.out; rwa [if_neg v0, if_neg v1, if_pos v2] at this⟩
        replace HC : Aside0 (C = pkC xs 70000 q1) := ⟨by have := HC.out; rwa [if_neg v0, if_neg v1, if_pos v2] at this⟩
        have r2 := pkV_range xs q1 (k := 70000) (by omega)
        obtain ⟨E0, _⟩ := eqF v0
        obtain ⟨E1, _⟩ := eqF v1
        obtain ⟨E, _⟩ := eqT v2
        clear v0 v1 v2
        go_wp2_with fail
        refine (pick_c A c xs q1 g 70000 O.out HX.out HB.out (by omega) (by omega) (by omega) (by omega)).mono ?_
        rintro e w1 ⟨rfl, hO⟩
        clear O; have O := Aside0.mk hO; clear hO
        go_wp2
        go_ret
        exact ⟨by rw [HV.out]; rfl, by rw [HC.out]; exact O.out⟩
      · replace HV : Aside0 (V = pkV xs 12 q1 - 3) := ⟨by have := HV.out; rwa [if_neg v0, if_neg v1, if_neg v2] at this⟩
        replace HC : Aside0 (C = pkC xs 12 q1) := ⟨by have := HC.out; rwa [if_neg v0, if_neg v1, if_neg v2] at this⟩
        have r2 := pkV_range xs q1 (k := 12) (by omega)
        obtain ⟨E0, _⟩ := eqF v0
        obtain ⟨E1, _⟩ := eqF v1
        obtain ⟨E, _⟩ := eqF v2
        clear v0 v1 v2
        go_wp2_with fail
        refine (pick_c A c xs q1 g 12 O.out HX.out HB.out (by omega) (by omega) (by omega) (by omega)).mono ?_
        rintro e w1 ⟨rfl, hO⟩
        clear O; have O := Aside0.mk hO; clear hO
        go_wp2
        go_ret
        exact ⟨by rw [HV.out]; rfl, by rw [HC.out]; exact O.out⟩
def nt1 (xs : List Int) (q : Cu) : Cu := pkC xs 200 q
def nt2 (xs : List Int) (q : Cu) : Cu := pkC xs 5 (nt1 xs q)
def nt3 (xs : List Int) (q : Cu) : Cu := pkC xs 6 (nt2 xs q)
def nt4 (xs : List Int) (q : Cu) : Cu := pkC xs 50 (nt3 xs q)
def nt5 (xs : List Int) (q : Cu) : Cu := txE xs (nt4 xs q)
def nt6 (xs : List Int) (q : Cu) : Cu := pkC xs 8 (nt5 xs q)
def ntB (xs : List Int) (q : Cu) : Bool := decide (pkV xs 8 (nt5 xs q) = 0)
def ntV (xs : List Int) (q : Cu) : Nt := ⟨pkV xs 200 q, pkV xs 5 (nt1 xs q), pkV xs 6 (nt2 xs q), ifV (ntB xs q) (whV xs (nt6 xs q)) (pkV xs 50 (nt3 xs q) - 10), txS xs (nt4 xs q)⟩
def ntC (xs : List Int) (q : Cu) : Cu := ifC (ntB xs q) (whC xs (nt6 xs q)) (nt6 xs q)
theorem ntV_ok (xs : List Int) (q : Cu) : NtOk (ntV xs q) ∧ -9223372036854775808 ≤ (ntV xs q).n ∧ (ntV xs q).n ≤ 9223372036854775807 := by
  have a := pkV_range xs q (k := 200) (by omega)
  have b := pkV_range xs (nt1 xs q) (k := 5) (by omega)
  have c := pkV_range xs (nt2 xs q) (k := 6) (by omega)
  have d := pkV_range xs (nt3 xs q) (k := 50) (by omega)
  have e := whV_range xs (nt6 xs q)
  have f := txS_size xs (nt4 xs q)
  refine ⟨⟨?_, ?_, ?_, f⟩, ifV_r _ _ _ _ _ e (by omega)⟩
  · show 0 ≤ pkV xs 200 q ∧ pkV xs 200 q ≤ _; omega
  · show 0 ≤ pkV xs 5 (nt1 xs q) ∧ pkV xs 5 (nt1 xs q) ≤ _; omega
  · show 0 ≤ pkV xs 6 (nt2 xs q) ∧ pkV xs 6 (nt2 xs q) ≤ _; omega
theorem nt_p (xs : List Int) (q : Cu) : (q.p ≤ (nt1 xs q).p ∧ (nt1 xs q).p ≤ q.p + 2) ∧ (q.p ≤ (nt2 xs q).p ∧ (nt2 xs q).p ≤ q.p + 4) ∧ (q.p ≤ (nt3 xs q).p ∧ (nt3 xs q).p ≤ q.p + 6) ∧ (q.p ≤ (nt4 xs q).p ∧ (nt4 xs q).p ≤ q.p + 8) ∧ (q.p ≤ (nt5 xs q).p ∧ (nt5 xs q).p ≤ q.p + 418) ∧ (q.p ≤ (nt6 xs q).p ∧ (nt6 xs q).p ≤ q.p + 420) ∧ (q.p ≤ (ntC xs q).p ∧ (ntC xs q).p ≤ q.p + 424) := by
  have h1 : q.p ≤ (nt1 xs q).p ∧ (nt1 xs q).p ≤ q.p + 2 := pkC_p xs 200 q
  have h2 : (nt1 xs q).p ≤ (nt2 xs q).p ∧ (nt2 xs q).p ≤ (nt1 xs q).p + 2 := pkC_p xs 5 _
  have h3 : (nt2 xs q).p ≤ (nt3 xs q).p ∧ (nt3 xs q).p ≤ (nt2 xs q).p + 2 := pkC_p xs 6 _
  have h4 : (nt3 xs q).p ≤ (nt4 xs q).p ∧ (nt4 xs q).p ≤ (nt3 xs q).p + 2 := pkC_p xs 50 _
  have h5 : (nt4 xs q).p ≤ (nt5 xs q).p ∧ (nt5 xs q).p ≤ (nt4 xs q).p + 410 := txE_p xs _
  have h6 : (nt5 xs q).p ≤ (nt6 xs q).p ∧ (nt6 xs q).p ≤ (nt5 xs q).p + 2 := pkC_p xs 8 _
  have h7 := whC_p xs (nt6 xs q)
  have h8 : q.p ≤ (ntC xs q).p ∧ (ntC xs q).p ≤ q.p + 424 := ifC_p _ _ _ _ _ (by omega) (by omega)
  omega
set_option maxHeartbeats 4000000 in
set_option maxRecDepth 100000 in
theorem note_c (A : Option Addr) (c : Nat) (xs : List Int) (q : Cu) (g : Nat) {w0 w : World} {L : List Rs} (h : Own w0 w (Rs.box g 123 (cuB A xs.length c q) :: L)) (hx : kB.C w0 A xs.length xs) (hb : BsOk xs) (h0 : 0 ≤ q.p) (h1 : q.p ≤ 800000000) :
    Calls Try.prog 104 #[.pointer (some ⟨g, 0, none⟩)] w (fun e w' => e = .returned (vN (ntV xs q)) ∧ Own w0 w' (Rs.box g 123 (cuB A xs.length c (ntC xs q)) :: L)) := by
  suffices H : ∀ Q : Ending → World → Prop, (∀ e w', e = .returned (vN (ntV xs q)) ∧ Own w0 w' (Rs.box g 123 (cuB A xs.length c (ntC xs q)) :: L) → Q e w') → Calls Try.prog 104 #[.pointer (some ⟨g, 0, none⟩)] w Q from H _ (fun e w' h => h)
  intro Q hQ
  have O := Aside0.mk h; have HB := Aside0.mk hb; have HX := Aside0.mk hx; have HQ := Aside0.mk hQ; clear h hb hx hQ
  obtain ⟨b1, b2, b3, b4, b5, b6, b7⟩ := nt_p xs q
  have r4 := pkV_range xs (nt3 xs q) (k := 50) (by omega)
  have hws := whV_range xs (nt6 xs q)
  go_enter Try.func104, Try.ntmps104
  go_upto_region 1 with (fail)
  generalize hw : w.alloc _ = w1
  replace O := Aside0.mk (O.out.of hw).p1; clear hw
  generalize w.heap.size = g2 at O ⊢
  go_wp2_with fail
  refine (pick_c A c xs q g 200 O.out HX.out HB.out (by omega) (by omega) (by omega) (by omega)).mono ?_
  rintro e w2 ⟨rfl, hO⟩
  clear O; have O := Aside0.mk hO; clear hO
  go_wp2_with fail
  refine (pick_c A c xs (nt1 xs q) g 5 O.out HX.out HB.out (by omega) (by omega) (by omega) (by omega)).mono ?_
  rintro e w2 ⟨rfl, hO⟩
  clear O; have O := Aside0.mk hO; clear hO
  go_wp2_with fail
  refine (pick_c A c xs (nt2 xs q) g 6 O.out HX.out HB.out (by omega) (by omega) (by omega) (by omega)).mono ?_
  rintro e w2 ⟨rfl, hO⟩
  clear O; have O := Aside0.mk hO; clear hO
  go_wp2_with fail
  refine (pick_c A c xs (nt3 xs q) g 50 O.out HX.out HB.out (by omega) (by omega) (by omega) (by omega)).mono ?_
  rintro e w2 ⟨rfl, hO⟩
  clear O; have O := Aside0.mk hO; clear hO
  go_wp2_with fail
  refine (text_c A c xs (nt4 xs q) g O.out HX.out HB.out (by omega) (by omega)).mono ?_
  rintro e w3 ⟨rfl, hO⟩
  clear O; have O := Aside0.mk hO; clear hO
  rw [show (txL xs (txN xs (nt4 xs q)).toNat { data := #[] } (txQ xs (nt4 xs q))).2 = nt5 xs q from rfl] at O
  rw [show (txL xs (txN xs (nt4 xs q)).toNat { data := #[] } (txQ xs (nt4 xs q))).1 = txS xs (nt4 xs q) from rfl]
  have HV : Aside0 (ntV xs q = ⟨pkV xs 200 q, pkV xs 5 (nt1 xs q), pkV xs 6 (nt2 xs q), ifV (ntB xs q) (whV xs (nt6 xs q)) (pkV xs 50 (nt3 xs q) - 10), txS xs (nt4 xs q)⟩) := ⟨rfl⟩
  generalize pkV xs 200 q = v1 at HV ⊢
  generalize pkV xs 5 (nt1 xs q) = v2 at HV ⊢
  generalize pkV xs 6 (nt2 xs q) = v3 at HV ⊢
  generalize pkV xs 50 (nt3 xs q) = v4 at HV r4 ⊢
  generalize txS xs (nt4 xs q) = v5 at HV ⊢
  go_upto_region 2 with (fail)
  generalize hw : w3.alloc _ = w4
  replace O := Aside0.mk (O.out.of hw).p1; clear hw
  generalize w3.heap.size = g3 at O ⊢
  go_wp2_with fail
  refine (pick_c A c xs (nt5 xs q) g 8 O.out HX.out HB.out (by omega) (by omega) (by omega) (by omega)).mono ?_
  rintro e w5 ⟨rfl, hO⟩
  clear O; have O := Aside0.mk hO; clear hO
  rw [show pkC xs 8 (nt5 xs q) = nt6 xs q from rfl] at O
  have HBB : Aside0 (decide (pkV xs 8 (nt5 xs q) = 0) = ntB xs q) := ⟨rfl⟩
  have HC : Aside0 (ntC xs q = ifC (ntB xs q) (whC xs (nt6 xs q)) (nt6 xs q)) := ⟨rfl⟩
  generalize pkV xs 8 (nt5 xs q) = v6 at HBB ⊢
  generalize ntB xs q = bb at HBB HC HV
  by_cases h6 : v6 = 0
  · obtain rfl : bb = true := by rw [← HBB.out]; exact decide_eq_true h6
    obtain ⟨E6, _⟩ := eqT h6
    clear h6 HBB
    go_wp2_with fail
    refine (whole_c A c xs (nt6 xs q) g O.out HX.out HB.out (by omega) (by omega)).mono ?_
    rintro e w6 ⟨rfl, hO⟩
    clear O; have O := Aside0.mk hO; clear hO
    replace HV : Aside0 (ntV xs q = ⟨v1, v2, v3, whV xs (nt6 xs q), v5⟩) := ⟨HV.out⟩
    replace HC : Aside0 (ntC xs q = whC xs (nt6 xs q)) := ⟨HC.out⟩
    generalize whV xs (nt6 xs q) = v7 at HV hws ⊢
    have z3 := blk_frozen O.out.b1 3; have c3 := (blk_cell O.out.b1 3).trans rfl
    go_upto_region 4 with (fail)
    generalize hw : World.setCell _ _ _ = w7
    replace O := Aside0.mk (O.out.p1.st hw #[.int .i64 v1, .int .i64 v2, .int .i64 v3, .int .i64 v7, .string v5] rfl).p1; clear hw z3 c3
    have c0 := (blk_cell O.out.b1 0).trans rfl; have c1 := (blk_cell O.out.b1 1).trans rfl; have c2 := (blk_cell O.out.b1 2).trans rfl; have c3 := (blk_cell O.out.b1 3).trans rfl; have c4 := (blk_cell O.out.b1 4).trans rfl
    have d0 := (blk_cell O.out.b2 0).trans rfl; have d1 := (blk_cell O.out.b2 1).trans rfl; have d2 := (blk_cell O.out.b2 2).trans rfl; have d3 := (blk_cell O.out.b2 3).trans rfl; have d4 := (blk_cell O.out.b2 4).trans rfl
    have z0 := blk_frozen O.out.b2 0; have z1 := blk_frozen O.out.b2 1; have z2 := blk_frozen O.out.b2 2; have z3 := blk_frozen O.out.b2 3; have z4 := blk_frozen O.out.b2 4
    go_wp2
    generalize hw : World.setCell _ _ _ = w8
    replace O := Aside0.mk (O.out.p2.st5 hw); clear hw
    refine bodyPost_ret (results_cell_row rfl _ _ g2 33 #[.int .i64 v1, .int .i64 v2, .int .i64 v3, .int .i64 v7, .string v5] (0, 0) _ rfl O.out.b0 Try.underlying33 rfl (by kernel_rfl)) rfl ?_
    exact HQ.out _ _ ⟨by rw [HV.out]; rfl, by rw [HC.out]; exact O.out.drop.p1.drop⟩
  · obtain rfl : bb = false := by rw [← HBB.out]; exact decide_eq_false h6
    obtain ⟨E6, _⟩ := eqF h6
    clear h6 HBB
    replace HV : Aside0 (ntV xs q = ⟨v1, v2, v3, v4 - 10, v5⟩) := ⟨HV.out⟩
    replace HC : Aside0 (ntC xs q = nt6 xs q) := ⟨HC.out⟩
    have c0 := (blk_cell O.out.b1 0).trans rfl; have c1 := (blk_cell O.out.b1 1).trans rfl; have c2 := (blk_cell O.out.b1 2).trans rfl; have c3 := (blk_cell O.out.b1 3).trans rfl; have c4 := (blk_cell O.out.b1 4).trans rfl
    have d0 := (blk_cell O.out.b2 0).trans rfl; have d1 := (blk_cell O.out.b2 1).trans rfl; have d2 := (blk_cell O.out.b2 2).trans rfl; have d3 := (blk_cell O.out.b2 3).trans rfl; have d4 := (blk_cell O.out.b2 4).trans rfl
    have z0 := blk_frozen O.out.b2 0; have z1 := blk_frozen O.out.b2 1; have z2 := blk_frozen O.out.b2 2; have z3 := blk_frozen O.out.b2 3; have z4 := blk_frozen O.out.b2 4
    go_wp2
    generalize hw : World.setCell _ _ _ = w8
    replace O := Aside0.mk (O.out.p2.st5 hw); clear hw
    refine bodyPost_ret (results_cell_row rfl _ _ g2 33 #[.int .i64 v1, .int .i64 v2, .int .i64 v3, .int .i64 (v4 - 10), .string v5] (0, 0) _ rfl O.out.b0 Try.underlying33 rfl (by kernel_rfl)) rfl ?_
    exact HQ.out _ _ ⟨by rw [HV.out]; rfl, by rw [HC.out]; exact O.out.drop.p1.drop⟩
end Go.Proofs.Ytocdlibnmlcokaa
namespace Go.Proofs.Ytocdlibnmlcokaa
open Go.RowKit Go.Proofs.YtocdlibnmlcokaaW.PrintWords Go.Proofs.YtocdlibnmlcokaaW.PrintLast Go.Proofs.Ytocdlibnmlcokaa.Math
set_option linter.unusedVariables false
set_option linter.unusedSimpArgs false
theorem BsOk.bs {l : List Int} (h : BsOk l) : Bs l := fun x hx => by have := h x hx; omega
theorem Bs.ok {l : List Int} (h : Bs l) : BsOk l := fun x hx => by have := h x hx; omega
theorem shTo_div (v : Int) : ∀ i, shTo (v / 256) i = shTo v (i + 1)
  | 0 => rfl
  | i + 1 => by
    have := shTo_div v i
    show shTo (v / 256) i / 256 = shTo v (i + 1) / 256
    rw [this]
theorem lowTo_cons (v : Int) : ∀ n, lowTo v (n + 1) = v % 256 :: lowTo (v / 256) n
  | 0 => rfl
  | n + 1 => by
    have := lowTo_cons v n
    show lowTo v (n + 1) ++ [shTo v (n + 1) % 256] = v % 256 :: (lowTo (v / 256) n ++ [shTo (v / 256) n % 256])
    rw [this, shTo_div]; rfl
theorem lowTo_eq : ∀ (n : Nat) (v : Int), lowTo v n = lowB v n
  | 0, v => rfl
  | n + 1, v => by rw [lowTo_cons, lowTo_eq n]; rfl
theorem numL_eq : ∀ {l : List Int}, Bs l → l.length ≤ 8 → numL l = numM l
  | [], _, _ => rfl
  | x :: r, h, hl => by
    have hr : Bs r := fun y hy => h y (List.mem_cons_of_mem _ hy)
    have h1 := h x List.mem_cons_self
    simp only [List.length_cons] at hl
    have h2 := numM_nonneg hr
    have h3 := numM_lt7 hr (by omega)
    show step8 (numL r) x = x + 256 * numM r
    rw [numL_eq hr (by omega)]
    exact or_join h2 h3 h1.1 h1.2
theorem u8_w (x : Int) : IntKind.u8.wrap x = x % 256 := by
  unfold IntKind.wrap
  simp [IntKind.signed, IntKind.bits]
theorem sumTo_eq (xs : List Int) : ∀ (k i : Nat), i + k = xs.length → checkFrom i (sumTo xs i) (xs.drop i) = sumTo xs xs.length
  | 0, i, h => by
    rw [List.drop_eq_nil_of_le (by omega), show i = xs.length by omega]; rfl
  | k + 1, i, h => by
    rw [List.drop_eq_getElem_cons (by omega : i < xs.length)]
    have := sumTo_eq xs k (i + 1) (by omega)
    rw [← this]
    show checkFrom (i + 1) (if i = 1 then sumTo xs i else (sumTo xs i + xs[i]) % 256) (xs.drop (i + 1)) = _
    congr 1
    show _ = if i = 1 then sumTo xs i else IntKind.u8.wrap (sumTo xs i + rd xs i)
    rw [u8_w, rd_nat, List.getD_eq_getElem?_getD, List.getElem?_eq_getElem (by omega : i < xs.length)]
    rfl
theorem preL_eq {g : Int} {p : List Int} (h : p.length ≤ 56) : preL g p = rawPage g p := by
  unfold preL
  rw [pre0_len, show 64 - (8 + p.length) = 56 - p.length by omega]
  unfold pre0 rawPage
  rw [lowTo_eq]
theorem blockL_eq {g : Int} {p : List Int} (h1 : 1 ≤ g) (h2 : g ≤ 1000000000) (h : p.length ≤ 56) : blockL g p = pageM true g p := by
  unfold blockL pageM
  rw [if_pos ⟨rfl, h1, h2, h⟩, preL_eq h]
  congr 1
  exact (sumTo_eq (rawPage g p) (rawPage g p).length 0 (by omega)).symm
theorem genOf_eq {b : List Int} (hb : BsOk b) : genOf b = numM ((b.take 6).drop 2) := by
  have h1 : Bs ((b.take 6).drop 2) := (hb.bs.take 6).drop 2
  have hl : ((b.take 6).drop 2).length ≤ 4 := by simp only [List.length_drop, List.length_take]; omega
  show wrap64 (numL ((b.take 6).drop 2)) = _
  rw [numL_eq h1 (by omega)]
  have h2 := numM_nonneg h1
  have h3 := numM_lt7 h1 (by omega)
  exact Math.w64 (by omega) (by omega)
theorem bytesOf_eq {b : List Int} (hb : BsOk b) : bytesOf b = (b.take (8 + b.getD 6 0).toNat).drop 8 := by
  have := hb.rd 6
  have e : rd b 6 = b.getD 6 0 := rfl
  show (b.take (8 + (rd b 6).toNat)).drop 8 = _
  rw [show 8 + (rd b 6).toNat = (8 + b.getD 6 0).toNat by rw [← e]; omega]
theorem pg_iff {b : List Int} (hb : BsOk b) : PgIs b ↔ (pageOfM b).1 = true := by
  unfold PgIs
  rw [genOf_eq hb, bytesOf_eq hb]
  have e : rd b 6 = b.getD 6 0 := rfl
  rw [e]
  constructor
  · rintro ⟨h1, h2, ⟨_, h3, h4, h5⟩, h6⟩
    rw [pageOfM_eq h1 h2, ← blockL_eq h3 h4 h5, if_pos h6]
  · intro h
    by_cases hc : b.length = 64 ∧ b.getD 6 0 ≤ 56
    · rw [pageOfM_eq hc.1 hc.2] at h
      by_cases h3 : pageM true (numM ((b.take 6).drop 2)) ((b.take (8 + b.getD 6 0).toNat).drop 8) = b
      · obtain ⟨_, _, _, g1, g2, g3⟩ := pageM_is h3 (fun e => by rw [e] at hc; simp at hc)
        exact ⟨hc.1, hc.2, ⟨rfl, g1, g2, g3⟩, by rw [blockL_eq g1 g2 g3]; exact h3⟩
      · rw [if_neg h3] at h; simp at h
    · rw [pageOfM_no hc] at h; simp at h
theorem pg_block {g : Int} {p : List Int} (h1 : 1 ≤ g) (h2 : g ≤ 1000000000) (h3 : p.length ≤ 56) (hp : BsOk p) : PgIs (blockL g p) ∧ genOf (blockL g p) = g ∧ bytesOf (blockL g p) = p := by
  have hb : BsOk (blockL g p) := block_ok hp h3
  have e := pageOf_pageM h1 h2 h3
  rw [← blockL_eq h1 h2 h3] at e
  have hi : PgIs (blockL g p) := (pg_iff hb).2 (by rw [e])
  refine ⟨hi, ?_, ?_⟩
  · rw [genOf_eq hb]
    have h64 : (blockL g p).length = 64 := hi.1
    have h6 : (blockL g p).getD 6 0 ≤ 56 := hi.2.1
    rw [pageOfM_eq h64 h6] at e
    split at e
    · simpa using congrArg (fun x => x.2.1) e
    · simp at e
  · rw [bytesOf_eq hb]
    have h64 : (blockL g p).length = 64 := hi.1
    have h6 : (blockL g p).getD 6 0 ≤ 56 := hi.2.1
    rw [pageOfM_eq h64 h6] at e
    split at e
    · simpa using congrArg (fun x => x.2.2) e
    · simp at e
theorem not_zeroB : ¬ PgIs zeroB := by
  rw [pg_iff zeroB_ok]
  intro h
  obtain ⟨_, e⟩ := pageOfM_ok h
  have h1 : ((pageM true (pageOfM zeroB).2.1 (pageOfM zeroB).2.2)).getD 0 0 = 0 := by rw [e]; rfl
  have h2 : (pageM true (pageOfM zeroB).2.1 (pageOfM zeroB).2.2).getD 0 0 = 76 := by
    have hne : pageM true (pageOfM zeroB).2.1 (pageOfM zeroB).2.2 ≠ [] := fun he => by rw [he] at e; simp [zeroB] at e
    unfold pageM at hne ⊢
    split
    · rw [rawPage_parts]; rfl
    · rename_i hn; rw [if_neg hn] at hne; exact absurd rfl hne
  rw [h1] at h2; exact absurd h2 (by decide)
def NtR (x : Nt) : Prop := NtOk x ∧ -9223372036854775808 ≤ x.n ∧ x.n ≤ 9223372036854775807
theorem ntOk_b {x : Nt} (h : NtOk x) : noteOk x.tick x.kind x.who x.text = true := by
  obtain ⟨h1, h2, h3, h4⟩ := h
  unfold noteOk
  exact decide_eq_true ⟨h1.1, h1.2, h2.1, h2.2, h3.1, h3.2, h4⟩
theorem frameL_eq {x : Nt} (h : NtOk x) : frameL x = frameM x.tick x.kind x.who x.n x.text := by
  rw [frameM_ok (ntOk_b h)]
  unfold frameL headM
  rw [lowTo_eq, lowTo_eq, lowTo_eq, u64_wrap]
theorem read_is {b : List Int} (hb : BsOk b) : (FrIs b ↔ (readM b).1 = true) ∧ (FrIs b → readM b = (true, (noteOf b).tick, (noteOf b).kind, (noteOf b).who, (noteOf b).n, (noteOf b).text, frLen b)) := by
  have e0 : rd b 0 = b.getD 0 0 := rfl
  have e1 : rd b 1 = b.getD 1 0 := rfl
  have e6 : rd b 6 = b.getD 6 0 := rfl
  have r1 := hb.rd 1; have r6 := hb.rd 6
  have q : ∀ i j, j - i ≤ 8 → numL (seg b i j) = numM ((b.take j).drop i) := fun i j h => numL_eq (l := (b.take j).drop i) ((hb.bs.take j).drop i) (by simp only [List.length_drop, List.length_take]; omega)
  have hw : ∀ i j, j - i ≤ 4 → wrap64 (numL (seg b i j)) = numM ((b.take j).drop i) := fun i j h => by
    rw [q i j (by omega)]
    have h1 : Bs ((b.take j).drop i) := (hb.bs.take j).drop i
    have h2 := numM_nonneg h1
    have h3 := numM_lt7 h1 (by simp only [List.length_drop, List.length_take]; omega)
    exact Math.w64 (by omega) (by omega)
  have n0 : noteOf b = ⟨numM ((b.take 6).drop 2), b.getD 6 0, numM ((b.take 9).drop 7), wrap64 (numM ((b.take 17).drop 9)), strOfNums ((b.take (17 + b.getD 1 0).toNat).drop 17)⟩ := by
    unfold noteOf
    rw [hw 2 6 (by omega), hw 7 9 (by omega), q 9 17 (by omega), e6, Math.w64 (x := b.getD 6 0) (by omega) (by omega)]
    show _ = _
    rw [show 17 + (rd b 1).toNat = (17 + b.getD 1 0).toNat by rw [← e1]; omega]
    rfl
  have hi : FrIs b → readM b = (true, (noteOf b).tick, (noteOf b).kind, (noteOf b).who, (noteOf b).n, (noteOf b).text, frLen b) := by
    rintro ⟨h1, h2, h3, h4⟩
    have h5 := ntOk_b h4
    rw [n0] at h5 ⊢
    exact readM_yes h1 h2 h3 h5
  refine ⟨⟨fun h => by rw [hi h], fun h => ?_⟩, hi⟩
  unfold readM at h
  simp only at h
  split at h
  · rename_i hc
    refine ⟨hc.1, hc.2.1, hc.2.2.1, ?_⟩
    rw [n0]
    have := noteOk_is hc.2.2.2
    exact ⟨⟨this.1, this.2.1⟩, ⟨this.2.2.1, this.2.2.2.1⟩, ⟨this.2.2.2.2.1, this.2.2.2.2.2.1⟩, this.2.2.2.2.2.2⟩
  · simp at h
theorem fr_read {x : Nt} (h : NtR x) (r : List Int) (hr : BsOk r) : FrIs (frameL x ++ r) ∧ noteOf (frameL x ++ r) = x ∧ frLen (frameL x ++ r) = 17 + x.text.size := by
  have hb : BsOk (frameL x ++ r) := (frameL_ok h.1).append hr
  have e := readM_frame (ntOk_b h.1) h.2 r
  rw [← frameL_eq h.1] at e
  obtain ⟨h1, h2⟩ := read_is hb
  have hi := h1.2 (by rw [e])
  have e2 := h2 hi
  rw [e] at e2
  simp only [Prod.mk.injEq, true_and] at e2
  obtain ⟨a, b, c, d, f, g⟩ := e2
  refine ⟨hi, ?_, g.symm⟩
  cases x; simp only at a b c d f
  cases hn : noteOf (frameL ⟨_, _, _, _, _⟩ ++ r)
  rw [hn] at a b c d f
  simp only at a b c d f
  rw [a, b, c, d, f]
theorem fr_short {x : Nt} (h : NtOk x) (m : Nat) (hm : m < 17 + x.text.size) : ¬ FrIs ((frameL x).take m) := by
  have hb : BsOk ((frameL x).take m) := fun y hy => frameL_ok h y (List.mem_of_mem_take hy)
  rw [(read_is hb).1, frameL_eq h, readM_short (ntOk_b h) m hm]
  simp
end Go.Proofs.Ytocdlibnmlcokaa
namespace Go.Proofs.Ytocdlibnmlcokaa
open Go.RowKit Go.Proofs.YtocdlibnmlcokaaW.PrintWords Go.Proofs.YtocdlibnmlcokaaW.PrintLast Go.Proofs.Ytocdlibnmlcokaa.Math
set_option linter.unusedVariables false
set_option linter.unusedSimpArgs false
def Ch (G : Int) : Int → List Int → List (List Int) → Prop
  | _, X, [] => X = []
  | last, X, b :: r =>
    if 56 ≤ X.length then PgIs b ∧ last ≤ genOf b ∧ genOf b ≤ G ∧ bytesOf b = X.take 56 ∧ Ch G (genOf b) (X.drop 56) r
    else (X = [] ∧ ¬ (PgIs b ∧ last ≤ genOf b ∧ genOf b ≤ G) ∨ X ≠ [] ∧ PgIs b ∧ last ≤ G ∧ genOf b = G ∧ bytesOf b = X) ∧ ∀ c ∈ r, ¬ (PgIs c ∧ G ≤ genOf c)
theorem ch_stale {G : Int} : ∀ {r : List (List Int)}, (∀ c ∈ r, ¬ (PgIs c ∧ G ≤ genOf c)) → Ch G G [] r
  | [], _ => rfl
  | c :: r, h => by
    unfold Ch
    rw [if_neg (by simp)]
    exact ⟨.inl ⟨rfl, fun ⟨h1, h2, _⟩ => h c List.mem_cons_self ⟨h1, h2⟩⟩, fun d hd => h d (List.mem_cons_of_mem _ hd)⟩
theorem ch_read {G : Int} : ∀ {bl : List (List Int)} {last : Int} {X : List Int}, Ch G last X bl → bodyL G last bl = X
  | [], last, X, h => by
    have h : X = [] := h
    rw [h]; rfl
  | b :: r, last, X, h => by
    unfold Ch at h
    by_cases h56 : 56 ≤ X.length
    · rw [if_pos h56] at h
      obtain ⟨h1, h2, h3, h4, h5⟩ := h
      rw [bodyL_yes ⟨h1, h2, h3⟩, if_neg (by rw [h4, List.length_take]; omega), ch_read h5, h4, List.take_append_drop]
    · rw [if_neg h56] at h
      obtain ⟨h1 | h1, _⟩ := h
      · rw [bodyL_no h1.2, h1.1]
      · obtain ⟨_, h2, h3, h4, h5⟩ := h1
        rw [bodyL_yes ⟨h2, by omega, by omega⟩, if_pos (by rw [h5]; omega), h5]
theorem pageB_shift (X : List Int) (k : Nat) (G : Int) : pageB X (k + 1) G = pageB (X.drop 56) k G := by
  unfold pageB
  rw [List.length_drop]
  by_cases h : (k + 1) * 56 < X.length
  · rw [if_pos h, if_pos (by omega)]
    congr 1
    unfold seg
    rw [List.take_drop, List.drop_drop]
    congr 1
    · omega
    · congr 1; omega
  · rw [if_neg h, if_neg (by omega)]
theorem pageB_zero {X : List Int} (G : Int) (h : X ≠ []) : pageB X 0 G = blockL G (X.take 56) := by
  unfold pageB
  have : 0 < X.length := List.length_pos_iff.2 h
  rw [if_pos (by omega)]
  congr 1
  unfold seg
  rw [Nat.zero_mul, List.drop_zero, Nat.zero_add]
  rcases Nat.le_total X.length 56 with h1 | h1
  · rw [Nat.min_eq_left h1, List.take_length, List.take_of_length_le h1]
  · rw [Nat.min_eq_right h1]
theorem pageB_nil (k : Nat) (G : Int) : pageB [] k G = zeroB := by unfold pageB; rw [if_neg (by simp)]
theorem page_is {X : List Int} {G : Int} (h : X ≠ []) (h1 : 1 ≤ G) (h2 : G ≤ 1000000000) (hb : BsOk X) : PgIs (pageB X 0 G) ∧ genOf (pageB X 0 G) = G ∧ bytesOf (pageB X 0 G) = X.take 56 := by
  rw [pageB_zero G h]
  exact pg_block h1 h2 (by rw [List.length_take]; omega) (fun x hx => hb x (List.mem_of_mem_take hx))
theorem same_of {r r' : List (List Int)} (hl : r'.length = r.length) (h : ∀ k, k < r.length → r'.getD k [] = r.getD k []) : r' = r := by
  refine List.ext_getElem hl fun k h1 h2 => ?_
  have := h k h2
  rw [List.getD_eq_getElem?_getD, List.getD_eq_getElem?_getD, List.getElem?_eq_getElem h1, List.getElem?_eq_getElem h2] at this
  exact this
theorem pre_take {X Y : List Int} (h : X <+: Y) (n : Nat) (hn : n ≤ X.length) : X.take n = Y.take n := by
  obtain ⟨t, rfl⟩ := h
  rw [List.take_append_of_le_length hn]
theorem pre_drop {X Y : List Int} (h : X <+: Y) (n : Nat) : X.drop n <+: Y.drop n := by
  obtain ⟨t, rfl⟩ := h
  rw [List.drop_append]
  exact List.prefix_append _ _
theorem ch_app {G : Int} (hg1 : 1 ≤ G) (hg2 : G ≤ 1000000000) : ∀ {bl bl' : List (List Int)} {last : Int} {X X' : List Int}, bl'.length = bl.length → Ch G last X bl → last ≤ G → X <+: X' → X.length < X'.length → X'.length ≤ 56 * bl.length → BsOk X' →
    (∀ k, k < bl.length → bl'.getD k [] = if X.length / 56 ≤ k ∧ k ≤ (X'.length - 1) / 56 then pageB X' k G else bl.getD k []) → Ch G last X' bl'
  | [], bl', last, X, X', hl, hc, hla, hp, hlt, hle, hb, h => by simp only [List.length_nil] at hle; omega
  | b :: r, [], last, X, X', hl, hc, hla, hp, hlt, hle, hb, h => by simp at hl
  | b :: r, b' :: r', last, X, X', hl, hc, hla, hp, hlt, hle, hb, h => by
    simp only [List.length_cons] at hl hle h
    have h0 := h 0 (by omega)
    simp only [List.getD_cons_zero] at h0
    have hs : ∀ k, k < r.length → r'.getD k [] = if X.length / 56 ≤ k + 1 ∧ k + 1 ≤ (X'.length - 1) / 56 then pageB (X'.drop 56) k G else r.getD k [] := fun k hk => by
      have := h (k + 1) (by omega)
      simp only [List.getD_cons_succ] at this
      rw [this, pageB_shift]
    unfold Ch at hc ⊢
    by_cases h56 : 56 ≤ X.length
    · rw [if_pos h56] at hc
      rw [if_pos (by omega)]
      obtain ⟨h1, h2, h3, h4, h5⟩ := hc
      rw [if_neg (by omega)] at h0
      subst h0
      refine ⟨h1, h2, h3, by rw [h4]; exact pre_take hp 56 h56, ch_app hg1 hg2 (by omega) h5 h3 (pre_drop hp 56) (by simp only [List.length_drop]; omega) (by simp only [List.length_drop]; omega) (fun x hx => hb x (List.mem_of_mem_drop hx)) (fun k hk => ?_)⟩
      rw [hs k hk]
      simp only [List.length_drop]
      by_cases hq : X.length / 56 ≤ k + 1 ∧ k + 1 ≤ (X'.length - 1) / 56
      · rw [if_pos hq, if_pos (by omega)]
      · rw [if_neg hq, if_neg (by omega)]
    · rw [if_neg h56] at hc
      obtain ⟨_, hst⟩ := hc
      rw [if_pos (by omega)] at h0
      have hne : X' ≠ [] := fun e => by rw [e] at hlt; simp at hlt
      obtain ⟨p1, p2, p3⟩ := page_is hne hg1 hg2 hb
      rw [← h0] at p1 p2 p3
      by_cases h57 : 56 ≤ X'.length
      · rw [if_pos h57]
        refine ⟨p1, by omega, by omega, p3, ?_⟩
        rw [p2]
        by_cases h58 : X'.length = 56
        · have : r' = r := same_of (by omega) (fun k hk => by rw [hs k hk, if_neg (by omega)])
          rw [this, List.drop_eq_nil_of_le (by omega)]
          exact ch_stale hst
        · refine ch_app hg1 hg2 (X := []) (by omega) (ch_stale hst) (by omega) List.nil_prefix (by simp only [List.length_drop, List.length_nil]; omega) (by simp only [List.length_drop]; omega) (fun x hx => hb x (List.mem_of_mem_drop hx)) (fun k hk => ?_)
          rw [hs k hk]
          simp only [List.length_drop, List.length_nil]
          by_cases hq : k + 1 ≤ (X'.length - 1) / 56
          · rw [if_pos (by omega), if_pos (by omega)]
          · rw [if_neg (by omega), if_neg (by omega)]
      · rw [if_neg h57]
        have : r' = r := same_of (by omega) (fun k hk => by rw [hs k hk, if_neg (by omega)])
        rw [this]
        exact ⟨.inr ⟨hne, p1, hla, p2, by rw [p3, List.take_of_length_le (by omega)]⟩, hst⟩
theorem ch_mix {G : Int} (hg1 : 1 ≤ G) (hg2 : G ≤ 1000000000) : ∀ {bl bl' : List (List Int)} {last : Int} {X Z : List Int}, bl'.length = bl.length → Ch G last X bl → last ≤ G → X <+: Z → BsOk Z →
    (∀ k, k < bl.length → bl'.getD k [] = bl.getD k [] ∨ ∃ Y, X <+: Y ∧ Y <+: Z ∧ k * 56 < Y.length ∧ X.length / 56 ≤ k ∧ bl'.getD k [] = pageB Y k G) →
    ∃ Y, X <+: Y ∧ Y <+: Z ∧ bodyL G last bl' = Y
  | [], [], last, X, Z, hl, hc, hla, hp, hb, h => by
    have hc : X = [] := hc
    subst hc
    exact ⟨[], List.prefix_rfl, hp, rfl⟩
  | [], b' :: r', last, X, Z, hl, hc, hla, hp, hb, h => by simp at hl
  | b :: r, [], last, X, Z, hl, hc, hla, hp, hb, h => by simp at hl
  | b :: r, b' :: r', last, X, Z, hl, hc, hla, hp, hb, h => by
    simp only [List.length_cons] at hl h
    have h0 := h 0 (by omega)
    simp only [List.getD_cons_zero] at h0
    have hs : ∀ k, k < r.length → r'.getD k [] = r.getD k [] ∨ ∃ Y, X <+: Y ∧ Y <+: Z ∧ (k + 1) * 56 < Y.length ∧ X.length / 56 ≤ k + 1 ∧ r'.getD k [] = pageB (Y.drop 56) k G := fun k hk => by
      have := h (k + 1) (by omega)
      simp only [List.getD_cons_succ, pageB_shift] at this
      exact this
    unfold Ch at hc
    by_cases h56 : 56 ≤ X.length
    · rw [if_pos h56] at hc
      obtain ⟨h1, h2, h3, h4, h5⟩ := hc
      rcases h0 with h0 | ⟨Y, _, _, _, hk, _⟩
      · subst h0
        obtain ⟨Y', a1, a2, a3⟩ := ch_mix hg1 hg2 (bl' := r') (Z := Z.drop 56) (by omega) h5 h3 (pre_drop hp 56) (fun x hx => hb x (List.mem_of_mem_drop hx)) (fun k hk => by
          rcases hs k hk with e | ⟨Y, b1, b2, b3, b4, b5⟩
          · exact .inl e
          · exact .inr ⟨Y.drop 56, pre_drop b1 56, pre_drop b2 56, by simp only [List.length_drop]; omega, by simp only [List.length_drop]; omega, b5⟩)
        refine ⟨X.take 56 ++ Y', ?_, ?_, ?_⟩
        · obtain ⟨t, ht⟩ := a1
          exact ⟨t, by rw [← ht, ← List.append_assoc, List.take_append_drop]⟩
        · obtain ⟨t, ht⟩ := a2
          exact ⟨t, by rw [pre_take hp 56 h56, List.append_assoc, ht, List.take_append_drop]⟩
        · rw [bodyL_yes ⟨h1, h2, h3⟩, if_neg (by rw [h4, List.length_take]; omega), a3, h4]
      · omega
    · rw [if_neg h56] at hc
      obtain ⟨hc, hst⟩ := hc
      rcases h0 with h0 | ⟨Y, y1, y2, y3, y4, y5⟩
      · subst h0
        refine ⟨X, List.prefix_rfl, hp, ?_⟩
        rcases hc with h1 | ⟨_, h2, h3, h4, h5⟩
        · rw [bodyL_no h1.2, h1.1]
        · rw [bodyL_yes ⟨h2, by omega, by omega⟩, if_pos (by rw [h5]; omega), h5]
      · have hne : Y ≠ [] := fun e => by rw [e] at y3; simp at y3
        have hbY : BsOk Y := fun x hx => hb x (y2.subset hx)
        obtain ⟨p1, p2, p3⟩ := page_is hne hg1 hg2 hbY
        rw [← y5] at p1 p2 p3
        by_cases h57 : Y.length < 56
        · refine ⟨Y, y1, y2, ?_⟩
          rw [bodyL_yes ⟨p1, by omega, by omega⟩, p3, List.take_of_length_le (by omega), if_pos h57]
        · obtain ⟨Y', a1, a2, a3⟩ := ch_mix hg1 hg2 (bl' := r') (X := []) (Z := Z.drop 56) (by omega) (ch_stale hst) (Int.le_refl G) List.nil_prefix (fun x hx => hb x (List.mem_of_mem_drop hx)) (fun k hk => by
            rcases hs k hk with e | ⟨Y, b1, b2, b3, b4, b5⟩
            · exact .inl e
            · exact .inr ⟨Y.drop 56, List.nil_prefix, pre_drop b2 56, by simp only [List.length_drop]; omega, by simp, b5⟩)
          refine ⟨Y.take 56 ++ Y', ?_, ?_, ?_⟩
          · have e : X = (Y.take 56).take X.length := by
              rw [List.take_take, Nat.min_eq_left (by omega)]
              obtain ⟨t, rfl⟩ := y1
              rw [List.take_left]
            rw [e]
            exact (List.take_prefix _ _).trans (List.prefix_append _ _)
          · obtain ⟨t, ht⟩ := a2
            exact ⟨t, by rw [pre_take y2 56 (by omega), List.append_assoc, ht, List.take_append_drop]⟩
          · rw [bodyL_yes ⟨p1, by omega, by omega⟩, p3, if_neg (by rw [List.length_take]; omega), p2, a3]
theorem ch_open {G : Int} (hg1 : 0 ≤ G) (hg2 : G + 1 ≤ 1000000000) : ∀ {bl bl' : List (List Int)} {last : Int} {X : List Int}, bl'.length = bl.length → last ≤ G + 1 → X <+: bodyL G last bl → BsOk X → (∀ c ∈ bl, BsOk c ∧ c.length = 64) →
    (∀ c ∈ bl, PgIs c → genOf c ≤ G) → (∀ k, k < bl.length → bl'.getD k [] = if k = X.length / 56 then pageB X k (G + 1) else bl.getD k []) → Ch (G + 1) last X bl'
  | [], [], last, X, hl, hla, hp, hb, hbl, hW, h => List.prefix_nil.1 hp
  | [], b' :: r', last, X, hl, hla, hp, hb, hbl, hW, h => by simp at hl
  | b :: r, [], last, X, hl, hla, hp, hb, hbl, hW, h => by simp at hl
  | b :: r, b' :: r', last, X, hl, hla, hp, hb, hbl, hW, h => by
    simp only [List.length_cons] at hl h
    have h0 := h 0 (by omega)
    simp only [List.getD_cons_zero] at h0
    have hs : ∀ k, k < r.length → r'.getD k [] = if k + 1 = X.length / 56 then pageB (X.drop 56) k (G + 1) else r.getD k [] := fun k hk => by
      have := h (k + 1) (by omega)
      simp only [List.getD_cons_succ, pageB_shift] at this
      exact this
    unfold Ch
    by_cases h56 : 56 ≤ X.length
    · rw [if_pos h56]
      rw [if_neg (by omega)] at h0
      subst h0
      have hbo := hbl b' List.mem_cons_self
      have hpl := hp.length_le
      by_cases hy : PgIs b' ∧ last ≤ genOf b' ∧ genOf b' ≤ G
      · rw [bodyL_yes hy] at hp hpl
        have hbl2 := bytesOf_len hbo.1 hbo.2 hy.1.2.1
        by_cases hsh : (bytesOf b').length < 56
        · rw [if_pos hsh] at hpl; omega
        · rw [if_neg hsh] at hp
          have e : bytesOf b' = X.take 56 := by
            rw [pre_take hp 56 h56, List.take_left' (by omega)]
          refine ⟨hy.1, hy.2.1, Int.le_trans hy.2.2 (by omega), e, ch_open hg1 hg2 (bl := r) (last := genOf b') (by omega) (Int.le_trans hy.2.2 (by omega)) ?_ (fun x hx => hb x (List.mem_of_mem_drop hx)) (fun c hc => hbl c (List.mem_cons_of_mem _ hc)) (fun c hc => hW c (List.mem_cons_of_mem _ hc)) (fun k hk => ?_)⟩
          · have := pre_drop hp 56
            rwa [List.drop_left' (by omega)] at this
          · rw [hs k hk]
            simp only [List.length_drop]
            by_cases hq : k + 1 = X.length / 56
            · rw [if_pos hq, if_pos (by omega)]
            · rw [if_neg hq, if_neg (by omega)]
      · rw [bodyL_no hy] at hpl; simp only [List.length_nil] at hpl; omega
    · rw [if_neg h56]
      rw [if_pos (by omega)] at h0
      have : r' = r := same_of (by omega) (fun k hk => by rw [hs k hk, if_neg (by omega)])
      subst this
      refine ⟨?_, fun c hc ⟨h1, h2⟩ => by have := hW c (List.mem_cons_of_mem _ hc) h1; omega⟩
      by_cases hne : X = []
      · refine .inl ⟨hne, fun hq => ?_⟩
        rw [h0, hne, pageB_nil] at hq
        exact not_zeroB hq.1
      · obtain ⟨p1, p2, p3⟩ := page_is hne (by omega : 1 ≤ G + 1) hg2 hb
        rw [← h0] at p1 p2 p3
        exact .inr ⟨hne, p1, hla, p2, by rw [p3, List.take_of_length_le (by omega)]⟩
def flatF : List Nt → List Int
  | [] => []
  | x :: r => frameL x ++ flatF r
def fitN : Nat → List Nt → Nat
  | _, [] => 0
  | m, x :: r => if 17 + x.text.size ≤ m then fitN (m - (17 + x.text.size)) r + 1 else 0
theorem flatF_ok : ∀ {ns : List Nt}, (∀ x ∈ ns, NtR x) → BsOk (flatF ns)
  | [], _ => fun x hx => by simp [flatF] at hx
  | x :: r, h => (frameL_ok (h x List.mem_cons_self).1).append (flatF_ok (fun y hy => h y (List.mem_cons_of_mem _ hy)))
theorem frames_cut : ∀ {ns : List Nt} (hns : ∀ x ∈ ns, NtR x) (m k : Nat), min m (flatF ns).length ≤ k → framesF k ((flatF ns).take m) = (ns.take (fitN m ns), (flatF (ns.take (fitN m ns))).length)
  | [], _, m, k, _ => by
    have e : (flatF []).take m = [] := by simp [flatF]
    rw [e, framesF_no (fun h => by have := h.1; simp at this)]
    simp [fitN, flatF]
  | x :: r, h, m, k, hk => by
    have hx := h x List.mem_cons_self
    have hr : ∀ y ∈ r, NtR y := fun y hy => h y (List.mem_cons_of_mem _ hy)
    have hl := frameL_len x
    simp only [flatF, List.length_append] at hk ⊢
    by_cases hm : 17 + x.text.size ≤ m
    · have et : (frameL x ++ flatF r).take m = frameL x ++ (flatF r).take (m - (17 + x.text.size)) := by
        rw [List.take_append, hl, List.take_of_length_le (by omega)]
      obtain ⟨a1, a2, a3⟩ := fr_read hx ((flatF r).take (m - (17 + x.text.size))) (fun y hy => flatF_ok hr y (List.mem_of_mem_take hy))
      obtain ⟨k', rfl⟩ : ∃ k', k = k' + 1 := ⟨k - 1, by omega⟩
      rw [et, framesF_yes a1, a2, a3, show (17 + (x.text.size : Int)).toNat = 17 + x.text.size by omega, List.drop_left' hl, frames_cut hr _ k' (by omega)]
      simp only [fitN, if_pos hm, List.take_succ_cons, flatF, List.length_append, hl]
    · have et : (frameL x ++ flatF r).take m = (frameL x).take m := by rw [List.take_append_of_le_length (by omega)]
      rw [et, framesF_no (fr_short hx.1 m (by omega))]
      simp [fitN, if_neg hm, flatF]
theorem fitN_le : ∀ (ns : List Nt) (m : Nat), fitN m ns ≤ ns.length
  | [], m => by simp [fitN]
  | x :: r, m => by
    simp only [fitN, List.length_cons]
    split
    · have := fitN_le r (m - (17 + x.text.size)); omega
    · omega
theorem fitN_ge : ∀ (ns : List Nt) (m j : Nat), j ≤ ns.length → (flatF (ns.take j)).length ≤ m → j ≤ fitN m ns
  | [], m, j, hj, _ => by
    have : j = 0 := by simpa using hj
    omega
  | x :: r, m, 0, _, _ => Nat.zero_le _
  | x :: r, m, j + 1, hj, hm => by
    simp only [List.take_succ_cons, flatF, List.length_append, frameL_len] at hm
    simp only [List.length_cons] at hj
    simp only [fitN]
    rw [if_pos (by omega)]
    have := fitN_ge r (m - (17 + x.text.size)) j (by omega) (by omega)
    omega
theorem fitN_fit : ∀ (ns : List Nt) (m : Nat), (flatF (ns.take (fitN m ns))).length ≤ m
  | [], m => by simp [fitN, flatF]
  | x :: r, m => by
    simp only [fitN]
    split
    · simp only [List.take_succ_cons, flatF, List.length_append, frameL_len]
      have := fitN_fit r (m - (17 + x.text.size)); omega
    · simp [flatF]
theorem flatF_app : ∀ (a b : List Nt), flatF (a ++ b) = flatF a ++ flatF b
  | [], b => rfl
  | x :: r, b => by simp only [List.cons_append, flatF, flatF_app r b, List.append_assoc]
theorem flatF_pre (ns : List Nt) (j : Nat) : flatF (ns.take j) <+: flatF ns := by
  conv => rhs; rw [← List.take_append_drop j ns]
  rw [flatF_app]
  exact List.prefix_append _ _
theorem frames_all {ns : List Nt} (h : ∀ x ∈ ns, NtR x) : framesL (flatF ns) = (ns, (flatF ns).length) := by
  have e := frames_cut h (flatF ns).length (flatF ns).length (by omega)
  rw [List.take_length] at e
  have h1 := fitN_ge ns (flatF ns).length ns.length (Nat.le_refl _) (by rw [List.take_length]; exact Nat.le_refl _)
  have h2 := fitN_le ns (flatF ns).length
  rw [show fitN (flatF ns).length ns = ns.length by omega, List.take_length] at e
  exact e
theorem frames_pre {ns : List Nt} (h : ∀ x ∈ ns, NtR x) {Y : List Int} (hy : Y <+: flatF ns) {s : Nat} (hs : s ≤ ns.length) (hsY : flatF (ns.take s) <+: Y) :
    ∃ j, s ≤ j ∧ j ≤ ns.length ∧ framesL Y = (ns.take j, (flatF (ns.take j)).length) ∧ Y.take (flatF (ns.take j)).length = flatF (ns.take j) := by
  have e : Y = (flatF ns).take Y.length := by obtain ⟨t, ht⟩ := hy; rw [← ht, List.take_left]
  refine ⟨fitN Y.length ns, fitN_ge ns _ s hs hsY.length_le, fitN_le ns _, ?_, ?_⟩
  · have := frames_cut h Y.length Y.length (by omega)
    rw [← e] at this
    exact this
  · have h1 := fitN_fit ns Y.length
    rw [pre_take hy _ h1]
    obtain ⟨t, ht⟩ := flatF_pre ns (fitN Y.length ns)
    rw [← ht, List.take_left]
end Go.Proofs.Ytocdlibnmlcokaa
namespace Go.Proofs.Ytocdlibnmlcokaa
open Go.RowKit Go.Proofs.YtocdlibnmlcokaaW.PrintWords Go.Proofs.YtocdlibnmlcokaaW.PrintLast Go.Proofs.Ytocdlibnmlcokaa.Math
set_option linter.unusedVariables false
set_option linter.unusedSimpArgs false
structure Good (S : List (List Int)) (X : List Int) (G : Int) : Prop where
  bl : BlOk S
  head : gBS S 0 = blockL G []
  ch : Ch G 1 X (S.drop 1)
  elder : ∀ c ∈ S.drop 1, PgIs c → genOf c ≤ G
  g1 : 1 ≤ G
  g2 : G ≤ 1000000000
theorem Good.head_is {S : List (List Int)} {X : List Int} {G : Int} (h : Good S X G) : headOk S ∧ genOf (gBS S 0) = G := by
  obtain ⟨a, b, c⟩ := pg_block (p := []) h.g1 h.g2 (by simp) (fun x hx => by simp at hx)
  rw [← h.head] at a b c
  exact ⟨⟨a, by rw [c]; rfl⟩, b⟩
theorem Good.gen {S : List (List Int)} {X : List Int} {G : Int} (h : Good S X G) : logGen S = G := by
  unfold logGen; rw [if_pos h.head_is.1, h.head_is.2]
theorem Good.bytes {S : List (List Int)} {X : List Int} {G : Int} (h : Good S X G) : logBytes S = X := by
  unfold logBytes; rw [if_pos h.head_is.1, h.head_is.2, ch_read h.ch]
def applyW (S : List (List Int)) (ws : List Wr) : List (List Int) := ws.foldl (fun s w => s.set w.block.toNat w.bytes) S
theorem applyW_len : ∀ (ws : List Wr) (S : List (List Int)), (applyW S ws).length = S.length
  | [], S => rfl
  | w :: r, S => by
    show (applyW (S.set w.block.toNat w.bytes) r).length = _
    rw [applyW_len r, List.length_set]
theorem applyW_app (S : List (List Int)) (a b : List Wr) : applyW S (a ++ b) = applyW (applyW S a) b := by unfold applyW; rw [List.foldl_append]
theorem setTo_apply (bs : List (List Int)) (ws : List Wr) : ∀ i, i ≤ ws.length → setTo bs ws (kfL true []) i = applyW bs (ws.take i)
  | 0, _ => rfl
  | i + 1, h => by
    have e : ws.take (i + 1) = ws.take i ++ [ws.getD i ⟨0, []⟩] := by
      rw [List.take_succ_eq_append_getElem (by omega), List.getD_eq_getElem?_getD, List.getElem?_eq_getElem (by omega)]; rfl
    rw [e, applyW_app, ← setTo_apply bs ws i (by omega)]
    rfl
theorem sync_apply (bs : List (List Int)) (ws : List Wr) : syncL bs ws = applyW bs ws := by
  have := setTo_apply bs ws ws.length (Nat.le_refl _)
  rw [List.take_length] at this
  exact this
theorem sync_app (bs : List (List Int)) (a b : List Wr) : syncL bs (a ++ b) = applyW (syncL bs a) b := by rw [sync_apply, sync_apply, applyW_app]
theorem getD_set {S : List (List Int)} {i j : Nat} {x : List Int} (hj : j < S.length) : (S.set i x).getD j [] = if i = j then x else S.getD j [] := by
  rw [List.getD_eq_getElem?_getD, List.getD_eq_getElem?_getD, List.getElem?_set]
  by_cases h : i = j
  · rw [if_pos h, if_pos h, if_pos (by omega)]; rfl
  · rw [if_neg h, if_neg h]
theorem apply_pages (S : List (List Int)) (X : List Int) (G : Int) (fr j : Nat) (hj : j < S.length) : ∀ n, (applyW S (pagesW X G fr n)).getD j [] = if fr + 1 ≤ j ∧ j ≤ fr + n then pageB X (j - 1) G else S.getD j []
  | 0 => by
    rw [if_neg (by omega)]; rfl
  | n + 1 => by
    rw [pagesW_succ, applyW_app]
    show ((applyW S (pagesW X G fr n)).set (((fr + n : Nat) : Int) + 1).toNat (pageB X (fr + n) G)).getD j [] = _
    rw [getD_set (by rw [applyW_len]; exact hj), apply_pages S X G fr j hj n, show (((fr + n : Nat) : Int) + 1).toNat = fr + n + 1 by omega]
    by_cases h : fr + n + 1 = j
    · rw [if_pos h, if_pos (by omega), show j - 1 = fr + n by omega]
    · rw [if_neg h]
      by_cases h2 : fr + 1 ≤ j ∧ j ≤ fr + n
      · rw [if_pos h2, if_pos (by omega)]
      · rw [if_neg h2, if_neg (by omega)]
theorem apply_zeros (S : List (List Int)) (j : Nat) (hj : j < S.length) : ∀ n, (applyW S (zerosW n)).getD j [] = if 1 ≤ j ∧ j ≤ n then zeroB else S.getD j []
  | 0 => by rw [if_neg (by omega)]; rfl
  | n + 1 => by
    rw [zerosW_succ, applyW_app]
    show ((applyW S (zerosW n)).set ((n : Int) + 1).toNat zeroB).getD j [] = _
    rw [getD_set (by rw [applyW_len]; exact hj), apply_zeros S j hj n, show ((n : Int) + 1).toNat = n + 1 by omega]
    by_cases h : n + 1 = j
    · rw [if_pos h, if_pos (by omega)]
    · rw [if_neg h]
      by_cases h2 : 1 ≤ j ∧ j ≤ n
      · rw [if_pos h2, if_pos (by omega)]
      · rw [if_neg h2, if_neg (by omega)]
theorem drop_getD (S : List (List Int)) (k : Nat) : (S.drop 1).getD k [] = S.getD (k + 1) [] := by
  rw [List.getD_eq_getElem?_getD, List.getD_eq_getElem?_getD, List.getElem?_drop, Nat.add_comm]
theorem mem_getD {l : List (List Int)} {c : List Int} (h : c ∈ l) : ∃ k, k < l.length ∧ l.getD k [] = c := by
  obtain ⟨k, hk, e⟩ := List.mem_iff_getElem.1 h
  exact ⟨k, hk, by rw [List.getD_eq_getElem?_getD, List.getElem?_eq_getElem hk]; exact e⟩
theorem gen_page (X : List Int) (k : Nat) {G : Int} (h1 : 1 ≤ G) (h2 : G ≤ 1000000000) (hb : BsOk X) : PgIs (pageB X k G) → genOf (pageB X k G) ≤ G := by
  intro h
  unfold pageB at h ⊢
  split
  · rw [(pg_block h1 h2 (seg_short X k) (hb.seg _ _)).2.1]; exact Int.le_refl _
  · rename_i hn
    rw [if_neg hn] at h
    exact absurd h not_zeroB
theorem chL {S : List (List Int)} (h : BlOk S) : (S.drop 1).length = 127 := by rw [List.length_drop, h.1]
theorem good_app {S : List (List Int)} {X X' : List Int} {G : Int} (h : Good S X G) (hp : X <+: X') (hlt : X.length < X'.length) (hle : X'.length ≤ 7112) (hb : BsOk X') :
    Good (applyW S (pagesW X' G (X.length / 56) (appN X.length X'.length))) X' G := by
  have hl := h.bl.1
  have hn : X.length / 56 + appN X.length X'.length = (X'.length - 1) / 56 + 1 := by unfold appN; omega
  have hg := fun j hj => apply_pages S X' G (X.length / 56) j hj (appN X.length X'.length)
  have hgd : ∀ k, k < 127 → ((applyW S (pagesW X' G (X.length / 56) (appN X.length X'.length))).drop 1).getD k [] = if X.length / 56 ≤ k ∧ k ≤ (X'.length - 1) / 56 then pageB X' k G else (S.drop 1).getD k [] := fun k hk => by
    rw [drop_getD, hg (k + 1) (by omega), drop_getD]
    by_cases hq : X.length / 56 ≤ k ∧ k ≤ (X'.length - 1) / 56
    · rw [if_pos hq, if_pos (by omega), Nat.add_sub_cancel]
    · rw [if_neg hq, if_neg (by omega)]
  have hbl : BlOk (applyW S (pagesW X' G (X.length / 56) (appN X.length X'.length))) := by
    have := sync_ok (bs := S) (ws := pagesW X' G (X.length / 56) (appN X.length X'.length)) (dk_of h.bl (by rw [pagesW_len]; omega) (pagesW_ok hb G _ _ (by omega))).1 (dk_of h.bl (by rw [pagesW_len]; omega) (pagesW_ok hb G _ _ (by omega))).2
    rwa [sync_apply] at this
  refine ⟨hbl, ?_, ?_, ?_, h.g1, h.g2⟩
  · have := hg 0 (by omega)
    rw [if_neg (by omega)] at this
    exact this.trans h.head
  · exact ch_app h.g1 h.g2 (by rw [chL hbl, chL h.bl]) h.ch h.g1 hp hlt (by rw [chL h.bl]; omega) hb (fun k hk => hgd k (by rw [chL h.bl] at hk; exact hk))
  · intro c hc hP
    obtain ⟨k, hk, e⟩ := mem_getD hc
    rw [chL hbl] at hk
    rw [hgd k hk] at e
    split at e
    · rw [← e] at hP ⊢
      exact gen_page X' k h.g1 h.g2 hb hP
    · refine h.elder c ?_ hP
      rw [← e, List.getD_eq_getElem?_getD, List.getElem?_eq_getElem (by rw [chL h.bl]; exact hk)]
      exact List.getElem_mem _
theorem good_new {S : List (List Int)} (h : BlOk S) : Good (applyW (S.set 0 (blockL 1 [])) (zerosW 127)) [] 1 := by
  have hz1 := zerosW_len 127
  have hz2 := zerosW_ok 127 (by omega)
  have hz3 := fun j hj => apply_zeros (S.set 0 (blockL 1 [])) j hj 127
  generalize zerosW 127 = Z at hz1 hz2 hz3 ⊢
  have hb1 : BlOk (applyW S (⟨0, blockL 1 []⟩ :: Z)) := by
    have hw : ∀ x ∈ (⟨0, blockL 1 []⟩ : Wr) :: Z, WrOk x := fun x hx => by
      rcases List.mem_cons.1 hx with rfl | hx
      · exact head_ok 1
      · exact hz2 x hx
    have := sync_ok (dk_of h (by simp only [List.length_cons]; omega) hw).1 (dk_of h (by simp only [List.length_cons]; omega) hw).2
    rwa [sync_apply] at this
  have hbl : BlOk (applyW (S.set 0 (blockL 1 [])) (Z)) := hb1
  have hl := h.1
  have hg := hz3
  have hgd : ∀ k, k < 127 → ((applyW (S.set 0 (blockL 1 [])) (Z)).drop 1).getD k [] = zeroB := fun k hk => by
    rw [drop_getD, hg (k + 1) (by rw [List.length_set]; omega), if_pos (by omega)]
  have hall : ∀ c ∈ (applyW (S.set 0 (blockL 1 [])) (Z)).drop 1, c = zeroB := fun c hc => by
    obtain ⟨k, hk, e⟩ := mem_getD hc
    rw [chL hbl] at hk
    rw [← e, hgd k hk]
  refine ⟨hbl, ?_, ch_stale (fun c hc hP => by rw [hall c hc] at hP; exact not_zeroB hP.1), (fun c hc hP => by rw [hall c hc] at hP; exact absurd hP not_zeroB), by omega, by omega⟩
  have := hg 0 (by rw [List.length_set]; omega)
  rw [if_neg (by omega), getD_set (by omega), if_pos rfl] at this
  exact this
theorem good_again {S : List (List Int)} {X : List Int} {G : Int} (h : BlOk S) (hG : 1 ≤ G) (hG2 : G + 1 ≤ 1000000000) (hX : X <+: bodyL G 1 (S.drop 1)) (hW : ∀ c ∈ S.drop 1, PgIs c → genOf c ≤ G) :
    Good (applyW (S.set 0 (blockL (G + 1) [])) (if X.length / 56 + 1 < 128 then [⟨((X.length / 56 : Nat) : Int) + 1, pageB X (X.length / 56) (G + 1)⟩] else [])) X (G + 1) := by
  have hl := h.1
  have hbX : BsOk X := fun x hx => (bodyL_ok 1 (S.drop 1) (fun b hb => h.2 b (List.mem_of_mem_drop hb))).1 x (hX.subset hx)
  obtain ⟨ws, hws⟩ : ∃ ws, ws = (if X.length / 56 + 1 < 128 then [(⟨((X.length / 56 : Nat) : Int) + 1, pageB X (X.length / 56) (G + 1)⟩ : Wr)] else []) := ⟨_, rfl⟩
  rw [← hws]
  have hw : ∀ x ∈ (⟨0, blockL (G + 1) []⟩ : Wr) :: ws, WrOk x := fun x hx => by
    rcases List.mem_cons.1 hx with rfl | hx
    · exact head_ok _
    · rw [hws] at hx
      split at hx
      · rw [List.mem_singleton] at hx
        subst hx
        exact ⟨⟨by simp only []; omega, by simp only []; omega, pageB_len _ _ _⟩, pageB_ok hbX _ _⟩
      · simp at hx
  have hwl : ws.length ≤ 1 := by rw [hws]; split <;> simp
  have hbl : BlOk (applyW (S.set 0 (blockL (G + 1) [])) ws) := by
    have hd := dk_of h (by simp only [List.length_cons]; omega) hw
    have := sync_ok hd.1 hd.2
    rwa [sync_apply] at this
  have hg : ∀ j, j < 128 → (applyW (S.set 0 (blockL (G + 1) [])) ws).getD j [] = if j = X.length / 56 + 1 then pageB X (X.length / 56) (G + 1) else if j = 0 then blockL (G + 1) [] else S.getD j [] := fun j hj => by
    rw [hws]
    by_cases hq : X.length / 56 + 1 < 128
    · rw [if_pos hq]
      show ((S.set 0 (blockL (G + 1) [])).set (((X.length / 56 : Nat) : Int) + 1).toNat (pageB X (X.length / 56) (G + 1))).getD j [] = _
      rw [getD_set (by rw [List.length_set]; omega), getD_set (by omega), show (((X.length / 56 : Nat) : Int) + 1).toNat = X.length / 56 + 1 by omega]
      by_cases h1 : j = X.length / 56 + 1
      · rw [if_pos h1.symm, if_pos h1]
      · rw [if_neg (fun e => h1 e.symm), if_neg h1]
        by_cases h2 : j = 0
        · rw [if_pos h2.symm, if_pos h2]
        · rw [if_neg (fun e => h2 e.symm), if_neg h2]
    · rw [if_neg hq, if_neg (by omega)]
      show (S.set 0 (blockL (G + 1) [])).getD j [] = _
      rw [getD_set (by omega)]
      by_cases h2 : j = 0
      · rw [if_pos h2.symm, if_pos h2]
      · rw [if_neg (fun e => h2 e.symm), if_neg h2]
  have hgd : ∀ k, k < 127 → ((applyW (S.set 0 (blockL (G + 1) [])) ws).drop 1).getD k [] = if k = X.length / 56 then pageB X k (G + 1) else (S.drop 1).getD k [] := fun k hk => by
    rw [drop_getD, hg (k + 1) (by omega), drop_getD]
    by_cases hq : k = X.length / 56
    · rw [if_pos hq, if_pos (by omega), hq]
    · rw [if_neg hq, if_neg (by omega), if_neg (by omega)]
  refine ⟨hbl, ?_, ?_, ?_, by omega, hG2⟩
  · have := hg 0 (by omega)
    rw [if_neg (by omega), if_pos rfl] at this
    exact this
  · exact ch_open (by omega) hG2 (by rw [chL hbl, chL h]) (by omega) hX hbX (fun c hc => (fun q : c.length = 64 ∧ BsOk c => ⟨q.2, q.1⟩) (h.2 c (List.mem_of_mem_drop hc))) hW (fun k hk => hgd k (by rw [chL h] at hk; exact hk))
  · intro c hc hP
    obtain ⟨k, hk, e⟩ := mem_getD hc
    rw [chL hbl] at hk
    rw [hgd k hk] at e
    split at e
    · rw [← e] at hP ⊢
      exact gen_page X k (by omega) hG2 hbX hP
    · have := hW c (by
        rw [← e, List.getD_eq_getElem?_getD, List.getElem?_eq_getElem (by rw [chL h]; exact hk)]
        exact List.getElem_mem _) hP
      omega
end Go.Proofs.Ytocdlibnmlcokaa
namespace Go.Proofs.Ytocdlibnmlcokaa
open Go.RowKit Go.Proofs.YtocdlibnmlcokaaW.PrintWords Go.Proofs.YtocdlibnmlcokaaW.PrintLast
set_option linter.unusedVariables false
set_option linter.unusedSimpArgs false
def blankB : List (List Int) := List.replicate 128 (List.replicate 64 0)
set_option maxRecDepth 100000 in
set_option maxHeartbeats 1000000 in
theorem implBlank_c (w : World) : Calls Try.prog 27 #[] w (GotDisk w blankB []) := by
  have hb := below_alloc (below_alloc (Below.refl w.heap.size w) (.cells #[.slice none 0 0, .slice none 0 0] 43)) (.cells #[.slice none 0 0, .slice none 0 0] 43)
  go_enter Try.func27, Try.ntmps27
  go_wp2
  generalize hw1 : World.alloc (World.alloc w _) _ = w1
  obtain ⟨K1, K2, hB, _⟩ := alloc2 hw1
  clear hw1 hb
  have BK1 := Aside0.mk K1; have BK2 := Aside0.mk K2; have HB := Aside0.mk hB; clear K1 K2 hB
  go_loopg [2] 128 (fun k v wr => ∃ (i : Int) (u : Value) (f0 : List Nat), v = .int .i64 i ∧ Aside0 (0 ≤ i ∧ i ≤ 128 ∧ 128 - i.toNat ≤ k) ∧ Aside0 (rBS.Row 22 wr u (List.replicate i.toNat (List.replicate 64 0)) f0) ∧ Aside0 (f0.Nodup ∧ ∀ b ∈ f0, w.heap.size ≤ b)
     ∧ Aside0 (wr.heap[w.heap.size]? = some (Obj.cells #[.slice none 0 0, .slice none 0 0] 43)) ∧ Aside0 (wr.heap[w.heap.size + 1]? = some (Obj.cells #[u, .slice none 0 0] 43)) ∧ Aside0 (Below w.heap.size w wr))
  case atStart => exact ⟨0, _, [], rfl, ⟨by simp⟩, ⟨Rp.Row_nil _ _ _⟩, ⟨by simp⟩, BK1, BK2, HB⟩
  case round =>
    clear BK1 BK2 HB
    obtain ⟨i, u, f0, rfl, HI, HO, HF, BK1, BK2, HB⟩ := hrel
    by_cases h1 : i < 128
    · have h0 : 0 ≤ i := HI.out.1
      go_wp2
      refine sta (fun w' => w'.cell? ⟨w.heap.size + 1, 0, none⟩ = some u) [6] 7 ((blk_cell BK2.out 0).trans rfl) (fun hS => ?_)
      replace HO := Aside0.mk (Rp.Row_drew HO.out)
      replace BK1 := Aside0.mk (blk_drew BK1.out)
      replace BK2 := Aside0.mk (blk_drew BK2.out)
      replace HB := Aside0.mk (below_drew HB.out)
      generalize wr.drew = wd at HO BK1 BK2 HB hS ⊢
      refine pu 0 1 ?_
      refine tk 1 3 hS ?_
      refine on 2 7 (fun K hK => ?_)
      refine Rp.mk_row_step rB (by rfl) 22 5 _ _ (by rfl) 64 (by rfl) (by rfl) Try.underlying22 (.int .u8 0) 1 info5 rfl (by decide) (by omega) 0 (fun _ => ⟨rfl, rfl⟩) (by omega) (by decide) ?_
      intro ga wa hga hra hba
      have nfa : ga ∉ f0 := fun h => by have := Rp.Row_lt HO.out _ h; omega
      have fa : w.heap.size ≤ ga := by have := HB.out.size; omega
      refine nx hK (pw_cell_below hba hS) (fun hS => ?_)
      clear hK K hga
      refine on 3 15 (fun K hK => ?_)
      refine va ?_
      refine nx hK (pw_cell_below (below_alloc (Below.refl _ _) _) hS) (fun hS => ?_)
      clear hK K
      have HOa := Rp.Row_below HO.out hba
      have BKa := blk_below BK2.out hba
      refine on 4 31 (fun K hK => ?_)
      refine Rp.app_one_step rBS (by rfl) (.tmp 5) (.tmp 7) 40 22 (.slice none 0 0) 24 (by rfl) Try.underlying40 info22 rfl (by decide) (by omega) u (List.replicate i.toNat (List.replicate 64 0)) (List.replicate 64 0) [.slice (some ⟨ga, 0, none⟩) 64 64] (by rfl) (by rfl) HOa ⟨_, rfl, hra⟩ (by rw [List.nodup_append]; exact ⟨HF.out.1, by simp, fun a ha b hb he => by simp at hb; subst hb; subst he; exact nfa ha⟩) (by simp; omega) ?_
      intro v1 w2 fp1 hr1 hn1 hf1 hg1
      generalize hL : List.replicate i.toNat (List.replicate 64 (0 : Int)) ++ [List.replicate 64 0] = L at hr1
      have HL := Aside0.mk hL; clear hL
      obtain ⟨Av, cv, rfl, _, _⟩ := Rp.Row_reads hr1
      obtain ⟨hr3, hk3, kp3⟩ := box_app HOa BKa (by decide) hg1 hr1 0
      have BKw := blk_grown BKa hg1 (Rp.Row_ne HOa (Rp.Row_not HOa BKa (by decide)))
      refine nx hK ((blk_cell BKw 0).trans rfl) (fun hS => ?_)
      clear hK K
      refine pu 5 63 ?_
      refine la 6 127 (fun K hK => ?_)
      have z := blk_frozen BKw 0
      refine st ?_
      refine nl hK (dn ?_)
      clear hK K z hS
      generalize w2.setCell _ _ = wf at hr3 hk3 kp3 ⊢
      have kp : Kp wd wf (f0 ++ [w.heap.size + 1]) := ((Kp.below hba).mono (by simp)).trans kp3 (fun b hb _ => hb)
      have BK1 := Aside0.mk (kp.blk BK1.out (by have := Rp.Row_not HO.out BK1.out (by decide); simp; exact this))
      have HB1 := Aside0.mk (kp.toBelow HB.out HB.out.size (fun b hb => by rcases List.mem_append.1 hb with h | h; exact HF.out.2 b h; simp at h; omega))
      have HF1 : Aside0 (fp1.Nodup ∧ ∀ b ∈ fp1, w.heap.size ≤ b) := ⟨hn1, fun b hb => by
        rcases hf1 b hb with h | h | h
        · exact HF.out.2 b h
        · simp at h; omega
        · have := hba.size; have := HB.out.size; omega⟩
      have HR1 := Aside0.mk hr3; have BK2 := Aside0.mk hk3
      clear hn1 hf1 hg1 hr1 hba hra hr3 hk3 kp kp3 HOa BKa BKw HO HB
      go_wp2
      go_roundg (gk - 1)
      case measure => have := HI.out; omega
      case rel =>
        refine ⟨i + 1, _, fp1, rfl, ⟨by have := HI.out; omega, by have := HI.out; omega, by have := HI.out; omega⟩, ?_, HF1, BK1, BK2, HB1⟩
        have := HR1.out; rw [show (i + 1).toNat = i.toNat + 1 by omega, List.replicate_succ', HL.out]; exact ⟨this⟩
    · have e1 : i = 128 := by have := HI.out; omega
      subst e1
      have HO2 := HO.out
      have e2 : List.replicate (128 : Int).toNat (List.replicate 64 (0 : Int)) = blankB := rfl
      rw [e2] at HO2
      obtain ⟨Au, cu, rfl, _, _⟩ := Rp.Row_reads HO2
      have c0_ := (blk_cell BK2.out 0).trans rfl
      have c1_ := (blk_cell BK2.out 1).trans rfl
      have c2_ := (blk_cell BK1.out 0).trans rfl
      have c3_ := (blk_cell BK1.out 1).trans rfl
      have z0_ := blk_frozen BK1.out 0
      have z1_ := blk_frozen BK1.out 1
      obtain ⟨K5, kp⟩ := set2 BK1.out (.slice Au blankB.length cu) (.slice none 0 0)
      have H2 := Aside0.mk HO2; clear HO2 e2 HO
      have K5 := Aside0.mk K5; have kp := Aside0.mk kp
      go_wp2
      refine bodyPost_ret (results_cell_row rfl _ _ (w.heap.size) 43 #[.slice Au blankB.length cu, .slice none 0 0] (0, 0) _ rfl K5.out Try.underlying43 rfl (by kernel_rfl)) rfl ?_
      have n2 := Rp.Row_not H2.out BK1.out (by decide)
      exact ⟨_, _, f0, [], rfl, kp.out.row H2.out (fun b hb h => by simp at h; exact n2 (h ▸ hb)), Rp.Row_nil _ _ _, by simpa using HF.out.1, by simpa using HF.out.2, kp.out.toBelow HB.out HB.out.size (fun b hb => by simp at hb; omega)⟩
end Go.Proofs.Ytocdlibnmlcokaa
namespace Go.Proofs.Ytocdlibnmlcokaa
open Go.RowKit Go.Proofs.YtocdlibnmlcokaaW.PrintWords Go.Proofs.YtocdlibnmlcokaaW.PrintLast Go.Proofs.Ytocdlibnmlcokaa.Math
set_option linter.unusedVariables false
set_option linter.unusedSimpArgs false
structure St (o : Opn) (ns : List Nt) (s : Nat) (G : Int) : Prop where
  ok : o.ok = true
  lg : o.lg = scanL o.bs o.ws
  dk : DkOk o.bs o.ws
  bk : BkOk o.bs o.ws
  nr : ∀ x ∈ ns, NtR x
  sl : s ≤ ns.length
  good0 : Good o.bs (flatF (ns.take s)) G
  good1 : Good (syncL o.bs o.ws) (flatF ns) G
  len : (flatF ns).length ≤ 7112
  ver : ∀ x ∈ o.ws, ∃ (k : Nat) (Y : List Int), x.block = k + 1 ∧ k < 127 ∧ x.bytes = pageB Y k G ∧ flatF (ns.take s) <+: Y ∧ Y <+: flatF ns ∧ k * 56 < Y.length ∧ (flatF (ns.take s)).length / 56 ≤ k
theorem sameN_take : ∀ (ns : List Nt) (s : Nat), s ≤ ns.length → sameN ns (ns.take s) = s
  | [], s, h => by
    have : s = 0 := by simpa using h
    subst this; rfl
  | x :: r, 0, h => rfl
  | x :: r, s + 1, h => by
    simp only [List.length_cons] at h
    simp only [List.take_succ_cons, sameN, if_true, sameN_take r s (by omega)]
theorem nr_take {ns : List Nt} (h : ∀ x ∈ ns, NtR x) (s : Nat) : ∀ x ∈ ns.take s, NtR x := fun x hx => h x (List.mem_of_mem_take hx)
theorem St.found1 {o : Opn} {ns : List Nt} {s : Nat} {G : Int} (h : St o ns s G) : foundL (syncL o.bs o.ws) = (ns, (flatF ns).length) := by
  unfold foundL; rw [h.good1.bytes, frames_all h.nr]
theorem St.lg_is {o : Opn} {ns : List Nt} {s : Nat} {G : Int} (h : St o ns s G) : o.lg = ⟨true, ns, (flatF ns).length, G, s⟩ := by
  have h0 : foundL o.bs = (ns.take s, (flatF (ns.take s)).length) := by unfold foundL; rw [h.good0.bytes, frames_all (nr_take h.nr s)]
  rw [h.lg]
  unfold scanL
  rw [h.found1, h0, h.good1.gen]
  simp only [sameN_take ns s h.sl]
theorem St.is {o : Opn} {ns : List Nt} {s : Nat} {G : Int} (h : St o ns s G) : o = ⟨true, ⟨true, ns, (flatF ns).length, G, s⟩, o.bs, o.ws⟩ := by
  have h1 := h.lg_is; have h2 := h.ok
  cases o; simp only at h1 h2; subst h1; subst h2; rfl
theorem St.right {o : Opn} {ns : List Nt} {s : Nat} {G : Int} (h : St o ns s G) : RightP o := ⟨h.ok, h.dk, h.lg, by rw [h.lg_is]; have := h.good1.g1; simp only; omega⟩
theorem st_of {S : List (List Int)} {ns : List Nt} {G : Int} (h : Good S (flatF ns) G) (hn : ∀ x ∈ ns, NtR x) (hl : (flatF ns).length ≤ 7112) : St ⟨true, scanL S [], S, []⟩ ns ns.length G :=
  { ok := rfl, lg := rfl, dk := (dk_of h.bl (by simp) (fun x hx => by simp at hx)).1, bk := (dk_of h.bl (by simp) (fun x hx => by simp at hx)).2, nr := hn, sl := Nat.le_refl _,
    good0 := by rw [List.take_length]; exact h, good1 := h, len := hl, ver := fun x hx => by simp at hx }
theorem st_new {S : List (List Int)} (h : BlOk S) (hg : logGen S = 0) : St (openS S) [] 0 1 := by
  have hgd := good_new h
  have hS : syncL S (openWs S) = applyW (S.set 0 (blockL 1 [])) (zerosW 127) := by
    rw [sync_apply]
    unfold openWs
    rw [if_pos hg, hg]
    generalize zerosW 127 = Z
    show applyW (S.set (0 : Int).toNat (blockL (0 + 1) [])) Z = _
    rw [show (0 : Int) + 1 = 1 from rfl, show (0 : Int).toNat = 0 from rfl]
  generalize applyW (S.set 0 (blockL 1 [])) (zerosW 127) = T at hgd hS
  have he : openS S = ⟨true, scanL (syncL S (openWs S)) [], syncL S (openWs S), []⟩ := by unfold openS; rw [if_neg (by rw [hg]; decide)]
  rw [he, hS]
  exact st_of (ns := []) hgd (fun x hx => by simp at hx) (by simp [flatF])
theorem St.commit {o : Opn} {ns : List Nt} {s : Nat} {G : Int} (h : St o ns s G) : St (commitS (syncL o.bs o.ws)) ns ns.length G := st_of h.good1 h.nr h.len
theorem St.fits {o : Opn} {ns : List Nt} {s : Nat} {G : Int} (h : St o ns s G) {x : Nt} : (appX o.bs o.ws x) = flatF (ns ++ [x]) ∧ (flatF (ns ++ [x])).length = (flatF ns).length + (17 + x.text.size) := by
  unfold appX
  rw [h.good1.bytes, h.found1]
  simp only [List.take_length, flatF_app, flatF, List.append_nil, List.length_append, frameL_len]
  exact ⟨trivial, trivial⟩
theorem St.append {o : Opn} {ns : List Nt} {s : Nat} {G : Int} (h : St o ns s G) {x : Nt} (hx : NtR x) (hl : (flatF (ns ++ [x])).length ≤ 7112) (hw : o.ws.length + appN (flatF ns).length (flatF (ns ++ [x])).length ≤ 200) :
    St (appendO o.bs o.ws x) (ns ++ [x]) s G := by
  obtain ⟨e1, e2⟩ := h.fits (x := x)
  have eo : appendO o.bs o.ws x = ⟨true, scanL o.bs (o.ws ++ pagesW (flatF (ns ++ [x])) G ((flatF ns).length / 56) (appN (flatF ns).length (flatF (ns ++ [x])).length)), o.bs, o.ws ++ pagesW (flatF (ns ++ [x])) G ((flatF ns).length / 56) (appN (flatF ns).length (flatF (ns ++ [x])).length)⟩ := by
    unfold appendO
    rw [e1, h.found1, h.good1.gen]
    simp only
    rw [if_pos ⟨hl, hw⟩]
  rw [eo]
  have hnr : ∀ y ∈ ns ++ [x], NtR y := fun y hy => by
    rcases List.mem_append.1 hy with h1 | h1
    · exact h.nr y h1
    · rw [List.mem_singleton] at h1; rw [h1]; exact hx
  have hts : (ns ++ [x]).take s = ns.take s := List.take_append_of_le_length h.sl
  have hb := flatF_ok hnr
  have hpre : flatF ns <+: flatF (ns ++ [x]) := by rw [flatF_app]; exact List.prefix_append _ _
  have hn : (flatF ns).length / 56 + appN (flatF ns).length (flatF (ns ++ [x])).length = ((flatF (ns ++ [x])).length - 1) / 56 + 1 := by unfold appN; omega
  have hpo := pagesW_ok hb G ((flatF ns).length / 56) (appN (flatF ns).length (flatF (ns ++ [x])).length) (by omega)
  have hdd : DkOk o.bs (o.ws ++ pagesW (flatF (ns ++ [x])) G ((flatF ns).length / 56) (appN (flatF ns).length (flatF (ns ++ [x])).length)) ∧ BkOk o.bs (o.ws ++ pagesW (flatF (ns ++ [x])) G ((flatF ns).length / 56) (appN (flatF ns).length (flatF (ns ++ [x])).length)) :=
    dk_of h.good0.bl (by rw [List.length_append, pagesW_len]; exact hw) (fun y hy => by
      rcases List.mem_append.1 hy with h1 | h1
      · exact ⟨h.dk.2.2.2 y h1, h.bk.2 y h1⟩
      · exact hpo y h1)
  exact { ok := rfl, lg := rfl, dk := hdd.1, bk := hdd.2, nr := hnr, sl := by rw [List.length_append]; have := h.sl; omega,
          good0 := by rw [hts]; exact h.good0
          good1 := by
            simp only [sync_app]
            exact good_app h.good1 hpre (by omega) hl hb
          len := hl
          ver := fun y hy => by
            rw [hts]
            rcases List.mem_append.1 hy with h1 | h1
            · obtain ⟨k, Y, a1, a2, a3, a4, a5, a6, a7⟩ := h.ver y h1
              exact ⟨k, Y, a1, a2, a3, a4, a5.trans hpre, a6, a7⟩
            · simp only [pagesW, List.mem_map, List.mem_range] at h1
              obtain ⟨i, hi, rfl⟩ := h1
              refine ⟨(flatF ns).length / 56 + i, flatF (ns ++ [x]), rfl, by omega, rfl, (flatF_pre ns s).trans hpre, List.prefix_rfl, by omega, ?_⟩
              have := (flatF_pre ns s).length_le
              omega }
theorem setTo_ver (bs : List (List Int)) (ws : List Wr) (kf : Nat → Bool) (j : Nat) (hj : j < bs.length) : ∀ i, i ≤ ws.length → (setTo bs ws kf i).getD j [] = bs.getD j [] ∨ ∃ x ∈ ws, x.block.toNat = j ∧ (setTo bs ws kf i).getD j [] = x.bytes
  | 0, _ => .inl rfl
  | i + 1, h => by
    simp only [setTo]
    split
    · rw [getD_set (by rw [setTo_len]; exact hj)]
      have hm : ws.getD i ⟨0, []⟩ ∈ ws := by rw [List.getD_eq_getElem?_getD, List.getElem?_eq_getElem (by omega)]; exact List.getElem_mem _
      by_cases e : (ws.getD i ⟨0, []⟩).block.toNat = j
      · rw [if_pos e]; exact .inr ⟨_, hm, e, rfl⟩
      · rw [if_neg e]; exact setTo_ver bs ws kf j hj i (by omega)
    · exact setTo_ver bs ws kf j hj i (by omega)
theorem settle_bytes {bs : List (List Int)} {ws : List Wr} (kf : Nat → Bool) (hd : DkOk bs ws) (hk : BkOk bs ws) : BlOk (settleL bs ws kf) := by
  obtain ⟨h1, h2⟩ := settle_ok kf hd
  refine ⟨h1, fun b hb => ⟨h2 b hb, ?_⟩⟩
  obtain ⟨j, hj, e⟩ := mem_getD hb
  rcases setTo_ver bs ws kf j (by rw [h1] at hj; rw [hd.1]; exact hj) ws.length (Nat.le_refl _) with h | ⟨x, hx, _, h⟩
  · rw [← e]
    show BsOk ((setTo bs ws kf ws.length).getD j [])
    rw [h, List.getD_eq_getElem?_getD, List.getElem?_eq_getElem (by rw [h1] at hj; rw [hd.1]; exact hj)]
    exact hk.1 _ (List.getElem_mem _)
  · rw [← e]
    show BsOk ((setTo bs ws kf ws.length).getD j [])
    rw [h]
    exact hk.2 x hx
theorem St.crash {o : Opn} {ns : List Nt} {s : Nat} {G : Int} (h : St o ns s G) (kf : Nat → Bool) (hG : G + 1 ≤ 1000000000) :
    ∃ j, s ≤ j ∧ j ≤ ns.length ∧ St (openS (settleL o.bs o.ws kf)) (ns.take j) j (G + 1) := by
  obtain ⟨S, hS⟩ : ∃ S, S = settleL o.bs o.ws kf := ⟨_, rfl⟩
  have hbl : BlOk S := hS ▸ settle_bytes kf h.dk h.bk
  have hl := hbl.1
  have hl0 := h.good0.bl.1
  have hb := flatF_ok h.nr
  have hv : ∀ j, j < 128 → S.getD j [] = o.bs.getD j [] ∨ ∃ x ∈ o.ws, x.block.toNat = j ∧ S.getD j [] = x.bytes := fun j hj => by
    rw [hS]; exact setTo_ver o.bs o.ws kf j (by omega) o.ws.length (Nat.le_refl _)
  have hhead : gBS S 0 = blockL G [] := by
    rcases hv 0 (by omega) with e | ⟨x, hx, e, _⟩
    · exact e.trans h.good0.head
    · obtain ⟨k, Y, a1, _⟩ := h.ver x hx
      omega
  have hpage : ∀ k, k < 127 → (S.drop 1).getD k [] = (o.bs.drop 1).getD k [] ∨ ∃ Y, flatF (ns.take s) <+: Y ∧ Y <+: flatF ns ∧ k * 56 < Y.length ∧ (flatF (ns.take s)).length / 56 ≤ k ∧ (S.drop 1).getD k [] = pageB Y k G := fun k hk => by
    rw [drop_getD, drop_getD]
    rcases hv (k + 1) (by omega) with e | ⟨x, hx, e, e2⟩
    · exact .inl e
    · obtain ⟨k', Y, a1, a2, a3, a4, a5, a6, a7⟩ := h.ver x hx
      obtain rfl : k' = k := by omega
      exact .inr ⟨Y, a4, a5, a6, a7, by rw [e2, a3]⟩
  obtain ⟨Y, y1, y2, y3⟩ := ch_mix h.good0.g1 h.good0.g2 (bl' := S.drop 1) (by rw [chL hbl, chL h.good0.bl]) h.good0.ch h.good0.g1 (flatF_pre ns s) hb (fun k hk => hpage k (by rw [chL h.good0.bl] at hk; exact hk))
  have hW : ∀ c ∈ S.drop 1, PgIs c → genOf c ≤ G := fun c hc hP => by
    obtain ⟨k, hk, e⟩ := mem_getD hc
    rw [chL hbl] at hk
    rcases hpage k hk with e2 | ⟨Y, _, a5, _, _, e2⟩
    · refine h.good0.elder c ?_ hP
      rw [← e, e2, List.getD_eq_getElem?_getD, List.getElem?_eq_getElem (by rw [chL h.good0.bl]; exact hk)]
      exact List.getElem_mem _
    · rw [← e, e2] at hP ⊢
      exact gen_page Y k h.good0.g1 h.good0.g2 (fun x hx => hb x (a5.subset hx)) hP
  obtain ⟨p1, p2, p3⟩ := pg_block (p := []) h.good0.g1 h.good0.g2 (by simp) (fun x hx => by simp at hx)
  rw [← hhead] at p1 p2 p3
  have hho : headOk S := ⟨p1, by rw [p3]; rfl⟩
  have hgen : logGen S = G := by unfold logGen; rw [if_pos hho, p2]
  have hby : logBytes S = Y := by unfold logBytes; rw [if_pos hho, p2, y3]
  obtain ⟨j, j1, j2, j3, j4⟩ := frames_pre h.nr y2 h.sl y1
  have hfo : foundL S = (ns.take j, (flatF (ns.take j)).length) := by unfold foundL; rw [hby, j3]
  refine ⟨j, j1, j2, ?_⟩
  rw [← hS]
  have g1 := h.good0.g1
  have hlj : (flatF (ns.take j)).length ≤ 7112 := by have := (flatF_pre ns j).length_le; have := h.len; omega
  have hX : flatF (ns.take j) <+: bodyL G 1 (S.drop 1) := by
    rw [y3, ← j4]; exact List.take_prefix _ _
  have hgood := good_again hbl g1 hG hX hW
  have hop : syncL S (openWs S) = applyW (S.set 0 (blockL (G + 1) [])) (if (flatF (ns.take j)).length / 56 + 1 < 128 then [⟨(((flatF (ns.take j)).length / 56 : Nat) : Int) + 1, pageB (flatF (ns.take j)) ((flatF (ns.take j)).length / 56) (G + 1)⟩] else []) := by
    rw [sync_apply]
    unfold openWs
    rw [hgen, hfo, hby, if_neg (by omega)]
    simp only [j4]
    rfl
  have he : openS S = ⟨true, scanL (syncL S (openWs S)) [], syncL S (openWs S), []⟩ := by unfold openS; rw [if_neg (by rw [hgen]; omega)]
  rw [he, hop]
  have := st_of hgood (nr_take h.nr j) hlj
  rwa [List.length_take, Nat.min_eq_left j2] at this
theorem blank_gen : logGen blankB = 0 := by
  have : ¬ headOk blankB := fun h => not_zeroB h.1
  unfold logGen
  rw [if_neg this]
theorem blank_ok : BlOk blankB := ⟨by simp [blankB], fun b hb => by
  rw [List.eq_of_mem_replicate hb]
  exact ⟨by simp, zeroB_ok⟩⟩
end Go.Proofs.Ytocdlibnmlcokaa
namespace Go.Proofs.Ytocdlibnmlcokaa
open Go.RowKit Go.Proofs.YtocdlibnmlcokaaW.PrintWords Go.Proofs.YtocdlibnmlcokaaW.PrintLast
set_option linter.unusedVariables false
set_option linter.unusedSimpArgs false
def ntsL (xs : List Int) : Nat → Cu → List Nt
  | 0, _ => []
  | k + 1, q => ntV xs q :: ntsL xs k (ntC xs q)
def cu0 : Cu := ⟨0, 0⟩
def notesOf (xs : List Int) : List Nt := ntsL xs (pkV xs 12 cu0).toNat (pkC xs 12 cu0)
theorem ntsL_len (xs : List Int) : ∀ k q, (ntsL xs k q).length = k
  | 0, _ => rfl
  | k + 1, q => by simp only [ntsL, List.length_cons, ntsL_len xs k]
theorem ntsL_ok (xs : List Int) : ∀ k q, ∀ x ∈ ntsL xs k q, NtR x
  | 0, _, x, h => by simp [ntsL] at h
  | k + 1, q, x, h => by
    rcases List.mem_cons.1 h with rfl | h
    · exact ntV_ok xs q
    · exact ntsL_ok xs k _ x h
theorem notesOf_ok (xs : List Int) : (∀ x ∈ notesOf xs, NtR x) ∧ (notesOf xs).length ≤ 11 := by
  refine ⟨ntsL_ok xs _ _, ?_⟩
  have := pkV_range xs cu0 (k := 12) (by omega)
  unfold notesOf
  rw [ntsL_len]; omega
set_option maxHeartbeats 4000000 in
set_option maxRecDepth 100000 in
theorem notes_c (A : Option Addr) (c : Nat) (xs : List Int) (w : World) (hx : kB.C w A xs.length xs) (hb : BsOk xs) :
    Calls Try.prog 31 #[.slice A xs.length c] w (GotRow rN 33 w (notesOf xs)) := by
  obtain ⟨R, hR⟩ : ∃ R, R = notesOf xs := ⟨_, rfl⟩
  rw [← hR]
  suffices H : ∀ Q : Ending → World → Prop, (∀ e w', GotRow rN 33 w R e w' → Q e w') → Calls Try.prog 31 #[.slice A xs.length c] w Q from H _ (fun e w' h => h)
  intro Q hQ
  have HB := Aside0.mk hb; have HX := Aside0.mk hx; have HQ := Aside0.mk hQ; clear hb hx hQ
  have r1 := pkV_range xs cu0 (k := 12) (by omega)
  have p1 := pkC_p xs 12 cu0
  unfold notesOf at hR
  obtain ⟨n, hn⟩ : ∃ n : Nat, (n : Int) = pkV xs 12 cu0 := ⟨(pkV xs 12 cu0).toNat, by omega⟩
  have hn2 : (pkV xs 12 cu0).toNat = n := by omega
  rw [hn2] at hR
  have HR := Aside0.mk hR; clear hR
  go_enter Try.func31, Try.ntmps31
  go_upto_region 2 with (fail)
  generalize hw : w.alloc _ = w1
  have O := Aside0.mk ((Own.nil w).of hw); clear hw
  generalize w.heap.size = g at O ⊢
  go_upto_region 3 with (fail)
  go_wp2_with fail
  refine (pick_c A c xs cu0 g 12 O.out HX.out HB.out (by show (0:Int) ≤ 0; omega) (by show (0:Int) ≤ _; omega) (by omega) (by omega)).mono ?_
  rintro e w2 ⟨rfl, hO⟩
  clear O; have O := Aside0.mk (hO.nilRow rN 33); clear hO
  have hp1 : 0 ≤ (pkC xs 12 cu0).p ∧ (pkC xs 12 cu0).p ≤ 2 := p1
  generalize pkC xs 12 cu0 = q1 at HR O hp1
  rw [← hn]
  have hn11 : n ≤ 11 := by omega
  clear hn hn2 p1 r1
  go_wp2
  go_loopg [4, 5] (n + 1) (fun m vr vi wr => ∃ (j : Nat) (ns : List Nt) (q : Cu), vi = .int .i64 j ∧ Aside0 (j ≤ n ∧ j + 1 ≤ m ∧ ns.length + j = n ∧ 0 ≤ q.p ∧ q.p + 424 * j ≤ 5000) ∧ Aside0 (R = ns ++ ntsL xs j q) ∧ Aside0 (Own w wr [Rs.row rN 33 vr ns, Rs.box g 123 (cuB A xs.length c q)]))
  case atStart => exact ⟨n, [], q1, rfl, ⟨by omega, by omega, by simp, by omega, by omega⟩, HR, O⟩
  case round =>
    clear O HR
    obtain ⟨j, ns, q, rfl, HJ, HR, O⟩ := hrel
    cases j with
    | zero =>
      go_wp2
      have e : R = ns := by rw [HR.out]; simp [ntsL]
      obtain ⟨f, hf, hnd, hl2, hc⟩ := O.out.take
      exact HQ.out _ _ ⟨_, rfl, ⟨f, e ▸ hf, hnd, hl2⟩, O.out.bel⟩
    | succ j =>
      have hj := HJ.out
      obtain ⟨An, cn, rfl, _⟩ := O.out.f0
      have p2 := (nt_p xs q).2.2.2.2.2.2
      go_wp2_with fail
      refine (note_c A c xs q g O.out.p1 HX.out HB.out (by omega) (by omega)).mono ?_
      rintro e w3 ⟨rfl, hO⟩
      clear O
      have HR2 : Aside0 (R = (ns ++ [ntV xs q]) ++ ntsL xs j (ntC xs q)) := ⟨by rw [HR.out]; simp [ntsL]⟩
      have O := Aside0.mk ((hO.p1.cel0 (N_mk _ (ntV xs q))).p1); clear hO HR
      unfold vN
      generalize ntV xs q = x at O HR2 ⊢
      generalize ntC xs q = q2 at O HR2 p2
      go_upto_region 5 with (at_builtin; go_loud (refine Own.app_one rN rfl (.tmp 15) (.tmp 18) 48 33 (.agg #[.int .i64 0, .int .i64 0, .int .i64 0, .int .i64 0, .string { data := #[] }]) 48 rfl Try.underlying48 info33 rfl (by decide) (by decide) (.slice An ns.length cn) ns x _ rfl rfl O.out (by omega) ?_); intro v5 w5 hX; have O5 := Aside0.mk hX; clear hX)
      clear O
      go_wp2
      go_roundg (gk - 1)
      case measure => omega
      case rel => exact ⟨j, ns ++ [x], q2, by first | rfl | (congr 1; omega), ⟨by omega, by omega, by rw [List.length_append]; simp; omega, by omega, by omega⟩, HR2, O5⟩
end Go.Proofs.Ytocdlibnmlcokaa
namespace Go.Proofs.Ytocdlibnmlcokaa
open Go.RowKit Go.Proofs.YtocdlibnmlcokaaW.PrintWords Go.Proofs.YtocdlibnmlcokaaW.PrintLast
attribute [local go_sem high] eqN33
set_option linter.unusedVariables false
set_option linter.unusedSimpArgs false
def kpL (xs : List Int) : Nat → Cu → List Bool
  | 0, _ => []
  | k + 1, q => decide (0 < pkV xs 3 q) :: kpL xs k (pkC xs 3 q)
def kpQ (xs : List Int) : Nat → Cu → Cu
  | 0, q => q
  | k + 1, q => kpQ xs k (pkC xs 3 q)
def kpV (xs : List Int) (q : Cu) : List Bool := kpL xs (pkV xs 30 q).toNat (pkC xs 30 q)
def kpC (xs : List Int) (q : Cu) : Cu := kpQ xs (pkV xs 30 q).toNat (pkC xs 30 q)
set_option maxHeartbeats 4000000 in
set_option maxRecDepth 100000 in
theorem kept_c (A : Option Addr) (c : Nat) (xs : List Int) (q : Cu) (g : Nat) {w0 w : World} {L : List Rs} (h : Own w0 w (Rs.box g 123 (cuB A xs.length c q) :: L)) (hx : kB.C w0 A xs.length xs) (hb : BsOk xs) (h0 : 0 ≤ q.p) (h1 : q.p ≤ 800000000) :
    Calls Try.prog 126 #[.pointer (some ⟨g, 0, none⟩)] w (fun e w' => ∃ v, e = .returned v ∧ Own w0 w' (Rs.row Rp.bool 4 v (kpV xs q) :: Rs.box g 123 (cuB A xs.length c (kpC xs q)) :: L)) := by
  obtain ⟨R, hR⟩ : ∃ R, R = kpV xs q := ⟨_, rfl⟩
  obtain ⟨C, hC⟩ : ∃ C, C = kpC xs q := ⟨_, rfl⟩
  rw [← hR, ← hC]
  suffices H : ∀ Q : Ending → World → Prop, (∀ e w', (∃ v, e = .returned v ∧ Own w0 w' (Rs.row Rp.bool 4 v R :: Rs.box g 123 (cuB A xs.length c C) :: L)) → Q e w') → Calls Try.prog 126 #[.pointer (some ⟨g, 0, none⟩)] w Q from H _ (fun e w' h => h)
  intro Q hQ
  have O := Aside0.mk h; have HB := Aside0.mk hb; have HX := Aside0.mk hx; have HQ := Aside0.mk hQ; clear h hb hx hQ
  have r1 := pkV_range xs q (k := 30) (by omega)
  have p1 := pkC_p xs 30 q
  unfold kpV at hR
  unfold kpC at hC
  obtain ⟨n, hn⟩ : ∃ n : Nat, (n : Int) = pkV xs 30 q := ⟨(pkV xs 30 q).toNat, by omega⟩
  have hn2 : (pkV xs 30 q).toNat = n := by omega
  rw [hn2] at hR hC
  have HR := Aside0.mk hR; have HC := Aside0.mk hC; clear hR hC
  go_enter Try.func126, Try.ntmps126
  go_upto_region 2 with (fail)
  go_wp2_with fail
  refine (pick_c A c xs q g 30 O.out HX.out HB.out (by omega) (by omega) (by omega) (by omega)).mono ?_
  rintro e w2 ⟨rfl, hO⟩
  clear O; have O := Aside0.mk (hO.nilRow Rp.bool 4); clear hO
  generalize pkC xs 30 q = q1 at HR HC O p1
  rw [← hn]
  have hn11 : n ≤ 29 := by omega
  clear hn hn2 r1
  go_wp2
  go_loopg [3, 4] (n + 1) (fun m vr vi wr => ∃ (j : Nat) (ns : List Bool) (q' : Cu), vi = .int .i64 j ∧ Aside0 (j ≤ n ∧ j + 1 ≤ m ∧ ns.length + j = n ∧ 0 ≤ q'.p ∧ q'.p + 2 * j ≤ q.p + 100) ∧ Aside0 (R = ns ++ kpL xs j q' ∧ C = kpQ xs j q') ∧ Aside0 (Own w0 wr (Rs.row Rp.bool 4 vr ns :: Rs.box g 123 (cuB A xs.length c q') :: L)))
  case atStart => exact ⟨n, [], q1, rfl, ⟨by omega, by omega, by simp, by omega, by omega⟩, ⟨HR.out, HC.out⟩, O⟩
  case round =>
    clear O HR HC
    obtain ⟨j, ns, q', rfl, HJ, HR, O⟩ := hrel
    cases j with
    | zero =>
      go_wp2
      have e : R = ns := by rw [HR.out.1]; simp [kpL]
      have e2 : C = q' := HR.out.2
      exact HQ.out _ _ ⟨_, rfl, by rw [e, e2]; exact O.out⟩
    | succ j =>
      have hj := HJ.out
      obtain ⟨An, cn, rfl, _⟩ := O.out.f0
      have p2 := pkC_p xs 3 q'
      have r2 := pkV_range xs q' (k := 3) (by omega)
      go_wp2_with fail
      refine (pick_c A c xs q' g 3 O.out.p1 HX.out HB.out (by omega) (by omega) (by omega) (by omega)).mono ?_
      rintro e w3 ⟨rfl, hO⟩
      clear O
      have HR2 : Aside0 (R = (ns ++ [decide (0 < pkV xs 3 q')]) ++ kpL xs j (pkC xs 3 q') ∧ C = kpQ xs j (pkC xs 3 q')) := ⟨by rw [HR.out.1]; simp [kpL], HR.out.2⟩
      have O := Aside0.mk ((hO.p1.cel0 (r := Rp.bool) (cs := [.bool (decide (0 < pkV xs 3 q'))]) (x := decide (0 < pkV xs 3 q')) ⟨rfl, rfl⟩).p1); clear hO HR
      generalize pkV xs 3 q' = v at O HR2 r2 ⊢
      generalize pkC xs 3 q' = q2 at O HR2 p2
      go_upto_region 4 with (at_builtin; go_loud (refine Own.app_one Rp.bool rfl (.tmp 11) (.tmp 15) 34 4 (.bool false) 1 rfl Try.underlying34 info4 rfl (by decide) (by decide) (.slice An ns.length cn) ns (decide (0 < v)) _ rfl rfl O.out (by omega) ?_); intro v5 w5 hX; have O5 := Aside0.mk hX; clear hX)
      clear O
      go_wp2
      go_roundg (gk - 1)
      case measure => omega
      case rel => exact ⟨j, ns ++ [decide (0 < v)], q2, by first | rfl | (congr 1; omega), ⟨by omega, by omega, by rw [List.length_append]; simp; omega, by omega, by omega⟩, HR2, O5⟩
def masksOf (xs : List Int) : List Bool := kpV xs cu0
set_option maxHeartbeats 4000000 in
set_option maxRecDepth 100000 in
theorem masks_c (A : Option Addr) (c : Nat) (xs : List Int) (w : World) (hx : kB.C w A xs.length xs) (hb : BsOk xs) :
    Calls Try.prog 70 #[.slice A xs.length c] w (GotRow Rp.bool 4 w (masksOf xs)) := by
  have HB := Aside0.mk hb; have HX := Aside0.mk hx; clear hb hx
  go_enter Try.func70, Try.ntmps70
  go_upto_region 2 with (fail)
  generalize hw : w.alloc _ = w1
  have O := Aside0.mk ((Own.nil w).of hw); clear hw
  generalize w.heap.size = g at O ⊢
  go_wp2_with fail
  refine (kept_c A c xs cu0 g O.out HX.out HB.out (by show (0:Int) ≤ 0; omega) (by show (0:Int) ≤ _; omega)).mono ?_
  rintro e w2 ⟨v, rfl, hO⟩
  clear O; have O := Aside0.mk hO; clear hO
  go_wp2
  go_ret
  obtain ⟨f, hf, hnd, hl2, hc⟩ := O.out.take
  exact ⟨_, rfl, ⟨f, hf, hnd, hl2⟩, O.out.bel⟩
set_option maxHeartbeats 4000000 in
set_option maxRecDepth 100000 in
theorem wNotes_t (A B : Option Addr) (c d : Nat) (xs : List Nt) (w : World) (hx : rN.d.C w A xs.length xs) (hy : rN.d.C w B xs.length xs) :
    Calls Try.prog 69 #[.slice A xs.length c, .slice B xs.length d] w (Yes w) := by
  have hl : xs.length ≤ 9223372036854775807 := hx.2.1
  have HX := Aside0.mk hx; have HY := Aside0.mk hy; clear hx hy
  have O := Aside0.mk (Own.nil w)
  go_enter Try.func69, Try.ntmps69
  go_wp2
  go_loopg [13] xs.length (fun m v wr => ∃ i : Nat, v = .int .i64 i ∧ Aside0 (i ≤ xs.length ∧ xs.length - i ≤ m) ∧ Aside0 (Own w wr []))
  case atStart => exact ⟨0, rfl, ⟨by simp⟩, O⟩
  case round =>
    clear O
    obtain ⟨i, rfl, HI, O⟩ := hrel
    by_cases hi : i < xs.length
    · obtain ⟨ad, e1, a0, a1, a2, a3, a4⟩ := at_N (Kd.C_below HX.out O.out.bel) (i : Int) (by omega) (by omega)
      obtain ⟨ad', e2, b0, b1, b2, b3, b4⟩ := at_N (Kd.C_below HY.out O.out.bel) (i : Int) (by omega) (by omega)
      cases e1; cases e2
      simp only [Int.toNat_natCast] at a0 a1 a2 a3 a4 b0 b1 b2 b3 b4
      go_wp2
      go_quiet (fail)
      clear a0 a1 a2 a3 a4 b0 b1 b2 b3 b4
      replace O := Aside0.mk (O.out.drewN nq)
      generalize wr.drewN nq = wd at O ⊢
      go_wp2
      go_roundg (gk - 1)
      case measure => have := HI.out; omega
      case rel => exact ⟨i + 1, by first | rfl | (congr 1; omega), ⟨by have := HI.out; omega⟩, O⟩
    · go_wp2
      go_ret
      exact ⟨rfl, O.out.bel⟩
end Go.Proofs.Ytocdlibnmlcokaa
namespace Go.Proofs.Ytocdlibnmlcokaa
open Go.RowKit Go.Proofs.YtocdlibnmlcokaaW.PrintWords Go.Proofs.YtocdlibnmlcokaaW.PrintLast
set_option linter.unusedVariables false
set_option linter.unusedSimpArgs false
def wB (xs : List Int) (i : Int) : Int := if xs.length = 0 then 0 else rd xs (i % xs.length)
theorem wB_range {xs : List Int} (h : BsOk xs) (i : Int) : 0 ≤ wB xs i ∧ wB xs i < 256 := by
  unfold wB
  split
  · omega
  · exact h.rd _
set_option maxHeartbeats 1000000 in
theorem wByte_c (A : Option Addr) (c : Nat) (xs : List Int) (i : Int) (w : World) (hx : kB.C w A xs.length xs) (hb : BsOk xs) (h0 : 0 ≤ i) (h1 : i ≤ 9223372036854775807) :
    Calls Try.prog 35 #[.slice A xs.length c, .int .i64 i] w (fun e w' => e = .returned (.int .i64 (wB xs i)) ∧ w' = w) := by
  have hl : xs.length ≤ 9223372036854775807 := hx.2.1
  have HB := Aside0.mk hb; clear hb
  by_cases hz : xs.length = 0
  · have HW : Aside0 (wB xs i = 0) := ⟨if_pos hz⟩
    have hz2 : (xs.length : Int) = 0 := by omega
    have HX := Aside0.mk hx; clear hx hz
    go_enter Try.func35, Try.ntmps35
    go_wp2
    go_ret
    exact ⟨by rw [HW.out]; rfl, rfl⟩
  · have hm0 := Int.emod_nonneg i (by omega : (xs.length : Int) ≠ 0)
    have hm1 := Int.emod_lt_of_pos i (by omega : 0 < (xs.length : Int))
    have HW : Aside0 (wB xs i = rd xs (i % xs.length)) := ⟨if_neg hz⟩
    obtain ⟨ad, e1, hc1⟩ := Kd.at_int hx (i % xs.length) hm0 hm1
    cases e1
    have hr := HB.out.rd (i % xs.length)
    have ht : Int.tmod i xs.length = i % xs.length := Int.tmod_eq_emod_of_nonneg h0
    have hp : ¬ (xs.length : Int) = 0 := by omega
    generalize rd xs (i % xs.length) = v at hc1 hr HW
    generalize i % (xs.length : Int) = k at hm0 hm1 hc1 ht
    clear hx hz
    go_enter Try.func35, Try.ntmps35
    go_wp2
    go_ret
    exact ⟨by rw [HW.out]; rfl, rfl⟩
end Go.Proofs.Ytocdlibnmlcokaa
namespace Go.Proofs.Ytocdlibnmlcokaa
open Go.RowKit Go.Proofs.YtocdlibnmlcokaaW.PrintWords Go.Proofs.YtocdlibnmlcokaaW.PrintLast
set_option linter.unusedVariables false
set_option linter.unusedSimpArgs false
def xS : Nat → ByteArray
  | 0 => { data := #[] }
  | k + 1 => xS k ++ { data := #[120] }
theorem xS_size : ∀ k, (xS k).size = k
  | 0 => rfl
  | k + 1 => by
    show (xS k ++ { data := #[120] }).size = _
    rw [ByteArray.size_append, xS_size k]; rfl
def xN (m : Nat) : Nt := ⟨5, 0, 0, 0, xS m⟩
theorem flat_len (m : Nat) : ∀ k, (flatF (List.replicate k (xN m))).length = k * (17 + m)
  | 0 => by simp [flatF]
  | k + 1 => by
    rw [List.replicate_succ]
    have h1 : (xN m).text.size = m := xS_size m
    simp only [flatF, List.length_append, frameL_len, flat_len m k, h1]
    rw [Nat.add_mul]; omega
theorem openS_ws (S : List (List Int)) : (openS S).ws = [] := by unfold openS; split <;> rfl
end Go.Proofs.Ytocdlibnmlcokaa
namespace Go.Proofs.Ytocdlibnmlcokaa
open Go.RowKit Go.Proofs.YtocdlibnmlcokaaW.PrintWords Go.Proofs.YtocdlibnmlcokaaW.PrintLast
set_option linter.unusedVariables false
set_option linter.unusedSimpArgs false
theorem flat_le : ∀ {ns : List Nt}, (∀ x ∈ ns, NtR x) → (flatF ns).length ≤ 217 * ns.length
  | [], _ => by simp [flatF]
  | x :: r, h => by
    have h1 := flat_le (fun y hy => h y (List.mem_cons_of_mem _ hy))
    have h2 := (h x List.mem_cons_self).1.2.2.2
    simp only [flatF, List.length_append, frameL_len, List.length_cons]; omega
theorem St.more {S : List (List Int)} {ws : List Wr} {ns : List Nt} {L G : Int} {s : Nat} {x : Nt} (h : St ⟨true, ⟨true, ns, L, G, s⟩, S, ws⟩ ns s G) (hx : NtR x) (hl : (flatF ns).length + 217 ≤ 7112) (hw : ws.length + 6 ≤ 200) :
    ∃ ws2 L2, appendO S ws x = ⟨true, ⟨true, ns ++ [x], L2, G, s⟩, S, ws2⟩ ∧ L2 = ((flatF (ns ++ [x])).length : Nat) ∧ ws2.length ≤ ws.length + 6 ∧ St ⟨true, ⟨true, ns ++ [x], L2, G, s⟩, S, ws2⟩ (ns ++ [x]) s G := by
  have e := (h.fits (x := x)).2
  have hx4 := hx.1.2.2.2
  have hn : appN (flatF ns).length (flatF (ns ++ [x])).length ≤ 6 := by unfold appN; omega
  have hst := h.append hx (by omega) (by show ws.length + _ ≤ 200; omega)
  simp only at hst
  have hi := hst.is
  have hbs : (appendO S ws x).bs = S ∧ (appendO S ws x).ws.length ≤ ws.length + 6 := by
    have hf := h.fits (x := x)
    have h1 := h.found1
    simp only at hf h1
    unfold appendO
    rw [hf.1, h1]
    simp only
    rw [if_pos ⟨by omega, by omega⟩]
    exact ⟨rfl, by simp only [List.length_append, pagesW_len]; omega⟩
  refine ⟨(appendO S ws x).ws, _, ?_, rfl, hbs.2, ?_⟩
  · rw [hi]; simp only [hbs.1]
  · have := hst
    rw [hi] at this
    simpa only [hbs.1] using this
theorem St.safe {S : List (List Int)} {ws : List Wr} {ns : List Nt} {L G : Int} {s : Nat} (h : St ⟨true, ⟨true, ns, L, G, s⟩, S, ws⟩ ns s G) :
    ∃ S2, commitS (syncL S ws) = ⟨true, ⟨true, ns, L, G, (ns.length : Nat)⟩, S2, []⟩ ∧ St ⟨true, ⟨true, ns, L, G, (ns.length : Nat)⟩, S2, []⟩ ns ns.length G := by
  have hst := h.commit
  simp only at hst
  have hi := hst.is
  have hL : ((flatF ns).length : Nat) = L := by have := h.lg_is; injection this with _ _ h3; exact h3.symm
  have hw : (commitS (syncL S ws)).ws = [] := rfl
  rw [hw, hL] at hi
  refine ⟨(commitS (syncL S ws)).bs, hi, ?_⟩
  rw [hi] at hst
  exact hst
theorem st_first : ∃ S, openL blankB [] = ⟨true, ⟨true, [], 0, 1, (0 : Nat)⟩, S, []⟩ ∧ St ⟨true, ⟨true, [], 0, 1, (0 : Nat)⟩, S, []⟩ [] 0 1 := by
  have hst : St (openL blankB []) [] 0 1 := by
    show St (openS blankB) [] 0 1
    exact st_new blank_ok blank_gen
  have hi := hst.is
  have hw : (openL blankB []).ws = [] := openS_ws _
  rw [hw] at hi
  refine ⟨(openL blankB []).bs, hi, ?_⟩
  rw [hi] at hst
  exact hst
set_option maxHeartbeats 8000000 in
set_option maxRecDepth 100000 in
theorem wWritten_c (N : Option Addr) (nc : Nat) (notes : List Nt) (A : Option Addr) (c : Nat) (xs : List Int) (w : World) (hN : rN.d.C w N notes.length notes) (hx : kB.C w A xs.length xs) (hb : BsOk xs) (hok : ∀ x ∈ notes, NtR x) (hn11 : notes.length ≤ 11) :
    Calls Try.prog 71 #[.slice N notes.length nc, .slice A xs.length c] w (fun e w' => ∃ (s : Nat) (S : List (List Int)) (ws : List Wr) (L : Int) (vn v0 v1 : Value), e = .returned (.tuple #[.agg #[.bool true, .bool true, vn, .int .i64 L, .int .i64 1, .int .i64 s, v0, v1], .int .i64 s]) ∧ St ⟨true, ⟨true, notes, L, 1, s⟩, S, ws⟩ notes s 1 ∧ ws.length ≤ 66 ∧ Own w w' [Rs.row rN 33 vn notes, Rs.row rBS 22 v0 S, Rs.row rW 147 v1 ws]) := by
  suffices H : ∀ Q : Ending → World → Prop, (∀ e w', (∃ (s : Nat) (S : List (List Int)) (ws : List Wr) (L : Int) (vn v0 v1 : Value), e = .returned (.tuple #[.agg #[.bool true, .bool true, vn, .int .i64 L, .int .i64 1, .int .i64 s, v0, v1], .int .i64 s]) ∧ St ⟨true, ⟨true, notes, L, 1, s⟩, S, ws⟩ notes s 1 ∧ ws.length ≤ 66 ∧ Own w w' [Rs.row rN 33 vn notes, Rs.row rBS 22 v0 S, Rs.row rW 147 v1 ws]) → Q e w') → Calls Try.prog 71 #[.slice N notes.length nc, .slice A xs.length c] w Q from H _ (fun e w' h => h)
  intro Q hQ
  have HB := Aside0.mk hb; have HX := Aside0.mk hx; have HQ := Aside0.mk hQ; have HN := Aside0.mk hN; have HOK := Aside0.mk hok; clear hb hx hQ hN hok
  obtain ⟨S, hop, hst⟩ := st_first
  have hbd := dk_of blank_ok (ws := []) (by simp) (fun x hx => by simp at hx)
  have HST := Aside0.mk hst; have HBD := Aside0.mk hbd; clear hst hbd
  go_enter Try.func71, Try.ntmps71
  go_upto_region 1 with (fail)
  generalize hw : w.alloc _ = w1
  have O := Aside0.mk ((Own.nil w).of hw); clear hw
  generalize w.heap.size = g4 at O ⊢
  go_wp2_with fail
  refine (implBlank_c _).mono ?_
  intro e w2 hg
  obtain ⟨v0, v1, rfl, k⟩ := own_disk hg
  replace O := Aside0.mk (O.out.app2 k); clear k hg
  obtain ⟨B0, bc0, rfl, hbc⟩ := O.out.f0
  obtain ⟨B1, bc1, rfl, _⟩ := O.out.f1
  go_wp2_with fail
  refine (implOpen_yes _ _ _ _ blankB [] _ O.out.c0 O.out.c1 HBD.out.1 HBD.out.2).mono ?_
  rw [hop]
  clear hop hbc HBD
  rintro e w3 ⟨vn, v0, v1, rfl, k⟩
  simp only at k
  replace O := Aside0.mk (Own.only [_, _, _, _] (O.out.app3 k).p5.p3.p3.p3); clear k
  obtain ⟨An, Acn, rfl, _⟩ := O.out.f0
  obtain ⟨A0, Ac0, rfl, hc0⟩ := O.out.f1
  obtain ⟨A1, Ac1, rfl, _⟩ := O.out.f2
  have HC0 := Aside0.mk hc0; clear hc0
  go_upto_region 2 with (fail)
  generalize hw : w3.alloc _ = w4
  replace O := Aside0.mk (O.out.of hw); clear hw
  generalize w3.heap.size = g6 at O ⊢
  go_wp2
  go_loopg [7, 14] (notes.length + 1) (fun m vs vi wr => ∃ (i s : Nat) (ns : List Nt) (L : Int) (S : List (List Int)) (ws : List Wr) (An A0 A1 : Option Addr) (Anc A0c A1c : Nat), vi = .int .i64 i ∧ vs = .int .i64 s ∧ Aside0 (i ≤ notes.length ∧ notes.length + 1 - i ≤ m ∧ ns = notes.take i ∧ ws.length ≤ 6 * i) ∧ Aside0 (S.length ≤ A0c) ∧ Aside0 (St ⟨true, ⟨true, ns, L, 1, (s : Nat)⟩, S, ws⟩ ns s 1) ∧
    Aside0 (Own w wr [Rs.box g6 61 #[.bool true, .bool true, .slice An ns.length Anc, .int .i64 L, .int .i64 1, .int .i64 (s : Nat), .slice A0 S.length A0c, .slice A1 ws.length A1c], Rs.row rN 33 (.slice An ns.length Anc) ns, Rs.row rBS 22 (.slice A0 S.length A0c) S, Rs.row rW 147 (.slice A1 ws.length A1c) ws, Rs.box g4 61 zero8]))
  case atStart => exact ⟨0, 0, [], 0, S, [], An, A0, A1, Acn, Ac0, Ac1, rfl, rfl, ⟨by omega, by omega, by simp, by simp⟩, HC0, HST, O⟩
  case round =>
    clear O HST HC0
    obtain ⟨i, s, ns, L, S, ws, An, A0, A1, Anc, A0c, A1c, rfl, rfl, HI, HC0, HST, O⟩ := hrel
    by_cases hi : i < notes.length
    · obtain ⟨ad, e1, a0, a1, a2, a3, a4⟩ := at_N (Kd.C_below HN.out O.out.bel) (i : Int) (by omega) (by omega)
      cases e1
      simp only [Int.toNat_natCast] at a0 a1 a2 a3 a4
      obtain ⟨x, hxe⟩ : ∃ x, x = gN notes i := ⟨_, rfl⟩
      rw [← hxe] at a0 a1 a2 a3 a4
      have hxok : NtR x := by rw [hxe, gN_eq (by omega)]; exact HOK.out _ (List.getElem_mem _)
      have hns2 : notes.take (i + 1) = ns ++ [x] := by
        rw [List.take_succ_eq_append_getElem hi, HI.out.2.2.1, hxe, gN_eq (by omega)]; rfl
      have hlen : (flatF ns).length + 217 ≤ 7112 := by
        have h1 := flat_le HST.out.nr
        have h2 : ns.length ≤ 11 := by rw [HI.out.2.2.1, List.length_take]; omega
        omega
      have hwl : ws.length + 6 ≤ 200 := by have := HI.out; omega
      obtain ⟨ws2, L2, hap, hL2, hws2, hst2⟩ := HST.out.more hxok hlen hwl
      generalize ns ++ [x] = ns2 at hns2 hap hL2 hst2
      have HXOK := Aside0.mk hxok; have HNS2 := Aside0.mk hns2; have HAP := Aside0.mk hap; have HWS2 := Aside0.mk hws2; have HST2 := Aside0.mk hst2
      have hi2 : i ≤ 11 := by omega
      clear hxe hxok hns2 hlen hwl hap hL2 hws2 hst2
      go_upto_region 6 with (fail)
      generalize hw : wr.alloc _ = w5
      replace O := Aside0.mk (O.out.of hw); clear hw a0 a1 a2 a3 a4
      generalize wr.heap.size = g9 at O ⊢
      have b0 := (blk_cell O.out.b0 0).trans rfl; have b1 := (blk_cell O.out.b0 1).trans rfl; have b2 := (blk_cell O.out.b0 2).trans rfl; have b3 := (blk_cell O.out.b0 3).trans rfl; have b4 := (blk_cell O.out.b0 4).trans rfl
      have p0 := (blk_cell O.out.b1 0).trans rfl; have p1 := (blk_cell O.out.b1 1).trans rfl; have p2 := (blk_cell O.out.b1 2).trans rfl; have p3 := (blk_cell O.out.b1 3).trans rfl; have p4 := (blk_cell O.out.b1 4).trans rfl; have p5 := (blk_cell O.out.b1 5).trans rfl; have p6 := (blk_cell O.out.b1 6).trans rfl; have p7 := (blk_cell O.out.b1 7).trans rfl
      go_wp2_with fail
      refine (implAppend_yes An A0 A1 Anc A0c A1c true true ns L 1 s S ws x _ O.out.c2 O.out.c3 O.out.c4 HC0.out HST.out.bk (by have := HXOK.out.1.2.2.2; omega) HST.out.right HXOK.out.1).mono ?_
      rw [HAP.out]
      rintro e w6 ⟨vn, v0, v1, rfl, k⟩
      simp only at k
      replace O := Aside0.mk (O.out.app3 k); clear k b0 b1 b2 b3 b4 p0 p1 p2 p3 p4 p5 p6 p7
      obtain ⟨Bn, Bnc, rfl, _⟩ := O.out.f0
      obtain ⟨B0, B0c, rfl, hc0⟩ := O.out.f1
      obtain ⟨B1, B1c, rfl, _⟩ := O.out.f2
      have HD0 := Aside0.mk hc0; clear hc0
      have p0 := (blk_cell O.out.b4 0).trans rfl; have p1 := (blk_cell O.out.b4 1).trans rfl; have p2 := (blk_cell O.out.b4 2).trans rfl; have p3 := (blk_cell O.out.b4 3).trans rfl; have p4 := (blk_cell O.out.b4 4).trans rfl; have p5 := (blk_cell O.out.b4 5).trans rfl; have p6 := (blk_cell O.out.b4 6).trans rfl; have p7 := (blk_cell O.out.b4 7).trans rfl
      have z0 := blk_frozen O.out.b4 0; have z1 := blk_frozen O.out.b4 1; have z2 := blk_frozen O.out.b4 2; have z3 := blk_frozen O.out.b4 3; have z4 := blk_frozen O.out.b4 4; have z5 := blk_frozen O.out.b4 5; have z6 := blk_frozen O.out.b4 6; have z7 := blk_frozen O.out.b4 7
      go_upto_region 7 with (fail)
      generalize hw : World.setCell _ _ _ = w7
      replace O := Aside0.mk (Own.only [_, _, _, _, _] ((O.out.p4.st8 hw).p8.p4.p4.p4.p4)); clear hw p0 p1 p2 p3 p4 p5 p6 p7 z0 z1 z2 z3 z4 z5 z6 z7
      have hwb := wB_range HB.out i
      go_wp2_with fail
      refine (wByte_c _ _ _ i _ (Kd.C_below HX.out O.out.bel) HB.out (by omega) (by omega)).mono ?_
      rintro e w8 ⟨rfl, rfl⟩
      have htm : Int.tmod (wB xs i) 4 = wB xs i % 4 := Int.tmod_eq_emod_of_nonneg hwb.1
      have hm0 : 0 ≤ wB xs i % 4 ∧ wB xs i % 4 < 4 := by omega
      generalize wB xs i % 4 = v4 at htm hm0
      by_cases h4 : v4 = 0
      · subst h4
        have p0 := (blk_cell O.out.b0 0).trans rfl; have p1 := (blk_cell O.out.b0 1).trans rfl; have p2 := (blk_cell O.out.b0 2).trans rfl; have p3 := (blk_cell O.out.b0 3).trans rfl; have p4 := (blk_cell O.out.b0 4).trans rfl; have p5 := (blk_cell O.out.b0 5).trans rfl; have p6 := (blk_cell O.out.b0 6).trans rfl; have p7 := (blk_cell O.out.b0 7).trans rfl
        go_wp2_with fail
        refine (implCommit_yes Bn B0 B1 Bnc B0c B1c true true ns2 L2 1 s S ws2 _ O.out.c1 O.out.c2 O.out.c3 HD0.out HST2.out.bk HST2.out.right).mono ?_
        obtain ⟨S3, hcm, hst3⟩ := HST2.out.safe
        rw [hcm]
        have HST3 := Aside0.mk hst3; clear hcm hst3
        have HL1 : Aside0 (ns2.length = i + 1) := ⟨by rw [← HNS2.out, List.length_take]; omega⟩
        rw [HL1.out] at HST3 ⊢
        rintro e w9 ⟨vn, v0, v1, rfl, k⟩
        simp only at k
        replace O := Aside0.mk (O.out.app3 k); clear k p0 p1 p2 p3 p4 p5 p6 p7
        obtain ⟨Cn, Cnc, rfl, _⟩ := O.out.f0
        obtain ⟨C0, C0c, rfl, hc0⟩ := O.out.f1
        obtain ⟨C1, C1c, rfl, _⟩ := O.out.f2
        have HE0 := Aside0.mk hc0; clear hc0
        have p0 := (blk_cell O.out.b3 0).trans rfl; have p1 := (blk_cell O.out.b3 1).trans rfl; have p2 := (blk_cell O.out.b3 2).trans rfl; have p3 := (blk_cell O.out.b3 3).trans rfl; have p4 := (blk_cell O.out.b3 4).trans rfl; have p5 := (blk_cell O.out.b3 5).trans rfl; have p6 := (blk_cell O.out.b3 6).trans rfl; have p7 := (blk_cell O.out.b3 7).trans rfl
        have z0 := blk_frozen O.out.b3 0; have z1 := blk_frozen O.out.b3 1; have z2 := blk_frozen O.out.b3 2; have z3 := blk_frozen O.out.b3 3; have z4 := blk_frozen O.out.b3 4; have z5 := blk_frozen O.out.b3 5; have z6 := blk_frozen O.out.b3 6; have z7 := blk_frozen O.out.b3 7
        go_upto_region 9 with (fail)
        generalize hw : World.setCell _ _ _ = w10
        replace O := Aside0.mk (Own.only [_, _, _, _, _] ((O.out.p3.st8 hw).p7.p4.p4.p4.p4)); clear hw p0 p1 p2 p3 p4 p5 p6 p7 z0 z1 z2 z3 z4 z5 z6 z7
        go_wp2
        go_roundg (gk - 1)
        case measure => have := HI.out; omega
        case rel => exact ⟨i + 1, i + 1, ns2, L2, S3, [], Cn, C0, C1, Cnc, C0c, C1c, by first | rfl | (congr 1; omega), by first | rfl | (congr 1; omega), ⟨by have := HI.out; omega, by have := HI.out; omega, HNS2.out.symm, by simp⟩, HE0, HST3, O⟩
      · obtain ⟨E4, _⟩ := eqF h4
        clear h4
        go_wp2
        go_roundg (gk - 1)
        case measure => have := HI.out; omega
        case rel => exact ⟨i + 1, s, ns2, L2, S, ws2, Bn, B0, B1, Bnc, B0c, B1c, by first | rfl | (congr 1; omega), rfl, ⟨by have := HI.out; omega, by have := HI.out; omega, HNS2.out.symm, by have := HI.out; have := HWS2.out; omega⟩, HD0, HST2, O⟩
    · have hin : ns = notes := by rw [HI.out.2.2.1, List.take_of_length_le (by omega)]
      have hw66 : ws.length ≤ 66 := by have := HI.out; omega
      subst hin
      have HW66 := Aside0.mk hw66; clear hw66
      have p0 := (blk_cell O.out.b0 0).trans rfl; have p1 := (blk_cell O.out.b0 1).trans rfl; have p2 := (blk_cell O.out.b0 2).trans rfl; have p3 := (blk_cell O.out.b0 3).trans rfl; have p4 := (blk_cell O.out.b0 4).trans rfl; have p5 := (blk_cell O.out.b0 5).trans rfl; have p6 := (blk_cell O.out.b0 6).trans rfl; have p7 := (blk_cell O.out.b0 7).trans rfl
      have q0 := (blk_cell O.out.b4 0).trans rfl; have q1 := (blk_cell O.out.b4 1).trans rfl; have q2 := (blk_cell O.out.b4 2).trans rfl; have q3 := (blk_cell O.out.b4 3).trans rfl; have q4 := (blk_cell O.out.b4 4).trans rfl; have q5 := (blk_cell O.out.b4 5).trans rfl; have q6 := (blk_cell O.out.b4 6).trans rfl; have q7 := (blk_cell O.out.b4 7).trans rfl
      have z0 := blk_frozen O.out.b4 0; have z1 := blk_frozen O.out.b4 1; have z2 := blk_frozen O.out.b4 2; have z3 := blk_frozen O.out.b4 3; have z4 := blk_frozen O.out.b4 4; have z5 := blk_frozen O.out.b4 5; have z6 := blk_frozen O.out.b4 6; have z7 := blk_frozen O.out.b4 7
      go_wp2
      generalize hw : World.setCell _ _ _ = w5
      replace O := Aside0.mk (O.out.p4.st8 hw); clear hw
      refine bodyPost_ret (results_ct rfl _ _ g4 61 _ (0, 0) _ rfl O.out.b0 Try.underlying61 rfl (by kernel_rfl)) rfl ?_
      exact HQ.out _ _ ⟨s, S, ws, L, _, _, _, rfl, HST.out, HW66.out, Own.only [_, _, _] O.out.drop.drop⟩
end Go.Proofs.Ytocdlibnmlcokaa
namespace Go.Proofs.Ytocdlibnmlcokaa
open Go.RowKit Go.Proofs.YtocdlibnmlcokaaW.PrintWords Go.Proofs.YtocdlibnmlcokaaW.PrintLast
set_option linter.unusedVariables false
set_option linter.unusedSimpArgs false
theorem N_all {w : World} {xs : List Nt} {css : List (List Value)} {fps : List (List Nat)} (h : All3 (rN.P w) xs css fps) : css = xs.map cN ∧ fps.flatten = [] := by
  induction h with
  | nil => exact ⟨rfl, rfl⟩
  | cons h0 _ ih =>
    obtain ⟨e1, e2⟩ := N_open h0
    rw [e1, e2, ih.1]
    exact ⟨rfl, by simpa using ih.2⟩
theorem N_all_mk (w : World) : ∀ xs : List Nt, All3 (rN.P w) xs (xs.map cN) (xs.map fun _ => ([] : List Nat))
  | [] => .nil
  | x :: r => .cons (N_mk w x) (N_all_mk w r)
theorem N_own {w : World} {v : Value} {xs : List Nt} {fp : List Nat} (h : rN.Row 33 w v xs fp) : w.ownsRow 0 33 5 v xs.length (xs.map cN).flatten ∧ fp = v.ownBlock.toList := by
  obtain ⟨css, fps, ho, ha, rfl⟩ := h
  obtain ⟨e1, e2⟩ := N_all ha
  rw [e1] at ho
  exact ⟨ho, by rw [e2, List.append_nil]⟩
theorem N_Row {w : World} {v : Value} {xs : List Nt} (h : w.ownsRow 0 33 5 v xs.length (xs.map cN).flatten) : rN.Row 33 w v xs v.ownBlock.toList :=
  ⟨_, _, h, N_all_mk w xs, by rw [Rp.flat_none, List.append_nil]⟩
theorem N_flat_len : ∀ xs : List Nt, (xs.map cN).flatten.length = xs.length * 5
  | [] => rfl
  | x :: r => by
    have := N_flat_len r
    simp only [List.map_cons, List.flatten_cons, List.length_append, List.length_cons, this, cN, List.length_nil]; omega
theorem N_flat {w : World} {ad : Addr} : ∀ (ys : List Nt) (k : Nat), (∀ i r u (hi : i < ys.length), (cN ys[i])[r]? = some u → w.cell? (ad.add ((k + i) * 5 + r)) = some u) → ∀ j u, ((ys.map cN).flatten)[j]? = some u → w.cell? (ad.add (k * 5 + j)) = some u
  | [], k, h, j, u, hj => by simp at hj
  | y :: r, k, h, j, u, hj => by
    have hl : (cN y).length = 5 := rfl
    rw [List.map_cons, List.flatten_cons] at hj
    by_cases h5 : j < 5
    · rw [List.getElem?_append_left (by omega)] at hj
      exact h 0 j u (by simp) hj
    · rw [List.getElem?_append_right (by omega), hl] at hj
      have := N_flat r (k + 1) (fun i q u hi hq => by
        have := h (i + 1) q u (by simpa using hi) hq
        rwa [show k + (i + 1) = k + 1 + i by omega] at this) (j - 5) u hj
      rwa [show (k + 1) * 5 + (j - 5) = k * 5 + j by omega] at this
theorem N_cells {w : World} {ad : Addr} {ys : List Nt} (h : rN.d.C w (some ad) ys.length ys) : ∀ j u, ((ys.map cN).flatten)[j]? = some u → w.cell? (ad.add j) = some u := by
  intro j u hj
  have := N_flat (w := w) (ad := ad) ys 0 (fun i r u hi hr => by
    obtain ⟨ad', c, e, _, hK, hc⟩ := Kd.C_get h zN (i : Int) (by omega) (by omega)
    cases e
    have hK' : rN.d.K w (ys.getD i zN) c := by simpa using hK
    have ec : c = cN (ys.getD i zN) := by
      obtain ⟨_, _, rfl, rfl, _, _, rfl, rfl, _, _, rfl, rfl, _, _, rfl, rfl, rfl⟩ := hK'
      rfl
    have e2 : ys.getD i zN = ys[i] := by rw [List.getD_eq_getElem?_getD, List.getElem?_eq_getElem hi]; rfl
    have : w.cell? (ad.add ((i : Int).toNat * 5 + r)) = some u := hc r u (by rw [ec, e2]; exact hr)
    simpa using this) j u hj
  simpa using this
section
variable {P : Program} {ops : Array Oper} {rest : List Oper} {o : Oper} {a : Act} {Q : Exit → Act → World → Prop} {w0 W : World} {L : List Rs}
theorem Own.app_notes (hgd : o.guard = none) (s x : Operand) (t : TypeId) (z : Value)
    (ho : o.op = .call { callee := .builtin .append, args := #[s, x], argTypes := #[t, t] })
    (ht : P.underlying t = some (.slice 33)) (hinfo : (P.info? 33).map (fun i => (i.zero, i.size, i.bytes)) = some (some z, 5, 48)) (hz : z.cells.size = 5)
    (v : Value) (xs ys : List Nt) (A : Option Addr) (m c : Nat) (hs : a.eval s = v) (hx : a.eval x = .slice A m c)
    (HO : Own w0 W (Rs.row rN 33 v xs :: L)) (HR : rN.d.C W A m ys) (hl : (xs.length + m) * 48 ≤ 140737488355328)
    (h : ∀ v1 w1, Own w0 w1 (Rs.row rN 33 v1 (xs ++ ys) :: L) → wpList P ops Q rest (a.put o.dst v1) w1) :
    wpList P ops Q (o :: rest) a W := by
  obtain ⟨f, hf, hn, hl2, cc⟩ := HO.take
  obtain ⟨hown, rfl⟩ := N_own hf
  obtain ⟨i0, hi, hzz⟩ := Option.map_eq_some_iff.1 hinfo
  simp only [Prod.mk.injEq] at hzz
  obtain ⟨hz0, hz1, hz2⟩ := hzz
  have hm : ys.length = m := HR.1
  have hrun : ∃ v1 w1, (Builtin.append_ #[t, t] o.type #[v, .slice A m c]).run P W = .ok v1 w1 ∧ w1.ownsRow 0 33 5 v1 (xs ++ ys).length ((xs ++ ys).map cN).flatten ∧ W.grownBy w1 v.ownBlock ∧ (v1.ownBlock = v.ownBlock ∨ v1.ownBlock = some W.heap.size) := by
    rcases A with _ | ad
    · have h0 : m = 0 := by
        rcases Nat.eq_zero_or_pos m with h0 | h0
        · exact h0
        · obtain ⟨ad, h, _⟩ := HR.2.2 h0
          cases h
      subst h0
      obtain rfl : ys = [] := List.eq_nil_of_length_eq_zero hm
      refine ⟨v, W, ?_, by simpa using hown, World.grownBy.refl W _, .inl rfl⟩
      rcases hown.2 with ⟨rfl, hn⟩ | ⟨g, cap, cur, rfl, _, _, hnc, _⟩
      · simp [Builtin.append_, run_underlying ht, sizeOf, typeInfo, hi, Builtin.lenOf, Builtin.firstCells]
      · simp [Builtin.append_, run_underlying ht, sizeOf, typeInfo, hi, Builtin.lenOf, Builtin.firstCells, hnc, storeCells]
    · subst hm
      obtain ⟨v1, w1, hr, h2, h3, _, h5⟩ := run_append_own_at (P := P) W 0 t o.type 33 i0 z 5 48 ht hi hz0 hz1 hz2 hz (by omega) v xs.length (xs.map cN).flatten hown ad ys.length c (ys.map cN).flatten (N_flat_len ys) (N_cells HR)
        (by
          intro u hu
          obtain ⟨l, hl, hu⟩ := List.mem_flatten.1 hu
          obtain ⟨y, _, rfl⟩ := List.mem_map.1 hl
          simp only [cN, List.mem_cons, List.not_mem_nil, or_false] at hu
          rcases hu with rfl | rfl | rfl | rfl | rfl <;> rfl) (by simp only [maxLen]; omega) hl (Nat.zero_le _)
      exact ⟨v1, w1, hr, by rw [List.length_append, List.map_append, List.flatten_append]; exact h2, h3, h5⟩
  obtain ⟨v1, w1, hr, hown1, hg, hat⟩ := hrun
  refine wpList_plain hgd fun K hK => ?_
  unfold Oper.wp execOp
  simp only [ho, resolve, invoke, builtin, Sem.run_bind, Sem.run_pure, Result.andThen_ok, List.map_toArray, List.map_cons, List.map_nil, hs, hx, hr]
  have hat' : v1.ownBlock = v.ownBlock ∨ ∃ b, v1.ownBlock = some b ∧ W.heap.size ≤ b := by
    rcases hat with hat | hat
    · exact .inl hat
    · exact .inr ⟨_, hat, Nat.le_refl _⟩
  exact hK _ _ (h v1 w1 (cc (M := [Rs.row rN 33 v1 (xs ++ ys)]) (f' := v1.ownBlock.toList) ⟨v1.ownBlock.toList, [], by simp, N_Row hown1, rfl⟩ (Rp.nodup_toList _) (Rp.at_toList hat') ((Kp.grown hg).mono (fun b hb _ => hb))))
end
end Go.Proofs.Ytocdlibnmlcokaa
namespace Go.Proofs.Ytocdlibnmlcokaa
open Go.RowKit Go.Proofs.YtocdlibnmlcokaaW.PrintWords Go.Proofs.YtocdlibnmlcokaaW.PrintLast
set_option linter.unusedVariables false
set_option linter.unusedSimpArgs false
end Go.Proofs.Ytocdlibnmlcokaa
