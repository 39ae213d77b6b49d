/- Crash. -/
import Derived.Test.YtocdlibnmlcokaaAS
namespace Go.Proofs.Ytocdlibnmlcokaa
open Go.RowKit Go.Proofs.YtocdlibnmlcokaaW.PrintWords Go.Proofs.YtocdlibnmlcokaaW.PrintLast
set_option linter.unusedVariables false
set_option linter.unusedSimpArgs false
set_option maxRecDepth 100000 in
set_option maxHeartbeats 1000000 in
theorem implCrash_no (A0 A1 A2 : Option Addr) (c0 c1 c2_ : Nat) (bs : List (List Int)) (ws : List Wr) (kl : List Bool) (w : World) (hx : rBS.d.C w A0 bs.length bs) (hy : rW.d.C w A1 ws.length ws) (hno : ¬ DkOk bs ws) :
    Calls Try.prog 66 #[.agg #[.slice A0 bs.length c0, .slice A1 ws.length c1], .slice A2 kl.length c2_] w (GotDisk w [] []) := by
  have hb0 := below_alloc (below_alloc (Below.refl w.heap.size w) (.cells #[.slice A0 bs.length c0, .slice A1 ws.length c1] 43)) (.cells #[.slice none 0 0, .slice none 0 0] 43)
  have BK2 := Aside0.mk (blk_new' (w := w.alloc (.cells #[.slice A0 bs.length c0, .slice A1 ws.length c1] 43)) (.cells #[.slice none 0 0, .slice none 0 0] 43) (n := w.heap.size + 1) (by simp))
  have HX := Aside0.mk (Kd.C_below hx hb0); have HY := Aside0.mk (Kd.C_below hy hb0); have HB0 := Aside0.mk hb0; have HNO := Aside0.mk hno
  clear hx hy hb0 hno
  go_enter Try.func66, Try.ntmps66
  go_wp2_with (go_at_call 108; refine (implDiskOk_c _ _ _ _ bs ws false ⟨fun h => (by cases h), fun h => absurd h HNO.out⟩ _ HX.out HY.out).mono ?_; rintro e w1 ⟨rfl, hb1⟩; have J2 := blk_below BK2.out hb1; have c2 := (blk_cell J2 0).trans rfl; have c3 := (blk_cell J2 1).trans rfl; have z2 := blk_frozen J2 0; have z3 := blk_frozen J2 1; obtain ⟨I2, q2⟩ := set2 J2 (.slice none 0 0) (.slice none 0 0); have II := Aside0.mk I2; have QQ := Aside0.mk q2; have HB1 := Aside0.mk (below_then HB0.out (by simp; omega) hb1); clear J2 I2 q2 hb1)
  refine bodyPost_ret (results_cell_row rfl _ _ (w.heap.size + 1) 43 #[.slice none 0 0, .slice none 0 0] (0, 0) _ rfl II.out Try.underlying43 rfl (by kernel_rfl)) rfl ?_
  exact ⟨_, _, [], [], rfl, Rp.Row_nil _ _ _, Rp.Row_nil _ _ _, by simp, by simp, QQ.out.toBelow HB1.out HB1.out.size (fun x hx => by simp at hx; omega)⟩
set_option maxRecDepth 100000 in
set_option maxHeartbeats 4000000 in
theorem implCrash_yes (A0 A1 A2 : Option Addr) (c0 c1 c2_ : Nat) (bs : List (List Int)) (ws : List Wr) (kl : List Bool) (w : World) (hx : rBS.d.C w A0 bs.length bs) (hy : rW.d.C w A1 ws.length ws) (hk : Kd.bool.C w A2 kl.length kl) (hd : DkOk bs ws) :
    Calls Try.prog 66 #[.agg #[.slice A0 bs.length c0, .slice A1 ws.length c1], .slice A2 kl.length c2_] w (GotDisk w (settleL bs ws (kfL false kl)) []) := by
  have hb0 := below_alloc (below_alloc (Below.refl w.heap.size w) (.cells #[.slice A0 bs.length c0, .slice A1 ws.length c1] 43)) (.cells #[.slice none 0 0, .slice none 0 0] 43)
  have BK1 := Aside0.mk (blk_alloc (blk_new w (.cells #[.slice A0 bs.length c0, .slice A1 ws.length c1] 43)) (.cells #[.slice none 0 0, .slice none 0 0] 43))
  have BK2 := Aside0.mk (blk_new' (w := w.alloc (.cells #[.slice A0 bs.length c0, .slice A1 ws.length c1] 43)) (.cells #[.slice none 0 0, .slice none 0 0] 43) (n := w.heap.size + 1) (by simp))
  have HX := Aside0.mk (Kd.C_below hx hb0); have HY := Aside0.mk (Kd.C_below hy hb0); have HKL := Aside0.mk hk; have HB0 := Aside0.mk hb0
  have hkl : kl.length ≤ 9223372036854775807 := hk.2.1
  have HD := Aside0.mk hd
  clear hx hy hk hb0 hd
  go_enter Try.func66, Try.ntmps66
  go_wp2_with fail
  refine (implDiskOk_c _ _ _ _ bs ws true ⟨fun _ => HD.out, fun _ => rfl⟩ _ HX.out HY.out).mono ?_
  rintro e w1 ⟨rfl, hb1⟩
  have J1 := blk_below BK1.out hb1; have J2 := blk_below BK2.out hb1
  have d0 := (blk_cell J1 0).trans rfl; have d1 := (blk_cell J1 1).trans rfl
  replace HX := Aside0.mk (Kd.C_below HX.out hb1); replace HY := Aside0.mk (Kd.C_below HY.out hb1)
  have HB1 := Aside0.mk (below_then HB0.out (by simp; omega) hb1); replace BK2 := Aside0.mk J2
  clear J1 J2 hb1 HB0 BK1
  go_wp2_with fail
  refine (copyDisk_c _ _ bs _ _ ws _ HX.out HY.out (by have := HD.out.1; omega) (by have := HD.out.2.1; omega) (fun x hx => by have := HD.out.2.2.1 x hx; omega) (fun x hx => by have := HD.out.2.2.2 x hx; omega)).mono ?_
  rintro e w2 ⟨v0, v1, f0i, f1, rfl, r0, r1, hnd, hge, hb2⟩
  obtain ⟨Ap, cp_, rfl, _, _⟩ := Rp.Row_reads r0
  obtain ⟨Aq, cq, rfl, _, _⟩ := Rp.Row_reads r1
  have hwl : (ws.length : Int) ≤ 200 := by have := HD.out.2.1; omega
  replace BK2 := Aside0.mk (blk_below BK2.out hb2)
  have HB2 := Aside0.mk (below_then HB1.out HB1.out.size hb2)
  have HND : Aside0 ((f0i ++ f1).Nodup ∧ ∀ x ∈ f0i ++ f1, w.heap.size ≤ x) := ⟨hnd, fun x hx => by have := hge x hx; have := HB1.out.size; omega⟩
  clear hnd hge hb2 HX HY HB1 d0 d1
  go_wp2_with fail
  generalize hw3 : w2.alloc _ = w3
  obtain ⟨k7, hb3, hs3⟩ := alloc1 hw3
  clear hw3
  have hne : w.heap.size + 1 < w2.heap.size := blk_lt BK2.out
  have BK7 := Aside0.mk k7
  replace BK2 := Aside0.mk (blk_below BK2.out hb3)
  have R0 := Aside0.mk (Rp.Row_below r0 hb3)
  have R1 := Aside0.mk (Rp.Row_below r1 hb3)
  have hsz := HB2.out.size
  have HB3 := Aside0.mk (below_then HB2.out HB2.out.size hb3)
  clear k7 hb3 hs3 HB2 r0 r1
  generalize w2.heap.size = g7 at BK7 hne hsz ⊢
  go_loopg [17] ws.length (fun m vi wr => ∃ (i : Int) (f0 : List Nat), vi = .int .i64 i ∧ Aside0 (0 ≤ i ∧ i ≤ ws.length ∧ ws.length - i.toNat ≤ m) ∧ Aside0 (rBS.Row 22 wr (.slice Ap bs.length cp_) (setTo bs ws (kfL false kl) i.toNat) f0) ∧ Aside0 (rW.Row 147 wr (.slice Aq ws.length cq) ws f1)
    ∧ Aside0 ((f0 ++ f1).Nodup ∧ ∀ b ∈ f0 ++ f1, w.heap.size ≤ b) ∧ Aside0 (wr.heap[w.heap.size + 1]? = some (.cells #[.slice none 0 0, .slice none 0 0] 43 (0, 0))) ∧ Aside0 (wr.heap[g7]? = some (.cells #[.slice Ap bs.length cp_, .slice Aq ws.length cq] 43 (0, 0))) ∧ Aside0 (Below w.heap.size w wr))
  case atStart => exact ⟨0, f0i, rfl, ⟨by simp⟩, R0, R1, HND, BK2, BK7, HB3⟩
  case round =>
    clear R0 R1 BK2 BK7 HB3 HND
    obtain ⟨i, f0, rfl, HI, HO, HQ, HF, BK2, BK7, HB⟩ := hrel
    by_cases hlt : i < (ws.length : Int)
    · have hi0 : 0 ≤ i := HI.out.1
      have hil : i.toNat < ws.length := by omega
      have hndd := List.nodup_append.1 HF.out.1
      obtain ⟨gq, capq, hvq, _, _⟩ := Rp.Row_form HQ.out (by omega)
      injection hvq with hAq _ hcq
      subst hAq; subst hcq
      obtain ⟨css_, fx, hP, _, _, _, hcell, _, _, _⟩ := Rp.Row_elem HQ.out hndd.2.1 i.toNat hil
      have hgx : ws.getD i.toNat ⟨0, []⟩ = ws[i.toNat] := by simp [List.getD_eq_getElem?_getD, hil]
      have hxo := HD.out.2.2.2 _ (List.getElem_mem (l := ws) hil)
      generalize hxx : ws[i.toNat] = x at hP hgx hxo
      have HGX := Aside0.mk hgx
      obtain ⟨v, rfl, hri⟩ := W_open hP
      obtain ⟨Ai, ci, rfl, _, _⟩ := Rp.Row_reads hri
      have c0 : wr.cell? ⟨gq, i.toNat * 2, none⟩ = _ := hcell 0 _ rfl
      have c1 : wr.cell? ⟨gq, i.toNat * 2 + 1, none⟩ = _ := hcell 1 _ rfl
      have Hri := Aside0.mk (Rp.Row_C hri).2.2
      have hx0 := hxo.1; have hx1 : x.block < (bs.length : Int) := by have := HD.out.1; omega
      have HXO := Aside0.mk hxo
      clear hP hcell hgx hri hxx hxo hndd
      have hout : ¬ kfL false kl i.toNat = true → setTo bs ws (kfL false kl) (i + 1).toNat = setTo bs ws (kfL false kl) i.toNat := by
        intro hn
        rw [show (i + 1).toNat = i.toNat + 1 by omega]; simp only [setTo]; rw [if_neg hn]
      have HOUT := Aside0.mk hout; clear hout
      by_cases hin : i < (kl.length : Int)
      · obtain ⟨adk, hAk, ck⟩ := Kd.at_bool (Kd.C_alloc (Kd.C_below HKL.out HB.out) (.cells #[.int .i64 x.block, .slice Ai x.bytes.length ci] 147)) i hi0 hin
        cases hAk
        by_cases hkt : rdOf false kl i = true
        · have hkf : kfL false kl i.toNat = true := hkt
          rw [hkt] at ck
          clear hkt
          have HKF := Aside0.mk hkf; clear hkf
          go_wp2
          clear ck c0 c1
          have BKe := Aside0.mk (blk_drew (blk_new wr (.cells #[.int .i64 x.block, .slice Ai x.bytes.length ci] 147)))
          have hba0 := below_drew (below_alloc (Below.refl _ wr) (.cells #[.int .i64 x.block, .slice Ai x.bytes.length ci] 147))
          have hle := Aside0.mk (Rp.Row_lt HO.out)
          have hlq := Aside0.mk (Rp.Row_lt HQ.out)
          replace HO := Aside0.mk (Rp.Row_below HO.out hba0); replace HQ := Aside0.mk (Rp.Row_below HQ.out hba0)
          replace BK2 := Aside0.mk (blk_below BK2.out hba0); replace BK7 := Aside0.mk (blk_below BK7.out hba0)
          replace Hri := Aside0.mk (Kd.C_below Hri.out hba0)
          replace HB := Aside0.mk (below_then HB.out HB.out.size hba0)
          clear hba0
          refine sta (fun w' => w'.cell? ⟨g7, 0, none⟩ = some (.slice Ap bs.length cp_) ∧ w'.cell? ⟨wr.heap.size, 0, none⟩ = some (.int .i64 x.block) ∧ w'.cell? ⟨wr.heap.size, 1, none⟩ = some (.slice Ai x.bytes.length ci)) [8] 9 ⟨(blk_cell BK7.out 0).trans rfl, (blk_cell BKe.out 0).trans rfl, (blk_cell BKe.out 1).trans rfl⟩ (fun hS => ?_)
          generalize (wr.alloc _).drew = wd at HO HQ BK2 BK7 Hri HB BKe hS ⊢
          generalize wr.heap.size = gb at hle hlq BKe hS ⊢
          obtain ⟨g0, cap0, hv0, hg0m, _⟩ := Rp.Row_form HO.out (by rw [setTo_len]; have := HD.out.1; omega)
          rw [setTo_len] at hv0
          injection hv0 with hA0 _ hc0
          subst hA0; subst hc0
          refine pu 0 1 ?_
          refine pu 2 5 ?_
          refine pu 4 21 ?_
          refine tk 1 23 hS ?_
          refine tk 3 31 hS ?_
          refine tk 5 63 hS ?_
          refine on 6 127 (fun K hK => ?_)
          refine ca (cp_c _ _ x.bytes _ Hri.out (by have := HXO.out.2.2; omega)) Try.func114 ?_
          rintro e wa ⟨va_, rfl, ⟨fa, hra, hna, hfa⟩, hba⟩
          obtain ⟨Aa, ca_, rfl, _, _⟩ := Rp.Row_reads hra
          refine ⟨_, rfl, nx hK ⟨pw_cell_below hba hS.1, pw_cell_below hba hS.2.1, pw_cell_below hba hS.2.2⟩ (fun hS => ?_)⟩
          clear hK K
          have hndd := List.nodup_append.1 HF.out.1
          have HOa := Rp.Row_below HO.out hba
          have hltd := Rp.Row_lt HO.out; have hltq := Rp.Row_lt HQ.out
          obtain ⟨csb, fb, hPb, _, _, _, hcellb, hfrb, _, hst⟩ := Rp.Row_elem HOa hndd.1 x.block.toNat (by rw [setTo_len]; have := HD.out.1; omega)
          obtain ⟨vb, rfl, _⟩ := hPb
          have e0 : x.block.toNat * rBS.d.sz + 0 = x.block.toNat := Nat.mul_one _
          have c5 := hcellb 0 _ rfl
          rw [e0] at c5
          have z5 := hfrb x.block.toNat
          have hnotf : ∀ b ∈ fa, b ∉ f0 := fun b hb hm => by have := hfa b hb; have := hltd b hm; omega
          have hga : g0 ∉ fa := fun h => hnotf g0 h hg0m
          obtain ⟨fp', hr', hn', hf', _⟩ := hst 0 (.slice Aa x.bytes.length ca_) x.bytes fa (by decide) ⟨_, rfl, Rp.Row_far hra (p := ⟨g0, x.block.toNat * rBS.d.sz + 0, none⟩) hga _⟩ hna (fun b hb => .inr (hnotf b hb)) (.inr hnotf)
          rw [e0] at hr'
          have hset : (setTo bs ws (kfL false kl) i.toNat).set x.block.toNat x.bytes = setTo bs ws (kfL false kl) (i + 1).toNat := by
            rw [show (i + 1).toNat = i.toNat + 1 by omega]; simp only [setTo]; rw [if_pos HKF.out, HGX.out]
          rw [hset] at hr'
          refine pu 7 255 ?_
          refine la 8 511 (fun K hK => ?_)
          refine st ?_
          refine nl hK (dn ?_)
          clear hK K hS c5 z5
          have kp : Kp wd (wa.setCell ⟨g0, x.block.toNat, none⟩ (.slice Aa x.bytes.length ca_)) [g0] := ((Kp.below hba).mono (by simp)).trans (Kp.set _ _ _ _) (fun b hb _ => hb)
          generalize wa.setCell _ _ = wf at hr' kp ⊢
          have ng7 : g7 ≠ g0 := fun h => Rp.Row_not HO.out BK7.out (by decide) (h ▸ hg0m)
          have ng2 : w.heap.size + 1 ≠ g0 := fun h => Rp.Row_not HO.out BK2.out (by decide) (h ▸ hg0m)
          have HO' := Aside0.mk hr'
          have HQ' := Aside0.mk (kp.row HQ.out (fun b hb hm => by simp at hm; subst hm; exact hndd.2.2 b hg0m b hb rfl))
          have BK2' := Aside0.mk (kp.blk BK2.out (by simp; exact ng2))
          have BK7' := Aside0.mk (kp.blk BK7.out (by simp; exact ng7))
          have HB' := Aside0.mk (kp.toBelow HB.out HB.out.size (fun b hb => by simp at hb; subst hb; exact HF.out.2 b (List.mem_append_left _ hg0m)))
          have HF' : Aside0 ((fp' ++ f1).Nodup ∧ ∀ b ∈ fp' ++ f1, w.heap.size ≤ b) := ⟨List.nodup_append.2 ⟨hn', hndd.2.1, fun a ha b hb he => by
            subst he
            rcases hf' a ha with h | h
            · exact hndd.2.2 a h a hb rfl
            · have := hfa a h; have := hltq a hb; omega⟩, fun b hb => by
            rcases List.mem_append.1 hb with h | h
            · rcases hf' b h with h | h
              · exact HF.out.2 b (List.mem_append_left _ h)
              · have := hfa b h; have := HB.out.size; omega
            · exact HF.out.2 b (List.mem_append_right _ h)⟩
          clear hst hr' e0 hnotf hga hn' hf' hset kp ng7 ng2 hcellb hfrb HO HQ BK2 BK7 HB HF hltd hltq hndd HOa hba hra hna hfa BKe hle hlq
          go_wp2
          go_roundg (gk - 1)
          case measure => have := HI.out; omega
          case rel => exact ⟨i + 1, fp', rfl, ⟨by have := HI.out; omega, by have := HI.out; omega, by have := HI.out; omega⟩, HO', HQ', HF', BK2', BK7', HB'⟩
        · have hkf : ¬ kfL false kl i.toNat = true := hkt
          rw [Bool.not_eq_true] at hkt
          rw [hkt] at ck
          clear hkt
          have kp : Kp wr (wr.alloc (.cells #[.int .i64 x.block, .slice Ai x.bytes.length ci] 147)) [] := Kp.below (below_alloc (Below.refl _ wr) _)
          have HO' := Aside0.mk (kp.row HO.out (by simp))
          have HQ' := Aside0.mk (kp.row HQ.out (by simp))
          have BK2' := Aside0.mk (kp.blk BK2.out (by simp)); have BK7' := Aside0.mk (kp.blk BK7.out (by simp))
          have HB' := Aside0.mk (kp.toBelow HB.out HB.out.size (by simp))
          have HKF := Aside0.mk hkf
          clear kp hkf HO HQ BK2 BK7 HB
          go_wp2
          go_roundg (gk - 1)
          case measure => have := HI.out; omega
          case rel => exact ⟨i + 1, f0, rfl, ⟨by have := HI.out; omega, by have := HI.out; omega, by have := HI.out; omega⟩, by rw [HOUT.out HKF.out]; exact HO', HQ', HF, BK2', BK7', HB'⟩
      · have hkf : ¬ kfL false kl i.toNat = true := by
          simp [kfL, List.getElem?_eq_none (show kl.length ≤ i.toNat by omega)]
        have kp : Kp wr (wr.alloc (.cells #[.int .i64 x.block, .slice Ai x.bytes.length ci] 147)) [] := Kp.below (below_alloc (Below.refl _ wr) _)
        have HO' := Aside0.mk (kp.row HO.out (by simp))
        have HQ' := Aside0.mk (kp.row HQ.out (by simp))
        have BK2' := Aside0.mk (kp.blk BK2.out (by simp)); have BK7' := Aside0.mk (kp.blk BK7.out (by simp))
        have HB' := Aside0.mk (kp.toBelow HB.out HB.out.size (by simp))
        have HKF := Aside0.mk hkf
        clear kp hkf HO HQ BK2 BK7 HB
        go_wp2
        go_roundg (gk - 1)
        case measure => have := HI.out; omega
        case rel => exact ⟨i + 1, f0, rfl, ⟨by have := HI.out; omega, by have := HI.out; omega, by have := HI.out; omega⟩, by rw [HOUT.out HKF.out]; exact HO', HQ', HF, BK2', BK7', HB'⟩
    · have hi := HI.out
      have e2 : i = ws.length := by omega
      subst e2
      have HO2 := HO.out
      simp only [Int.toNat_natCast] at HO2
      have HO3 : Aside0 (rBS.Row 22 wr (.slice Ap bs.length cp_) (settleL bs ws (kfL false kl)) f0) := ⟨HO2⟩
      clear HO2 hi HO HQ
      obtain ⟨J7, q7⟩ := set1 BK7.out 1 (.slice none 0 0)
      have J2 := q7.blk BK2.out (by simp; omega)
      obtain ⟨I2, q2⟩ := set2 J2 (.slice Ap bs.length cp_) (.slice none 0 0)
      have n7 := Rp.Row_not HO3.out BK7.out (by decide)
      have n2 := Rp.Row_not HO3.out BK2.out (by decide)
      have HR := Aside0.mk (q2.row (q7.row HO3.out (fun x hx hm => n7 (by simp at hm; exact hm ▸ hx))) (fun x hx hm => n2 (by simp at hm; exact hm ▸ hx)))
      have HB5 := Aside0.mk (q2.toBelow (q7.toBelow HB.out HB.out.size (fun x hx => by simp at hx; omega)) (Nat.le_trans HB.out.size q7.size) (fun x hx => by simp at hx; omega))
      have II := Aside0.mk I2
      have k7 := (blk_cell BK7.out 1).trans rfl; have z7 := blk_frozen BK7.out 1
      have k8 := (blk_cell J7 0).trans rfl; have k9 := (blk_cell J7 1).trans rfl
      have c2 := (blk_cell J2 0).trans rfl; have c3 := (blk_cell J2 1).trans rfl; have z2 := blk_frozen J2 0; have z3 := blk_frozen J2 1
      clear I2 q2 J2 J7 q7 n7 n2
      go_wp2
      refine bodyPost_ret (results_cell_row rfl _ _ (w.heap.size + 1) 43 #[.slice Ap bs.length cp_, .slice none 0 0] (0, 0) _ rfl II.out Try.underlying43 rfl (by kernel_rfl)) rfl ?_
      exact ⟨_, _, f0, [], rfl, HR.out, Rp.Row_nil _ _ _, by simpa using (List.nodup_append.1 HF.out.1).1, by simpa using fun b hb => HF.out.2 b (List.mem_append_left _ hb), HB5.out⟩
set_option maxRecDepth 100000 in
set_option maxHeartbeats 1000000 in
theorem specCrash_no (A0 A1 A2 : Option Addr) (c0 c1 c2_ : Nat) (bs : List (List Int)) (ws : List Wr) (kl : List Bool) (w : World) (hx : rBS.d.C w A0 bs.length bs) (hy : rW.d.C w A1 ws.length ws) (hno : ¬ DkOk bs ws) :
    Calls Try.prog 64 #[.agg #[.slice A0 bs.length c0, .slice A1 ws.length c1], .slice A2 kl.length c2_] w (GotDisk w [] []) := by
  have hb0 := below_alloc (below_alloc (Below.refl w.heap.size w) (.cells #[.slice A0 bs.length c0, .slice A1 ws.length c1] 43)) (.cells #[.slice none 0 0, .slice none 0 0] 43)
  have BK2 := Aside0.mk (blk_new' (w := w.alloc (.cells #[.slice A0 bs.length c0, .slice A1 ws.length c1] 43)) (.cells #[.slice none 0 0, .slice none 0 0] 43) (n := w.heap.size + 1) (by simp))
  have HX := Aside0.mk (Kd.C_below hx hb0); have HY := Aside0.mk (Kd.C_below hy hb0); have HB0 := Aside0.mk hb0; have HNO := Aside0.mk hno
  clear hx hy hb0 hno
  go_enter Try.func64, Try.ntmps64
  go_wp2_with (go_at_call 99; refine (specDiskOk_c _ _ _ _ bs ws false ⟨fun h => (by cases h), fun h => absurd h HNO.out⟩ _ HX.out HY.out).mono ?_; rintro e w1 ⟨rfl, hb1⟩; have J2 := blk_below BK2.out hb1; have c2 := (blk_cell J2 0).trans rfl; have c3 := (blk_cell J2 1).trans rfl; have z2 := blk_frozen J2 0; have z3 := blk_frozen J2 1; obtain ⟨I2, q2⟩ := set2 J2 (.slice none 0 0) (.slice none 0 0); have II := Aside0.mk I2; have QQ := Aside0.mk q2; have HB1 := Aside0.mk (below_then HB0.out (by simp; omega) hb1); clear J2 I2 q2 hb1)
  refine bodyPost_ret (results_cell_row rfl _ _ (w.heap.size + 1) 43 #[.slice none 0 0, .slice none 0 0] (0, 0) _ rfl II.out Try.underlying43 rfl (by kernel_rfl)) rfl ?_
  exact ⟨_, _, [], [], rfl, Rp.Row_nil _ _ _, Rp.Row_nil _ _ _, by simp, by simp, QQ.out.toBelow HB1.out HB1.out.size (fun x hx => by simp at hx; omega)⟩
set_option maxRecDepth 100000 in
set_option maxHeartbeats 1000000 in
theorem specSync_no (A0 A1 : Option Addr) (c0 c1 : Nat) (bs : List (List Int)) (ws : List Wr) (w : World) (hx : rBS.d.C w A0 bs.length bs) (hy : rW.d.C w A1 ws.length ws) (hno : ¬ DkOk bs ws) :
    Calls Try.prog 62 #[.agg #[.slice A0 bs.length c0, .slice A1 ws.length c1]] w (GotDisk w [] []) := by
  have hb0 := below_alloc (below_alloc (Below.refl w.heap.size w) (.cells #[.slice A0 bs.length c0, .slice A1 ws.length c1] 43)) (.cells #[.slice none 0 0, .slice none 0 0] 43)
  have BK2 := Aside0.mk (blk_new' (w := w.alloc (.cells #[.slice A0 bs.length c0, .slice A1 ws.length c1] 43)) (.cells #[.slice none 0 0, .slice none 0 0] 43) (n := w.heap.size + 1) (by simp))
  have HX := Aside0.mk (Kd.C_below hx hb0); have HY := Aside0.mk (Kd.C_below hy hb0); have HB0 := Aside0.mk hb0; have HNO := Aside0.mk hno
  clear hx hy hb0 hno
  go_enter Try.func62, Try.ntmps62
  go_wp2_with (go_at_call 99; refine (specDiskOk_c _ _ _ _ bs ws false ⟨fun h => (by cases h), fun h => absurd h HNO.out⟩ _ HX.out HY.out).mono ?_; rintro e w1 ⟨rfl, hb1⟩; have J2 := blk_below BK2.out hb1; have c2 := (blk_cell J2 0).trans rfl; have c3 := (blk_cell J2 1).trans rfl; have z2 := blk_frozen J2 0; have z3 := blk_frozen J2 1; obtain ⟨I2, q2⟩ := set2 J2 (.slice none 0 0) (.slice none 0 0); have II := Aside0.mk I2; have QQ := Aside0.mk q2; have HB1 := Aside0.mk (below_then HB0.out (by simp; omega) hb1); clear J2 I2 q2 hb1)
  refine bodyPost_ret (results_cell_row rfl _ _ (w.heap.size + 1) 43 #[.slice none 0 0, .slice none 0 0] (0, 0) _ rfl II.out Try.underlying43 rfl (by kernel_rfl)) rfl ?_
  exact ⟨_, _, [], [], rfl, Rp.Row_nil _ _ _, Rp.Row_nil _ _ _, by simp, by simp, QQ.out.toBelow HB1.out HB1.out.size (fun x hx => by simp at hx; omega)⟩
set_option maxRecDepth 100000 in
set_option maxHeartbeats 1000000 in
theorem specCrash_yes (A0 A1 A2 : Option Addr) (c0 c1 c2_ : Nat) (bs : List (List Int)) (ws : List Wr) (kl : List Bool) (w : World) (hx : rBS.d.C w A0 bs.length bs) (hy : rW.d.C w A1 ws.length ws) (hk : Kd.bool.C w A2 kl.length kl) (hd : DkOk bs ws) :
    Calls Try.prog 64 #[.agg #[.slice A0 bs.length c0, .slice A1 ws.length c1], .slice A2 kl.length c2_] w (GotDisk w (settleL bs ws (kfL false kl)) []) := by
  have hb0 := below_alloc (below_alloc (Below.refl w.heap.size w) (.cells #[.slice A0 bs.length c0, .slice A1 ws.length c1] 43)) (.cells #[.slice none 0 0, .slice none 0 0] 43)
  have BK1 := Aside0.mk (blk_alloc (blk_new w (.cells #[.slice A0 bs.length c0, .slice A1 ws.length c1] 43)) (.cells #[.slice none 0 0, .slice none 0 0] 43))
  have BK2 := Aside0.mk (blk_new' (w := w.alloc (.cells #[.slice A0 bs.length c0, .slice A1 ws.length c1] 43)) (.cells #[.slice none 0 0, .slice none 0 0] 43) (n := w.heap.size + 1) (by simp))
  have HX := Aside0.mk (Kd.C_below hx hb0); have HY := Aside0.mk (Kd.C_below hy hb0); have HB0 := Aside0.mk hb0; have HD := Aside0.mk hd; have HK := Aside0.mk (Kd.C_below hk hb0)
  clear hk
  clear hx hy hb0 hd
  go_enter Try.func64, Try.ntmps64
  go_wp2_with fail
  refine (specDiskOk_c _ _ _ _ bs ws true ⟨fun _ => HD.out, fun _ => rfl⟩ _ HX.out HY.out).mono ?_
  rintro e w1 ⟨rfl, hb1⟩
  have J1 := blk_below BK1.out hb1
  have d0 := (blk_cell J1 0).trans rfl; have d1 := (blk_cell J1 1).trans rfl
  have HX1 := Aside0.mk (Kd.C_below HX.out hb1); have HY1 := Aside0.mk (Kd.C_below HY.out hb1)
  have HB1 := Aside0.mk (below_then HB0.out (by simp; omega) hb1); have BK2' := Aside0.mk (blk_below BK2.out hb1); have HK1 := Aside0.mk (Kd.C_below HK.out hb1)
  clear J1 hb1
  go_wp2_with fail
  refine (l2settle_c _ _ A2 _ _ _ bs ws false kl _ HX1.out HY1.out HK1.out HD.out).mono ?_
  rintro e w2 ⟨v0, v1, f0, f1, rfl, r0, r1, hnd, hge, hb2⟩
  obtain ⟨L, hL⟩ : ∃ L, L = settleL bs ws (kfL false kl) := ⟨_, rfl⟩
  obtain ⟨W0, hW⟩ : ∃ W0, W0 = ([] : List Wr) := ⟨_, rfl⟩
  rw [← hL] at r0
  rw [← hW] at r1
  have HL := Aside0.mk hL; have HW := Aside0.mk hW
  clear hL hW
  obtain ⟨Ap, cp_, rfl, _, _⟩ := Rp.Row_reads r0
  obtain ⟨Aq, cq, rfl, _, _⟩ := Rp.Row_reads r1
  have J2 := blk_below BK2'.out hb2
  have c2 := (blk_cell J2 0).trans rfl; have c3 := (blk_cell J2 1).trans rfl; have z2 := blk_frozen J2 0; have z3 := blk_frozen J2 1
  obtain ⟨I2, q2⟩ := set2 J2 (.slice Ap L.length cp_) (.slice Aq W0.length cq)
  have n0 := Rp.Row_not r0 J2 (by decide); have n1 := Rp.Row_not r1 J2 (by decide)
  have R0 := Aside0.mk (q2.row r0 (fun x hx hm => n0 (by simp at hm; exact hm ▸ hx))); have R1 := Aside0.mk (q2.row r1 (fun x hx hm => n1 (by simp at hm; exact hm ▸ hx)))
  have HB2 := Aside0.mk (q2.toBelow (below_then HB1.out HB1.out.size hb2) (Nat.le_trans HB1.out.size hb2.size) (fun x hx => by simp at hx; omega))
  have HN := Aside0.mk hnd; have HG : Aside0 (∀ x ∈ f0 ++ f1, w.heap.size ≤ x) := ⟨fun x hx => by have := hge x hx; have := HB1.out.size; omega⟩
  have II := Aside0.mk I2
  clear I2 q2 n0 n1 r0 r1 hnd hge hb2 J2 d0 d1
  go_wp2
  refine bodyPost_ret (results_cell_row rfl _ _ (w.heap.size + 1) 43 #[.slice Ap L.length cp_, .slice Aq W0.length cq] (0, 0) _ rfl II.out Try.underlying43 rfl (by kernel_rfl)) rfl ?_
  have hL := HL.out; have hW := HW.out
  subst hL; subst hW
  exact ⟨_, _, f0, f1, rfl, R0.out, R1.out, HN.out, HG.out, HB2.out⟩
set_option maxRecDepth 100000 in
set_option maxHeartbeats 1000000 in
theorem specSync_yes (A0 A1 : Option Addr) (c0 c1 : Nat) (bs : List (List Int)) (ws : List Wr) (w : World) (hx : rBS.d.C w A0 bs.length bs) (hy : rW.d.C w A1 ws.length ws) (hd : DkOk bs ws) :
    Calls Try.prog 62 #[.agg #[.slice A0 bs.length c0, .slice A1 ws.length c1]] w (GotDisk w (settleL bs ws (kfL true [])) []) := by
  have hb0 := below_alloc (below_alloc (Below.refl w.heap.size w) (.cells #[.slice A0 bs.length c0, .slice A1 ws.length c1] 43)) (.cells #[.slice none 0 0, .slice none 0 0] 43)
  have BK1 := Aside0.mk (blk_alloc (blk_new w (.cells #[.slice A0 bs.length c0, .slice A1 ws.length c1] 43)) (.cells #[.slice none 0 0, .slice none 0 0] 43))
  have BK2 := Aside0.mk (blk_new' (w := w.alloc (.cells #[.slice A0 bs.length c0, .slice A1 ws.length c1] 43)) (.cells #[.slice none 0 0, .slice none 0 0] 43) (n := w.heap.size + 1) (by simp))
  have HX := Aside0.mk (Kd.C_below hx hb0); have HY := Aside0.mk (Kd.C_below hy hb0); have HB0 := Aside0.mk hb0; have HD := Aside0.mk hd
  clear hx hy hb0 hd
  go_enter Try.func62, Try.ntmps62
  go_wp2_with fail
  refine (specDiskOk_c _ _ _ _ bs ws true ⟨fun _ => HD.out, fun _ => rfl⟩ _ HX.out HY.out).mono ?_
  rintro e w1 ⟨rfl, hb1⟩
  have J1 := blk_below BK1.out hb1
  have d0 := (blk_cell J1 0).trans rfl; have d1 := (blk_cell J1 1).trans rfl
  have HX1 := Aside0.mk (Kd.C_below HX.out hb1); have HY1 := Aside0.mk (Kd.C_below HY.out hb1)
  have HB1 := Aside0.mk (below_then HB0.out (by simp; omega) hb1); have BK2' := Aside0.mk (blk_below BK2.out hb1)
  clear J1 hb1
  go_wp2_with fail
  refine (l2settle_c _ _ none _ _ _ bs ws true [] _ HX1.out HY1.out ⟨rfl, by simp, fun h => absurd h (by simp)⟩ HD.out).mono ?_
  rintro e w2 ⟨v0, v1, f0, f1, rfl, r0, r1, hnd, hge, hb2⟩
  obtain ⟨L, hL⟩ : ∃ L, L = settleL bs ws (kfL true []) := ⟨_, rfl⟩
  obtain ⟨W0, hW⟩ : ∃ W0, W0 = ([] : List Wr) := ⟨_, rfl⟩
  rw [← hL] at r0
  rw [← hW] at r1
  have HL := Aside0.mk hL; have HW := Aside0.mk hW
  clear hL hW
  obtain ⟨Ap, cp_, rfl, _, _⟩ := Rp.Row_reads r0
  obtain ⟨Aq, cq, rfl, _, _⟩ := Rp.Row_reads r1
  have J2 := blk_below BK2'.out hb2
  have c2 := (blk_cell J2 0).trans rfl; have c3 := (blk_cell J2 1).trans rfl; have z2 := blk_frozen J2 0; have z3 := blk_frozen J2 1
  obtain ⟨I2, q2⟩ := set2 J2 (.slice Ap L.length cp_) (.slice Aq W0.length cq)
  have n0 := Rp.Row_not r0 J2 (by decide); have n1 := Rp.Row_not r1 J2 (by decide)
  have R0 := Aside0.mk (q2.row r0 (fun x hx hm => n0 (by simp at hm; exact hm ▸ hx))); have R1 := Aside0.mk (q2.row r1 (fun x hx hm => n1 (by simp at hm; exact hm ▸ hx)))
  have HB2 := Aside0.mk (q2.toBelow (below_then HB1.out HB1.out.size hb2) (Nat.le_trans HB1.out.size hb2.size) (fun x hx => by simp at hx; omega))
  have HN := Aside0.mk hnd; have HG : Aside0 (∀ x ∈ f0 ++ f1, w.heap.size ≤ x) := ⟨fun x hx => by have := hge x hx; have := HB1.out.size; omega⟩
  have II := Aside0.mk I2
  clear I2 q2 n0 n1 r0 r1 hnd hge hb2 J2 d0 d1
  go_wp2
  refine bodyPost_ret (results_cell_row rfl _ _ (w.heap.size + 1) 43 #[.slice Ap L.length cp_, .slice Aq W0.length cq] (0, 0) _ rfl II.out Try.underlying43 rfl (by kernel_rfl)) rfl ?_
  have hL := HL.out; have hW := HW.out
  subst hL; subst hW
  exact ⟨_, _, f0, f1, rfl, R0.out, R1.out, HN.out, HG.out, HB2.out⟩
end Go.Proofs.Ytocdlibnmlcokaa
