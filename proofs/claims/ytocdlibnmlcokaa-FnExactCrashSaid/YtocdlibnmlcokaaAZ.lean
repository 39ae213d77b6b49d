/- Seen; bools. -/
import Derived.Test.YtocdlibnmlcokaaAY
import Derived.Test.YtocdlibnmlcokaaAE
namespace Go.Proofs.Ytocdlibnmlcokaa
open Go.RowKit Go.Proofs.YtocdlibnmlcokaaW.PrintWords Go.Proofs.YtocdlibnmlcokaaW.PrintLast
set_option linter.unusedVariables false
set_option linter.unusedSimpArgs false
theorem rdb_eq {xs : List Bool} {i : Int} (h1 : i.toNat < xs.length) : rdOf false xs i = xs[i.toNat] := by simp [rdOf, List.getD_eq_getElem?_getD, h1]
def mkO (k : Int) (_x : Bool) : Bool := k % 3 == 0
set_option maxRecDepth 100000 in
set_option maxHeartbeats 1000000 in
theorem toBoolS_c (A : Option Addr) (c : Nat) (xs : List Bool) (w : World) (hx : Kd.bool.C w A xs.length xs) (hm : xs.length ≤ 10000000) :
    Calls Try.prog 65 #[.slice A xs.length c] w (GotRow Rp.bool 4 w xs) := by
  have HX := Aside0.mk hx; have HM := Aside0.mk hm; clear hx
  go_enter Try.func65, Try.ntmps65
  go_wp2_with ((with_reducible refine gate_dst (N := 7) rfl ?_); refine Rp.mk_row Rp.bool rfl (N := 7) rfl 34 4 _ _ rfl (xs.length : Int) rfl rfl Try.underlying34 (.bool false) 1 info4 rfl (by decide) (by omega) false (fun _ => ⟨rfl, rfl⟩) (by omega) (by have := HM.out; omega) ?_; intro g w1 hg hr hb; have HG := Aside0.mk hg; have HR := Aside0.mk hr; have HB := Aside0.mk hb; clear hg hr hb)
  have hr0 := HR.out
  simp only [Int.toNat_natCast] at hr0
  rw [← fillTo_zero] at hr0
  replace HR := Aside0.mk hr0; clear hr0
  go_loopg [4] xs.length (fun m vi wr => ∃ i : Int, vi = .int .i64 i ∧ Aside0 (0 ≤ i ∧ i ≤ xs.length ∧ xs.length - i.toNat ≤ m) ∧ Aside0 (Rp.bool.Row 4 wr (.slice (some ⟨g, 0, none⟩) xs.length xs.length) (fillTo false xs i.toNat) [g]) ∧ Aside0 (Below w.heap.size w wr))
  case atStart => exact ⟨0, rfl, ⟨by simp⟩, HR, HB⟩
  case round =>
    clear HR HB
    obtain ⟨i, rfl, HI, HO, HB⟩ := hrel
    by_cases hlt : i < (xs.length : Int)
    · have hi0 : 0 ≤ i := HI.out.1
      obtain ⟨ad, hA, c1⟩ := Kd.at_bool (Kd.C_below HX.out HB.out) i hi0 hlt
      cases hA
      obtain ⟨cs, f, hP, _, _, hg, hcell, hfr, _, hst⟩ := Rp.Row_elem HO.out (by simp) i.toNat (by rw [fillTo_len _ _ _ (by omega)]; omega)
      obtain ⟨hcs, hf⟩ := hP
      subst hcs; subst hf
      have e0 : i.toNat * Rp.bool.d.sz + 0 = i.toNat := Nat.mul_one _
      have c2 := hcell 0 _ rfl
      rw [e0] at c2
      have z1 := hfr i.toNat
      clear hcell hfr
      obtain ⟨fp', hr', _, _, he⟩ := hst 0 (.bool (rdOf false xs i)) (rdOf false xs i) [] (by decide) ⟨rfl, rfl⟩ (by simp) (by simp) (.inl rfl)
      have he := he rfl
      subst he
      rw [e0, rdb_eq (by omega), fillTo_succ _ _ (by omega), ← rdb_eq (by omega)] at hr'
      have HO' := Aside0.mk hr'
      have hb' := HB.out.setCell (p := ⟨g, i.toNat, none⟩) (by rw [HG.out]; exact Nat.le_refl _) (.bool (rdOf false xs i))
      have HB' := Aside0.mk hb'
      clear hst hr' e0 hg hb'
      go_wp2
      go_roundg (gk - 1)
      case measure => have := HI.out; omega
      case rel => exact ⟨i + 1, rfl, ⟨by have := HI.out; omega, by have := HI.out; omega, by have := HI.out; omega⟩, by rw [show (i + 1).toNat = i.toNat + 1 by omega]; exact HO', HB'⟩
    · have e1 := fillTo_end false xs (i := i.toNat) (by have := HI.out; omega)
      replace HO := HO.out; rw [e1] at HO
      have HO := Aside0.mk HO
      clear e1
      go_wp2
      go_ret
      exact ⟨_, rfl, ⟨[g], HO.out, by simp, fun b hb => by simp at hb; have := HG.out; omega⟩, HB.out⟩
set_option maxRecDepth 100000 in
set_option maxHeartbeats 1000000 in
theorem eqBoolS_t (A A' : Option Addr) (c c' : Nat) (xs : List Bool) (w : World) (hx : Kd.bool.C w A xs.length xs) (hy : Kd.bool.C w A' xs.length xs) :
    Calls Try.prog 67 #[.slice A xs.length c, .slice A' xs.length c'] w (Yes w) := by
  have hl : xs.length ≤ 9223372036854775807 := hx.2.1
  have HX := Aside0.mk hx; have HY := Aside0.mk hy; clear hx hy
  go_enter Try.func67, Try.ntmps67
  go_wp2
  go_loopg [5] xs.length (fun k v w' => ∃ i : Int, v = .int .i64 i ∧ Aside0 (0 ≤ i ∧ i ≤ xs.length ∧ xs.length - i.toNat ≤ k) ∧ Drawn0 w w')
  case atStart => exact ⟨0, rfl, ⟨by simp⟩, Drawn0.refl _⟩
  case round =>
    obtain ⟨i, rfl, HI, ⟨m, rfl⟩⟩ := hrel
    by_cases h1 : i < (xs.length : Int)
    · have h0 : 0 ≤ i := HI.out.1
      obtain ⟨ad, e1, hc1⟩ := Kd.at_bool HX.out i h0 h1
      obtain ⟨ad', e2, hc2⟩ := Kd.at_bool HY.out i h0 h1
      cases e1; cases e2
      go_wp2
      repeat (go_quiet (fail); try go_wp2)
      go_roundg (gk - 1)
      case measure => have := HI.out; omega
      case rel => exact ⟨i + 1, rfl, ⟨by have := HI.out; omega, by have := HI.out; omega, by have := HI.out; omega⟩, by repeat (first | exact Drawn0.refl _ | apply Drawn0.step)⟩
    · go_wp2
      go_ret
      exact ⟨rfl, Drawn0.below (by repeat (first | exact Drawn0.refl _ | apply Drawn0.step))⟩
set_option maxHeartbeats 1000000 in
theorem markBoolS_c (v : Value) (xs : List Bool) (fp : List Nat) (k : Int) (w : World) (hr : Rp.bool.Row 4 w v xs fp) (hnd : fp.Nodup) (h0 : 0 ≤ k) (h1 : k + xs.length ≤ 1000000000) :
    Calls Try.prog 68 #[v, .int .i64 k] w (GotMark Rp.bool 4 w v (markL mkO cn1 k xs) fp (k + xs.length)) := by
  obtain ⟨A, c, rfl, _, _⟩ := Rp.Row_reads hr
  have HR := Aside0.mk hr; have HN := Aside0.mk hnd; clear hr hnd
  go_enter Try.func68, Try.ntmps68
  go_wp2
  go_loopg [1, 5] xs.length (fun m vk vi wr => ∃ i : Int, vi = .int .i64 i ∧ vk = .int .i64 (k + i) ∧ Aside0 (0 ≤ i ∧ i ≤ xs.length ∧ xs.length - i.toNat ≤ m) ∧ Aside0 (Rp.bool.Row 4 wr (.slice A xs.length c) (markTo mkO cn1 k xs i.toNat) fp) ∧ Aside0 (Kp w wr fp))
  case atStart => exact ⟨0, rfl, by rw [Int.add_zero], ⟨by simp⟩, ⟨by simpa [markTo_zero] using HR.out⟩, ⟨(Kp.refl w).mono (by simp)⟩⟩
  case round =>
    obtain ⟨i, rfl, rfl, HI, HO, HK⟩ := hrel
    by_cases hlt : i < (xs.length : Int)
    · have hi0 : 0 ≤ i := HI.out.1
      obtain ⟨g, cap, hv, _, _⟩ := Rp.Row_form HO.out (by rw [markTo_len]; omega)
      rw [markTo_len] at hv
      injection hv with hA _ hc
      subst hA; subst hc
      obtain ⟨cs, f, hP, _, _, hg, hcell, hfr, _, hst⟩ := Rp.Row_elem HO.out HN.out i.toNat (by rw [markTo_len]; omega)
      obtain ⟨hcs, hf⟩ := hP
      subst hcs; subst hf
      have e0 : i.toNat * Rp.bool.d.sz + 0 = i.toNat := Nat.mul_one _
      have c1 := hcell 0 _ rfl
      rw [e0] at c1
      have z1 := hfr i.toNat
      clear hcell hfr
      obtain ⟨fp', hr', _, _, he⟩ := hst 0 (.bool (mkO (k + i) false)) (mkO (k + i) false) [] (by decide) ⟨rfl, rfl⟩ (by simp) (by simp) (.inl rfl)
      have he := he rfl
      subst he
      rw [e0] at hr'
      have HO' := Aside0.mk hr'
      clear hst hr' e0
      go_wp2
      go_roundg (gk - 1)
      case measure => have := HI.out; omega
      case rel =>
        refine ⟨i + 1, ?_, ?_, ⟨by have := HI.out; omega, by have := HI.out; omega, by have := HI.out; omega⟩, ?_, ?_⟩
        · rfl
        · rw [Int.add_assoc]
        · have hs := markTo_succ (mk := mkO) (cnt := cn1) k xs (i := i.toNat) (by omega)
          rw [cnt1, List.length_take, show ((min i.toNat xs.length : Nat) : Int) = i by omega] at hs
          rw [show (i + 1).toNat = i.toNat + 1 by omega, ← hs]
          exact HO'
        · exact ⟨HK.out.trans (Kp.set _ _ _ _) (fun b hb _ => by simp at hb; subst hb; exact hg)⟩
    · have hi := HI.out
      have e1 := markTo_end (mk := mkO) (cnt := cn1) k xs (i := i.toNat) (by omega)
      replace HO := HO.out; rw [e1] at HO
      have e2 : i = xs.length := by omega
      subst e2
      have HO := Aside0.mk HO
      clear e1 hi
      go_wp2
      go_ret
      exact ⟨rfl, HO.out, HK.out⟩
set_option maxRecDepth 100000 in
set_option maxHeartbeats 1000000 in
theorem implSeen_w (A0 A1 : Option Addr) (c0 c1 : Nat) (bs bs' : List (List Int)) (ws : List Wr) (w : World) (hx : rBS.d.C w A0 bs.length bs) (hy : rW.d.C w A1 ws.length ws)
    (hcr : ∀ (w' : World), rBS.d.C w' A0 bs.length bs → rW.d.C w' A1 ws.length ws → Calls Try.prog 63 #[.agg #[.slice A0 bs.length c0, .slice A1 ws.length c1]] w' (GotDisk w' bs' [])) :
    Calls Try.prog 58 #[.agg #[.slice A0 bs.length c0, .slice A1 ws.length c1]] w (GotRow rBS 22 w bs') := by
  have hb0 := Aside0.mk (below_alloc (Below.refl w.heap.size w) (.cells #[.slice A0 bs.length c0, .slice A1 ws.length c1] 43))
  have hfv : ∀ (x y : Value) (W : World), (Instr.field 43 (.agg #[x, y]) 0).run Try.prog W = .ok x W := by
    intro x y W
    have hu_ := Try.underlying43
    simp [Instr.field, go_sem, hu_, asAgg]
  have HX := Aside0.mk hx; have HY := Aside0.mk hy; have HCR := Aside0.mk hcr; clear hx hy hcr
  go_enter Try.func58, Try.ntmps58
  go_wp2_with fail
  refine (HCR.out _ (Kd.C_below HX.out hb0.out) (Kd.C_below HY.out hb0.out)).mono ?_
  rintro e w2 ⟨v0, v1, f0, f1, rfl, r0, r1, hnd, hge, hb2⟩
  obtain ⟨Ap, cp_, rfl, _, _⟩ := Rp.Row_reads r0
  have R0 := Aside0.mk r0; have HN := Aside0.mk hnd; have HG := Aside0.mk hge; have HB := Aside0.mk (below_then hb0.out (by simp) hb2)
  clear r0 r1 hnd hge hb2
  go_wp2
  go_ret
  exact ⟨_, rfl, ⟨f0, R0.out, (List.nodup_append.1 HN.out).1, fun b hb => by have := HG.out b (List.mem_append_left _ hb); simp at this; omega⟩, HB.out⟩
theorem implSeen_yes (A0 A1 : Option Addr) (c0 c1 : Nat) (bs : List (List Int)) (ws : List Wr) (w : World) (hx : rBS.d.C w A0 bs.length bs) (hy : rW.d.C w A1 ws.length ws) (hd : DkOk bs ws) :
    Calls Try.prog 58 #[.agg #[.slice A0 bs.length c0, .slice A1 ws.length c1]] w (GotRow rBS 22 w (settleL bs ws (kfL true []))) :=
  implSeen_w A0 A1 c0 c1 bs _ ws w hx hy fun w' h0 h1 => implSync_yes A0 A1 c0 c1 bs ws w' h0 h1 hd
theorem implSeen_no (A0 A1 : Option Addr) (c0 c1 : Nat) (bs : List (List Int)) (ws : List Wr) (w : World) (hx : rBS.d.C w A0 bs.length bs) (hy : rW.d.C w A1 ws.length ws) (hm : ws.length ≤ 10000000) (hd : ¬ DkOk bs ws) :
    Calls Try.prog 58 #[.agg #[.slice A0 bs.length c0, .slice A1 ws.length c1]] w (GotRow rBS 22 w []) :=
  implSeen_w A0 A1 c0 c1 bs _ ws w hx hy fun w' h0 h1 => implSync_no A0 A1 c0 c1 bs ws w' h0 h1 hm hd
set_option maxRecDepth 100000 in
set_option maxHeartbeats 1000000 in
theorem specSeen_yes (A0 A1 : Option Addr) (c0 c1 : Nat) (bs : List (List Int)) (ws : List Wr) (w : World) (hx : rBS.d.C w A0 bs.length bs) (hy : rW.d.C w A1 ws.length ws) (hd : DkOk bs ws) :
    Calls Try.prog 57 #[.agg #[.slice A0 bs.length c0, .slice A1 ws.length c1]] w (GotRow rBS 22 w (settleL bs ws (kfL true []))) := by
  have hb0 := Aside0.mk (below_alloc (Below.refl w.heap.size w) (.cells #[.slice A0 bs.length c0, .slice A1 ws.length c1] 43))
  have BK1 := Aside0.mk (blk_new w (.cells #[.slice A0 bs.length c0, .slice A1 ws.length c1] 43))
  have HX := Aside0.mk hx; have HY := Aside0.mk hy; have HD := Aside0.mk hd; clear hx hy hd
  go_enter Try.func57, Try.ntmps57
  go_wp2_with fail
  refine (specDiskOk_c _ _ _ _ bs ws true ⟨fun _ => HD.out, fun _ => rfl⟩ _ (Kd.C_below HX.out hb0.out) (Kd.C_below HY.out hb0.out)).mono ?_
  rintro e w1 ⟨rfl, hb1⟩
  have J1 := blk_below BK1.out hb1
  have d0 := (blk_cell J1 0).trans rfl; have d1 := (blk_cell J1 1).trans rfl
  have HB1 := Aside0.mk (below_then hb0.out (by simp) hb1)
  clear J1 hb1
  go_wp2_with fail
  refine (specSync_yes _ _ _ _ bs ws _ (Kd.C_below HX.out HB1.out) (Kd.C_below HY.out HB1.out) HD.out).mono ?_
  rintro e w2 ⟨v0, v1, f0, f1, rfl, r0, r1, hnd, hge, hb2⟩
  obtain ⟨L, hL⟩ : ∃ L, L = settleL bs ws (kfL true []) := ⟨_, rfl⟩
  rw [← hL] at r0
  have HL := Aside0.mk hL
  clear hL
  obtain ⟨W0, hW⟩ : ∃ W0, W0 = ([] : List Wr) := ⟨_, rfl⟩
  rw [← hW] at r1
  clear hW
  obtain ⟨Ap, cp_, rfl, _, _⟩ := Rp.Row_reads r0
  obtain ⟨Aq, cq, rfl, _, _⟩ := Rp.Row_reads r1
  have R0 := Aside0.mk (Rp.Row_alloc r0 (.cells #[.slice Ap L.length cp_, .slice Aq W0.length cq] 43)); have HN := Aside0.mk hnd; have HG := Aside0.mk hge
  have HB := Aside0.mk (below_then (below_then HB1.out HB1.out.size hb2) (Nat.le_trans HB1.out.size hb2.size) (below_alloc (Below.refl _ w2) (.cells #[.slice Ap L.length cp_, .slice Aq W0.length cq] 43)))
  have hs1 := Aside0.mk HB1.out.size
  clear r0 r1 hnd hge hb2 d0 d1
  go_wp2
  go_ret
  have hL := HL.out
  subst hL
  exact ⟨_, rfl, ⟨f0, R0.out, (List.nodup_append.1 HN.out).1, fun b hb => by have := HG.out b (List.mem_append_left _ hb); have := hs1.out; omega⟩, HB.out⟩
set_option maxRecDepth 100000 in
set_option maxHeartbeats 1000000 in
theorem specSeen_no (A0 A1 : Option Addr) (c0 c1 : Nat) (bs : List (List Int)) (ws : List Wr) (w : World) (hx : rBS.d.C w A0 bs.length bs) (hy : rW.d.C w A1 ws.length ws) (hno : ¬ DkOk bs ws) :
    Calls Try.prog 57 #[.agg #[.slice A0 bs.length c0, .slice A1 ws.length c1]] w (GotRow rBS 22 w []) := by
  have hb0 := Aside0.mk (below_alloc (Below.refl w.heap.size w) (.cells #[.slice A0 bs.length c0, .slice A1 ws.length c1] 43))
  have HX := Aside0.mk hx; have HY := Aside0.mk hy; have HNO := Aside0.mk hno; clear hx hy hno
  go_enter Try.func57, Try.ntmps57
  go_wp2_with fail
  refine (specDiskOk_c _ _ _ _ bs ws false ⟨fun h => (by cases h), fun h => absurd h HNO.out⟩ _ (Kd.C_below HX.out hb0.out) (Kd.C_below HY.out hb0.out)).mono ?_
  rintro e w1 ⟨rfl, hb1⟩
  have HB1 := Aside0.mk (below_then hb0.out (by simp) hb1)
  clear hb1
  go_wp2
  go_ret
  exact ⟨_, rfl, ⟨[], Rp.Row_nil _ _ _, by simp, by simp⟩, HB1.out⟩
end Go.Proofs.Ytocdlibnmlcokaa
