/- FnExactRun: the walk. -/
import Derived.Test.YtocdlibnmlcokaaKRR5
namespace Go.Proofs.Ytocdlibnmlcokaa
open Go.RowKit Go.Proofs.YtocdlibnmlcokaaW.PrintWords Go.Proofs.YtocdlibnmlcokaaW.PrintLast
set_option linter.unusedVariables false
set_option linter.unusedSimpArgs false
theorem out_found {o : Opn} (ho : Inv o) (xs : List Ac) : ∀ i, ∀ y ∈ outL o xs i, y.found.length ≤ 7112
  | 0, y, h => by simp [outL] at h
  | i + 1, y, h => by
    simp only [outL] at h
    rcases List.mem_append.1 h with h | h
    · exact out_found ho xs i y h
    · rw [List.mem_singleton] at h
      subst h
      have h1 := (inv_st ho xs i).notes.2
      show (askL _ _).length ≤ 7112
      unfold askL
      split
      · exact Nat.le_trans (findTo_len _ _ _) h1
      · simp
theorem run_small (xs : List Ac) : (runL xs).length ≤ 300 ∧ cntL cnAd (runL xs) ≤ 3000000 := by
  have h1 : (runL xs).length ≤ 300 := by
    unfold runL
    split
    · simp
    · rw [outL_len]; omega
  have h2 : ∀ y ∈ runL xs, cnAd y ≤ 7115 := fun y hy => by
    unfold runL at hy
    split at hy
    · simp at hy
    · have := out_found inv_first xs _ y hy
      unfold cnAd; omega
  have h3 := cntL_bound (cnt := cnAd) (m := 7115) (by omega) (runL xs) h2
  exact ⟨h1, by omega⟩
theorem cntAc_le : ∀ xs : List Ac, cntL cnAc xs ≤ 13 * xs.length + cntL cnA xs
  | [] => by simp [cntL]
  | x :: r => by
    have := cntAc_le r
    simp only [cntL, List.length_cons]
    have h : cnAc x ≤ 13 + cnA x := by unfold cnAc cnA; omega
    omega
theorem acts_small {xs : List Ac} (h : xs.length + cntL cnA xs ≤ 1048576) : xs.length ≤ 1048576 ∧ cntL cnAc xs ≤ 100000000 ∧ ∀ x ∈ xs, x.note.text.size < 4294967281 ∧ x.ask.text.size < 4294967281 ∧ x.kept.length ≤ 10000000 := by
  have h0 := cntL_nonneg (cnt := cnA) cnA_nonneg xs
  have h1 := cntAc_le xs
  refine ⟨by omega, by omega, fun x hx => ?_⟩
  have h2 := cntL_mem (cnt := cnA) cnA_nonneg xs x hx
  unfold cnA at h2 h0 h
  omega
set_option maxRecDepth 100000 in
set_option maxHeartbeats 8000000 in
theorem fnExactRun_l (A : Option Addr) (c : Nat) (xs : List Ac) (w : World) (hx : rAc.d.C w A xs.length xs) (ht : ∀ x ∈ xs, AcTx x) (hsz : ¬ xs.length + cntL cnA xs ≤ 1048576) :
    Calls Try.prog 20 #[.slice A xs.length c] w (Yes w) := by
  have HX := Aside0.mk hx; have HT := Aside0.mk ht
  have HSZ := Aside0.mk (szR_no hsz)
  clear hx ht hsz
  have O := Aside0.mk (Own.nil w)
  go_enter Try.func20, Try.ntmps20
  go_wp2_with fail
  refine (szActS_c _ _ xs 1048576 _ HX.out HT.out (by omega) (by omega)).mono ?_
  rintro e w2 ⟨rfl, hb⟩
  rw [HSZ.out]
  replace O := Aside0.mk (O.out.below hb); clear hb
  go_wp2_with fail
  go_ret
  exact ⟨rfl, O.out.bel⟩
set_option maxRecDepth 100000 in
set_option maxHeartbeats 8000000 in
theorem fnExactRun_w (A : Option Addr) (c : Nat) (xs : List Ac) (w : World) (hx : rAc.d.C w A xs.length xs) (ht : ∀ x ∈ xs, AcTx x) (hsz : xs.length + cntL cnA xs ≤ 1048576) (hm : HasMax w) :
    Calls Try.prog 20 #[.slice A xs.length c] w (Yes w) := by
  obtain ⟨hl, hmk, hall⟩ := acts_small hsz
  have h0 := cntL_nonneg (cnt := cnA) cnA_nonneg xs
  have HSZ := Aside0.mk (szR_yes hsz)
  have hpos : 0 ≤ 1048576 - (xs.length + cntL cnA xs) := by omega
  obtain ⟨R, hR⟩ : ∃ R, R = runL xs := ⟨_, rfl⟩
  have hrs := run_small xs
  rw [← hR] at hrs
  obtain ⟨hrl, hrc⟩ := hrs
  have hrn := cntL_nonneg (cnt := cnAd) cnAd_nonneg R
  have hmn := cntL_nonneg (cnt := cnAc) cnAc_nonneg xs
  have HT2 : Aside0 (∀ x ∈ xs, x.note.text.size < 4294967281 ∧ x.ask.text.size < 4294967281) := ⟨fun x hx => ⟨(hall x hx).1, (hall x hx).2.1⟩⟩
  have HK2 : Aside0 (∀ x ∈ xs, x.kept.length ≤ 10000000) := ⟨fun x hx => (hall x hx).2.2⟩
  have HX := Aside0.mk hx; have HT := Aside0.mk ht; have HM := Aside0.mk hm; have HR := Aside0.mk hR; clear hx ht hm hR hsz hall
  have O := Aside0.mk (Own.nil w)
  go_enter Try.func20, Try.ntmps20
  go_wp2_with fail
  refine (szActS_c _ _ xs 1048576 _ HX.out HT.out (by omega) (by omega)).mono ?_
  rintro e w2 ⟨rfl, hb⟩
  rw [HSZ.out]
  replace O := Aside0.mk (O.out.below hb); clear hb
  go_wp2_with fail
  refine (toActS_c _ _ xs _ (Kd.C_below HX.out O.out.bel) hl HK2.out).mono ?_
  intro e w3 hg
  obtain ⟨v, rfl, k⟩ := own_row hg
  replace O := Aside0.mk (O.out.app1 k); clear k hg
  obtain ⟨T0, Tc0, rfl, _⟩ := O.out.f0
  go_wp2_with fail
  refine (specRun_c _ _ xs _ O.out.c0 HT2.out (HM.out.below O.out.bel)).mono ?_
  rw [← HR.out]
  intro e w4 hg
  obtain ⟨v, rfl, k⟩ := own_row hg
  replace O := Aside0.mk (O.out.app1 k).p1.drop; clear k hg
  obtain ⟨W0, Wc0, rfl, _⟩ := O.out.f0
  -- [W]
  go_wp2_with fail
  refine (toActS_c _ _ xs _ (Kd.C_below HX.out O.out.bel) hl HK2.out).mono ?_
  intro e w5 hg
  obtain ⟨v, rfl, k⟩ := own_row hg
  replace O := Aside0.mk (O.out.app1 k); clear k hg
  obtain ⟨X0, Xc0, rfl, _⟩ := O.out.f0
  -- [X, W]
  go_wp2_with fail
  refine (implRun_c _ _ xs _ O.out.c0 HT2.out (HM.out.below O.out.bel)).mono ?_
  rw [← HR.out]
  intro e w6 hg
  obtain ⟨v, rfl, k⟩ := own_row hg
  replace O := Aside0.mk (O.out.app1 k); clear k hg
  obtain ⟨R0, Rc0, rfl, _⟩ := O.out.f0
  -- [R, X, W]
  go_wp2_with fail
  refine (eqActedS_t _ _ _ _ R _ O.out.c0 O.out.c2).mono ?_
  rintro e w7 ⟨rfl, hb⟩
  replace O := Aside0.mk (O.out.below hb); clear hb
  go_wp2_with fail
  refine (toActS_c _ _ xs _ (Kd.C_below HX.out O.out.bel) hl HK2.out).mono ?_
  intro e w8 hg
  obtain ⟨v, rfl, k⟩ := own_row hg
  replace O := Aside0.mk (O.out.app1 k); clear k hg
  obtain ⟨T1, Tc1, rfl, _⟩ := O.out.f0
  go_wp2_with fail
  refine (eqActS_t _ _ _ _ xs _ O.out.c2 O.out.c0).mono ?_
  rintro e w9 ⟨rfl, hb⟩
  replace O := Aside0.mk (O.out.below hb).drop; clear hb
  replace O := Aside0.mk O.out.p1
  -- [X, R, W]
  go_wp2_with fail
  refine (own_markActS O.out 1 (by omega) (by omega)).mono ?_
  rintro e w10 ⟨rfl, hO⟩
  clear O
  have O := Aside0.mk hO; clear hO
  have hk0 : 0 ≤ 1 + cntL cnAc xs := by omega
  go_wp2_with fail
  refine (eqActedS_t _ _ _ _ R _ O.out.c1 O.out.c2).mono ?_
  rintro e w11 ⟨rfl, hb⟩
  replace O := Aside0.mk (O.out.below hb); clear hb
  replace O := Aside0.mk O.out.p1
  -- [R, X, W]
  go_wp2_with fail
  refine (own_markActedS O.out 1 (by omega) (by omega)).mono ?_
  rintro e w12 ⟨rfl, hO⟩
  clear O
  have O := Aside0.mk hO; clear hO
  go_wp2_with fail
  refine (heldActedS_c _ _ R 1 _ _ rfl (by have := O.out.c0; rw [markL_len] at this; exact this) (by omega) (by omega)).mono ?_
  rintro e w13 ⟨rfl, rfl⟩
  have hne : ((1 + cntL cnAd R) != (1 + cntL cnAd R)) = false := (eqT rfl).2
  have hr0 : 0 ≤ 1 + cntL cnAd R := by omega
  go_wp2_with fail
  refine (toActS_c _ _ xs _ (Kd.C_below HX.out O.out.bel) hl HK2.out).mono ?_
  intro e w14 hg
  obtain ⟨v, rfl, k⟩ := own_row hg
  replace O := Aside0.mk (O.out.app1 k); clear k hg
  obtain ⟨T2, Tc2, rfl, _⟩ := O.out.f0
  go_wp2_with fail
  refine (implRun_c _ _ xs _ O.out.c0 HT2.out (HM.out.below O.out.bel)).mono ?_
  rw [← HR.out]
  intro e w15 hg
  obtain ⟨v, rfl, k⟩ := own_row hg
  replace O := Aside0.mk (O.out.app1 k); clear k hg
  obtain ⟨H0, Hc0, rfl, _⟩ := O.out.f0
  -- [H, T, R, X, W]
  go_wp2_with fail
  refine (eqActedS_t _ _ _ _ R _ O.out.c0 O.out.c4).mono ?_
  rintro e w16 ⟨rfl, hb⟩
  replace O := Aside0.mk (O.out.below hb); clear hb
  go_wp2_with fail
  refine (heldActedS_c _ _ R 1 _ _ rfl (by have := O.out.c2; rw [markL_len] at this; exact this) (by omega) (by omega)).mono ?_
  rintro e w17 ⟨rfl, rfl⟩
  go_wp2_with fail
  go_ret
  exact ⟨rfl, O.out.bel⟩
end Go.Proofs.Ytocdlibnmlcokaa
