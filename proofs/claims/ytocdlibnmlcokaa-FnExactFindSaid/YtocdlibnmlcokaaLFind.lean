/- FnExactFind: the walk. -/
import Derived.Test.YtocdlibnmlcokaaKA4
namespace Go.Proofs.Ytocdlibnmlcokaa
open Go.RowKit Go.Proofs.YtocdlibnmlcokaaW.PrintWords Go.Proofs.YtocdlibnmlcokaaW.PrintLast
set_option linter.unusedVariables false
set_option linter.unusedSimpArgs false
theorem own_markNoteS {w0 w : World} {L : List Rs} {v : Value} {xs : List Nt} (h : Own w0 w (Rs.row rN 33 v xs :: L)) (k : Int) (h0 : 0 ≤ k) (h1 : k + cntL cnN xs ≤ 1000000000) :
    Calls Try.prog 47 #[v, .int .i64 k] w (fun e w' => e = .returned (.int .i64 (k + cntL cnN xs)) ∧ Own w0 w' (Rs.row rN 33 v (markL mkN cnN k xs) :: L)) := by
  obtain ⟨f, hf, hn, hl, c⟩ := h.take
  exact (markNoteS_c v xs f k w hf hn h0 h1).mono fun e w' ⟨he, hr, hk⟩ => ⟨he, c (M := [Rs.row rN 33 v (markL mkN cnN k xs)]) ⟨f, [], by simp, hr, rfl⟩ hn (fun b hb => .inl hb) hk⟩
theorem own_markIntS {w0 w : World} {L : List Rs} {v : Value} {xs : List Int} (h : Own w0 w (Rs.row rI 3 v xs :: L)) (k : Int) (h0 : 0 ≤ k) (h1 : k + xs.length ≤ 1000000000) :
    Calls Try.prog 48 #[v, .int .i64 k] w (fun e w' => e = .returned (.int .i64 (k + xs.length)) ∧ Own w0 w' (Rs.row rI 3 v (markL mkI cn1 k xs) :: L)) := by
  obtain ⟨f, hf, hn, hl, c⟩ := h.take
  exact (markIntS_c v xs f k w hf hn h0 h1).mono fun e w' ⟨he, hr, hk⟩ => ⟨he, c (M := [Rs.row rI 3 v (markL mkI cn1 k xs)]) ⟨f, [], by simp, hr, rfl⟩ hn (fun b hb => .inl hb) hk⟩
def costF (xs : List Nt) (a : Nt) : Int := xs.length + cntL cnS xs + a.text.size
set_option maxRecDepth 100000 in
set_option maxHeartbeats 8000000 in
theorem fnExactFind_l (A : Option Addr) (c : Nat) (xs : List Nt) (a : Nt) (w : World) (hx : rN.d.C w A xs.length xs) (ht : ∀ x ∈ xs, x.text.size ≤ 9223372036854775807) (hta : a.text.size ≤ 9223372036854775807) (hsz : ¬ costF xs a ≤ 1048576) :
    Calls Try.prog 7 #[.slice A xs.length c, vN a] w (Yes w) := by
  obtain ⟨tick, kind, who, n, text⟩ := a
  simp only [vN, costF] at *
  have hnn := cntL_nonneg (cnt := cnS) cnS_nonneg xs
  have HX := Aside0.mk hx; have HT := Aside0.mk ht; clear hx ht
  by_cases h1 : xs.length + cntL cnS xs ≤ 1048576
  · have HSZ := Aside0.mk (szR_yes h1)
    have hpos : 0 ≤ 1048576 - (xs.length + cntL cnS xs) := by omega
    have HSY := Aside0.mk (szR_no (cost := text.size) (left := 1048576 - (xs.length + cntL cnS xs)) (by omega))
    clear hsz h1
    go_enter Try.func7, Try.ntmps7
    go_upto_region 1 with fail
    generalize hw : w.alloc _ = w1
    have O := Aside0.mk ((Own.nil w).of hw); clear hw
    go_wp2_with fail
    refine (szNoteS_c _ _ xs 1048576 _ (Kd.C_below HX.out O.out.bel) HT.out (by omega) (by omega)).mono ?_
    rintro e w2 ⟨rfl, hb⟩
    rw [HSZ.out]
    replace O := Aside0.mk (O.out.below hb); clear hb
    go_upto_region 5 with fail
    have p0 := (blk_cell O.out.b0 0).trans rfl; have p1 := (blk_cell O.out.b0 1).trans rfl; have p2 := (blk_cell O.out.b0 2).trans rfl; have p3 := (blk_cell O.out.b0 3).trans rfl; have p4 := (blk_cell O.out.b0 4).trans rfl
    go_wp2_with fail
    refine (szAsk_c ⟨tick, kind, who, n, text⟩ _ _ hta (by omega) (by omega)).mono ?_
    rintro e w3 ⟨rfl, hb⟩
    simp only [HSY.out]
    replace O := Aside0.mk (O.out.below hb); clear hb
    go_wp2_with fail
    go_ret
    exact ⟨rfl, O.out.bel⟩
  · have HSZ := Aside0.mk (szR_no h1)
    clear hsz h1
    go_enter Try.func7, Try.ntmps7
    go_upto_region 1 with fail
    generalize hw : w.alloc _ = w1
    have O := Aside0.mk ((Own.nil w).of hw); clear hw
    go_wp2_with fail
    refine (szNoteS_c _ _ xs 1048576 _ (Kd.C_below HX.out O.out.bel) HT.out (by omega) (by omega)).mono ?_
    rintro e w2 ⟨rfl, hb⟩
    rw [HSZ.out]
    replace O := Aside0.mk (O.out.below hb); clear hb
    go_wp2_with fail
    go_ret
    exact ⟨rfl, O.out.bel⟩
set_option maxRecDepth 100000 in
set_option maxHeartbeats 8000000 in
theorem fnExactFind_w (A : Option Addr) (c : Nat) (xs : List Nt) (a : Nt) (w : World) (hx : rN.d.C w A xs.length xs) (ht : ∀ x ∈ xs, x.text.size < 4294967281) (hta : a.text.size < 4294967281) (hsz : costF xs a ≤ 1048576) (hm : HasMax w) :
    Calls Try.prog 7 #[.slice A xs.length c, vN a] w (Yes w) := by
  obtain ⟨F, hF⟩ : ∃ F, F = findL a xs := ⟨_, rfl⟩
  have hFl : F.length ≤ xs.length := hF ▸ findTo_len a xs xs.length
  have hcs := @specFind_c
  have hci := @implFind_c
  obtain ⟨tick, kind, who, n, text⟩ := a
  simp only [vN, costF] at *
  have hnn := cntL_nonneg (cnt := cnS) cnS_nonneg xs
  have h1 : xs.length + cntL cnS xs ≤ 1048576 := by omega
  have h2 : text.size ≤ 1048576 - (xs.length + cntL cnS xs) := by omega
  have hpos : 0 ≤ 1048576 - (xs.length + cntL cnS xs) := by omega
  have hpos2 : 0 ≤ 1048576 - (xs.length + cntL cnS xs) - text.size := by omega
  have hl : xs.length ≤ 1048576 := by omega
  have hFl2 : F.length ≤ 1048576 := by omega
  have HSZ := Aside0.mk (szR_yes h1); have HSY := Aside0.mk (szR_yes h2)
  have HX := Aside0.mk hx; have HT := Aside0.mk ht; have HM := Aside0.mk hm; have HF := Aside0.mk hF; clear hx ht hm hF hsz h1 h2 hcs hci
  go_enter Try.func7, Try.ntmps7
  go_upto_region 1 with fail
  generalize hw : w.alloc _ = w1
  have O := Aside0.mk ((Own.nil w).of hw); clear hw
  go_wp2_with fail
  refine (szNoteS_c _ _ xs 1048576 _ (Kd.C_below HX.out O.out.bel) (fun x hx => by have := HT.out x hx; omega) (by omega) (by omega)).mono ?_
  rintro e w2 ⟨rfl, hb⟩
  rw [HSZ.out]
  replace O := Aside0.mk (O.out.below hb); clear hb
  go_upto_region 5 with fail
  have p0 := (blk_cell O.out.b0 0).trans rfl; have p1 := (blk_cell O.out.b0 1).trans rfl; have p2 := (blk_cell O.out.b0 2).trans rfl; have p3 := (blk_cell O.out.b0 3).trans rfl; have p4 := (blk_cell O.out.b0 4).trans rfl
  go_wp2_with fail
  refine (szAsk_c ⟨tick, kind, who, n, text⟩ _ _ (by simp only; omega) (by omega) (by omega)).mono ?_
  rintro e w3 ⟨rfl, hb⟩
  simp only [HSY.out]
  replace O := Aside0.mk (O.out.below hb); clear hb p0 p1 p2 p3 p4
  go_upto_region 8 with fail
  have p0 := (blk_cell O.out.b0 0).trans rfl; have p1 := (blk_cell O.out.b0 1).trans rfl; have p2 := (blk_cell O.out.b0 2).trans rfl; have p3 := (blk_cell O.out.b0 3).trans rfl; have p4 := (blk_cell O.out.b0 4).trans rfl
  refine sta (fun w' => (w'.cell? ⟨w.heap.size, 0, none⟩ = some (.int .i64 tick) ∧ w'.cell? ⟨w.heap.size, 1, none⟩ = some (.int .i64 kind) ∧ w'.cell? ⟨w.heap.size, 2, none⟩ = some (.int .i64 who) ∧ w'.cell? ⟨w.heap.size, 3, none⟩ = some (.int .i64 n) ∧ w'.cell? ⟨w.heap.size, 4, none⟩ = some (.string text))) [] 6 ⟨p0, p1, p2, p3, p4⟩ (fun hS => ?_)
  clear p0 p1 p2 p3 p4
  replace O := Aside0.mk O.out.drew
  generalize w3.drew = wd at O hS ⊢
  refine pu 0 1 ?_
  refine tk 2 5 hS ?_
  refine on 1 7 (fun K hK => ?_)
  refine ca (toNoteS_c _ _ xs _ (Kd.C_below HX.out O.out.bel) (by omega)) Try.func43 ?_
  intro e wda hg
  obtain ⟨v, rfl, k⟩ := own_row hg
  replace O := Aside0.mk (O.out.app1 k); clear k hg
  obtain ⟨T0, Tc0, rfl, _⟩ := O.out.f0
  refine ⟨_, rfl, nx hK ⟨(blk_cell O.out.b1 0).trans rfl, (blk_cell O.out.b1 1).trans rfl, (blk_cell O.out.b1 2).trans rfl, (blk_cell O.out.b1 3).trans rfl, (blk_cell O.out.b1 4).trans rfl⟩ (fun hS => ?_)⟩
  clear hK K
  refine on 3 15 (fun K hK => ?_)
  refine ca (toAsk_c ⟨tick, kind, who, n, text⟩ _) Try.func44 ?_
  rintro e wdb ⟨rfl, hb⟩
  replace O := Aside0.mk (O.out.below hb); clear hb
  refine ⟨_, rfl, nx hK ⟨(blk_cell O.out.b1 0).trans rfl, (blk_cell O.out.b1 1).trans rfl, (blk_cell O.out.b1 2).trans rfl, (blk_cell O.out.b1 3).trans rfl, (blk_cell O.out.b1 4).trans rfl⟩ (fun hS => ?_)⟩
  clear hK K
  refine on 4 31 (fun K hK => ?_)
  refine ca (specFind_c _ _ xs ⟨tick, kind, who, n, text⟩ _ O.out.c0 HT.out hta hl) Try.func34 ?_
  rw [← HF.out]
  intro e wdc hg
  obtain ⟨v, rfl, k⟩ := own_row hg
  replace O := Aside0.mk (O.out.app1 k).p1.drop; clear k hg
  obtain ⟨W0, Wc0, rfl, _⟩ := O.out.f0
  refine ⟨_, rfl, nx hK ⟨(blk_cell O.out.b1 0).trans rfl, (blk_cell O.out.b1 1).trans rfl, (blk_cell O.out.b1 2).trans rfl, (blk_cell O.out.b1 3).trans rfl, (blk_cell O.out.b1 4).trans rfl⟩ (fun hS => ?_)⟩
  clear hK K hS
  refine pu 5 63 (dn ?_)
  go_upto_region 9 with fail
  go_wp2_with fail
  refine (toNoteS_c _ _ xs _ (Kd.C_below HX.out O.out.bel) (by omega)).mono ?_
  intro e w7 hg
  obtain ⟨v, rfl, k⟩ := own_row hg
  replace O := Aside0.mk (O.out.app1 k); clear k hg
  obtain ⟨X0, Xc0, rfl, _⟩ := O.out.f0
  go_upto_region 10 with fail
  have p0 := (blk_cell O.out.b2 0).trans rfl; have p1 := (blk_cell O.out.b2 1).trans rfl; have p2 := (blk_cell O.out.b2 2).trans rfl; have p3 := (blk_cell O.out.b2 3).trans rfl; have p4 := (blk_cell O.out.b2 4).trans rfl
  go_wp2_with fail
  refine (toAsk_c ⟨tick, kind, who, n, text⟩ _).mono ?_
  rintro e w8 ⟨rfl, hb⟩
  simp only [vN]
  replace O := Aside0.mk (O.out.below hb); clear hb p0 p1 p2 p3 p4
  go_wp2_with fail
  refine (implFind_c _ _ xs ⟨tick, kind, who, n, text⟩ _ O.out.c0 HT.out hta hl (HM.out.below O.out.bel)).mono ?_
  rw [← HF.out]
  intro e w9 hg
  obtain ⟨v, rfl, k⟩ := own_row hg
  replace O := Aside0.mk (O.out.app1 k); clear k hg
  obtain ⟨R0, Rc0, rfl, _⟩ := O.out.f0
  -- [R, X, W, ask]
  go_upto_region 11 with fail
  go_wp2_with fail
  refine (eqIntS_t _ _ _ _ F _ O.out.c0 O.out.c2).mono ?_
  rintro e w10 ⟨rfl, hb⟩
  replace O := Aside0.mk (O.out.below hb); clear hb
  go_upto_region 13 with fail
  go_wp2_with fail
  refine (toNoteS_c _ _ xs _ (Kd.C_below HX.out O.out.bel) (by omega)).mono ?_
  intro e w11 hg
  obtain ⟨v, rfl, k⟩ := own_row hg
  replace O := Aside0.mk (O.out.app1 k); clear k hg
  obtain ⟨T1, Tc1, rfl, _⟩ := O.out.f0
  go_wp2_with fail
  refine (eqNoteS_t _ _ _ _ xs _ O.out.c2 O.out.c0).mono ?_
  rintro e w12 ⟨rfl, hb⟩
  replace O := Aside0.mk (O.out.below hb).drop; clear hb
  go_upto_region 16 with fail
  replace O := Aside0.mk O.out.p1
  go_wp2_with fail
  refine (own_markNoteS O.out 1 (by omega) (by rw [cntN]; omega)).mono ?_
  rintro e w13 ⟨rfl, hO⟩
  clear O
  have O := Aside0.mk hO; clear hO
  have hk0 : 0 ≤ 1 + cntL cnN xs := by rw [cntN]; omega
  go_wp2_with fail
  refine (eqIntS_t _ _ _ _ F _ O.out.c1 O.out.c2).mono ?_
  rintro e w14 ⟨rfl, hb⟩
  replace O := Aside0.mk (O.out.below hb); clear hb
  replace O := Aside0.mk O.out.p1
  go_wp2_with fail
  refine (own_markIntS O.out 1 (by omega) (by omega)).mono ?_
  rintro e w15 ⟨rfl, hO⟩
  clear O
  have O := Aside0.mk hO; clear hO
  go_wp2_with fail
  refine (heldIntS_c _ _ F 1 _ _ rfl (by have := O.out.c0; rw [markL_len] at this; exact this) (by omega) (by omega)).mono ?_
  rintro e w16 ⟨rfl, rfl⟩
  have hne : ((1 + (F.length : Int)) != (1 + F.length)) = false := (eqT rfl).2
  go_upto_region 27 with fail
  have p0 := (blk_cell O.out.b3 0).trans rfl; have p1 := (blk_cell O.out.b3 1).trans rfl; have p2 := (blk_cell O.out.b3 2).trans rfl; have p3 := (blk_cell O.out.b3 3).trans rfl; have p4 := (blk_cell O.out.b3 4).trans rfl
  refine sta (fun w' => (w'.cell? ⟨w.heap.size, 0, none⟩ = some (.int .i64 tick) ∧ w'.cell? ⟨w.heap.size, 1, none⟩ = some (.int .i64 kind) ∧ w'.cell? ⟨w.heap.size, 2, none⟩ = some (.int .i64 who) ∧ w'.cell? ⟨w.heap.size, 3, none⟩ = some (.int .i64 n) ∧ w'.cell? ⟨w.heap.size, 4, none⟩ = some (.string text))) [] 6 ⟨p0, p1, p2, p3, p4⟩ (fun hS => ?_)
  clear p0 p1 p2 p3 p4
  replace O := Aside0.mk O.out.drew
  generalize w16.drew = we at O hS ⊢
  refine pu 0 1 ?_
  refine tk 2 5 hS ?_
  refine on 1 7 (fun K hK => ?_)
  refine ca (toNoteS_c _ _ xs _ (Kd.C_below HX.out O.out.bel) (by omega)) Try.func43 ?_
  intro e wea hg
  obtain ⟨v, rfl, k⟩ := own_row hg
  replace O := Aside0.mk (O.out.app1 k); clear k hg
  obtain ⟨T2, Tc2, rfl, _⟩ := O.out.f0
  refine ⟨_, rfl, nx hK ⟨(blk_cell O.out.b4 0).trans rfl, (blk_cell O.out.b4 1).trans rfl, (blk_cell O.out.b4 2).trans rfl, (blk_cell O.out.b4 3).trans rfl, (blk_cell O.out.b4 4).trans rfl⟩ (fun hS => ?_)⟩
  clear hK K
  refine on 3 15 (fun K hK => ?_)
  refine ca (toAsk_c ⟨tick, kind, who, n, text⟩ _) Try.func44 ?_
  rintro e web ⟨rfl, hb⟩
  replace O := Aside0.mk (O.out.below hb); clear hb
  refine ⟨_, rfl, nx hK ⟨(blk_cell O.out.b4 0).trans rfl, (blk_cell O.out.b4 1).trans rfl, (blk_cell O.out.b4 2).trans rfl, (blk_cell O.out.b4 3).trans rfl, (blk_cell O.out.b4 4).trans rfl⟩ (fun hS => ?_)⟩
  clear hK K
  refine on 4 31 (fun K hK => ?_)
  refine ca (implFind_c _ _ xs ⟨tick, kind, who, n, text⟩ _ O.out.c0 HT.out hta hl (HM.out.below O.out.bel)) Try.func33 ?_
  rw [← HF.out]
  intro e wec hg
  obtain ⟨v, rfl, k⟩ := own_row hg
  replace O := Aside0.mk (O.out.app1 k); clear k hg
  obtain ⟨H0, Hc0, rfl, _⟩ := O.out.f0
  refine ⟨_, rfl, nx hK ⟨(blk_cell O.out.b5 0).trans rfl, (blk_cell O.out.b5 1).trans rfl, (blk_cell O.out.b5 2).trans rfl, (blk_cell O.out.b5 3).trans rfl, (blk_cell O.out.b5 4).trans rfl⟩ (fun hS => ?_)⟩
  clear hK K hS
  refine pu 5 63 (dn ?_)
  -- [H, T, R, X, W, ask]
  go_wp2_with fail
  refine (eqIntS_t _ _ _ _ F _ O.out.c0 O.out.c4).mono ?_
  rintro e w20 ⟨rfl, hb⟩
  replace O := Aside0.mk (O.out.below hb); clear hb
  go_wp2_with fail
  refine (heldIntS_c _ _ F 1 _ _ rfl (by have := O.out.c2; rw [markL_len] at this; exact this) (by omega) (by omega)).mono ?_
  rintro e w21 ⟨rfl, rfl⟩
  go_wp2_with fail
  go_ret
  exact ⟨rfl, O.out.bel⟩
end Go.Proofs.Ytocdlibnmlcokaa
