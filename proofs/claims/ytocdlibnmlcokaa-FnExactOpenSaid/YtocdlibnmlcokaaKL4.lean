/- Contracts and words that the laws rest on, part 4: for every world; conditions as each theorem says. -/
import Derived.Test.YtocdlibnmlcokaaKL3
namespace Go.Proofs.Ytocdlibnmlcokaa
open Go.RowKit Go.Proofs.YtocdlibnmlcokaaW.PrintWords Go.Proofs.YtocdlibnmlcokaaW.PrintLast
set_option linter.unusedVariables false
set_option linter.unusedSimpArgs false
set_option maxHeartbeats 4000000 in
set_option maxRecDepth 100000 in
theorem implAppend_no (An A0 A1 : Option Addr) (cn c0 c1 : Nat) (ok lok : Bool) (notes : List Nt) (len gen safe : Int) (bs : List (List Int)) (ws : List Wr) (x : Nt) (w : World)
    (hn : rN.d.C w An notes.length notes) (hx : rBS.d.C w A0 bs.length bs) (hy : rW.d.C w A1 ws.length ws) (hc : bs.length ≤ c0) (hk : BkOk bs ws) (ht : x.text.size ≤ 9223372036854775807) (hr : ¬ (RightP ⟨ok, ⟨lok, notes, len, gen, safe⟩, bs, ws⟩ ∧ NtOk x)) :
    Calls Try.prog 39 #[.agg #[.bool ok, .bool lok, .slice An notes.length cn, .int .i64 len, .int .i64 gen, .int .i64 safe, .slice A0 bs.length c0, .slice A1 ws.length c1], vN x] w (GotOp op0 w) := by
  suffices H : ∀ Q : Ending → World → Prop, (∀ e w', GotOp op0 w e w' → Q e w') → Calls Try.prog 39 #[.agg #[.bool ok, .bool lok, .slice An notes.length cn, .int .i64 len, .int .i64 gen, .int .i64 safe, .slice A0 bs.length c0, .slice A1 ws.length c1], vN x] w Q from H _ (fun e w' h => h)
  intro Q hQ
  have HQ := Aside0.mk hQ; clear hQ
  have HNN := Aside0.mk hn; have HX := Aside0.mk hx; have HY := Aside0.mk hy; have HC := Aside0.mk hc; have HK0 := Aside0.mk hk; clear hn hx hy hc hk
  simp only [vN]
  go_enter Try.func39, Try.ntmps39
  go_upto_region 1 with (fail)
  generalize hw : World.alloc (World.alloc (World.alloc w _) _) _ = w1
  have O := Aside0.mk ((Own.nil w).of3 hw); clear hw
  by_cases hR : RightP ⟨ok, ⟨lok, notes, len, gen, safe⟩, bs, ws⟩
  · have hN : ¬ NtOk x := fun h => hr ⟨hR, h⟩
    have HR := Aside0.mk hR; have HN := Aside0.mk hN; clear hR hN hr
    have p0 := (blk_cell O.out.b2 0).trans rfl; have p1 := (blk_cell O.out.b2 1).trans rfl; have p2 := (blk_cell O.out.b2 2).trans rfl; have p3 := (blk_cell O.out.b2 3).trans rfl; have p4 := (blk_cell O.out.b2 4).trans rfl; have p5 := (blk_cell O.out.b2 5).trans rfl; have p6 := (blk_cell O.out.b2 6).trans rfl; have p7 := (blk_cell O.out.b2 7).trans rfl
    go_wp2_with fail
    refine (right_c _ _ _ _ _ _ _ _ _ _ _ _ _ _ true ⟨fun _ => HR.out, fun _ => rfl⟩ _ (Kd.C_below HNN.out O.out.bel) (Kd.C_below HX.out O.out.bel) (Kd.C_below HY.out O.out.bel) HC.out HK0.out).mono ?_
    rintro e w2 ⟨rfl, hb⟩
    replace O := Aside0.mk (O.out.below hb)
    clear p0 p1 p2 p3 p4 p5 p6 p7 hb
    have n0 := (blk_cell O.out.b1 0).trans rfl; have n1 := (blk_cell O.out.b1 1).trans rfl; have n2 := (blk_cell O.out.b1 2).trans rfl; have n3 := (blk_cell O.out.b1 3).trans rfl; have n4 := (blk_cell O.out.b1 4).trans rfl
    go_wp2_with fail
    refine (implNoteOk_c x false ⟨fun h => (by cases h), fun h => absurd h HN.out⟩ _ ht).mono ?_
    rintro e w2 ⟨rfl, hb⟩
    replace O := Aside0.mk (O.out.below hb)
    clear n0 n1 n2 n3 n4 hb
    have u0 := (blk_cell O.out.b0 0).trans rfl; have u1 := (blk_cell O.out.b0 1).trans rfl; have u2 := (blk_cell O.out.b0 2).trans rfl; have u3 := (blk_cell O.out.b0 3).trans rfl; have u4 := (blk_cell O.out.b0 4).trans rfl; have u5 := (blk_cell O.out.b0 5).trans rfl; have u6 := (blk_cell O.out.b0 6).trans rfl; have u7 := (blk_cell O.out.b0 7).trans rfl
    have z0 := blk_frozen O.out.b0 0; have z1 := blk_frozen O.out.b0 1; have z2 := blk_frozen O.out.b0 2; have z3 := blk_frozen O.out.b0 3; have z4 := blk_frozen O.out.b0 4; have z5 := blk_frozen O.out.b0 5; have z6 := blk_frozen O.out.b0 6; have z7 := blk_frozen O.out.b0 7
    go_wp2
    generalize hw : World.setCell _ _ _ = w90
    replace O := Aside0.mk (O.out.st8 hw); clear hw
    refine bodyPost_ret (results_cell_row rfl _ _ (w.heap.size + 1 + 1) 61 _ (0, 0) _ rfl O.out.b0 Try.underlying61 rfl (by kernel_rfl)) rfl ?_
    refine HQ.out _ _ ?_
    exact ⟨_, _, _, rfl, (((O.out.only []).nilRow rW 147).nilRow rBS 22).nilRow rN 33⟩
  · have HR := Aside0.mk hR; clear hR hr
    have p0 := (blk_cell O.out.b2 0).trans rfl; have p1 := (blk_cell O.out.b2 1).trans rfl; have p2 := (blk_cell O.out.b2 2).trans rfl; have p3 := (blk_cell O.out.b2 3).trans rfl; have p4 := (blk_cell O.out.b2 4).trans rfl; have p5 := (blk_cell O.out.b2 5).trans rfl; have p6 := (blk_cell O.out.b2 6).trans rfl; have p7 := (blk_cell O.out.b2 7).trans rfl
    go_wp2_with fail
    refine (right_c _ _ _ _ _ _ _ _ _ _ _ _ _ _ false ⟨fun h => (by cases h), fun h => absurd h HR.out⟩ _ (Kd.C_below HNN.out O.out.bel) (Kd.C_below HX.out O.out.bel) (Kd.C_below HY.out O.out.bel) HC.out HK0.out).mono ?_
    rintro e w2 ⟨rfl, hb⟩
    replace O := Aside0.mk (O.out.below hb)
    clear p0 p1 p2 p3 p4 p5 p6 p7 hb
    have u0 := (blk_cell O.out.b0 0).trans rfl; have u1 := (blk_cell O.out.b0 1).trans rfl; have u2 := (blk_cell O.out.b0 2).trans rfl; have u3 := (blk_cell O.out.b0 3).trans rfl; have u4 := (blk_cell O.out.b0 4).trans rfl; have u5 := (blk_cell O.out.b0 5).trans rfl; have u6 := (blk_cell O.out.b0 6).trans rfl; have u7 := (blk_cell O.out.b0 7).trans rfl
    have z0 := blk_frozen O.out.b0 0; have z1 := blk_frozen O.out.b0 1; have z2 := blk_frozen O.out.b0 2; have z3 := blk_frozen O.out.b0 3; have z4 := blk_frozen O.out.b0 4; have z5 := blk_frozen O.out.b0 5; have z6 := blk_frozen O.out.b0 6; have z7 := blk_frozen O.out.b0 7
    go_wp2
    generalize hw : World.setCell _ _ _ = w90
    replace O := Aside0.mk (O.out.st8 hw); clear hw
    refine bodyPost_ret (results_cell_row rfl _ _ (w.heap.size + 1 + 1) 61 _ (0, 0) _ rfl O.out.b0 Try.underlying61 rfl (by kernel_rfl)) rfl ?_
    refine HQ.out _ _ ?_
    exact ⟨_, _, _, rfl, (((O.out.only []).nilRow rW 147).nilRow rBS 22).nilRow rN 33⟩
set_option maxHeartbeats 8000000 in
set_option maxRecDepth 100000 in
theorem implAppend_yes (An A0 A1 : Option Addr) (cn c0 c1 : Nat) (ok lok : Bool) (notes : List Nt) (len gen safe : Int) (bs : List (List Int)) (ws : List Wr) (x : Nt) (w : World)
    (hn : rN.d.C w An notes.length notes) (hx : rBS.d.C w A0 bs.length bs) (hy : rW.d.C w A1 ws.length ws) (hc : bs.length ≤ c0) (hk : BkOk bs ws) (ht : x.text.size ≤ 9223372036854775807) (hr : RightP ⟨ok, ⟨lok, notes, len, gen, safe⟩, bs, ws⟩) (hno : NtOk x) :
    Calls Try.prog 39 #[.agg #[.bool ok, .bool lok, .slice An notes.length cn, .int .i64 len, .int .i64 gen, .int .i64 safe, .slice A0 bs.length c0, .slice A1 ws.length c1], vN x] w (GotOp (appendO bs ws x) w) := by
  obtain ⟨S, hS⟩ : ∃ S, S = settleL bs ws (kfL true []) := ⟨_, rfl⟩
  obtain ⟨N, hN⟩ : ∃ N, N = (foundL S).1 := ⟨_, rfl⟩
  obtain ⟨L, hL⟩ : ∃ L, L = (foundL S).2 := ⟨_, rfl⟩
  obtain ⟨Y, hY⟩ : ∃ Y, Y = (logBytes S).take L := ⟨_, rfl⟩
  obtain ⟨G, hG⟩ : ∃ G, G = logGen S := ⟨_, rfl⟩
  obtain ⟨F, hF⟩ : ∃ F, F = frameL x := ⟨_, rfl⟩
  obtain ⟨X, hX⟩ : ∃ X, X = Y ++ F := ⟨_, rfl⟩
  have hSok : BlOk S := hS ▸ sync_ok hr.2.1 hk
  have htf := take_found hSok
  rw [← hL, ← hY] at htf
  have hYl : Y.length = L := htf.2
  have hLl : L ≤ 7112 := htf.1
  have hFl : F.length = 17 + x.text.size := by rw [hF]; exact frameL_len x
  have ht2 : x.text.size ≤ 200 := hno.2.2.2
  have hXl : X.length = L + F.length := by rw [hX, List.length_append, hYl]
  have hXok : BsOk X := by rw [hX, hY, hF]; exact BsOk.append (fun y hy => (logBytes_ok hSok).1 y (List.mem_of_mem_take hy)) (frameL_ok hno)
  have hGr : 1 ≤ G ∧ G ≤ 1000000000 := by
    have h1 := @logGen_range S
    have h2 := hr.2.2.2
    rw [hr.2.2.1] at h2
    change logGen (syncL bs ws) ≠ 0 at h2
    unfold syncL at h2
    rw [← hS] at h2
    rw [hG]; omega
  obtain ⟨fr, hfr⟩ : ∃ fr : Nat, fr = L / 56 := ⟨_, rfl⟩
  obtain ⟨tt, hto⟩ : ∃ tt : Nat, tt = (X.length - 1) / 56 := ⟨_, rfl⟩
  obtain ⟨n, hn9⟩ : ∃ n : Nat, n = tt - fr + 1 := ⟨_, rfl⟩
  obtain ⟨V, hV⟩ : ∃ V, V = ws ++ pagesW X G fr n := ⟨_, rfl⟩
  have hle : fr ≤ tt := by omega
  have happ : appendO bs ws x = if X.length ≤ 7112 ∧ ws.length + n ≤ 200 then ⟨true, scanL bs V, bs, V⟩ else op0 := by
    unfold appendO appX appN syncL
    rw [← hS, ← hL, ← hY, ← hG, ← hF, ← hX, ← hfr, ← hto, ← hn9, ← hV]
  obtain ⟨R0, hR0⟩ : ∃ R0, R0 = appendO bs ws x := ⟨_, rfl⟩
  rw [← hR0]
  rw [← hR0] at happ
  suffices H : ∀ Q : Ending → World → Prop, (∀ e w', GotOp R0 w e w' → Q e w') → Calls Try.prog 39 #[.agg #[.bool ok, .bool lok, .slice An notes.length cn, .int .i64 len, .int .i64 gen, .int .i64 safe, .slice A0 bs.length c0, .slice A1 ws.length c1], vN x] w Q from H _ (fun e w' h => h)
  intro Q hQ
  have HAPP := Aside0.mk happ; have HS := Aside0.mk hS; have HN := Aside0.mk hN; have HL := Aside0.mk hL; have HYb := Aside0.mk hY; have HG := Aside0.mk hG; have HF := Aside0.mk hF; have HXe := Aside0.mk hX; have HSok := Aside0.mk hSok; have HXok := Aside0.mk hXok; have HFR := Aside0.mk hfr; have HTO := Aside0.mk hto; have HN9 := Aside0.mk hn9; have HV := Aside0.mk hV; have HLE := Aside0.mk hle
  have HYl := Aside0.mk hYl; have HFl := Aside0.mk hFl; have HXl := Aside0.mk hXl; have HQ := Aside0.mk hQ; have HR := Aside0.mk hr; have HNO := Aside0.mk hno; have HGr := Aside0.mk hGr
  clear happ hS hN hL hY hG hF hX hSok hXok hfr hto hn9 hV hQ hr hno hGr hR0 htf hYl hFl hXl hle
  have HNN := Aside0.mk hn; have HX := Aside0.mk hx; have HY := Aside0.mk hy; have HC := Aside0.mk hc; have HK0 := Aside0.mk hk; clear hn hx hy hc hk
  simp only [vN]
  go_enter Try.func39, Try.ntmps39
  go_upto_region 1 with (fail)
  generalize hw : World.alloc (World.alloc (World.alloc w _) _) _ = w1
  have O := Aside0.mk ((Own.nil w).of3 hw); clear hw
  have p0 := (blk_cell O.out.b2 0).trans rfl; have p1 := (blk_cell O.out.b2 1).trans rfl; have p2 := (blk_cell O.out.b2 2).trans rfl; have p3 := (blk_cell O.out.b2 3).trans rfl; have p4 := (blk_cell O.out.b2 4).trans rfl; have p5 := (blk_cell O.out.b2 5).trans rfl; have p6 := (blk_cell O.out.b2 6).trans rfl; have p7 := (blk_cell O.out.b2 7).trans rfl
  go_wp2_with fail
  refine (right_c _ _ _ _ _ _ _ _ _ _ _ _ _ _ true ⟨fun _ => HR.out, fun _ => rfl⟩ _ (Kd.C_below HNN.out O.out.bel) (Kd.C_below HX.out O.out.bel) (Kd.C_below HY.out O.out.bel) HC.out HK0.out).mono ?_
  rintro e w2 ⟨rfl, hb⟩
  replace O := Aside0.mk (O.out.below hb)
  clear p0 p1 p2 p3 p4 p5 p6 p7 hb
  have n0 := (blk_cell O.out.b1 0).trans rfl; have n1 := (blk_cell O.out.b1 1).trans rfl; have n2 := (blk_cell O.out.b1 2).trans rfl; have n3 := (blk_cell O.out.b1 3).trans rfl; have n4 := (blk_cell O.out.b1 4).trans rfl
  go_wp2_with fail
  refine (implNoteOk_c x true ⟨fun _ => HNO.out, fun _ => rfl⟩ _ ht).mono ?_
  rintro e w2 ⟨rfl, hb⟩
  replace O := Aside0.mk (O.out.below hb)
  clear n0 n1 n2 n3 n4 hb
  have p6 := (blk_cell O.out.b2 6).trans rfl; have p7 := (blk_cell O.out.b2 7).trans rfl
  go_wp2_with fail
  refine (implSeen_yes _ _ _ _ bs ws _ (Kd.C_below HX.out O.out.bel) (Kd.C_below HY.out O.out.bel) HR.out.2.1).mono ?_
  intro e w3 hg
  obtain ⟨v, rfl, k⟩ := own_row hg
  rw [← HS.out] at k
  replace O := Aside0.mk (O.out.app1 k); clear k hg p6 p7
  obtain ⟨As, cs, rfl, hcs⟩ := O.out.f0
  have HCS := Aside0.mk hcs; clear hcs
  go_wp2_with fail
  refine (found_c _ _ S _ O.out.c0 HCS.out HSok.out).mono ?_
  intro e w4 hg
  rw [← HN.out, ← HL.out, ← HG.out, ← HYb.out] at hg
  obtain ⟨vn, vb, rfl, k⟩ := hg
  replace O := Aside0.mk (O.out.app2 k); clear k
  obtain ⟨Bn, bn, rfl, _⟩ := O.out.f0
  replace O := Aside0.mk (O.out.drop.p1.drop)
  obtain ⟨Ab, cb, rfl, hcb⟩ := O.out.f0
  go_upto_region 4 with (fail)
  generalize hw : w4.alloc _ = w5
  replace O := Aside0.mk (O.out.of hw); clear hw
  generalize w4.heap.size = g5 at O ⊢
  have n0 := (blk_cell O.out.b3 0).trans rfl; have n1 := (blk_cell O.out.b3 1).trans rfl; have n2 := (blk_cell O.out.b3 2).trans rfl; have n3 := (blk_cell O.out.b3 3).trans rfl; have n4 := (blk_cell O.out.b3 4).trans rfl
  go_wp2_with fail
  refine (implFrame_yes x _ HNO.out).mono ?_
  intro e w6 hg
  rw [← HF.out] at hg
  obtain ⟨vf, rfl, k⟩ := own_row hg
  replace O := Aside0.mk (O.out.app1 k); clear k hg n0 n1 n2 n3 n4
  obtain ⟨Af, cf, rfl, _⟩ := O.out.f0
  go_upto_region 5 with (fail)
  have q2 := (blk_cell O.out.b1 2).trans rfl
  by_cases hbig : (F.length : Int) > 7112 - L
  · have E0 : Aside0 (R0 = op0) := ⟨by rw [HAPP.out, if_neg (fun h => by have := HXl.out; omega)]⟩
    have u0 := (blk_cell O.out.b3 0).trans rfl; have u1 := (blk_cell O.out.b3 1).trans rfl; have u2 := (blk_cell O.out.b3 2).trans rfl; have u3 := (blk_cell O.out.b3 3).trans rfl; have u4 := (blk_cell O.out.b3 4).trans rfl; have u5 := (blk_cell O.out.b3 5).trans rfl; have u6 := (blk_cell O.out.b3 6).trans rfl; have u7 := (blk_cell O.out.b3 7).trans rfl
    have z0 := blk_frozen O.out.b3 0; have z1 := blk_frozen O.out.b3 1; have z2 := blk_frozen O.out.b3 2; have z3 := blk_frozen O.out.b3 3; have z4 := blk_frozen O.out.b3 4; have z5 := blk_frozen O.out.b3 5; have z6 := blk_frozen O.out.b3 6; have z7 := blk_frozen O.out.b3 7
    go_wp2
    generalize hw : World.setCell _ _ _ = w90
    replace O := Aside0.mk (O.out.p3.st8 hw); clear hw
    refine bodyPost_ret (results_cell_row rfl _ _ (w.heap.size + 1 + 1) 61 _ (0, 0) _ rfl O.out.b0 Try.underlying61 rfl (by kernel_rfl)) rfl ?_
    refine HQ.out _ _ ?_
    rw [E0.out]
    exact ⟨_, _, _, rfl, (((O.out.only []).nilRow rW 147).nilRow rBS 22).nilRow rN 33⟩
  · have HBIG := Aside0.mk hbig
    have hF300 : F.length ≤ 300 := by have := HFl.out; omega
    go_upto_region 7 with (fail)
    clear q2
    have HF300 := Aside0.mk hF300; clear hF300
    go_wp2_with fail
    refine (cp_c Ab cb Y _ O.out.c2 (by have := HYl.out; omega)).mono ?_
    rintro e w7 ⟨v, rfl, ⟨fc, hrc, hnc, hlc⟩, hbc⟩
    replace O := Aside0.mk (O.out.app1 (Own.one (R := Rs.row rB 5 v Y) hbc hrc hnc hlc)); clear hrc hnc hlc hbc
    obtain ⟨Ac, cc, rfl, _⟩ := O.out.f0
    go_upto_region 8 with (at_builtin; go_loud (refine Own.app_row (enc := Value.int .u8) (h1 := fun _ => rfl) 0 rfl (.tmp 38) (.tmp 39) 22 5 (.int .u8 0) 1 rfl Try.underlying22 info5 rfl (by omega) _ Y F Af F.length cf rfl rfl O.out O.out.c1 (by have := HYl.out; have := HF300.out; omega) ?_); intro v8 w8 hO; have O3 := Aside0.mk hO; clear hO)
    clear O
    replace O3 := O3.out
    rw [← HXe.out] at O3
    obtain ⟨Ax, cx, rfl, hcx⟩ := O3.f0
    have O := Aside0.mk O3.p1.drop.p2.drop.p3.drop; clear O3
    have HCX := Aside0.mk hcx; clear hcx
    have q2 := (blk_cell O.out.b1 2).trans rfl
    have hX300 : X.length ≤ 7112 := by have := HXl.out; have := HBIG.out; omega
    have hX1 : 17 ≤ X.length := by have := HXl.out; have := HFl.out; omega
    go_upto_region 9 with fail
    rw [show ((L : Int) / 56) = (fr : Int) by have := HFR.out; omega, show (((X.length : Int) - 1) / 56) = (tt : Int) by have := HTO.out; omega]
    have p7 := (blk_cell O.out.b3 7).trans rfl
    clear q2
    have hw200 : ws.length ≤ 200 := HR.out.2.1.2.1
    have htt : tt ≤ 126 := by have := HTO.out; omega
    have hfr2 : fr ≤ tt := HLE.out
    by_cases hfit : (ws.length : Int) + tt - fr + 1 > 200
    · have E0 : Aside0 (R0 = op0) := ⟨by rw [HAPP.out, if_neg (fun h => by have := HN9.out; omega)]⟩
      have u0 := (blk_cell O.out.b2 0).trans rfl; have u1 := (blk_cell O.out.b2 1).trans rfl; have u2 := (blk_cell O.out.b2 2).trans rfl; have u3 := (blk_cell O.out.b2 3).trans rfl; have u4 := (blk_cell O.out.b2 4).trans rfl; have u5 := (blk_cell O.out.b2 5).trans rfl; have u6 := (blk_cell O.out.b2 6).trans rfl; have u7 := (blk_cell O.out.b2 7).trans rfl
      have z0 := blk_frozen O.out.b2 0; have z1 := blk_frozen O.out.b2 1; have z2 := blk_frozen O.out.b2 2; have z3 := blk_frozen O.out.b2 3; have z4 := blk_frozen O.out.b2 4; have z5 := blk_frozen O.out.b2 5; have z6 := blk_frozen O.out.b2 6; have z7 := blk_frozen O.out.b2 7
      go_wp2
      generalize hw : World.setCell _ _ _ = w90
      replace O := Aside0.mk (O.out.p2.st8 hw); clear hw
      refine bodyPost_ret (results_cell_row rfl _ _ (w.heap.size + 1 + 1) 61 _ (0, 0) _ rfl O.out.b0 Try.underlying61 rfl (by kernel_rfl)) rfl ?_
      refine HQ.out _ _ ?_
      rw [E0.out]
      exact ⟨_, _, _, rfl, (((O.out.only []).nilRow rW 147).nilRow rBS 22).nilRow rN 33⟩
    · have HFIT := Aside0.mk hfit
      go_upto_region 11 with fail
      clear p7
      have p6 := (blk_cell O.out.b3 6).trans rfl; have p7 := (blk_cell O.out.b3 7).trans rfl
      go_wp2_with fail
      refine (copyDisk_c _ _ bs _ _ ws _ (Kd.C_below HX.out O.out.bel) (Kd.C_below HY.out O.out.bel) (by have : bs.length = 128 := HR.out.2.1.1; omega) (by omega) (fun b hb => by have : b.length = 64 := HR.out.2.1.2.2.1 b hb; omega) (fun b hb => by have : b.bytes.length = 64 := (HR.out.2.1.2.2.2 b hb).2.2; omega)).mono ?_
      intro e w9 hg
      obtain ⟨v0, v1, rfl, k⟩ := own_disk hg
      replace O := Aside0.mk (O.out.app2 k); clear k hg p6 p7
      obtain ⟨D0, d0, rfl, _⟩ := O.out.f0
      obtain ⟨D1, d1, rfl, _⟩ := O.out.f1
      go_upto_region 12 with fail
      generalize hw : w9.alloc _ = w10
      replace O := Aside0.mk (O.out.of hw).p6.drop; clear hw
      generalize w9.heap.size = g10 at O ⊢
      replace O : Aside0 (Own w w10 [Rs.box g10 43 #[.slice D0 bs.length d0, .slice D1 ws.length d1], Rs.row rBS 22 (.slice D0 bs.length d0) bs, Rs.row rW 147 (.slice D1 ws.length d1) ws, Rs.row rB 5 (.slice Ax X.length cx) X, Rs.box g5 59 #[.bool true, .slice Bn N.length bn, .int .i64 L, .int .i64 G, .int .i64 0], Rs.box (w.heap.size + 1 + 1) 61 zero8]) := ⟨O.out⟩
      have hg1 : 1 ≤ G := HGr.out.1
      have hg2 : G ≤ 1000000000 := HGr.out.2
      have HDK : Aside0 (∀ i, i ≤ n → DkOk bs (ws ++ pagesW X G fr i) ∧ BkOk bs (ws ++ pagesW X G fr i)) := ⟨fun i hi => by
        refine dk_of (bl_ok HR.out.2.1 HK0.out) (by rw [List.length_append, pagesW_len]; have := HN9.out; have := HFIT.out; omega) (fun y hy => ?_)
        rcases List.mem_append.1 hy with h | h
        · exact ⟨HR.out.2.1.2.2.2 y h, HK0.out.2 y h⟩
        · exact pagesW_ok HXok.out G fr i (by have := HN9.out; omega) y h⟩
      go_wp2_with fail
      go_loopg [11] (n + 1) (fun m v11 wr => ∃ (i : Nat) (v0 v1 : Value), v11 = .int .i64 ((fr + i : Nat) : Int) ∧ Aside0 (i ≤ n ∧ n - i < m) ∧ Aside0 (Own w wr [Rs.box g10 43 #[v0, v1], Rs.row rBS 22 v0 bs, Rs.row rW 147 v1 (ws ++ pagesW X G fr i), Rs.row rB 5 (.slice Ax X.length cx) X, Rs.box g5 59 #[.bool true, .slice Bn N.length bn, .int .i64 L, .int .i64 G, .int .i64 0], Rs.box (w.heap.size + 1 + 1) 61 zero8]))
      case atStart => exact ⟨0, _, _, rfl, ⟨by omega⟩, ⟨by simpa [pagesW] using O.out⟩⟩
      case round =>
        clear O
        obtain ⟨i, v0, v1, rfl, HI, O⟩ := hrel
        obtain ⟨U, hU⟩ : ∃ U, U = ws ++ pagesW X G fr i := ⟨_, rfl⟩
        obtain ⟨kk, hkk⟩ : ∃ kk : Nat, kk = fr + i := ⟨_, rfl⟩
        rw [← hU] at O
        rw [← hkk]
        have HU := Aside0.mk hU; have HKK := Aside0.mk hkk; clear hU hkk
        obtain ⟨D0, e0, rfl, hD0⟩ := O.out.f1
        obtain ⟨D1, e1, rfl, _⟩ := O.out.f2
        have HD0 := Aside0.mk hD0; clear hD0
        by_cases hi : kk ≤ tt
        · have p0 := (blk_cell O.out.b0 0).trans rfl; have p1 := (blk_cell O.out.b0 1).trans rfl; have q3 := (blk_cell O.out.b4 3).trans rfl
          have hUd := (HDK.out i HI.out.1).1
          rw [← HU.out] at hUd
          have hUl : U.length < 200 := by have := HU.out; rw [HU.out, List.length_append, pagesW_len]; have := HN9.out; have := HFIT.out; have := HKK.out; omega
          have HUD := Aside0.mk hUd; have HUL := Aside0.mk hUl; clear hUd hUl
          go_wp2_with fail
          refine (lay_c _ _ _ _ _ _ bs U X kk G _ O.out.c1 O.out.c2 O.out.c3 HCX.out HUD.out HUL.out (by omega) hg1 hg2 (by omega)).mono ?_
          intro e w11 hg
          obtain ⟨W2, hW2⟩ : ∃ W2, W2 = U ++ [⟨(kk : Int) + 1, pageB X kk G⟩] := ⟨_, rfl⟩
          rw [← hW2] at hg
          have HW2 := Aside0.mk hW2; clear hW2
          obtain ⟨v0, v1, rfl, k⟩ := own_disk hg
          replace O := Aside0.mk (O.out.app2 k); clear k hg p0 p1 q3
          obtain ⟨F0, h0, rfl, _⟩ := O.out.f0
          obtain ⟨F1, h1, rfl, _⟩ := O.out.f1
          have u0 := (blk_cell O.out.b2 0).trans rfl; have u1 := (blk_cell O.out.b2 1).trans rfl
          have z0 := blk_frozen O.out.b2 0; have z1 := blk_frozen O.out.b2 1
          go_wp2
          generalize hw : World.setCell _ _ _ = w12
          replace O := Aside0.mk ((O.out.p2.st2 hw).p3.drop.p3.drop); clear hw
          go_roundg (gk - 1)
          case measure => have := HI.out; omega
          case rel =>
            refine ⟨i + 1, _, _, ?_, ⟨by have := HI.out; have := HN9.out; have := HKK.out; omega⟩, ⟨by rw [pagesW_succ, ← List.append_assoc, ← HU.out, ← HKK.out, ← HW2.out]; exact O.out⟩⟩
            have := HKK.out
            congr 1; omega
        · have e : i = n := by have := HI.out; have := HN9.out; have := HKK.out; omega
          replace HU : Aside0 (U = V) := ⟨by rw [HU.out, e, HV.out]⟩
          have HDV := HDK.out n (Nat.le_refl _)
          rw [← HV.out, ← HU.out] at HDV
          have HDV := Aside0.mk HDV
          have HAP : Aside0 (R0 = ⟨true, scanL bs U, bs, U⟩) := ⟨by rw [HAPP.out, if_pos (by have := HN9.out; have := HFIT.out; omega), ← HU.out]⟩
          go_upto_region 16 with fail
          have p0 := (blk_cell O.out.b0 0).trans rfl; have p1 := (blk_cell O.out.b0 1).trans rfl
          refine sta (fun w' => w'.cell? ⟨g10, 0, none⟩ = some (.slice D0 bs.length e0) ∧ w'.cell? ⟨g10, 1, none⟩ = some (.slice D1 U.length e1)) [4] 5 ⟨p0, p1⟩ (fun hS => ?_)
          clear p0 p1
          replace O := Aside0.mk O.out.drew
          generalize wr.drew = wd at O hS ⊢
          obtain ⟨R, hR⟩ : ∃ R, R = scanL bs U := ⟨_, rfl⟩
          have HRR := Aside0.mk hR; clear hR
          refine tk 0 1 hS ?_
          refine tk 2 5 hS ?_
          refine on 1 7 (fun K hK => ?_)
          refine ca (implScan_yes _ _ _ _ bs U _ O.out.c1 O.out.c2 HD0.out HDV.out.1 HDV.out.2) Try.func72 ?_
          intro e w13 hg
          rw [← HRR.out] at hg
          obtain ⟨vn, rfl, k⟩ := hg
          replace O := Aside0.mk (O.out.app1 k); clear k
          obtain ⟨Cn, cn2, rfl, _⟩ := O.out.f0
          refine ⟨_, rfl, nx hK ⟨(blk_cell O.out.b1 0).trans rfl, (blk_cell O.out.b1 1).trans rfl⟩ (fun hS => ?_)⟩
          clear hK K hS
          refine pu 3 15 ?_
          have u0 := (blk_cell O.out.b6 0).trans rfl; have u1 := (blk_cell O.out.b6 1).trans rfl; have u2 := (blk_cell O.out.b6 2).trans rfl; have u3 := (blk_cell O.out.b6 3).trans rfl; have u4 := (blk_cell O.out.b6 4).trans rfl; have u5 := (blk_cell O.out.b6 5).trans rfl; have u6 := (blk_cell O.out.b6 6).trans rfl; have u7 := (blk_cell O.out.b6 7).trans rfl
          have z0 := blk_frozen O.out.b6 0; have z1 := blk_frozen O.out.b6 1; have z2 := blk_frozen O.out.b6 2; have z3 := blk_frozen O.out.b6 3; have z4 := blk_frozen O.out.b6 4; have z5 := blk_frozen O.out.b6 5; have z6 := blk_frozen O.out.b6 6; have z7 := blk_frozen O.out.b6 7
          refine la 4 31 (fun K hK => ?_)
          refine st ?_
          generalize hw : World.setCell _ _ _ = w14
          replace O := Aside0.mk (O.out.p6.st8 hw); clear hw
          refine nl hK (dn ?_)
          clear hK K u0 u1 u2 u3 u4 u5 u6 u7 z0 z1 z2 z3 z4 z5 z6 z7
          go_wp2
          refine bodyPost_ret (results_cell_row rfl _ _ (w.heap.size + 1 + 1) 61 _ (0, 0) _ rfl O.out.b0 Try.underlying61 rfl (by kernel_rfl)) rfl ?_
          refine HQ.out _ _ ?_
          rw [HAP.out, ← HRR.out]
          exact ⟨_, _, _, rfl, O.out.drop.p1.drop.only [_, _, _]⟩
end Go.Proofs.Ytocdlibnmlcokaa
namespace Go.Proofs.Ytocdlibnmlcokaa
open Go.RowKit Go.Proofs.YtocdlibnmlcokaaW.PrintWords Go.Proofs.YtocdlibnmlcokaaW.PrintLast
set_option linter.unusedVariables false
set_option linter.unusedSimpArgs false
set_option maxHeartbeats 4000000 in
set_option maxRecDepth 100000 in
theorem specAppend_no (An A0 A1 : Option Addr) (cn c0 c1 : Nat) (ok lok : Bool) (notes : List Nt) (len gen safe : Int) (bs : List (List Int)) (ws : List Wr) (x : Nt) (w : World)
    (hn : rN.d.C w An notes.length notes) (hx : rBS.d.C w A0 bs.length bs) (hy : rW.d.C w A1 ws.length ws) (hc : bs.length ≤ c0) (hk : BkOk bs ws) (ht : x.text.size ≤ 9223372036854775807) (hr : ¬ (RightP ⟨ok, ⟨lok, notes, len, gen, safe⟩, bs, ws⟩ ∧ NtOk x)) :
    Calls Try.prog 86 #[.agg #[.bool ok, .bool lok, .slice An notes.length cn, .int .i64 len, .int .i64 gen, .int .i64 safe, .slice A0 bs.length c0, .slice A1 ws.length c1], vN x] w (GotOp op0 w) := by
  suffices H : ∀ Q : Ending → World → Prop, (∀ e w', GotOp op0 w e w' → Q e w') → Calls Try.prog 86 #[.agg #[.bool ok, .bool lok, .slice An notes.length cn, .int .i64 len, .int .i64 gen, .int .i64 safe, .slice A0 bs.length c0, .slice A1 ws.length c1], vN x] w Q from H _ (fun e w' h => h)
  intro Q hQ
  have HQ := Aside0.mk hQ; clear hQ
  have HNN := Aside0.mk hn; have HX := Aside0.mk hx; have HY := Aside0.mk hy; have HC := Aside0.mk hc; have HK0 := Aside0.mk hk; clear hn hx hy hc hk
  simp only [vN]
  go_enter Try.func86, Try.ntmps86
  go_upto_region 1 with (fail)
  generalize hw : World.alloc (World.alloc (World.alloc w _) _) _ = w1
  have O := Aside0.mk ((Own.nil w).of3 hw); clear hw
  by_cases hR : RightP ⟨ok, ⟨lok, notes, len, gen, safe⟩, bs, ws⟩
  · have hN : ¬ NtOk x := fun h => hr ⟨hR, h⟩
    have HR := Aside0.mk hR; have HN := Aside0.mk hN; clear hR hN hr
    have p0 := (blk_cell O.out.b2 0).trans rfl; have p1 := (blk_cell O.out.b2 1).trans rfl; have p2 := (blk_cell O.out.b2 2).trans rfl; have p3 := (blk_cell O.out.b2 3).trans rfl; have p4 := (blk_cell O.out.b2 4).trans rfl; have p5 := (blk_cell O.out.b2 5).trans rfl; have p6 := (blk_cell O.out.b2 6).trans rfl; have p7 := (blk_cell O.out.b2 7).trans rfl
    go_wp2_with fail
    refine (l3open_c _ _ _ _ _ _ _ _ _ _ _ _ _ _ true ⟨fun _ => HR.out, fun _ => rfl⟩ _ (Kd.C_below HNN.out O.out.bel) (Kd.C_below HX.out O.out.bel) (Kd.C_below HY.out O.out.bel) HC.out HK0.out).mono ?_
    rintro e w2 ⟨rfl, hb⟩
    replace O := Aside0.mk (O.out.below hb)
    clear p0 p1 p2 p3 p4 p5 p6 p7 hb
    have n0 := (blk_cell O.out.b1 0).trans rfl; have n1 := (blk_cell O.out.b1 1).trans rfl; have n2 := (blk_cell O.out.b1 2).trans rfl; have n3 := (blk_cell O.out.b1 3).trans rfl; have n4 := (blk_cell O.out.b1 4).trans rfl
    go_wp2_with fail
    refine (specNoteOk_c x false ⟨fun h => (by cases h), fun h => absurd h HN.out⟩ _ ht).mono ?_
    rintro e w2 ⟨rfl, hb⟩
    replace O := Aside0.mk (O.out.below hb)
    clear n0 n1 n2 n3 n4 hb
    have u0 := (blk_cell O.out.b0 0).trans rfl; have u1 := (blk_cell O.out.b0 1).trans rfl; have u2 := (blk_cell O.out.b0 2).trans rfl; have u3 := (blk_cell O.out.b0 3).trans rfl; have u4 := (blk_cell O.out.b0 4).trans rfl; have u5 := (blk_cell O.out.b0 5).trans rfl; have u6 := (blk_cell O.out.b0 6).trans rfl; have u7 := (blk_cell O.out.b0 7).trans rfl
    have z0 := blk_frozen O.out.b0 0; have z1 := blk_frozen O.out.b0 1; have z2 := blk_frozen O.out.b0 2; have z3 := blk_frozen O.out.b0 3; have z4 := blk_frozen O.out.b0 4; have z5 := blk_frozen O.out.b0 5; have z6 := blk_frozen O.out.b0 6; have z7 := blk_frozen O.out.b0 7
    go_wp2
    generalize hw : World.setCell _ _ _ = w90
    replace O := Aside0.mk (O.out.st8 hw); clear hw
    refine bodyPost_ret (results_cell_row rfl _ _ (w.heap.size + 1 + 1) 61 _ (0, 0) _ rfl O.out.b0 Try.underlying61 rfl (by kernel_rfl)) rfl ?_
    refine HQ.out _ _ ?_
    exact ⟨_, _, _, rfl, (((O.out.only []).nilRow rW 147).nilRow rBS 22).nilRow rN 33⟩
  · have HR := Aside0.mk hR; clear hR hr
    have p0 := (blk_cell O.out.b2 0).trans rfl; have p1 := (blk_cell O.out.b2 1).trans rfl; have p2 := (blk_cell O.out.b2 2).trans rfl; have p3 := (blk_cell O.out.b2 3).trans rfl; have p4 := (blk_cell O.out.b2 4).trans rfl; have p5 := (blk_cell O.out.b2 5).trans rfl; have p6 := (blk_cell O.out.b2 6).trans rfl; have p7 := (blk_cell O.out.b2 7).trans rfl
    go_wp2_with fail
    refine (l3open_c _ _ _ _ _ _ _ _ _ _ _ _ _ _ false ⟨fun h => (by cases h), fun h => absurd h HR.out⟩ _ (Kd.C_below HNN.out O.out.bel) (Kd.C_below HX.out O.out.bel) (Kd.C_below HY.out O.out.bel) HC.out HK0.out).mono ?_
    rintro e w2 ⟨rfl, hb⟩
    replace O := Aside0.mk (O.out.below hb)
    clear p0 p1 p2 p3 p4 p5 p6 p7 hb
    have u0 := (blk_cell O.out.b0 0).trans rfl; have u1 := (blk_cell O.out.b0 1).trans rfl; have u2 := (blk_cell O.out.b0 2).trans rfl; have u3 := (blk_cell O.out.b0 3).trans rfl; have u4 := (blk_cell O.out.b0 4).trans rfl; have u5 := (blk_cell O.out.b0 5).trans rfl; have u6 := (blk_cell O.out.b0 6).trans rfl; have u7 := (blk_cell O.out.b0 7).trans rfl
    have z0 := blk_frozen O.out.b0 0; have z1 := blk_frozen O.out.b0 1; have z2 := blk_frozen O.out.b0 2; have z3 := blk_frozen O.out.b0 3; have z4 := blk_frozen O.out.b0 4; have z5 := blk_frozen O.out.b0 5; have z6 := blk_frozen O.out.b0 6; have z7 := blk_frozen O.out.b0 7
    go_wp2
    generalize hw : World.setCell _ _ _ = w90
    replace O := Aside0.mk (O.out.st8 hw); clear hw
    refine bodyPost_ret (results_cell_row rfl _ _ (w.heap.size + 1 + 1) 61 _ (0, 0) _ rfl O.out.b0 Try.underlying61 rfl (by kernel_rfl)) rfl ?_
    refine HQ.out _ _ ?_
    exact ⟨_, _, _, rfl, (((O.out.only []).nilRow rW 147).nilRow rBS 22).nilRow rN 33⟩
set_option maxHeartbeats 8000000 in
set_option maxRecDepth 100000 in
theorem specAppend_yes (An A0 A1 : Option Addr) (cn c0 c1 : Nat) (ok lok : Bool) (notes : List Nt) (len gen safe : Int) (bs : List (List Int)) (ws : List Wr) (x : Nt) (w : World)
    (hn : rN.d.C w An notes.length notes) (hx : rBS.d.C w A0 bs.length bs) (hy : rW.d.C w A1 ws.length ws) (hc : bs.length ≤ c0) (hk : BkOk bs ws) (ht : x.text.size ≤ 9223372036854775807) (hr : RightP ⟨ok, ⟨lok, notes, len, gen, safe⟩, bs, ws⟩) (hno : NtOk x) :
    Calls Try.prog 86 #[.agg #[.bool ok, .bool lok, .slice An notes.length cn, .int .i64 len, .int .i64 gen, .int .i64 safe, .slice A0 bs.length c0, .slice A1 ws.length c1], vN x] w (GotOp (appendO bs ws x) w) := by
  obtain ⟨S, hS⟩ : ∃ S, S = settleL bs ws (kfL true []) := ⟨_, rfl⟩
  obtain ⟨N, hN⟩ : ∃ N, N = (foundL S).1 := ⟨_, rfl⟩
  obtain ⟨L, hL⟩ : ∃ L, L = (foundL S).2 := ⟨_, rfl⟩
  obtain ⟨Y, hY⟩ : ∃ Y, Y = (logBytes S).take L := ⟨_, rfl⟩
  obtain ⟨G, hG⟩ : ∃ G, G = logGen S := ⟨_, rfl⟩
  obtain ⟨F, hF⟩ : ∃ F, F = frameL x := ⟨_, rfl⟩
  obtain ⟨X, hX⟩ : ∃ X, X = Y ++ F := ⟨_, rfl⟩
  have hSok : BlOk S := hS ▸ sync_ok hr.2.1 hk
  have htf := take_found hSok
  rw [← hL, ← hY] at htf
  have hYl : Y.length = L := htf.2
  have hLl : L ≤ 7112 := htf.1
  have hFl : F.length = 17 + x.text.size := by rw [hF]; exact frameL_len x
  have ht2 : x.text.size ≤ 200 := hno.2.2.2
  have hXl : X.length = L + F.length := by rw [hX, List.length_append, hYl]
  have hXok : BsOk X := by rw [hX, hY, hF]; exact BsOk.append (fun y hy => (logBytes_ok hSok).1 y (List.mem_of_mem_take hy)) (frameL_ok hno)
  have hGr : 1 ≤ G ∧ G ≤ 1000000000 := by
    have h1 := @logGen_range S
    have h2 := hr.2.2.2
    rw [hr.2.2.1] at h2
    change logGen (syncL bs ws) ≠ 0 at h2
    unfold syncL at h2
    rw [← hS] at h2
    rw [hG]; omega
  obtain ⟨fr, hfr⟩ : ∃ fr : Nat, fr = L / 56 := ⟨_, rfl⟩
  obtain ⟨tt, hto⟩ : ∃ tt : Nat, tt = (X.length - 1) / 56 := ⟨_, rfl⟩
  obtain ⟨n, hn9⟩ : ∃ n : Nat, n = tt - fr + 1 := ⟨_, rfl⟩
  obtain ⟨V, hV⟩ : ∃ V, V = ws ++ pagesW X G fr n := ⟨_, rfl⟩
  have hle : fr ≤ tt := by omega
  have happ : appendO bs ws x = if X.length ≤ 7112 ∧ ws.length + n ≤ 200 then ⟨true, scanL bs V, bs, V⟩ else op0 := by
    unfold appendO appX appN syncL
    rw [← hS, ← hL, ← hY, ← hG, ← hF, ← hX, ← hfr, ← hto, ← hn9, ← hV]
  obtain ⟨R0, hR0⟩ : ∃ R0, R0 = appendO bs ws x := ⟨_, rfl⟩
  rw [← hR0]
  rw [← hR0] at happ
  suffices H : ∀ Q : Ending → World → Prop, (∀ e w', GotOp R0 w e w' → Q e w') → Calls Try.prog 86 #[.agg #[.bool ok, .bool lok, .slice An notes.length cn, .int .i64 len, .int .i64 gen, .int .i64 safe, .slice A0 bs.length c0, .slice A1 ws.length c1], vN x] w Q from H _ (fun e w' h => h)
  intro Q hQ
  have HAPP := Aside0.mk happ; have HS := Aside0.mk hS; have HN := Aside0.mk hN; have HL := Aside0.mk hL; have HYb := Aside0.mk hY; have HG := Aside0.mk hG; have HF := Aside0.mk hF; have HXe := Aside0.mk hX; have HSok := Aside0.mk hSok; have HXok := Aside0.mk hXok; have HFR := Aside0.mk hfr; have HTO := Aside0.mk hto; have HN9 := Aside0.mk hn9; have HV := Aside0.mk hV; have HLE := Aside0.mk hle
  have HYl := Aside0.mk hYl; have HFl := Aside0.mk hFl; have HXl := Aside0.mk hXl; have HQ := Aside0.mk hQ; have HR := Aside0.mk hr; have HNO := Aside0.mk hno; have HGr := Aside0.mk hGr
  clear happ hS hN hL hY hG hF hX hSok hXok hfr hto hn9 hV hQ hr hno hGr hR0 htf hYl hFl hXl hle
  have HNN := Aside0.mk hn; have HX := Aside0.mk hx; have HY := Aside0.mk hy; have HC := Aside0.mk hc; have HK0 := Aside0.mk hk; clear hn hx hy hc hk
  simp only [vN]
  go_enter Try.func86, Try.ntmps86
  go_upto_region 1 with (fail)
  generalize hw : World.alloc (World.alloc (World.alloc w _) _) _ = w1
  have O := Aside0.mk ((Own.nil w).of3 hw); clear hw
  have p0 := (blk_cell O.out.b2 0).trans rfl; have p1 := (blk_cell O.out.b2 1).trans rfl; have p2 := (blk_cell O.out.b2 2).trans rfl; have p3 := (blk_cell O.out.b2 3).trans rfl; have p4 := (blk_cell O.out.b2 4).trans rfl; have p5 := (blk_cell O.out.b2 5).trans rfl; have p6 := (blk_cell O.out.b2 6).trans rfl; have p7 := (blk_cell O.out.b2 7).trans rfl
  go_wp2_with fail
  refine (l3open_c _ _ _ _ _ _ _ _ _ _ _ _ _ _ true ⟨fun _ => HR.out, fun _ => rfl⟩ _ (Kd.C_below HNN.out O.out.bel) (Kd.C_below HX.out O.out.bel) (Kd.C_below HY.out O.out.bel) HC.out HK0.out).mono ?_
  rintro e w2 ⟨rfl, hb⟩
  replace O := Aside0.mk (O.out.below hb)
  clear p0 p1 p2 p3 p4 p5 p6 p7 hb
  have n0 := (blk_cell O.out.b1 0).trans rfl; have n1 := (blk_cell O.out.b1 1).trans rfl; have n2 := (blk_cell O.out.b1 2).trans rfl; have n3 := (blk_cell O.out.b1 3).trans rfl; have n4 := (blk_cell O.out.b1 4).trans rfl
  go_wp2_with fail
  refine (specNoteOk_c x true ⟨fun _ => HNO.out, fun _ => rfl⟩ _ ht).mono ?_
  rintro e w2 ⟨rfl, hb⟩
  replace O := Aside0.mk (O.out.below hb)
  clear n0 n1 n2 n3 n4 hb
  have hlen : len = L := by have := HR.out.2.2.1; have h2 := congrArg Lg.len this; simp only [scanL, syncL] at h2; rw [← HS.out, ← HL.out] at h2; exact h2
  have hgen : gen = G := by have := HR.out.2.2.1; have h2 := congrArg Lg.gen this; simp only [scanL, syncL] at h2; rw [← HS.out, ← HG.out] at h2; exact h2
  subst hlen; subst hgen
  have p6 := (blk_cell O.out.b2 6).trans rfl; have p7 := (blk_cell O.out.b2 7).trans rfl
  go_wp2_with fail
  refine (specSeen_yes _ _ _ _ bs ws _ (Kd.C_below HX.out O.out.bel) (Kd.C_below HY.out O.out.bel) HR.out.2.1).mono ?_
  intro e w3 hg
  obtain ⟨v, rfl, k⟩ := own_row hg
  rw [← HS.out] at k
  replace O := Aside0.mk (O.out.app1 k); clear k hg p6 p7
  obtain ⟨As, cs, rfl, hcs⟩ := O.out.f0
  have HCS := Aside0.mk hcs; clear hcs
  go_wp2_with fail
  refine (l3bytes_c _ _ S _ O.out.c0 HCS.out HSok.out).mono ?_
  intro e w4 hg
  obtain ⟨B, hB⟩ : ∃ B, B = logBytes S := ⟨_, rfl⟩
  rw [← hB, ← HG.out] at hg
  rw [← hB] at HYb
  clear hB
  obtain ⟨vb, rfl, k⟩ := own_by hg
  replace O := Aside0.mk (O.out.app1 k).p1.drop; clear k hg
  obtain ⟨Ab, cb, rfl, hcb⟩ := O.out.f0
  have hLB : L ≤ B.length := by have := HYl.out; rw [HYb.out, List.length_take] at this; omega
  have hF300 : F.length ≤ 300 := by have := HFl.out; omega
  have HF300 := Aside0.mk hF300; clear hF300
  go_upto_region 4 with (fail)
  have hto := to_c (A := Ab) (c := cb) L hLB hcb
  have p3 := (blk_cell O.out.b3 3).trans rfl
  have n0 := (blk_cell O.out.b2 0).trans rfl; have n1 := (blk_cell O.out.b2 1).trans rfl; have n2 := (blk_cell O.out.b2 2).trans rfl; have n3 := (blk_cell O.out.b2 3).trans rfl; have n4 := (blk_cell O.out.b2 4).trans rfl
  refine sta (fun w' => w'.cell? ⟨w.heap.size, 3, none⟩ = some (.int .i64 L) ∧ w'.cell? ⟨w.heap.size + 1, 0, none⟩ = some (.int .i64 x.tick) ∧ w'.cell? ⟨w.heap.size + 1, 1, none⟩ = some (.int .i64 x.kind) ∧ w'.cell? ⟨w.heap.size + 1, 2, none⟩ = some (.int .i64 x.who) ∧ w'.cell? ⟨w.heap.size + 1, 3, none⟩ = some (.int .i64 x.n) ∧ w'.cell? ⟨w.heap.size + 1, 4, none⟩ = some (.string x.text)) [] 11 ⟨p3, n0, n1, n2, n3, n4⟩ (fun hS => ?_)
  clear p3 n0 n1 n2 n3 n4
  replace O := Aside0.mk O.out.drew
  generalize w4.drew = wd at O hS ⊢
  refine pu 1 2 ?_
  refine pu 2 6 ?_
  refine pu 3 14 ?_
  refine tk 4 30 hS ?_
  refine pu 5 62 ?_
  refine tk 7 190 hS ?_
  clear hto
  refine on 0 191 (fun K hK => ?_)
  refine va ?_
  replace O := Aside0.mk O.out.empty
  have HYC : Aside0 (kB.C (wd.alloc (.cells #[] 5)) Ab L Y) := ⟨by have h := (O.out.p1.take_row hLB).c0; rw [← HYb.out, HYl.out] at h; exact h⟩
  generalize wd.heap.size = ge at O ⊢
  generalize wd.alloc _ = we at O HYC ⊢
  refine nx hK ⟨(blk_cell O.out.b4 3).trans rfl, (blk_cell O.out.b3 0).trans rfl, (blk_cell O.out.b3 1).trans rfl, (blk_cell O.out.b3 2).trans rfl, (blk_cell O.out.b3 3).trans rfl, (blk_cell O.out.b3 4).trans rfl⟩ (fun hS => ?_)
  clear hK K
  refine on 6 255 (fun K hK => ?_)
  refine Own.app_row_step (by rfl) (.tmp 26) (.tmp 31) 22 5 (.int .u8 0) 1 (by rfl) Try.underlying22 info5 rfl (by decide) _ [] Y Ab L cb (by rfl) (by rfl) O.out HYC.out (by simp; omega) ?_
  intro v5 w5 hO
  rw [List.nil_append] at hO
  clear O HYC hS
  obtain ⟨Ac, cc, rfl, _⟩ := hO.f0
  have O := Aside0.mk hO.p1.drop; clear hO
  refine nx hK ⟨(blk_cell O.out.b3 3).trans rfl, (blk_cell O.out.b2 0).trans rfl, (blk_cell O.out.b2 1).trans rfl, (blk_cell O.out.b2 2).trans rfl, (blk_cell O.out.b2 3).trans rfl, (blk_cell O.out.b2 4).trans rfl⟩ (fun hS => ?_)
  clear hK K
  refine on 8 511 (fun K hK => ?_)
  refine ca (specFrame_yes x _ HNO.out) Try.func136 ?_
  intro e w6 hg
  rw [← HF.out] at hg
  obtain ⟨vf, rfl, k⟩ := own_row hg
  replace O := Aside0.mk (O.out.app1 k); clear k hg
  obtain ⟨Af, cf, rfl, _⟩ := O.out.f0
  refine ⟨_, rfl, nx hK ⟨(blk_cell O.out.b4 3).trans rfl, (blk_cell O.out.b3 0).trans rfl, (blk_cell O.out.b3 1).trans rfl, (blk_cell O.out.b3 2).trans rfl, (blk_cell O.out.b3 3).trans rfl, (blk_cell O.out.b3 4).trans rfl⟩ (fun hS => ?_)⟩
  clear hK K hS
  replace O := Aside0.mk O.out.p1
  refine on 9 1023 (fun K hK => ?_)
  refine Own.app_row_step (by rfl) (.tmp 32) (.tmp 34) 22 5 (.int .u8 0) 1 (by rfl) Try.underlying22 info5 rfl (by decide) _ Y F Af F.length cf (by rfl) (by rfl) O.out O.out.c1 (by have := HYl.out; have := HF300.out; omega) ?_
  intro v7 w7 hO
  rw [← HXe.out] at hO
  clear O
  obtain ⟨Ax, cx, rfl, hcx⟩ := hO.f0
  refine nx hK ⟨(blk_cell hO.b4 3).trans rfl, (blk_cell hO.b3 0).trans rfl, (blk_cell hO.b3 1).trans rfl, (blk_cell hO.b3 2).trans rfl, (blk_cell hO.b3 3).trans rfl, (blk_cell hO.b3 4).trans rfl⟩ (fun hS => ?_)
  clear hK K hS
  have O : Aside0 (Own w w7 [Rs.row rB 5 (.slice Ax X.length cx) X, Rs.box (w.heap.size + 1 + 1) 61 zero8, Rs.box w.heap.size 61 #[.bool ok, .bool lok, .slice An notes.length cn, .int .i64 L, .int .i64 gen, .int .i64 safe, .slice A0 bs.length c0, .slice A1 ws.length c1]]) := ⟨hO.p1.drop.p2.drop⟩
  have HCX := Aside0.mk hcx; clear hcx hO
  refine pu 10 2047 (dn ?_)
  by_cases hbig : (X.length : Int) > 7112
  · have E0 : Aside0 (R0 = op0) := ⟨by rw [HAPP.out, if_neg (fun h => by omega)]⟩
    have u0 := (blk_cell O.out.b1 0).trans rfl; have u1 := (blk_cell O.out.b1 1).trans rfl; have u2 := (blk_cell O.out.b1 2).trans rfl; have u3 := (blk_cell O.out.b1 3).trans rfl; have u4 := (blk_cell O.out.b1 4).trans rfl; have u5 := (blk_cell O.out.b1 5).trans rfl; have u6 := (blk_cell O.out.b1 6).trans rfl; have u7 := (blk_cell O.out.b1 7).trans rfl
    have z0 := blk_frozen O.out.b1 0; have z1 := blk_frozen O.out.b1 1; have z2 := blk_frozen O.out.b1 2; have z3 := blk_frozen O.out.b1 3; have z4 := blk_frozen O.out.b1 4; have z5 := blk_frozen O.out.b1 5; have z6 := blk_frozen O.out.b1 6; have z7 := blk_frozen O.out.b1 7
    go_wp2
    generalize hw : World.setCell _ _ _ = w90
    replace O := Aside0.mk (O.out.p1.st8 hw); clear hw
    refine bodyPost_ret (results_cell_row rfl _ _ (w.heap.size + 1 + 1) 61 _ (0, 0) _ rfl O.out.b0 Try.underlying61 rfl (by kernel_rfl)) rfl ?_
    refine HQ.out _ _ ?_
    rw [E0.out]
    exact ⟨_, _, _, rfl, (((O.out.only []).nilRow rW 147).nilRow rBS 22).nilRow rN 33⟩
  · have hX1 : 17 ≤ X.length := by have := HXl.out; have := HFl.out; omega
    go_upto_region 7 with fail
    have p6 := (blk_cell O.out.b2 6).trans rfl; have p7 := (blk_cell O.out.b2 7).trans rfl; have p3 := (blk_cell O.out.b2 3).trans rfl
    go_upto_region 8 with fail
    generalize hw : w7.alloc _ = w8
    replace O := Aside0.mk (O.out.of hw); clear hw p3 p6 p7
    generalize w7.heap.size = g8 at O ⊢
    have p3 := (blk_cell O.out.b3 3).trans rfl
    go_wp2_with fail
    have htt : tt ≤ 126 := by have := HTO.out; omega
    have hfr2 : fr ≤ tt := HLE.out
    rw [show ((L : Int) / 56) = (fr : Int) by have := HFR.out; omega]
    have hg1 : 1 ≤ gen := HGr.out.1
    have hg2 : gen ≤ 1000000000 := HGr.out.2
    have HDK : Aside0 (∀ i, i ≤ n → ws.length + i ≤ 200 → DkOk bs (ws ++ pagesW X gen fr i) ∧ BkOk bs (ws ++ pagesW X gen fr i)) := ⟨fun i hi hi2 => by
      refine dk_of (bl_ok HR.out.2.1 HK0.out) (by rw [List.length_append, pagesW_len]; omega) (fun y hy => ?_)
      rcases List.mem_append.1 hy with h | h
      · exact ⟨HR.out.2.1.2.2.2 y h, HK0.out.2 y h⟩
      · exact pagesW_ok HXok.out gen fr i (by have := HN9.out; omega) y h⟩
    have HBL : Aside0 (∀ wr : World, Own w wr [Rs.box g8 43 #[.slice A0 bs.length c0, .slice A1 ws.length c1], Rs.row rB 5 (.slice Ax X.length cx) X, Rs.box (w.heap.size + 1 + 1) 61 zero8, Rs.box w.heap.size 61 #[.bool ok, .bool lok, .slice An notes.length cn, .int .i64 L, .int .i64 gen, .int .i64 safe, .slice A0 bs.length c0, .slice A1 ws.length c1]] → rBS.d.C wr A0 bs.length bs ∧ rW.d.C wr A1 ws.length ws) := ⟨fun wr h => ⟨Kd.C_below HX.out h.bel, Kd.C_below HY.out h.bel⟩⟩
    go_loopg [9] (n + 1) (fun m v9 wr => ∃ (i : Nat) (F0 F1 : Option Addr) (h0 h1 : Nat), v9 = .int .i64 ((fr + i : Nat) : Int) ∧ Aside0 (i ≤ n ∧ n - i < m ∧ ws.length + i ≤ 200 ∧ bs.length ≤ h0)
      ∧ Aside0 (Own w wr [Rs.box g8 43 #[.slice F0 bs.length h0, .slice F1 (ws ++ pagesW X gen fr i).length h1], Rs.row rB 5 (.slice Ax X.length cx) X, Rs.box (w.heap.size + 1 + 1) 61 zero8, Rs.box w.heap.size 61 #[.bool ok, .bool lok, .slice An notes.length cn, .int .i64 L, .int .i64 gen, .int .i64 safe, .slice A0 bs.length c0, .slice A1 ws.length c1]])
      ∧ Aside0 (rBS.d.C wr F0 bs.length bs ∧ rW.d.C wr F1 (ws ++ pagesW X gen fr i).length (ws ++ pagesW X gen fr i))
      ∧ Aside0 (0 < i → Own w wr [Rs.row rBS 22 (.slice F0 bs.length h0) bs, Rs.row rW 147 (.slice F1 (ws ++ pagesW X gen fr i).length h1) (ws ++ pagesW X gen fr i), Rs.box g8 43 #[.slice F0 bs.length h0, .slice F1 (ws ++ pagesW X gen fr i).length h1], Rs.box (w.heap.size + 1 + 1) 61 zero8]))
    case atStart =>
      have e : ws ++ pagesW X gen fr 0 = ws := by simp [pagesW]
      have hw2 : ws.length ≤ 200 := HR.out.2.1.2.1
      refine ⟨0, A0, A1, c0, c1, rfl, ⟨by omega, by omega, by omega, HC.out⟩, ⟨?_⟩, ⟨?_⟩, ⟨fun h => by omega⟩⟩
      · rw [e]; exact O.out
      · rw [e]; exact HBL.out _ O.out
    case round =>
      clear O p3
      obtain ⟨i, F0, F1, h0, h1, rfl, HI, O, HCC, OR⟩ := hrel
      obtain ⟨U, hU⟩ : ∃ U, U = ws ++ pagesW X gen fr i := ⟨_, rfl⟩
      obtain ⟨kk, hkk⟩ : ∃ kk : Nat, kk = fr + i := ⟨_, rfl⟩
      rw [← hU] at O HCC OR
      rw [← hkk]
      have HU := Aside0.mk hU; have HKK := Aside0.mk hkk; clear hU hkk
      have hkx : kk * 56 < X.length ↔ i < n := by have := HTO.out; have := HN9.out; have := HKK.out; omega
      have HKX := Aside0.mk hkx; clear hkx
      have hk127 : kk ≤ 127 := by have := HN9.out; have := HKK.out; have := HI.out; omega
      by_cases hi : (kk : Int) * 56 < X.length
      · have hin : Aside0 (i < n) := ⟨HKX.out.1 (by omega)⟩
        have hk126 : kk ≤ 126 := by have := HN9.out; have := HKK.out; have := hin.out; omega
        have hX7 : X.length ≤ 7112 := by omega
        have p0 := (blk_cell O.out.b0 0).trans rfl; have p1 := (blk_cell O.out.b0 1).trans rfl; have p4 := (blk_cell O.out.b3 4).trans rfl
        have hUl : U.length = ws.length + i := by rw [HU.out, List.length_append, pagesW_len]
        have HUl := Aside0.mk hUl; clear hUl
        by_cases hful : U.length < 200
        · have HFUL := Aside0.mk hful; clear hful
          go_wp2_with fail
          refine (l3page_yes _ _ _ _ _ _ bs U X kk gen _ HCC.out.1 HCC.out.2 O.out.c1 HCX.out (by have := (HDK.out i HI.out.1 HI.out.2.2.1).1; rw [HU.out]; exact this) HFUL.out (by omega) hg1 hg2 (by omega)).mono ?_
          intro e w11 hg
          obtain ⟨W2, hW2⟩ : ∃ W2, W2 = U ++ [⟨(kk : Int) + 1, pageB X kk gen⟩] := ⟨_, rfl⟩
          rw [← hW2] at hg
          have HW2 := Aside0.mk hW2; clear hW2
          obtain ⟨v0, v1, rfl, k⟩ := own_disk hg
          replace O := Aside0.mk (O.out.app2 k); clear k hg p0 p1 p4
          obtain ⟨D0, d0, rfl, hd0⟩ := O.out.f0
          obtain ⟨D1, d1, rfl, _⟩ := O.out.f1
          have HD0 := Aside0.mk hd0; clear hd0
          have u0 := (blk_cell O.out.b2 0).trans rfl; have u1 := (blk_cell O.out.b2 1).trans rfl
          have z0 := blk_frozen O.out.b2 0; have z1 := blk_frozen O.out.b2 1
          have hW : Aside0 (W2 = ws ++ pagesW X gen fr (i + 1)) := ⟨by rw [HW2.out, pagesW_succ, ← List.append_assoc, ← HU.out, ← HKK.out]⟩
          go_upto_region 12 with fail
          generalize hw : World.setCell _ _ _ = w12
          replace O := Aside0.mk (O.out.p2.st2 hw); clear hw u0 u1 z0 z1
          have hdok := (HDK.out (i + 1) (by have := hin.out; omega) (by have := HFUL.out; have := HUl.out; omega)).1
          rw [← hW.out] at hdok
          have HDOK := Aside0.mk hdok; clear hdok
          have p0 := (blk_cell O.out.b0 0).trans rfl; have p1 := (blk_cell O.out.b0 1).trans rfl
          go_wp2_with fail
          refine (specDiskOk_c _ _ _ _ bs W2 true ⟨fun _ => HDOK.out, fun _ => rfl⟩ _ O.out.c1 O.out.c2).mono ?_
          rintro e w13 ⟨rfl, hb⟩
          replace O := Aside0.mk (O.out.below hb); clear hb p0 p1
          go_wp2
          go_roundg (gk - 1)
          case measure => have := HI.out; have := hin.out; omega
          case rel =>
            have e1 := hW.out
            refine ⟨i + 1, D0, D1, d0, d1, ?_, ⟨by have := hin.out; omega, by have := HI.out; have := hin.out; omega, by have := HFUL.out; have := HUl.out; omega, HD0.out⟩, ⟨?_⟩, ⟨?_⟩, ⟨fun _ => ?_⟩⟩
            · have := HKK.out
              first | rfl | (congr 1; omega)
            · rw [← e1]; exact O.out.p1.drop.p1.drop
            · rw [← e1]; exact ⟨O.out.c1, O.out.c2⟩
            · rw [← e1]; exact O.out.q2.p3.drop.only [_, _, _, _]
        · have HFUL := Aside0.mk hful; clear hful
          have E0 : Aside0 (R0 = op0) := ⟨by rw [HAPP.out, if_neg (fun h => by have := HFUL.out; have := HUl.out; have := hin.out; omega)]⟩
          go_wp2_with fail
          refine (l3page_no _ _ _ _ _ _ bs U X kk gen _ HCC.out.1 HCC.out.2 O.out.c1 HCX.out HFUL.out (by omega) hg1 hg2 (by omega)).mono ?_
          intro e w11 hg
          obtain ⟨v0, v1, rfl, k⟩ := own_disk hg
          replace O := Aside0.mk (O.out.app2 k); clear k hg p0 p1 p4
          obtain ⟨D0, d0, rfl, hd0⟩ := O.out.f0
          obtain ⟨D1, d1, rfl, _⟩ := O.out.f1
          have u0 := (blk_cell O.out.b2 0).trans rfl; have u1 := (blk_cell O.out.b2 1).trans rfl
          have z0 := blk_frozen O.out.b2 0; have z1 := blk_frozen O.out.b2 1
          go_upto_region 12 with fail
          generalize hw : World.setCell _ _ _ = w12
          replace O := Aside0.mk (O.out.p2.st2 hw); clear hw u0 u1 z0 z1
          have p0 := (blk_cell O.out.b0 0).trans rfl; have p1 := (blk_cell O.out.b0 1).trans rfl
          go_wp2_with fail
          refine (specDiskOk_c _ _ _ _ [] [] false ⟨fun h => (by cases h), fun h => by have := h.1; simp at this⟩ _ O.out.c1 O.out.c2).mono ?_
          rintro e w13 ⟨rfl, hb⟩
          replace O := Aside0.mk (O.out.below hb); clear hb p0 p1
          have u0 := (blk_cell O.out.b4 0).trans rfl; have u1 := (blk_cell O.out.b4 1).trans rfl; have u2 := (blk_cell O.out.b4 2).trans rfl; have u3 := (blk_cell O.out.b4 3).trans rfl; have u4 := (blk_cell O.out.b4 4).trans rfl; have u5 := (blk_cell O.out.b4 5).trans rfl; have u6 := (blk_cell O.out.b4 6).trans rfl; have u7 := (blk_cell O.out.b4 7).trans rfl
          have z0 := blk_frozen O.out.b4 0; have z1 := blk_frozen O.out.b4 1; have z2 := blk_frozen O.out.b4 2; have z3 := blk_frozen O.out.b4 3; have z4 := blk_frozen O.out.b4 4; have z5 := blk_frozen O.out.b4 5; have z6 := blk_frozen O.out.b4 6; have z7 := blk_frozen O.out.b4 7
          go_wp2
          generalize hw : World.setCell _ _ _ = w90
          replace O := Aside0.mk (O.out.p4.st8 hw); clear hw
          refine bodyPost_ret (results_cell_row rfl _ _ (w.heap.size + 1 + 1) 61 _ (0, 0) _ rfl O.out.b0 Try.underlying61 rfl (by kernel_rfl)) rfl ?_
          refine HQ.out _ _ ?_
          rw [E0.out]
          exact ⟨_, _, _, rfl, (((O.out.only []).nilRow rW 147).nilRow rBS 22).nilRow rN 33⟩
      · have e : i = n := by have h := HKX.out; have := HI.out.1; omega
        subst e
        have hpos : 0 < i := by have := HN9.out; omega
        have O4 := OR.out hpos
        clear O
        have O := Aside0.mk O4.p2; clear O4 OR
        have HU2 : Aside0 (U = V) := ⟨by rw [HU.out, HV.out]⟩
        have HDV := HDK.out i (Nat.le_refl _) HI.out.2.2.1
        rw [← HU.out] at HDV
        have HDV := Aside0.mk HDV
        have HAP : Aside0 (R0 = ⟨true, scanL bs U, bs, U⟩) := ⟨by rw [HAPP.out, if_pos (by have := HI.out; omega), ← HU2.out]⟩
        have HD0 := Aside0.mk HI.out.2.2.2
        go_upto_region 14 with fail
        have p0 := (blk_cell O.out.b0 0).trans rfl; have p1 := (blk_cell O.out.b0 1).trans rfl
        refine sta (fun w' => w'.cell? ⟨g8, 0, none⟩ = some (.slice F0 bs.length h0) ∧ w'.cell? ⟨g8, 1, none⟩ = some (.slice F1 U.length h1)) [4] 5 ⟨p0, p1⟩ (fun hS => ?_)
        clear p0 p1
        replace O := Aside0.mk O.out.drew
        generalize wr.drew = wd at O hS ⊢
        obtain ⟨R, hR⟩ : ∃ R, R = scanL bs U := ⟨_, rfl⟩
        have HRR := Aside0.mk hR; clear hR
        refine tk 0 1 hS ?_
        refine tk 2 5 hS ?_
        refine on 1 7 (fun K hK => ?_)
        refine ca (specScan_yes _ _ _ _ bs U _ O.out.c1 O.out.c2 HD0.out HDV.out.1 HDV.out.2) Try.func73 ?_
        intro e w13 hg
        rw [← HRR.out] at hg
        obtain ⟨vn, rfl, k⟩ := hg
        replace O := Aside0.mk (O.out.app1 k); clear k
        obtain ⟨Cn, cn2, rfl, _⟩ := O.out.f0
        refine ⟨_, rfl, nx hK ⟨(blk_cell O.out.b1 0).trans rfl, (blk_cell O.out.b1 1).trans rfl⟩ (fun hS => ?_)⟩
        clear hK K hS
        refine pu 3 15 ?_
        have u0 := (blk_cell O.out.b4 0).trans rfl; have u1 := (blk_cell O.out.b4 1).trans rfl; have u2 := (blk_cell O.out.b4 2).trans rfl; have u3 := (blk_cell O.out.b4 3).trans rfl; have u4 := (blk_cell O.out.b4 4).trans rfl; have u5 := (blk_cell O.out.b4 5).trans rfl; have u6 := (blk_cell O.out.b4 6).trans rfl; have u7 := (blk_cell O.out.b4 7).trans rfl
        have z0 := blk_frozen O.out.b4 0; have z1 := blk_frozen O.out.b4 1; have z2 := blk_frozen O.out.b4 2; have z3 := blk_frozen O.out.b4 3; have z4 := blk_frozen O.out.b4 4; have z5 := blk_frozen O.out.b4 5; have z6 := blk_frozen O.out.b4 6; have z7 := blk_frozen O.out.b4 7
        refine la 4 31 (fun K hK => ?_)
        refine st ?_
        generalize hw : World.setCell _ _ _ = w14
        replace O := Aside0.mk (O.out.p4.st8 hw); clear hw
        refine nl hK (dn ?_)
        clear hK K u0 u1 u2 u3 u4 u5 u6 u7 z0 z1 z2 z3 z4 z5 z6 z7
        go_wp2
        refine bodyPost_ret (results_cell_row rfl _ _ (w.heap.size + 1 + 1) 61 _ (0, 0) _ rfl O.out.b0 Try.underlying61 rfl (by kernel_rfl)) rfl ?_
        refine HQ.out _ _ ?_
        rw [HAP.out, ← HRR.out]
        exact ⟨_, _, _, rfl, O.out.drop.p1.drop.only [_, _, _]⟩
end Go.Proofs.Ytocdlibnmlcokaa
namespace Go.Proofs.Ytocdlibnmlcokaa
open Go.RowKit Go.Proofs.YtocdlibnmlcokaaW.PrintWords Go.Proofs.YtocdlibnmlcokaaW.PrintLast
set_option linter.unusedVariables false
set_option linter.unusedSimpArgs false
set_option maxHeartbeats 4000000 in
set_option maxRecDepth 100000 in
theorem toLog_c (A : Option Addr) (c : Nat) (ok : Bool) (xs : List Nt) (len gen safe : Int) (w : World) (hx : rN.d.C w A xs.length xs) (hm : xs.length ≤ 10000000) :
    Calls Try.prog 131 #[.agg #[.bool ok, .slice A xs.length c, .int .i64 len, .int .i64 gen, .int .i64 safe]] w (GotLg ⟨ok, xs, len, gen, safe⟩ w) := by
  have HX := Aside0.mk hx; clear hx
  go_enter Try.func131, Try.ntmps131
  go_upto_region 2 with fail
  generalize hw : World.alloc (World.alloc (World.alloc w _) _) _ = w1
  have O := Aside0.mk ((Own.nil w).of3 hw); clear hw
  have p0 := (blk_cell O.out.b2 0).trans rfl; have p1 := (blk_cell O.out.b2 1).trans rfl
  have q0 := (blk_cell O.out.b0 0).trans rfl; have z0 := blk_frozen O.out.b0 0
  go_upto_region 3 with fail
  generalize hw : World.setCell _ _ _ = w2
  replace O := Aside0.mk (O.out.st hw #[.bool ok, .slice none 0 0, .int .i64 0, .int .i64 0, .int .i64 0] rfl); clear hw p0 p1 q0 z0
  have p1 := (blk_cell O.out.b2 1).trans rfl
  go_wp2_with fail
  refine (toNoteS_c _ _ xs _ (Kd.C_below HX.out O.out.bel) hm).mono ?_
  intro e w3 hg
  obtain ⟨v, rfl, k⟩ := own_row hg
  replace O := Aside0.mk (O.out.app1 k); clear k hg p1
  obtain ⟨B, d, rfl, _⟩ := O.out.f0
  have q1 := (blk_cell O.out.b1 1).trans rfl; have z1 := blk_frozen O.out.b1 1
  go_upto_region 4 with fail
  generalize hw : World.setCell _ _ _ = w4
  replace O := Aside0.mk (O.out.p1.st hw #[.bool ok, .slice B xs.length d, .int .i64 0, .int .i64 0, .int .i64 0] rfl); clear hw q1 z1
  have p2 := (blk_cell O.out.b3 2).trans rfl; have q2 := (blk_cell O.out.b0 2).trans rfl; have z2 := blk_frozen O.out.b0 2
  go_upto_region 5 with fail
  generalize hw : World.setCell _ _ _ = w5
  replace O := Aside0.mk (O.out.st hw #[.bool ok, .slice B xs.length d, .int .i64 len, .int .i64 0, .int .i64 0] rfl); clear hw p2 q2 z2
  have p2 := (blk_cell O.out.b3 3).trans rfl; have q2 := (blk_cell O.out.b0 3).trans rfl; have z2 := blk_frozen O.out.b0 3
  go_upto_region 6 with fail
  generalize hw : World.setCell _ _ _ = w6
  replace O := Aside0.mk (O.out.st hw #[.bool ok, .slice B xs.length d, .int .i64 len, .int .i64 gen, .int .i64 0] rfl); clear hw p2 q2 z2
  have p2 := (blk_cell O.out.b3 4).trans rfl; have q2 := (blk_cell O.out.b0 4).trans rfl; have z2 := blk_frozen O.out.b0 4
  go_upto_region 7 with fail
  generalize hw : World.setCell _ _ _ = w7
  replace O := Aside0.mk (O.out.st hw #[.bool ok, .slice B xs.length d, .int .i64 len, .int .i64 gen, .int .i64 safe] rfl); clear hw p2 q2 z2
  have q0 := (blk_cell O.out.b0 0).trans rfl; have q1 := (blk_cell O.out.b0 1).trans rfl; have q2 := (blk_cell O.out.b0 2).trans rfl; have q3 := (blk_cell O.out.b0 3).trans rfl; have q4 := (blk_cell O.out.b0 4).trans rfl
  have u0 := (blk_cell O.out.b2 0).trans rfl; have u1 := (blk_cell O.out.b2 1).trans rfl; have u2 := (blk_cell O.out.b2 2).trans rfl; have u3 := (blk_cell O.out.b2 3).trans rfl; have u4 := (blk_cell O.out.b2 4).trans rfl
  have z0 := blk_frozen O.out.b2 0; have z1 := blk_frozen O.out.b2 1; have z2 := blk_frozen O.out.b2 2; have z3 := blk_frozen O.out.b2 3; have z4 := blk_frozen O.out.b2 4
  go_wp2
  generalize hw : World.setCell _ _ _ = w8
  replace O := Aside0.mk (O.out.p2.st5 hw); clear hw
  refine bodyPost_ret (results_cell_row rfl _ _ (w.heap.size + 1) 59 _ (0, 0) _ rfl O.out.b0 Try.underlying59 rfl (by kernel_rfl)) rfl ?_
  exact ⟨_, rfl, O.out.drop.drop.only1⟩
set_option maxHeartbeats 8000000 in
set_option maxRecDepth 100000 in
theorem toOpened_c (An A0 A1 : Option Addr) (cn c0 c1 : Nat) (ok lok : Bool) (notes : List Nt) (len gen safe : Int) (bs : List (List Int)) (ws : List Wr) (w : World)
    (hn : rN.d.C w An notes.length notes) (hx : rBS.d.C w A0 bs.length bs) (hy : rW.d.C w A1 ws.length ws) (hm : notes.length ≤ 10000000) (hm0 : bs.length ≤ 10000000) (hm1 : ws.length ≤ 10000000) (hm2 : ∀ x ∈ bs, x.length ≤ 10000000) (hm3 : ∀ x ∈ ws, x.bytes.length ≤ 10000000) :
    Calls Try.prog 79 #[.agg #[.bool ok, .bool lok, .slice An notes.length cn, .int .i64 len, .int .i64 gen, .int .i64 safe, .slice A0 bs.length c0, .slice A1 ws.length c1]] w (GotOp ⟨ok, ⟨lok, notes, len, gen, safe⟩, bs, ws⟩ w) := by
  have HNN := Aside0.mk hn; have HX := Aside0.mk hx; have HY := Aside0.mk hy; have HM2 := Aside0.mk hm2; have HM3 := Aside0.mk hm3; clear hn hx hy hm2 hm3
  go_enter Try.func79, Try.ntmps79
  go_upto_region 2 with fail
  generalize hw : World.alloc (World.alloc (World.alloc w _) _) _ = w1
  have O := Aside0.mk ((Own.nil w).of3 hw); clear hw
  have p0 := (blk_cell O.out.b2 0).trans rfl
  have q0 := (blk_cell O.out.b0 0).trans rfl; have z0 := blk_frozen O.out.b0 0
  go_upto_region 3 with fail
  generalize hw : World.setCell _ _ _ = w2
  replace O := Aside0.mk (O.out.st hw #[.bool ok, .bool false, .slice none 0 0, .int .i64 0, .int .i64 0, .int .i64 0, .slice none 0 0, .slice none 0 0] rfl); clear hw p0 q0 z0
  have p1 := (blk_cell O.out.b2 1).trans rfl; have p2 := (blk_cell O.out.b2 2).trans rfl; have p3 := (blk_cell O.out.b2 3).trans rfl; have p4 := (blk_cell O.out.b2 4).trans rfl; have p5 := (blk_cell O.out.b2 5).trans rfl
  go_wp2_with fail
  refine (toLog_c _ _ lok notes len gen safe _ (Kd.C_below HNN.out O.out.bel) hm).mono ?_
  rintro e w3 ⟨v, rfl, k⟩
  replace O := Aside0.mk (O.out.app1 k); clear k p1 p2 p3 p4 p5
  obtain ⟨B, d, rfl, _⟩ := O.out.f0
  have q1 := (blk_cell O.out.b1 1).trans rfl; have q2 := (blk_cell O.out.b1 2).trans rfl; have q3 := (blk_cell O.out.b1 3).trans rfl; have q4 := (blk_cell O.out.b1 4).trans rfl; have q5 := (blk_cell O.out.b1 5).trans rfl
  have z1 := blk_frozen O.out.b1 1; have z2 := blk_frozen O.out.b1 2; have z3 := blk_frozen O.out.b1 3; have z4 := blk_frozen O.out.b1 4; have z5 := blk_frozen O.out.b1 5
  go_upto_region 4 with fail
  have O5 := Own.set (Own.set (Own.set (Own.set (O.out.p1.set 1 (.bool lok)) 2 (.slice B notes.length d)) 3 (.int .i64 len)) 4 (.int .i64 gen)) 5 (.int .i64 safe)
  generalize World.setCell _ _ _ = w4 at O5 ⊢
  clear O
  have O : Aside0 (Own w w4 [Rs.box (w.heap.size + 1 + 1) 61 #[.bool ok, .bool lok, .slice B notes.length d, .int .i64 len, .int .i64 gen, .int .i64 safe, .slice none 0 0, .slice none 0 0], Rs.row rN 33 (.slice B notes.length d) notes, Rs.box (w.heap.size + 1) 61 zero8, Rs.box w.heap.size 103 #[.bool ok, .bool lok, .slice An notes.length cn, .int .i64 len, .int .i64 gen, .int .i64 safe, .slice A0 bs.length c0, .slice A1 ws.length c1]]) := ⟨O5⟩
  clear O5 q1 q2 q3 q4 q5 z1 z2 z3 z4 z5
  have p6 := (blk_cell O.out.b3 6).trans rfl; have p7 := (blk_cell O.out.b3 7).trans rfl
  go_wp2_with fail
  refine (toDisk_c _ _ _ _ bs ws _ (Kd.C_below HX.out O.out.bel) (Kd.C_below HY.out O.out.bel) hm0 hm1 HM2.out HM3.out).mono ?_
  intro e w5 hg
  obtain ⟨v0, v1, rfl, k⟩ := own_disk hg
  replace O := Aside0.mk (O.out.app2 k); clear k hg p6 p7
  obtain ⟨D0, d0, rfl, _⟩ := O.out.f0
  obtain ⟨D1, d1, rfl, _⟩ := O.out.f1
  have q6 := (blk_cell O.out.b2 6).trans rfl; have q7 := (blk_cell O.out.b2 7).trans rfl; have z6 := blk_frozen O.out.b2 6; have z7 := blk_frozen O.out.b2 7
  go_upto_region 5 with fail
  have O5 := Own.set (O.out.p2.set 6 (.slice D0 bs.length d0)) 7 (.slice D1 ws.length d1)
  generalize World.setCell _ _ _ = w6 at O5 ⊢
  clear O
  have O : Aside0 (Own w w6 [Rs.box (w.heap.size + 1 + 1) 61 #[.bool ok, .bool lok, .slice B notes.length d, .int .i64 len, .int .i64 gen, .int .i64 safe, .slice D0 bs.length d0, .slice D1 ws.length d1], Rs.row rBS 22 (.slice D0 bs.length d0) bs, Rs.row rW 147 (.slice D1 ws.length d1) ws, Rs.row rN 33 (.slice B notes.length d) notes, Rs.box (w.heap.size + 1) 61 zero8]) := ⟨O5.only [_, _, _, _, _]⟩
  clear O5 q6 q7 z6 z7
  have q0 := (blk_cell O.out.b0 0).trans rfl; have q1 := (blk_cell O.out.b0 1).trans rfl; have q2 := (blk_cell O.out.b0 2).trans rfl; have q3 := (blk_cell O.out.b0 3).trans rfl; have q4 := (blk_cell O.out.b0 4).trans rfl; have q5 := (blk_cell O.out.b0 5).trans rfl; have q6 := (blk_cell O.out.b0 6).trans rfl; have q7 := (blk_cell O.out.b0 7).trans rfl
  have u0 := (blk_cell O.out.b4 0).trans rfl; have u1 := (blk_cell O.out.b4 1).trans rfl; have u2 := (blk_cell O.out.b4 2).trans rfl; have u3 := (blk_cell O.out.b4 3).trans rfl; have u4 := (blk_cell O.out.b4 4).trans rfl; have u5 := (blk_cell O.out.b4 5).trans rfl; have u6 := (blk_cell O.out.b4 6).trans rfl; have u7 := (blk_cell O.out.b4 7).trans rfl
  have z0 := blk_frozen O.out.b4 0; have z1 := blk_frozen O.out.b4 1; have z2 := blk_frozen O.out.b4 2; have z3 := blk_frozen O.out.b4 3; have z4 := blk_frozen O.out.b4 4; have z5 := blk_frozen O.out.b4 5; have z6 := blk_frozen O.out.b4 6; have z7 := blk_frozen O.out.b4 7
  go_wp2
  generalize hw : World.setCell _ _ _ = w8
  replace O := Aside0.mk (O.out.p4.st8 hw); clear hw
  refine bodyPost_ret (results_cell_row rfl _ _ (w.heap.size + 1) 61 _ (0, 0) _ rfl O.out.b0 Try.underlying61 rfl (by kernel_rfl)) rfl ?_
  exact ⟨_, _, _, rfl, O.out.drop.drop.p2⟩
end Go.Proofs.Ytocdlibnmlcokaa
namespace Go.Proofs.Ytocdlibnmlcokaa
open Go.RowKit Go.Proofs.YtocdlibnmlcokaaW.PrintWords Go.Proofs.YtocdlibnmlcokaaW.PrintLast
set_option linter.unusedVariables false
set_option linter.unusedSimpArgs false
def costN (xs : List Nt) : Int := xs.length + cntL cnS xs
theorem costN_nonneg (xs : List Nt) : 0 ≤ costN xs := by have := cntL_nonneg (cnt := cnS) cnS_nonneg xs; unfold costN; omega
theorem costD_nonneg (bs : List (List Int)) (ws : List Wr) : 0 ≤ costD bs ws := by have := costBS_nonneg bs; have := costWS_nonneg ws; unfold costD; omega
set_option maxHeartbeats 1000000 in
theorem szLog_c (A : Option Addr) (c : Nat) (ok : Bool) (xs : List Nt) (len gen safe left : Int) (w : World) (hx : rN.d.C w A xs.length xs) (ht : ∀ x ∈ xs, x.text.size ≤ 9223372036854775807) (h0 : 0 ≤ left) (h1 : left ≤ 1048576) :
    Calls Try.prog 129 #[.agg #[.bool ok, .slice A xs.length c, .int .i64 len, .int .i64 gen, .int .i64 safe], .int .i64 left] w (Num w (szR (costN xs) left)) := by
  have HX := Aside0.mk hx; have HT := Aside0.mk ht; clear hx ht
  have hnn := costN_nonneg xs
  by_cases h : costN xs ≤ left
  · have hr := Aside0.mk (szR_yes h)
    have hp : 0 ≤ left - costN xs := by omega
    clear h
    go_enter Try.func129, Try.ntmps129
    go_upto_region 1 with fail
    generalize hw : w.alloc _ = w1
    have O := Aside0.mk ((Own.nil w).of hw); clear hw
    have p1 := (blk_cell O.out.b0 1).trans rfl
    go_wp2_with fail
    refine (szNoteS_c _ _ xs left _ (Kd.C_below HX.out O.out.bel) HT.out h0 h1).mono ?_
    rintro e w2 ⟨rfl, hb⟩
    rw [show szR (xs.length + cntL cnS xs) left = _ from hr.out]
    replace O := Aside0.mk (O.out.below hb); clear hb p1
    go_wp2
    go_ret
    exact ⟨by rw [hr.out]; rfl, O.out.bel⟩
  · have hr := Aside0.mk (szR_no h)
    clear h
    go_enter Try.func129, Try.ntmps129
    go_upto_region 1 with fail
    generalize hw : w.alloc _ = w1
    have O := Aside0.mk ((Own.nil w).of hw); clear hw
    have p1 := (blk_cell O.out.b0 1).trans rfl
    go_wp2_with fail
    refine (szNoteS_c _ _ xs left _ (Kd.C_below HX.out O.out.bel) HT.out h0 h1).mono ?_
    rintro e w2 ⟨rfl, hb⟩
    rw [show szR (xs.length + cntL cnS xs) left = _ from hr.out]
    replace O := Aside0.mk (O.out.below hb); clear hb p1
    go_wp2
    go_ret
    exact ⟨by rw [hr.out]; rfl, O.out.bel⟩
def costO (notes : List Nt) (bs : List (List Int)) (ws : List Wr) : Int := costN notes + costD bs ws
set_option maxHeartbeats 2000000 in
theorem szOpened_c (An A0 A1 : Option Addr) (cn c0 c1 : Nat) (ok lok : Bool) (notes : List Nt) (len gen safe : Int) (bs : List (List Int)) (ws : List Wr) (left : Int) (w : World)
    (hn : rN.d.C w An notes.length notes) (hx : rBS.d.C w A0 bs.length bs) (hy : rW.d.C w A1 ws.length ws) (ht : ∀ x ∈ notes, x.text.size ≤ 9223372036854775807) (h0 : 0 ≤ left) (h1 : left ≤ 1048576) :
    Calls Try.prog 77 #[.agg #[.bool ok, .bool lok, .slice An notes.length cn, .int .i64 len, .int .i64 gen, .int .i64 safe, .slice A0 bs.length c0, .slice A1 ws.length c1], .int .i64 left] w (Num w (szR (costO notes bs ws) left)) := by
  have HNN := Aside0.mk hn; have HX := Aside0.mk hx; have HY := Aside0.mk hy; have HT := Aside0.mk ht; clear hn hx hy ht
  have n0 := costN_nonneg notes
  have n1 := costD_nonneg bs ws
  go_enter Try.func77, Try.ntmps77
  go_upto_region 1 with fail
  generalize hw : w.alloc _ = w1
  have O := Aside0.mk ((Own.nil w).of hw); clear hw
  have p1 := (blk_cell O.out.b0 1).trans rfl; have p2 := (blk_cell O.out.b0 2).trans rfl; have p3 := (blk_cell O.out.b0 3).trans rfl; have p4 := (blk_cell O.out.b0 4).trans rfl; have p5 := (blk_cell O.out.b0 5).trans rfl
  by_cases ha : costN notes ≤ left
  · have hr := Aside0.mk (szR_yes ha)
    have hl1 : 0 ≤ left - costN notes ∧ left - costN notes ≤ 1048576 := by omega
    have hl2 := hl1.1
    go_wp2_with fail
    refine (szLog_c _ _ lok notes len gen safe left _ (Kd.C_below HNN.out O.out.bel) HT.out h0 h1).mono ?_
    rintro e w2 ⟨rfl, hb⟩
    rw [hr.out]
    replace O := Aside0.mk (O.out.below hb); clear hb p1 p2 p3 p4 p5
    have p6 := (blk_cell O.out.b0 6).trans rfl; have p7 := (blk_cell O.out.b0 7).trans rfl
    go_wp2_with fail
    refine (szDisk_c _ _ _ _ bs ws _ _ (Kd.C_below HX.out O.out.bel) (Kd.C_below HY.out O.out.bel) hl1.1 hl1.2).mono ?_
    rintro e w3 ⟨rfl, hb⟩
    replace O := Aside0.mk (O.out.below hb); clear hb p6 p7
    by_cases hc : costD bs ws ≤ left - costN notes
    · have hpos : 0 ≤ left - costN notes - costD bs ws := by omega
      have HS : Aside0 (szR (costO notes bs ws) left = left - costN notes - costD bs ws) := ⟨by unfold costO; rw [szR_yes (by omega)]; omega⟩
      rw [szR_yes hc]
      clear ha hc hl1 hl2
      go_wp2
      go_ret
      exact ⟨by rw [HS.out]; rfl, O.out.bel⟩
    · have HS : Aside0 (szR (costO notes bs ws) left = -1) := ⟨by unfold costO; rw [szR_no (by omega)]⟩
      rw [szR_no hc]
      clear ha hc hl1 hl2
      go_wp2
      go_ret
      exact ⟨by rw [HS.out]; rfl, O.out.bel⟩
  · have hr := Aside0.mk (szR_no ha)
    have HS : Aside0 (szR (costO notes bs ws) left = -1) := ⟨by unfold costO; rw [szR_no (by omega)]⟩
    go_wp2_with fail
    refine (szLog_c _ _ lok notes len gen safe left _ (Kd.C_below HNN.out O.out.bel) HT.out h0 h1).mono ?_
    rintro e w2 ⟨rfl, hb⟩
    rw [hr.out]
    replace O := Aside0.mk (O.out.below hb); clear hb p1 p2 p3 p4 p5 ha
    go_wp2
    go_ret
    exact ⟨by rw [HS.out]; rfl, O.out.bel⟩
set_option maxHeartbeats 2000000 in
theorem eqOpened_t (An A0 A1 Bn B0 B1 : Option Addr) (cn c0 c1 dn d0 d1 : Nat) (ok lok : Bool) (notes : List Nt) (len gen safe : Int) (bs : List (List Int)) (ws : List Wr) (w : World)
    (hn : rN.d.C w An notes.length notes) (hx : rBS.d.C w A0 bs.length bs) (hy : rW.d.C w A1 ws.length ws) (hn' : rN.d.C w Bn notes.length notes) (hx' : rBS.d.C w B0 bs.length bs) (hy' : rW.d.C w B1 ws.length ws) :
    Calls Try.prog 80 #[.agg #[.bool ok, .bool lok, .slice An notes.length cn, .int .i64 len, .int .i64 gen, .int .i64 safe, .slice A0 bs.length c0, .slice A1 ws.length c1], .agg #[.bool ok, .bool lok, .slice Bn notes.length dn, .int .i64 len, .int .i64 gen, .int .i64 safe, .slice B0 bs.length d0, .slice B1 ws.length d1]] w (Yes w) := by
  have HNN := Aside0.mk hn; have HX := Aside0.mk hx; have HY := Aside0.mk hy; have HNN' := Aside0.mk hn'; have HX' := Aside0.mk hx'; have HY' := Aside0.mk hy'; clear hn hx hy hn' hx' hy'
  go_enter Try.func80, Try.ntmps80
  go_upto_region 1 with fail
  generalize hw : World.alloc (World.alloc w _) _ = w1
  have O := Aside0.mk ((Own.nil w).of2 hw); clear hw
  have p0 := (blk_cell O.out.b1 0).trans rfl; have q0 := (blk_cell O.out.b0 0).trans rfl
  go_upto_region 3 with fail
  have p1 := (blk_cell O.out.b1 1).trans rfl; have p2 := (blk_cell O.out.b1 2).trans rfl; have p3 := (blk_cell O.out.b1 3).trans rfl; have p4 := (blk_cell O.out.b1 4).trans rfl; have p5 := (blk_cell O.out.b1 5).trans rfl
  have q1 := (blk_cell O.out.b0 1).trans rfl; have q2 := (blk_cell O.out.b0 2).trans rfl; have q3 := (blk_cell O.out.b0 3).trans rfl; have q4 := (blk_cell O.out.b0 4).trans rfl; have q5 := (blk_cell O.out.b0 5).trans rfl
  go_wp2_with fail
  refine (eqLog_t lok _ _ _ _ notes len gen safe _ (Kd.C_below HNN.out O.out.bel) (Kd.C_below HNN'.out O.out.bel)).mono ?_
  rintro e w2 ⟨rfl, hb⟩
  replace O := Aside0.mk (O.out.below hb); clear hb p0 p1 p2 p3 p4 p5 q0 q1 q2 q3 q4 q5
  have p6 := (blk_cell O.out.b1 6).trans rfl; have p7 := (blk_cell O.out.b1 7).trans rfl; have q6 := (blk_cell O.out.b0 6).trans rfl; have q7 := (blk_cell O.out.b0 7).trans rfl
  go_wp2_with fail
  refine (eqDisk_t _ _ _ _ _ _ _ _ bs ws _ (Kd.C_below HX.out O.out.bel) (Kd.C_below HY.out O.out.bel) (Kd.C_below HX'.out O.out.bel) (Kd.C_below HY'.out O.out.bel)).mono ?_
  rintro e w3 ⟨rfl, hb⟩
  replace O := Aside0.mk (O.out.below hb); clear hb p6 p7 q6 q7
  go_wp2
  go_ret
  exact ⟨rfl, O.out.bel⟩
theorem own_markLog {w0 w : World} {L : List Rs} {v : Value} {xs : List Nt} (h : Own w0 w (Rs.row rN 33 v xs :: L)) (ok : Bool) (len gen safe k : Int) (h0 : 0 ≤ k) (h1 : k + cntL cnN xs ≤ 1000000000) :
    Calls Try.prog 75 #[.agg #[.bool ok, v, .int .i64 len, .int .i64 gen, .int .i64 safe], .int .i64 k] w (fun e w' => e = .returned (.int .i64 (k + cntL cnN xs)) ∧ Own w0 w' (Rs.row rN 33 v (markL mkN cnN k xs) :: L)) := by
  obtain ⟨f, hf, hn, hl, c⟩ := h.take
  exact (markLog_c ok v xs f len gen safe k w hf hn h0 h1).mono fun e w' ⟨he, hr, hk⟩ => ⟨he, c (M := [Rs.row rN 33 v (markL mkN cnN k xs)]) ⟨f, [], by simp, hr, rfl⟩ hn (fun b hb => .inl hb) hk⟩
theorem own_markDisk {w0 w : World} {L : List Rs} {v0 v1 : Value} {bs : List (List Int)} {ws : List Wr} (h : Own w0 w (Rs.row rBS 22 v0 bs :: Rs.row rW 147 v1 ws :: L)) (k : Int) (h0 : 0 ≤ k) (h1 : k + cnD bs ws ≤ 1000000000) :
    Calls Try.prog 29 #[.agg #[v0, v1], .int .i64 k] w (fun e w' => e = .returned (.int .i64 (k + cnD bs ws)) ∧ Own w0 w' (Rs.row rBS 22 v0 (markL mkBS cnB k bs) :: Rs.row rW 147 v1 (markL mkW cnW (k + cntL cnB bs) ws) :: L)) := by
  obtain ⟨f, g, hf, hg, hn, hl, c⟩ := h.take2
  exact (markDisk_c v0 v1 bs ws f g k w hf hg hn h0 h1).mono fun e w' ⟨he, hr0, hr1, hk⟩ => ⟨he, c (M := [Rs.row rBS 22 v0 (markL mkBS cnB k bs), Rs.row rW 147 v1 (markL mkW cnW (k + cntL cnB bs) ws)]) ⟨f, g, rfl, hr0, g, [], by simp, hr1, rfl⟩ hn (fun b hb => .inl hb) hk⟩
def cnO (notes : List Nt) (bs : List (List Int)) (ws : List Wr) : Int := cntL cnN notes + cnD bs ws
set_option maxHeartbeats 2000000 in
theorem own_markOpened {w0 w : World} {L : List Rs} {vn v0 v1 : Value} {notes : List Nt} {bs : List (List Int)} {ws : List Wr} (h : Own w0 w (Rs.row rN 33 vn notes :: Rs.row rBS 22 v0 bs :: Rs.row rW 147 v1 ws :: L)) (ok lok : Bool) (len gen safe k : Int) (h0 : 0 ≤ k) (h1 : k + cnO notes bs ws ≤ 1000000000) :
    Calls Try.prog 82 #[.agg #[.bool ok, .bool lok, vn, .int .i64 len, .int .i64 gen, .int .i64 safe, v0, v1], .int .i64 k] w (fun e w' => e = .returned (.int .i64 (k + cnO notes bs ws)) ∧
      Own w0 w' (Rs.row rN 33 vn (markL mkN cnN k notes) :: Rs.row rBS 22 v0 (markL mkBS cnB (k + cntL cnN notes) bs) :: Rs.row rW 147 v1 (markL mkW cnW (k + cntL cnN notes + cntL cnB bs) ws) :: L)) := by
  have n0 : 0 ≤ cntL cnN notes := by rw [cntN]; omega
  have n1 := cnD_nonneg bs ws
  unfold cnO at h1
  have hk1 : k + cntL cnN notes ≤ 1000000000 := by omega
  have hk2 : k + cntL cnN notes + cnD bs ws ≤ 1000000000 := by omega
  obtain ⟨An, cn, rfl, _⟩ := h.f0
  obtain ⟨A0, c0, rfl, _⟩ := h.f1
  obtain ⟨A1, c1, rfl, _⟩ := h.f2
  have H := Aside0.mk h; clear h h1
  go_enter Try.func82, Try.ntmps82
  go_upto_region 1 with fail
  generalize hw : w.alloc _ = w1
  have O := Aside0.mk (H.out.of hw); clear hw H
  have p1 := (blk_cell O.out.b0 1).trans rfl; have p2 := (blk_cell O.out.b0 2).trans rfl; have p3 := (blk_cell O.out.b0 3).trans rfl; have p4 := (blk_cell O.out.b0 4).trans rfl; have p5 := (blk_cell O.out.b0 5).trans rfl
  go_wp2_with fail
  refine (own_markLog O.out.p1 lok len gen safe k h0 hk1).mono ?_
  rintro e w2 ⟨rfl, hO⟩
  clear O
  have O := Aside0.mk hO; clear hO p1 p2 p3 p4 p5
  have p6 := (blk_cell O.out.b1 6).trans rfl; have p7 := (blk_cell O.out.b1 7).trans rfl
  go_wp2_with fail
  refine (own_markDisk O.out.p2.p3.p1 (k + cntL cnN notes) (by omega) hk2).mono ?_
  rintro e w3 ⟨rfl, hO⟩
  clear O
  have O := Aside0.mk hO; clear hO p6 p7
  go_wp2
  go_ret
  exact ⟨by unfold cnO; rw [← Int.add_assoc]; rfl, O.out.p3.drop.p2⟩
set_option maxHeartbeats 2000000 in
theorem heldOpened_c (An A0 A1 : Option Addr) (cn c0 c1 : Nat) (ok lok : Bool) (notes : List Nt) (len gen safe : Int) (bs : List (List Int)) (ws : List Wr) (k : Int) (w : World) (nn n0 n1 : Nat) (en : notes.length = nn) (e0 : bs.length = n0) (e1 : ws.length = n1)
    (hn : rN.d.C w An nn (markL mkN cnN k notes)) (hx : rBS.d.C w A0 n0 (markL mkBS cnB (k + cntL cnN notes) bs)) (hy : rW.d.C w A1 n1 (markL mkW cnW (k + cntL cnN notes + cntL cnB bs) ws)) (h0 : 0 ≤ k) (h1 : k + cnO notes bs ws ≤ 1000000000) :
    Calls Try.prog 83 #[.agg #[.bool ok, .bool lok, .slice An nn cn, .int .i64 len, .int .i64 gen, .int .i64 safe, .slice A0 n0 c0, .slice A1 n1 c1], .int .i64 k] w fun e w' => e = .returned (.int .i64 (k + cnO notes bs ws)) ∧ Below w.heap.size w w' := by
  have z0 : 0 ≤ cntL cnN notes := by rw [cntN]; omega
  have z1 := cnD_nonneg bs ws
  unfold cnO at h1 ⊢
  have HNN := Aside0.mk hn; have HX := Aside0.mk hx; have HY := Aside0.mk hy; have EN := Aside0.mk en; have E0 := Aside0.mk e0; have E1 := Aside0.mk e1; clear hn hx hy en e0 e1
  obtain ⟨q, hq⟩ : ∃ q, q = k + cntL cnN notes := ⟨_, rfl⟩
  obtain ⟨r, hr⟩ : ∃ r, r = q + cnD bs ws := ⟨_, rfl⟩
  have hq0 : 0 ≤ q := by omega
  have hr0 : 0 ≤ r := by omega
  have hk1 : k + cntL cnN notes ≤ 1000000000 := by omega
  have hk2 : q + cnD bs ws ≤ 1000000000 := by omega
  rw [← Int.add_assoc, ← hq, ← hr]
  rw [← hq] at HX HY
  have HQ := Aside0.mk hq; have HRR := Aside0.mk hr; have HK1 := Aside0.mk hk1; have HK2 := Aside0.mk hk2
  clear hq hr h1 hk1 hk2
  go_enter Try.func83, Try.ntmps83
  go_upto_region 1 with fail
  generalize hw : w.alloc _ = w1
  have O := Aside0.mk ((Own.nil w).of hw); clear hw
  have p1 := (blk_cell O.out.b0 1).trans rfl; have p2 := (blk_cell O.out.b0 2).trans rfl; have p3 := (blk_cell O.out.b0 3).trans rfl; have p4 := (blk_cell O.out.b0 4).trans rfl; have p5 := (blk_cell O.out.b0 5).trans rfl
  go_wp2_with fail
  refine (heldLog_c lok _ _ notes len gen safe k _ nn EN.out (Kd.C_below HNN.out O.out.bel) h0 HK1.out).mono ?_
  rintro e w2 ⟨rfl, hb⟩
  rw [← HQ.out]
  replace O := Aside0.mk (O.out.below hb); clear hb p1 p2 p3 p4 p5
  have p6 := (blk_cell O.out.b0 6).trans rfl; have p7 := (blk_cell O.out.b0 7).trans rfl
  go_wp2_with fail
  refine (heldDisk_c _ _ _ _ bs ws q _ _ _ E0.out E1.out (Kd.C_below HX.out O.out.bel) (Kd.C_below HY.out O.out.bel) hq0 HK2.out).mono ?_
  rintro e w3 ⟨rfl, hb⟩
  rw [← HRR.out]
  replace O := Aside0.mk (O.out.below hb); clear hb p6 p7
  go_wp2
  go_ret
  exact ⟨rfl, O.out.bel⟩
end Go.Proofs.Ytocdlibnmlcokaa
namespace Go.Proofs.Ytocdlibnmlcokaa
open Go.RowKit Go.Proofs.YtocdlibnmlcokaaW.PrintWords Go.Proofs.YtocdlibnmlcokaaW.PrintLast
set_option linter.unusedVariables false
namespace Own
theorem p9 {w0 w : World} {L : List Rs} {R R1 R2 R3 R4 R5 R6 R7 R8 R9 : Rs} (h : Own w0 w (R1 :: R2 :: R3 :: R4 :: R5 :: R6 :: R7 :: R8 :: R9 :: R :: L)) : Own w0 w (R :: R1 :: R2 :: R3 :: R4 :: R5 :: R6 :: R7 :: R8 :: R9 :: L) := swap [R1, R2, R3, R4, R5, R6, R7, R8, R9] h
theorem p10 {w0 w : World} {L : List Rs} {R R1 R2 R3 R4 R5 R6 R7 R8 R9 R10 : Rs} (h : Own w0 w (R1 :: R2 :: R3 :: R4 :: R5 :: R6 :: R7 :: R8 :: R9 :: R10 :: R :: L)) : Own w0 w (R :: R1 :: R2 :: R3 :: R4 :: R5 :: R6 :: R7 :: R8 :: R9 :: R10 :: L) := swap [R1, R2, R3, R4, R5, R6, R7, R8, R9, R10] h
theorem p11 {w0 w : World} {L : List Rs} {R R1 R2 R3 R4 R5 R6 R7 R8 R9 R10 R11 : Rs} (h : Own w0 w (R1 :: R2 :: R3 :: R4 :: R5 :: R6 :: R7 :: R8 :: R9 :: R10 :: R11 :: R :: L)) : Own w0 w (R :: R1 :: R2 :: R3 :: R4 :: R5 :: R6 :: R7 :: R8 :: R9 :: R10 :: R11 :: L) := swap [R1, R2, R3, R4, R5, R6, R7, R8, R9, R10, R11] h
theorem p12 {w0 w : World} {L : List Rs} {R R1 R2 R3 R4 R5 R6 R7 R8 R9 R10 R11 R12 : Rs} (h : Own w0 w (R1 :: R2 :: R3 :: R4 :: R5 :: R6 :: R7 :: R8 :: R9 :: R10 :: R11 :: R12 :: R :: L)) : Own w0 w (R :: R1 :: R2 :: R3 :: R4 :: R5 :: R6 :: R7 :: R8 :: R9 :: R10 :: R11 :: R12 :: L) := swap [R1, R2, R3, R4, R5, R6, R7, R8, R9, R10, R11, R12] h
theorem p13 {w0 w : World} {L : List Rs} {R R1 R2 R3 R4 R5 R6 R7 R8 R9 R10 R11 R12 R13 : Rs} (h : Own w0 w (R1 :: R2 :: R3 :: R4 :: R5 :: R6 :: R7 :: R8 :: R9 :: R10 :: R11 :: R12 :: R13 :: R :: L)) : Own w0 w (R :: R1 :: R2 :: R3 :: R4 :: R5 :: R6 :: R7 :: R8 :: R9 :: R10 :: R11 :: R12 :: R13 :: L) := swap [R1, R2, R3, R4, R5, R6, R7, R8, R9, R10, R11, R12, R13] h
theorem p14 {w0 w : World} {L : List Rs} {R R1 R2 R3 R4 R5 R6 R7 R8 R9 R10 R11 R12 R13 R14 : Rs} (h : Own w0 w (R1 :: R2 :: R3 :: R4 :: R5 :: R6 :: R7 :: R8 :: R9 :: R10 :: R11 :: R12 :: R13 :: R14 :: R :: L)) : Own w0 w (R :: R1 :: R2 :: R3 :: R4 :: R5 :: R6 :: R7 :: R8 :: R9 :: R10 :: R11 :: R12 :: R13 :: R14 :: L) := swap [R1, R2, R3, R4, R5, R6, R7, R8, R9, R10, R11, R12, R13, R14] h
theorem p15 {w0 w : World} {L : List Rs} {R R1 R2 R3 R4 R5 R6 R7 R8 R9 R10 R11 R12 R13 R14 R15 : Rs} (h : Own w0 w (R1 :: R2 :: R3 :: R4 :: R5 :: R6 :: R7 :: R8 :: R9 :: R10 :: R11 :: R12 :: R13 :: R14 :: R15 :: R :: L)) : Own w0 w (R :: R1 :: R2 :: R3 :: R4 :: R5 :: R6 :: R7 :: R8 :: R9 :: R10 :: R11 :: R12 :: R13 :: R14 :: R15 :: L) := swap [R1, R2, R3, R4, R5, R6, R7, R8, R9, R10, R11, R12, R13, R14, R15] h
theorem b9 {w0 w : World} {L : List Rs} {R1 R2 R3 R4 R5 R6 R7 R8 R9 : Rs} {g t : Nat} {c : Array Value} (h : Own w0 w (R1 :: R2 :: R3 :: R4 :: R5 :: R6 :: R7 :: R8 :: R9 :: Rs.box g t c :: L)) : w.heap[g]? = some (.cells c t (0, 0)) := h.p9.b0
theorem b10 {w0 w : World} {L : List Rs} {R1 R2 R3 R4 R5 R6 R7 R8 R9 R10 : Rs} {g t : Nat} {c : Array Value} (h : Own w0 w (R1 :: R2 :: R3 :: R4 :: R5 :: R6 :: R7 :: R8 :: R9 :: R10 :: Rs.box g t c :: L)) : w.heap[g]? = some (.cells c t (0, 0)) := h.p10.b0
theorem b11 {w0 w : World} {L : List Rs} {R1 R2 R3 R4 R5 R6 R7 R8 R9 R10 R11 : Rs} {g t : Nat} {c : Array Value} (h : Own w0 w (R1 :: R2 :: R3 :: R4 :: R5 :: R6 :: R7 :: R8 :: R9 :: R10 :: R11 :: Rs.box g t c :: L)) : w.heap[g]? = some (.cells c t (0, 0)) := h.p11.b0
theorem b12 {w0 w : World} {L : List Rs} {R1 R2 R3 R4 R5 R6 R7 R8 R9 R10 R11 R12 : Rs} {g t : Nat} {c : Array Value} (h : Own w0 w (R1 :: R2 :: R3 :: R4 :: R5 :: R6 :: R7 :: R8 :: R9 :: R10 :: R11 :: R12 :: Rs.box g t c :: L)) : w.heap[g]? = some (.cells c t (0, 0)) := h.p12.b0
theorem b13 {w0 w : World} {L : List Rs} {R1 R2 R3 R4 R5 R6 R7 R8 R9 R10 R11 R12 R13 : Rs} {g t : Nat} {c : Array Value} (h : Own w0 w (R1 :: R2 :: R3 :: R4 :: R5 :: R6 :: R7 :: R8 :: R9 :: R10 :: R11 :: R12 :: R13 :: Rs.box g t c :: L)) : w.heap[g]? = some (.cells c t (0, 0)) := h.p13.b0
theorem b15 {w0 w : World} {L : List Rs} {R1 R2 R3 R4 R5 R6 R7 R8 R9 R10 R11 R12 R13 R14 R15 : Rs} {g t : Nat} {c : Array Value} (h : Own w0 w (R1 :: R2 :: R3 :: R4 :: R5 :: R6 :: R7 :: R8 :: R9 :: R10 :: R11 :: R12 :: R13 :: R14 :: R15 :: Rs.box g t c :: L)) : w.heap[g]? = some (.cells c t (0, 0)) := h.p15.b0
theorem c9 {w0 w : World} {L : List Rs} {R1 R2 R3 R4 R5 R6 R7 R8 R9 : Rs} {α : Type} {r : Rp α} {e n c : Nat} {A : Option Addr} {xs : List α} (h : Own w0 w (R1 :: R2 :: R3 :: R4 :: R5 :: R6 :: R7 :: R8 :: R9 :: Rs.row r e (.slice A n c) xs :: L)) : r.d.C w A xs.length xs := h.p9.c0
theorem c10 {w0 w : World} {L : List Rs} {R1 R2 R3 R4 R5 R6 R7 R8 R9 R10 : Rs} {α : Type} {r : Rp α} {e n c : Nat} {A : Option Addr} {xs : List α} (h : Own w0 w (R1 :: R2 :: R3 :: R4 :: R5 :: R6 :: R7 :: R8 :: R9 :: R10 :: Rs.row r e (.slice A n c) xs :: L)) : r.d.C w A xs.length xs := h.p10.c0
theorem c11 {w0 w : World} {L : List Rs} {R1 R2 R3 R4 R5 R6 R7 R8 R9 R10 R11 : Rs} {α : Type} {r : Rp α} {e n c : Nat} {A : Option Addr} {xs : List α} (h : Own w0 w (R1 :: R2 :: R3 :: R4 :: R5 :: R6 :: R7 :: R8 :: R9 :: R10 :: R11 :: Rs.row r e (.slice A n c) xs :: L)) : r.d.C w A xs.length xs := h.p11.c0
theorem c12 {w0 w : World} {L : List Rs} {R1 R2 R3 R4 R5 R6 R7 R8 R9 R10 R11 R12 : Rs} {α : Type} {r : Rp α} {e n c : Nat} {A : Option Addr} {xs : List α} (h : Own w0 w (R1 :: R2 :: R3 :: R4 :: R5 :: R6 :: R7 :: R8 :: R9 :: R10 :: R11 :: R12 :: Rs.row r e (.slice A n c) xs :: L)) : r.d.C w A xs.length xs := h.p12.c0
theorem c13 {w0 w : World} {L : List Rs} {R1 R2 R3 R4 R5 R6 R7 R8 R9 R10 R11 R12 R13 : Rs} {α : Type} {r : Rp α} {e n c : Nat} {A : Option Addr} {xs : List α} (h : Own w0 w (R1 :: R2 :: R3 :: R4 :: R5 :: R6 :: R7 :: R8 :: R9 :: R10 :: R11 :: R12 :: R13 :: Rs.row r e (.slice A n c) xs :: L)) : r.d.C w A xs.length xs := h.p13.c0
theorem c14 {w0 w : World} {L : List Rs} {R1 R2 R3 R4 R5 R6 R7 R8 R9 R10 R11 R12 R13 R14 : Rs} {α : Type} {r : Rp α} {e n c : Nat} {A : Option Addr} {xs : List α} (h : Own w0 w (R1 :: R2 :: R3 :: R4 :: R5 :: R6 :: R7 :: R8 :: R9 :: R10 :: R11 :: R12 :: R13 :: R14 :: Rs.row r e (.slice A n c) xs :: L)) : r.d.C w A xs.length xs := h.p14.c0
theorem c15 {w0 w : World} {L : List Rs} {R1 R2 R3 R4 R5 R6 R7 R8 R9 R10 R11 R12 R13 R14 R15 : Rs} {α : Type} {r : Rp α} {e n c : Nat} {A : Option Addr} {xs : List α} (h : Own w0 w (R1 :: R2 :: R3 :: R4 :: R5 :: R6 :: R7 :: R8 :: R9 :: R10 :: R11 :: R12 :: R13 :: R14 :: R15 :: Rs.row r e (.slice A n c) xs :: L)) : r.d.C w A xs.length xs := h.p15.c0
end Own
end Go.Proofs.Ytocdlibnmlcokaa
namespace Go.Proofs.Ytocdlibnmlcokaa
open Go.RowKit Go.Proofs.YtocdlibnmlcokaaW.PrintWords Go.Proofs.YtocdlibnmlcokaaW.PrintLast Go.Proofs.Ytocdlibnmlcokaa.Open
set_option linter.unusedVariables false
set_option linter.unusedSimpArgs false
theorem u8_of {x : Int} (h : (Lit.int .u8 x).wf = true) : 0 ≤ x ∧ x < 256 := by
  simp [Lit.wf] at h
  have e1 : IntKind.u8.min = 0 := by decide
  have e2 : IntKind.u8.max = 255 := by decide
  rw [e1, e2] at h
  omega
theorem op78b : Opens Try.prog 78 (Kd.pair (Kd.slice 22 rBS.d) (Kd.slice 147 rW.d)) (fun y => BkOk y.1 y.2) :=
  opens_mono (opens_struct Try.underlying78 (by kernel_rfl) (opensF_cons (by kernel_rfl) (by kernel_rfl) (opens_slice 22 Try.underlying40 (by kernel_rfl) op22)
    (opensF_one (by kernel_rfl) (by kernel_rfl) (opens_slice 147 Try.underlying76 (by kernel_rfl) (opens_iso (ok' := fun x : Wr => ∀ b ∈ x.bytes, (Lit.int .u8 b).wf = true) (f := fun x : Wr => (x.block, x.bytes)) (opens_struct Try.underlying176 (by kernel_rfl) (opensF_cons (by kernel_rfl) (by kernel_rfl) (opens_int Try.underlying3) (opensF_one (by kernel_rfl) (by kernel_rfl) op22)))
      (fun x hx => ⟨⟨x.1, x.2⟩, rfl, hx.2.2⟩)))))) (fun y hy => ⟨fun b hb x hx => u8_of ((hy.1.2 b hb).2 x hx), fun x hx b hb => u8_of (hy.2.2 x hx b hb)⟩)
def TxOk (x : Nt) : Prop := x.text.size ≤ 9223372036854775807
theorem op109 : Opens Try.prog 109 rN.d TxOk :=
  opens_iso (opens_struct Try.underlying109 (by kernel_rfl) (opensF_cons (by kernel_rfl) (by kernel_rfl) (opens_int Try.underlying3) (opensF_cons (by kernel_rfl) (by kernel_rfl) (opens_int Try.underlying3) (opensF_cons (by kernel_rfl) (by kernel_rfl) (opens_int Try.underlying3)
    (opensF_cons (by kernel_rfl) (by kernel_rfl) (opens_int Try.underlying2) (opensF_one (by kernel_rfl) (by kernel_rfl) (opens_string Try.underlying9)))))))
    (fun x hx => ⟨⟨x.1, x.2.1, x.2.2.1, x.2.2.2.1, x.2.2.2.2⟩, rfl, by have := hx.2.2.2.2; unfold TxOk maxLen at *; simp only at *; omega⟩)
theorem op66 : Opens Try.prog 66 (Kd.slice 33 rN.d) (fun xs => ∀ x ∈ xs, TxOk x) := opens_mono (opens_slice 33 Try.underlying66 (by kernel_rfl) op109) (fun xs h => h.2)
def kLog : Kd (Bool × List Nt × Int × Int × Int) := Kd.pair Kd.bool (Kd.pair (Kd.slice 33 rN.d) (Kd.pair (Kd.int .i64) (Kd.pair (Kd.int .i64) (Kd.int .i64))))
theorem op101 : Opens Try.prog 101 kLog (fun y => ∀ x ∈ y.2.1, TxOk x) :=
  opens_mono (opens_struct Try.underlying101 (by kernel_rfl) (opensF_cons (by kernel_rfl) (by kernel_rfl) (opens_bool Try.underlying4) (opensF_cons (by kernel_rfl) (by kernel_rfl) op66 (opensF_cons (by kernel_rfl) (by kernel_rfl) (opens_int Try.underlying3) (opensF_cons (by kernel_rfl) (by kernel_rfl) (opens_int Try.underlying3) (opensF_one (by kernel_rfl) (by kernel_rfl) (opens_int Try.underlying3))))))) (fun y hy => hy.2.1)
def kOpn : Kd (Bool × (Bool × List Nt × Int × Int × Int) × (List (List Int) × List Wr)) := Kd.pair Kd.bool (Kd.pair kLog (Kd.pair (Kd.slice 22 rBS.d) (Kd.slice 147 rW.d)))
theorem op103 : Opens Try.prog 103 kOpn (fun y => (∀ x ∈ y.2.1.2.1, TxOk x) ∧ BkOk y.2.2.1 y.2.2.2) :=
  opens_mono (opens_struct Try.underlying103 (by kernel_rfl) (opensF_cons (by kernel_rfl) (by kernel_rfl) (opens_bool Try.underlying4) (opensF_cons (by kernel_rfl) (by kernel_rfl) op101 (opensF_one (by kernel_rfl) (by kernel_rfl) op78b)))) (fun y hy => hy.2)
theorem open103 {w : World} {y : Bool × (Bool × List Nt × Int × Int × Int) × (List (List Int) × List Wr)} {cs : List Value} (h : kOpn.K w y cs) :
    ∃ An cn A0 c0 A1 c1, cs = [.bool y.1, .bool y.2.1.1, .slice An y.2.1.2.1.length cn, .int .i64 y.2.1.2.2.1, .int .i64 y.2.1.2.2.2.1, .int .i64 y.2.1.2.2.2.2, .slice A0 y.2.2.1.length c0, .slice A1 y.2.2.2.length c1] ∧ rN.d.C w An y.2.1.2.1.length y.2.1.2.1 ∧ rBS.d.C w A0 y.2.2.1.length y.2.2.1 ∧ rW.d.C w A1 y.2.2.2.length y.2.2.2 := by
  obtain ⟨_, _, rfl, rfl, _, _, rfl, ⟨_, _, rfl, rfl, _, _, rfl, ⟨An, cn, rfl, _, hn⟩, _, _, rfl, rfl, _, _, rfl, rfl, rfl⟩, ⟨_, _, rfl, ⟨A0, c0, rfl, _, h0⟩, ⟨A1, c1, rfl, _, h1⟩⟩⟩ := h
  exact ⟨An, cn, A0, c0, A1, c1, rfl, hn, h0, h1⟩
theorem small_note {xs : List Nt} (h : costN xs ≤ 1048576) : xs.length ≤ 10000000 ∧ cntL cnN xs ≤ 10000000 := by
  have := cntL_nonneg (cnt := cnS) cnS_nonneg xs
  unfold costN at h
  rw [cntN]
  omega
theorem found_notes {S : List (List Int)} (h : BlOk S) : (foundL S).1.length ≤ 7112 := by
  have h1 := logBytes_ok h
  have h2 := frames_len (logBytes S).length (logBytes S) h1.1
  unfold foundL framesL; omega
theorem cnD_of {S : List (List Int)} (h : BlOk S) : cnD S [] ≤ 1000000 := by
  have := cnB_of ⟨h.1, fun b hb => (h.2 b hb).1⟩
  unfold cnD; simp only [cntL]; omega
end Go.Proofs.Ytocdlibnmlcokaa
