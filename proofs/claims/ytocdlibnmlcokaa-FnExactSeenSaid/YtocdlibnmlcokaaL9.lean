/- FnExactSeen: the walk. -/
import Derived.Test.YtocdlibnmlcokaaAQ2
namespace Go.Proofs.Ytocdlibnmlcokaa
open Go.RowKit Go.Proofs.YtocdlibnmlcokaaW.PrintWords Go.Proofs.YtocdlibnmlcokaaW.PrintLast
set_option linter.unusedVariables false
set_option linter.unusedSimpArgs false

set_option maxRecDepth 100000 in
set_option maxHeartbeats 8000000 in
theorem fnExactSeen_l (A0 A1 : Option Addr) (c0 c1 : Nat) (bs : List (List Int)) (ws : List Wr) (w : World) (hx : rBS.d.C w A0 bs.length bs) (hy : rW.d.C w A1 ws.length ws)
    (hsz : ¬ costD bs ws ≤ 1048576) :
    Calls Try.prog 9 #[.agg #[.slice A0 bs.length c0, .slice A1 ws.length c1]] w (Yes w) := by
  have HSZ := Aside0.mk (szR_no hsz)
  clear hsz
  have HX := Aside0.mk hx; have HY := Aside0.mk hy
  clear hx hy
  have BA := Aside0.mk (blk_new w (.cells #[.slice A0 bs.length c0, .slice A1 ws.length c1] 78))
  have B := Aside0.mk (below_alloc (Below.refl w.heap.size w) (.cells #[.slice A0 bs.length c0, .slice A1 ws.length c1] 78))
  go_enter Try.func9, Try.ntmps9
  go_upto_region 1 with (fail)
  generalize w.alloc _ = w0 at BA B ⊢
  have pa0 := (blk_cell BA.out 0).trans rfl; have pa1 := (blk_cell BA.out 1).trans rfl
  go_wp2_with fail
  have X0 := Aside0.mk (Kd.C_below HX.out B.out); have Y0 := Aside0.mk (Kd.C_below HY.out B.out)
  refine (szDisk_c _ _ _ _ bs ws 1048576 _ X0.out Y0.out (by omega) (by omega)).mono ?_
  rintro e wx1 ⟨rfl, hb⟩
  rw [HSZ.out]
  clear X0 Y0 pa0 pa1
  replace BA := Aside0.mk (blk_below BA.out hb)
  replace B := Aside0.mk (below_then B.out B.out.size hb)
  clear hb
  go_wp2_with fail
  go_ret
  exact ⟨rfl, B.out⟩
set_option maxRecDepth 100000 in
set_option maxHeartbeats 8000000 in
theorem fnExactSeen_w (A0 A1 : Option Addr) (c0 c1 : Nat) (bs bs' : List (List Int)) (ws : List Wr) (w : World) (hx : rBS.d.C w A0 bs.length bs) (hy : rW.d.C w A1 ws.length ws)
    (hsz : costD bs ws ≤ 1048576) (hm : Small bs ws) (hcx : cnD bs ws ≤ 100000000) (hcn : cntL cnB bs' ≤ 100000000)
    (hs : ∀ (A0 A1 : Option Addr) (c0 c1 : Nat) (w : World), rBS.d.C w A0 bs.length bs → rW.d.C w A1 ws.length ws → Calls Try.prog 57 #[.agg #[.slice A0 bs.length c0, .slice A1 ws.length c1]] w (GotRow rBS 22 w bs'))
    (hi : ∀ (A0 A1 : Option Addr) (c0 c1 : Nat) (w : World), rBS.d.C w A0 bs.length bs → rW.d.C w A1 ws.length ws → Calls Try.prog 58 #[.agg #[.slice A0 bs.length c0, .slice A1 ws.length c1]] w (GotRow rBS 22 w bs')) :
    Calls Try.prog 9 #[.agg #[.slice A0 bs.length c0, .slice A1 ws.length c1]] w (Yes w) := by
  have hn0 : 0 ≤ cnD bs ws := cnD_nonneg bs ws
  have hn1 : 0 ≤ cntL cnB bs' := cntL_nonneg (cnt := cnB) cnB_nonneg bs'
  have hpos : 0 ≤ 1048576 - costD bs ws := by omega
  have HSZ := Aside0.mk (szR_yes hsz)
  have HM := Aside0.mk hm; have HS := Aside0.mk hs; have HI := Aside0.mk hi
  clear hm hs hi hsz
  have HX := Aside0.mk hx; have HY := Aside0.mk hy
  clear hx hy
  have BA := Aside0.mk (blk_new w (.cells #[.slice A0 bs.length c0, .slice A1 ws.length c1] 78))
  have B := Aside0.mk (below_alloc (Below.refl w.heap.size w) (.cells #[.slice A0 bs.length c0, .slice A1 ws.length c1] 78))
  go_enter Try.func9, Try.ntmps9
  go_upto_region 1 with (fail)
  generalize w.alloc _ = w0 at BA B ⊢
  have pa0 := (blk_cell BA.out 0).trans rfl; have pa1 := (blk_cell BA.out 1).trans rfl
  go_wp2_with fail
  have X0 := Aside0.mk (Kd.C_below HX.out B.out); have Y0 := Aside0.mk (Kd.C_below HY.out B.out)
  refine (szDisk_c _ _ _ _ bs ws 1048576 _ X0.out Y0.out (by omega) (by omega)).mono ?_
  rintro e wx2 ⟨rfl, hb⟩
  rw [HSZ.out]
  clear X0 Y0 pa0 pa1
  replace BA := Aside0.mk (blk_below BA.out hb)
  replace B := Aside0.mk (below_then B.out B.out.size hb)
  clear hb
  have pa0 := (blk_cell BA.out 0).trans rfl; have pa1 := (blk_cell BA.out 1).trans rfl
  go_wp2_with fail
  refine (toDisk_c _ _ _ _ bs ws _ (Kd.C_below HX.out B.out) (Kd.C_below HY.out B.out) HM.out.1 HM.out.2.1 HM.out.2.2.1 HM.out.2.2.2).mono ?_
  rintro e wx3 ⟨v0, v1, f0, f1, rfl, h0, h1, hn, hl, hb⟩
  obtain ⟨TA, Tc, rfl, _, _⟩ := Rp.Row_reads h0
  obtain ⟨TB, Td, rfl, _, _⟩ := Rp.Row_reads h1
  have T0 := Aside0.mk (Rp.Row_C h0).2.2; have T1 := Aside0.mk (Rp.Row_C h1).2.2
  replace BA := Aside0.mk (blk_below BA.out hb)
  replace B := Aside0.mk (below_then B.out B.out.size hb)
  clear h0 h1 hn hl hb pa0 pa1
  go_wp2_with fail
  refine (HS.out _ _ _ _ _ T0.out T1.out).mono ?_
  rintro e wx4 ⟨v, rfl, hg, hb⟩
  obtain ⟨fp, hr, hn, hx⟩ := hg
  obtain ⟨WA, Wc, rfl, _, _⟩ := Rp.Row_reads hr
  clear T0 T1
  have o := obQ_new hr hn hx hb
  clear hr hn hx
  have ltW_A : w.heap.size < wx3.heap.size := blk_lt BA.out
  replace BA := Aside0.mk (blk_below BA.out hb)
  replace B := Aside0.mk (below_then B.out B.out.size hb)
  generalize wx3.heap.size = loW at o ltW_A
  obtain ⟨hiW, hEW⟩ : ∃ k, k = wx4.heap.size := ⟨_, rfl⟩
  rw [← hEW] at o
  clear hEW
  have bW_ := o.lh
  have OW := Aside0.mk o
  clear o hb
  go_upto_region 6 with (fail)
  have pa0 := (blk_cell BA.out 0).trans rfl; have pa1 := (blk_cell BA.out 1).trans rfl
  go_wp2_with fail
  refine (toDisk_c _ _ _ _ bs ws _ (Kd.C_below HX.out B.out) (Kd.C_below HY.out B.out) HM.out.1 HM.out.2.1 HM.out.2.2.1 HM.out.2.2.2).mono ?_
  rintro e wx5 ⟨v0, v1, f0, f1, rfl, h0, h1, hn, hl, hb⟩
  obtain ⟨TA, Tc, rfl, _, _⟩ := Rp.Row_reads h0
  obtain ⟨TB, Td, rfl, _, _⟩ := Rp.Row_reads h1
  clear pa0 pa1
  have H0 := Aside0.mk h0; have H1 := Aside0.mk h1; have HN := Aside0.mk hn; have HL := Aside0.mk hl; have HB := Aside0.mk hb; clear h0 h1 hn hl hb
  go_upto_region 7 with (fail)
  generalize hw : wx5.alloc _ = wn6
  obtain ⟨o, bl, _, _⟩ := obD_new H0.out H1.out HN.out HL.out HB.out hw
  clear hw H0 H1 HN HL HB
  have ltX_A : w.heap.size < wx4.heap.size := blk_lt BA.out
  have ltX_W := OW.out.hw
  replace OW := Aside0.mk (OW.out.below bl)
  replace BA := Aside0.mk (blk_below BA.out bl)
  replace B := Aside0.mk (below_then B.out B.out.size bl)
  generalize wx4.heap.size = loX at o ltX_A ltX_W
  generalize wx5.heap.size = bX at o ⊢
  have bX_ := o.blt.2.2
  have OX := Aside0.mk o
  clear o bl
  obtain ⟨XA, Xc, XB, Xd, Xf, Xg, Xk, Xr, Xq, Xn, Xx, Xh, Xl⟩ := OX.out
  have Xp0 := (blk_cell Xk 0).trans rfl; have Xp1 := (blk_cell Xk 1).trans rfl
  have XR := Aside0.mk Xr; have XQ := Aside0.mk Xq; have XK := Aside0.mk Xk; have XN := Aside0.mk Xn; have XX := Aside0.mk Xx; have XH := Aside0.mk (And.intro Xh Xl)
  clear Xk Xr Xq Xn Xx Xh Xl
  go_wp2_with fail
  refine (HI.out _ _ _ _ _ (Rp.Row_C XR.out).2.2 (Rp.Row_C XQ.out).2.2).mono ?_
  rintro e wx7 ⟨v, rfl, hg, hb⟩
  obtain ⟨fp, hr, hn, hx⟩ := hg
  obtain ⟨GA, Gc, rfl, _, _⟩ := Rp.Row_reads hr
  clear Xp0 Xp1 XR XQ XK XN XX XH
  have o := obQ_new hr hn hx hb
  clear hr hn hx
  have ltG_A : w.heap.size < wn6.heap.size := blk_lt BA.out
  have ltG_W := OW.out.hw
  have ltG_X := OX.out.blt.1
  replace OW := Aside0.mk (OW.out.below hb)
  replace OX := Aside0.mk (OX.out.below hb)
  replace BA := Aside0.mk (blk_below BA.out hb)
  replace B := Aside0.mk (below_then B.out B.out.size hb)
  generalize wn6.heap.size = loG at o ltG_A ltG_W ltG_X
  obtain ⟨hiG, hEG⟩ : ∃ k, k = wx7.heap.size := ⟨_, rfl⟩
  rw [← hEG] at o
  clear hEG
  have bG_ := o.lh
  have OG := Aside0.mk o
  clear o hb
  go_upto_region 8 with (fail)
  go_wp2_with fail
  refine (eqByteSS_t _ _ _ _ bs' _ OG.out.C OW.out.C).mono ?_
  rintro e wx8 ⟨rfl, hb⟩
  replace OW := Aside0.mk (OW.out.below hb)
  replace OX := Aside0.mk (OX.out.below hb)
  replace OG := Aside0.mk (OG.out.below hb)
  replace BA := Aside0.mk (blk_below BA.out hb)
  replace B := Aside0.mk (below_then B.out B.out.size hb)
  clear hb
  go_upto_region 10 with (fail)
  obtain ⟨XA, Xc, XB, Xd, Xf, Xg, Xk, Xr, Xq, Xn, Xx, Xh, Xl⟩ := OX.out
  have Xp0 := (blk_cell Xk 0).trans rfl; have Xp1 := (blk_cell Xk 1).trans rfl
  have XR := Aside0.mk Xr; have XQ := Aside0.mk Xq; have XK := Aside0.mk Xk; have XN := Aside0.mk Xn; have XX := Aside0.mk Xx; have XH := Aside0.mk (And.intro Xh Xl)
  clear Xk Xr Xq Xn Xx Xh Xl
  have pa0 := (blk_cell BA.out 0).trans rfl; have pa1 := (blk_cell BA.out 1).trans rfl
  refine sta (fun w' => (w'.cell? ⟨bX, 0, none⟩ = some (.slice XA bs.length Xc) ∧ w'.cell? ⟨bX, 1, none⟩ = some (.slice XB ws.length Xd)) ∧ (w'.cell? ⟨w.heap.size, 0, none⟩ = some (.slice A0 bs.length c0) ∧ w'.cell? ⟨w.heap.size, 1, none⟩ = some (.slice A1 ws.length c1))) [] 5 ⟨⟨Xp0, Xp1⟩, ⟨pa0, pa1⟩⟩ (fun hS => ?_)
  have hd0 := below_drew (Below.refl wx8.heap.size wx8)
  replace OW := Aside0.mk (OW.out.below hd0)
  replace OX := Aside0.mk (OX.out.below hd0)
  replace OG := Aside0.mk (OG.out.below hd0)
  replace BA := Aside0.mk (blk_below BA.out hd0)
  replace B := Aside0.mk (below_then B.out B.out.size hd0)
  have XR2 := Aside0.mk (Rp.Row_below XR.out hd0); have XQ2 := Aside0.mk (Rp.Row_below XQ.out hd0)
  clear hd0
  clear Xp0 Xp1 XR XQ XK XN XX XH
  clear pa0 pa1
  generalize wx8.drew = wd9 at OW OX OG BA B XR2 XQ2 hS ⊢
  refine tk 0 1 hS ?_
  refine tk 1 3 hS ?_
  refine on 2 7 (fun K hK => ?_)
  refine ca (toDisk_c _ _ _ _ bs ws _ (Kd.C_below HX.out B.out) (Kd.C_below HY.out B.out) HM.out.1 HM.out.2.1 HM.out.2.2.1 HM.out.2.2.2) Try.func52 ?_
  rintro e wx10 ⟨v0, v1, f0, f1, rfl, h0, h1, hn, hl, hb⟩
  obtain ⟨TA, Tc, rfl, _, _⟩ := Rp.Row_reads h0
  obtain ⟨TB, Td, rfl, _, _⟩ := Rp.Row_reads h1
  refine ⟨_, rfl, nx hK ⟨⟨pw_cell_below hb hS.1.1, pw_cell_below hb hS.1.2⟩, ⟨pw_cell_below hb hS.2.1, pw_cell_below hb hS.2.2⟩⟩ (fun hS => ?_)⟩
  clear hK K
  replace OW := Aside0.mk (OW.out.below hb)
  replace OX := Aside0.mk (OX.out.below hb)
  replace OG := Aside0.mk (OG.out.below hb)
  replace BA := Aside0.mk (blk_below BA.out hb)
  replace B := Aside0.mk (below_then B.out B.out.size hb)
  have XR3 := (Rp.Row_C (Rp.Row_below XR2.out hb)).2.2; have XQ3 := (Rp.Row_C (Rp.Row_below XQ2.out hb)).2.2
  clear hb XR2 XQ2
  refine on 3 15 (fun K hK => ?_)
  refine ca (eqDisk_t _ _ _ _ _ _ _ _ bs ws _ XR3 XQ3 (Rp.Row_C h0).2.2 (Rp.Row_C h1).2.2) Try.func28 ?_
  rintro e wx11 ⟨rfl, hb⟩
  refine ⟨_, rfl, nx hK ⟨⟨pw_cell_below hb hS.1.1, pw_cell_below hb hS.1.2⟩, ⟨pw_cell_below hb hS.2.1, pw_cell_below hb hS.2.2⟩⟩ (fun hS => ?_)⟩
  clear hK K h0 h1 hn hl XR3 XQ3
  replace OW := Aside0.mk (OW.out.below hb)
  replace OX := Aside0.mk (OX.out.below hb)
  replace OG := Aside0.mk (OG.out.below hb)
  replace BA := Aside0.mk (blk_below BA.out hb)
  replace B := Aside0.mk (below_then B.out B.out.size hb)
  clear hb
  refine pu 4 31 ?_
  refine dn ?_
  clear hS
  go_upto_region 13 with (fail)
  obtain ⟨XA, Xc, XB, Xd, Xf, Xg, Xk, Xr, Xq, Xn, Xx, Xh, Xl⟩ := OX.out
  have Xp0 := (blk_cell Xk 0).trans rfl; have Xp1 := (blk_cell Xk 1).trans rfl
  have XR := Aside0.mk Xr; have XQ := Aside0.mk Xq; have XK := Aside0.mk Xk; have XN := Aside0.mk Xn; have XX := Aside0.mk Xx; have XH := Aside0.mk (And.intro Xh Xl)
  clear Xk Xr Xq Xn Xx Xh Xl
  go_wp2_with fail
  refine (markDisk_c _ _ bs ws Xf Xg 1 _ XR.out XQ.out XN.out (by omega) (by omega)).mono ?_
  rintro e wx12 ⟨rfl, m0, m1, km⟩
  generalize hb2 : markL mkBS cnB 1 bs = bx at m0
  generalize hw2 : markL mkW cnW (1 + cntL cnB bs) ws = wx at m1
  replace OW := Aside0.mk (OW.out.kpR km XX.out (by omega))
  replace OG := Aside0.mk (OG.out.kpR km XX.out (by omega))
  replace BA := Aside0.mk (km.blk BA.out (fun hm => by have := XX.out _ hm; omega))
  replace B := Aside0.mk (km.toBelow B.out B.out.size (fun x hx => by have := XX.out x hx; omega))
  replace OX := Aside0.mk (obD_marked XK.out m0 m1 XN.out XX.out XH.out.1 XH.out.2 km)
  clear m0 m1 km hb2 hw2
  clear Xp0 Xp1 XR XQ XK XN XX XH
  go_wp2_with fail
  refine (eqByteSS_t _ _ _ _ bs' _ OG.out.C OW.out.C).mono ?_
  rintro e wx13 ⟨rfl, hb⟩
  replace OW := Aside0.mk (OW.out.below hb)
  replace OX := Aside0.mk (OX.out.below hb)
  replace OG := Aside0.mk (OG.out.below hb)
  replace BA := Aside0.mk (blk_below BA.out hb)
  replace B := Aside0.mk (below_then B.out B.out.size hb)
  clear hb
  go_upto_region 17 with (fail)
  obtain ⟨Gf, Gr, Gn, Gx⟩ := OG.out.o
  have GR := Aside0.mk Gr; have GN := Aside0.mk Gn; have GX := Aside0.mk Gx
  clear Gr Gn Gx
  go_wp2_with fail
  refine (markByteSS_c _ bs' Gf 1 _ GR.out GN.out (by omega) (by omega)).mono ?_
  rintro e wx14 ⟨rfl, m0, km⟩
  generalize hb2 : markL mkBS cnB 1 bs' = bg at m0
  replace OW := Aside0.mk (OW.out.kpR km GX.out (by omega))
  replace OX := Aside0.mk (OX.out.kpR km GX.out (by omega))
  replace BA := Aside0.mk (km.blk BA.out (fun hm => by have := GX.out _ hm; omega))
  replace B := Aside0.mk (km.toBelow B.out B.out.size (fun x hx => by have := GX.out x hx; omega))
  replace OG := Aside0.mk (OG.out.marked m0 GN.out GX.out km)
  have HB2 := Aside0.mk hb2
  clear m0 km hb2 GR GN GX
  go_wp2_with fail
  refine (heldByteSS_c _ _ bs' 1 _ _ rfl (by rw [HB2.out]; exact OG.out.C) (by omega) (by omega)).mono ?_
  rintro e wx15 ⟨rfl, hE⟩
  subst hE
  go_upto_region 24 with (fail)
  have pa0 := (blk_cell BA.out 0).trans rfl; have pa1 := (blk_cell BA.out 1).trans rfl
  go_wp2_with fail
  refine (toDisk_c _ _ _ _ bs ws _ (Kd.C_below HX.out B.out) (Kd.C_below HY.out B.out) HM.out.1 HM.out.2.1 HM.out.2.2.1 HM.out.2.2.2).mono ?_
  rintro e wx16 ⟨v0, v1, f0, f1, rfl, h0, h1, hn, hl, hb⟩
  obtain ⟨TA, Tc, rfl, _, _⟩ := Rp.Row_reads h0
  obtain ⟨TB, Td, rfl, _, _⟩ := Rp.Row_reads h1
  have T0 := Aside0.mk (Rp.Row_C h0).2.2; have T1 := Aside0.mk (Rp.Row_C h1).2.2
  replace OW := Aside0.mk (OW.out.below hb)
  replace OX := Aside0.mk (OX.out.below hb)
  replace OG := Aside0.mk (OG.out.below hb)
  replace BA := Aside0.mk (blk_below BA.out hb)
  replace B := Aside0.mk (below_then B.out B.out.size hb)
  clear h0 h1 hn hl hb pa0 pa1
  go_wp2_with fail
  refine (HI.out _ _ _ _ _ T0.out T1.out).mono ?_
  rintro e wx17 ⟨v, rfl, hg, hb⟩
  obtain ⟨fp, hr, hn, hx⟩ := hg
  obtain ⟨VA, Vc, rfl, _, _⟩ := Rp.Row_reads hr
  clear T0 T1
  have o := obQ_new hr hn hx hb
  clear hr hn hx
  have ltV_A : w.heap.size < wx16.heap.size := blk_lt BA.out
  have ltV_W := OW.out.hw
  have ltV_X := OX.out.blt.1
  have ltV_G := OG.out.hw
  replace OW := Aside0.mk (OW.out.below hb)
  replace OX := Aside0.mk (OX.out.below hb)
  replace OG := Aside0.mk (OG.out.below hb)
  replace BA := Aside0.mk (blk_below BA.out hb)
  replace B := Aside0.mk (below_then B.out B.out.size hb)
  generalize wx16.heap.size = loV at o ltV_A ltV_W ltV_X ltV_G
  obtain ⟨hiV, hEV⟩ : ∃ k, k = wx17.heap.size := ⟨_, rfl⟩
  rw [← hEV] at o
  clear hEV
  have bV_ := o.lh
  have OV := Aside0.mk o
  clear o hb
  go_upto_region 25 with (fail)
  go_wp2_with fail
  refine (eqByteSS_t _ _ _ _ bs' _ OV.out.C OW.out.C).mono ?_
  rintro e wx18 ⟨rfl, hb⟩
  replace OW := Aside0.mk (OW.out.below hb)
  replace OX := Aside0.mk (OX.out.below hb)
  replace OG := Aside0.mk (OG.out.below hb)
  replace OV := Aside0.mk (OV.out.below hb)
  replace BA := Aside0.mk (blk_below BA.out hb)
  replace B := Aside0.mk (below_then B.out B.out.size hb)
  clear hb
  go_wp2_with fail
  refine (heldByteSS_c _ _ bs' 1 _ _ rfl (by rw [HB2.out]; exact OG.out.C) (by omega) (by omega)).mono ?_
  rintro e wx19 ⟨rfl, hE⟩
  subst hE
  go_wp2_with fail
  go_ret
  exact ⟨rfl, B.out⟩
theorem fnExactSeen_c (A0 A1 : Option Addr) (c0 c1 : Nat) (bs : List (List Int)) (ws : List Wr) (w : World) (hx : rBS.d.C w A0 bs.length bs) (hy : rW.d.C w A1 ws.length ws) :
    Calls Try.prog 9 #[.agg #[.slice A0 bs.length c0, .slice A1 ws.length c1]] w (Yes w) := by
  by_cases hsz : costD bs ws ≤ 1048576
  rotate_left
  · exact fnExactSeen_l A0 A1 c0 c1 bs ws w hx hy hsz
  obtain ⟨hm, hc⟩ := small_of hsz
  by_cases hd : DkOk bs ws
  · exact fnExactSeen_w A0 A1 c0 c1 bs _ ws w hx hy hsz hm hc (by have := cnB_of (settle_ok (kfL true []) hd); omega) (fun _ _ _ _ w h0 h1 => specSeen_yes _ _ _ _ bs ws w h0 h1 hd) (fun _ _ _ _ w h0 h1 => implSeen_yes _ _ _ _ bs ws w h0 h1 hd)
  · exact fnExactSeen_w A0 A1 c0 c1 bs [] ws w hx hy hsz hm hc (by simp [cntL]) (fun _ _ _ _ w h0 h1 => specSeen_no _ _ _ _ bs ws w h0 h1 hd) (fun _ _ _ _ w h0 h1 => implSeen_no _ _ _ _ bs ws w h0 h1 hm.2.1 hd)
end Go.Proofs.Ytocdlibnmlcokaa
