/- FnExactCrash: the walk. -/
import Derived.Test.YtocdlibnmlcokaaAQ2
namespace Go.Proofs.Ytocdlibnmlcokaa
open Go.RowKit Go.Proofs.YtocdlibnmlcokaaW.PrintWords Go.Proofs.YtocdlibnmlcokaaW.PrintLast
set_option linter.unusedVariables false
set_option linter.unusedSimpArgs false

set_option maxRecDepth 100000 in
set_option maxHeartbeats 8000000 in
theorem fnExactCrash_lx (A0 A1 A2 : Option Addr) (c0 c1 c2_ : Nat) (bs : List (List Int)) (ws : List Wr) (kl : List Bool) (w : World) (hx : rBS.d.C w A0 bs.length bs) (hy : rW.d.C w A1 ws.length ws) (hz : Kd.bool.C w A2 kl.length kl)
    (hl : ¬ kl.length ≤ 1048576) :
    Calls Try.prog 11 #[.agg #[.slice A0 bs.length c0, .slice A1 ws.length c1], .slice A2 kl.length c2_] w (Yes w) := by
  have HX := Aside0.mk hx; have HY := Aside0.mk hy; have HZ := Aside0.mk hz; have hzl : kl.length ≤ 9223372036854775807 := hz.2.1
  clear hx hy hz
  have BA := Aside0.mk (blk_new w (.cells #[.slice A0 bs.length c0, .slice A1 ws.length c1] 78))
  have B := Aside0.mk (below_alloc (Below.refl w.heap.size w) (.cells #[.slice A0 bs.length c0, .slice A1 ws.length c1] 78))
  go_enter Try.func11, Try.ntmps11
  go_upto_region 1 with (fail)
  generalize w.alloc _ = w0 at BA B ⊢
  have hl : ¬ (kl.length : Int) ≤ 1048576 := by omega
  go_wp2_with fail
  go_ret
  exact ⟨rfl, B.out⟩
set_option maxRecDepth 100000 in
set_option maxHeartbeats 8000000 in
theorem fnExactCrash_l (A0 A1 A2 : Option Addr) (c0 c1 c2_ : Nat) (bs : List (List Int)) (ws : List Wr) (kl : List Bool) (w : World) (hx : rBS.d.C w A0 bs.length bs) (hy : rW.d.C w A1 ws.length ws) (hz : Kd.bool.C w A2 kl.length kl)
    (hl : kl.length ≤ 1048576) (hsz : ¬ costD bs ws ≤ 1048576) :
    Calls Try.prog 11 #[.agg #[.slice A0 bs.length c0, .slice A1 ws.length c1], .slice A2 kl.length c2_] w (Yes w) := by
  have HSZ := Aside0.mk (szR_no hsz)
  clear hsz
  have HX := Aside0.mk hx; have HY := Aside0.mk hy; have HZ := Aside0.mk hz; have hzl : kl.length ≤ 9223372036854775807 := hz.2.1
  clear hx hy hz
  have BA := Aside0.mk (blk_new w (.cells #[.slice A0 bs.length c0, .slice A1 ws.length c1] 78))
  have B := Aside0.mk (below_alloc (Below.refl w.heap.size w) (.cells #[.slice A0 bs.length c0, .slice A1 ws.length c1] 78))
  go_enter Try.func11, Try.ntmps11
  go_upto_region 1 with (fail)
  generalize w.alloc _ = w0 at BA B ⊢
  have pa0 := (blk_cell BA.out 0).trans rfl; have pa1 := (blk_cell BA.out 1).trans rfl
  go_wp2_with fail
  have X0 := Aside0.mk (Kd.C_below HX.out B.out); have Y0 := Aside0.mk (Kd.C_below HY.out B.out)
  refine (szDisk_c _ _ _ _ bs ws 1048576 _ X0.out Y0.out (by omega) (by omega)).mono ?_
  rintro e wx1 ⟨rfl, hb⟩
  rw [HSZ.out]
  clear X0 Y0 pa0 pa1
  replace BA := Aside0.mk (blk_below BA.out hb)
  replace B := Aside0.mk (below_then B.out B.out.size hb)
  clear hb
  go_wp2_with fail
  go_ret
  exact ⟨rfl, B.out⟩
set_option maxRecDepth 100000 in
set_option maxHeartbeats 8000000 in
theorem fnExactCrash_w (A0 A1 A2 : Option Addr) (c0 c1 c2_ : Nat) (bs bs' : List (List Int)) (ws ws' : List Wr) (kl : List Bool) (w : World) (hx : rBS.d.C w A0 bs.length bs) (hy : rW.d.C w A1 ws.length ws) (hz : Kd.bool.C w A2 kl.length kl)
    (hl : kl.length ≤ 1048576) (hsz : costD bs ws ≤ 1048576) (hm : Small bs ws) (hcx : cnD bs ws ≤ 100000000) (hcn : cnD bs' ws' ≤ 100000000)
    (hs : ∀ (A0 A1 A2 : Option Addr) (c0 c1 c2_ : Nat) (w : World), rBS.d.C w A0 bs.length bs → rW.d.C w A1 ws.length ws → Kd.bool.C w A2 kl.length kl → Calls Try.prog 64 #[.agg #[.slice A0 bs.length c0, .slice A1 ws.length c1], .slice A2 kl.length c2_] w (GotDisk w bs' ws'))
    (hi : ∀ (A0 A1 A2 : Option Addr) (c0 c1 c2_ : Nat) (w : World), rBS.d.C w A0 bs.length bs → rW.d.C w A1 ws.length ws → Kd.bool.C w A2 kl.length kl → Calls Try.prog 66 #[.agg #[.slice A0 bs.length c0, .slice A1 ws.length c1], .slice A2 kl.length c2_] w (GotDisk w bs' ws')) :
    Calls Try.prog 11 #[.agg #[.slice A0 bs.length c0, .slice A1 ws.length c1], .slice A2 kl.length c2_] w (Yes w) := by
  have hn0 : 0 ≤ cnD bs ws := cnD_nonneg bs ws
  have hn1 : 0 ≤ cnD bs' ws' := cnD_nonneg bs' ws'
  have hpos : 0 ≤ 1048576 - costD bs ws := by omega
  have HSZ := Aside0.mk (szR_yes hsz)
  have HM := Aside0.mk hm; have HS := Aside0.mk hs; have HI := Aside0.mk hi
  clear hm hs hi hsz
  have HL2 : Aside0 (kl.length ≤ 10000000) := ⟨by omega⟩
  have HX := Aside0.mk hx; have HY := Aside0.mk hy; have HZ := Aside0.mk hz; have hzl : kl.length ≤ 9223372036854775807 := hz.2.1
  clear hx hy hz
  have BA := Aside0.mk (blk_new w (.cells #[.slice A0 bs.length c0, .slice A1 ws.length c1] 78))
  have B := Aside0.mk (below_alloc (Below.refl w.heap.size w) (.cells #[.slice A0 bs.length c0, .slice A1 ws.length c1] 78))
  go_enter Try.func11, Try.ntmps11
  go_upto_region 1 with (fail)
  generalize w.alloc _ = w0 at BA B ⊢
  have pa0 := (blk_cell BA.out 0).trans rfl; have pa1 := (blk_cell BA.out 1).trans rfl
  go_wp2_with fail
  have X0 := Aside0.mk (Kd.C_below HX.out B.out); have Y0 := Aside0.mk (Kd.C_below HY.out B.out)
  refine (szDisk_c _ _ _ _ bs ws 1048576 _ X0.out Y0.out (by omega) (by omega)).mono ?_
  rintro e wx2 ⟨rfl, hb⟩
  rw [HSZ.out]
  clear X0 Y0 pa0 pa1
  replace BA := Aside0.mk (blk_below BA.out hb)
  replace B := Aside0.mk (below_then B.out B.out.size hb)
  clear hb
  have pa0 := (blk_cell BA.out 0).trans rfl; have pa1 := (blk_cell BA.out 1).trans rfl
  go_wp2_with fail
  refine (toDisk_c _ _ _ _ bs ws _ (Kd.C_below HX.out B.out) (Kd.C_below HY.out B.out) HM.out.1 HM.out.2.1 HM.out.2.2.1 HM.out.2.2.2).mono ?_
  rintro e wx3 ⟨v0, v1, f0, f1, rfl, h0, h1, hn, hl, hb⟩
  obtain ⟨TA, Tc, rfl, _, _⟩ := Rp.Row_reads h0
  obtain ⟨TB, Td, rfl, _, _⟩ := Rp.Row_reads h1
  have T0 := Aside0.mk (Rp.Row_C h0).2.2; have T1 := Aside0.mk (Rp.Row_C h1).2.2
  replace BA := Aside0.mk (blk_below BA.out hb)
  replace B := Aside0.mk (below_then B.out B.out.size hb)
  clear h0 h1 hn hl hb pa0 pa1
  go_wp2_with fail
  refine (toBoolS_c _ _ kl _ (Kd.C_below HZ.out B.out) HL2.out).mono ?_
  rintro e wx4 ⟨v, rfl, hg, hb⟩
  obtain ⟨fp, hr, hn, hx⟩ := hg
  obtain ⟨ZA, Zc, rfl, _, _⟩ := Rp.Row_reads hr
  have T2 := Aside0.mk (Rp.Row_C hr).2.2; replace T0 := Aside0.mk (Kd.C_below T0.out hb); replace T1 := Aside0.mk (Kd.C_below T1.out hb)
  clear hr hn hx
  replace BA := Aside0.mk (blk_below BA.out hb)
  replace B := Aside0.mk (below_then B.out B.out.size hb)
  clear hb
  go_wp2_with fail
  refine (HS.out _ _ _ _ _ _ _ T0.out T1.out T2.out).mono ?_
  rintro e wx5 ⟨v0, v1, f0, f1, rfl, h0, h1, hn, hl, hb⟩
  obtain ⟨TA, Tc, rfl, _, _⟩ := Rp.Row_reads h0
  obtain ⟨TB, Td, rfl, _, _⟩ := Rp.Row_reads h1
  clear T0 T1 T2
  have H0 := Aside0.mk h0; have H1 := Aside0.mk h1; have HN := Aside0.mk hn; have HL := Aside0.mk hl; have HB := Aside0.mk hb; clear h0 h1 hn hl hb
  go_upto_region 8 with (fail)
  generalize hw : wx5.alloc _ = wn6
  obtain ⟨o, bl, _, _⟩ := obD_new H0.out H1.out HN.out HL.out HB.out hw
  clear hw H0 H1 HN HL HB
  have ltW_A : w.heap.size < wx4.heap.size := blk_lt BA.out
  replace BA := Aside0.mk (blk_below BA.out bl)
  replace B := Aside0.mk (below_then B.out B.out.size bl)
  generalize wx4.heap.size = loW at o ltW_A
  generalize wx5.heap.size = bW at o ⊢
  have bW_ := o.blt.2.2
  have OW := Aside0.mk o
  clear o bl
  have pa0 := (blk_cell BA.out 0).trans rfl; have pa1 := (blk_cell BA.out 1).trans rfl
  go_wp2_with fail
  refine (toDisk_c _ _ _ _ bs ws _ (Kd.C_below HX.out B.out) (Kd.C_below HY.out B.out) HM.out.1 HM.out.2.1 HM.out.2.2.1 HM.out.2.2.2).mono ?_
  rintro e wx7 ⟨v0, v1, f0, f1, rfl, h0, h1, hn, hl, hb⟩
  obtain ⟨TA, Tc, rfl, _, _⟩ := Rp.Row_reads h0
  obtain ⟨TB, Td, rfl, _, _⟩ := Rp.Row_reads h1
  clear pa0 pa1
  have H0 := Aside0.mk h0; have H1 := Aside0.mk h1; have HN := Aside0.mk hn; have HL := Aside0.mk hl; have HB := Aside0.mk hb; clear h0 h1 hn hl hb
  go_upto_region 9 with (fail)
  generalize hw : wx7.alloc _ = wn8
  obtain ⟨o, bl, _, _⟩ := obD_new H0.out H1.out HN.out HL.out HB.out hw
  clear hw H0 H1 HN HL HB
  have ltX_A : w.heap.size < wn6.heap.size := blk_lt BA.out
  have ltX_W := OW.out.blt.1
  replace OW := Aside0.mk (OW.out.below bl)
  replace BA := Aside0.mk (blk_below BA.out bl)
  replace B := Aside0.mk (below_then B.out B.out.size bl)
  generalize wn6.heap.size = loX at o ltX_A ltX_W
  generalize wx7.heap.size = bX at o ⊢
  have bX_ := o.blt.2.2
  have OX := Aside0.mk o
  clear o bl
  go_wp2_with fail
  refine (toBoolS_c _ _ kl _ (Kd.C_below HZ.out B.out) HL2.out).mono ?_
  rintro e wx9 ⟨v, rfl, hg, hb⟩
  obtain ⟨fp, hr, hn, hx⟩ := hg
  obtain ⟨YA, Yc, rfl, _, _⟩ := Rp.Row_reads hr
  have o := obQ_new hr hn hx hb
  clear hr hn hx
  have ltY_A : w.heap.size < wn8.heap.size := blk_lt BA.out
  have ltY_W := OW.out.blt.1
  have ltY_X := OX.out.blt.1
  replace OW := Aside0.mk (OW.out.below hb)
  replace OX := Aside0.mk (OX.out.below hb)
  replace BA := Aside0.mk (blk_below BA.out hb)
  replace B := Aside0.mk (below_then B.out B.out.size hb)
  generalize wn8.heap.size = loY at o ltY_A ltY_W ltY_X
  obtain ⟨hiY, hEY⟩ : ∃ k, k = wx9.heap.size := ⟨_, rfl⟩
  rw [← hEY] at o
  clear hEY
  have bY_ := o.lh
  have OY := Aside0.mk o
  clear o hb
  go_upto_region 10 with (fail)
  obtain ⟨XA, Xc, XB, Xd, Xf, Xg, Xk, Xr, Xq, Xn, Xx, Xh, Xl⟩ := OX.out
  have Xp0 := (blk_cell Xk 0).trans rfl; have Xp1 := (blk_cell Xk 1).trans rfl
  have XR := Aside0.mk Xr; have XQ := Aside0.mk Xq; have XK := Aside0.mk Xk; have XN := Aside0.mk Xn; have XX := Aside0.mk Xx; have XH := Aside0.mk (And.intro Xh Xl)
  clear Xk Xr Xq Xn Xx Xh Xl
  go_wp2_with fail
  refine (HI.out _ _ _ _ _ _ _ (Rp.Row_C XR.out).2.2 (Rp.Row_C XQ.out).2.2 OY.out.C).mono ?_
  rintro e wx10 ⟨v0, v1, f0, f1, rfl, h0, h1, hn, hl, hb⟩
  obtain ⟨TA, Tc, rfl, _, _⟩ := Rp.Row_reads h0
  obtain ⟨TB, Td, rfl, _, _⟩ := Rp.Row_reads h1
  clear Xp0 Xp1 XR XQ XK XN XX XH
  have H0 := Aside0.mk h0; have H1 := Aside0.mk h1; have HN := Aside0.mk hn; have HL := Aside0.mk hl; have HB := Aside0.mk hb; clear h0 h1 hn hl hb
  go_upto_region 11 with (fail)
  generalize hw : wx10.alloc _ = wn11
  obtain ⟨o, bl, _, _⟩ := obD_new H0.out H1.out HN.out HL.out HB.out hw
  clear hw H0 H1 HN HL HB
  have ltG_A : w.heap.size < wx9.heap.size := blk_lt BA.out
  have ltG_W := OW.out.blt.1
  have ltG_X := OX.out.blt.1
  have ltG_Y := OY.out.hw
  replace OW := Aside0.mk (OW.out.below bl)
  replace OX := Aside0.mk (OX.out.below bl)
  replace OY := Aside0.mk (OY.out.below bl)
  replace BA := Aside0.mk (blk_below BA.out bl)
  replace B := Aside0.mk (below_then B.out B.out.size bl)
  generalize wx9.heap.size = loG at o ltG_A ltG_W ltG_X ltG_Y
  generalize wx10.heap.size = bG at o ⊢
  have bG_ := o.blt.2.2
  have OG := Aside0.mk o
  clear o bl
  obtain ⟨GA, Gc, GB, Gd, Gf, Gg, Gk, Gr, Gq, Gn, Gx, Gh, Gl⟩ := OG.out
  have Gp0 := (blk_cell Gk 0).trans rfl; have Gp1 := (blk_cell Gk 1).trans rfl
  have GR := Aside0.mk Gr; have GQ := Aside0.mk Gq; have GK := Aside0.mk Gk; have GN := Aside0.mk Gn; have GX := Aside0.mk Gx; have GH := Aside0.mk (And.intro Gh Gl)
  clear Gk Gr Gq Gn Gx Gh Gl
  obtain ⟨WA, Wc, WB, Wd, Wf, Wg, Wk, Wr, Wq, Wn, Wx, Wh, Wl⟩ := OW.out
  have Wp0 := (blk_cell Wk 0).trans rfl; have Wp1 := (blk_cell Wk 1).trans rfl
  have WR := Aside0.mk Wr; have WQ := Aside0.mk Wq; have WK := Aside0.mk Wk; have WN := Aside0.mk Wn; have WX := Aside0.mk Wx; have WH := Aside0.mk (And.intro Wh Wl)
  clear Wk Wr Wq Wn Wx Wh Wl
  go_wp2_with fail
  refine (eqDisk_t _ _ _ _ _ _ _ _ bs' ws' _ (Rp.Row_C GR.out).2.2 (Rp.Row_C GQ.out).2.2 (Rp.Row_C WR.out).2.2 (Rp.Row_C WQ.out).2.2).mono ?_
  rintro e wx12 ⟨rfl, hb⟩
  replace OW := Aside0.mk (OW.out.below hb)
  replace OX := Aside0.mk (OX.out.below hb)
  replace OY := Aside0.mk (OY.out.below hb)
  replace OG := Aside0.mk (OG.out.below hb)
  replace BA := Aside0.mk (blk_below BA.out hb)
  replace B := Aside0.mk (below_then B.out B.out.size hb)
  clear hb
  clear Gp0 Gp1 GR GQ GK GN GX GH
  clear Wp0 Wp1 WR WQ WK WN WX WH
  go_upto_region 13 with (fail)
  obtain ⟨XA, Xc, XB, Xd, Xf, Xg, Xk, Xr, Xq, Xn, Xx, Xh, Xl⟩ := OX.out
  have Xp0 := (blk_cell Xk 0).trans rfl; have Xp1 := (blk_cell Xk 1).trans rfl
  have XR := Aside0.mk Xr; have XQ := Aside0.mk Xq; have XK := Aside0.mk Xk; have XN := Aside0.mk Xn; have XX := Aside0.mk Xx; have XH := Aside0.mk (And.intro Xh Xl)
  clear Xk Xr Xq Xn Xx Xh Xl
  have pa0 := (blk_cell BA.out 0).trans rfl; have pa1 := (blk_cell BA.out 1).trans rfl
  refine sta (fun w' => (w'.cell? ⟨bX, 0, none⟩ = some (.slice XA bs.length Xc) ∧ w'.cell? ⟨bX, 1, none⟩ = some (.slice XB ws.length Xd)) ∧ (w'.cell? ⟨w.heap.size, 0, none⟩ = some (.slice A0 bs.length c0) ∧ w'.cell? ⟨w.heap.size, 1, none⟩ = some (.slice A1 ws.length c1))) [] 5 ⟨⟨Xp0, Xp1⟩, ⟨pa0, pa1⟩⟩ (fun hS => ?_)
  have hd0 := below_drew (Below.refl wx12.heap.size wx12)
  replace OW := Aside0.mk (OW.out.below hd0)
  replace OX := Aside0.mk (OX.out.below hd0)
  replace OY := Aside0.mk (OY.out.below hd0)
  replace OG := Aside0.mk (OG.out.below hd0)
  replace BA := Aside0.mk (blk_below BA.out hd0)
  replace B := Aside0.mk (below_then B.out B.out.size hd0)
  have XR2 := Aside0.mk (Rp.Row_below XR.out hd0); have XQ2 := Aside0.mk (Rp.Row_below XQ.out hd0)
  clear hd0
  clear Xp0 Xp1 XR XQ XK XN XX XH
  clear pa0 pa1
  generalize wx12.drew = wd13 at OW OX OY OG BA B XR2 XQ2 hS ⊢
  refine tk 0 1 hS ?_
  refine tk 1 3 hS ?_
  refine on 2 7 (fun K hK => ?_)
  refine ca (toDisk_c _ _ _ _ bs ws _ (Kd.C_below HX.out B.out) (Kd.C_below HY.out B.out) HM.out.1 HM.out.2.1 HM.out.2.2.1 HM.out.2.2.2) Try.func52 ?_
  rintro e wx14 ⟨v0, v1, f0, f1, rfl, h0, h1, hn, hl, hb⟩
  obtain ⟨TA, Tc, rfl, _, _⟩ := Rp.Row_reads h0
  obtain ⟨TB, Td, rfl, _, _⟩ := Rp.Row_reads h1
  refine ⟨_, rfl, nx hK ⟨⟨pw_cell_below hb hS.1.1, pw_cell_below hb hS.1.2⟩, ⟨pw_cell_below hb hS.2.1, pw_cell_below hb hS.2.2⟩⟩ (fun hS => ?_)⟩
  clear hK K
  replace OW := Aside0.mk (OW.out.below hb)
  replace OX := Aside0.mk (OX.out.below hb)
  replace OY := Aside0.mk (OY.out.below hb)
  replace OG := Aside0.mk (OG.out.below hb)
  replace BA := Aside0.mk (blk_below BA.out hb)
  replace B := Aside0.mk (below_then B.out B.out.size hb)
  have XR3 := (Rp.Row_C (Rp.Row_below XR2.out hb)).2.2; have XQ3 := (Rp.Row_C (Rp.Row_below XQ2.out hb)).2.2
  clear hb XR2 XQ2
  refine on 3 15 (fun K hK => ?_)
  refine ca (eqDisk_t _ _ _ _ _ _ _ _ bs ws _ XR3 XQ3 (Rp.Row_C h0).2.2 (Rp.Row_C h1).2.2) Try.func28 ?_
  rintro e wx15 ⟨rfl, hb⟩
  refine ⟨_, rfl, nx hK ⟨⟨pw_cell_below hb hS.1.1, pw_cell_below hb hS.1.2⟩, ⟨pw_cell_below hb hS.2.1, pw_cell_below hb hS.2.2⟩⟩ (fun hS => ?_)⟩
  clear hK K h0 h1 hn hl XR3 XQ3
  replace OW := Aside0.mk (OW.out.below hb)
  replace OX := Aside0.mk (OX.out.below hb)
  replace OY := Aside0.mk (OY.out.below hb)
  replace OG := Aside0.mk (OG.out.below hb)
  replace BA := Aside0.mk (blk_below BA.out hb)
  replace B := Aside0.mk (below_then B.out B.out.size hb)
  clear hb
  refine pu 4 31 ?_
  refine dn ?_
  clear hS
  go_upto_region 15 with (fail)
  go_wp2_with fail
  refine (toBoolS_c _ _ kl _ (Kd.C_below HZ.out B.out) HL2.out).mono ?_
  rintro e wx16 ⟨v, rfl, hg, hb⟩
  obtain ⟨fp, hr, hn, hx⟩ := hg
  obtain ⟨ZA, Zc, rfl, _, _⟩ := Rp.Row_reads hr
  have T2 := Aside0.mk (Rp.Row_C hr).2.2
  clear hr hn hx
  replace OW := Aside0.mk (OW.out.below hb)
  replace OX := Aside0.mk (OX.out.below hb)
  replace OY := Aside0.mk (OY.out.below hb)
  replace OG := Aside0.mk (OG.out.below hb)
  replace BA := Aside0.mk (blk_below BA.out hb)
  replace B := Aside0.mk (below_then B.out B.out.size hb)
  clear hb
  go_wp2_with fail
  refine (eqBoolS_t _ _ _ _ kl _ OY.out.C T2.out).mono ?_
  rintro e wx17 ⟨rfl, hb⟩
  replace OW := Aside0.mk (OW.out.below hb)
  replace OX := Aside0.mk (OX.out.below hb)
  replace OY := Aside0.mk (OY.out.below hb)
  replace OG := Aside0.mk (OG.out.below hb)
  replace BA := Aside0.mk (blk_below BA.out hb)
  replace B := Aside0.mk (below_then B.out B.out.size hb)
  clear hb
  clear T2
  go_upto_region 18 with (fail)
  obtain ⟨XA, Xc, XB, Xd, Xf, Xg, Xk, Xr, Xq, Xn, Xx, Xh, Xl⟩ := OX.out
  have Xp0 := (blk_cell Xk 0).trans rfl; have Xp1 := (blk_cell Xk 1).trans rfl
  have XR := Aside0.mk Xr; have XQ := Aside0.mk Xq; have XK := Aside0.mk Xk; have XN := Aside0.mk Xn; have XX := Aside0.mk Xx; have XH := Aside0.mk (And.intro Xh Xl)
  clear Xk Xr Xq Xn Xx Xh Xl
  go_wp2_with fail
  refine (markDisk_c _ _ bs ws Xf Xg 1 _ XR.out XQ.out XN.out (by omega) (by omega)).mono ?_
  rintro e wx18 ⟨rfl, m0, m1, km⟩
  generalize hb2 : markL mkBS cnB 1 bs = bx at m0
  generalize hw2 : markL mkW cnW (1 + cntL cnB bs) ws = wx at m1
  replace OW := Aside0.mk (OW.out.kpR km XX.out (by omega))
  replace OY := Aside0.mk (OY.out.kpR km XX.out (by omega))
  replace OG := Aside0.mk (OG.out.kpR km XX.out (by omega))
  replace BA := Aside0.mk (km.blk BA.out (fun hm => by have := XX.out _ hm; omega))
  replace B := Aside0.mk (km.toBelow B.out B.out.size (fun x hx => by have := XX.out x hx; omega))
  replace OX := Aside0.mk (obD_marked XK.out m0 m1 XN.out XX.out XH.out.1 XH.out.2 km)
  clear m0 m1 km hb2 hw2
  clear Xp0 Xp1 XR XQ XK XN XX XH
  go_upto_region 19 with (fail)
  obtain ⟨Yf, Yr, Yn, Yx⟩ := OY.out.o
  have YR := Aside0.mk Yr; have YN := Aside0.mk Yn; have YX := Aside0.mk Yx
  clear Yr Yn Yx
  go_wp2_with fail
  refine (markBoolS_c _ kl Yf (1 + cnD bs ws) _ YR.out YN.out (by omega) (by omega)).mono ?_
  rintro e wx19 ⟨rfl, m0, km⟩
  generalize hb2 : markL mkO cn1 (1 + cnD bs ws) kl = yx at m0
  replace OW := Aside0.mk (OW.out.kpR km YX.out (by omega))
  replace OX := Aside0.mk (OX.out.kpR km YX.out (by omega))
  replace OG := Aside0.mk (OG.out.kpR km YX.out (by omega))
  replace BA := Aside0.mk (km.blk BA.out (fun hm => by have := YX.out _ hm; omega))
  replace B := Aside0.mk (km.toBelow B.out B.out.size (fun x hx => by have := YX.out x hx; omega))
  replace OY := Aside0.mk (OY.out.marked m0 YN.out YX.out km)
  clear m0 km hb2 YR YN YX
  obtain ⟨GA, Gc, GB, Gd, Gf, Gg, Gk, Gr, Gq, Gn, Gx, Gh, Gl⟩ := OG.out
  have Gp0 := (blk_cell Gk 0).trans rfl; have Gp1 := (blk_cell Gk 1).trans rfl
  have GR := Aside0.mk Gr; have GQ := Aside0.mk Gq; have GK := Aside0.mk Gk; have GN := Aside0.mk Gn; have GX := Aside0.mk Gx; have GH := Aside0.mk (And.intro Gh Gl)
  clear Gk Gr Gq Gn Gx Gh Gl
  obtain ⟨WA, Wc, WB, Wd, Wf, Wg, Wk, Wr, Wq, Wn, Wx, Wh, Wl⟩ := OW.out
  have Wp0 := (blk_cell Wk 0).trans rfl; have Wp1 := (blk_cell Wk 1).trans rfl
  have WR := Aside0.mk Wr; have WQ := Aside0.mk Wq; have WK := Aside0.mk Wk; have WN := Aside0.mk Wn; have WX := Aside0.mk Wx; have WH := Aside0.mk (And.intro Wh Wl)
  clear Wk Wr Wq Wn Wx Wh Wl
  go_wp2_with fail
  refine (eqDisk_t _ _ _ _ _ _ _ _ bs' ws' _ (Rp.Row_C GR.out).2.2 (Rp.Row_C GQ.out).2.2 (Rp.Row_C WR.out).2.2 (Rp.Row_C WQ.out).2.2).mono ?_
  rintro e wx20 ⟨rfl, hb⟩
  replace OW := Aside0.mk (OW.out.below hb)
  replace OX := Aside0.mk (OX.out.below hb)
  replace OY := Aside0.mk (OY.out.below hb)
  replace OG := Aside0.mk (OG.out.below hb)
  replace BA := Aside0.mk (blk_below BA.out hb)
  replace B := Aside0.mk (below_then B.out B.out.size hb)
  clear hb
  clear Gp0 Gp1 GR GQ GK GN GX GH
  clear Wp0 Wp1 WR WQ WK WN WX WH
  go_upto_region 23 with (fail)
  obtain ⟨GA, Gc, GB, Gd, Gf, Gg, Gk, Gr, Gq, Gn, Gx, Gh, Gl⟩ := OG.out
  have Gp0 := (blk_cell Gk 0).trans rfl; have Gp1 := (blk_cell Gk 1).trans rfl
  have GR := Aside0.mk Gr; have GQ := Aside0.mk Gq; have GK := Aside0.mk Gk; have GN := Aside0.mk Gn; have GX := Aside0.mk Gx; have GH := Aside0.mk (And.intro Gh Gl)
  clear Gk Gr Gq Gn Gx Gh Gl
  go_wp2_with fail
  refine (markDisk_c _ _ bs' ws' Gf Gg 1 _ GR.out GQ.out GN.out (by omega) (by omega)).mono ?_
  rintro e wx21 ⟨rfl, m0, m1, km⟩
  generalize hb2 : markL mkBS cnB 1 bs' = bg at m0
  generalize hw2 : markL mkW cnW (1 + cntL cnB bs') ws' = wg at m1
  replace OW := Aside0.mk (OW.out.kpR km GX.out (by omega))
  replace OX := Aside0.mk (OX.out.kpR km GX.out (by omega))
  replace OY := Aside0.mk (OY.out.kpR km GX.out (by omega))
  replace BA := Aside0.mk (km.blk BA.out (fun hm => by have := GX.out _ hm; omega))
  replace B := Aside0.mk (km.toBelow B.out B.out.size (fun x hx => by have := GX.out x hx; omega))
  replace OG := Aside0.mk (obD_marked GK.out m0 m1 GN.out GX.out GH.out.1 GH.out.2 km)
  have E0 : Aside0 (bs'.length = bg.length) := ⟨by rw [← hb2, markL_len]⟩
  have E1 : Aside0 (ws'.length = wg.length) := ⟨by rw [← hw2, markL_len]⟩
  have HB2 := Aside0.mk hb2; have HW2 := Aside0.mk hw2
  clear m0 m1 km hb2 hw2
  clear Gp0 Gp1 GR GQ GK GN GX GH
  obtain ⟨GA, Gc, GB, Gd, Gf, Gg, Gk, Gr, Gq, Gn, Gx, Gh, Gl⟩ := OG.out
  have Gp0 := (blk_cell Gk 0).trans rfl; have Gp1 := (blk_cell Gk 1).trans rfl
  have GR := Aside0.mk Gr; have GQ := Aside0.mk Gq; have GK := Aside0.mk Gk; have GN := Aside0.mk Gn; have GX := Aside0.mk Gx; have GH := Aside0.mk (And.intro Gh Gl)
  clear Gk Gr Gq Gn Gx Gh Gl
  go_wp2_with fail
  refine (heldDisk_c _ _ _ _ bs' ws' 1 _ _ _ E0.out E1.out (by rw [HB2.out]; exact (Rp.Row_C GR.out).2.2) (by rw [HW2.out]; exact (Rp.Row_C GQ.out).2.2) (by omega) (by omega)).mono ?_
  rintro e wx22 ⟨rfl, hb⟩
  replace OW := Aside0.mk (OW.out.below hb)
  replace OX := Aside0.mk (OX.out.below hb)
  replace OY := Aside0.mk (OY.out.below hb)
  replace OG := Aside0.mk (OG.out.below hb)
  replace BA := Aside0.mk (blk_below BA.out hb)
  replace B := Aside0.mk (below_then B.out B.out.size hb)
  clear hb
  clear Gp0 Gp1 GR GQ GK GN GX GH
  go_upto_region 30 with (fail)
  have pa0 := (blk_cell BA.out 0).trans rfl; have pa1 := (blk_cell BA.out 1).trans rfl
  go_wp2_with fail
  refine (toDisk_c _ _ _ _ bs ws _ (Kd.C_below HX.out B.out) (Kd.C_below HY.out B.out) HM.out.1 HM.out.2.1 HM.out.2.2.1 HM.out.2.2.2).mono ?_
  rintro e wx23 ⟨v0, v1, f0, f1, rfl, h0, h1, hn, hl, hb⟩
  obtain ⟨TA, Tc, rfl, _, _⟩ := Rp.Row_reads h0
  obtain ⟨TB, Td, rfl, _, _⟩ := Rp.Row_reads h1
  have T0 := Aside0.mk (Rp.Row_C h0).2.2; have T1 := Aside0.mk (Rp.Row_C h1).2.2
  replace OW := Aside0.mk (OW.out.below hb)
  replace OX := Aside0.mk (OX.out.below hb)
  replace OY := Aside0.mk (OY.out.below hb)
  replace OG := Aside0.mk (OG.out.below hb)
  replace BA := Aside0.mk (blk_below BA.out hb)
  replace B := Aside0.mk (below_then B.out B.out.size hb)
  clear h0 h1 hn hl hb pa0 pa1
  go_wp2_with fail
  refine (toBoolS_c _ _ kl _ (Kd.C_below HZ.out B.out) HL2.out).mono ?_
  rintro e wx24 ⟨v, rfl, hg, hb⟩
  obtain ⟨fp, hr, hn, hx⟩ := hg
  obtain ⟨ZA, Zc, rfl, _, _⟩ := Rp.Row_reads hr
  have T2 := Aside0.mk (Rp.Row_C hr).2.2; replace T0 := Aside0.mk (Kd.C_below T0.out hb); replace T1 := Aside0.mk (Kd.C_below T1.out hb)
  clear hr hn hx
  replace OW := Aside0.mk (OW.out.below hb)
  replace OX := Aside0.mk (OX.out.below hb)
  replace OY := Aside0.mk (OY.out.below hb)
  replace OG := Aside0.mk (OG.out.below hb)
  replace BA := Aside0.mk (blk_below BA.out hb)
  replace B := Aside0.mk (below_then B.out B.out.size hb)
  clear hb
  go_wp2_with fail
  refine (HI.out _ _ _ _ _ _ _ T0.out T1.out T2.out).mono ?_
  rintro e wx25 ⟨v0, v1, f0, f1, rfl, h0, h1, hn, hl, hb⟩
  obtain ⟨TA, Tc, rfl, _, _⟩ := Rp.Row_reads h0
  obtain ⟨TB, Td, rfl, _, _⟩ := Rp.Row_reads h1
  clear T0 T1 T2
  have H0 := Aside0.mk h0; have H1 := Aside0.mk h1; have HN := Aside0.mk hn; have HL := Aside0.mk hl; have HB := Aside0.mk hb; clear h0 h1 hn hl hb
  go_upto_region 31 with (fail)
  generalize hw : wx25.alloc _ = wn26
  obtain ⟨o, bl, _, _⟩ := obD_new H0.out H1.out HN.out HL.out HB.out hw
  clear hw H0 H1 HN HL HB
  have ltV_A : w.heap.size < wx24.heap.size := blk_lt BA.out
  have ltV_W := OW.out.blt.1
  have ltV_X := OX.out.blt.1
  have ltV_Y := OY.out.hw
  have ltV_G := OG.out.blt.1
  replace OW := Aside0.mk (OW.out.below bl)
  replace OX := Aside0.mk (OX.out.below bl)
  replace OY := Aside0.mk (OY.out.below bl)
  replace OG := Aside0.mk (OG.out.below bl)
  replace BA := Aside0.mk (blk_below BA.out bl)
  replace B := Aside0.mk (below_then B.out B.out.size bl)
  generalize wx24.heap.size = loV at o ltV_A ltV_W ltV_X ltV_Y ltV_G
  generalize wx25.heap.size = bV at o ⊢
  have bV_ := o.blt.2.2
  have OV := Aside0.mk o
  clear o bl
  obtain ⟨VA, Vc, VB, Vd, Vf, Vg, Vk, Vr, Vq, Vn, Vx, Vh, Vl⟩ := OV.out
  have Vp0 := (blk_cell Vk 0).trans rfl; have Vp1 := (blk_cell Vk 1).trans rfl
  have VR := Aside0.mk Vr; have VQ := Aside0.mk Vq; have VK := Aside0.mk Vk; have VN := Aside0.mk Vn; have VX := Aside0.mk Vx; have VH := Aside0.mk (And.intro Vh Vl)
  clear Vk Vr Vq Vn Vx Vh Vl
  obtain ⟨WA, Wc, WB, Wd, Wf, Wg, Wk, Wr, Wq, Wn, Wx, Wh, Wl⟩ := OW.out
  have Wp0 := (blk_cell Wk 0).trans rfl; have Wp1 := (blk_cell Wk 1).trans rfl
  have WR := Aside0.mk Wr; have WQ := Aside0.mk Wq; have WK := Aside0.mk Wk; have WN := Aside0.mk Wn; have WX := Aside0.mk Wx; have WH := Aside0.mk (And.intro Wh Wl)
  clear Wk Wr Wq Wn Wx Wh Wl
  go_wp2_with fail
  refine (eqDisk_t _ _ _ _ _ _ _ _ bs' ws' _ (Rp.Row_C VR.out).2.2 (Rp.Row_C VQ.out).2.2 (Rp.Row_C WR.out).2.2 (Rp.Row_C WQ.out).2.2).mono ?_
  rintro e wx27 ⟨rfl, hb⟩
  replace OW := Aside0.mk (OW.out.below hb)
  replace OX := Aside0.mk (OX.out.below hb)
  replace OY := Aside0.mk (OY.out.below hb)
  replace OG := Aside0.mk (OG.out.below hb)
  replace OV := Aside0.mk (OV.out.below hb)
  replace BA := Aside0.mk (blk_below BA.out hb)
  replace B := Aside0.mk (below_then B.out B.out.size hb)
  clear hb
  clear Vp0 Vp1 VR VQ VK VN VX VH
  clear Wp0 Wp1 WR WQ WK WN WX WH
  obtain ⟨GA, Gc, GB, Gd, Gf, Gg, Gk, Gr, Gq, Gn, Gx, Gh, Gl⟩ := OG.out
  have Gp0 := (blk_cell Gk 0).trans rfl; have Gp1 := (blk_cell Gk 1).trans rfl
  have GR := Aside0.mk Gr; have GQ := Aside0.mk Gq; have GK := Aside0.mk Gk; have GN := Aside0.mk Gn; have GX := Aside0.mk Gx; have GH := Aside0.mk (And.intro Gh Gl)
  clear Gk Gr Gq Gn Gx Gh Gl
  go_wp2_with fail
  refine (heldDisk_c _ _ _ _ bs' ws' 1 _ _ _ E0.out E1.out (by rw [HB2.out]; exact (Rp.Row_C GR.out).2.2) (by rw [HW2.out]; exact (Rp.Row_C GQ.out).2.2) (by omega) (by omega)).mono ?_
  rintro e wx28 ⟨rfl, hb⟩
  replace OW := Aside0.mk (OW.out.below hb)
  replace OX := Aside0.mk (OX.out.below hb)
  replace OY := Aside0.mk (OY.out.below hb)
  replace OG := Aside0.mk (OG.out.below hb)
  replace OV := Aside0.mk (OV.out.below hb)
  replace BA := Aside0.mk (blk_below BA.out hb)
  replace B := Aside0.mk (below_then B.out B.out.size hb)
  clear hb
  clear Gp0 Gp1 GR GQ GK GN GX GH
  go_wp2_with fail
  go_ret
  exact ⟨rfl, B.out⟩
theorem fnExactCrash_c (A0 A1 A2 : Option Addr) (c0 c1 c2_ : Nat) (bs : List (List Int)) (ws : List Wr) (kl : List Bool) (w : World) (hx : rBS.d.C w A0 bs.length bs) (hy : rW.d.C w A1 ws.length ws) (hz : Kd.bool.C w A2 kl.length kl) :
    Calls Try.prog 11 #[.agg #[.slice A0 bs.length c0, .slice A1 ws.length c1], .slice A2 kl.length c2_] w (Yes w) := by
  by_cases hl : kl.length ≤ 1048576
  rotate_left
  · exact fnExactCrash_lx A0 A1 A2 c0 c1 c2_ bs ws kl w hx hy hz hl
  by_cases hsz : costD bs ws ≤ 1048576
  rotate_left
  · exact fnExactCrash_l A0 A1 A2 c0 c1 c2_ bs ws kl w hx hy hz hl hsz
  obtain ⟨hm, hc⟩ := small_of hsz
  by_cases hd : DkOk bs ws
  · exact fnExactCrash_w A0 A1 A2 c0 c1 c2_ bs _ ws [] kl w hx hy hz hl hsz hm hc (cnD_settle _ hd) (fun _ _ _ _ _ _ w h0 h1 h2 => specCrash_yes _ _ _ _ _ _ bs ws kl w h0 h1 h2 hd) (fun _ _ _ _ _ _ w h0 h1 h2 => implCrash_yes _ _ _ _ _ _ bs ws kl w h0 h1 h2 hd)
  · exact fnExactCrash_w A0 A1 A2 c0 c1 c2_ bs [] ws [] kl w hx hy hz hl hsz hm hc cnD_nil (fun _ _ _ _ _ _ w h0 h1 h2 => specCrash_no _ _ _ _ _ _ bs ws kl w h0 h1 hd) (fun _ _ _ _ _ _ w h0 h1 h2 => implCrash_no _ _ _ _ _ _ bs ws kl w h0 h1 hd)
end Go.Proofs.Ytocdlibnmlcokaa
