/- FnExactBlank: the walk. -/
import Derived.Test.YtocdlibnmlcokaaAO
import Derived.Test.YtocdlibnmlcokaaAB
namespace Go.Proofs.Ytocdlibnmlcokaa
open Go.RowKit Go.Proofs.YtocdlibnmlcokaaW.PrintWords Go.Proofs.YtocdlibnmlcokaaW.PrintLast
set_option linter.unusedVariables false
set_option linter.unusedSimpArgs false
set_option maxRecDepth 100000 in
set_option maxHeartbeats 2000000 in
theorem fnExactBlank_w (bs : List (List Int)) (ws : List Wr) (hs : ∀ w, Calls Try.prog 26 #[] w (GotDisk w bs ws)) (hi : ∀ w, Calls Try.prog 27 #[] w (GotDisk w bs ws)) (hcn : cnD bs ws ≤ 1000000) (w : World) : Calls Try.prog 4 #[] w (Yes w) := by
  have hcn0 : 0 ≤ cnD bs ws := by have := cntL_nonneg (cnt := cnB) cnB_nonneg bs; have := cntL_nonneg (cnt := cnW) cnW_nonneg ws; unfold cnD; omega
  have HS := Aside0.mk hs; have HI := Aside0.mk hi; clear hs hi
  go_enter Try.func4, Try.ntmps4
  go_wp2_with fail
  -- w0 := spec.Blank()
  refine (HS.out w).mono ?_
  rintro e wa ⟨v0, v1, f0, f1, rfl, h0, h1, hn, hl, hb⟩
  obtain ⟨A0, c0, rfl, _, _⟩ := Rp.Row_reads h0
  obtain ⟨A1, c1, rfl, _, _⟩ := Rp.Row_reads h1
  have H0 := Aside0.mk h0; have H1 := Aside0.mk h1; have HN := Aside0.mk hn; have HL := Aside0.mk hl; have HB := Aside0.mk hb; clear h0 h1 hn hl hb
  go_wp2_with fail
  generalize hw : wa.alloc _ = w1
  obtain ⟨o1, b1, s1, t1⟩ := obD_new H0.out H1.out HN.out HL.out HB.out hw
  clear hw H0 H1 HN HL HB
  have O1 := Aside0.mk o1; have B1 := Aside0.mk b1; clear o1 b1
  generalize wa.heap.size = q1 at *
  -- g0 := impl.Blank()
  refine (HI.out w1).mono ?_
  rintro e wb ⟨v0, v1, f0, f1, rfl, h0, h1, hn, hl, hb⟩
  obtain ⟨A0, c0, rfl, _, _⟩ := Rp.Row_reads h0
  obtain ⟨A1, c1, rfl, _, _⟩ := Rp.Row_reads h1
  have H0 := Aside0.mk h0; have H1 := Aside0.mk h1; have HN := Aside0.mk hn; have HL := Aside0.mk hl; have HB := Aside0.mk hb; clear h0 h1 hn hl hb
  obtain ⟨C0, d0, C1, d1, f2, f3, k1, r0, r1, _, _, _, _⟩ := (O1.out.below HB.out).below (below_alloc (Below.refl _ wb) (.cells #[.slice A0 bs.length c0, .slice A1 ws.length c1] 43))
  have k2 := blk_new wb (.cells #[.slice A0 bs.length c0, .slice A1 ws.length c1] 43)
  have p0 := (blk_cell k1 0).trans rfl; have p1 := (blk_cell k1 1).trans rfl; have p2 := (blk_cell k2 0).trans rfl; have p3 := (blk_cell k2 1).trans rfl
  go_wp2_with fail
  refine (eqDisk_t _ _ _ _ _ _ _ _ bs ws _ (Rp.Row_C (Rp.Row_alloc H0.out _)).2.2 (Rp.Row_C (Rp.Row_alloc H1.out _)).2.2 (Rp.Row_C r0).2.2 (Rp.Row_C r1).2.2).mono ?_
  rintro e wx ⟨rfl, hbx⟩
  clear k1 k2 p0 p1 p2 p3 r0 r1
  generalize hw : wb.alloc _ = w2 at hbx
  obtain ⟨o2, b2, s2, t2⟩ := obD_new H0.out H1.out HN.out HL.out HB.out hw
  have o1 := ((O1.out.below b2)).below hbx
  have o2 := o2.below hbx
  have b2 := below_then b2 b2.size hbx
  have b1 := below_then B1.out B1.out.size b2
  clear hw H0 H1 HN HL HB O1 B1 hbx
  have O1 := Aside0.mk o1; have O2 := Aside0.mk o2; have B1 := Aside0.mk b1; clear o1 o2 b1 b2
  have S1 := Aside0.mk s1; have S2 := Aside0.mk s2; have T2 := Aside0.mk t2; clear s1 s2 t2
  generalize wb.heap.size = q2 at *
  -- mark g0
  obtain ⟨C0, d0, C1, d1, f2, f3, k2, r0, r1, hn, hr, hqb, hlq⟩ := O2.out
  have p2 := (blk_cell k2 0).trans rfl; have p3 := (blk_cell k2 1).trans rfl
  have K2 := Aside0.mk k2; have R0 := Aside0.mk r0; have R1 := Aside0.mk r1; have HN := Aside0.mk hn; have HR := Aside0.mk hr
  have hq := Aside0.mk (And.intro hqb hlq)
  clear k2 r0 r1 hn hr O2 hqb hlq
  go_wp2_with fail
  refine (markDisk_c _ _ bs ws f2 f3 1 _ R0.out R1.out HN.out (by omega) (by omega)).mono ?_
  rintro e wm ⟨rfl, m0, m1, km⟩
  generalize hb2 : markL mkBS cnB 1 bs = bs2 at m0
  generalize hw2 : markL mkW cnW (1 + cntL cnB bs) ws = ws2 at m1
  have o2 := obD_marked K2.out m0 m1 HN.out HR.out hq.out.1 hq.out.2 km
  have o1 := O1.out.kp km (fun x hx => by have := HR.out x hx; have := S1.out; omega) (by omega)
  have b1 := km.toBelow B1.out B1.out.size (fun x hx => by have := HR.out x hx; have := S1.out; omega)
  have E0 : Aside0 (bs.length = bs2.length) := ⟨by rw [← hb2, markL_len]⟩
  have E1 : Aside0 (ws.length = ws2.length) := ⟨by rw [← hw2, markL_len]⟩
  have HB2 := Aside0.mk hb2; have HW2 := Aside0.mk hw2
  clear K2 R0 R1 HN HR hq O1 B1 m0 m1 km p2 p3 hb2 hw2
  have O1 := Aside0.mk o1; have O2 := Aside0.mk o2; have B1 := Aside0.mk b1; clear o1 o2 b1
  -- held g0
  obtain ⟨C0, d0, C1, d1, f2, f3, k2, r0, r1, _, _, _, _⟩ := O2.out
  have p2 := (blk_cell k2 0).trans rfl; have p3 := (blk_cell k2 1).trans rfl
  have R0 := Aside0.mk (Rp.Row_C r0).2.2; have R1 := Aside0.mk (Rp.Row_C r1).2.2
  clear k2 r0 r1
  go_wp2_with fail
  refine (heldDisk_c _ _ _ _ bs ws 1 _ _ _ E0.out E1.out (by rw [HB2.out]; exact R0.out) (by rw [HW2.out]; exact R1.out) (by omega) (by omega)).mono ?_
  rintro e wh ⟨rfl, hbx⟩
  have o1 := O1.out.below hbx; have o2 := O2.out.below hbx; have b1 := below_then B1.out B1.out.size hbx
  clear R0 R1 O1 O2 B1 p2 p3 hbx
  have O1 := Aside0.mk o1; have O2 := Aside0.mk o2; have B1 := Aside0.mk b1; clear o1 o2 b1
  go_wp2_with fail
  -- h0 := impl.Blank()
  refine (HI.out _).mono ?_
  rintro e wb ⟨v0, v1, f0, f1, rfl, h0, h1, hn, hl, hb⟩
  obtain ⟨A0, c0, rfl, _, _⟩ := Rp.Row_reads h0
  obtain ⟨A1, c1, rfl, _, _⟩ := Rp.Row_reads h1
  have H0 := Aside0.mk h0; have H1 := Aside0.mk h1; have HN := Aside0.mk hn; have HL := Aside0.mk hl; have HB := Aside0.mk hb; clear h0 h1 hn hl hb
  obtain ⟨C0, d0, C1, d1, f2, f3, k1, r0, r1, _, _, _, _⟩ := (O1.out.below HB.out).below (below_alloc (Below.refl _ wb) (.cells #[.slice A0 bs.length c0, .slice A1 ws.length c1] 43))
  have k2 := blk_new wb (.cells #[.slice A0 bs.length c0, .slice A1 ws.length c1] 43)
  have p0 := (blk_cell k1 0).trans rfl; have p1 := (blk_cell k1 1).trans rfl; have p2 := (blk_cell k2 0).trans rfl; have p3 := (blk_cell k2 1).trans rfl
  go_wp2_with fail
  refine (eqDisk_t _ _ _ _ _ _ _ _ bs ws _ (Rp.Row_C (Rp.Row_alloc H0.out _)).2.2 (Rp.Row_C (Rp.Row_alloc H1.out _)).2.2 (Rp.Row_C r0).2.2 (Rp.Row_C r1).2.2).mono ?_
  rintro e wx ⟨rfl, hbx⟩
  clear k1 k2 p0 p1 p2 p3 r0 r1
  have bw := below_then HB.out HB.out.size (below_then (below_alloc (Below.refl _ wb) _) (by simp) hbx)
  have o2 := O2.out.below bw; have b1 := below_then B1.out B1.out.size bw
  clear O1 O2 B1 hbx H0 H1 HN HL HB bw
  have O2 := Aside0.mk o2; have B1 := Aside0.mk b1; clear o2 b1
  -- held g0
  obtain ⟨C0, d0, C1, d1, f2, f3, k2, r0, r1, _, _, _, _⟩ := O2.out
  have p2 := (blk_cell k2 0).trans rfl; have p3 := (blk_cell k2 1).trans rfl
  have R0 := Aside0.mk (Rp.Row_C r0).2.2; have R1 := Aside0.mk (Rp.Row_C r1).2.2
  clear k2 r0 r1
  go_wp2_with fail
  refine (heldDisk_c _ _ _ _ bs ws 1 _ _ _ E0.out E1.out (by rw [HB2.out]; exact R0.out) (by rw [HW2.out]; exact R1.out) (by omega) (by omega)).mono ?_
  rintro e wh ⟨rfl, hbx⟩
  have b1 := below_then B1.out B1.out.size hbx
  clear R0 R1 O2 B1 p2 p3 hbx
  have B1 := Aside0.mk b1; clear b1
  go_wp2_with fail
  go_ret
  exact ⟨rfl, B1.out⟩
theorem fnExactBlank_c (w : World) : Calls Try.prog 4 #[] w (Yes w) :=
  fnExactBlank_w blankB [] specBlank_c implBlank_c (by decide +kernel) w
end Go.Proofs.Ytocdlibnmlcokaa
