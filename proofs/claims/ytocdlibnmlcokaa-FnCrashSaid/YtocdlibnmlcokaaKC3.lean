/- Contracts and words that the laws rest on, part 3: for every world; conditions as each theorem says. -/
import Derived.Test.YtocdlibnmlcokaaKC2
namespace Go.Proofs.Ytocdlibnmlcokaa
open Go.RowKit Go.Proofs.YtocdlibnmlcokaaW.PrintWords Go.Proofs.YtocdlibnmlcokaaW.PrintLast
set_option linter.unusedVariables false
set_option linter.unusedSimpArgs false
set_option maxHeartbeats 8000000 in
set_option maxRecDepth 100000 in
theorem fnCrash_w (A B : Option Addr) (c d : Nat) (xs ys : List Int) (w : World) (hx : kB.C w A xs.length xs) (hy : kB.C w B ys.length ys) (hb : BsOk xs) (hb2 : BsOk ys) :
    Calls Try.prog 14 #[.slice A xs.length c, .slice B ys.length d] w (Yes w) := by
  suffices H : ∀ Q : Ending → World → Prop, (∀ e w', Yes w e w' → Q e w') → Calls Try.prog 14 #[.slice A xs.length c, .slice B ys.length d] w Q from H _ (fun e w' h => h)
  intro Q hQ
  have hl : xs.length ≤ 9223372036854775807 := hx.2.1
  have hl2 : ys.length ≤ 9223372036854775807 := hy.2.1
  have HQ := Aside0.mk hQ; have HX := Aside0.mk hx; have HY := Aside0.mk hy; have HB := Aside0.mk hb; have HB2 := Aside0.mk hb2; clear hx hy hb hb2 hQ
  by_cases hbig : (xs.length : Int) ≤ 1048576
  rotate_left
  · go_enter Try.func14, Try.ntmps14
    go_wp2_with fail
    exact HQ.out _ _ ⟨rfl, Below.refl _ _⟩
  by_cases hbig2 : (ys.length : Int) ≤ 1048576
  rotate_left
  · go_enter Try.func14, Try.ntmps14
    go_wp2_with fail
    exact HQ.out _ _ ⟨rfl, Below.refl _ _⟩
  have HN1 := Aside0.mk (notesOf_ok xs); have HN2 := Aside0.mk (notesOf_ok ys)
  obtain ⟨ns, hns⟩ : ∃ ns, ns = notesOf xs := ⟨_, rfl⟩
  obtain ⟨ms, hms⟩ : ∃ ms, ms = notesOf ys := ⟨_, rfl⟩
  rw [← hns] at HN1
  rw [← hms] at HN2
  have HNS := Aside0.mk hns; have HMS := Aside0.mk hms; clear hns hms
  have O := Aside0.mk (Own.nil w)
  go_enter Try.func14, Try.ntmps14
  go_upto_region 3 with (fail)
  go_wp2_with fail
  refine (notes_c A c xs _ HX.out HB.out).mono ?_
  rw [← HNS.out]
  intro e w1 hg
  obtain ⟨v, rfl, k⟩ := own_row hg
  replace O := Aside0.mk (O.out.app1 k); clear k hg
  obtain ⟨N0, nc0, rfl, hnc0⟩ := O.out.f0
  have HNC := Aside0.mk hnc0; clear hnc0
  go_wp2_with fail
  refine (wWritten_c N0 nc0 ns B d ys _ O.out.c0 (Kd.C_below HY.out O.out.bel) HB2.out HN1.out.1 HN1.out.2).mono ?_
  rintro e w2 ⟨s, S, ws, L, vn, v0, v1, rfl, hst, hws, k⟩
  replace O := Aside0.mk (O.out.app3 k); clear k
  obtain ⟨An, Anc, rfl, _⟩ := O.out.f0
  obtain ⟨A0, A0c, rfl, hc0⟩ := O.out.f1
  obtain ⟨A1, A1c, rfl, _⟩ := O.out.f2
  have HC0 := Aside0.mk hc0; have HST := Aside0.mk hst; clear hc0 hst hws
  have hn11 : ns.length ≤ 11 := HN1.out.2
  have hs : s ≤ ns.length := HST.out.sl
  go_upto_region 5 with (fail)
  generalize hw : w2.alloc _ = w3
  replace O := Aside0.mk (O.out.of hw); clear hw
  generalize w2.heap.size = g6 at O ⊢
  have p0 := (blk_cell O.out.b0 0).trans rfl; have p1 := (blk_cell O.out.b0 1).trans rfl; have p2 := (blk_cell O.out.b0 2).trans rfl; have p3 := (blk_cell O.out.b0 3).trans rfl; have p4 := (blk_cell O.out.b0 4).trans rfl; have p5 := (blk_cell O.out.b0 5).trans rfl; have p6 := (blk_cell O.out.b0 6).trans rfl; have p7 := (blk_cell O.out.b0 7).trans rfl
  go_wp2_with fail
  refine (wNotes_t _ _ _ _ ns _ O.out.c1 O.out.c4).mono ?_
  rintro e w4 ⟨rfl, hb⟩
  replace O := Aside0.mk (O.out.below hb); clear hb p0 p1 p2 p3 p4 p5 p6 p7
  obtain ⟨kl, hkl⟩ : ∃ kl, kl = masksOf ys := ⟨_, rfl⟩
  obtain ⟨S2, hS2⟩ : ∃ S2, S2 = settleL S ws (kfL false kl) := ⟨_, rfl⟩
  have hbl : BlOk S2 := hS2 ▸ settle_bytes _ HST.out.dk HST.out.bk
  obtain ⟨j, hj1, hj2, hst2⟩ := HST.out.crash (kfL false kl) (by omega)
  simp only at hst2
  rw [← hS2] at hst2
  have how : (openL S2 []).ws = [] := openS_ws _
  have hst2' : St (openL S2 []) (ns.take j) j (1 + 1) := hst2
  clear hst2
  have hoi := hst2'.is
  rw [how] at hoi
  obtain ⟨ps, hps⟩ : ∃ ps, ps = ns.take j := ⟨_, rfl⟩
  obtain ⟨L2, hL2⟩ : ∃ L2 : Int, L2 = ((flatF (ns.take j)).length : Nat) := ⟨_, rfl⟩
  obtain ⟨T, hT⟩ : ∃ T, T = (openL S2 []).bs := ⟨_, rfl⟩
  rw [← hL2, ← hps, ← hT] at hoi
  rw [← hps, hoi] at hst2'
  have hg2 : (1 : Int) + 1 = 2 := rfl
  rw [hg2] at hoi hst2'
  have hpsl : ps.length = j := by rw [hps, List.length_take]; omega
  have HKL := Aside0.mk hkl; have HS2 := Aside0.mk hS2; have HOI := Aside0.mk hoi; have HST2 := Aside0.mk hst2'; have HPS := Aside0.mk hps; have HBL := Aside0.mk hbl; have HPL := Aside0.mk hpsl
  clear hkl hS2 hoi hst2' hps hbl how hL2 hT hpsl
  have p0 := (blk_cell O.out.b0 0).trans rfl; have p1 := (blk_cell O.out.b0 1).trans rfl; have p2 := (blk_cell O.out.b0 2).trans rfl; have p3 := (blk_cell O.out.b0 3).trans rfl; have p4 := (blk_cell O.out.b0 4).trans rfl; have p5 := (blk_cell O.out.b0 5).trans rfl; have p6 := (blk_cell O.out.b0 6).trans rfl; have p7 := (blk_cell O.out.b0 7).trans rfl
  rename_i K hK K1_ hK1_ K0_ hK0_
  have HK := Aside0.mk hK; clear hK
  go_wp2
  refine HK.out _ _ ?_
  clear HK K p0 p1 p2 p3 p4 p5 p6 p7
  go_step
  go_cut [8] from 8 (fun v8 wc => ∃ (g8 : Nat) (Bn B0 B1 : Option Addr) (Bnc B0c B1c : Nat), v8 = .pointer (some ⟨g8, 0, none⟩) ∧ Aside0 (T.length ≤ B0c) ∧ Aside0 (Own w wc [Rs.box g6 61 #[.bool true, .bool true, .slice An ns.length Anc, .int .i64 L, .int .i64 1, .int .i64 (s : Nat), .slice A0 S.length A0c, .slice A1 ws.length A1c], Rs.row rN 33 (.slice N0 ns.length nc0) ns, Rs.box g8 61 #[.bool true, .bool true, .slice Bn ps.length Bnc, .int .i64 L2, .int .i64 2, .int .i64 (j : Nat), .slice B0 T.length B0c, .slice B1 0 B1c], Rs.row rN 33 (.slice Bn ps.length Bnc) ps, Rs.row rBS 22 (.slice B0 T.length B0c) T, Rs.row rW 147 (.slice B1 0 B1c) []]))
  case first =>
    have p6' := (blk_cell O.out.b0 6).trans rfl; have p7' := (blk_cell O.out.b0 7).trans rfl
    refine sta (fun w' => w'.cell? ⟨g6, 6, none⟩ = some (.slice A0 S.length A0c) ∧ w'.cell? ⟨g6, 7, none⟩ = some (.slice A1 ws.length A1c)) [7] 8 ⟨p6', p7'⟩ (fun hS => ?_)
    clear p6' p7'
    replace O := Aside0.mk O.out.drew
    generalize w4.drew = w5 at O hS ⊢
    refine pu 0 1 ?_
    refine tk 1 3 hS ?_
    refine pu 2 7 ?_
    refine tw 3 6 15 71 (fun K hK => ?_) (fun K hK => ?_)
    · skip
      refine ca (masks_c B d ys _ (Kd.C_below HY.out O.out.bel) HB2.out) Try.func70 ?_
      rw [← HKL.out]
      intro e w6 hg
      obtain ⟨v, rfl, k⟩ := own_row hg
      replace O := Aside0.mk (O.out.app1 k); clear k hg
      obtain ⟨M0, mc0, rfl, _⟩ := O.out.f0
      refine ⟨_, rfl, nx hK ⟨(blk_cell O.out.b1 6).trans rfl, (blk_cell O.out.b1 7).trans rfl⟩ (fun hS => ?_)⟩
      clear hK K
      refine tw 4 6 31 79 (fun K hK => ?_) (fun K hK => ?_)
      · skip
        refine ca (implCrash_yes A0 A1 M0 A0c A1c mc0 S ws kl _ O.out.c3 O.out.c4 O.out.c0 HST.out.dk) Try.func66 ?_
        intro e w7 hg
        rw [← HS2.out] at hg
        obtain ⟨v0, v1, rfl, k⟩ := own_disk hg
        replace O := Aside0.mk (O.out.app2 k); clear k hg
        obtain ⟨D0, D0c, rfl, hd0⟩ := O.out.f0
        obtain ⟨D1, D1c, rfl, _⟩ := O.out.f1
        refine ⟨_, rfl, nx hK ⟨(blk_cell O.out.b3 6).trans rfl, (blk_cell O.out.b3 7).trans rfl⟩ (fun hS => ?_)⟩
        clear hK K hd0
        refine tw 5 6 63 95 (fun K hK => ?_) (fun K hK => ?_)
        · skip
          have hd := dk_of HBL.out (ws := []) (by simp) (fun x hx => by simp at hx)
          refine ca (implOpen_yes D0 D1 D0c D1c S2 [] _ O.out.c0 O.out.c1 hd.1 hd.2) Try.func37 ?_
          clear hd
          rw [HOI.out]
          rintro e w8 ⟨vn, v0, v1, rfl, k⟩
          simp only at k
          replace O := Aside0.mk (O.out.app3 k); clear k
          obtain ⟨Bn, Bnc, rfl, _⟩ := O.out.f0
          obtain ⟨B0, B0c, rfl, hc0⟩ := O.out.f1
          obtain ⟨B1, B1c, rfl, _⟩ := O.out.f2
          have HD0 := Aside0.mk hc0; clear hc0
          refine ⟨_, rfl, nx hK ⟨(blk_cell O.out.b6 6).trans rfl, (blk_cell O.out.b6 7).trans rfl⟩ (fun hS => ?_)⟩
          clear hK K
          refine on 6 127 (fun K hK => ?_)
          refine va ?_
          generalize hw : World.alloc w8 _ = w9
          replace O := Aside0.mk (O.out.of hw); clear hw
          generalize w8.heap.size = g8 at O ⊢
          refine nx hK ⟨(blk_cell O.out.b7 6).trans rfl, (blk_cell O.out.b7 7).trans rfl⟩ (fun hS => ?_)
          clear hK K
          have u0 := (blk_cell O.out.b0 0).trans rfl; have u1 := (blk_cell O.out.b0 1).trans rfl; have u2 := (blk_cell O.out.b0 2).trans rfl; have u3 := (blk_cell O.out.b0 3).trans rfl; have u4 := (blk_cell O.out.b0 4).trans rfl; have u5 := (blk_cell O.out.b0 5).trans rfl; have u6 := (blk_cell O.out.b0 6).trans rfl; have u7 := (blk_cell O.out.b0 7).trans rfl
          have z0 := blk_frozen O.out.b0 0; have z1 := blk_frozen O.out.b0 1; have z2 := blk_frozen O.out.b0 2; have z3 := blk_frozen O.out.b0 3; have z4 := blk_frozen O.out.b0 4; have z5 := blk_frozen O.out.b0 5; have z6 := blk_frozen O.out.b0 6; have z7 := blk_frozen O.out.b0 7
          refine la 7 255 (fun K hK => ?_)
          refine st ?_
          generalize hw : World.setCell _ _ _ = w10
          replace O := Aside0.mk (O.out.st8 hw); clear hw
          refine nl hK (dn ?_)
          clear hK K hS u0 u1 u2 u3 u4 u5 u6 u7 z0 z1 z2 z3 z4 z5 z6 z7
          replace O := Aside0.mk (Own.only [_, _, _, _, _, _] O.out.p11.p8)
          try go_wp2
          go_meet
          case rel => exact ⟨g8, Bn, B0, B1, Bnc, B0c, B1c, rfl, HD0, O⟩
        · skip
          refine va ?_
          generalize hw : World.alloc w7 _ = w9
          replace O := Aside0.mk (O.out.of hw); clear hw
          generalize w7.heap.size = g8 at O ⊢
          refine nx hK ⟨(blk_cell O.out.b4 6).trans rfl, (blk_cell O.out.b4 7).trans rfl⟩ (fun hS => ?_)
          clear hK K
          refine on 5 127 (fun K hK => ?_)
          have hd := dk_of HBL.out (ws := []) (by simp) (fun x hx => by simp at hx)
          refine ca (implOpen_yes D0 D1 D0c D1c S2 [] _ O.out.c1 O.out.c2 hd.1 hd.2) Try.func37 ?_
          clear hd
          rw [HOI.out]
          rintro e w8 ⟨vn, v0, v1, rfl, k⟩
          simp only at k
          replace O := Aside0.mk (O.out.app3 k); clear k
          obtain ⟨Bn, Bnc, rfl, _⟩ := O.out.f0
          obtain ⟨B0, B0c, rfl, hc0⟩ := O.out.f1
          obtain ⟨B1, B1c, rfl, _⟩ := O.out.f2
          have HD0 := Aside0.mk hc0; clear hc0
          refine ⟨_, rfl, nx hK ⟨(blk_cell O.out.b7 6).trans rfl, (blk_cell O.out.b7 7).trans rfl⟩ (fun hS => ?_)⟩
          clear hK K
          replace O := Aside0.mk O.out.p3
          have u0 := (blk_cell O.out.b0 0).trans rfl; have u1 := (blk_cell O.out.b0 1).trans rfl; have u2 := (blk_cell O.out.b0 2).trans rfl; have u3 := (blk_cell O.out.b0 3).trans rfl; have u4 := (blk_cell O.out.b0 4).trans rfl; have u5 := (blk_cell O.out.b0 5).trans rfl; have u6 := (blk_cell O.out.b0 6).trans rfl; have u7 := (blk_cell O.out.b0 7).trans rfl
          have z0 := blk_frozen O.out.b0 0; have z1 := blk_frozen O.out.b0 1; have z2 := blk_frozen O.out.b0 2; have z3 := blk_frozen O.out.b0 3; have z4 := blk_frozen O.out.b0 4; have z5 := blk_frozen O.out.b0 5; have z6 := blk_frozen O.out.b0 6; have z7 := blk_frozen O.out.b0 7
          refine la 7 255 (fun K hK => ?_)
          refine st ?_
          generalize hw : World.setCell _ _ _ = w10
          replace O := Aside0.mk (O.out.st8 hw); clear hw
          refine nl hK (dn ?_)
          clear hK K hS u0 u1 u2 u3 u4 u5 u6 u7 z0 z1 z2 z3 z4 z5 z6 z7
          replace O := Aside0.mk (Own.only [_, _, _, _, _, _] O.out.p11.p8)
          try go_wp2
          go_meet
          case rel => exact ⟨g8, Bn, B0, B1, Bnc, B0c, B1c, rfl, HD0, O⟩
      · skip
        refine va ?_
        generalize hw : World.alloc w6 _ = w9
        replace O := Aside0.mk (O.out.of hw); clear hw
        generalize w6.heap.size = g8 at O ⊢
        refine nx hK ⟨(blk_cell O.out.b2 6).trans rfl, (blk_cell O.out.b2 7).trans rfl⟩ (fun hS => ?_)
        clear hK K
        refine on 4 95 (fun K hK => ?_)
        refine ca (implCrash_yes A0 A1 M0 A0c A1c mc0 S ws kl _ O.out.c4 O.out.c5 O.out.c1 HST.out.dk) Try.func66 ?_
        intro e w7 hg
        rw [← HS2.out] at hg
        obtain ⟨v0, v1, rfl, k⟩ := own_disk hg
        replace O := Aside0.mk (O.out.app2 k); clear k hg
        obtain ⟨D0, D0c, rfl, hd0⟩ := O.out.f0
        obtain ⟨D1, D1c, rfl, _⟩ := O.out.f1
        refine ⟨_, rfl, nx hK ⟨(blk_cell O.out.b4 6).trans rfl, (blk_cell O.out.b4 7).trans rfl⟩ (fun hS => ?_)⟩
        clear hK K hd0
        refine on 5 127 (fun K hK => ?_)
        have hd := dk_of HBL.out (ws := []) (by simp) (fun x hx => by simp at hx)
        refine ca (implOpen_yes D0 D1 D0c D1c S2 [] _ O.out.c0 O.out.c1 hd.1 hd.2) Try.func37 ?_
        clear hd
        rw [HOI.out]
        rintro e w8 ⟨vn, v0, v1, rfl, k⟩
        simp only at k
        replace O := Aside0.mk (O.out.app3 k); clear k
        obtain ⟨Bn, Bnc, rfl, _⟩ := O.out.f0
        obtain ⟨B0, B0c, rfl, hc0⟩ := O.out.f1
        obtain ⟨B1, B1c, rfl, _⟩ := O.out.f2
        have HD0 := Aside0.mk hc0; clear hc0
        refine ⟨_, rfl, nx hK ⟨(blk_cell O.out.b7 6).trans rfl, (blk_cell O.out.b7 7).trans rfl⟩ (fun hS => ?_)⟩
        clear hK K
        replace O := Aside0.mk O.out.p5
        have u0 := (blk_cell O.out.b0 0).trans rfl; have u1 := (blk_cell O.out.b0 1).trans rfl; have u2 := (blk_cell O.out.b0 2).trans rfl; have u3 := (blk_cell O.out.b0 3).trans rfl; have u4 := (blk_cell O.out.b0 4).trans rfl; have u5 := (blk_cell O.out.b0 5).trans rfl; have u6 := (blk_cell O.out.b0 6).trans rfl; have u7 := (blk_cell O.out.b0 7).trans rfl
        have z0 := blk_frozen O.out.b0 0; have z1 := blk_frozen O.out.b0 1; have z2 := blk_frozen O.out.b0 2; have z3 := blk_frozen O.out.b0 3; have z4 := blk_frozen O.out.b0 4; have z5 := blk_frozen O.out.b0 5; have z6 := blk_frozen O.out.b0 6; have z7 := blk_frozen O.out.b0 7
        refine la 7 255 (fun K hK => ?_)
        refine st ?_
        generalize hw : World.setCell _ _ _ = w10
        replace O := Aside0.mk (O.out.st8 hw); clear hw
        refine nl hK (dn ?_)
        clear hK K hS u0 u1 u2 u3 u4 u5 u6 u7 z0 z1 z2 z3 z4 z5 z6 z7
        replace O := Aside0.mk (Own.only [_, _, _, _, _, _] O.out.p11.p8)
        try go_wp2
        go_meet
        case rel => exact ⟨g8, Bn, B0, B1, Bnc, B0c, B1c, rfl, HD0, O⟩
    · skip
      refine va ?_
      generalize hw : World.alloc w5 _ = w9
      replace O := Aside0.mk (O.out.of hw); clear hw
      generalize w5.heap.size = g8 at O ⊢
      refine nx hK ⟨(blk_cell O.out.b1 6).trans rfl, (blk_cell O.out.b1 7).trans rfl⟩ (fun hS => ?_)
      clear hK K
      refine on 3 79 (fun K hK => ?_)
      refine ca (masks_c B d ys _ (Kd.C_below HY.out O.out.bel) HB2.out) Try.func70 ?_
      rw [← HKL.out]
      intro e w6 hg
      obtain ⟨v, rfl, k⟩ := own_row hg
      replace O := Aside0.mk (O.out.app1 k); clear k hg
      obtain ⟨M0, mc0, rfl, _⟩ := O.out.f0
      refine ⟨_, rfl, nx hK ⟨(blk_cell O.out.b2 6).trans rfl, (blk_cell O.out.b2 7).trans rfl⟩ (fun hS => ?_)⟩
      clear hK K
      refine on 4 95 (fun K hK => ?_)
      refine ca (implCrash_yes A0 A1 M0 A0c A1c mc0 S ws kl _ O.out.c4 O.out.c5 O.out.c0 HST.out.dk) Try.func66 ?_
      intro e w7 hg
      rw [← HS2.out] at hg
      obtain ⟨v0, v1, rfl, k⟩ := own_disk hg
      replace O := Aside0.mk (O.out.app2 k); clear k hg
      obtain ⟨D0, D0c, rfl, hd0⟩ := O.out.f0
      obtain ⟨D1, D1c, rfl, _⟩ := O.out.f1
      refine ⟨_, rfl, nx hK ⟨(blk_cell O.out.b4 6).trans rfl, (blk_cell O.out.b4 7).trans rfl⟩ (fun hS => ?_)⟩
      clear hK K hd0
      refine on 5 127 (fun K hK => ?_)
      have hd := dk_of HBL.out (ws := []) (by simp) (fun x hx => by simp at hx)
      refine ca (implOpen_yes D0 D1 D0c D1c S2 [] _ O.out.c0 O.out.c1 hd.1 hd.2) Try.func37 ?_
      clear hd
      rw [HOI.out]
      rintro e w8 ⟨vn, v0, v1, rfl, k⟩
      simp only at k
      replace O := Aside0.mk (O.out.app3 k); clear k
      obtain ⟨Bn, Bnc, rfl, _⟩ := O.out.f0
      obtain ⟨B0, B0c, rfl, hc0⟩ := O.out.f1
      obtain ⟨B1, B1c, rfl, _⟩ := O.out.f2
      have HD0 := Aside0.mk hc0; clear hc0
      refine ⟨_, rfl, nx hK ⟨(blk_cell O.out.b7 6).trans rfl, (blk_cell O.out.b7 7).trans rfl⟩ (fun hS => ?_)⟩
      clear hK K
      replace O := Aside0.mk O.out.p6
      have u0 := (blk_cell O.out.b0 0).trans rfl; have u1 := (blk_cell O.out.b0 1).trans rfl; have u2 := (blk_cell O.out.b0 2).trans rfl; have u3 := (blk_cell O.out.b0 3).trans rfl; have u4 := (blk_cell O.out.b0 4).trans rfl; have u5 := (blk_cell O.out.b0 5).trans rfl; have u6 := (blk_cell O.out.b0 6).trans rfl; have u7 := (blk_cell O.out.b0 7).trans rfl
      have z0 := blk_frozen O.out.b0 0; have z1 := blk_frozen O.out.b0 1; have z2 := blk_frozen O.out.b0 2; have z3 := blk_frozen O.out.b0 3; have z4 := blk_frozen O.out.b0 4; have z5 := blk_frozen O.out.b0 5; have z6 := blk_frozen O.out.b0 6; have z7 := blk_frozen O.out.b0 7
      refine la 7 255 (fun K hK => ?_)
      refine st ?_
      generalize hw : World.setCell _ _ _ = w10
      replace O := Aside0.mk (O.out.st8 hw); clear hw
      refine nl hK (dn ?_)
      clear hK K hS u0 u1 u2 u3 u4 u5 u6 u7 z0 z1 z2 z3 z4 z5 z6 z7
      replace O := Aside0.mk (Own.only [_, _, _, _, _, _] O.out.p11.p8)
      go_wp2
      go_meet
      case rel => exact ⟨g8, Bn, B0, B1, Bnc, B0c, B1c, rfl, HD0, O⟩
  case rest =>
    clear O
    obtain ⟨g8, Bn, B0, B1, Bnc, B0c, B1c, rfl, HD0, O⟩ := hcut
    rename_i K hK
    refine hK _ _ ?_
    clear hK K
    go_step
    have hs1 : s ≤ ps.length := by rw [HPL.out]; exact hj1
    have hs2 : ps.length ≤ ns.length := by rw [HPL.out]; exact hj2
    have hs3 := HNC.out
    have q2 := (blk_cell O.out.b2 2).trans rfl
    go_upto_region 9 with (fail)
    clear q2
    have q0 := (blk_cell O.out.b2 0).trans rfl; have q2 := (blk_cell O.out.b2 2).trans rfl; have q4 := (blk_cell O.out.b2 4).trans rfl; have p4 := (blk_cell O.out.b0 4).trans rfl
    refine sta (fun w' => w'.cell? ⟨g8, 0, none⟩ = some (.bool true) ∧ w'.cell? ⟨g8, 2, none⟩ = some (.slice Bn ps.length Bnc) ∧ w'.cell? ⟨g8, 4, none⟩ = some (.int .i64 2) ∧ w'.cell? ⟨g6, 4, none⟩ = some (.int .i64 1)) [] 34 ⟨q0, q2, q4, p4⟩ (fun hS => ?_)
    clear q0 q2 q4 p4
    replace O := Aside0.mk O.out.drew
    generalize World.drew _ = w11 at O hS ⊢
    have HPT : Aside0 (rN.d.C w11 N0 ps.length ps) := ⟨by rw [HPS.out]; exact Kd.C_take O.out.c1 (by omega)⟩
    refine pu 0 1 ?_
    refine tk 1 3 hS ?_
    refine pu 2 7 ?_
    refine pu 3 15 ?_
    refine pu 4 31 ?_
    refine pu 5 63 ?_
    refine pu (v := .bool false) 6 127 ?_ (hr := fun w' => by go_simp; all_goals (first | rfl | exact decide_eq_false (by omega) | omega))
    refine pu 7 255 ?_
    refine pu 8 511 ?_
    refine pu 9 1023 ?_
    refine pu 10 2047 ?_
    refine pu 11 4095 ?_
    refine pu (v := .bool false) 12 8191 ?_ (hr := fun w' => by go_simp; all_goals (first | rfl | exact decide_eq_false (by omega) | omega))
    refine pu 13 16383 ?_
    refine pu 14 32767 ?_
    refine pu 15 65535 ?_
    refine pu 16 131071 ?_
    refine tk 17 262143 hS ?_
    refine pu 18 524287 ?_
    refine pu 19 1048575 ?_
    refine pu (v := .slice N0 ps.length nc0) 20 2097151 ?_ (hr := fun w' => by go_simp; all_goals (first | rfl | (intro h; omega)))
    refine on 21 4194303 (fun K hK => ?_)
    refine ca (wNotes_t _ _ _ _ ps _ O.out.c3 HPT.out) Try.func69 ?_
    rintro e w12 ⟨rfl, hb⟩
    replace O := Aside0.mk (O.out.below hb); clear hb
    refine ⟨_, rfl, nx hK ⟨(blk_cell O.out.b2 0).trans rfl, (blk_cell O.out.b2 2).trans rfl, (blk_cell O.out.b2 4).trans rfl, (blk_cell O.out.b0 4).trans rfl⟩ (fun hS => ?_)⟩
    clear hK K
    refine pu 22 8388607 ?_
    refine pu 23 16777215 ?_
    refine pu 24 33554431 ?_
    refine pu 25 67108863 ?_
    refine pu 26 134217727 ?_
    refine tk 27 268435455 hS ?_
    refine pu 28 536870911 ?_
    refine pu 29 1073741823 ?_
    refine tk 30 2147483647 hS ?_
    refine pu (v := .int .i64 2) 31 4294967295 ?_ (hr := fun w' => by go_simp; all_goals rfl)
    refine pu (v := .bool false) 32 8589934591 ?_ (hr := fun w' => by go_simp)
    refine pu 33 17179869183 (dn ?_)
    go_wp2_with fail
    refine (notes_c B d ys _ (Kd.C_below HY.out O.out.bel) HB2.out).mono ?_
    rw [← HMS.out]
    intro e w13 hg
    obtain ⟨v, rfl, k⟩ := own_row hg
    replace O := Aside0.mk (O.out.app1 k).p1.drop; clear k hg
    obtain ⟨M0, mc0, rfl, hmc0⟩ := O.out.f0
    have hm11 : ms.length ≤ 11 := HN2.out.2
    have hpn : ps.length ≤ 11 := by omega
    have HHS := hS
    clear hS HHS HPT hmc0
    go_upto_region 12 with (fail)
    go_wp2
    go_loopg [97] (ms.length + 1) (fun m vi wr => ∃ (i : Nat) (qs : List Nt) (L3 : Int) (ws3 : List Wr) (An A0 A1 : Option Addr) (Anc A0c A1c : Nat), vi = .int .i64 i ∧ Aside0 (i ≤ ms.length ∧ ms.length + 1 - i ≤ m ∧ qs = ps ++ ms.take i ∧ ws3.length ≤ 6 * i) ∧ Aside0 (T.length ≤ A0c) ∧ Aside0 (St ⟨true, ⟨true, qs, L3, 2, (j : Nat)⟩, T, ws3⟩ qs j 2) ∧
      Aside0 (Own w wr [Rs.row rN 33 (.slice M0 ms.length mc0) ms, Rs.row rN 33 (.slice N0 ns.length nc0) ns, Rs.box g8 61 #[.bool true, .bool true, .slice An qs.length Anc, .int .i64 L3, .int .i64 2, .int .i64 (j : Nat), .slice A0 T.length A0c, .slice A1 ws3.length A1c], Rs.row rN 33 (.slice An qs.length Anc) qs, Rs.row rBS 22 (.slice A0 T.length A0c) T, Rs.row rW 147 (.slice A1 ws3.length A1c) ws3]))
    case atStart => exact ⟨0, ps, L2, [], Bn, B0, B1, Bnc, B0c, B1c, rfl, ⟨by omega, by omega, by simp, by simp⟩, HD0, HST2, O⟩
    case round =>
      clear O HST2 HD0
      obtain ⟨i, qs, L3, ws3, An, A0, A1, Anc, A0c, A1c, rfl, HI, HC0, HST, O⟩ := hrel
      by_cases hi : i < ms.length
      · obtain ⟨ad, e1, a0, a1, a2, a3, a4⟩ := at_N O.out.c0 (i : Int) (by omega) (by omega)
        cases e1
        simp only [Int.toNat_natCast] at a0 a1 a2 a3 a4
        obtain ⟨x, hxe⟩ : ∃ x, x = gN ms i := ⟨_, rfl⟩
        rw [← hxe] at a0 a1 a2 a3 a4
        have hxok : NtR x := by rw [hxe, gN_eq (by omega)]; exact HN2.out.1 _ (List.getElem_mem _)
        have hns2 : ps ++ ms.take (i + 1) = qs ++ [x] := by
          rw [List.take_succ_eq_append_getElem hi, HI.out.2.2.1, hxe, gN_eq (by omega), List.append_assoc]; rfl
        have hlen : (flatF qs).length + 217 ≤ 7112 := by
          have h1 := flat_le HST.out.nr
          have h2 : qs.length ≤ 22 := by rw [HI.out.2.2.1, List.length_append, List.length_take]; omega
          omega
        have hwl : ws3.length + 6 ≤ 200 := by have := HI.out; omega
        obtain ⟨ws4, L4, hap, hL4, hws4, hst4⟩ := HST.out.more hxok hlen hwl
        generalize qs ++ [x] = qs2 at hns2 hap hL4 hst4
        have HXOK := Aside0.mk hxok; have HNS2 := Aside0.mk hns2; have HAP := Aside0.mk hap; have HWS4 := Aside0.mk hws4; have HST4 := Aside0.mk hst4
        clear hxe hxok hns2 hlen hwl hap hL4 hws4 hst4
        go_upto_region 15 with (fail)
        generalize hw : wr.alloc _ = w15
        replace O := Aside0.mk (O.out.of hw); clear hw a0 a1 a2 a3 a4
        generalize wr.heap.size = g12 at O ⊢
        have b0 := (blk_cell O.out.b0 0).trans rfl; have b1 := (blk_cell O.out.b0 1).trans rfl; have b2 := (blk_cell O.out.b0 2).trans rfl; have b3 := (blk_cell O.out.b0 3).trans rfl; have b4 := (blk_cell O.out.b0 4).trans rfl
        have p0 := (blk_cell O.out.b3 0).trans rfl; have p1 := (blk_cell O.out.b3 1).trans rfl; have p2 := (blk_cell O.out.b3 2).trans rfl; have p3 := (blk_cell O.out.b3 3).trans rfl; have p4 := (blk_cell O.out.b3 4).trans rfl; have p5 := (blk_cell O.out.b3 5).trans rfl; have p6 := (blk_cell O.out.b3 6).trans rfl; have p7 := (blk_cell O.out.b3 7).trans rfl
        go_wp2_with fail
        refine (implAppend_yes An A0 A1 Anc A0c A1c true true qs L3 2 j T ws3 x _ O.out.c4 O.out.c5 O.out.c6 HC0.out HST.out.bk (by have := HXOK.out.1.2.2.2; omega) HST.out.right HXOK.out.1).mono ?_
        rw [HAP.out]
        rintro e w16 ⟨vn, v0, v1, rfl, k⟩
        simp only at k
        replace O := Aside0.mk (O.out.app3 k); clear k b0 b1 b2 b3 b4 p0 p1 p2 p3 p4 p5 p6 p7
        obtain ⟨Bn, Bnc, rfl, _⟩ := O.out.f0
        obtain ⟨B0, B0c, rfl, hc0⟩ := O.out.f1
        obtain ⟨B1, B1c, rfl, _⟩ := O.out.f2
        have HD0 := Aside0.mk hc0; clear hc0
        have p0 := (blk_cell O.out.b6 0).trans rfl; have p1 := (blk_cell O.out.b6 1).trans rfl; have p2 := (blk_cell O.out.b6 2).trans rfl; have p3 := (blk_cell O.out.b6 3).trans rfl; have p4 := (blk_cell O.out.b6 4).trans rfl; have p5 := (blk_cell O.out.b6 5).trans rfl; have p6 := (blk_cell O.out.b6 6).trans rfl; have p7 := (blk_cell O.out.b6 7).trans rfl
        have z0 := blk_frozen O.out.b6 0; have z1 := blk_frozen O.out.b6 1; have z2 := blk_frozen O.out.b6 2; have z3 := blk_frozen O.out.b6 3; have z4 := blk_frozen O.out.b6 4; have z5 := blk_frozen O.out.b6 5; have z6 := blk_frozen O.out.b6 6; have z7 := blk_frozen O.out.b6 7
        go_upto_region 16 with (fail)
        generalize hw : World.setCell _ _ _ = w17
        replace O := Aside0.mk (Own.only [_, _, _, _, _, _] ((O.out.p6.st8 hw).p6.p6)); clear hw p0 p1 p2 p3 p4 p5 p6 p7 z0 z1 z2 z3 z4 z5 z6 z7
        go_wp2
        go_roundg (gk - 1)
        case measure => have := HI.out; omega
        case rel => exact ⟨i + 1, qs2, L4, ws4, Bn, B0, B1, Bnc, B0c, B1c, by first | rfl | (congr 1; omega), ⟨by have := HI.out; omega, by have := HI.out; omega, HNS2.out.symm, by have := HI.out; have := HWS4.out; omega⟩, HD0, HST4, O⟩
      · have hqs : qs = ps ++ ms := by rw [HI.out.2.2.1, List.take_of_length_le (by omega)]
        have HQS := Aside0.mk hqs; clear hqs HI
        have p0 := (blk_cell O.out.b2 0).trans rfl; have p1 := (blk_cell O.out.b2 1).trans rfl; have p2 := (blk_cell O.out.b2 2).trans rfl; have p3 := (blk_cell O.out.b2 3).trans rfl; have p4 := (blk_cell O.out.b2 4).trans rfl; have p5 := (blk_cell O.out.b2 5).trans rfl; have p6 := (blk_cell O.out.b2 6).trans rfl; have p7 := (blk_cell O.out.b2 7).trans rfl
        go_upto_region 17 with (fail)
        go_wp2_with fail
        refine (implCommit_yes An A0 A1 Anc A0c A1c true true qs L3 2 j T ws3 _ O.out.c3 O.out.c4 O.out.c5 HC0.out HST.out.bk HST.out.right).mono ?_
        obtain ⟨S3, hcm, hst3⟩ := HST.out.safe
        rw [hcm]
        obtain ⟨q, hq⟩ : ∃ q : Nat, q = qs.length := ⟨_, rfl⟩
        rw [← hq] at hst3 ⊢
        have HST3 := Aside0.mk hst3; have HQ2 := Aside0.mk hq; clear hcm hst3 hq
        rintro e w18 ⟨vn, v0, v1, rfl, k⟩
        simp only at k
        replace O := Aside0.mk (O.out.app3 k); clear k p0 p1 p2 p3 p4 p5 p6 p7
        obtain ⟨Cn, Cnc, rfl, _⟩ := O.out.f0
        obtain ⟨C0, C0c, rfl, _⟩ := O.out.f1
        obtain ⟨C1, C1c, rfl, _⟩ := O.out.f2
        have p0 := (blk_cell O.out.b5 0).trans rfl; have p1 := (blk_cell O.out.b5 1).trans rfl; have p2 := (blk_cell O.out.b5 2).trans rfl; have p3 := (blk_cell O.out.b5 3).trans rfl; have p4 := (blk_cell O.out.b5 4).trans rfl; have p5 := (blk_cell O.out.b5 5).trans rfl; have p6 := (blk_cell O.out.b5 6).trans rfl; have p7 := (blk_cell O.out.b5 7).trans rfl
        have z0 := blk_frozen O.out.b5 0; have z1 := blk_frozen O.out.b5 1; have z2 := blk_frozen O.out.b5 2; have z3 := blk_frozen O.out.b5 3; have z4 := blk_frozen O.out.b5 4; have z5 := blk_frozen O.out.b5 5; have z6 := blk_frozen O.out.b5 6; have z7 := blk_frozen O.out.b5 7
        go_upto_region 18 with (fail)
        generalize hw : World.setCell _ _ _ = w19
        replace O := Aside0.mk (Own.only [_, _, _, _, _, _] (O.out.p5.st8 hw)); clear hw p0 p1 p2 p3 p4 p5 p6 p7 z0 z1 z2 z3 z4 z5 z6 z7
        have p6 := (blk_cell O.out.b0 6).trans rfl; have p7 := (blk_cell O.out.b0 7).trans rfl
        go_wp2_with fail
        refine (implCrash_yes C0 C1 none C0c C1c 0 S3 [] [] _ O.out.c2 O.out.c3 ⟨rfl, by simp [maxLen], fun h => absurd h (by simp)⟩ HST3.out.dk).mono ?_
        intro e w20 hg
        obtain ⟨v0, v1, rfl, k⟩ := own_disk hg
        replace O := Aside0.mk (O.out.app2 k); clear k hg p6 p7
        obtain ⟨D0, D0c, rfl, _⟩ := O.out.f0
        obtain ⟨D1, D1c, rfl, _⟩ := O.out.f1
        have hse : settleL S3 [] (kfL false []) = S3 := rfl
        rw [hse] at O
        obtain ⟨j3, h31, h32, hst5⟩ := HST3.out.crash (kfL false []) (by omega)
        simp only [hse] at hst5
        obtain rfl : j3 = q := by have := HQ2.out; omega
        rw [List.take_of_length_le (by rw [← HQ2.out]; exact Nat.le_refl _)] at hst5
        have hd3 := dk_of HST3.out.good0.bl (ws := []) (by simp) (fun x hx => by simp at hx)
        simp only at hd3
        have how : (openL S3 []).ws = [] := openS_ws _
        have hst5' : St (openL S3 []) qs j3 (2 + 1) := hst5
        have hoi := hst5'.is
        rw [how] at hoi
        obtain ⟨L5, hL5⟩ : ∃ L5 : Int, L5 = ((flatF qs).length : Nat) := ⟨_, rfl⟩
        obtain ⟨T5, hT5⟩ : ∃ T, T = (openL S3 []).bs := ⟨_, rfl⟩
        rw [← hL5, ← hT5] at hoi
        clear hst5 hst5' how hL5 hT5 h31 h32 hse
        have HD3 := Aside0.mk hd3; clear hd3
        go_wp2_with fail
        refine (implOpen_yes D0 D1 D0c D1c S3 [] _ O.out.c0 O.out.c1 HD3.out.1 HD3.out.2).mono ?_
        rw [hoi]
        clear hoi HD3
        rintro e w21 ⟨vn, v0, v1, rfl, k⟩
        simp only at k
        replace O := Aside0.mk (O.out.app3 k); clear k
        obtain ⟨En, Enc, rfl, _⟩ := O.out.f0
        obtain ⟨E0, E0c, rfl, _⟩ := O.out.f1
        obtain ⟨E1, E1c, rfl, _⟩ := O.out.f2
        go_upto_region 19 with (fail)
        generalize hw : w21.alloc _ = w22
        replace O := Aside0.mk (O.out.of hw); clear hw
        generalize w21.heap.size = g13 at O ⊢
        replace O := Aside0.mk (Own.only [_, _, _, _] O.out.p11.p11)
        go_upto_region 20 with (fail)
        replace O := Aside0.mk (O.out.nilRow rN 33)
        have hc48 : ∀ W, (Instr.slice 48 (.slice N0 ns.length nc0) none (some (.int .i64 (ps.length : Int))) none).run Try.prog W = .ok (.slice N0 ps.length nc0) W := fun W => by
          obtain ⟨i0, hi, hzz⟩ := Option.map_eq_some_iff.1 info33
          have := cut_to (P := Try.prog) 48 33 .i64 Try.underlying48 hi N0 ns.length nc0 (ps.length : Int) (by omega) (by omega) HNC.out W
          rwa [Int.toNat_natCast] at this
        have HPT : Aside0 (rN.d.C w22 N0 ps.length ps) := ⟨by rw [HPS.out]; exact Kd.C_take O.out.c2 (by omega)⟩
        go_upto_region 21 with (at_builtin; go_loud (refine Own.app_notes rfl (.tmp 111) (.tmp 114) 48 (.agg #[.int .i64 0, .int .i64 0, .int .i64 0, .int .i64 0, .string { data := #[] }]) rfl Try.underlying48 info33 (by decide) (.slice none 0 0) [] ps N0 ps.length nc0 rfl rfl O.out HPT.out (by simp only [List.length_nil]; omega) ?_); intro v5 w23 hX; have O5 := Aside0.mk hX; clear hX)
        clear O HPT hc48
        obtain ⟨Vn, Vc, rfl, _⟩ := O5.out.f0
        go_upto_region 22 with (at_builtin; go_loud (refine Own.app_notes rfl (.tmp 116) (.tmp 117) 48 (.agg #[.int .i64 0, .int .i64 0, .int .i64 0, .int .i64 0, .string { data := #[] }]) rfl Try.underlying48 info33 (by decide) _ ([] ++ ps) ms M0 ms.length mc0 rfl rfl O5.out O5.out.c1 (by simp only [List.nil_append]; omega) ?_); intro v6 w24 hX; have O6 := Aside0.mk hX; clear hX)
        clear O5
        have hwant : [] ++ ps ++ ms = qs := by rw [HQS.out]; rfl
        rw [hwant] at O6
        clear hwant
        obtain ⟨Wn, Wc, rfl, _⟩ := O6.out.f0
        obtain ⟨E6, _⟩ := eqTn HQ2.out
        have E7 : ((j3 : Int) == (qs.length : Int)) = true := (eqT (by rw [HQ2.out])).1
        have q0 := (blk_cell O6.out.b3 0).trans rfl; have q2 := (blk_cell O6.out.b3 2).trans rfl; have q5 := (blk_cell O6.out.b3 5).trans rfl
        go_wp2_with fail
        refine (wNotes_t _ _ _ _ qs _ O6.out.c4 O6.out.c0).mono ?_
        rintro e w25 ⟨rfl, hb⟩
        replace O6 := Aside0.mk (O6.out.below hb); clear hb q0 q2 q5
        have q0 := (blk_cell O6.out.b3 0).trans rfl; have q2 := (blk_cell O6.out.b3 2).trans rfl; have q5 := (blk_cell O6.out.b3 5).trans rfl
        go_wp2
        exact HQ.out _ _ ⟨rfl, O6.out.bel⟩
end Go.Proofs.Ytocdlibnmlcokaa
