/- Contracts and words that the laws rest on, part 3: for every world; conditions as each theorem says. -/
import Derived.Test.YtocdlibnmlcokaaKT2
namespace Go.Proofs.Ytocdlibnmlcokaa
open Go.RowKit Go.Proofs.YtocdlibnmlcokaaW.PrintWords Go.Proofs.YtocdlibnmlcokaaW.PrintLast
set_option linter.unusedVariables false
set_option linter.unusedSimpArgs false
theorem Own.emptyN {w0 w : World} {L : List Rs} (h : Own w0 w L) : Own w0 (w.alloc (.cells #[] 33)) (Rs.row rN 33 (.slice (some ⟨w.heap.size, 0, none⟩) 0 0) [] :: L) :=
  h.app1 (Own.one (R := Rs.row rN 33 (.slice (some ⟨w.heap.size, 0, none⟩) 0 0) []) (f := [w.heap.size]) (below_alloc (Below.refl _ _) _) ⟨[], [], ⟨rfl, .inr ⟨w.heap.size, 0, #[], rfl, Nat.zero_le _, blk_new w _, Nat.le_refl _, by simp [maxLen], rfl, rfl⟩⟩, .nil, rfl⟩ (by simp) (by simp))
set_option maxHeartbeats 8000000 in
set_option maxRecDepth 100000 in
theorem fnTwice_w (A B : Option Addr) (c d : Nat) (xs ys : List Int) (w : World) (hx : kB.C w A xs.length xs) (hy : kB.C w B ys.length ys) (hb : BsOk xs) (hb2 : BsOk ys) :
    Calls Try.prog 12 #[.slice A xs.length c, .slice B ys.length d] w (Yes w) := by
  suffices H : ∀ Q : Ending → World → Prop, (∀ e w', Yes w e w' → Q e w') → Calls Try.prog 12 #[.slice A xs.length c, .slice B ys.length d] w Q from H _ (fun e w' h => h)
  intro Q hQ
  have hl : xs.length ≤ 9223372036854775807 := hx.2.1
  have hl2 : ys.length ≤ 9223372036854775807 := hy.2.1
  have HQ := Aside0.mk hQ; have HX := Aside0.mk hx; have HY := Aside0.mk hy; have HB := Aside0.mk hb; have HB2 := Aside0.mk hb2; clear hx hy hb hb2 hQ
  by_cases hbig : (xs.length : Int) ≤ 1048576
  rotate_left
  · go_enter Try.func12, Try.ntmps12
    go_wp2_with fail
    exact HQ.out _ _ ⟨rfl, Below.refl _ _⟩
  by_cases hbig2 : (ys.length : Int) ≤ 1048576
  rotate_left
  · go_enter Try.func12, Try.ntmps12
    go_wp2_with fail
    exact HQ.out _ _ ⟨rfl, Below.refl _ _⟩
  obtain ⟨S, hop, hst⟩ := st_first
  have hbd := dk_of blank_ok (ws := []) (by simp) (fun x hx => by simp at hx)
  have HST := Aside0.mk hst; have HBD := Aside0.mk hbd; clear hst hbd
  have O := Aside0.mk (Own.nil w)
  go_enter Try.func12, Try.ntmps12
  go_upto_region 3 with (fail)
  go_wp2_with fail
  refine (implBlank_c _).mono ?_
  intro e w2 hg
  obtain ⟨v0, v1, rfl, k⟩ := own_disk hg
  replace O := Aside0.mk (O.out.app2 k); clear k hg
  obtain ⟨B0, bc0, rfl, hbc⟩ := O.out.f0
  obtain ⟨B1, bc1, rfl, _⟩ := O.out.f1
  go_wp2_with fail
  refine (implOpen_yes _ _ _ _ blankB [] _ O.out.c0 O.out.c1 HBD.out.1 HBD.out.2).mono ?_
  rw [hop]
  clear hop hbc HBD
  rintro e w3 ⟨vn, v0, v1, rfl, k⟩
  simp only at k
  replace O := Aside0.mk (Own.only [_, _, _] (O.out.app3 k)); clear k
  obtain ⟨An, Anc, rfl, _⟩ := O.out.f0
  obtain ⟨A0, A0c, rfl, hc0⟩ := O.out.f1
  obtain ⟨A1, A1c, rfl, _⟩ := O.out.f2
  have HC0 := Aside0.mk hc0; clear hc0
  go_upto_region 4 with (fail)
  generalize hw : w3.alloc _ = w4
  replace O := Aside0.mk (O.out.of hw); clear hw
  generalize w3.heap.size = g5 at O ⊢
  replace O := Aside0.mk (O.out.nilRow rN 33)
  go_upto_region 5 with (fail)
  generalize Value.bool (decide ((1048576 : Int) < ys.length)) = c22
  generalize Value.bool (decide ((1048576 : Int) < xs.length) || decide ((1048576 : Int) < ys.length)) = c23
  generalize Value.agg #[.slice B0 blankB.length bc0, .slice B1 0 bc1] = c24
  generalize Value.agg #[.bool true, .bool true, .slice An 0 Anc, .int .i64 0, .int .i64 1, .int .i64 0, .slice A0 S.length A0c, .slice A1 0 A1c] = c25
  go_wp2
  go_loopg [6, 7] 4 (fun m v6 v7 wr => ∃ (r n : Nat) (G : Int) (fs ns : List Nt) (L : Int) (S : List (List Int)) (Pn An A0 A1 : Option Addr) (Pc Anc A0c A1c : Nat), v7 = .int .i64 r ∧ v6 = .slice Pn n Pc ∧ Aside0 (r ≤ 3 ∧ 4 - r ≤ m ∧ n ≤ fs.length ∧ ns = fs.take n ∧ ns.length ≤ 8 * r ∧ fs.length ≤ Pc ∧ fs.length ≤ 24) ∧ Aside0 (G = (r : Int) + 1) ∧ Aside0 (S.length ≤ A0c) ∧ Aside0 (St ⟨true, ⟨true, ns, L, G, (ns.length : Nat)⟩, S, []⟩ ns ns.length G) ∧
    Aside0 (Own w wr [Rs.row rN 33 (.slice Pn fs.length Pc) fs, Rs.box g5 61 #[.bool true, .bool true, .slice An ns.length Anc, .int .i64 L, .int .i64 G, .int .i64 (ns.length : Nat), .slice A0 S.length A0c, .slice A1 0 A1c], Rs.row rN 33 (.slice An ns.length Anc) ns, Rs.row rBS 22 (.slice A0 S.length A0c) S, Rs.row rW 147 (.slice A1 0 A1c) []]))
  case atStart => exact ⟨0, 0, 1, [], [], 0, S, none, An, A0, A1, 0, Anc, A0c, A1c, rfl, rfl, ⟨by omega, by omega, by simp, rfl, by simp, by simp, by simp⟩, ⟨rfl⟩, HC0, HST, O⟩
  case round =>
    clear O HST HC0
    obtain ⟨r, n, G, fs, ns, L, S, Pn, An, A0, A1, Pc, Anc, A0c, A1c, rfl, rfl, HI, HG, HC0, HST, O⟩ := hrel
    obtain ⟨gk0, hgk0⟩ : ∃ g0, g0 = gk := ⟨_, rfl⟩
    have HGK := Aside0.mk hgk0; clear hgk0
    by_cases hr : (r : Int) < 3
    · go_upto_region 9 with (fail)
      replace O := Aside0.mk (O.out.nilRow rB 5)
      go_wp2
      go_loopg [8, 32] (xs.length + 1) (fun m vb vi wr => ∃ (i : Nat) (bs : List Int), vi = .int .i64 i ∧ Aside0 (i ≤ xs.length ∧ xs.length + 1 - i ≤ m ∧ bs.length = i ∧ BsOk bs) ∧
        Aside0 (Own w wr [Rs.row rB 5 vb bs, Rs.row rN 33 (.slice Pn fs.length Pc) fs, Rs.box g5 61 #[.bool true, .bool true, .slice An ns.length Anc, .int .i64 L, .int .i64 G, .int .i64 (ns.length : Nat), .slice A0 S.length A0c, .slice A1 0 A1c], Rs.row rN 33 (.slice An ns.length Anc) ns, Rs.row rBS 22 (.slice A0 S.length A0c) S, Rs.row rW 147 (.slice A1 0 A1c) []]))
      case atStart => exact ⟨0, [], rfl, ⟨by omega, by omega, rfl, fun x hx => by simp at hx⟩, O⟩
      case round =>
        clear O
        obtain ⟨i, bs, rfl, HJ, O⟩ := hrel
        by_cases hi : i < xs.length
        · obtain ⟨ad, e1, hc1⟩ := Kd.at_int (Kd.C_below HX.out O.out.bel) (i : Int) (by omega) (by omega)
          cases e1
          have hrd := HB.out.rd i
          generalize rd xs i = v at hc1 hrd
          simp only [Int.toNat_natCast] at hc1
          obtain ⟨Bn, Bc, rfl, _⟩ := O.out.f0
          have hbr : 0 ≤ (v + (r : Int) * 37) % 256 ∧ (v + (r : Int) * 37) % 256 < 256 := by omega
          replace O := Aside0.mk (O.out.cel0 (r := rB) (cs := [.int .u8 ((v + (r : Int) * 37) % 256)]) (x := (v + (r : Int) * 37) % 256) ⟨rfl, rfl⟩).p1
          go_upto_region 13 with (at_builtin; go_loud (refine Own.app_one rB rfl (.tmp 35) (.tmp 45) 22 5 (.int .u8 0) 1 rfl Try.underlying22 info5 rfl (by decide) (by decide) (.slice Bn bs.length Bc) bs ((v + (r : Int) * 37) % 256) _ rfl rfl O.out (by have := HJ.out; omega) ?_); intro v5 w5 hX; have O5 := Aside0.mk hX; clear hX)
          clear O
          go_wp2
          go_roundg (gk - 1)
          case measure => have := HJ.out; omega
          case rel => exact ⟨i + 1, bs ++ [(v + (r : Int) * 37) % 256], by first | rfl | (congr 1; omega), ⟨by have := HJ.out; omega, by have := HJ.out; omega, by rw [List.length_append, HJ.out.2.2.1]; rfl, fun x hx => by
              rcases List.mem_append.1 hx with h | h
              · exact HJ.out.2.2.2 x h
              · rw [List.mem_singleton] at h; rw [h]; exact hbr⟩, O5⟩
        · have HBS : Aside0 (BsOk bs) := ⟨HJ.out.2.2.2⟩
          obtain ⟨Bn, Bc, rfl, _⟩ := O.out.f0
          clear HJ
          have hnf : n ≤ fs.length ∧ ns = fs.take n ∧ fs.length ≤ 24 := ⟨HI.out.2.2.1, HI.out.2.2.2.1, HI.out.2.2.2.2.2.2⟩
          have hnn : ns.length = n := by rw [hnf.2.1, List.length_take]; omega
          have HPT : Aside0 (rN.d.C (wr.alloc (.cells #[] 33)) Pn n ns) := ⟨by
            have h1 : rN.d.C wr Pn (fs.take n).length (fs.take n) := Kd.C_take O.out.c1 hnf.1
            rw [← hnf.2.1, hnn] at h1
            exact Kd.C_below h1 (below_alloc (Below.refl _ _) _)⟩
          have HNF := Aside0.mk hnf; have HNN := Aside0.mk hnn
          have hn24 : n ≤ 24 := by omega
          clear hnf hnn
          replace O := Aside0.mk O.out.emptyN
          go_upto_region 14 with (fail)
          rename_i K hK
          have HK := Aside0.mk hK; clear hK
          go_wp2_with (at_builtin; go_loud (refine Own.app_notes rfl (.tmp 48) (.tmp 49) 48 (.agg #[.int .i64 0, .int .i64 0, .int .i64 0, .int .i64 0, .string { data := #[] }]) rfl Try.underlying48 info33 (by decide) _ [] ns Pn n Pc rfl rfl O.out HPT.out (by simp only [List.length_nil]; omega) ?_); intro v5 w5 hX; have O5 := Aside0.mk hX; clear hX)
          clear O HPT
          rw [List.nil_append] at O5
          obtain ⟨Tn, Tc, rfl, _⟩ := O5.out.f0
          obtain ⟨ms, hms⟩ : ∃ ms, ms = notesOf bs := ⟨_, rfl⟩
          have HMOK : Aside0 ((∀ x ∈ ms, NtR x) ∧ ms.length ≤ 11) := ⟨hms ▸ notesOf_ok bs⟩
          have HMS := Aside0.mk hms; clear hms
          go_wp2
          refine HK.out _ _ ?_
          clear HK K
          go_step
          go_cut [10, 22, 23, 24, 25] from 22 (fun v10 v22 v23 v24 v25 wc => (v22 = c22 ∧ v23 = c23 ∧ v24 = c24 ∧ v25 = c25) ∧ ∃ (k : Nat) (qs : List Nt) (L3 : Int) (ws3 : List Wr) (Tn An A0 A1 : Option Addr) (Tc Anc A0c A1c : Nat), v10 = .slice Tn qs.length Tc ∧ Aside0 (k ≤ 8 ∧ qs.length = ns.length + k ∧ qs.take ns.length = ns ∧ ws3.length ≤ 6 * k ∧ qs.length ≤ Tc) ∧ Aside0 (S.length ≤ A0c) ∧ Aside0 (St ⟨true, ⟨true, qs, L3, G, (ns.length : Nat)⟩, S, ws3⟩ qs ns.length G) ∧
            Aside0 (Own w wc [Rs.row rN 33 (.slice Tn qs.length Tc) qs, Rs.box g5 61 #[.bool true, .bool true, .slice An qs.length Anc, .int .i64 L3, .int .i64 G, .int .i64 (ns.length : Nat), .slice A0 S.length A0c, .slice A1 ws3.length A1c], Rs.row rN 33 (.slice An qs.length Anc) qs, Rs.row rBS 22 (.slice A0 S.length A0c) S, Rs.row rW 147 (.slice A1 ws3.length A1c) ws3]))
          case first =>
            go_wp2_with fail
            refine (notes_c Bn Bc bs _ O5.out.c1 HBS.out).mono ?_
            rw [← HMS.out]
            intro e w6 hg
            obtain ⟨v, rfl, k⟩ := own_row hg
            have O := Aside0.mk ((O5.out.app1 k).p1.p2.drop.p2.drop); clear k hg O5
            obtain ⟨M0, mc0, rfl, _⟩ := O.out.f1
            have hns8 : ns.length ≤ 8 * r := HI.out.2.2.2.2.1
            have hr2 : r ≤ 2 := by omega
            have hm11 : ms.length ≤ 11 := HMOK.out.2
            have HTC : Aside0 (ns.length ≤ Tc) := ⟨by assumption⟩
            go_wp2
            go_loopg [10, 54] (ms.length + 1) (fun m v10 vi wr => ∃ (i : Nat) (qs : List Nt) (L3 : Int) (ws3 : List Wr) (Tn An A0 A1 : Option Addr) (Tc Anc A0c A1c : Nat), vi = .int .i64 i ∧ v10 = .slice Tn qs.length Tc ∧ Aside0 (i ≤ 8 ∧ i ≤ ms.length ∧ ms.length + 1 - i ≤ m ∧ qs = ns ++ ms.take i ∧ ws3.length ≤ 6 * i ∧ qs.length ≤ Tc) ∧ Aside0 (S.length ≤ A0c) ∧ Aside0 (St ⟨true, ⟨true, qs, L3, G, (ns.length : Nat)⟩, S, ws3⟩ qs ns.length G) ∧
              Aside0 (Own w wr [Rs.row rN 33 (.slice Tn qs.length Tc) qs, Rs.row rN 33 (.slice M0 ms.length mc0) ms, Rs.box g5 61 #[.bool true, .bool true, .slice An qs.length Anc, .int .i64 L3, .int .i64 G, .int .i64 (ns.length : Nat), .slice A0 S.length A0c, .slice A1 ws3.length A1c], Rs.row rN 33 (.slice An qs.length Anc) qs, Rs.row rBS 22 (.slice A0 S.length A0c) S, Rs.row rW 147 (.slice A1 ws3.length A1c) ws3]))
            case atStart => exact ⟨0, ns, L, [], Tn, An, A0, A1, Tc, Anc, A0c, A1c, rfl, rfl, ⟨by omega, by omega, by omega, by simp, by simp, HTC.out⟩, HC0, HST, O⟩
            case round =>
              clear O HST HC0 HTC
              obtain ⟨i, qs, L3, ws3, Tn, An, A0, A1, Tc, Anc, A0c, A1c, rfl, rfl, HJ, HC0, HST, O⟩ := hrel
              have hfin : Aside0 (qs.length = ns.length + i ∧ qs.take ns.length = ns) := ⟨by
                rw [HJ.out.2.2.2.1]
                refine ⟨?_, List.take_left⟩
                have := HJ.out.2.1
                rw [List.length_append, List.length_take]; omega⟩
              by_cases hi : i < ms.length
              · obtain ⟨ad, e1, a0, a1, a2, a3, a4⟩ := at_N O.out.c1 (i : Int) (by omega) (by omega)
                cases e1
                simp only [Int.toNat_natCast] at a0 a1 a2 a3 a4
                obtain ⟨x, hxe⟩ : ∃ x, x = gN ms i := ⟨_, rfl⟩
                rw [← hxe] at a0 a1 a2 a3 a4
                have hxok : NtR x := by rw [hxe, gN_eq (by omega)]; exact HMOK.out.1 _ (List.getElem_mem _)
                have hns2 : ns ++ ms.take (i + 1) = qs ++ [x] := by
                  rw [List.take_succ_eq_append_getElem hi, HJ.out.2.2.2.1, hxe, gN_eq (by omega), List.append_assoc]; rfl
                have HXE := Aside0.mk hns2; have HXOK := Aside0.mk hxok
                clear hxe hxok hns2
                by_cases h8 : (i : Int) = 8
                · obtain ⟨E8, _⟩ := eqT h8
                  clear h8
                  go_upto_region 18 with (fail)
                  generalize hw : wr.alloc _ = w15
                  replace O := Aside0.mk (O.out.of hw).drop; clear hw a0 a1 a2 a3 a4
                  go_wp2
                  go_meet
                  case rel => exact ⟨⟨rfl, rfl, rfl, rfl⟩, i, qs, L3, ws3, Tn, An, A0, A1, Tc, Anc, A0c, A1c, rfl, ⟨HJ.out.1, hfin.out.1, hfin.out.2, HJ.out.2.2.2.2.1, HJ.out.2.2.2.2.2⟩, HC0, HST, ⟨O.out.p1.drop⟩⟩
                · have hi8 : i + 1 ≤ 8 := by have := HJ.out.1; omega
                  obtain ⟨E8, _⟩ := eqF h8
                  clear h8
                  have hlen : (flatF qs).length + 217 ≤ 7112 := by
                    have h1 := flat_le HST.out.nr
                    have h2 := hfin.out.1
                    omega
                  have hwl : ws3.length + 6 ≤ 200 := by have := HJ.out; omega
                  obtain ⟨ws4, L4, hap, hL4, hws4, hst4⟩ := HST.out.more HXOK.out hlen hwl
                  obtain ⟨qs2, hq2⟩ : ∃ qs2, qs2 = qs ++ [x] := ⟨_, rfl⟩
                  rw [← hq2] at hap hst4
                  have HQ2 := Aside0.mk hq2; clear hq2
                  have HAP := Aside0.mk hap; have HWS4 := Aside0.mk hws4; have HST4 := Aside0.mk hst4
                  clear hlen hwl hap hL4 hws4 hst4
                  go_upto_region 18 with (fail)
                  generalize hw : wr.alloc _ = w15
                  replace O := Aside0.mk (O.out.of hw); clear hw a0 a1 a2 a3 a4
                  generalize wr.heap.size = g12 at O ⊢
                  go_upto_region 19 with (fail)
                  have b0 := (blk_cell O.out.b0 0).trans rfl; have b1 := (blk_cell O.out.b0 1).trans rfl; have b2 := (blk_cell O.out.b0 2).trans rfl; have b3 := (blk_cell O.out.b0 3).trans rfl; have b4 := (blk_cell O.out.b0 4).trans rfl
                  have p0 := (blk_cell O.out.b3 0).trans rfl; have p1 := (blk_cell O.out.b3 1).trans rfl; have p2 := (blk_cell O.out.b3 2).trans rfl; have p3 := (blk_cell O.out.b3 3).trans rfl; have p4 := (blk_cell O.out.b3 4).trans rfl; have p5 := (blk_cell O.out.b3 5).trans rfl; have p6 := (blk_cell O.out.b3 6).trans rfl; have p7 := (blk_cell O.out.b3 7).trans rfl
                  go_wp2_with fail
                  refine (implAppend_yes An A0 A1 Anc A0c A1c true true qs L3 G ns.length S ws3 x _ O.out.c4 O.out.c5 O.out.c6 HC0.out HST.out.bk (by have := HXOK.out.1.2.2.2; omega) HST.out.right HXOK.out.1).mono ?_
                  rw [HAP.out]
                  rintro e w16 ⟨vn, v0, v1, rfl, k⟩
                  simp only at k
                  replace O := Aside0.mk (O.out.app3 k); clear k b0 b1 b2 b3 b4 p0 p1 p2 p3 p4 p5 p6 p7
                  obtain ⟨Bn, Bnc, rfl, _⟩ := O.out.f0
                  obtain ⟨B0, B0c, rfl, hc0⟩ := O.out.f1
                  obtain ⟨B1, B1c, rfl, _⟩ := O.out.f2
                  have HD0 := Aside0.mk hc0; clear hc0
                  have p0 := (blk_cell O.out.b6 0).trans rfl; have p1 := (blk_cell O.out.b6 1).trans rfl; have p2 := (blk_cell O.out.b6 2).trans rfl; have p3 := (blk_cell O.out.b6 3).trans rfl; have p4 := (blk_cell O.out.b6 4).trans rfl; have p5 := (blk_cell O.out.b6 5).trans rfl; have p6 := (blk_cell O.out.b6 6).trans rfl; have p7 := (blk_cell O.out.b6 7).trans rfl
                  have z0 := blk_frozen O.out.b6 0; have z1 := blk_frozen O.out.b6 1; have z2 := blk_frozen O.out.b6 2; have z3 := blk_frozen O.out.b6 3; have z4 := blk_frozen O.out.b6 4; have z5 := blk_frozen O.out.b6 5; have z6 := blk_frozen O.out.b6 6; have z7 := blk_frozen O.out.b6 7
                  go_upto_region 20 with (fail)
                  generalize hw : World.setCell _ _ _ = w17
                  replace O := Aside0.mk (O.out.p6.st8 hw); clear hw p0 p1 p2 p3 p4 p5 p6 p7 z0 z1 z2 z3 z4 z5 z6 z7
                  have b0 := (blk_cell O.out.b4 0).trans rfl; have b1 := (blk_cell O.out.b4 1).trans rfl; have b2 := (blk_cell O.out.b4 2).trans rfl; have b3 := (blk_cell O.out.b4 3).trans rfl; have b4 := (blk_cell O.out.b4 4).trans rfl
                  have hql : qs.length ≤ 40 := by have := hfin.out.1; omega
                  replace O := Aside0.mk ((O.out.p5.cel0 (N_mk _ x)).p1)
                  go_upto_region 21 with (at_builtin; go_loud (refine Own.app_one rN rfl (.tmp 64) (.tmp 66) 48 33 (.agg #[.int .i64 0, .int .i64 0, .int .i64 0, .int .i64 0, .string { data := #[] }]) 48 rfl Try.underlying48 info33 rfl (by decide) (by decide) (.slice Tn qs.length Tc) qs x _ rfl rfl O.out (by omega) ?_); intro v5 w5 hX; have O5 := Aside0.mk hX; clear hX)
                  clear O b0 b1 b2 b3 b4
                  rw [← HQ2.out] at O5
                  obtain ⟨Vn, Vc, rfl, hvc⟩ := O5.out.f0
                  have HVC := Aside0.mk hvc; clear hvc
                  replace O5 := Aside0.mk (Own.only [_, _, _, _, _, _] O5.out.p6.p1)
                  go_wp2
                  go_roundg (gk - 1)
                  case measure => have := HJ.out; omega
                  case rel => exact ⟨i + 1, qs2, L4, ws4, Vn, Bn, B0, B1, Vc, Bnc, B0c, B1c, by first | rfl | (congr 1; omega), rfl, ⟨hi8, by omega, by have := HJ.out; omega, by rw [HQ2.out, HXE.out], by have := HJ.out; have := HWS4.out; omega, HVC.out⟩, HD0, HST4, O5⟩
              · go_wp2
                go_meet
                case rel => exact ⟨⟨rfl, rfl, rfl, rfl⟩, i, qs, L3, ws3, Tn, An, A0, A1, Tc, Anc, A0c, A1c, rfl, ⟨HJ.out.1, hfin.out.1, hfin.out.2, HJ.out.2.2.2.2.1, HJ.out.2.2.2.2.2⟩, HC0, HST, ⟨O.out.p1.drop⟩⟩
          case rest =>
            clear O5 HC0 HST
            obtain ⟨⟨h22, h23, h24, h25⟩, k, qs, L3, ws3, Tn, An, A0, A1, Tc, Anc, A0c, A1c, rfl, HK8, HC0, HST, O⟩ := hcut
            rename_i K hK
            refine hK _ _ ?_
            clear hK K
            subst h22 h23 h24 h25
            go_step
            have p0 := (blk_cell O.out.b1 0).trans rfl; have p2 := (blk_cell O.out.b1 2).trans rfl
            go_wp2_with fail
            refine (wNotes_t _ _ _ _ qs _ O.out.c2 O.out.c0).mono ?_
            rintro e w26 ⟨rfl, hb⟩
            replace O := Aside0.mk (O.out.below hb); clear hb p0 p2
            go_upto_region 25 with (fail)
            replace O := Aside0.mk (O.out.nilRow rB 5)
            go_wp2
            go_loopg [13, 82] (ys.length + 1) (fun m vb vi wr => ∃ (i : Nat) (bs : List Int), vi = .int .i64 i ∧ Aside0 (i ≤ ys.length ∧ ys.length + 1 - i ≤ m ∧ bs.length = i ∧ BsOk bs) ∧
              Aside0 (Own w wr [Rs.row rB 5 vb bs, Rs.row rN 33 (.slice Tn qs.length Tc) qs, Rs.box g5 61 #[.bool true, .bool true, .slice An qs.length Anc, .int .i64 L3, .int .i64 G, .int .i64 (ns.length : Nat), .slice A0 S.length A0c, .slice A1 ws3.length A1c], Rs.row rN 33 (.slice An qs.length Anc) qs, Rs.row rBS 22 (.slice A0 S.length A0c) S, Rs.row rW 147 (.slice A1 ws3.length A1c) ws3]))
            case atStart => exact ⟨0, [], rfl, ⟨by omega, by omega, rfl, fun x hx => by simp at hx⟩, O⟩
            case round =>
              clear O
              obtain ⟨i, bs, rfl, HJ, O⟩ := hrel
              by_cases hi : i < ys.length
              · obtain ⟨ad, e1, hc1⟩ := Kd.at_int (Kd.C_below HY.out O.out.bel) (i : Int) (by omega) (by omega)
                cases e1
                have hrd := HB2.out.rd i
                generalize rd ys i = v at hc1 hrd
                simp only [Int.toNat_natCast] at hc1
                obtain ⟨Bn, Bc, rfl, _⟩ := O.out.f0
                have hbr : 0 ≤ (v + (r : Int) * 91) % 256 ∧ (v + (r : Int) * 91) % 256 < 256 := by omega
                replace O := Aside0.mk (O.out.cel0 (r := rB) (cs := [.int .u8 ((v + (r : Int) * 91) % 256)]) (x := (v + (r : Int) * 91) % 256) ⟨rfl, rfl⟩).p1
                go_upto_region 29 with (at_builtin; go_loud (refine Own.app_one rB rfl (.tmp 85) (.tmp 95) 22 5 (.int .u8 0) 1 rfl Try.underlying22 info5 rfl (by decide) (by decide) (.slice Bn bs.length Bc) bs ((v + (r : Int) * 91) % 256) _ rfl rfl O.out (by have := HJ.out; omega) ?_); intro v5 w5 hX; have O5 := Aside0.mk hX; clear hX)
                clear O
                go_wp2
                go_roundg (gk - 1)
                case measure => have := HJ.out; omega
                case rel => exact ⟨i + 1, bs ++ [(v + (r : Int) * 91) % 256], by first | rfl | (congr 1; omega), ⟨by have := HJ.out; omega, by have := HJ.out; omega, by rw [List.length_append, HJ.out.2.2.1]; rfl, fun x hx => by
                    rcases List.mem_append.1 hx with h | h
                    · exact HJ.out.2.2.2 x h
                    · rw [List.mem_singleton] at h; rw [h]; exact hbr⟩, O5⟩
              · have HBS2 : Aside0 (BsOk bs) := ⟨HJ.out.2.2.2⟩
                obtain ⟨Bn, Bc, rfl, _⟩ := O.out.f0
                clear HJ
                obtain ⟨kl, hkl⟩ : ∃ kl, kl = masksOf bs := ⟨_, rfl⟩
                obtain ⟨S2, hS2⟩ : ∃ S2, S2 = settleL S ws3 (kfL false kl) := ⟨_, rfl⟩
                have hbl : BlOk S2 := hS2 ▸ settle_bytes _ HST.out.dk HST.out.bk
                have hgr := HG.out
                obtain ⟨j, hj1, hj2, hst2⟩ := HST.out.crash (kfL false kl) (by omega)
                simp only at hst2
                rw [← hS2] at hst2
                have how : (openL S2 []).ws = [] := openS_ws _
                have hst2' : St (openL S2 []) (qs.take j) j (G + 1) := hst2
                clear hst2
                have hoi := hst2'.is
                rw [how] at hoi
                obtain ⟨ps, hps⟩ : ∃ ps, ps = qs.take j := ⟨_, rfl⟩
                obtain ⟨L2, hL2⟩ : ∃ L2 : Int, L2 = ((flatF (qs.take j)).length : Nat) := ⟨_, rfl⟩
                obtain ⟨T, hT⟩ : ∃ T, T = (openL S2 []).bs := ⟨_, rfl⟩
                obtain ⟨G2, hG2⟩ : ∃ G2 : Int, G2 = G + 1 := ⟨_, rfl⟩
                rw [← hL2, ← hps, ← hT, ← hG2] at hoi
                rw [← hps, hoi, ← hG2] at hst2'
                have hpsl : ps.length = j := by rw [hps, List.length_take]; omega
                rw [← hpsl] at hoi hst2' hps
                have hs1 : ns.length ≤ ps.length := by omega
                have hs2 : ps.length ≤ qs.length := by omega
                have hs0 : n ≤ ps.length := by have := HNN.out; omega
                have HKL := Aside0.mk hkl; have HS2 := Aside0.mk hS2; have HOI := Aside0.mk hoi; have HST2 := Aside0.mk hst2'; have HPS := Aside0.mk hps; have HBL := Aside0.mk hbl; have HG2 := Aside0.mk hG2
                have hk8 := HK8.out
                have hqT : qs.length ≤ Tc := hk8.2.2.2.2
                have hnn8 : ns.length ≤ 8 * r := HI.out.2.2.2.2.1
                have hq24 : qs.length ≤ 24 := by omega
                clear hkl hS2 hoi hst2' hps hbl how hL2 hT hG2 hpsl hj1 hj2
                go_upto_region 30 with (fail)
                have p6' := (blk_cell O.out.b2 6).trans rfl; have p7' := (blk_cell O.out.b2 7).trans rfl
                refine sta (fun w' => w'.cell? ⟨g5, 6, none⟩ = some (.slice A0 S.length A0c) ∧ w'.cell? ⟨g5, 7, none⟩ = some (.slice A1 ws3.length A1c)) [6] 7 ⟨p6', p7'⟩ (fun hS => ?_)
                clear p6' p7'
                replace O := Aside0.mk O.out.drew
                generalize World.drew _ = w30 at O hS ⊢
                refine pu 0 1 ?_
                refine tk 1 3 hS ?_
                refine pu 2 7 ?_
                refine on 3 15 (fun K hK => ?_)
                refine ca (masks_c Bn Bc bs _ O.out.c0 HBS2.out) Try.func70 ?_
                rw [← HKL.out]
                intro e w31 hg
                obtain ⟨v, rfl, k⟩ := own_row hg
                replace O := Aside0.mk (O.out.app1 k); clear k hg
                obtain ⟨K0, kc0, rfl, _⟩ := O.out.f0
                refine ⟨_, rfl, nx hK ⟨(blk_cell O.out.b3 6).trans rfl, (blk_cell O.out.b3 7).trans rfl⟩ (fun hS => ?_)⟩
                clear hK K
                refine on 4 31 (fun K hK => ?_)
                refine ca (implCrash_yes A0 A1 K0 A0c A1c kc0 S ws3 kl _ O.out.c5 O.out.c6 O.out.c0 HST.out.dk) Try.func66 ?_
                intro e w32 hg
                rw [← HS2.out] at hg
                obtain ⟨v0, v1, rfl, k⟩ := own_disk hg
                replace O := Aside0.mk (O.out.app2 k); clear k hg
                obtain ⟨D0, D0c, rfl, _⟩ := O.out.f0
                obtain ⟨D1, D1c, rfl, _⟩ := O.out.f1
                refine ⟨_, rfl, nx hK ⟨(blk_cell O.out.b5 6).trans rfl, (blk_cell O.out.b5 7).trans rfl⟩ (fun hS => ?_)⟩
                clear hK K
                refine on 5 63 (fun K hK => ?_)
                have hd := dk_of HBL.out (ws := []) (by simp) (fun x hx => by simp at hx)
                refine ca (implOpen_yes D0 D1 D0c D1c S2 [] _ O.out.c0 O.out.c1 hd.1 hd.2) Try.func37 ?_
                clear hd
                rw [HOI.out]
                rintro e w33 ⟨vn, v0, v1, rfl, k⟩
                simp only at k
                replace O := Aside0.mk (O.out.app3 k); clear k
                obtain ⟨En, Enc, rfl, _⟩ := O.out.f0
                obtain ⟨E0, E0c, rfl, he0⟩ := O.out.f1
                obtain ⟨E1, E1c, rfl, _⟩ := O.out.f2
                have HE0 := Aside0.mk he0; clear he0
                refine ⟨_, rfl, nx hK ⟨(blk_cell O.out.b8 6).trans rfl, (blk_cell O.out.b8 7).trans rfl⟩ (fun hS => ?_)⟩
                clear hK K
                have u0 := (blk_cell O.out.b8 0).trans rfl; have u1 := (blk_cell O.out.b8 1).trans rfl; have u2 := (blk_cell O.out.b8 2).trans rfl; have u3 := (blk_cell O.out.b8 3).trans rfl; have u4 := (blk_cell O.out.b8 4).trans rfl; have u5 := (blk_cell O.out.b8 5).trans rfl; have u6 := (blk_cell O.out.b8 6).trans rfl; have u7 := (blk_cell O.out.b8 7).trans rfl
                have z0 := blk_frozen O.out.b8 0; have z1 := blk_frozen O.out.b8 1; have z2 := blk_frozen O.out.b8 2; have z3 := blk_frozen O.out.b8 3; have z4 := blk_frozen O.out.b8 4; have z5 := blk_frozen O.out.b8 5; have z6 := blk_frozen O.out.b8 6; have z7 := blk_frozen O.out.b8 7
                refine la 6 127 (fun K hK => ?_)
                refine st ?_
                generalize hw : World.setCell _ _ _ = w34
                replace O := Aside0.mk (O.out.p8.st8 hw); clear hw
                refine nl hK (dn ?_)
                clear hK K hS u0 u1 u2 u3 u4 u5 u6 u7 z0 z1 z2 z3 z4 z5 z6 z7
                replace O := Aside0.mk (Own.only [_, _, _, _, _] O.out.p8.p1)
                have q2 := (blk_cell O.out.b0 2).trans rfl
                go_upto_region 32 with (fail)
                clear q2
                have q0 := (blk_cell O.out.b0 0).trans rfl; have q2 := (blk_cell O.out.b0 2).trans rfl
                refine sta (fun w' => w'.cell? ⟨g5, 0, none⟩ = some (.bool true) ∧ w'.cell? ⟨g5, 2, none⟩ = some (.slice En ps.length Enc)) [] 25 ⟨q0, q2⟩ (fun hS => ?_)
                clear q0 q2
                replace O := Aside0.mk O.out.drew
                generalize World.drew _ = w41 at O hS ⊢
                have HPT : Aside0 (rN.d.C w41 Tn ps.length ps) := ⟨by
                  have h1 : rN.d.C w41 Tn (qs.take ps.length).length (qs.take ps.length) := Kd.C_take O.out.c1 hs2
                  rwa [← HPS.out] at h1⟩
                refine pu 0 1 ?_
                refine tk 1 3 hS ?_
                refine pu 2 7 ?_
                refine pu 3 15 ?_
                refine pu 4 31 ?_
                refine pu 5 63 ?_
                refine pu 6 127 ?_
                refine pu (v := .bool false) 7 255 ?_ (hr := fun w' => by go_simp; all_goals (first | rfl | exact decide_eq_false (by omega) | omega))
                refine pu 8 511 ?_
                refine pu 9 1023 ?_
                refine pu 10 2047 ?_
                refine pu 11 4095 ?_
                refine pu 12 8191 ?_
                refine pu (v := .bool false) 13 16383 ?_ (hr := fun w' => by go_simp; all_goals (first | rfl | exact decide_eq_false (by omega) | omega))
                refine pu 14 32767 ?_
                refine pu 15 65535 ?_
                refine pu 16 131071 ?_
                refine pu 17 262143 ?_
                refine tk 18 524287 hS ?_
                refine pu 19 1048575 ?_
                refine pu 20 2097151 ?_
                refine pu (v := .slice Tn ps.length Tc) 21 4194303 ?_ (hr := fun w' => by go_simp; all_goals (first | rfl | (intro h; omega)))
                refine on 22 8388607 (fun K hK => ?_)
                refine ca (wNotes_t _ _ _ _ ps _ O.out.c2 HPT.out) Try.func69 ?_
                rintro e w42 ⟨rfl, hb⟩
                replace O := Aside0.mk (O.out.below hb); clear hb
                refine ⟨_, rfl, nx hK ⟨(blk_cell O.out.b0 0).trans rfl, (blk_cell O.out.b0 2).trans rfl⟩ (fun hS => ?_)⟩
                clear hK K
                refine pu 23 16777215 ?_
                refine pu 24 33554431 (dn ?_)
                clear HPT hS
                have hg3 : ((r + 1 : Nat) : Int) + 1 = G2 := by have := HG2.out; have := HG.out; omega
                have HRN : Aside0 (ps.length ≤ 8 * (r + 1)) := ⟨by have := HK8.out; omega⟩
                go_wp2
                go_roundg (gk0 - 1)
                case measure => have := HI.out; have := HGK.out; omega
                case rel => exact ⟨r + 1, ps.length, G2, qs, ps, L2, T, Tn, En, E0, E1, Tc, Enc, E0c, E1c, by first | rfl | (congr 1; omega), rfl, ⟨by have := HI.out; omega, by have := HI.out; have := HGK.out; omega, hs2, HPS.out, HRN.out, hqT, hq24⟩, ⟨hg3.symm⟩, HE0, HST2, ⟨O.out.p1⟩⟩
    · go_wp2
      exact HQ.out _ _ ⟨rfl, O.out.bel⟩
end Go.Proofs.Ytocdlibnmlcokaa
namespace Go.Proofs.Ytocdlibnmlcokaa
open Go.RowKit Go.Proofs.YtocdlibnmlcokaaW.PrintWords Go.Proofs.YtocdlibnmlcokaaW.PrintLast Go.Proofs.Ytocdlibnmlcokaa.Math
set_option linter.unusedVariables false
set_option linter.unusedSimpArgs false
theorem ch_spoil {G : Int} {x : List Int} (hx : ¬ PgIs x) : ∀ {bl : List (List Int)} {last : Int} {X : List Int} {k : Nat}, Ch G last X bl → k * 56 < X.length → bodyL G last (bl.set k x) = X.take (k * 56)
  | [], last, X, k, h, hk => by
    have h : X = [] := h
    rw [h] at hk; simp at hk
  | b :: r, last, X, 0, h, hk => by
    show bodyL G last (x :: r) = _
    rw [bodyL_no (fun h => hx h.1)]; simp
  | b :: r, last, X, k + 1, h, hk => by
    unfold Ch at h
    rw [if_pos (by omega)] at h
    obtain ⟨h1, h2, h3, h4, h5⟩ := h
    show bodyL G last (b :: r.set k x) = _
    rw [bodyL_yes ⟨h1, h2, h3⟩, if_neg (by rw [h4, List.length_take]; omega), ch_spoil hx h5 (by rw [List.length_drop]; omega), h4]
    rw [show (k + 1) * 56 = 56 + k * 56 by omega, List.take_add]
theorem pg_spoil {b : List Int} (hp : PgIs b) (hb : BsOk b) (i : Nat) (y : Int) (hi : i < 64) (hy : 0 ≤ y ∧ y < 256) (hne : y ≠ b.getD i 0) : ¬ PgIs (b.set i y) := by
  have h1 := (pg_iff hb).1 hp
  have hb2 : BsOk (b.set i y) := fun z hz => by
    rcases List.mem_or_eq_of_mem_set hz with h | h
    · exact hb z h
    · rw [h]; exact hy
  rw [pg_iff hb2, pageOf_changed h1 hb.bs i y hi ⟨hy.1, by omega⟩ hne]
  simp
end Go.Proofs.Ytocdlibnmlcokaa
namespace Go.Proofs.Ytocdlibnmlcokaa
open Go.RowKit Go.Proofs.YtocdlibnmlcokaaW.PrintWords Go.Proofs.YtocdlibnmlcokaaW.PrintLast Go.Proofs.Ytocdlibnmlcokaa.Math
set_option linter.unusedVariables false
set_option linter.unusedSimpArgs false
theorem ch_page {G : Int} : ∀ {bl : List (List Int)} {last : Int} {X : List Int} {k : Nat}, Ch G last X bl → k * 56 < X.length → PgIs (bl.getD k [])
  | [], last, X, k, h, hk => by
    have h : X = [] := h
    rw [h] at hk; simp at hk
  | b :: r, last, X, 0, h, hk => by
    unfold Ch at h
    by_cases h56 : 56 ≤ X.length
    · rw [if_pos h56] at h; exact h.1
    · rw [if_neg h56] at h
      rcases h.1 with ⟨h1, _⟩ | ⟨_, h2, _⟩
      · rw [h1] at hk; simp at hk
      · exact h2
  | b :: r, last, X, k + 1, h, hk => by
    unfold Ch at h
    rw [if_pos (by omega)] at h
    exact ch_page (bl := r) h.2.2.2.2 (by rw [List.length_drop]; omega)
def leftN (ns : List Nt) (bk : Nat) : Nat := if bk = 0 then 0 else fitN ((bk - 1) * 56) ns
theorem leftN_le (ns : List Nt) (bk : Nat) : leftN ns bk ≤ ns.length := by
  unfold leftN
  split
  · omega
  · exact fitN_le _ _
theorem spoilt {S : List (List Int)} {ns : List Nt} {G : Int} (h : Good S (flatF ns) G) (hns : ∀ x ∈ ns, NtR x) {bk : Nat} (hbk : bk < 128) (hk : bk ≠ 0 → (bk - 1) * 56 < (flatF ns).length) {j : Nat} {y : Int} (hj : j < 64) (hy : 0 ≤ y ∧ y < 256) (hne : y ≠ (gBS S bk).getD j 0) :
    BlOk (S.set bk ((gBS S bk).set j y)) ∧ logGen (S.set bk ((gBS S bk).set j y)) = (if bk = 0 then 0 else G) ∧ foundL (S.set bk ((gBS S bk).set j y)) = (ns.take (leftN ns bk), (flatF (ns.take (leftN ns bk))).length) := by
  have hl := h.bl.1
  have hg := h.bl.g (i := bk) (by omega) (by omega)
  have hpg : PgIs (gBS S bk) := by
    by_cases h0 : bk = 0
    · subst h0; exact h.head_is.1.1
    · have := ch_page h.ch (hk h0)
      rw [drop_getD, show bk - 1 + 1 = bk by omega] at this
      exact this
  have hno := pg_spoil hpg hg.2 j y hj hy hne
  generalize hb : (gBS S bk).set j y = b at hno
  have hbb : b.length = 64 ∧ BsOk b := by
    rw [← hb]
    refine ⟨by rw [List.length_set]; exact hg.1, fun z hz => ?_⟩
    rcases List.mem_or_eq_of_mem_set hz with hz | rfl
    · exact hg.2 z hz
    · exact hy
  refine ⟨⟨by rw [List.length_set]; exact hl, fun c hc => ?_⟩, ?_⟩
  · rcases List.mem_or_eq_of_mem_set hc with hc | rfl
    · exact h.bl.2 c hc
    · exact hbb
  by_cases h0 : bk = 0
  · subst h0
    have e0 : gBS (S.set 0 b) 0 = b := by
      show (S.set 0 b).getD 0 [] = b
      rw [getD_set (by omega), if_pos rfl]
    have hh : ¬ headOk (S.set 0 b) := fun hh => hno (by have := hh.1; rwa [e0] at this)
    refine ⟨by unfold logGen; rw [if_neg hh, if_pos rfl], ?_⟩
    unfold foundL logBytes leftN
    rw [if_neg hh, if_pos rfl]
    rfl
  · have e0 : gBS (S.set bk b) 0 = gBS S 0 := by
      show (S.set bk b).getD 0 [] = S.getD 0 []
      rw [getD_set (by omega), if_neg h0]
    have hh : headOk (S.set bk b) := by unfold headOk; rw [e0]; exact h.head_is.1
    have hG : genOf (gBS (S.set bk b) 0) = G := by rw [e0]; exact h.head_is.2
    refine ⟨by unfold logGen; rw [if_pos hh, if_neg h0]; exact hG, ?_⟩
    unfold foundL logBytes leftN
    rw [if_pos hh, if_neg h0, hG]
    have e1 : (S.set bk b).drop 1 = (S.drop 1).set (bk - 1) b := by
      obtain ⟨k, rfl⟩ : ∃ k, bk = k + 1 := ⟨bk - 1, by omega⟩
      cases S with
      | nil => simp at hl
      | cons a r => rfl
    rw [e1, ch_spoil hno h.ch (hk h0)]
    unfold framesL
    exact frames_cut hns _ _ (by rw [List.length_take]; omega)
theorem flat_take {ns : List Nt} {i : Nat} (hi : i < ns.length) : (flatF (ns.take (i + 1))).length = (flatF (ns.take i)).length + (17 + (gN ns i).text.size) := by
  rw [List.take_succ_eq_append_getElem hi, flatF_app, List.length_append, gN_eq (i := (i : Int)) (by simpa using hi)]
  simp only [flatF, List.append_nil, frameL_len, Int.toNat_natCast]
theorem flat_mono (ns : List Nt) {i j : Nat} (h : i ≤ j) : (flatF (ns.take i)).length ≤ (flatF (ns.take j)).length := by
  have e : ns.take i = (ns.take j).take i := by rw [List.take_take, show min i j = i by omega]
  rw [e]
  exact (flatF_pre (ns.take j) i).length_le
theorem left_step {ns : List Nt} {bk i : Nat} (h0 : bk ≠ 0) (hi : i < ns.length) : (flatF (ns.take i)).length + 17 + (gN ns i).text.size ≤ (bk - 1) * 56 ↔ i < leftN ns bk := by
  have h1 := flat_take hi
  unfold leftN
  rw [if_neg h0]
  constructor
  · intro h
    exact fitN_ge ns _ (i + 1) (by omega) (by omega)
  · intro h
    have h2 := flat_mono ns (i := i + 1) (j := fitN ((bk - 1) * 56) ns) (by omega)
    have h3 := fitN_fit ns ((bk - 1) * 56)
    omega
end Go.Proofs.Ytocdlibnmlcokaa
namespace Go.Proofs.Ytocdlibnmlcokaa
open Go.RowKit Go.Proofs.YtocdlibnmlcokaaW.PrintWords Go.Proofs.YtocdlibnmlcokaaW.PrintLast
set_option linter.unusedVariables false
set_option linter.unusedSimpArgs false
theorem row_set8 {w : World} {g n c : Nat} {xs : List Int} {f : List Nat} (hf : rB.Row 5 w (.slice (some ⟨g, 0, none⟩) n c) xs f) (hn : f.Nodup) {j : Nat} (hj : j < xs.length) :
    w.cell? ⟨g, j, none⟩ = some (.int .u8 xs[j]) ∧ w.frozen? ⟨g, j, none⟩ = false ∧ g ∈ f ∧ ∀ x, rB.Row 5 (w.setCell ⟨g, j, none⟩ (.int .u8 x)) (.slice (some ⟨g, 0, none⟩) n c) (xs.set j x) f := by
  obtain ⟨cs, f0, hP, _, _, hgb, hcell, hfr, _, hst⟩ := Rp.Row_elem hf hn j hj
  obtain ⟨hcs, hf0⟩ := hP
  subst hcs; subst hf0
  have e0 : j * rB.d.sz + 0 = j := Nat.mul_one _
  have c1 := hcell 0 _ rfl
  rw [e0] at c1
  refine ⟨c1, hfr j, hgb, fun x => ?_⟩
  obtain ⟨fp', hr', hn', _, he⟩ := hst 0 (.int .u8 x) x [] (by decide) ⟨rfl, rfl⟩ (by simp) (by simp) (.inl rfl)
  rw [he rfl, e0] at hr'
  exact hr'
theorem Own.set8 {w0 w : World} {L : List Rs} {A : Option Addr} {n c : Nat} {xs : List Int} (h : Own w0 w (Rs.row rB 5 (.slice A n c) xs :: L)) {j : Nat} (hj : j < xs.length) :
    ∃ g, A = some ⟨g, 0, none⟩ ∧ n = xs.length ∧ w.cell? ⟨g, j, none⟩ = some (.int .u8 xs[j]) ∧ w.frozen? ⟨g, j, none⟩ = false ∧ ∀ x, Own w0 (w.setCell ⟨g, j, none⟩ (.int .u8 x)) (Rs.row rB 5 (.slice A n c) (xs.set j x) :: L) := by
  obtain ⟨f, hf, hn, _⟩ := h.r0
  obtain ⟨g, cap, hv, _, _⟩ := Rp.Row_form hf (by omega)
  injection hv with hA hnn hc
  subst hA
  obtain ⟨c1, c2, _, _⟩ := row_set8 hf hn hj
  refine ⟨g, rfl, hnn, c1, c2, fun x => h.turn fun f hf hn => ?_⟩
  obtain ⟨_, _, hg, k⟩ := row_set8 hf hn hj
  exact ⟨f, k x, hn, fun b hb => .inl hb, (Kp.set _ _ _ _).mono (fun b hb _ => by rw [List.mem_singleton] at hb; subst hb; exact hg)⟩
end Go.Proofs.Ytocdlibnmlcokaa
namespace Go.Proofs.Ytocdlibnmlcokaa
open Go.RowKit Go.Proofs.YtocdlibnmlcokaaW.PrintWords Go.Proofs.YtocdlibnmlcokaaW.PrintLast
set_option linter.unusedVariables false
set_option linter.unusedSimpArgs false
set_option maxHeartbeats 8000000 in
set_option maxRecDepth 100000 in
theorem fnSpoilt_w (A B : Option Addr) (c d : Nat) (xs ys : List Int) (w : World) (hx : kB.C w A xs.length xs) (hy : kB.C w B ys.length ys) (hb : BsOk xs) (hb2 : BsOk ys) :
    Calls Try.prog 13 #[.slice A xs.length c, .slice B ys.length d] w (Yes w) := by
  suffices H : ∀ Q : Ending → World → Prop, (∀ e w', Yes w e w' → Q e w') → Calls Try.prog 13 #[.slice A xs.length c, .slice B ys.length d] w Q from H _ (fun e w' h => h)
  intro Q hQ
  have hl : xs.length ≤ 9223372036854775807 := hx.2.1
  have hl2 : ys.length ≤ 9223372036854775807 := hy.2.1
  have HQ := Aside0.mk hQ; have HX := Aside0.mk hx; have HY := Aside0.mk hy; have HB := Aside0.mk hb; have HB2 := Aside0.mk hb2; clear hx hy hb hb2 hQ
  by_cases hbig : (xs.length : Int) ≤ 1048576
  rotate_left
  · go_enter Try.func13, Try.ntmps13
    go_wp2_with fail
    exact HQ.out _ _ ⟨rfl, Below.refl _ _⟩
  by_cases hbig2 : (ys.length : Int) ≤ 1048576
  rotate_left
  · go_enter Try.func13, Try.ntmps13
    go_wp2_with fail
    exact HQ.out _ _ ⟨rfl, Below.refl _ _⟩
  have HN1 := Aside0.mk (notesOf_ok xs); have HN2 := Aside0.mk (notesOf_ok ys)
  obtain ⟨ns, hns⟩ : ∃ ns, ns = notesOf xs := ⟨_, rfl⟩
  obtain ⟨ms, hms⟩ : ∃ ms, ms = notesOf ys := ⟨_, rfl⟩
  rw [← hns] at HN1
  rw [← hms] at HN2
  have HNS := Aside0.mk hns; have HMS := Aside0.mk hms; clear hns hms
  have O := Aside0.mk (Own.nil w)
  go_enter Try.func13, Try.ntmps13
  go_upto_region 3 with (fail)
  go_wp2_with fail
  refine (notes_c A c xs _ HX.out HB.out).mono ?_
  rw [← HNS.out]
  intro e w1 hg
  obtain ⟨v, rfl, k⟩ := own_row hg
  replace O := Aside0.mk (O.out.app1 k); clear k hg
  obtain ⟨N0, nc0, rfl, hnc0⟩ := O.out.f0
  have HNC := Aside0.mk hnc0; clear hnc0
  go_wp2_with fail
  refine (wWritten_c N0 nc0 ns B d ys _ O.out.c0 (Kd.C_below HY.out O.out.bel) HB2.out HN1.out.1 HN1.out.2).mono ?_
  rintro e w2 ⟨s, S, ws, L, vn, v0, v1, rfl, hst, hws, k⟩
  replace O := Aside0.mk (O.out.app3 k); clear k
  obtain ⟨An, Anc, rfl, _⟩ := O.out.f0
  obtain ⟨A0, A0c, rfl, hc0⟩ := O.out.f1
  obtain ⟨A1, A1c, rfl, _⟩ := O.out.f2
  have HC0 := Aside0.mk hc0; have HST := Aside0.mk hst; clear hc0 hst hws
  have hn11 : ns.length ≤ 11 := HN1.out.2
  have hs : s ≤ ns.length := HST.out.sl
  go_upto_region 5 with (fail)
  generalize hw : w2.alloc _ = w3
  replace O := Aside0.mk (O.out.of hw); clear hw
  generalize w2.heap.size = g6 at O ⊢
  have p0 := (blk_cell O.out.b0 0).trans rfl; have p1 := (blk_cell O.out.b0 1).trans rfl; have p2 := (blk_cell O.out.b0 2).trans rfl; have p3 := (blk_cell O.out.b0 3).trans rfl; have p4 := (blk_cell O.out.b0 4).trans rfl; have p5 := (blk_cell O.out.b0 5).trans rfl; have p6 := (blk_cell O.out.b0 6).trans rfl; have p7 := (blk_cell O.out.b0 7).trans rfl
  go_wp2_with fail
  refine (implCommit_yes An A0 A1 Anc A0c A1c true true ns L 1 s S ws _ O.out.c1 O.out.c2 O.out.c3 HC0.out HST.out.bk HST.out.right).mono ?_
  obtain ⟨S3, hcm, hst3⟩ := HST.out.safe
  rw [hcm]
  have HST3 := Aside0.mk hst3; clear hcm hst3
  rintro e w4 ⟨vn, v0, v1, rfl, k⟩
  simp only at k
  replace O := Aside0.mk (O.out.app3 k); clear k p0 p1 p2 p3 p4 p5 p6 p7
  obtain ⟨Cn, Cnc, rfl, _⟩ := O.out.f0
  obtain ⟨C0, C0c, rfl, hc0⟩ := O.out.f1
  obtain ⟨C1, C1c, rfl, _⟩ := O.out.f2
  have HE0 := Aside0.mk hc0; clear hc0
  have p0 := (blk_cell O.out.b3 0).trans rfl; have p1 := (blk_cell O.out.b3 1).trans rfl; have p2 := (blk_cell O.out.b3 2).trans rfl; have p3 := (blk_cell O.out.b3 3).trans rfl; have p4 := (blk_cell O.out.b3 4).trans rfl; have p5 := (blk_cell O.out.b3 5).trans rfl; have p6 := (blk_cell O.out.b3 6).trans rfl; have p7 := (blk_cell O.out.b3 7).trans rfl
  have z0 := blk_frozen O.out.b3 0; have z1 := blk_frozen O.out.b3 1; have z2 := blk_frozen O.out.b3 2; have z3 := blk_frozen O.out.b3 3; have z4 := blk_frozen O.out.b3 4; have z5 := blk_frozen O.out.b3 5; have z6 := blk_frozen O.out.b3 6; have z7 := blk_frozen O.out.b3 7
  go_upto_region 6 with (fail)
  generalize hw : World.setCell _ _ _ = w5
  replace O := Aside0.mk (Own.only [_, _, _, _, _] (O.out.p3.st8 hw).p7); clear hw p0 p1 p2 p3 p4 p5 p6 p7 z0 z1 z2 z3 z4 z5 z6 z7
  have hS128 : (S3.length : Int) = 128 := by have := HST3.out.good0.bl.1; simp only at this; omega
  obtain ⟨_, E128⟩ := eqT hS128
  have hL : ((flatF ns).length : Nat) = L := by have := HST3.out.lg_is; injection this with _ _ h3; exact h3.symm
  have hL7 := HST3.out.len
  have hL0 : 0 ≤ L ∧ L ≤ 7112 := by omega
  obtain ⟨pg, hpg⟩ : ∃ pg : Nat, (pg : Int) = (L + 56 - 1) / 56 := ⟨((L + 56 - 1) / 56).toNat, by omega⟩
  have htd : Int.tdiv (L + 56 - 1) 56 = pg := by rw [Int.tdiv_eq_ediv_of_nonneg (by omega), hpg]
  have hpg2 : pg ≤ 127 := by omega
  have hwb := wB_range HB2.out 1
  obtain ⟨bk, hbk⟩ : ∃ bk : Nat, (bk : Int) = wB ys 1 % (pg + 1) := ⟨(wB ys 1 % ((pg : Int) + 1)).toNat, by have := Int.emod_nonneg (wB ys 1) (by omega : ((pg : Int) + 1) ≠ 0); omega⟩
  have hbk2 : bk ≤ pg := by have := Int.emod_lt_of_pos (wB ys 1) (by omega : 0 < ((pg : Int) + 1)); omega
  have htm : Int.tmod (wB ys 1) (pg + 1) = bk := by rw [Int.tmod_eq_emod_of_nonneg hwb.1, hbk]
  have HPG := Aside0.mk hpg; have HLL := Aside0.mk hL
  clear hS128 hpg hbk hL hL7
  have q0 := (blk_cell O.out.b1 0).trans rfl; have q3 := (blk_cell O.out.b1 3).trans rfl; have q6 := (blk_cell O.out.b1 6).trans rfl
  go_upto_region 9 with (fail)
  clear q0 q3 q6
  go_wp2_with fail
  refine (wByte_c _ _ _ 1 _ (Kd.C_below HY.out O.out.bel) HB2.out (by omega) (by omega)).mono ?_
  rintro e w6 ⟨rfl, rfl⟩
  go_upto_region 10 with (fail)
  have hS1 : S3.length = 128 := HST3.out.good0.bl.1
  replace O := Aside0.mk O.out.empty
  obtain ⟨ad, R0, rc, e1, hr1, hrl, hrC⟩ := at_BS O.out.c4 (bk : Int) (by omega) (by omega)
  cases e1
  obtain ⟨b, hb⟩ : ∃ b, b = gBS S3 (bk : Int) := ⟨_, rfl⟩
  rw [← hb] at hr1 hrl hrC
  have hbok : b.length = 64 ∧ BsOk b := by rw [hb]; exact HST3.out.good0.bl.g (by omega) (by omega)
  simp only [Int.toNat_natCast] at hr1
  have HBE := Aside0.mk hb; have HRC : Aside0 (kB.C (w6.alloc (.cells #[] 5)) R0 b.length b) := ⟨hrC⟩
  have HBO := Aside0.mk hbok.2
  have hb64 := hbok.1
  have HB64 := Aside0.mk hb64
  have hbl1 : (bk : Int) < (S3.length : Int) := by omega
  clear hb hrC hbok hS1 hb64
  have q6 := (blk_cell O.out.b2 6).trans rfl
  go_upto_region 11 with (at_builtin; go_loud (refine Own.app_row (enc := Value.int .u8) (h1 := fun _ => rfl) 0 rfl (.tmp 53) (.tmp 59) 22 5 (.int .u8 0) 1 rfl Try.underlying22 info5 rfl (by omega) _ [] b R0 b.length rc rfl rfl O.out HRC.out (by have := HB64.out; simp only [List.length_nil]; omega) ?_); intro v5 w7 hX; have O5 := Aside0.mk hX; clear hX)
  clear O q6 hr1 HRC
  rw [List.nil_append] at O5
  obtain ⟨An5, c5, rfl, _⟩ := O5.out.f0
  have hGD : Good S3 (flatF ns) 1 := HST3.out.good1
  have hwb2 := wB_range HB2.out 2
  have hwb4 := wB_range HB2.out 4
  obtain ⟨j, hj⟩ : ∃ j : Nat, (j : Int) = wB ys 2 % 64 := ⟨(wB ys 2 % 64).toNat, by omega⟩
  have htm2 : Int.tmod (wB ys 2) 64 = j := by rw [Int.tmod_eq_emod_of_nonneg hwb2.1, hj]
  have hj64 : j < 64 := by omega
  obtain ⟨m, hm⟩ : ∃ m : Int, m = wB ys 4 % 255 := ⟨_, rfl⟩
  have htm4 : Int.tmod (wB ys 4) 255 = m := by rw [Int.tmod_eq_emod_of_nonneg hwb4.1, hm]
  have hm0 : 0 ≤ m ∧ m < 255 := by omega
  clear hj hm
  obtain ⟨gb, rfl, _, hcb, hzb, hset⟩ := O5.out.set8 (j := j) (by have := HB64.out; omega)
  have hvr : 0 ≤ b[j]'(by have := HB64.out; omega) ∧ b[j]'(by have := HB64.out; omega) < 256 := HBO.out _ (List.getElem_mem _)
  have hgd : b.getD j 0 = b[j]'(by have := HB64.out; omega) := by rw [List.getD_eq_getElem?_getD, List.getElem?_eq_getElem]; rfl
  generalize b[j]'(by have := HB64.out; omega) = v at hcb hvr hgd
  obtain ⟨cc, hcc⟩ : ∃ cc, cc = IntKind.u8.wrap (wrap64 (1 + m)) := ⟨_, rfl⟩
  obtain ⟨y, hy⟩ : ∃ y, y = IntKind.u8.wrap (v + cc) := ⟨_, rfl⟩
  have hyr : (0 ≤ y ∧ y < 256) ∧ y ≠ v := by rw [hy, hcc, u8_w, u8_w, show wrap64 (1 + m) = 1 + m by unfold wrap64; omega]; omega
  clear hset
  have hpgs : bk ≠ 0 → (bk - 1) * 56 < (flatF ns).length := fun h0 => by have := HPG.out; have := HLL.out; omega
  have hsp := spoilt (bk := bk) hGD HST3.out.nr (by omega) hpgs hj64 hyr.1 (by rw [← HBE.out, hgd]; exact hyr.2)
  rw [← HBE.out] at hsp
  obtain ⟨b2, hb2⟩ : ∃ b2, b2 = b.set j y := ⟨_, rfl⟩
  rw [← hb2] at hsp
  have HBB2 := Aside0.mk hb2
  have hb2l : b2.length = b.length := by rw [hb2, List.length_set]
  obtain ⟨S4, hS4⟩ : ∃ S4, S4 = S3.set bk b2 := ⟨_, rfl⟩
  rw [← hS4] at hsp
  obtain ⟨N, hN⟩ : ∃ N, N = leftN ns bk := ⟨_, rfl⟩
  obtain ⟨F, hF⟩ : ∃ F, F = (flatF (ns.take N)).length := ⟨_, rfl⟩
  obtain ⟨ns4, hns4⟩ : ∃ ns4, ns4 = ns.take N := ⟨_, rfl⟩
  obtain ⟨G4, hG4⟩ : ∃ G4 : Int, G4 = if bk = 0 then 0 else 1 := ⟨_, rfl⟩
  have hsc : ∃ s : Nat, scanL S4 [] = ⟨true, ns4, (F : Nat), G4, (s : Nat)⟩ := by
    refine ⟨sameN (foundL S4).1 (foundL S4).1, ?_⟩
    unfold scanL
    rw [show syncL S4 [] = S4 from sync_nil S4, hsp.2.1, hsp.2.2, ← hN, ← hF, ← hns4, ← hG4]
  have HG4 := Aside0.mk hG4; clear hG4
  obtain ⟨s4, hsc⟩ := hsc
  have hNle : N ≤ ns.length := hN ▸ leftN_le ns bk
  have HSC := Aside0.mk hsc; have HSP := Aside0.mk hsp.1; have HS4 := Aside0.mk hS4; have HN := Aside0.mk hN; have HF := Aside0.mk hF; have HNS4 := Aside0.mk hns4; have HB2L := Aside0.mk hb2l; have HY := Aside0.mk HY.out
  have HYV := Aside0.mk hy; have HCC := Aside0.mk hcc
  clear hcc hy hsc hsp hS4 hN hF hns4 hb2l hpgs hgd hb2 hvr
  obtain ⟨_, E64⟩ := eqT (show (b.length : Int) = 64 by have := HB64.out; omega)
  go_upto_region 13 with (fail)
  clear hyr
  refine sta (fun w' => w'.cell? ⟨gb, j, none⟩ = some (.int .u8 v)) [13] 14 hcb (fun hS => ?_)
  clear hcb
  replace O5 := Aside0.mk O5.out.drew
  generalize hwd : World.drew _ = wd at O5 hS ⊢
  obtain ⟨g', e', _, _, _, hs'⟩ := O5.out.set8 (j := j) (by have := HB64.out; omega)
  injection e' with e'
  injection e' with e' _ _
  subst e'
  have hs' := hs' y
  rw [← HBB2.out] at hs'
  have HSET := Aside0.mk hs'
  clear hs'
  refine pu 0 1 ?_
  refine pu 1 3 ?_
  refine pu 6 67 ?_
  refine on 2 71 (fun K hK => ?_)
  refine ca (wByte_c _ _ _ 2 _ (Kd.C_below HY.out O5.out.bel) HB2.out (by omega) (by omega)) Try.func35 ?_
  rintro e w6' ⟨rfl, rfl⟩
  refine ⟨_, rfl, nx hK hS (fun hS => ?_)⟩
  clear hK K
  refine pu (v := .int .i64 j) 3 79 ?_ (hr := fun w' => by go_simp; all_goals (first | rfl | omega))
  have hjb : j < b.length := by have := HB64.out; omega
  refine pu 4 95 ?_
  refine tk 5 127 hS ?_
  refine on 7 255 (fun K hK => ?_)
  refine ca (wByte_c _ _ _ 4 _ (Kd.C_below HY.out O5.out.bel) HB2.out (by omega) (by omega)) Try.func35 ?_
  rintro e w6' ⟨rfl, rfl⟩
  refine ⟨_, rfl, nx hK hS (fun hS => ?_)⟩
  clear hK K
  refine pu (v := .int .i64 m) 8 511 ?_ (hr := fun w' => by go_simp; all_goals (first | rfl | omega))
  refine pu 9 1023 ?_
  refine pu (v := .int .u8 cc) 10 2047 ?_ (hr := fun w' => by rw [HCC.out]; go_simp; all_goals rfl)
  refine pu (v := .int .u8 y) 11 4095 ?_ (hr := fun w' => by rw [HYV.out]; go_simp; all_goals rfl)
  refine pu 12 8191 ?_
  refine la 13 16383 (fun K hK => ?_)
  refine st ?_
  generalize hw : World.setCell _ _ _ = w10 at HSET ⊢
  clear hw
  replace O := HSET; clear HSET O5 hS
  refine nl hK (dn ?_)
  clear hK K hjb hzb
  have q6 := (blk_cell O.out.b2 6).trans rfl; have q7 := (blk_cell O.out.b2 7).trans rfl
  go_wp2_with fail
  refine (implSync_yes _ _ _ _ S3 [] _ O.out.c4 O.out.c5 HST3.out.dk).mono ?_
  intro e w11 hg
  rw [sync_nil] at hg
  obtain ⟨v0, v1, rfl, k⟩ := own_disk hg
  replace O := Aside0.mk (O.out.app2 k); clear k hg q6 q7
  obtain ⟨D0, D0c, rfl, _⟩ := O.out.f0
  obtain ⟨D1, D1c, rfl, _⟩ := O.out.f1
  have hput := implPut_yes D0 D1 _ D0c D1c c5 S3 [] bk b2 w11 O.out.c0 O.out.c1 O.out.c2 ⟨HST3.out.dk, by omega, by omega, by rw [HB2L.out]; exact HB64.out, by simp⟩
  rw [HB2L.out] at hput
  have HPUT := Aside0.mk hput; clear hput
  go_wp2_with fail
  refine HPUT.out.mono ?_
  clear HPUT
  intro e w12 hg
  rw [List.nil_append] at hg
  obtain ⟨W1, hW1⟩ : ∃ W1, W1 = [(⟨(bk : Int), b2⟩ : Wr)] := ⟨_, rfl⟩
  rw [← hW1] at hg
  obtain ⟨v0, v1, rfl, k⟩ := own_disk hg
  replace O := Aside0.mk (O.out.app2 k); clear k hg
  obtain ⟨F0, F0c, rfl, _⟩ := O.out.f0
  obtain ⟨F1, F1c, rfl, _⟩ := O.out.f1
  have hsy : settleL S3 W1 (kfL true []) = S4 := by
    have h := sync_apply S3 W1
    rw [hW1] at h ⊢
    rw [HS4.out]; exact h
  have hdk : DkOk S3 W1 := by
    rw [hW1]
    refine ⟨HST3.out.dk.1, by simp, HST3.out.dk.2.2.1, fun x hx => ?_⟩
    rw [List.mem_singleton] at hx
    subst hx
    exact ⟨by show (0 : Int) ≤ (bk : Int); omega, by show (bk : Int) < 128; omega, by show b2.length = 64; rw [HB2L.out]; exact HB64.out⟩
  have HSY := Aside0.mk hsy; have HDK := Aside0.mk hdk; clear hsy hdk hW1
  go_wp2_with fail
  refine (implSync_yes _ _ _ _ S3 W1 _ O.out.c0 O.out.c1 HDK.out).mono ?_
  rw [HSY.out]
  intro e w13 hg
  obtain ⟨v0, v1, rfl, k⟩ := own_disk hg
  replace O := Aside0.mk (O.out.app2 k); clear k hg HSY HDK
  obtain ⟨G0, G0c, rfl, hg0⟩ := O.out.f0
  obtain ⟨G1, G1c, rfl, _⟩ := O.out.f1
  have HG0 := Aside0.mk hg0; clear hg0
  go_wp2_with fail
  have hd := dk_of HSP.out (ws := []) (by simp) (fun x hx => by simp at hx)
  refine (implScan_yes _ _ _ _ S4 [] _ O.out.c0 O.out.c1 HG0.out hd.1 hd.2).mono ?_
  clear hd
  rw [HSC.out]
  rintro e w14 ⟨v14, rfl, k⟩
  simp only at k
  replace O := Aside0.mk (O.out.app1 k); clear k
  obtain ⟨An4, Anc4, rfl, _⟩ := O.out.f0
  simp only
  clear HG0
  go_upto_region 15 with (fail)
  generalize hw : World.alloc _ _ = w15
  replace O := Aside0.mk (O.out.of hw); clear hw
  generalize w14.heap.size = g11 at O ⊢
  replace O := Aside0.mk (Own.only [_, _, _] O.out.p9)
  go_wp2
  go_loopg [12, 13] (ns.length + 1) (fun m v12 v13 wr => ∃ (i far : Nat), v12 = .int .i64 i ∧ v13 = .int .i64 far ∧ Aside0 (i ≤ N ∧ far = (flatF (ns.take i)).length ∧ ns.length + 1 - i ≤ m) ∧
    Aside0 (Own w wr [Rs.row rN 33 (.slice N0 ns.length nc0) ns, Rs.box g11 59 #[.bool true, .slice An4 ns4.length Anc4, .int .i64 (F : Nat), .int .i64 G4, .int .i64 (s4 : Nat)], Rs.row rN 33 (.slice An4 ns4.length Anc4) ns4]))
  case atStart => exact ⟨0, 0, rfl, rfl, ⟨by omega, by simp [flatF], by omega⟩, O⟩
  case round =>
    clear O
    obtain ⟨i, far, rfl, rfl, HI, O⟩ := hrel
    have hfar : far ≤ 7112 := by have h1 := (flatF_pre ns i).length_le; have := HLL.out; have := HI.out.2.1; omega
    have hNd := HN.out
    have hG4 := HG4.out; clear HG4
    by_cases h0 : bk = 0
    · subst h0
      have hi0 : i = N := by have := HI.out.1; have hN0 : N = 0 := hNd; omega
      have hfF : far = F := by rw [HI.out.2.1, HF.out, hi0]
      have HI0 := Aside0.mk hi0; have hiN : i ≤ ns.length := (by omega); have hnc : ns.length ≤ nc0 := HNC.out; clear hi0
      rw [if_pos rfl] at hG4
      subst hG4
      subst hfF
      clear hNd
      go_upto_region 20 with (fail)
      have q0 := (blk_cell O.out.b1 0).trans rfl; have q1 := (blk_cell O.out.b1 1).trans rfl; have q2 := (blk_cell O.out.b1 2).trans rfl; have q3 := (blk_cell O.out.b1 3).trans rfl
      refine sta (fun w' => w'.cell? ⟨g11, 0, none⟩ = some (.bool true) ∧ w'.cell? ⟨g11, 1, none⟩ = some (.slice An4 ns4.length Anc4) ∧ w'.cell? ⟨g11, 2, none⟩ = some (.int .i64 (far : Nat)) ∧ w'.cell? ⟨g11, 3, none⟩ = some (.int .i64 0)) [] 25 ⟨q0, q1, q2, q3⟩ (fun hS => ?_)
      clear q0 q1 q2 q3
      replace O := Aside0.mk O.out.drew
      generalize World.drew _ = w20 at O hS ⊢
      have HPT : Aside0 (rN.d.C w20 N0 ns4.length ns4) := ⟨by
        have h1 : rN.d.C w20 N0 (ns.take N).length (ns.take N) := Kd.C_take O.out.c0 hNle
        rwa [← HNS4.out] at h1⟩
      have HN4 : Aside0 (ns4.length = N) := ⟨by rw [HNS4.out, List.length_take]; omega⟩
      have P9 : Aside0 (Calls Try.prog 69 #[.slice An4 ns4.length Anc4, .slice N0 i nc0] w20 (Yes w20)) := ⟨by
        have e : i = ns4.length := by have := HI0.out; have := HN4.out; omega
        rw [e]
        exact wNotes_t _ _ _ _ ns4 _ O.out.c2 HPT.out⟩
      refine pu 0 1 ?_
      refine tk 1 3 hS ?_
      refine pu 2 7 ?_
      refine pu 3 15 ?_
      refine tk 4 31 hS ?_
      refine pu 5 63 ?_
      refine pu 6 127 ?_
      refine pu (v := .slice N0 i nc0) 7 255 ?_ (hr := fun w' => by go_simp; all_goals (first | rfl | (intro h; omega)))
      refine on 8 511 (fun K hK => ?_)
      refine ca P9.out Try.func69 ?_
      rintro e w42 ⟨rfl, hb⟩
      replace O := Aside0.mk (O.out.below hb); clear hb
      refine ⟨_, rfl, nx hK ⟨(blk_cell O.out.b1 0).trans rfl, (blk_cell O.out.b1 1).trans rfl, (blk_cell O.out.b1 2).trans rfl, (blk_cell O.out.b1 3).trans rfl⟩ (fun hS => ?_)⟩
      clear hK K
      refine pu 9 1023 ?_
      refine pu 10 2047 ?_
      refine pu 11 4095 ?_
      refine tk 12 8191 hS ?_
      refine pu 13 16383 ?_
      refine pu (v := .bool true) 14 32767 ?_ (hr := fun w' => by go_simp; all_goals (first | rfl | exact decide_eq_true (by omega) | omega))
      refine pu 15 65535 ?_
      refine pu 16 131071 ?_
      refine pu 17 262143 ?_
      refine tk 18 524287 hS ?_
      refine pu 19 1048575 ?_
      refine pu 20 2097151 ?_
      refine pu 21 4194303 ?_
      refine pu (v := .bool true) 22 8388607 ?_ (hr := fun w' => by go_simp; all_goals (first | rfl | exact decide_eq_true (by omega) | omega))
      refine pu 23 16777215 ?_
      refine pu 24 33554431 (dn ?_)
      go_wp2
      exact HQ.out _ _ ⟨rfl, O.out.bel⟩
    · rw [if_neg h0] at hG4
      subst hG4
      by_cases hil : i < ns.length
      · have hst := left_step h0 hil
        rw [← hNd] at hst
        clear hNd
        have hfi := flat_take hil
        obtain ⟨ad, e1, a0, a1, a2, a3, a4⟩ := at_N O.out.c0 (i : Int) (by omega) (by omega)
        cases e1
        simp only [Int.toNat_natCast] at a0 a1 a2 a3 a4
        have hsz : (gN ns i).text.size ≤ 200 := by rw [gN_eq (by omega)]; exact (HST3.out.nr _ (List.getElem_mem _)).1.2.2.2
        rw [← HI.out.2.1] at hst hfi
        generalize gN ns i = x at a0 a1 a2 a3 a4 hst hfi hsz
        have HFI := Aside0.mk hfi; clear hfi
        by_cases hlt : i < N
        · have hle := hst.2 hlt
          have HST5 := Aside0.mk hst; clear hst
          have hle2 : (far : Int) + 17 + x.text.size ≤ ((bk : Int) - 1) * 56 := by omega
          go_upto_region 18 with (fail)
          go_wp2
          go_roundg (gk - 1)
          case measure => have := HI.out; omega
          case rel => exact ⟨i + 1, far + (17 + x.text.size), by first | rfl | (congr 1; omega), by first | rfl | (congr 1; omega), ⟨by omega, HFI.out.symm, by have := HI.out; omega⟩, O⟩
        · have hle : ¬ (far : Int) + 17 + x.text.size ≤ ((bk : Int) - 1) * 56 := fun h => hlt (hst.1 (by omega))
          clear hst
          have hi0 : i = N := by have := HI.out.1; omega
          have hfF : far = F := by rw [HI.out.2.1, HF.out, hi0]
          have HI0 := Aside0.mk hi0; have hiN : i ≤ ns.length := (by omega); have hnc : ns.length ≤ nc0 := HNC.out; clear hi0
          subst hfF
          obtain ⟨EB, _⟩ := eqF (show ¬ (bk : Int) = 0 by omega)
          go_upto_region 20 with (fail)
          have q0 := (blk_cell O.out.b1 0).trans rfl; have q1 := (blk_cell O.out.b1 1).trans rfl; have q2 := (blk_cell O.out.b1 2).trans rfl; have q3 := (blk_cell O.out.b1 3).trans rfl
          refine sta (fun w' => w'.cell? ⟨g11, 0, none⟩ = some (.bool true) ∧ w'.cell? ⟨g11, 1, none⟩ = some (.slice An4 ns4.length Anc4) ∧ w'.cell? ⟨g11, 2, none⟩ = some (.int .i64 (far : Nat)) ∧ w'.cell? ⟨g11, 3, none⟩ = some (.int .i64 1)) [] 25 ⟨q0, q1, q2, q3⟩ (fun hS => ?_)
          clear q0 q1 q2 q3
          replace O := Aside0.mk O.out.drew
          generalize World.drew _ = w20 at O hS ⊢
          have HPT : Aside0 (rN.d.C w20 (some ad) ns4.length ns4) := ⟨by
            have h1 : rN.d.C w20 (some ad) (ns.take N).length (ns.take N) := Kd.C_take O.out.c0 hNle
            rwa [← HNS4.out] at h1⟩
          have HN4 : Aside0 (ns4.length = N) := ⟨by rw [HNS4.out, List.length_take]; omega⟩
          have P9 : Aside0 (Calls Try.prog 69 #[.slice An4 ns4.length Anc4, .slice (some ad) i nc0] w20 (Yes w20)) := ⟨by
            have e : i = ns4.length := by have := HI0.out; have := HN4.out; omega
            rw [e]
            exact wNotes_t _ _ _ _ ns4 _ O.out.c2 HPT.out⟩
          refine pu 0 1 ?_
          refine tk 1 3 hS ?_
          refine pu 2 7 ?_
          refine pu 3 15 ?_
          refine tk 4 31 hS ?_
          refine pu 5 63 ?_
          refine pu 6 127 ?_
          refine pu (v := .slice (some ad) i nc0) 7 255 ?_ (hr := fun w' => by go_simp; all_goals (first | rfl | (intro h; omega)))
          refine on 8 511 (fun K hK => ?_)
          refine ca P9.out Try.func69 ?_
          rintro e w42 ⟨rfl, hb⟩
          replace O := Aside0.mk (O.out.below hb); clear hb
          refine ⟨_, rfl, nx hK ⟨(blk_cell O.out.b1 0).trans rfl, (blk_cell O.out.b1 1).trans rfl, (blk_cell O.out.b1 2).trans rfl, (blk_cell O.out.b1 3).trans rfl⟩ (fun hS => ?_)⟩
          clear hK K
          refine pu 9 1023 ?_
          refine pu 10 2047 ?_
          refine pu 11 4095 ?_
          refine tk 12 8191 hS ?_
          refine pu 13 16383 ?_
          refine pu (v := .bool true) 14 32767 ?_ (hr := fun w' => by go_simp; all_goals (first | rfl | exact decide_eq_true (by omega) | omega))
          refine pu 15 65535 ?_
          refine pu 16 131071 ?_
          refine pu 17 262143 ?_
          refine tk 18 524287 hS ?_
          refine pu 19 1048575 ?_
          refine pu 20 2097151 ?_
          refine pu 21 4194303 ?_
          refine pu (v := .bool true) 22 8388607 ?_ (hr := fun w' => by go_simp; all_goals (first | rfl | exact decide_eq_true (by omega) | omega))
          refine pu 23 16777215 ?_
          refine pu 24 33554431 (dn ?_)
          go_wp2
          exact HQ.out _ _ ⟨rfl, O.out.bel⟩
      · have hi0 : i = N := by have := HI.out.1; omega
        have hfF : far = F := by rw [HI.out.2.1, HF.out, hi0]
        have HI0 := Aside0.mk hi0; have hiN : i ≤ ns.length := (by omega); have hnc : ns.length ≤ nc0 := HNC.out; clear hi0
        subst hfF
        clear hNd
        obtain ⟨EB, _⟩ := eqF (show ¬ (bk : Int) = 0 by omega)
        go_upto_region 20 with (fail)
        have q0 := (blk_cell O.out.b1 0).trans rfl; have q1 := (blk_cell O.out.b1 1).trans rfl; have q2 := (blk_cell O.out.b1 2).trans rfl; have q3 := (blk_cell O.out.b1 3).trans rfl
        refine sta (fun w' => w'.cell? ⟨g11, 0, none⟩ = some (.bool true) ∧ w'.cell? ⟨g11, 1, none⟩ = some (.slice An4 ns4.length Anc4) ∧ w'.cell? ⟨g11, 2, none⟩ = some (.int .i64 (far : Nat)) ∧ w'.cell? ⟨g11, 3, none⟩ = some (.int .i64 1)) [] 25 ⟨q0, q1, q2, q3⟩ (fun hS => ?_)
        clear q0 q1 q2 q3
        replace O := Aside0.mk O.out.drew
        generalize World.drew _ = w20 at O hS ⊢
        have HPT : Aside0 (rN.d.C w20 N0 ns4.length ns4) := ⟨by
          have h1 : rN.d.C w20 N0 (ns.take N).length (ns.take N) := Kd.C_take O.out.c0 hNle
          rwa [← HNS4.out] at h1⟩
        have HN4 : Aside0 (ns4.length = N) := ⟨by rw [HNS4.out, List.length_take]; omega⟩
        have P9 : Aside0 (Calls Try.prog 69 #[.slice An4 ns4.length Anc4, .slice N0 i nc0] w20 (Yes w20)) := ⟨by
          have e : i = ns4.length := by have := HI0.out; have := HN4.out; omega
          rw [e]
          exact wNotes_t _ _ _ _ ns4 _ O.out.c2 HPT.out⟩
        refine pu 0 1 ?_
        refine tk 1 3 hS ?_
        refine pu 2 7 ?_
        refine pu 3 15 ?_
        refine tk 4 31 hS ?_
        refine pu 5 63 ?_
        refine pu 6 127 ?_
        refine pu (v := .slice N0 i nc0) 7 255 ?_ (hr := fun w' => by go_simp; all_goals (first | rfl | (intro h; omega)))
        refine on 8 511 (fun K hK => ?_)
        refine ca P9.out Try.func69 ?_
        rintro e w42 ⟨rfl, hb⟩
        replace O := Aside0.mk (O.out.below hb); clear hb
        refine ⟨_, rfl, nx hK ⟨(blk_cell O.out.b1 0).trans rfl, (blk_cell O.out.b1 1).trans rfl, (blk_cell O.out.b1 2).trans rfl, (blk_cell O.out.b1 3).trans rfl⟩ (fun hS => ?_)⟩
        clear hK K
        refine pu 9 1023 ?_
        refine pu 10 2047 ?_
        refine pu 11 4095 ?_
        refine tk 12 8191 hS ?_
        refine pu 13 16383 ?_
        refine pu (v := .bool true) 14 32767 ?_ (hr := fun w' => by go_simp; all_goals (first | rfl | exact decide_eq_true (by omega) | omega))
        refine pu 15 65535 ?_
        refine pu 16 131071 ?_
        refine pu 17 262143 ?_
        refine tk 18 524287 hS ?_
        refine pu 19 1048575 ?_
        refine pu 20 2097151 ?_
        refine pu 21 4194303 ?_
        refine pu (v := .bool true) 22 8388607 ?_ (hr := fun w' => by go_simp; all_goals (first | rfl | exact decide_eq_true (by omega) | omega))
        refine pu 23 16777215 ?_
        refine pu 24 33554431 (dn ?_)
        go_wp2
        exact HQ.out _ _ ⟨rfl, O.out.bel⟩
end Go.Proofs.Ytocdlibnmlcokaa
