/- Contracts and words that the laws rest on, part 3: for every world; conditions as each theorem says. -/
import Derived.Laws.StructEq
import Derived.ChangeArms
import Derived.ChangeSlices
import Derived.Deep.Slices
import Derived.Test.YtocdlibnmlcokaaKTT2
namespace Go.Proofs.Ytocdlibnmlcokaa
open Go.RowKit Go.Proofs.YtocdlibnmlcokaaW.PrintWords Go.Proofs.YtocdlibnmlcokaaW.PrintLast
set_option linter.unusedVariables false
set_option linter.unusedSimpArgs false
set_option maxHeartbeats 8000000 in
set_option maxRecDepth 100000 in
theorem found_yes (A : Option Addr) (c : Nat) (bs : List (List Int)) (X : List Int) (w : World) (hx : rBS.d.C w A bs.length bs) (hc : bs.length ≤ c) (hb : BlOk bs) (hh : headOk bs)
    (hX : BsOk X) (hXl : X.length ≤ 10000) (gen : Int) (hgen : genOf (gBS bs 0) = gen) (hXe : bodyL gen 0 (bs.drop 1) = X) (Q : Ending → World → Prop) (hQ : ∀ e w', GotFound w (framesL X).1 (framesL X).2 gen (X.take (framesL X).2) e w' → Q e w') :
    Calls Try.prog 109 #[.slice A bs.length c] w Q := by
  have hl1 : 127 < bs.length := by have := hb.1; omega
  have hl2 : bs.length ≤ 128 := by have := hb.1; omega
  have HX := Aside0.mk hx; have HBL := Aside0.mk hb; have HH := Aside0.mk hh; have HOK := Aside0.mk hX; have HXE := Aside0.mk hXe; have HXL := Aside0.mk hXl; have HGEN := Aside0.mk hgen; have HQ := Aside0.mk hQ; clear hx hb hh hX hXe hXl hgen hQ
  go_enter Try.func109, Try.ntmps109
  go_upto_region 2 with (fail)
  generalize hw : World.alloc (World.alloc w _) _ = w1
  have O := Aside0.mk ((Own.nil w).of2 hw); clear hw
  obtain ⟨ad, A0, c0, e1, hc1, hle, hC1⟩ := at_BS (Kd.C_below HX.out O.out.bel) 0 (by omega) (by omega)
  cases e1
  simp only [show (0 : Int).toNat = 0 from rfl, Go.Addr.add, if_true] at hc1
  have HC1 := Aside0.mk hC1; have HLE := Aside0.mk hle
  clear hC1 hle
  go_wp2_with fail
  refine (implPageOf_yes _ _ _ _ HC1.out HLE.out (HBL.out.g (by omega) (by omega)).2 HH.out.1).mono ?_
  intro e w2 hg
  rw [HGEN.out] at hg
  obtain ⟨v, rfl, k⟩ := own_pg hg
  replace O := Aside0.mk (O.out.app1 k); clear k hg
  obtain ⟨P0, hP⟩ : ∃ P, P = bytesOf (gBS bs 0) := ⟨_, rfl⟩
  have hp0 : P0.length ≤ 0 := by rw [hP, HH.out.2]; exact Nat.le_refl _
  rw [← hP] at O; clear hP
  obtain ⟨A1, c1, rfl, _⟩ := O.out.f0
  go_upto_region 3 with (fail)
  generalize hw : w2.alloc _ = w3
  replace O := Aside0.mk (O.out.of hw); clear hw hc1 HC1 HLE
  generalize w2.heap.size = g5 at O ⊢
  have q0 := (blk_cell O.out.b0 0).trans rfl; have q1 := (blk_cell O.out.b0 1).trans rfl; have q2 := (blk_cell O.out.b0 2).trans rfl
  have s3 := (blk_cell O.out.b2 3).trans rfl; have z3 := blk_frozen O.out.b2 3
  go_upto_region 7 with (fail)
  rename_i K hK
  have HK := Aside0.mk hK; clear hK
  generalize hw : World.setCell _ _ _ = w4
  replace O := Aside0.mk ((O.out.p2.st hw #[.bool true, .slice none 0 0, .int .i64 0, .int .i64 gen, .int .i64 0] rfl).p1.drop.p1.drop)
  clear hw q0 q1 q2 s3 z3
  go_wp2_with fail
  refine HK.out _ _ ?_
  clear HK K
  go_step
  generalize hA : (⟨ad.block, ad.off + 1, none⟩ : Addr) = ad1
  obtain ⟨T, hT⟩ : ∃ T, T = bs.drop 1 := ⟨_, rfl⟩
  have eT : bs.length - 1 = T.length := by rw [hT, List.length_drop]
  have HTC : Aside0 (rBS.d.C w (some ad1) T.length T) := ⟨by
    have h1 := Kd.C_drop (m := 1) HX.out (by omega) hc
    rw [if_neg (by omega), ← hT] at h1
    rw [← hA]
    exact h1⟩
  have HTB : Aside0 (∀ b ∈ T, b.length = 64 ∧ BsOk b) := ⟨fun b hb => HBL.out.2 b (List.mem_of_mem_drop (hT ▸ hb))⟩
  have hT1 : T.length ≤ 127 := by omega
  replace HXE : Aside0 (bodyL gen 0 T = X) := ⟨by rw [hT]; exact HXE.out⟩
  rw [show decide (0 < P0.length) = false from decide_eq_false (by omega)]
  go_cut [6] from 7 (fun v6 wc => Aside0 (Own w wc [Rs.row rB 5 v6 X, Rs.box (w.heap.size + 1) 59 #[.bool true, .slice none 0 0, .int .i64 0, .int .i64 gen, .int .i64 0], Rs.box w.heap.size 59 #[.bool false, .slice none 0 0, .int .i64 0, .int .i64 0, .int .i64 0]]))
  case first =>
    have hcut : ∀ W : World, (Instr.slice 40 (.slice (some ad) bs.length c) (some (.int .i64 1)) none none).run Try.prog W = .ok (.slice (some ad1) T.length (c - 1)) W := by
      intro W
      rw [from_c (some ad) bs.length c (by omega) W, if_neg (by omega), ← hA, eT]
      rfl
    clear hA hT eT HX HBL HH HGEN
    go_wp2
    clear hcut
    replace O := Aside0.mk (O.out.nilRow rB 5)
    go_loopg [6, 7, 33] T.length (fun m vu vl vi wr => ∃ (i last : Int) (xs : List Int), vi = .int .i64 i ∧ vl = .int .i64 last ∧ Aside0 (0 ≤ i ∧ i ≤ T.length ∧ T.length - i.toNat ≤ m) ∧ Aside0 (xs.length ≤ 56 * i) ∧ Aside0 (X = xs ++ bodyL gen last (T.drop i.toNat))
      ∧ Aside0 (Own w wr [Rs.row rB 5 vu xs, Rs.box (w.heap.size + 1) 59 #[.bool true, .slice none 0 0, .int .i64 0, .int .i64 gen, .int .i64 0], Rs.box w.heap.size 59 #[.bool false, .slice none 0 0, .int .i64 0, .int .i64 0, .int .i64 0]]))
    case atStart => exact ⟨0, 0, [], rfl, rfl, ⟨by simp⟩, ⟨by simp⟩, ⟨by simpa using HXE.out.symm⟩, O⟩
    case round =>
      clear O
      obtain ⟨i, last, xs, rfl, rfl, HI, HL, HE, O⟩ := hrel
      by_cases hi : i < (T.length : Int)
      · have h0 : 0 ≤ i := HI.out.1
        obtain ⟨at_, Ai, ci, e1, hc1, hle, hC1⟩ := at_BS (Kd.C_below HTC.out O.out.bel) i h0 hi
        cases e1
        have HC1 := Aside0.mk hC1; have HLE := Aside0.mk hle
        clear hC1 hle
        have HE2 : Aside0 (T.drop i.toNat = gBS T i :: T.drop (i.toNat + 1)) := ⟨by rw [gBS_eq (by omega)]; exact List.drop_eq_getElem_cons (by omega)⟩
        have HB2 := Aside0.mk (HTB.out (gBS T i) (by rw [gBS_eq (by omega)]; exact List.getElem_mem _))
        by_cases hp : PgIs (gBS T i)
        · have HP := Aside0.mk hp; clear hp
          go_wp2_with fail
          refine (implPageOf_yes _ _ _ _ HC1.out HLE.out HB2.out.2 HP.out).mono ?_
          intro e w5 hg
          obtain ⟨P1, hP⟩ : ∃ P, P = bytesOf (gBS T i) := ⟨_, rfl⟩
          obtain ⟨gen2, hG⟩ : ∃ G, G = genOf (gBS T i) := ⟨_, rfl⟩
          rw [← hP, ← hG] at hg
          have hp1 : P1.length ≤ 56 := by rw [hP]; exact bytesOf_len HB2.out.2 HB2.out.1 HP.out.2.1
          have HP1 := Aside0.mk hP; have HG2 := Aside0.mk hG
          clear hP hG
          obtain ⟨v, rfl, k⟩ := own_pg hg
          replace O := Aside0.mk (O.out.app1 k); clear k hg
          obtain ⟨A2, c2, rfl, _⟩ := O.out.f0
          go_upto_region 12 with (fail)
          generalize hw : w5.alloc _ = w6
          replace O := Aside0.mk (O.out.of hw); clear hw hc1
          generalize w5.heap.size = g10 at O ⊢
          have q3 := (blk_cell O.out.b3 3).trans rfl
          have y0 := (blk_cell O.out.b0 0).trans rfl; have y1 := (blk_cell O.out.b0 1).trans rfl; have y2 := (blk_cell O.out.b0 2).trans rfl
          by_cases hrng : last ≤ gen2 ∧ gen2 ≤ gen
          · obtain ⟨hl, hu⟩ := hrng
            have HE3 : Aside0 (bodyL gen last (T.drop i.toNat) = if P1.length < 56 then P1 else P1 ++ bodyL gen gen2 (T.drop (i.toNat + 1))) := ⟨by rw [HE2.out, bodyL_yes ⟨HP.out, by rw [← HG2.out]; exact hl, by rw [← HG2.out]; exact hu⟩, ← HG2.out, ← HP1.out]⟩
            have O2 := Aside0.mk O.out.p2
            go_upto_region 15 with (at_builtin; go_loud (refine Own.app_row (enc := Value.int .u8) (h1 := fun _ => rfl) 0 rfl (.tmp 57) (.tmp 59) 22 5 (.int .u8 0) 1 rfl Try.underlying22 info5 rfl (by omega) _ xs P1 A2 P1.length c2 rfl rfl O2.out O.out.c1 (by have := HL.out; have := HI.out; omega) ?_); intro v7 w7 hX; have O3 := Aside0.mk hX; clear hX)
            clear q3 y0 y1 y2 O O2
            have y2 := (blk_cell O3.out.b1 2).trans rfl
            by_cases h56 : P1.length < 56
            · go_wp2
              go_meet
              case rel =>
                have := O3.out
                rw [HE.out, HE3.out, if_pos h56]
                exact ⟨this.p1.drop.p1.drop⟩
            · go_wp2
              go_roundg (gk - 1)
              case measure => have := HI.out; omega
              case rel =>
                refine ⟨i + 1, gen2, xs ++ P1, ?_, rfl, ⟨by have := HI.out; omega, by have := HI.out; omega, by have := HI.out; omega⟩, ⟨?_⟩, ⟨?_⟩, ⟨O3.out.p1.drop.p1.drop⟩⟩
                · first | rfl | (rw [wrap_succ (by omega) (by omega)])
                · have := HL.out; rw [List.length_append]; omega
                · rw [HE.out, HE3.out, if_neg h56, show (i + 1).toNat = i.toNat + 1 by omega, List.append_assoc]
          · have HE3 : Aside0 (X = xs) := ⟨by rw [HE.out, HE2.out, bodyL_no (fun h => hrng ⟨by rw [HG2.out]; exact h.2.1, by rw [HG2.out]; exact h.2.2⟩), List.append_nil]⟩
            by_cases hl : last ≤ gen2
            · have hu : ¬ gen2 ≤ gen := fun h => hrng ⟨hl, h⟩
              clear hrng
              go_wp2
              go_meet
              case rel => rw [HE3.out]; exact ⟨O.out.drop.drop⟩
            · clear hrng
              go_wp2
              go_meet
              case rel => rw [HE3.out]; exact ⟨O.out.drop.drop⟩
        · have HP := Aside0.mk hp; clear hp
          have HE3 : Aside0 (X = xs) := ⟨by rw [HE.out, HE2.out, bodyL_no (fun h => HP.out h.1), List.append_nil]⟩
          go_wp2_with fail
          refine (implPageOf_no _ _ _ _ HC1.out HLE.out HB2.out.2 HP.out).mono ?_
          intro e w5 hg
          obtain ⟨v, rfl, k⟩ := own_pg hg
          replace O := Aside0.mk (O.out.app1 k); clear k hg
          obtain ⟨A2, c2, rfl, _⟩ := O.out.f0
          go_upto_region 12 with (fail)
          generalize hw : w5.alloc _ = w6
          replace O := Aside0.mk (O.out.of hw); clear hw hc1
          generalize w5.heap.size = g10 at O ⊢
          have y0 := (blk_cell O.out.b0 0).trans rfl
          go_wp2
          go_meet
          case rel => rw [HE3.out]; exact ⟨O.out.drop.drop⟩
      · have HE3 : Aside0 (X = xs) := ⟨by rw [HE.out, List.drop_of_length_le (by omega), bodyL, List.append_nil]⟩
        go_wp2
        go_meet
        case rel => rw [HE3.out]; exact ⟨O.out⟩
  case rest =>
    clear hA hT eT HX HBL HH HTC HTB HXE HGEN hT1 O w1 w2 w3 w4
    have O := hcut; clear hcut
    obtain ⟨Ab, cb, rfl, hcb⟩ := O.out.f0
    replace O := Aside0.mk (O.out.p1.nilRow rN 33)
    go_wp2_with fail
    go_loopg [11] (X.length + 1) (fun m v11 wr => ∃ (len : Nat) (notes : List Nt) (k : Nat) (vn : Value), Aside0 (len ≤ X.length ∧ X.length - len ≤ k ∧ X.length - len < m + 1 ∧ notes.length ≤ len) ∧ Aside0 (framesL X = (notes ++ (framesF k (X.drop len)).1, len + (framesF k (X.drop len)).2))
      ∧ Aside0 (Own w wr [Rs.row rN 33 vn notes, Rs.box (w.heap.size + 1) 59 #[.bool true, vn, .int .i64 len, .int .i64 gen, .int .i64 0], Rs.row rB 5 (.slice Ab X.length cb) X, Rs.box w.heap.size 59 #[.bool false, .slice none 0 0, .int .i64 0, .int .i64 0, .int .i64 0]]))
    case atStart => exact ⟨0, [], X.length, .slice none 0 0, ⟨by simp; omega⟩, ⟨by simp [framesL]⟩, O⟩
    case round =>
      clear O
      obtain ⟨len, notes, k, vn, HI, HE, O⟩ := hrel
      obtain ⟨A', hcut, hC, hle⟩ := low_cut (A := Ab) (c := cb) (xs := X) len HI.out.1 hcb
      obtain ⟨Y, hY⟩ : ∃ Y, Y = X.drop len := ⟨_, rfl⟩
      have HYok : Aside0 (BsOk Y) := ⟨by rw [hY]; exact HOK.out.drop _⟩
      have HCY : Aside0 (kB.C wr A' Y.length Y) := ⟨by rw [hY]; exact hC _ O.out.c2⟩
      rw [← hY] at hcut hle
      have HY := Aside0.mk hY
      have HLE := Aside0.mk hle
      clear hY hC hle
      obtain ⟨An, cn, rfl, _⟩ := O.out.f0
      have q1 := (blk_cell O.out.b1 1).trans rfl; have q2 := (blk_cell O.out.b1 2).trans rfl
      by_cases hfr : FrIs Y
      · have HFR := Aside0.mk hfr
        obtain ⟨hf17, hflen⟩ := fr_len HYok.out hfr
        clear hfr
        go_wp2_with fail
        refine (implReadFrame_yes _ _ _ _ HCY.out HLE.out HYok.out HFR.out).mono ?_
        rintro e w3 ⟨rfl, hb3⟩
        replace O := Aside0.mk (O.out.below hb3)
        obtain ⟨x, hx⟩ : ∃ x, x = noteOf Y := ⟨_, rfl⟩
        obtain ⟨fl, hfl⟩ : ∃ fl, fl = frLen Y := ⟨_, rfl⟩
        rw [← hx, ← hfl]
        rw [← hfl] at hf17 hflen
        have HX1 := Aside0.mk hx; have HFL := Aside0.mk hfl
        clear hx hfl hcut q1 q2 hb3
        have hYl : Y.length ≤ 10000 := by have := HXL.out; rw [HY.out, List.length_drop]; omega
        go_upto_region 18 with (fail)
        generalize hw : w3.alloc _ = w4
        replace O := Aside0.mk (O.out.of hw); clear hw
        generalize w3.heap.size = g11 at O ⊢
        have y0 := (blk_cell O.out.b0 0).trans rfl; have y1 := (blk_cell O.out.b0 1).trans rfl; have y2 := (blk_cell O.out.b0 2).trans rfl; have y3 := (blk_cell O.out.b0 3).trans rfl; have y4 := (blk_cell O.out.b0 4).trans rfl; have y5 := (blk_cell O.out.b0 5).trans rfl; have y6 := (blk_cell O.out.b0 6).trans rfl
        have q1 := (blk_cell O.out.b2 1).trans rfl; have z1 := blk_frozen O.out.b2 1
        replace O := Aside0.mk (O.out.p1.cel0 (N_mk _ x)).p1
        go_upto_region 20 with (at_builtin; go_loud (refine Own.app_one rN rfl (.tmp 75) (.tmp 78) 48 33 (.agg #[.int .i64 0, .int .i64 0, .int .i64 0, .int .i64 0, .string { data := #[] }]) 48 rfl Try.underlying48 info33 rfl (by decide) (by decide) (.slice An notes.length cn) notes x _ rfl rfl O.out (by have := HI.out; have := HXL.out; omega) ?_); intro v5 w5 hX; obtain ⟨A5, c5, rfl, hc5⟩ := hX.f0; have O5 := Aside0.mk hX; have u1 := (blk_cell hX.b2 1).trans rfl; have zu1 := blk_frozen hX.b2 1; clear hX)
        clear q1 z1 y0 y1 y2 y3 y4 y5 y6 u1 zu1 O
        generalize hw : World.setCell _ _ _ = w6
        replace O5 := Aside0.mk (O5.out.p2.st hw #[.bool true, .slice A5 (notes.length + 1) c5, .int .i64 len, .int .i64 gen, .int .i64 0] rfl)
        clear hw
        have q2 := (blk_cell O5.out.b0 2).trans rfl; have z2 := blk_frozen O5.out.b0 2
        have y6 := (blk_cell O5.out.b2 6).trans rfl
        have hlenX := HI.out.1
        have hXl := HXL.out
        go_wp2
        generalize hw : World.setCell _ _ _ = w7
        replace O5 := Aside0.mk (O5.out.st hw #[.bool true, .slice A5 (notes.length + 1) c5, .int .i64 (len + fl), .int .i64 gen, .int .i64 0] rfl)
        clear hw
        go_roundg (gk - 1)
        case measure => have := HI.out; have := congrArg List.length HY.out; rw [List.length_drop] at this; omega
        case rel =>
          have hYl2 := congrArg List.length HY.out
          rw [List.length_drop] at hYl2
          have hi := HI.out
          obtain ⟨k', rfl⟩ : ∃ k', k = k' + 1 := ⟨k - 1, by omega⟩
          have ecast : ((len + fl.toNat : Nat) : Int) = len + fl := by omega
          refine ⟨len + fl.toNat, notes ++ [x], k', .slice A5 (notes.length + 1) c5, ⟨by omega, by omega, by omega, by simp; omega⟩, ⟨?_⟩, ⟨?_⟩⟩
          · have hd : Y.drop fl.toNat = X.drop (len + fl.toNat) := by rw [HY.out, List.drop_drop]
            rw [HE.out, ← HY.out, framesF_yes HFR.out, ← HFL.out, hd, ← HX1.out]
            simp [Nat.add_assoc]
          · rw [ecast]
            have h5 := O5.out.p1
            rw [show (notes ++ [x]).length = notes.length + 1 by simp] at h5
            exact h5.p2.drop.p1.p1
      · have HFR := Aside0.mk hfr
        clear hfr
        go_wp2_with fail
        refine (implReadFrame_no _ _ _ _ HCY.out HLE.out HYok.out HFR.out).mono ?_
        rintro e w3 ⟨rfl, hb3⟩
        replace O := Aside0.mk (O.out.below hb3)
        have HE2 : Aside0 (framesL X = (notes, len)) := ⟨by rw [HE.out, ← HY.out, framesF_no HFR.out]; simp⟩
        clear hcut q1 q2 hb3
        go_upto_region 18 with (fail)
        generalize hw : w3.alloc _ = w4
        replace O := Aside0.mk (O.out.of hw); clear hw
        generalize w3.heap.size = g11 at O ⊢
        have y0 := (blk_cell O.out.b0 0).trans rfl
        go_upto_region 21 with fail
        clear y0
        have q0 := (blk_cell O.out.b2 0).trans rfl; have q1 := (blk_cell O.out.b2 1).trans rfl; have q2 := (blk_cell O.out.b2 2).trans rfl; have q3 := (blk_cell O.out.b2 3).trans rfl; have q4 := (blk_cell O.out.b2 4).trans rfl
        have HTO := Aside0.mk (to_c (A := Ab) (c := cb) len HI.out.1 hcb)
        refine sta (fun w' => w'.cell? ⟨w.heap.size + 1, 0, none⟩ = some (.bool true) ∧ w'.cell? ⟨w.heap.size + 1, 1, none⟩ = some (.slice An notes.length cn) ∧ w'.cell? ⟨w.heap.size + 1, 2, none⟩ = some (.int .i64 len) ∧ w'.cell? ⟨w.heap.size + 1, 3, none⟩ = some (.int .i64 gen) ∧ w'.cell? ⟨w.heap.size + 1, 4, none⟩ = some (.int .i64 0)) [] 7 ⟨q0, q1, q2, q3, q4⟩ (fun hS => ?_)
        clear q0 q1 q2 q3 q4
        replace O := Aside0.mk O.out.drew
        generalize w4.drew = wd at O hS ⊢
        refine pu 1 2 ?_
        refine pu 2 6 ?_
        refine tk 0 7 hS ?_
        refine tk 3 15 hS ?_
        have hto := HTO.out
        refine pu 4 31 ?_
        clear hto
        have u0 := (blk_cell O.out.b4 0).trans rfl; have u1 := (blk_cell O.out.b4 1).trans rfl; have u2 := (blk_cell O.out.b4 2).trans rfl; have u3 := (blk_cell O.out.b4 3).trans rfl; have u4 := (blk_cell O.out.b4 4).trans rfl
        have z0 := blk_frozen O.out.b4 0; have z1 := blk_frozen O.out.b4 1; have z2 := blk_frozen O.out.b4 2; have z3 := blk_frozen O.out.b4 3; have z4 := blk_frozen O.out.b4 4
        refine on 5 63 (fun K hK => ?_)
        refine st ?_
        clear u0 u1 u2 u3 u4 z0 z1 z2 z3 z4 hS
        have O5 := ((((O.out.p4.set 0 (.bool true)).set 1 (.slice An notes.length cn)).set 2 (.int .i64 len)).set 3 (.int .i64 gen)).set 4 (.int .i64 0)
        have K5 := O5.b0
        have L5 := O5.b3
        have R5 := (O5.drop.drop.p1.drop.p1.take_row HI.out.1).p1
        generalize World.setCell _ _ _ = w5 at O5 K5 L5 R5 ⊢
        refine nx hK ⟨(blk_cell L5 0).trans rfl, (blk_cell L5 1).trans rfl, (blk_cell L5 2).trans rfl, (blk_cell L5 3).trans rfl, (blk_cell L5 4).trans rfl⟩ (fun hS => ?_)
        clear hK K hS
        refine pu 6 127 (dn ?_)
        go_wp2
        refine bodyPost_ret (results_ct rfl _ _ w.heap.size 59 _ (0, 0) _ rfl K5 Try.underlying59 rfl (by kernel_rfl)) rfl ?_
        exact HQ.out _ _ ⟨_, _, by rw [HE2.out]; rfl, by rw [HE2.out]; exact R5⟩
end Go.Proofs.Ytocdlibnmlcokaa
namespace Go.Proofs.YtocdlibnmlcokaaW.PrintWords
open Go.RowKit
section
variable {P : Program} {d : Nat} {xs ys : Array Value} {f : Field} {fs : List Field} {a b : Value} {r s : Bool} {w : World}
theorem eqf_last (hn : (f.name == "_") = false) (ha : (part f.type xs f.offset).run P w = .ok a w) (hb : (part f.type ys f.offset).run P w = .ok b w) (he : (Op.equalIn d f.type a b).run P w = .ok r w) : (Op.eqFields d xs ys [f]).run P w = .ok r w := by
  have hn' : f.name ≠ "_" := by simpa using hn
  simp only [Op.eqFields, if_pos hn', Sem.run_bind, ha, hb, he, Result.andThen_ok]
  cases r <;> simp
theorem eqf_cons (hn : (f.name == "_") = false) (ha : (part f.type xs f.offset).run P w = .ok a w) (hb : (part f.type ys f.offset).run P w = .ok b w) (he : (Op.equalIn d f.type a b).run P w = .ok r w) (hr : (Op.eqFields d xs ys fs).run P w = .ok s w) : (Op.eqFields d xs ys (f :: fs)).run P w = .ok (r && s) w := by
  have hn' : f.name ≠ "_" := by simpa using hn
  rw [Op.eqFields]
  simp only [if_pos hn', Sem.run_bind, ha, hb, he, Result.andThen_ok]
  cases r
  · simp
  · simpa using hr
theorem eqA_of {t : TypeId} {fs : Array Field} (hu : P.underlying t = some (.struct fs)) (hp : P.stoodInHeld t = false) (h : (Op.eqFields d xs ys fs.toList).run P w = .ok r w) : (Op.equalIn (d + 1) t (.agg xs) (.agg ys)).run P w = .ok r w := by
  have hf : P.fieldsOf t = fs := by simp [Program.fieldsOf, hu]
  rw [run_equalIn_struct (P := P) w d t xs ys (by rw [hf]; exact hu) hp, hf]
  exact h
end
end Go.Proofs.YtocdlibnmlcokaaW.PrintWords
namespace Go.Proofs.Ytocdlibnmlcokaa
open Go.RowKit Go.Proofs.YtocdlibnmlcokaaW.PrintWords Go.Proofs.YtocdlibnmlcokaaW.PrintLast
set_option linter.unusedVariables false
set_option linter.unusedSimpArgs false
def PutOk (bs : List (List Int)) (ws : List Wr) (block : Int) (b : List Int) : Prop := DkOk bs ws ∧ 0 ≤ block ∧ block < 128 ∧ b.length = 64 ∧ ws.length < 200
set_option maxRecDepth 100000 in
set_option maxHeartbeats 2000000 in
theorem specPut_no (A0 A1 A2 : Option Addr) (c0 c1 c2_ : Nat) (bs : List (List Int)) (ws : List Wr) (block : Int) (b : List Int) (w : World) (hx : rBS.d.C w A0 bs.length bs) (hy : rW.d.C w A1 ws.length ws) (hno : ¬ PutOk bs ws block b) :
    Calls Try.prog 51 #[.agg #[.slice A0 bs.length c0, .slice A1 ws.length c1], .int .i64 block, .slice A2 b.length c2_] w (GotDisk w [] []) := by
  have hb0 := below_alloc (below_alloc (Below.refl w.heap.size w) (.cells #[.slice A0 bs.length c0, .slice A1 ws.length c1] 43)) (.cells #[.slice none 0 0, .slice none 0 0] 43)
  have BK1 := Aside0.mk (blk_alloc (blk_new w (.cells #[.slice A0 bs.length c0, .slice A1 ws.length c1] 43)) (.cells #[.slice none 0 0, .slice none 0 0] 43))
  have BK2 := Aside0.mk (blk_new' (w := w.alloc (.cells #[.slice A0 bs.length c0, .slice A1 ws.length c1] 43)) (.cells #[.slice none 0 0, .slice none 0 0] 43) (n := w.heap.size + 1) (by simp))
  have HX := Aside0.mk (Kd.C_below hx hb0); have HY := Aside0.mk (Kd.C_below hy hb0); have HB0 := Aside0.mk hb0
  clear hx hy hb0
  have HNO := Aside0.mk hno; clear hno
  by_cases hd : DkOk bs ws
  · have HD := Aside0.mk hd; clear hd
    by_cases h1 : 0 ≤ block
    · by_cases h2 : block < 128
      · have HR : Aside0 ((decide (0 ≤ block) && decide (block ≤ 127)) = true) := ⟨by simp; omega⟩
        by_cases h3 : (b.length : Int) = 64
        · have b3 := eqT h3
          have h4 : (ws.length : Int) = 200 := by
            have := HNO.out; have hd := HD.out; unfold PutOk at this
            have hle := hd.2.1
            by_cases hlt : ws.length < 200
            · exact absurd ⟨hd, h1, h2, by omega, hlt⟩ this
            · omega
          have b4 := eqT h4
          have hge : 200 ≤ (ws.length : Int) := by omega
          have H4 := Aside0.mk h4; clear h4 h3
          go_enter Try.func51, Try.ntmps51
          go_wp2_with (first | (go_at_call 99; refine (specDiskOk_c _ _ _ _ bs ws true ⟨fun _ => HD.out, fun _ => rfl⟩ _ HX.out HY.out).mono ?_; rintro e w1 ⟨rfl, hb1⟩; have J2 := blk_below BK2.out hb1; have J1 := blk_below BK1.out hb1; have d1 := (blk_cell J1 1).trans rfl; have c2 := (blk_cell J2 0).trans rfl; have c3 := (blk_cell J2 1).trans rfl; have z2 := blk_frozen J2 0; have z3 := blk_frozen J2 1; obtain ⟨I2, q2⟩ := set2 J2 (.slice none 0 0) (.slice none 0 0); have II := Aside0.mk I2; have QQ := Aside0.mk q2; have HB1 := Aside0.mk (below_then HB0.out (by simp; omega) hb1); clear J1 J2 I2 q2 hb1) | (go_at_call 120; refine (l1in_c _ 0 127 _).mono ?_; rintro e w1 ⟨rfl, rfl⟩; rw [HR.out]))
          refine bodyPost_ret (results_cell_row rfl _ _ (w.heap.size + 1) 43 #[.slice none 0 0, .slice none 0 0] (0, 0) _ rfl II.out Try.underlying43 rfl (by kernel_rfl)) rfl ?_
          exact ⟨_, _, [], [], rfl, Rp.Row_nil _ _ _, Rp.Row_nil _ _ _, by simp, by simp, QQ.out.toBelow HB1.out HB1.out.size (fun x hx => by simp at hx; omega)⟩
        · have b3 := eqF h3
          clear h3
          go_enter Try.func51, Try.ntmps51
          go_wp2_with (first | (go_at_call 99; refine (specDiskOk_c _ _ _ _ bs ws true ⟨fun _ => HD.out, fun _ => rfl⟩ _ HX.out HY.out).mono ?_; rintro e w1 ⟨rfl, hb1⟩; have J2 := blk_below BK2.out hb1; have J1 := blk_below BK1.out hb1; have d1 := (blk_cell J1 1).trans rfl; have c2 := (blk_cell J2 0).trans rfl; have c3 := (blk_cell J2 1).trans rfl; have z2 := blk_frozen J2 0; have z3 := blk_frozen J2 1; obtain ⟨I2, q2⟩ := set2 J2 (.slice none 0 0) (.slice none 0 0); have II := Aside0.mk I2; have QQ := Aside0.mk q2; have HB1 := Aside0.mk (below_then HB0.out (by simp; omega) hb1); clear J1 J2 I2 q2 hb1) | (go_at_call 120; refine (l1in_c _ 0 127 _).mono ?_; rintro e w1 ⟨rfl, rfl⟩; rw [HR.out]))
          refine bodyPost_ret (results_cell_row rfl _ _ (w.heap.size + 1) 43 #[.slice none 0 0, .slice none 0 0] (0, 0) _ rfl II.out Try.underlying43 rfl (by kernel_rfl)) rfl ?_
          exact ⟨_, _, [], [], rfl, Rp.Row_nil _ _ _, Rp.Row_nil _ _ _, by simp, by simp, QQ.out.toBelow HB1.out HB1.out.size (fun x hx => by simp at hx; omega)⟩
      · have HR : Aside0 ((decide (0 ≤ block) && decide (block ≤ 127)) = false) := ⟨by rw [Bool.and_eq_false_iff]; simp; omega⟩
        go_enter Try.func51, Try.ntmps51
        go_wp2_with (first | (go_at_call 99; refine (specDiskOk_c _ _ _ _ bs ws true ⟨fun _ => HD.out, fun _ => rfl⟩ _ HX.out HY.out).mono ?_; rintro e w1 ⟨rfl, hb1⟩; have J2 := blk_below BK2.out hb1; have J1 := blk_below BK1.out hb1; have d1 := (blk_cell J1 1).trans rfl; have c2 := (blk_cell J2 0).trans rfl; have c3 := (blk_cell J2 1).trans rfl; have z2 := blk_frozen J2 0; have z3 := blk_frozen J2 1; obtain ⟨I2, q2⟩ := set2 J2 (.slice none 0 0) (.slice none 0 0); have II := Aside0.mk I2; have QQ := Aside0.mk q2; have HB1 := Aside0.mk (below_then HB0.out (by simp; omega) hb1); clear J1 J2 I2 q2 hb1) | (go_at_call 120; refine (l1in_c _ 0 127 _).mono ?_; rintro e w1 ⟨rfl, rfl⟩; rw [HR.out]))
        refine bodyPost_ret (results_cell_row rfl _ _ (w.heap.size + 1) 43 #[.slice none 0 0, .slice none 0 0] (0, 0) _ rfl II.out Try.underlying43 rfl (by kernel_rfl)) rfl ?_
        exact ⟨_, _, [], [], rfl, Rp.Row_nil _ _ _, Rp.Row_nil _ _ _, by simp, by simp, QQ.out.toBelow HB1.out HB1.out.size (fun x hx => by simp at hx; omega)⟩
    · have HR : Aside0 ((decide (0 ≤ block) && decide (block ≤ 127)) = false) := ⟨by rw [Bool.and_eq_false_iff]; simp; omega⟩
      go_enter Try.func51, Try.ntmps51
      go_wp2_with (first | (go_at_call 99; refine (specDiskOk_c _ _ _ _ bs ws true ⟨fun _ => HD.out, fun _ => rfl⟩ _ HX.out HY.out).mono ?_; rintro e w1 ⟨rfl, hb1⟩; have J2 := blk_below BK2.out hb1; have J1 := blk_below BK1.out hb1; have d1 := (blk_cell J1 1).trans rfl; have c2 := (blk_cell J2 0).trans rfl; have c3 := (blk_cell J2 1).trans rfl; have z2 := blk_frozen J2 0; have z3 := blk_frozen J2 1; obtain ⟨I2, q2⟩ := set2 J2 (.slice none 0 0) (.slice none 0 0); have II := Aside0.mk I2; have QQ := Aside0.mk q2; have HB1 := Aside0.mk (below_then HB0.out (by simp; omega) hb1); clear J1 J2 I2 q2 hb1) | (go_at_call 120; refine (l1in_c _ 0 127 _).mono ?_; rintro e w1 ⟨rfl, rfl⟩; rw [HR.out]))
      refine bodyPost_ret (results_cell_row rfl _ _ (w.heap.size + 1) 43 #[.slice none 0 0, .slice none 0 0] (0, 0) _ rfl II.out Try.underlying43 rfl (by kernel_rfl)) rfl ?_
      exact ⟨_, _, [], [], rfl, Rp.Row_nil _ _ _, Rp.Row_nil _ _ _, by simp, by simp, QQ.out.toBelow HB1.out HB1.out.size (fun x hx => by simp at hx; omega)⟩
  · have HD := Aside0.mk hd; clear hd
    go_enter Try.func51, Try.ntmps51
    go_wp2_with (first | (go_at_call 99; refine (specDiskOk_c _ _ _ _ bs ws false ⟨fun h => (by cases h), fun h => absurd h HD.out⟩ _ HX.out HY.out).mono ?_; rintro e w1 ⟨rfl, hb1⟩; have J2 := blk_below BK2.out hb1; have J1 := blk_below BK1.out hb1; have d1 := (blk_cell J1 1).trans rfl; have c2 := (blk_cell J2 0).trans rfl; have c3 := (blk_cell J2 1).trans rfl; have z2 := blk_frozen J2 0; have z3 := blk_frozen J2 1; obtain ⟨I2, q2⟩ := set2 J2 (.slice none 0 0) (.slice none 0 0); have II := Aside0.mk I2; have QQ := Aside0.mk q2; have HB1 := Aside0.mk (below_then HB0.out (by simp; omega) hb1); clear J1 J2 I2 q2 hb1) | (go_at_call 120; refine (l1in_c _ 0 127 _).mono ?_; rintro e w1 ⟨rfl, rfl⟩; rw [HR.out]))
    refine bodyPost_ret (results_cell_row rfl _ _ (w.heap.size + 1) 43 #[.slice none 0 0, .slice none 0 0] (0, 0) _ rfl II.out Try.underlying43 rfl (by kernel_rfl)) rfl ?_
    exact ⟨_, _, [], [], rfl, Rp.Row_nil _ _ _, Rp.Row_nil _ _ _, by simp, by simp, QQ.out.toBelow HB1.out HB1.out.size (fun x hx => by simp at hx; omega)⟩
set_option maxRecDepth 100000 in
set_option maxHeartbeats 2000000 in
theorem implPut_yes (A0 A1 A2 : Option Addr) (c0 c1 c2_ : Nat) (bs : List (List Int)) (ws : List Wr) (block : Int) (b : List Int) (w : World) (hx : rBS.d.C w A0 bs.length bs) (hy : rW.d.C w A1 ws.length ws) (hz : kB.C w A2 b.length b) (hyes : PutOk bs ws block b) :
    Calls Try.prog 54 #[.agg #[.slice A0 bs.length c0, .slice A1 ws.length c1], .int .i64 block, .slice A2 b.length c2_] w (GotDisk w bs (ws ++ [⟨block, b⟩])) := by
  have hb0 := below_alloc (below_alloc (Below.refl w.heap.size w) (.cells #[.slice A0 bs.length c0, .slice A1 ws.length c1] 43)) (.cells #[.slice none 0 0, .slice none 0 0] 43)
  have BK1 := Aside0.mk (blk_alloc (blk_new w (.cells #[.slice A0 bs.length c0, .slice A1 ws.length c1] 43)) (.cells #[.slice none 0 0, .slice none 0 0] 43))
  have BK2 := Aside0.mk (blk_new' (w := w.alloc (.cells #[.slice A0 bs.length c0, .slice A1 ws.length c1] 43)) (.cells #[.slice none 0 0, .slice none 0 0] 43) (n := w.heap.size + 1) (by simp))
  have HX := Aside0.mk (Kd.C_below hx hb0); have HY := Aside0.mk (Kd.C_below hy hb0); have HZ := Aside0.mk (Kd.C_below hz hb0); have HB0 := Aside0.mk hb0
  clear hx hy hz hb0
  obtain ⟨hd, h1, h2, h3, h4⟩ := hyes
  have b3 := eqT (a := (b.length : Int)) (b := 64) (by omega)
  have h5 : ¬ (ws.length : Int) = 200 := by omega
  have b4 := eqF h5
  have hlt : ¬ 200 ≤ (ws.length : Int) := by omega
  have HR : Aside0 ((decide (0 ≤ block) && decide (block ≤ 127)) = true) := ⟨by simp; omega⟩
  have H3 := Aside0.mk h3
  have HD := Aside0.mk hd; clear hd h5 h3
  go_enter Try.func54, Try.ntmps54
  go_wp2_with fail
  refine (implDiskOk_c _ _ _ _ bs ws true ⟨fun _ => HD.out, fun _ => rfl⟩ _ HX.out HY.out).mono ?_
  rintro e w1 ⟨rfl, hb1⟩
  have J1 := blk_below BK1.out hb1; have J2 := blk_below BK2.out hb1
  have d0 := (blk_cell J1 0).trans rfl; have d1 := (blk_cell J1 1).trans rfl
  replace HX := Aside0.mk (Kd.C_below HX.out hb1); replace HY := Aside0.mk (Kd.C_below HY.out hb1); replace HZ := Aside0.mk (Kd.C_below HZ.out hb1)
  have HB1 := Aside0.mk (below_then HB0.out (by simp; omega) hb1); replace BK1 := Aside0.mk J1; replace BK2 := Aside0.mk J2
  clear J1 J2 hb1 HB0
  go_wp2_with fail
  refine (copyDisk_c _ _ bs _ _ ws _ HX.out HY.out (by have := HD.out.1; omega) (by have := HD.out.2.1; omega) (fun x hx => by have := HD.out.2.2.1 x hx; omega) (fun x hx => by have := HD.out.2.2.2 x hx; omega)).mono ?_
  rintro e w2 ⟨v0, v1, f0, f1, rfl, r0, r1, hnd, hge, hb2⟩
  obtain ⟨Ap, cp_, rfl, _, _⟩ := Rp.Row_reads r0
  obtain ⟨Aq, cq, rfl, _, _⟩ := Rp.Row_reads r1
  replace HZ := Aside0.mk (Kd.C_below HZ.out hb2)
  replace BK2 := Aside0.mk (blk_below BK2.out hb2)
  have HB2 := Aside0.mk (below_then HB1.out HB1.out.size hb2)
  have R0 := Aside0.mk r0; have R1 := Aside0.mk r1; have HN := Aside0.mk hnd
  have HG : Aside0 (∀ x ∈ f0 ++ f1, w.heap.size ≤ x) := ⟨fun x hx => by have := hge x hx; have := HB1.out.size; omega⟩
  clear r0 r1 hnd hge hb2 d0 d1 HB1 BK1 HX HY
  go_wp2_with fail
  generalize hw3 : w2.alloc _ = w3
  obtain ⟨k7, hb3, hs3⟩ := alloc1 hw3
  clear hw3
  have hne : w.heap.size + 1 < w2.heap.size := blk_lt BK2.out
  have BK7 := Aside0.mk (blk_drew k7)
  replace BK2 := Aside0.mk (blk_drew (blk_below BK2.out hb3))
  replace HZ := Aside0.mk (Kd.C_drew (Kd.C_below HZ.out hb3))
  replace R0 := Aside0.mk (Rp.Row_drew (Rp.Row_below R0.out hb3)); replace R1 := Aside0.mk (Rp.Row_drew (Rp.Row_below R1.out hb3))
  have hsz := HB2.out.size
  have HB3 := Aside0.mk (below_drew (below_then HB2.out HB2.out.size hb3))
  clear k7 hb3 hs3 HB2 b3 b4 hlt
  refine sta (fun w' => w'.cell? ⟨w2.heap.size, 1, none⟩ = some (.slice Aq ws.length cq)) [9] 10 ((blk_cell BK7.out 1).trans rfl) (fun hS => ?_)
  generalize w3.drew = wd at BK7 BK2 HZ R0 R1 HB3 hS ⊢
  generalize w2.heap.size = g7 at BK7 hS hne hsz ⊢
  refine pu 0 1 ?_
  refine pu 2 5 ?_
  refine pu 3 13 ?_
  refine tk 1 15 hS ?_
  refine on 4 31 (fun K hK => ?_)
  refine ca (cp_c _ _ b _ HZ.out (by have := H3.out; omega)) Try.func114 ?_
  rintro e wa ⟨va_, rfl, ⟨fa, hra, hna, hfa⟩, hba⟩
  obtain ⟨Aa, ca_, rfl, _, _⟩ := Rp.Row_reads hra
  refine ⟨_, rfl, nx hK (pw_cell_below hba hS) (fun hS => ?_)⟩
  clear hK K
  refine pu 5 63 ?_
  refine on 6 127 (fun K hK => ?_)
  refine va ?_
  refine nx hK (pw_cell_below (below_alloc (Below.refl _ _) _) hS) (fun hS => ?_)
  clear hK K
  have HOa := Rp.Row_below R1.out hba
  have BKa := blk_below BK7.out hba
  have hndd := List.nodup_append.1 HN.out
  refine on 7 255 (fun K hK => ?_)
  refine Rp.app_one_step rW (by rfl) (.tmp 34) (.tmp 39) 41 147 (.agg #[(.int .i64 0), (.slice none 0 0)]) 32 (by rfl) Try.underlying41 info147 rfl (by decide) (by omega) (.slice Aq ws.length cq) ws (⟨block, b⟩ : Wr) [.int .i64 block, .slice Aa b.length ca_] (by rfl) (by rfl) HOa (W_mk ⟨block, b⟩ hra) (Rp.nodup_new hndd.2.1 hna (Rp.Row_lt R1.out) hfa) (by have := HD.out.2.1; omega) ?_
  intro vn w4 fp1 hr1 hn1 hf1 hg1
  generalize hL : ws ++ [(⟨block, b⟩ : Wr)] = L at hr1
  have HL := Aside0.mk hL; clear hL
  obtain ⟨Av, cv, rfl, _, _⟩ := Rp.Row_reads hr1
  obtain ⟨hr3, hk3, kp3⟩ := box_app HOa BKa (by decide) hg1 hr1 1
  have BKw := blk_grown BKa hg1 (Rp.Row_ne HOa (Rp.Row_not HOa BKa (by decide)))
  refine nx hK ((blk_cell BKw 1).trans rfl) (fun hS => ?_)
  clear hK K
  refine pu 8 511 ?_
  refine la 9 1023 (fun K hK => ?_)
  have z := blk_frozen BKw 1
  refine st ?_
  refine nl hK (dn ?_)
  clear hK K z hS
  generalize w4.setCell _ _ = wf at hr3 hk3 kp3 ⊢
  have kp : Kp wd wf (f1 ++ [g7]) := ((Kp.below hba).mono (by simp)).trans kp3 (fun b hb _ => hb)
  have n0 := Rp.Row_not R0.out BK7.out (by decide)
  have m1 := Rp.Row_not R1.out BK2.out (by decide)
  have J2 := kp.blk BK2.out (by simp; exact ⟨m1, by omega⟩)
  have S0 := kp.row R0.out (fun x hx hm => by
    rcases List.mem_append.1 hm with h | h
    · exact hndd.2.2 x hx x h rfl
    · simp at h; exact n0 (h ▸ hx))
  have HB4 := kp.toBelow HB3.out HB3.out.size (fun x hx => by rcases List.mem_append.1 hx with h | h; exact HG.out x (List.mem_append_right _ h); simp at h; omega)
  have hn4 : (f0 ++ fp1).Nodup := List.nodup_append.2 ⟨hndd.1, hn1, fun a ha x hx he => by
    subst he
    have h5 := Rp.Row_lt R0.out a ha
    rcases hf1 a hx with h | h | h
    · exact hndd.2.2 a ha a h rfl
    · have := hfa a h; omega
    · have := hba.size; omega⟩
  have hg4 : ∀ x ∈ f0 ++ fp1, w.heap.size ≤ x := fun x hx => by
    rcases List.mem_append.1 hx with h | h
    · exact HG.out x (List.mem_append_left _ h)
    rcases hf1 x h with h | h | h
    · exact HG.out x (List.mem_append_right _ h)
    · have := hfa x h; have := HB3.out.size; omega
    · have := hba.size; have := HB3.out.size; omega
  have c7 := (blk_cell hk3 0).trans rfl; have c8 := (blk_cell hk3 1).trans rfl
  have c2 := (blk_cell J2 0).trans rfl; have c3 := (blk_cell J2 1).trans rfl; have z2 := blk_frozen J2 0; have z3 := blk_frozen J2 1
  obtain ⟨I2, q2⟩ := set2 J2 (.slice Ap bs.length cp_) (.slice Av L.length cv)
  have u0 := Rp.Row_not S0 J2 (by decide); have u1 := Rp.Row_not hr3 J2 (by decide)
  have T0 := Aside0.mk (q2.row S0 (fun x hx hm => u0 (by simp at hm; exact hm ▸ hx))); have T1 := Aside0.mk (q2.row hr3 (fun x hx hm => u1 (by simp at hm; exact hm ▸ hx)))
  have HB5 := Aside0.mk (q2.toBelow HB4 HB4.size (fun x hx => by simp at hx; omega))
  have II := Aside0.mk I2; have HN4 := Aside0.mk hn4; have HG4 := Aside0.mk hg4
  clear hn4 hg4 I2 q2 u0 u1 J2 S0 HB4 n0 m1 kp kp3 hk3 hr3 hr1 hn1 hf1 hg1 HOa BKa BKw hba hfa hna hra hndd
  go_wp2
  refine bodyPost_ret (results_cell_row rfl _ _ (w.heap.size + 1) 43 #[.slice Ap bs.length cp_, .slice Av L.length cv] (0, 0) _ rfl II.out Try.underlying43 rfl (by kernel_rfl)) rfl ?_
  rw [HL.out]
  exact ⟨_, _, f0, fp1, rfl, T0.out, T1.out, HN4.out, HG4.out, HB5.out⟩
set_option maxRecDepth 100000 in
set_option maxHeartbeats 2000000 in
theorem specPut_yes (A0 A1 A2 : Option Addr) (c0 c1 c2_ : Nat) (bs : List (List Int)) (ws : List Wr) (block : Int) (b : List Int) (w : World) (hx : rBS.d.C w A0 bs.length bs) (hy : rW.d.C w A1 ws.length ws) (hz : kB.C w A2 b.length b) (hyes : PutOk bs ws block b) :
    Calls Try.prog 51 #[.agg #[.slice A0 bs.length c0, .slice A1 ws.length c1], .int .i64 block, .slice A2 b.length c2_] w (GotDisk w bs (ws ++ [⟨block, b⟩])) := by
  have hb0 := below_alloc (below_alloc (Below.refl w.heap.size w) (.cells #[.slice A0 bs.length c0, .slice A1 ws.length c1] 43)) (.cells #[.slice none 0 0, .slice none 0 0] 43)
  have BK1 := Aside0.mk (blk_alloc (blk_new w (.cells #[.slice A0 bs.length c0, .slice A1 ws.length c1] 43)) (.cells #[.slice none 0 0, .slice none 0 0] 43))
  have BK2 := Aside0.mk (blk_new' (w := w.alloc (.cells #[.slice A0 bs.length c0, .slice A1 ws.length c1] 43)) (.cells #[.slice none 0 0, .slice none 0 0] 43) (n := w.heap.size + 1) (by simp))
  have HX := Aside0.mk (Kd.C_below hx hb0); have HY := Aside0.mk (Kd.C_below hy hb0); have HZ := Aside0.mk (Kd.C_below hz hb0); have HB0 := Aside0.mk hb0
  clear hx hy hz hb0
  obtain ⟨hd, h1, h2, h3, h4⟩ := hyes
  have b3 := eqT (a := (b.length : Int)) (b := 64) (by omega)
  have h5 : ¬ (ws.length : Int) = 200 := by omega
  have b4 := eqF h5
  have hlt : ¬ 200 ≤ (ws.length : Int) := by omega
  have HR : Aside0 ((decide (0 ≤ block) && decide (block ≤ 127)) = true) := ⟨by simp; omega⟩
  have H3 := Aside0.mk h3
  have HD := Aside0.mk hd; clear hd h5 h3
  go_enter Try.func51, Try.ntmps51
  go_wp2_with fail
  refine (specDiskOk_c _ _ _ _ bs ws true ⟨fun _ => HD.out, fun _ => rfl⟩ _ HX.out HY.out).mono ?_
  rintro e w1 ⟨rfl, hb1⟩
  have J1 := blk_below BK1.out hb1; have J2 := blk_below BK2.out hb1
  have d0 := (blk_cell J1 0).trans rfl; have d1 := (blk_cell J1 1).trans rfl
  replace HX := Aside0.mk (Kd.C_below HX.out hb1); replace HY := Aside0.mk (Kd.C_below HY.out hb1); replace HZ := Aside0.mk (Kd.C_below HZ.out hb1)
  have HB1 := Aside0.mk (below_then HB0.out (by simp; omega) hb1); replace BK1 := Aside0.mk J1; replace BK2 := Aside0.mk J2
  clear J1 J2 hb1 HB0
  go_wp2_with fail
  refine (l1in_c _ 0 127 _).mono ?_
  rintro e wq ⟨rfl, rfl⟩
  rw [HR.out]
  go_wp2_with fail
  refine (l2copy_c _ _ bs _ _ ws _ HX.out HY.out (by have := HD.out.1; omega) (by have := HD.out.2.1; omega) (fun x hx => by have := HD.out.2.2.1 x hx; omega) (fun x hx => by have := HD.out.2.2.2 x hx; omega)).mono ?_
  rintro e w2 ⟨v0, v1, f0, f1, rfl, r0, r1, hnd, hge, hb2⟩
  obtain ⟨Ap, cp_, rfl, _, _⟩ := Rp.Row_reads r0
  obtain ⟨Aq, cq, rfl, _, _⟩ := Rp.Row_reads r1
  replace HZ := Aside0.mk (Kd.C_below HZ.out hb2)
  replace BK2 := Aside0.mk (blk_below BK2.out hb2)
  have HB2 := Aside0.mk (below_then HB1.out HB1.out.size hb2)
  have R0 := Aside0.mk r0; have R1 := Aside0.mk r1; have HN := Aside0.mk hnd
  have HG : Aside0 (∀ x ∈ f0 ++ f1, w.heap.size ≤ x) := ⟨fun x hx => by have := hge x hx; have := HB1.out.size; omega⟩
  clear r0 r1 hnd hge hb2 d0 d1 HB1 BK1 HX HY
  go_wp2_with fail
  generalize hw3 : w2.alloc _ = w3
  obtain ⟨k7, hb3, hs3⟩ := alloc1 hw3
  clear hw3
  have hne : w.heap.size + 1 < w2.heap.size := blk_lt BK2.out
  have BK7 := Aside0.mk (blk_drew k7)
  replace BK2 := Aside0.mk (blk_drew (blk_below BK2.out hb3))
  replace HZ := Aside0.mk (Kd.C_drew (Kd.C_below HZ.out hb3))
  replace R0 := Aside0.mk (Rp.Row_drew (Rp.Row_below R0.out hb3)); replace R1 := Aside0.mk (Rp.Row_drew (Rp.Row_below R1.out hb3))
  have hsz := HB2.out.size
  have HB3 := Aside0.mk (below_drew (below_then HB2.out HB2.out.size hb3))
  clear k7 hb3 hs3 HB2 b3 b4 hlt
  refine sta (fun w' => w'.cell? ⟨w2.heap.size, 1, none⟩ = some (.slice Aq ws.length cq)) [10] 11 ((blk_cell BK7.out 1).trans rfl) (fun hS => ?_)
  generalize w3.drew = wd at BK7 BK2 HZ R0 R1 HB3 hS ⊢
  generalize w2.heap.size = g7 at BK7 hS hne hsz ⊢
  refine pu 0 1 ?_
  refine pu 2 5 ?_
  refine pu 4 21 ?_
  refine tk 1 23 hS ?_
  refine on 3 31 (fun K hK => ?_)
  refine va ?_
  refine nx hK (pw_cell_below (below_alloc (Below.refl _ _) _) hS) (fun hS2 => ?_)
  clear hK K hS2
  refine on 5 63 (fun K hK => ?_)
  refine Rp.app_row_step (by rfl) (.tmp 33) (.tmp 34) 22 5 (.int .u8 0) 1 (by rfl) Try.underlying22 info5 rfl (by decide) (.slice (some ⟨wd.heap.size, 0, none⟩) 0 0) [] b A2 b.length c2_ (by rfl) (by rfl) (empty_row wd) (Kd.C_alloc HZ.out _) (by have := H3.out; simp; omega) ?_
  intro va_ wa fa hra hna hfa0 hga0
  obtain ⟨hba, hfa⟩ := empty_after hga0 hfa0
  rw [List.nil_append] at hra
  clear hga0 hfa0
  obtain ⟨Aa, ca_, rfl, _, _⟩ := Rp.Row_reads hra
  refine nx hK (pw_cell_below hba hS) (fun hS => ?_)
  clear hK K
  refine pu 6 127 ?_
  refine on 7 255 (fun K hK => ?_)
  refine va ?_
  refine nx hK (pw_cell_below (below_alloc (Below.refl _ _) _) hS) (fun hS => ?_)
  clear hK K
  have HOa := Rp.Row_below R1.out hba
  have BKa := blk_below BK7.out hba
  have hndd := List.nodup_append.1 HN.out
  refine on 8 511 (fun K hK => ?_)
  refine Rp.app_one_step rW (by rfl) (.tmp 31) (.tmp 37) 41 147 (.agg #[(.int .i64 0), (.slice none 0 0)]) 32 (by rfl) Try.underlying41 info147 rfl (by decide) (by omega) (.slice Aq ws.length cq) ws (⟨block, b⟩ : Wr) [.int .i64 block, .slice Aa b.length ca_] (by rfl) (by rfl) HOa (W_mk ⟨block, b⟩ hra) (Rp.nodup_new hndd.2.1 hna (Rp.Row_lt R1.out) hfa) (by have := HD.out.2.1; omega) ?_
  intro vn w4 fp1 hr1 hn1 hf1 hg1
  generalize hL : ws ++ [(⟨block, b⟩ : Wr)] = L at hr1
  have HL := Aside0.mk hL; clear hL
  obtain ⟨Av, cv, rfl, _, _⟩ := Rp.Row_reads hr1
  obtain ⟨hr3, hk3, kp3⟩ := box_app HOa BKa (by decide) hg1 hr1 1
  have BKw := blk_grown BKa hg1 (Rp.Row_ne HOa (Rp.Row_not HOa BKa (by decide)))
  refine nx hK ((blk_cell BKw 1).trans rfl) (fun hS => ?_)
  clear hK K
  refine pu 9 1023 ?_
  refine la 10 2047 (fun K hK => ?_)
  have z := blk_frozen BKw 1
  refine st ?_
  refine nl hK (dn ?_)
  clear hK K z hS
  generalize w4.setCell _ _ = wf at hr3 hk3 kp3 ⊢
  have kp : Kp wd wf (f1 ++ [g7]) := ((Kp.below hba).mono (by simp)).trans kp3 (fun b hb _ => hb)
  have n0 := Rp.Row_not R0.out BK7.out (by decide)
  have m1 := Rp.Row_not R1.out BK2.out (by decide)
  have J2 := kp.blk BK2.out (by simp; exact ⟨m1, by omega⟩)
  have S0 := kp.row R0.out (fun x hx hm => by
    rcases List.mem_append.1 hm with h | h
    · exact hndd.2.2 x hx x h rfl
    · simp at h; exact n0 (h ▸ hx))
  have HB4 := kp.toBelow HB3.out HB3.out.size (fun x hx => by rcases List.mem_append.1 hx with h | h; exact HG.out x (List.mem_append_right _ h); simp at h; omega)
  have hn4 : (f0 ++ fp1).Nodup := List.nodup_append.2 ⟨hndd.1, hn1, fun a ha x hx he => by
    subst he
    have h5 := Rp.Row_lt R0.out a ha
    rcases hf1 a hx with h | h | h
    · exact hndd.2.2 a ha a h rfl
    · have := hfa a h; omega
    · have := hba.size; omega⟩
  have hg4 : ∀ x ∈ f0 ++ fp1, w.heap.size ≤ x := fun x hx => by
    rcases List.mem_append.1 hx with h | h
    · exact HG.out x (List.mem_append_left _ h)
    rcases hf1 x h with h | h | h
    · exact HG.out x (List.mem_append_right _ h)
    · have := hfa x h; have := HB3.out.size; omega
    · have := hba.size; have := HB3.out.size; omega
  have c7 := (blk_cell hk3 0).trans rfl; have c8 := (blk_cell hk3 1).trans rfl
  have c2 := (blk_cell J2 0).trans rfl; have c3 := (blk_cell J2 1).trans rfl; have z2 := blk_frozen J2 0; have z3 := blk_frozen J2 1
  obtain ⟨I2, q2⟩ := set2 J2 (.slice Ap bs.length cp_) (.slice Av L.length cv)
  have u0 := Rp.Row_not S0 J2 (by decide); have u1 := Rp.Row_not hr3 J2 (by decide)
  have T0 := Aside0.mk (q2.row S0 (fun x hx hm => u0 (by simp at hm; exact hm ▸ hx))); have T1 := Aside0.mk (q2.row hr3 (fun x hx hm => u1 (by simp at hm; exact hm ▸ hx)))
  have HB5 := Aside0.mk (q2.toBelow HB4 HB4.size (fun x hx => by simp at hx; omega))
  have II := Aside0.mk I2; have HN4 := Aside0.mk hn4; have HG4 := Aside0.mk hg4
  clear hn4 hg4 I2 q2 u0 u1 J2 S0 HB4 n0 m1 kp kp3 hk3 hr3 hr1 hn1 hf1 hg1 HOa BKa BKw hba hfa hna hra hndd
  go_wp2
  refine bodyPost_ret (results_cell_row rfl _ _ (w.heap.size + 1) 43 #[.slice Ap bs.length cp_, .slice Av L.length cv] (0, 0) _ rfl II.out Try.underlying43 rfl (by kernel_rfl)) rfl ?_
  rw [HL.out]
  exact ⟨_, _, f0, fp1, rfl, T0.out, T1.out, HN4.out, HG4.out, HB5.out⟩
end Go.Proofs.Ytocdlibnmlcokaa
namespace Go.Proofs.Ytocdlibnmlcokaa
open Go.RowKit Go.Proofs.YtocdlibnmlcokaaW.PrintWords Go.Proofs.YtocdlibnmlcokaaW.PrintLast
set_option linter.unusedVariables false
set_option linter.unusedSimpArgs false
def setTo (bs : List (List Int)) (ws : List Wr) (kf : Nat → Bool) : Nat → List (List Int)
  | 0 => bs
  | i + 1 => if kf i then (setTo bs ws kf i).set (ws.getD i ⟨0, []⟩).block.toNat (ws.getD i ⟨0, []⟩).bytes else setTo bs ws kf i
theorem setTo_len (bs : List (List Int)) (ws : List Wr) (kf : Nat → Bool) : ∀ i, (setTo bs ws kf i).length = bs.length
  | 0 => rfl
  | i + 1 => by
    simp only [setTo]
    split
    · rw [List.length_set, setTo_len bs ws kf i]
    · exact setTo_len bs ws kf i
def settleL (bs : List (List Int)) (ws : List Wr) (kf : Nat → Bool) : List (List Int) := setTo bs ws kf ws.length
def kfL (all : Bool) (kl : List Bool) (i : Nat) : Bool := all || kl.getD i false
theorem elem_at {α : Type} {r : Rp α} {e g cap n : Nat} {w : World} {xs : List α} {css : List (List Value)} {fps : List (List Nat)} (ho : w.ownsRow 0 e r.d.sz (.slice (some ⟨g, 0, none⟩) n cap) n css.flatten) (ha : All3 (r.P w) xs css fps) (i : Nat) (hi : i < xs.length) :
    ∃ cs, r.P w xs[i] cs (fps[i]'(by rw [ha.len2]; exact hi)) ∧ ∀ j u, cs[j]? = some u → w.cell? ⟨g, i * r.d.sz + j, none⟩ = some u := by
  refine ⟨css[i]'(by rw [ha.len1]; exact hi), ha.get hi _ _, fun j u hu => ?_⟩
  have := ho.cells (g := g) rfl _ u (flat_at (Rp.all_len ha) (by rw [ha.len1]; exact hi) hu)
  rwa [add_plain] at this
theorem All3_loc {α : Type} {r : Rp α} {w w1 : World} {xs : List α} {css : List (List Value)} {fps : List (List Nat)} (ha : All3 (r.P w) xs css fps) (hm : ∀ b ∈ fps.flatten, w1.heap[b]? = w.heap[b]?) : All3 (r.P w1) xs css fps :=
  ha.imp fun a b c hc hP => r.loc hP fun k hk => hm k (List.mem_flatten.2 ⟨c, hc, hk⟩)
def Parts (w : World) (v : Value) (ws : List Wr) (css : List (List Value)) (fps : List (List Nat)) : Prop :=
  w.ownsRow 0 147 2 v ws.length css.flatten ∧ All3 (rW.P w) ws css fps
theorem Parts.row {w : World} {v : Value} {ws : List Wr} {css : List (List Value)} {fps : List (List Nat)} (h : Parts w v ws css fps) : rW.Row 147 w v ws (v.ownBlock.toList ++ fps.flatten) := ⟨css, fps, h.1, h.2, rfl⟩
theorem Parts.kp {w w1 : World} {v : Value} {ws : List Wr} {css : List (List Value)} {fps : List (List Nat)} {S : List Nat} (h : Parts w v ws css fps) (k : Kp w w1 S) (hS : ∀ b ∈ v.ownBlock.toList ++ fps.flatten, b ∉ S) : Parts w1 v ws css fps := by
  have hlt := Rp.Row_lt h.row
  obtain ⟨ho, ha⟩ := h
  refine ⟨own_move ho fun b hb => ?_, All3_loc ha fun b hb => k.block b (hlt b (List.mem_append_right _ hb)) (hS b (List.mem_append_right _ hb))⟩
  have hm : b ∈ v.ownBlock.toList ++ fps.flatten := List.mem_append_left _ (by rw [hb]; simp)
  exact k.block b (hlt b hm) (hS b hm)
set_option maxRecDepth 100000 in
set_option maxHeartbeats 4000000 in
theorem l2settle_c (A0 A1 A2 : Option Addr) (c0 c1 c2_ : Nat) (bs : List (List Int)) (ws : List Wr) (all : Bool) (kl : List Bool) (w : World) (hx : rBS.d.C w A0 bs.length bs) (hy : rW.d.C w A1 ws.length ws) (hk : Kd.bool.C w A2 kl.length kl) (hd : DkOk bs ws) :
    Calls Try.prog 125 #[.agg #[.slice A0 bs.length c0, .slice A1 ws.length c1], .bool all, .slice A2 kl.length c2_] w (GotDisk w (settleL bs ws (kfL all kl)) []) := by
  have hb0 := below_alloc (below_alloc (Below.refl w.heap.size w) (.cells #[.slice A0 bs.length c0, .slice A1 ws.length c1] 43)) (.cells #[.slice none 0 0, .slice none 0 0] 43)
  have BK2 := Aside0.mk (blk_new' (w := w.alloc (.cells #[.slice A0 bs.length c0, .slice A1 ws.length c1] 43)) (.cells #[.slice none 0 0, .slice none 0 0] 43) (n := w.heap.size + 1) (by simp))
  have HX := Aside0.mk (Kd.C_below hx hb0); have HY := Aside0.mk (Kd.C_below hy hb0); have HKL := Aside0.mk hk; have HB0 := Aside0.mk hb0
  have hkl : kl.length ≤ 9223372036854775807 := hk.2.1
  have HD := Aside0.mk hd
  clear hx hy hk hb0 hd
  go_enter Try.func125, Try.ntmps125
  go_wp2_with fail
  refine (l2copy_c _ _ bs _ _ ws _ HX.out HY.out (by have := HD.out.1; omega) (by have := HD.out.2.1; omega) (fun x hx => by have := HD.out.2.2.1 x hx; omega) (fun x hx => by have := HD.out.2.2.2 x hx; omega)).mono ?_
  rintro e w2 ⟨v0, v1, f0i, f1, rfl, r0, r1, hnd, hge, hb2⟩
  obtain ⟨Ap, cp_, rfl, _, _⟩ := Rp.Row_reads r0
  obtain ⟨Aq, cq, rfl, _, _⟩ := Rp.Row_reads r1
  obtain ⟨css, fps, ho, ha, rfl⟩ := r1
  have q2 : Parts w2 (.slice Aq ws.length cq) ws css fps := ⟨ho, ha⟩
  have hwl : (ws.length : Int) ≤ 200 := by have := HD.out.2.1; omega
  clear ho ha
  replace BK2 := Aside0.mk (blk_below BK2.out hb2)
  have HB2 := Aside0.mk (below_then HB0.out (by simp; omega) hb2)
  have HND := Aside0.mk hnd
  have HGE : Aside0 (∀ x ∈ f0i ++ ((Value.slice Aq ws.length cq).ownBlock.toList ++ fps.flatten), w.heap.size ≤ x) := ⟨fun x hx => by have := hge x hx; simp at this; omega⟩
  have HG0 : Aside0 (∀ b ∈ (Value.slice Ap bs.length cp_).ownBlock.toList, b ∉ fps.flatten) := ⟨fun b hb hm => by
    have h1 : b ∈ f0i := Rp.Row_block r0 (by cases hv : (Value.slice Ap bs.length cp_).ownBlock with | none => rw [hv] at hb; simp at hb | some k => rw [hv] at hb; simp at hb; rw [hb])
    exact (List.nodup_append.1 hnd).2.2 b h1 b (List.mem_append_right _ hm) rfl⟩
  clear hnd hge hb2 HX HY HB0
  go_wp2_with fail
  generalize hw3 : w2.alloc _ = w3
  obtain ⟨k7, hb3, hs3⟩ := alloc1 hw3
  clear hw3
  have hne : w.heap.size + 1 < w2.heap.size := blk_lt BK2.out
  have BK7 := Aside0.mk k7
  replace BK2 := Aside0.mk (blk_below BK2.out hb3)
  have R0 := Aside0.mk (Rp.Row_below r0 hb3)
  have Q0 := Aside0.mk (q2.kp (Kp.below hb3) (by simp))
  have hsz := HB2.out.size
  have HB3 := Aside0.mk (below_then HB2.out HB2.out.size hb3)
  clear k7 hb3 hs3 HB2 r0 q2
  generalize w2.heap.size = g7 at BK7 hne hsz ⊢
  go_loopg [15] ws.length (fun m vi wr => ∃ (i : Int) (f0 : List Nat), vi = .int .i64 i ∧ Aside0 (0 ≤ i ∧ i ≤ ws.length ∧ ws.length - i.toNat ≤ m) ∧ Aside0 (rBS.Row 22 wr (.slice Ap bs.length cp_) (setTo bs ws (kfL all kl) i.toNat) f0) ∧ Aside0 (Parts wr (.slice Aq ws.length cq) ws css fps)
    ∧ Aside0 (f0.Nodup ∧ ∀ b ∈ f0, b ∈ f0i ∨ ∃ j, ∃ h : j < fps.length, j < i.toNat ∧ b ∈ fps[j]) ∧ Aside0 (wr.heap[w.heap.size + 1]? = some (.cells #[.slice none 0 0, .slice none 0 0] 43 (0, 0))) ∧ Aside0 (wr.heap[g7]? = some (.cells #[.slice Ap bs.length cp_, .slice Aq ws.length cq] 43 (0, 0))) ∧ Aside0 (Below w.heap.size w wr))
  case atStart => exact ⟨0, f0i, rfl, ⟨by simp⟩, R0, Q0, ⟨(List.nodup_append.1 HND.out).1, fun b hb => .inl hb⟩, BK2, BK7, HB3⟩
  case round =>
    clear R0 Q0 BK2 BK7 HB3
    obtain ⟨i, f0, rfl, HI, HO, HQ, HF, BK2, BK7, HB⟩ := hrel
    have hge0 : Aside0 (∀ b ∈ f0, w.heap.size ≤ b) := ⟨fun b hb => by
      rcases HF.out.2 b hb with h | ⟨j, hj, _, h⟩
      · exact HGE.out b (List.mem_append_left _ h)
      · exact HGE.out b (List.mem_append_right _ (List.mem_append_right _ (List.mem_flatten.2 ⟨_, List.getElem_mem hj, h⟩)))⟩
    by_cases hlt : i < (ws.length : Int)
    · have hi0 : 0 ≤ i := HI.out.1
      have hil : i.toNat < ws.length := by omega
      obtain ⟨gq, capq, hvq, _, _⟩ := Rp.Row_form HQ.out.row (by omega)
      injection hvq with hAq _ hcq
      subst hAq; subst hcq
      obtain ⟨css_, hP, hcell⟩ := elem_at HQ.out.1 HQ.out.2 i.toNat hil
      have hfl : i.toNat < fps.length := by rw [HQ.out.2.len2]; exact hil
      have hgx : ws.getD i.toNat ⟨0, []⟩ = ws[i.toNat] := by simp [List.getD_eq_getElem?_getD, hil]
      have hxo := HD.out.2.2.2 _ (List.getElem_mem (l := ws) hil)
      generalize hxx : ws[i.toNat] = x at hP hgx hxo
      have HGX := Aside0.mk hgx
      obtain ⟨v, rfl, hri⟩ := W_open hP
      obtain ⟨Ai, ci, rfl, _, _⟩ := Rp.Row_reads hri
      have c0 : wr.cell? ⟨gq, i.toNat * 2, none⟩ = _ := hcell 0 _ rfl
      have c1 : wr.cell? ⟨gq, i.toNat * 2 + 1, none⟩ = _ := hcell 1 _ rfl
      have Hri : Aside0 (rB.Row 5 wr (.slice Ai x.bytes.length ci) x.bytes (fps[i.toNat]'hfl)) := ⟨hri⟩
      have hx0 := hxo.1; have hx1 : x.block < (bs.length : Int) := by have := HD.out.1; omega
      have k8 := (blk_cell (blk_alloc BK7.out (.cells #[.int .i64 x.block, .slice Ai x.bytes.length ci] 147)) 0).trans rfl
      have HXO := Aside0.mk hxo
      clear hP hcell hgx hri hxx hxo
      have hout : ¬ kfL all kl i.toNat = true → setTo bs ws (kfL all kl) (i + 1).toNat = setTo bs ws (kfL all kl) i.toNat := by
        intro hn
        rw [show (i + 1).toNat = i.toNat + 1 by omega]; simp only [setTo]; rw [if_neg hn]
      have HOUT := Aside0.mk hout; clear hout
      cases all with
      | true =>
        have hkf : kfL true kl i.toNat = true := rfl
        obtain ⟨g0, cap0, hv0, hg0m, _⟩ := Rp.Row_form HO.out (by rw [setTo_len]; have := HD.out.1; omega)
        rw [setTo_len] at hv0
        injection hv0 with hA0 _ hc0
        subst hA0; subst hc0
        obtain ⟨csb, fb, hPb, _, _, _, hcellb, hfrb, _, hst⟩ := Rp.Row_elem (Rp.Row_alloc HO.out (.cells #[.int .i64 x.block, .slice Ai x.bytes.length ci] 147)) HF.out.1 x.block.toNat (by rw [setTo_len]; have := HD.out.1; omega)
        obtain ⟨vb, rfl, _⟩ := hPb
        have e0 : x.block.toNat * rBS.d.sz + 0 = x.block.toNat := Nat.mul_one _
        have c5 := hcellb 0 _ rfl
        rw [e0] at c5
        have z5 := hfrb x.block.toNat
        have hnd1 := List.nodup_append.1 HND.out
        have hnd2 := List.nodup_append.1 hnd1.2.1
        have hnotf : ∀ b ∈ fps[i.toNat]'hfl, b ∉ f0 := fun b hb hm => by
          rcases HF.out.2 b hm with h | ⟨j, hj, hji, h⟩
          · exact hnd1.2.2 b h b (List.mem_append_right _ (List.mem_flatten.2 ⟨_, List.getElem_mem hfl, hb⟩)) rfl
          · exact nodup_flat_ne hj hfl hnd2.2.1 (by omega) h hb
        have hga : g0 ∉ fps[i.toNat]'hfl := fun h => hnotf g0 h hg0m
        have hq0 : ∀ b ∈ (Value.slice (some ⟨gq, 0, none⟩) ws.length cq).ownBlock.toList ++ fps.flatten, b ≠ g0 := by
          intro b hb he
          subst he
          rcases List.mem_append.1 hb with h | h
          · rcases HF.out.2 b hg0m with h2 | ⟨j, hj, _, h2⟩
            · exact hnd1.2.2 b h2 b (List.mem_append_left _ h) rfl
            · exact hnd2.2.2 b h b (List.mem_flatten.2 ⟨_, List.getElem_mem hj, h2⟩) rfl
          · exact HG0.out b (by simp [Value.ownBlock]) h
        obtain ⟨fp', hr', hn', hf', _⟩ := hst 0 (.slice Ai x.bytes.length ci) x.bytes (fps[i.toNat]'hfl) (by decide) ⟨_, rfl, Rp.Row_far (Rp.Row_alloc Hri.out _) (p := ⟨g0, x.block.toNat * rBS.d.sz + 0, none⟩) hga _⟩ (nodup_flat_mem hnd2.2.1 (List.getElem_mem _)) (fun b hb => .inr (hnotf b hb)) (.inr hnotf)
        rw [e0] at hr'
        have hset : (setTo bs ws (kfL true kl) i.toNat).set x.block.toNat x.bytes = setTo bs ws (kfL true kl) (i + 1).toNat := by
          rw [show (i + 1).toNat = i.toNat + 1 by omega]; simp only [setTo]; rw [if_pos hkf, HGX.out]
        rw [hset] at hr'
        have kp : Kp wr ((wr.alloc (.cells #[.int .i64 x.block, .slice Ai x.bytes.length ci] 147)).setCell ⟨g0, x.block.toNat, none⟩ (.slice Ai x.bytes.length ci)) [g0] := ((Kp.below (below_alloc (Below.refl _ wr) _)).mono (by simp)).trans (Kp.set _ _ _ _) (fun b hb _ => hb)
        have ng7 : g7 ≠ g0 := fun h => Rp.Row_not HO.out BK7.out (by decide) (h ▸ hg0m)
        have ng2 : w.heap.size + 1 ≠ g0 := fun h => Rp.Row_not HO.out BK2.out (by decide) (h ▸ hg0m)
        have HO' := Aside0.mk hr'
        have HQ' := Aside0.mk (HQ.out.kp kp (fun b hb hm => by simp at hm; exact hq0 b hb hm))
        have BK2' := Aside0.mk (kp.blk BK2.out (by simp; exact ng2))
        have BK7' := Aside0.mk (kp.blk BK7.out (by simp; exact ng7))
        have HB' := Aside0.mk (kp.toBelow HB.out HB.out.size (fun b hb => by simp at hb; subst hb; exact hge0.out b hg0m))
        have HF' : Aside0 (fp'.Nodup ∧ ∀ b ∈ fp', b ∈ f0i ∨ ∃ j, ∃ h : j < fps.length, j < (i + 1).toNat ∧ b ∈ fps[j]) := ⟨hn', fun b hb => by
          rcases hf' b hb with h | h
          · rcases HF.out.2 b h with h2 | ⟨j, hj, hji, h2⟩
            · exact .inl h2
            · exact .inr ⟨j, hj, by omega, h2⟩
          · exact .inr ⟨i.toNat, hfl, by omega, h⟩⟩
        clear hst hr' e0 hnd1 hnd2 hnotf hga hq0 hn' hf' hset kp ng7 ng2 hcellb hfrb hkf HO HQ BK2 BK7 HB HF
        go_wp2
        go_roundg (gk - 1)
        case measure => have := HI.out; omega
        case rel => exact ⟨i + 1, fp', rfl, ⟨by have := HI.out; omega, by have := HI.out; omega, by have := HI.out; omega⟩, HO', HQ', HF', BK2', BK7', HB'⟩
      | false =>
        by_cases hin : i < (kl.length : Int)
        · obtain ⟨adk, hAk, ck⟩ := Kd.at_bool (Kd.C_alloc (Kd.C_below HKL.out HB.out) (.cells #[.int .i64 x.block, .slice Ai x.bytes.length ci] 147)) i hi0 hin
          cases hAk
          by_cases hkt : rdOf false kl i = true
          · have hkf : kfL false kl i.toNat = true := hkt
            rw [hkt] at ck
            clear hkt
            obtain ⟨g0, cap0, hv0, hg0m, _⟩ := Rp.Row_form HO.out (by rw [setTo_len]; have := HD.out.1; omega)
            rw [setTo_len] at hv0
            injection hv0 with hA0 _ hc0
            subst hA0; subst hc0
            obtain ⟨csb, fb, hPb, _, _, _, hcellb, hfrb, _, hst⟩ := Rp.Row_elem (Rp.Row_alloc HO.out (.cells #[.int .i64 x.block, .slice Ai x.bytes.length ci] 147)) HF.out.1 x.block.toNat (by rw [setTo_len]; have := HD.out.1; omega)
            obtain ⟨vb, rfl, _⟩ := hPb
            have e0 : x.block.toNat * rBS.d.sz + 0 = x.block.toNat := Nat.mul_one _
            have c5 := hcellb 0 _ rfl
            rw [e0] at c5
            have z5 := hfrb x.block.toNat
            have hnd1 := List.nodup_append.1 HND.out
            have hnd2 := List.nodup_append.1 hnd1.2.1
            have hnotf : ∀ b ∈ fps[i.toNat]'hfl, b ∉ f0 := fun b hb hm => by
              rcases HF.out.2 b hm with h | ⟨j, hj, hji, h⟩
              · exact hnd1.2.2 b h b (List.mem_append_right _ (List.mem_flatten.2 ⟨_, List.getElem_mem hfl, hb⟩)) rfl
              · exact nodup_flat_ne hj hfl hnd2.2.1 (by omega) h hb
            have hga : g0 ∉ fps[i.toNat]'hfl := fun h => hnotf g0 h hg0m
            have hq0 : ∀ b ∈ (Value.slice (some ⟨gq, 0, none⟩) ws.length cq).ownBlock.toList ++ fps.flatten, b ≠ g0 := by
              intro b hb he
              subst he
              rcases List.mem_append.1 hb with h | h
              · rcases HF.out.2 b hg0m with h2 | ⟨j, hj, _, h2⟩
                · exact hnd1.2.2 b h2 b (List.mem_append_left _ h) rfl
                · exact hnd2.2.2 b h b (List.mem_flatten.2 ⟨_, List.getElem_mem hj, h2⟩) rfl
              · exact HG0.out b (by simp [Value.ownBlock]) h
            obtain ⟨fp', hr', hn', hf', _⟩ := hst 0 (.slice Ai x.bytes.length ci) x.bytes (fps[i.toNat]'hfl) (by decide) ⟨_, rfl, Rp.Row_far (Rp.Row_alloc Hri.out _) (p := ⟨g0, x.block.toNat * rBS.d.sz + 0, none⟩) hga _⟩ (nodup_flat_mem hnd2.2.1 (List.getElem_mem _)) (fun b hb => .inr (hnotf b hb)) (.inr hnotf)
            rw [e0] at hr'
            have hset : (setTo bs ws (kfL false kl) i.toNat).set x.block.toNat x.bytes = setTo bs ws (kfL false kl) (i + 1).toNat := by
              rw [show (i + 1).toNat = i.toNat + 1 by omega]; simp only [setTo]; rw [if_pos hkf, HGX.out]
            rw [hset] at hr'
            have kp : Kp wr ((wr.alloc (.cells #[.int .i64 x.block, .slice Ai x.bytes.length ci] 147)).setCell ⟨g0, x.block.toNat, none⟩ (.slice Ai x.bytes.length ci)) [g0] := ((Kp.below (below_alloc (Below.refl _ wr) _)).mono (by simp)).trans (Kp.set _ _ _ _) (fun b hb _ => hb)
            have ng7 : g7 ≠ g0 := fun h => Rp.Row_not HO.out BK7.out (by decide) (h ▸ hg0m)
            have ng2 : w.heap.size + 1 ≠ g0 := fun h => Rp.Row_not HO.out BK2.out (by decide) (h ▸ hg0m)
            have HO' := Aside0.mk hr'
            have HQ' := Aside0.mk (HQ.out.kp kp (fun b hb hm => by simp at hm; exact hq0 b hb hm))
            have BK2' := Aside0.mk (kp.blk BK2.out (by simp; exact ng2))
            have BK7' := Aside0.mk (kp.blk BK7.out (by simp; exact ng7))
            have HB' := Aside0.mk (kp.toBelow HB.out HB.out.size (fun b hb => by simp at hb; subst hb; exact hge0.out b hg0m))
            have HF' : Aside0 (fp'.Nodup ∧ ∀ b ∈ fp', b ∈ f0i ∨ ∃ j, ∃ h : j < fps.length, j < (i + 1).toNat ∧ b ∈ fps[j]) := ⟨hn', fun b hb => by
              rcases hf' b hb with h | h
              · rcases HF.out.2 b h with h2 | ⟨j, hj, hji, h2⟩
                · exact .inl h2
                · exact .inr ⟨j, hj, by omega, h2⟩
              · exact .inr ⟨i.toNat, hfl, by omega, h⟩⟩
            clear hst hr' e0 hnd1 hnd2 hnotf hga hq0 hn' hf' hset kp ng7 ng2 hcellb hfrb hkf HO HQ BK2 BK7 HB HF
            go_wp2
            go_roundg (gk - 1)
            case measure => have := HI.out; omega
            case rel => exact ⟨i + 1, fp', rfl, ⟨by have := HI.out; omega, by have := HI.out; omega, by have := HI.out; omega⟩, HO', HQ', HF', BK2', BK7', HB'⟩
          · have hkf : ¬ kfL false kl i.toNat = true := hkt
            rw [Bool.not_eq_true] at hkt
            rw [hkt] at ck
            clear hkt
            have kp : Kp wr (wr.alloc (.cells #[.int .i64 x.block, .slice Ai x.bytes.length ci] 147)) [] := Kp.below (below_alloc (Below.refl _ wr) _)
            have HO' := Aside0.mk (kp.row HO.out (by simp))
            have HQ' := Aside0.mk (HQ.out.kp kp (by simp))
            have BK2' := Aside0.mk (kp.blk BK2.out (by simp)); have BK7' := Aside0.mk (kp.blk BK7.out (by simp))
            have HB' := Aside0.mk (kp.toBelow HB.out HB.out.size (by simp))
            have HF' : Aside0 (f0.Nodup ∧ ∀ b ∈ f0, b ∈ f0i ∨ ∃ j, ∃ h : j < fps.length, j < (i + 1).toNat ∧ b ∈ fps[j]) := ⟨HF.out.1, fun b hb => by
              rcases HF.out.2 b hb with h2 | ⟨j, hj, hji, h2⟩
              · exact .inl h2
              · exact .inr ⟨j, hj, by omega, h2⟩⟩
            have HKF := Aside0.mk hkf
            clear kp hkf HO HQ BK2 BK7 HB HF
            go_wp2
            go_roundg (gk - 1)
            case measure => have := HI.out; omega
            case rel => exact ⟨i + 1, f0, rfl, ⟨by have := HI.out; omega, by have := HI.out; omega, by have := HI.out; omega⟩, by rw [HOUT.out HKF.out]; exact HO', HQ', HF', BK2', BK7', HB'⟩
        · have hkf : ¬ kfL false kl i.toNat = true := by
            simp [kfL, List.getElem?_eq_none (show kl.length ≤ i.toNat by omega)]
          have kp : Kp wr (wr.alloc (.cells #[.int .i64 x.block, .slice Ai x.bytes.length ci] 147)) [] := Kp.below (below_alloc (Below.refl _ wr) _)
          have HO' := Aside0.mk (kp.row HO.out (by simp))
          have HQ' := Aside0.mk (HQ.out.kp kp (by simp))
          have BK2' := Aside0.mk (kp.blk BK2.out (by simp)); have BK7' := Aside0.mk (kp.blk BK7.out (by simp))
          have HB' := Aside0.mk (kp.toBelow HB.out HB.out.size (by simp))
          have HF' : Aside0 (f0.Nodup ∧ ∀ b ∈ f0, b ∈ f0i ∨ ∃ j, ∃ h : j < fps.length, j < (i + 1).toNat ∧ b ∈ fps[j]) := ⟨HF.out.1, fun b hb => by
            rcases HF.out.2 b hb with h2 | ⟨j, hj, hji, h2⟩
            · exact .inl h2
            · exact .inr ⟨j, hj, by omega, h2⟩⟩
          have HKF := Aside0.mk hkf
          clear kp hkf HO HQ BK2 BK7 HB HF
          go_wp2
          go_roundg (gk - 1)
          case measure => have := HI.out; omega
          case rel => exact ⟨i + 1, f0, rfl, ⟨by have := HI.out; omega, by have := HI.out; omega, by have := HI.out; omega⟩, by rw [HOUT.out HKF.out]; exact HO', HQ', HF', BK2', BK7', HB'⟩
    · have hi := HI.out
      have e2 : i = ws.length := by omega
      subst e2
      have HO2 := HO.out
      simp only [Int.toNat_natCast] at HO2
      have HO3 : Aside0 (rBS.Row 22 wr (.slice Ap bs.length cp_) (settleL bs ws (kfL all kl)) f0) := ⟨HO2⟩
      have hlen : (settleL bs ws (kfL all kl)).length = bs.length := setTo_len _ _ _ _
      clear HO2 hi HO HQ
      obtain ⟨J7, q7⟩ := set1 BK7.out 1 (.slice none 0 0)
      have J2 := q7.blk BK2.out (by simp; omega)
      obtain ⟨I2, q2⟩ := set2 J2 (.slice Ap bs.length cp_) (.slice none 0 0)
      have n7 := Rp.Row_not HO3.out BK7.out (by decide)
      have n2 := Rp.Row_not HO3.out BK2.out (by decide)
      have HR := Aside0.mk (q2.row (q7.row HO3.out (fun x hx hm => n7 (by simp at hm; exact hm ▸ hx))) (fun x hx hm => n2 (by simp at hm; exact hm ▸ hx)))
      have HB5 := Aside0.mk (q2.toBelow (q7.toBelow HB.out HB.out.size (fun x hx => by simp at hx; omega)) (Nat.le_trans HB.out.size q7.size) (fun x hx => by simp at hx; omega))
      have II := Aside0.mk I2
      have k7 := (blk_cell BK7.out 1).trans rfl; have z7 := blk_frozen BK7.out 1
      have k8 := (blk_cell J7 0).trans rfl; have k9 := (blk_cell J7 1).trans rfl
      have c2 := (blk_cell J2 0).trans rfl; have c3 := (blk_cell J2 1).trans rfl; have z2 := blk_frozen J2 0; have z3 := blk_frozen J2 1
      have HLEN := Aside0.mk hlen
      clear I2 q2 J2 J7 q7 n7 n2 hlen
      go_wp2
      refine bodyPost_ret (results_cell_row rfl _ _ (w.heap.size + 1) 43 #[.slice Ap bs.length cp_, .slice none 0 0] (0, 0) _ rfl II.out Try.underlying43 rfl (by kernel_rfl)) rfl ?_
      exact ⟨_, _, f0, [], rfl, HR.out, Rp.Row_nil _ _ _, by simpa using HF.out.1, by simpa using hge0.out, HB5.out⟩
end Go.Proofs.Ytocdlibnmlcokaa
namespace Go.Proofs.Ytocdlibnmlcokaa
open Go.RowKit Go.Proofs.YtocdlibnmlcokaaW.PrintWords Go.Proofs.YtocdlibnmlcokaaW.PrintLast
set_option linter.unusedVariables false
set_option linter.unusedSimpArgs false
set_option maxRecDepth 100000 in
set_option maxHeartbeats 4000000 in
theorem implCrash_yes (A0 A1 A2 : Option Addr) (c0 c1 c2_ : Nat) (bs : List (List Int)) (ws : List Wr) (kl : List Bool) (w : World) (hx : rBS.d.C w A0 bs.length bs) (hy : rW.d.C w A1 ws.length ws) (hk : Kd.bool.C w A2 kl.length kl) (hd : DkOk bs ws) :
    Calls Try.prog 66 #[.agg #[.slice A0 bs.length c0, .slice A1 ws.length c1], .slice A2 kl.length c2_] w (GotDisk w (settleL bs ws (kfL false kl)) []) := by
  have hb0 := below_alloc (below_alloc (Below.refl w.heap.size w) (.cells #[.slice A0 bs.length c0, .slice A1 ws.length c1] 43)) (.cells #[.slice none 0 0, .slice none 0 0] 43)
  have BK1 := Aside0.mk (blk_alloc (blk_new w (.cells #[.slice A0 bs.length c0, .slice A1 ws.length c1] 43)) (.cells #[.slice none 0 0, .slice none 0 0] 43))
  have BK2 := Aside0.mk (blk_new' (w := w.alloc (.cells #[.slice A0 bs.length c0, .slice A1 ws.length c1] 43)) (.cells #[.slice none 0 0, .slice none 0 0] 43) (n := w.heap.size + 1) (by simp))
  have HX := Aside0.mk (Kd.C_below hx hb0); have HY := Aside0.mk (Kd.C_below hy hb0); have HKL := Aside0.mk hk; have HB0 := Aside0.mk hb0
  have hkl : kl.length ≤ 9223372036854775807 := hk.2.1
  have HD := Aside0.mk hd
  clear hx hy hk hb0 hd
  go_enter Try.func66, Try.ntmps66
  go_wp2_with fail
  refine (implDiskOk_c _ _ _ _ bs ws true ⟨fun _ => HD.out, fun _ => rfl⟩ _ HX.out HY.out).mono ?_
  rintro e w1 ⟨rfl, hb1⟩
  have J1 := blk_below BK1.out hb1; have J2 := blk_below BK2.out hb1
  have d0 := (blk_cell J1 0).trans rfl; have d1 := (blk_cell J1 1).trans rfl
  replace HX := Aside0.mk (Kd.C_below HX.out hb1); replace HY := Aside0.mk (Kd.C_below HY.out hb1)
  have HB1 := Aside0.mk (below_then HB0.out (by simp; omega) hb1); replace BK2 := Aside0.mk J2
  clear J1 J2 hb1 HB0 BK1
  go_wp2_with fail
  refine (copyDisk_c _ _ bs _ _ ws _ HX.out HY.out (by have := HD.out.1; omega) (by have := HD.out.2.1; omega) (fun x hx => by have := HD.out.2.2.1 x hx; omega) (fun x hx => by have := HD.out.2.2.2 x hx; omega)).mono ?_
  rintro e w2 ⟨v0, v1, f0i, f1, rfl, r0, r1, hnd, hge, hb2⟩
  obtain ⟨Ap, cp_, rfl, _, _⟩ := Rp.Row_reads r0
  obtain ⟨Aq, cq, rfl, _, _⟩ := Rp.Row_reads r1
  have hwl : (ws.length : Int) ≤ 200 := by have := HD.out.2.1; omega
  replace BK2 := Aside0.mk (blk_below BK2.out hb2)
  have HB2 := Aside0.mk (below_then HB1.out HB1.out.size hb2)
  have HND : Aside0 ((f0i ++ f1).Nodup ∧ ∀ x ∈ f0i ++ f1, w.heap.size ≤ x) := ⟨hnd, fun x hx => by have := hge x hx; have := HB1.out.size; omega⟩
  clear hnd hge hb2 HX HY HB1 d0 d1
  go_wp2_with fail
  generalize hw3 : w2.alloc _ = w3
  obtain ⟨k7, hb3, hs3⟩ := alloc1 hw3
  clear hw3
  have hne : w.heap.size + 1 < w2.heap.size := blk_lt BK2.out
  have BK7 := Aside0.mk k7
  replace BK2 := Aside0.mk (blk_below BK2.out hb3)
  have R0 := Aside0.mk (Rp.Row_below r0 hb3)
  have R1 := Aside0.mk (Rp.Row_below r1 hb3)
  have hsz := HB2.out.size
  have HB3 := Aside0.mk (below_then HB2.out HB2.out.size hb3)
  clear k7 hb3 hs3 HB2 r0 r1
  generalize w2.heap.size = g7 at BK7 hne hsz ⊢
  go_loopg [17] ws.length (fun m vi wr => ∃ (i : Int) (f0 : List Nat), vi = .int .i64 i ∧ Aside0 (0 ≤ i ∧ i ≤ ws.length ∧ ws.length - i.toNat ≤ m) ∧ Aside0 (rBS.Row 22 wr (.slice Ap bs.length cp_) (setTo bs ws (kfL false kl) i.toNat) f0) ∧ Aside0 (rW.Row 147 wr (.slice Aq ws.length cq) ws f1)
    ∧ Aside0 ((f0 ++ f1).Nodup ∧ ∀ b ∈ f0 ++ f1, w.heap.size ≤ b) ∧ Aside0 (wr.heap[w.heap.size + 1]? = some (.cells #[.slice none 0 0, .slice none 0 0] 43 (0, 0))) ∧ Aside0 (wr.heap[g7]? = some (.cells #[.slice Ap bs.length cp_, .slice Aq ws.length cq] 43 (0, 0))) ∧ Aside0 (Below w.heap.size w wr))
  case atStart => exact ⟨0, f0i, rfl, ⟨by simp⟩, R0, R1, HND, BK2, BK7, HB3⟩
  case round =>
    clear R0 R1 BK2 BK7 HB3 HND
    obtain ⟨i, f0, rfl, HI, HO, HQ, HF, BK2, BK7, HB⟩ := hrel
    by_cases hlt : i < (ws.length : Int)
    · have hi0 : 0 ≤ i := HI.out.1
      have hil : i.toNat < ws.length := by omega
      have hndd := List.nodup_append.1 HF.out.1
      obtain ⟨gq, capq, hvq, _, _⟩ := Rp.Row_form HQ.out (by omega)
      injection hvq with hAq _ hcq
      subst hAq; subst hcq
      obtain ⟨css_, fx, hP, _, _, _, hcell, _, _, _⟩ := Rp.Row_elem HQ.out hndd.2.1 i.toNat hil
      have hgx : ws.getD i.toNat ⟨0, []⟩ = ws[i.toNat] := by simp [List.getD_eq_getElem?_getD, hil]
      have hxo := HD.out.2.2.2 _ (List.getElem_mem (l := ws) hil)
      generalize hxx : ws[i.toNat] = x at hP hgx hxo
      have HGX := Aside0.mk hgx
      obtain ⟨v, rfl, hri⟩ := W_open hP
      obtain ⟨Ai, ci, rfl, _, _⟩ := Rp.Row_reads hri
      have c0 : wr.cell? ⟨gq, i.toNat * 2, none⟩ = _ := hcell 0 _ rfl
      have c1 : wr.cell? ⟨gq, i.toNat * 2 + 1, none⟩ = _ := hcell 1 _ rfl
      have Hri := Aside0.mk (Rp.Row_C hri).2.2
      have hx0 := hxo.1; have hx1 : x.block < (bs.length : Int) := by have := HD.out.1; omega
      have HXO := Aside0.mk hxo
      clear hP hcell hgx hri hxx hxo hndd
      have hout : ¬ kfL false kl i.toNat = true → setTo bs ws (kfL false kl) (i + 1).toNat = setTo bs ws (kfL false kl) i.toNat := by
        intro hn
        rw [show (i + 1).toNat = i.toNat + 1 by omega]; simp only [setTo]; rw [if_neg hn]
      have HOUT := Aside0.mk hout; clear hout
      by_cases hin : i < (kl.length : Int)
      · obtain ⟨adk, hAk, ck⟩ := Kd.at_bool (Kd.C_alloc (Kd.C_below HKL.out HB.out) (.cells #[.int .i64 x.block, .slice Ai x.bytes.length ci] 147)) i hi0 hin
        cases hAk
        by_cases hkt : rdOf false kl i = true
        · have hkf : kfL false kl i.toNat = true := hkt
          rw [hkt] at ck
          clear hkt
          have HKF := Aside0.mk hkf; clear hkf
          go_wp2
          clear ck c0 c1
          have BKe := Aside0.mk (blk_drew (blk_new wr (.cells #[.int .i64 x.block, .slice Ai x.bytes.length ci] 147)))
          have hba0 := below_drew (below_alloc (Below.refl _ wr) (.cells #[.int .i64 x.block, .slice Ai x.bytes.length ci] 147))
          have hle := Aside0.mk (Rp.Row_lt HO.out)
          have hlq := Aside0.mk (Rp.Row_lt HQ.out)
          replace HO := Aside0.mk (Rp.Row_below HO.out hba0); replace HQ := Aside0.mk (Rp.Row_below HQ.out hba0)
          replace BK2 := Aside0.mk (blk_below BK2.out hba0); replace BK7 := Aside0.mk (blk_below BK7.out hba0)
          replace Hri := Aside0.mk (Kd.C_below Hri.out hba0)
          replace HB := Aside0.mk (below_then HB.out HB.out.size hba0)
          clear hba0
          refine sta (fun w' => w'.cell? ⟨g7, 0, none⟩ = some (.slice Ap bs.length cp_) ∧ w'.cell? ⟨wr.heap.size, 0, none⟩ = some (.int .i64 x.block) ∧ w'.cell? ⟨wr.heap.size, 1, none⟩ = some (.slice Ai x.bytes.length ci)) [8] 9 ⟨(blk_cell BK7.out 0).trans rfl, (blk_cell BKe.out 0).trans rfl, (blk_cell BKe.out 1).trans rfl⟩ (fun hS => ?_)
          generalize (wr.alloc _).drew = wd at HO HQ BK2 BK7 Hri HB BKe hS ⊢
          generalize wr.heap.size = gb at hle hlq BKe hS ⊢
          obtain ⟨g0, cap0, hv0, hg0m, _⟩ := Rp.Row_form HO.out (by rw [setTo_len]; have := HD.out.1; omega)
          rw [setTo_len] at hv0
          injection hv0 with hA0 _ hc0
          subst hA0; subst hc0
          refine pu 0 1 ?_
          refine pu 2 5 ?_
          refine pu 4 21 ?_
          refine tk 1 23 hS ?_
          refine tk 3 31 hS ?_
          refine tk 5 63 hS ?_
          refine on 6 127 (fun K hK => ?_)
          refine ca (cp_c _ _ x.bytes _ Hri.out (by have := HXO.out.2.2; omega)) Try.func114 ?_
          rintro e wa ⟨va_, rfl, ⟨fa, hra, hna, hfa⟩, hba⟩
          obtain ⟨Aa, ca_, rfl, _, _⟩ := Rp.Row_reads hra
          refine ⟨_, rfl, nx hK ⟨pw_cell_below hba hS.1, pw_cell_below hba hS.2.1, pw_cell_below hba hS.2.2⟩ (fun hS => ?_)⟩
          clear hK K
          have hndd := List.nodup_append.1 HF.out.1
          have HOa := Rp.Row_below HO.out hba
          have hltd := Rp.Row_lt HO.out; have hltq := Rp.Row_lt HQ.out
          obtain ⟨csb, fb, hPb, _, _, _, hcellb, hfrb, _, hst⟩ := Rp.Row_elem HOa hndd.1 x.block.toNat (by rw [setTo_len]; have := HD.out.1; omega)
          obtain ⟨vb, rfl, _⟩ := hPb
          have e0 : x.block.toNat * rBS.d.sz + 0 = x.block.toNat := Nat.mul_one _
          have c5 := hcellb 0 _ rfl
          rw [e0] at c5
          have z5 := hfrb x.block.toNat
          have hnotf : ∀ b ∈ fa, b ∉ f0 := fun b hb hm => by have := hfa b hb; have := hltd b hm; omega
          have hga : g0 ∉ fa := fun h => hnotf g0 h hg0m
          obtain ⟨fp', hr', hn', hf', _⟩ := hst 0 (.slice Aa x.bytes.length ca_) x.bytes fa (by decide) ⟨_, rfl, Rp.Row_far hra (p := ⟨g0, x.block.toNat * rBS.d.sz + 0, none⟩) hga _⟩ hna (fun b hb => .inr (hnotf b hb)) (.inr hnotf)
          rw [e0] at hr'
          have hset : (setTo bs ws (kfL false kl) i.toNat).set x.block.toNat x.bytes = setTo bs ws (kfL false kl) (i + 1).toNat := by
            rw [show (i + 1).toNat = i.toNat + 1 by omega]; simp only [setTo]; rw [if_pos HKF.out, HGX.out]
          rw [hset] at hr'
          refine pu 7 255 ?_
          refine la 8 511 (fun K hK => ?_)
          refine st ?_
          refine nl hK (dn ?_)
          clear hK K hS c5 z5
          have kp : Kp wd (wa.setCell ⟨g0, x.block.toNat, none⟩ (.slice Aa x.bytes.length ca_)) [g0] := ((Kp.below hba).mono (by simp)).trans (Kp.set _ _ _ _) (fun b hb _ => hb)
          generalize wa.setCell _ _ = wf at hr' kp ⊢
          have ng7 : g7 ≠ g0 := fun h => Rp.Row_not HO.out BK7.out (by decide) (h ▸ hg0m)
          have ng2 : w.heap.size + 1 ≠ g0 := fun h => Rp.Row_not HO.out BK2.out (by decide) (h ▸ hg0m)
          have HO' := Aside0.mk hr'
          have HQ' := Aside0.mk (kp.row HQ.out (fun b hb hm => by simp at hm; subst hm; exact hndd.2.2 b hg0m b hb rfl))
          have BK2' := Aside0.mk (kp.blk BK2.out (by simp; exact ng2))
          have BK7' := Aside0.mk (kp.blk BK7.out (by simp; exact ng7))
          have HB' := Aside0.mk (kp.toBelow HB.out HB.out.size (fun b hb => by simp at hb; subst hb; exact HF.out.2 b (List.mem_append_left _ hg0m)))
          have HF' : Aside0 ((fp' ++ f1).Nodup ∧ ∀ b ∈ fp' ++ f1, w.heap.size ≤ b) := ⟨List.nodup_append.2 ⟨hn', hndd.2.1, fun a ha b hb he => by
            subst he
            rcases hf' a ha with h | h
            · exact hndd.2.2 a h a hb rfl
            · have := hfa a h; have := hltq a hb; omega⟩, fun b hb => by
            rcases List.mem_append.1 hb with h | h
            · rcases hf' b h with h | h
              · exact HF.out.2 b (List.mem_append_left _ h)
              · have := hfa b h; have := HB.out.size; omega
            · exact HF.out.2 b (List.mem_append_right _ h)⟩
          clear hst hr' e0 hnotf hga hn' hf' hset kp ng7 ng2 hcellb hfrb HO HQ BK2 BK7 HB HF hltd hltq hndd HOa hba hra hna hfa BKe hle hlq
          go_wp2
          go_roundg (gk - 1)
          case measure => have := HI.out; omega
          case rel => exact ⟨i + 1, fp', rfl, ⟨by have := HI.out; omega, by have := HI.out; omega, by have := HI.out; omega⟩, HO', HQ', HF', BK2', BK7', HB'⟩
        · have hkf : ¬ kfL false kl i.toNat = true := hkt
          rw [Bool.not_eq_true] at hkt
          rw [hkt] at ck
          clear hkt
          have kp : Kp wr (wr.alloc (.cells #[.int .i64 x.block, .slice Ai x.bytes.length ci] 147)) [] := Kp.below (below_alloc (Below.refl _ wr) _)
          have HO' := Aside0.mk (kp.row HO.out (by simp))
          have HQ' := Aside0.mk (kp.row HQ.out (by simp))
          have BK2' := Aside0.mk (kp.blk BK2.out (by simp)); have BK7' := Aside0.mk (kp.blk BK7.out (by simp))
          have HB' := Aside0.mk (kp.toBelow HB.out HB.out.size (by simp))
          have HKF := Aside0.mk hkf
          clear kp hkf HO HQ BK2 BK7 HB
          go_wp2
          go_roundg (gk - 1)
          case measure => have := HI.out; omega
          case rel => exact ⟨i + 1, f0, rfl, ⟨by have := HI.out; omega, by have := HI.out; omega, by have := HI.out; omega⟩, by rw [HOUT.out HKF.out]; exact HO', HQ', HF, BK2', BK7', HB'⟩
      · have hkf : ¬ kfL false kl i.toNat = true := by
          simp [kfL, List.getElem?_eq_none (show kl.length ≤ i.toNat by omega)]
        have kp : Kp wr (wr.alloc (.cells #[.int .i64 x.block, .slice Ai x.bytes.length ci] 147)) [] := Kp.below (below_alloc (Below.refl _ wr) _)
        have HO' := Aside0.mk (kp.row HO.out (by simp))
        have HQ' := Aside0.mk (kp.row HQ.out (by simp))
        have BK2' := Aside0.mk (kp.blk BK2.out (by simp)); have BK7' := Aside0.mk (kp.blk BK7.out (by simp))
        have HB' := Aside0.mk (kp.toBelow HB.out HB.out.size (by simp))
        have HKF := Aside0.mk hkf
        clear kp hkf HO HQ BK2 BK7 HB
        go_wp2
        go_roundg (gk - 1)
        case measure => have := HI.out; omega
        case rel => exact ⟨i + 1, f0, rfl, ⟨by have := HI.out; omega, by have := HI.out; omega, by have := HI.out; omega⟩, by rw [HOUT.out HKF.out]; exact HO', HQ', HF, BK2', BK7', HB'⟩
    · have hi := HI.out
      have e2 : i = ws.length := by omega
      subst e2
      have HO2 := HO.out
      simp only [Int.toNat_natCast] at HO2
      have HO3 : Aside0 (rBS.Row 22 wr (.slice Ap bs.length cp_) (settleL bs ws (kfL false kl)) f0) := ⟨HO2⟩
      clear HO2 hi HO HQ
      obtain ⟨J7, q7⟩ := set1 BK7.out 1 (.slice none 0 0)
      have J2 := q7.blk BK2.out (by simp; omega)
      obtain ⟨I2, q2⟩ := set2 J2 (.slice Ap bs.length cp_) (.slice none 0 0)
      have n7 := Rp.Row_not HO3.out BK7.out (by decide)
      have n2 := Rp.Row_not HO3.out BK2.out (by decide)
      have HR := Aside0.mk (q2.row (q7.row HO3.out (fun x hx hm => n7 (by simp at hm; exact hm ▸ hx))) (fun x hx hm => n2 (by simp at hm; exact hm ▸ hx)))
      have HB5 := Aside0.mk (q2.toBelow (q7.toBelow HB.out HB.out.size (fun x hx => by simp at hx; omega)) (Nat.le_trans HB.out.size q7.size) (fun x hx => by simp at hx; omega))
      have II := Aside0.mk I2
      have k7 := (blk_cell BK7.out 1).trans rfl; have z7 := blk_frozen BK7.out 1
      have k8 := (blk_cell J7 0).trans rfl; have k9 := (blk_cell J7 1).trans rfl
      have c2 := (blk_cell J2 0).trans rfl; have c3 := (blk_cell J2 1).trans rfl; have z2 := blk_frozen J2 0; have z3 := blk_frozen J2 1
      clear I2 q2 J2 J7 q7 n7 n2
      go_wp2
      refine bodyPost_ret (results_cell_row rfl _ _ (w.heap.size + 1) 43 #[.slice Ap bs.length cp_, .slice none 0 0] (0, 0) _ rfl II.out Try.underlying43 rfl (by kernel_rfl)) rfl ?_
      exact ⟨_, _, f0, [], rfl, HR.out, Rp.Row_nil _ _ _, by simpa using (List.nodup_append.1 HF.out.1).1, by simpa using fun b hb => HF.out.2 b (List.mem_append_left _ hb), HB5.out⟩
set_option maxRecDepth 100000 in
set_option maxHeartbeats 1000000 in
theorem specCrash_yes (A0 A1 A2 : Option Addr) (c0 c1 c2_ : Nat) (bs : List (List Int)) (ws : List Wr) (kl : List Bool) (w : World) (hx : rBS.d.C w A0 bs.length bs) (hy : rW.d.C w A1 ws.length ws) (hk : Kd.bool.C w A2 kl.length kl) (hd : DkOk bs ws) :
    Calls Try.prog 64 #[.agg #[.slice A0 bs.length c0, .slice A1 ws.length c1], .slice A2 kl.length c2_] w (GotDisk w (settleL bs ws (kfL false kl)) []) := by
  have hb0 := below_alloc (below_alloc (Below.refl w.heap.size w) (.cells #[.slice A0 bs.length c0, .slice A1 ws.length c1] 43)) (.cells #[.slice none 0 0, .slice none 0 0] 43)
  have BK1 := Aside0.mk (blk_alloc (blk_new w (.cells #[.slice A0 bs.length c0, .slice A1 ws.length c1] 43)) (.cells #[.slice none 0 0, .slice none 0 0] 43))
  have BK2 := Aside0.mk (blk_new' (w := w.alloc (.cells #[.slice A0 bs.length c0, .slice A1 ws.length c1] 43)) (.cells #[.slice none 0 0, .slice none 0 0] 43) (n := w.heap.size + 1) (by simp))
  have HX := Aside0.mk (Kd.C_below hx hb0); have HY := Aside0.mk (Kd.C_below hy hb0); have HB0 := Aside0.mk hb0; have HD := Aside0.mk hd; have HK := Aside0.mk (Kd.C_below hk hb0)
  clear hk
  clear hx hy hb0 hd
  go_enter Try.func64, Try.ntmps64
  go_wp2_with fail
  refine (specDiskOk_c _ _ _ _ bs ws true ⟨fun _ => HD.out, fun _ => rfl⟩ _ HX.out HY.out).mono ?_
  rintro e w1 ⟨rfl, hb1⟩
  have J1 := blk_below BK1.out hb1
  have d0 := (blk_cell J1 0).trans rfl; have d1 := (blk_cell J1 1).trans rfl
  have HX1 := Aside0.mk (Kd.C_below HX.out hb1); have HY1 := Aside0.mk (Kd.C_below HY.out hb1)
  have HB1 := Aside0.mk (below_then HB0.out (by simp; omega) hb1); have BK2' := Aside0.mk (blk_below BK2.out hb1); have HK1 := Aside0.mk (Kd.C_below HK.out hb1)
  clear J1 hb1
  go_wp2_with fail
  refine (l2settle_c _ _ A2 _ _ _ bs ws false kl _ HX1.out HY1.out HK1.out HD.out).mono ?_
  rintro e w2 ⟨v0, v1, f0, f1, rfl, r0, r1, hnd, hge, hb2⟩
  obtain ⟨L, hL⟩ : ∃ L, L = settleL bs ws (kfL false kl) := ⟨_, rfl⟩
  obtain ⟨W0, hW⟩ : ∃ W0, W0 = ([] : List Wr) := ⟨_, rfl⟩
  rw [← hL] at r0
  rw [← hW] at r1
  have HL := Aside0.mk hL; have HW := Aside0.mk hW
  clear hL hW
  obtain ⟨Ap, cp_, rfl, _, _⟩ := Rp.Row_reads r0
  obtain ⟨Aq, cq, rfl, _, _⟩ := Rp.Row_reads r1
  have J2 := blk_below BK2'.out hb2
  have c2 := (blk_cell J2 0).trans rfl; have c3 := (blk_cell J2 1).trans rfl; have z2 := blk_frozen J2 0; have z3 := blk_frozen J2 1
  obtain ⟨I2, q2⟩ := set2 J2 (.slice Ap L.length cp_) (.slice Aq W0.length cq)
  have n0 := Rp.Row_not r0 J2 (by decide); have n1 := Rp.Row_not r1 J2 (by decide)
  have R0 := Aside0.mk (q2.row r0 (fun x hx hm => n0 (by simp at hm; exact hm ▸ hx))); have R1 := Aside0.mk (q2.row r1 (fun x hx hm => n1 (by simp at hm; exact hm ▸ hx)))
  have HB2 := Aside0.mk (q2.toBelow (below_then HB1.out HB1.out.size hb2) (Nat.le_trans HB1.out.size hb2.size) (fun x hx => by simp at hx; omega))
  have HN := Aside0.mk hnd; have HG : Aside0 (∀ x ∈ f0 ++ f1, w.heap.size ≤ x) := ⟨fun x hx => by have := hge x hx; have := HB1.out.size; omega⟩
  have II := Aside0.mk I2
  clear I2 q2 n0 n1 r0 r1 hnd hge hb2 J2 d0 d1
  go_wp2
  refine bodyPost_ret (results_cell_row rfl _ _ (w.heap.size + 1) 43 #[.slice Ap L.length cp_, .slice Aq W0.length cq] (0, 0) _ rfl II.out Try.underlying43 rfl (by kernel_rfl)) rfl ?_
  have hL := HL.out; have hW := HW.out
  subst hL; subst hW
  exact ⟨_, _, f0, f1, rfl, R0.out, R1.out, HN.out, HG.out, HB2.out⟩
set_option maxRecDepth 100000 in
set_option maxHeartbeats 1000000 in
theorem specSync_yes (A0 A1 : Option Addr) (c0 c1 : Nat) (bs : List (List Int)) (ws : List Wr) (w : World) (hx : rBS.d.C w A0 bs.length bs) (hy : rW.d.C w A1 ws.length ws) (hd : DkOk bs ws) :
    Calls Try.prog 62 #[.agg #[.slice A0 bs.length c0, .slice A1 ws.length c1]] w (GotDisk w (settleL bs ws (kfL true [])) []) := by
  have hb0 := below_alloc (below_alloc (Below.refl w.heap.size w) (.cells #[.slice A0 bs.length c0, .slice A1 ws.length c1] 43)) (.cells #[.slice none 0 0, .slice none 0 0] 43)
  have BK1 := Aside0.mk (blk_alloc (blk_new w (.cells #[.slice A0 bs.length c0, .slice A1 ws.length c1] 43)) (.cells #[.slice none 0 0, .slice none 0 0] 43))
  have BK2 := Aside0.mk (blk_new' (w := w.alloc (.cells #[.slice A0 bs.length c0, .slice A1 ws.length c1] 43)) (.cells #[.slice none 0 0, .slice none 0 0] 43) (n := w.heap.size + 1) (by simp))
  have HX := Aside0.mk (Kd.C_below hx hb0); have HY := Aside0.mk (Kd.C_below hy hb0); have HB0 := Aside0.mk hb0; have HD := Aside0.mk hd
  clear hx hy hb0 hd
  go_enter Try.func62, Try.ntmps62
  go_wp2_with fail
  refine (specDiskOk_c _ _ _ _ bs ws true ⟨fun _ => HD.out, fun _ => rfl⟩ _ HX.out HY.out).mono ?_
  rintro e w1 ⟨rfl, hb1⟩
  have J1 := blk_below BK1.out hb1
  have d0 := (blk_cell J1 0).trans rfl; have d1 := (blk_cell J1 1).trans rfl
  have HX1 := Aside0.mk (Kd.C_below HX.out hb1); have HY1 := Aside0.mk (Kd.C_below HY.out hb1)
  have HB1 := Aside0.mk (below_then HB0.out (by simp; omega) hb1); have BK2' := Aside0.mk (blk_below BK2.out hb1)
  clear J1 hb1
  go_wp2_with fail
  refine (l2settle_c _ _ none _ _ _ bs ws true [] _ HX1.out HY1.out ⟨rfl, by simp, fun h => absurd h (by simp)⟩ HD.out).mono ?_
  rintro e w2 ⟨v0, v1, f0, f1, rfl, r0, r1, hnd, hge, hb2⟩
  obtain ⟨L, hL⟩ : ∃ L, L = settleL bs ws (kfL true []) := ⟨_, rfl⟩
  obtain ⟨W0, hW⟩ : ∃ W0, W0 = ([] : List Wr) := ⟨_, rfl⟩
  rw [← hL] at r0
  rw [← hW] at r1
  have HL := Aside0.mk hL; have HW := Aside0.mk hW
  clear hL hW
  obtain ⟨Ap, cp_, rfl, _, _⟩ := Rp.Row_reads r0
  obtain ⟨Aq, cq, rfl, _, _⟩ := Rp.Row_reads r1
  have J2 := blk_below BK2'.out hb2
  have c2 := (blk_cell J2 0).trans rfl; have c3 := (blk_cell J2 1).trans rfl; have z2 := blk_frozen J2 0; have z3 := blk_frozen J2 1
  obtain ⟨I2, q2⟩ := set2 J2 (.slice Ap L.length cp_) (.slice Aq W0.length cq)
  have n0 := Rp.Row_not r0 J2 (by decide); have n1 := Rp.Row_not r1 J2 (by decide)
  have R0 := Aside0.mk (q2.row r0 (fun x hx hm => n0 (by simp at hm; exact hm ▸ hx))); have R1 := Aside0.mk (q2.row r1 (fun x hx hm => n1 (by simp at hm; exact hm ▸ hx)))
  have HB2 := Aside0.mk (q2.toBelow (below_then HB1.out HB1.out.size hb2) (Nat.le_trans HB1.out.size hb2.size) (fun x hx => by simp at hx; omega))
  have HN := Aside0.mk hnd; have HG : Aside0 (∀ x ∈ f0 ++ f1, w.heap.size ≤ x) := ⟨fun x hx => by have := hge x hx; have := HB1.out.size; omega⟩
  have II := Aside0.mk I2
  clear I2 q2 n0 n1 r0 r1 hnd hge hb2 J2 d0 d1
  go_wp2
  refine bodyPost_ret (results_cell_row rfl _ _ (w.heap.size + 1) 43 #[.slice Ap L.length cp_, .slice Aq W0.length cq] (0, 0) _ rfl II.out Try.underlying43 rfl (by kernel_rfl)) rfl ?_
  have hL := HL.out; have hW := HW.out
  subst hL; subst hW
  exact ⟨_, _, f0, f1, rfl, R0.out, R1.out, HN.out, HG.out, HB2.out⟩
end Go.Proofs.Ytocdlibnmlcokaa
namespace Go.Proofs.Ytocdlibnmlcokaa
open Go.RowKit Go.Proofs.YtocdlibnmlcokaaW.PrintWords Go.Proofs.YtocdlibnmlcokaaW.PrintLast
set_option linter.unusedVariables false
set_option linter.unusedSimpArgs false
theorem info4 : (Try.prog.info? 4).map (fun i => (i.zero, i.size, i.bytes)) = some (some (.bool false), 1, 1) := by kernel_rfl
theorem setTo_congr (bs : List (List Int)) (ws : List Wr) (kf kg : Nat → Bool) : ∀ i, (∀ j, j < i → kf j = kg j) → setTo bs ws kf i = setTo bs ws kg i
  | 0, _ => rfl
  | i + 1, h => by simp only [setTo]; rw [h i (by omega), setTo_congr bs ws kf kg i (fun j hj => h j (by omega))]
theorem settle_all (bs : List (List Int)) (ws : List Wr) : settleL bs ws (kfL false (List.replicate ws.length true)) = settleL bs ws (kfL true []) :=
  setTo_congr bs ws _ _ _ fun j hj => by simp [kfL, hj]
set_option maxRecDepth 100000 in
set_option maxHeartbeats 2000000 in
theorem implSync_w (A0 A1 : Option Addr) (c0 c1 : Nat) (bs bs' : List (List Int)) (ws : List Wr) (w : World) (hx : rBS.d.C w A0 bs.length bs) (hy : rW.d.C w A1 ws.length ws) (hm : ws.length ≤ 10000000)
    (hcr : ∀ (g : Nat) (w' : World), rBS.d.C w' A0 bs.length bs → rW.d.C w' A1 ws.length ws → Kd.bool.C w' (some ⟨g, 0, none⟩) ws.length (List.replicate ws.length true) → Calls Try.prog 66 #[.agg #[.slice A0 bs.length c0, .slice A1 ws.length c1], .slice (some ⟨g, 0, none⟩) ws.length ws.length] w' (GotDisk w' bs' [])) :
    Calls Try.prog 63 #[.agg #[.slice A0 bs.length c0, .slice A1 ws.length c1]] w (GotDisk w bs' []) := by
  have hb0 := below_alloc (below_alloc (Below.refl w.heap.size w) (.cells #[.slice A0 bs.length c0, .slice A1 ws.length c1] 43)) (.cells #[.slice none 0 0, .slice none 0 0] 43)
  have BK1 := Aside0.mk (blk_alloc (blk_new w (.cells #[.slice A0 bs.length c0, .slice A1 ws.length c1] 43)) (.cells #[.slice none 0 0, .slice none 0 0] 43))
  have BK2 := Aside0.mk (blk_new' (w := w.alloc (.cells #[.slice A0 bs.length c0, .slice A1 ws.length c1] 43)) (.cells #[.slice none 0 0, .slice none 0 0] 43) (n := w.heap.size + 1) (by simp))
  have HX := Aside0.mk hx; have HY := Aside0.mk hy; have HM := Aside0.mk hm; have HCR := Aside0.mk hcr; have HB0 := Aside0.mk hb0
  clear hx hy hcr hb0
  go_enter Try.func63, Try.ntmps63
  go_wp2_with ((with_reducible refine gate_dst (N := 8) rfl ?_); refine Rp.mk_row Rp.bool rfl (N := 8) rfl 34 4 _ _ rfl (ws.length : Int) rfl rfl Try.underlying34 (.bool false) 1 info4 rfl (by decide) (by omega) false (fun _ => ⟨rfl, rfl⟩) (by omega) (by have := HM.out; omega) ?_; intro g w1 hg hr hb; have HG := Aside0.mk hg; have HR := Aside0.mk hr; have HB1 := Aside0.mk hb; clear hg hr hb)
  have hr0 := HR.out
  simp only [Int.toNat_natCast] at hr0
  have el : (List.replicate ws.length true).length = ws.length := List.length_replicate
  have hr1 : Rp.bool.Row 4 w1 (.slice (some ⟨g, 0, none⟩) ws.length ws.length) (fillTo false (List.replicate ws.length true) 0) [g] := by rw [fillTo_zero, el]; exact hr0
  have HR1 := Aside0.mk hr1
  replace BK1 := Aside0.mk (blk_below BK1.out HB1.out); replace BK2 := Aside0.mk (blk_below BK2.out HB1.out)
  have hgs : w.heap.size + 2 ≤ g := by have := HG.out; simp at this; omega
  have HB := Aside0.mk (below_then HB0.out (by simp; omega) HB1.out)
  clear hr0 hr1 HR HB1 HB0 HG
  go_loopg [11] ws.length (fun m vi wr => ∃ i : Int, vi = .int .i64 i ∧ Aside0 (0 ≤ i ∧ i ≤ ws.length ∧ ws.length - i.toNat ≤ m) ∧ Aside0 (Rp.bool.Row 4 wr (.slice (some ⟨g, 0, none⟩) ws.length ws.length) (fillTo false (List.replicate ws.length true) i.toNat) [g]) ∧ Aside0 (wr.heap[w.heap.size]? = some (.cells #[.slice A0 bs.length c0, .slice A1 ws.length c1] 43 (0, 0))) ∧ Aside0 (wr.heap[w.heap.size + 1]? = some (.cells #[.slice none 0 0, .slice none 0 0] 43 (0, 0))) ∧ Aside0 (Below w.heap.size w wr))
  case atStart => exact ⟨0, rfl, ⟨by simp⟩, HR1, BK1, BK2, HB⟩
  case round =>
    clear HR1 BK1 BK2 HB
    obtain ⟨i, rfl, HI, HO, BK1, BK2, HB⟩ := hrel
    by_cases hlt : i < (ws.length : Int)
    · have hi0 : 0 ≤ i := HI.out.1
      obtain ⟨cs, f, hP, _, _, hg, hcell, hfr, _, hst⟩ := Rp.Row_elem HO.out (by simp) i.toNat (by rw [fillTo_len _ _ _ (by rw [el]; omega), el]; omega)
      obtain ⟨hcs, hf⟩ := hP
      subst hcs; subst hf
      have e0 : i.toNat * Rp.bool.d.sz + 0 = i.toNat := Nat.mul_one _
      have c2 := hcell 0 _ rfl
      rw [e0] at c2
      have z1 := hfr i.toNat
      obtain ⟨fp', hr', _, _, he⟩ := hst 0 (.bool true) true [] (by decide) ⟨rfl, rfl⟩ (by simp) (by simp) (.inl rfl)
      have he := he rfl
      subst he
      have hs := fillTo_succ false (List.replicate ws.length true) (i := i.toNat) (by rw [el]; omega)
      rw [List.getElem_replicate] at hs
      rw [e0, hs] at hr'
      have HO' := Aside0.mk hr'
      have HB' := Aside0.mk (HB.out.setCell (p := ⟨g, i.toNat, none⟩) (by show w.heap.size ≤ g; omega) (.bool true))
      have BK1' := Aside0.mk (blk_far (p := ⟨g, i.toNat, none⟩) BK1.out (by show w.heap.size ≠ g; omega) (.bool true))
      have BK2' := Aside0.mk (blk_far (p := ⟨g, i.toNat, none⟩) BK2.out (by show w.heap.size + 1 ≠ g; omega) (.bool true))
      clear hst hr' e0 hg hcell hfr hs HO HB BK1 BK2
      go_wp2
      go_roundg (gk - 1)
      case measure => have := HI.out; omega
      case rel => exact ⟨i + 1, rfl, ⟨by have := HI.out; omega, by have := HI.out; omega, by have := HI.out; omega⟩, by rw [show (i + 1).toNat = i.toNat + 1 by omega]; exact HO', BK1', BK2', HB'⟩
    · have e1 := fillTo_end false (List.replicate ws.length true) (i := i.toNat) (by rw [el]; have := HI.out; omega)
      replace HO := HO.out; rw [e1] at HO
      have HC := (Rp.Row_C HO).2.2
      rw [el] at HC
      have HC := Aside0.mk HC
      have d0 := (blk_cell BK1.out 0).trans rfl; have d1 := (blk_cell BK1.out 1).trans rfl
      clear e1 el HO
      go_wp2_with fail
      refine (HCR.out g _ (Kd.C_below HX.out HB.out) (Kd.C_below HY.out HB.out) HC.out).mono ?_
      rintro e w2 ⟨v0, v1, f0, f1, rfl, r0, r1, hnd, hge, hb2⟩
      obtain ⟨W0, hW⟩ : ∃ W0, W0 = ([] : List Wr) := ⟨_, rfl⟩
      rw [← hW] at r1
      have HW := Aside0.mk hW
      clear hW
      obtain ⟨Ap, cp_, rfl, _, _⟩ := Rp.Row_reads r0
      obtain ⟨Aq, cq, rfl, _, _⟩ := Rp.Row_reads r1
      have J2 := blk_below BK2.out hb2
      have c2 := (blk_cell J2 0).trans rfl; have c3 := (blk_cell J2 1).trans rfl; have z2 := blk_frozen J2 0; have z3 := blk_frozen J2 1
      obtain ⟨I2, q2⟩ := set2 J2 (.slice Ap bs'.length cp_) (.slice Aq W0.length cq)
      have n0 := Rp.Row_not r0 J2 (by decide); have n1 := Rp.Row_not r1 J2 (by decide)
      have R0 := Aside0.mk (q2.row r0 (fun x hx hm => n0 (by simp at hm; exact hm ▸ hx))); have R1 := Aside0.mk (q2.row r1 (fun x hx hm => n1 (by simp at hm; exact hm ▸ hx)))
      have HB2 := Aside0.mk (q2.toBelow (below_then HB.out HB.out.size hb2) (Nat.le_trans HB.out.size hb2.size) (fun x hx => by simp at hx; omega))
      have HN := Aside0.mk hnd; have HG : Aside0 (∀ x ∈ f0 ++ f1, w.heap.size ≤ x) := ⟨fun x hx => by have := hge x hx; have := HB.out.size; omega⟩
      have II := Aside0.mk I2
      clear I2 q2 n0 n1 r0 r1 hnd hge hb2 J2 d0 d1
      go_wp2
      refine bodyPost_ret (results_cell_row rfl _ _ (w.heap.size + 1) 43 #[.slice Ap bs'.length cp_, .slice Aq W0.length cq] (0, 0) _ rfl II.out Try.underlying43 rfl (by kernel_rfl)) rfl ?_
      have hW := HW.out
      subst hW
      exact ⟨_, _, f0, f1, rfl, R0.out, R1.out, HN.out, HG.out, HB2.out⟩
theorem implSync_yes (A0 A1 : Option Addr) (c0 c1 : Nat) (bs : List (List Int)) (ws : List Wr) (w : World) (hx : rBS.d.C w A0 bs.length bs) (hy : rW.d.C w A1 ws.length ws) (hd : DkOk bs ws) :
    Calls Try.prog 63 #[.agg #[.slice A0 bs.length c0, .slice A1 ws.length c1]] w (GotDisk w (settleL bs ws (kfL true [])) []) := by
  refine implSync_w A0 A1 c0 c1 bs _ ws w hx hy (by have := hd.2.1; omega) fun g w' h0 h1 h2 => ?_
  have el : (List.replicate ws.length true).length = ws.length := List.length_replicate
  have := implCrash_yes A0 A1 (some ⟨g, 0, none⟩) c0 c1 ws.length bs ws (List.replicate ws.length true) w' h0 h1 (by rw [el]; exact h2) hd
  rw [settle_all, el] at this
  exact this
end Go.Proofs.Ytocdlibnmlcokaa
namespace Go.Proofs.Ytocdlibnmlcokaa
open Go.RowKit Go.Proofs.YtocdlibnmlcokaaW.PrintWords Go.Proofs.YtocdlibnmlcokaaW.PrintLast
set_option linter.unusedVariables false
set_option linter.unusedSimpArgs false
set_option maxRecDepth 100000 in
set_option maxHeartbeats 1000000 in
theorem implSeen_w (A0 A1 : Option Addr) (c0 c1 : Nat) (bs bs' : List (List Int)) (ws : List Wr) (w : World) (hx : rBS.d.C w A0 bs.length bs) (hy : rW.d.C w A1 ws.length ws)
    (hcr : ∀ (w' : World), rBS.d.C w' A0 bs.length bs → rW.d.C w' A1 ws.length ws → Calls Try.prog 63 #[.agg #[.slice A0 bs.length c0, .slice A1 ws.length c1]] w' (GotDisk w' bs' [])) :
    Calls Try.prog 58 #[.agg #[.slice A0 bs.length c0, .slice A1 ws.length c1]] w (GotRow rBS 22 w bs') := by
  have hb0 := Aside0.mk (below_alloc (Below.refl w.heap.size w) (.cells #[.slice A0 bs.length c0, .slice A1 ws.length c1] 43))
  have hfv : ∀ (x y : Value) (W : World), (Instr.field 43 (.agg #[x, y]) 0).run Try.prog W = .ok x W := by
    intro x y W
    have hu_ := Try.underlying43
    simp [Instr.field, go_sem, hu_, asAgg]
  have HX := Aside0.mk hx; have HY := Aside0.mk hy; have HCR := Aside0.mk hcr; clear hx hy hcr
  go_enter Try.func58, Try.ntmps58
  go_wp2_with fail
  refine (HCR.out _ (Kd.C_below HX.out hb0.out) (Kd.C_below HY.out hb0.out)).mono ?_
  rintro e w2 ⟨v0, v1, f0, f1, rfl, r0, r1, hnd, hge, hb2⟩
  obtain ⟨Ap, cp_, rfl, _, _⟩ := Rp.Row_reads r0
  have R0 := Aside0.mk r0; have HN := Aside0.mk hnd; have HG := Aside0.mk hge; have HB := Aside0.mk (below_then hb0.out (by simp) hb2)
  clear r0 r1 hnd hge hb2
  go_wp2
  go_ret
  exact ⟨_, rfl, ⟨f0, R0.out, (List.nodup_append.1 HN.out).1, fun b hb => by have := HG.out b (List.mem_append_left _ hb); simp at this; omega⟩, HB.out⟩
theorem implSeen_yes (A0 A1 : Option Addr) (c0 c1 : Nat) (bs : List (List Int)) (ws : List Wr) (w : World) (hx : rBS.d.C w A0 bs.length bs) (hy : rW.d.C w A1 ws.length ws) (hd : DkOk bs ws) :
    Calls Try.prog 58 #[.agg #[.slice A0 bs.length c0, .slice A1 ws.length c1]] w (GotRow rBS 22 w (settleL bs ws (kfL true []))) :=
  implSeen_w A0 A1 c0 c1 bs _ ws w hx hy fun w' h0 h1 => implSync_yes A0 A1 c0 c1 bs ws w' h0 h1 hd
set_option maxRecDepth 100000 in
set_option maxHeartbeats 1000000 in
theorem specSeen_yes (A0 A1 : Option Addr) (c0 c1 : Nat) (bs : List (List Int)) (ws : List Wr) (w : World) (hx : rBS.d.C w A0 bs.length bs) (hy : rW.d.C w A1 ws.length ws) (hd : DkOk bs ws) :
    Calls Try.prog 57 #[.agg #[.slice A0 bs.length c0, .slice A1 ws.length c1]] w (GotRow rBS 22 w (settleL bs ws (kfL true []))) := by
  have hb0 := Aside0.mk (below_alloc (Below.refl w.heap.size w) (.cells #[.slice A0 bs.length c0, .slice A1 ws.length c1] 43))
  have BK1 := Aside0.mk (blk_new w (.cells #[.slice A0 bs.length c0, .slice A1 ws.length c1] 43))
  have HX := Aside0.mk hx; have HY := Aside0.mk hy; have HD := Aside0.mk hd; clear hx hy hd
  go_enter Try.func57, Try.ntmps57
  go_wp2_with fail
  refine (specDiskOk_c _ _ _ _ bs ws true ⟨fun _ => HD.out, fun _ => rfl⟩ _ (Kd.C_below HX.out hb0.out) (Kd.C_below HY.out hb0.out)).mono ?_
  rintro e w1 ⟨rfl, hb1⟩
  have J1 := blk_below BK1.out hb1
  have d0 := (blk_cell J1 0).trans rfl; have d1 := (blk_cell J1 1).trans rfl
  have HB1 := Aside0.mk (below_then hb0.out (by simp) hb1)
  clear J1 hb1
  go_wp2_with fail
  refine (specSync_yes _ _ _ _ bs ws _ (Kd.C_below HX.out HB1.out) (Kd.C_below HY.out HB1.out) HD.out).mono ?_
  rintro e w2 ⟨v0, v1, f0, f1, rfl, r0, r1, hnd, hge, hb2⟩
  obtain ⟨L, hL⟩ : ∃ L, L = settleL bs ws (kfL true []) := ⟨_, rfl⟩
  rw [← hL] at r0
  have HL := Aside0.mk hL
  clear hL
  obtain ⟨W0, hW⟩ : ∃ W0, W0 = ([] : List Wr) := ⟨_, rfl⟩
  rw [← hW] at r1
  clear hW
  obtain ⟨Ap, cp_, rfl, _, _⟩ := Rp.Row_reads r0
  obtain ⟨Aq, cq, rfl, _, _⟩ := Rp.Row_reads r1
  have R0 := Aside0.mk (Rp.Row_alloc r0 (.cells #[.slice Ap L.length cp_, .slice Aq W0.length cq] 43)); have HN := Aside0.mk hnd; have HG := Aside0.mk hge
  have HB := Aside0.mk (below_then (below_then HB1.out HB1.out.size hb2) (Nat.le_trans HB1.out.size hb2.size) (below_alloc (Below.refl _ w2) (.cells #[.slice Ap L.length cp_, .slice Aq W0.length cq] 43)))
  have hs1 := Aside0.mk HB1.out.size
  clear r0 r1 hnd hge hb2 d0 d1
  go_wp2
  go_ret
  have hL := HL.out
  subst hL
  exact ⟨_, rfl, ⟨f0, R0.out, (List.nodup_append.1 HN.out).1, fun b hb => by have := HG.out b (List.mem_append_left _ hb); have := hs1.out; omega⟩, HB.out⟩
end Go.Proofs.Ytocdlibnmlcokaa
namespace Go.Proofs.Ytocdlibnmlcokaa
open Go.RowKit Go.Proofs.YtocdlibnmlcokaaW.PrintWords Go.Proofs.YtocdlibnmlcokaaW.PrintLast
set_option linter.unusedVariables false
set_option linter.unusedSimpArgs false
theorem Nt.ext' {x y : Nt} (h0 : x.tick = y.tick) (h1 : x.kind = y.kind) (h2 : x.who = y.who) (h3 : x.n = y.n) (h4 : x.text = y.text) : x = y := by
  cases x; cases y; simp_all
instance : DecidableEq Nt := fun x y =>
  decidable_of_iff (x.tick = y.tick ∧ x.kind = y.kind ∧ x.who = y.who ∧ x.n = y.n ∧ x.text = y.text) ⟨fun h => Nt.ext' h.1 h.2.1 h.2.2.1 h.2.2.2.1 h.2.2.2.2, fun h => by subst h; simp⟩
theorem bytes_same (a b : ByteArray) : (a.toList == b.toList) = decide (a = b) := by
  by_cases h : a = b
  · subst h; simp
  · rw [decide_eq_false h]
    exact beq_eq_false_iff_ne.mpr (fun e => h (Math.toList_inj e))
theorem nt_same (x y : Nt) : (x.tick == y.tick && (x.kind == y.kind && (x.who == y.who && (x.n == y.n && (x.text.toList == y.text.toList))))) = decide (x = y) := by
  rw [bytes_same]
  by_cases h : x = y
  · subst h; simp
  · rw [decide_eq_false h]
    cases he : (x.tick == y.tick && (x.kind == y.kind && (x.who == y.who && (x.n == y.n && decide (x.text = y.text))))) with
    | false => rfl
    | true =>
      simp only [Bool.and_eq_true, beq_iff_eq, decide_eq_true_eq] at he
      exact absurd (Nt.ext' he.1 he.2.1 he.2.2.1 he.2.2.2.1 he.2.2.2.2) h
theorem eqN33 (d : Nat) (w : World) (x y : Nt) :
    (Op.equalIn (d + 2) 33 (.agg #[.int .i64 x.tick, .int .i64 x.kind, .int .i64 x.who, .int .i64 x.n, .string x.text]) (.agg #[.int .i64 y.tick, .int .i64 y.kind, .int .i64 y.who, .int .i64 y.n, .string y.text])).run Try.prog w = .ok (decide (x = y)) w := by
  rw [← nt_same]
  refine eqA_of Try.underlying33 (by kernel_rfl) ?_
  refine eqf_cons (by rfl) (by go_simp; rfl) (by go_simp; rfl) (by go_simp) ?_
  refine eqf_cons (by rfl) (by go_simp; rfl) (by go_simp; rfl) (by go_simp) ?_
  refine eqf_cons (by rfl) (by go_simp; rfl) (by go_simp; rfl) (by go_simp) ?_
  refine eqf_cons (by rfl) (by go_simp; rfl) (by go_simp; rfl) (by go_simp) ?_
  exact eqf_last (by rfl) (by go_simp; rfl) (by go_simp; rfl) (by go_simp)
def sameN : List Nt → List Nt → Nat
  | x :: xs, y :: ys => if x = y then sameN xs ys + 1 else 0
  | [], _ => 0
  | _ :: _, [] => 0
theorem sameN_yes {xs ys : List Nt} {i : Nat} (h1 : i < xs.length) (h2 : i < ys.length) (h : xs[i] = ys[i]) : sameN (xs.drop i) (ys.drop i) = sameN (xs.drop (i + 1)) (ys.drop (i + 1)) + 1 := by
  rw [List.drop_eq_getElem_cons h1, List.drop_eq_getElem_cons h2, sameN, if_pos h]
theorem sameN_ne {xs ys : List Nt} {i : Nat} (h1 : i < xs.length) (h2 : i < ys.length) (h : ¬ xs[i] = ys[i]) : sameN (xs.drop i) (ys.drop i) = 0 := by
  rw [List.drop_eq_getElem_cons h1, List.drop_eq_getElem_cons h2, sameN, if_neg h]
theorem sameN_out {xs ys : List Nt} {i : Nat} (h : xs.length ≤ i ∨ ys.length ≤ i) : sameN (xs.drop i) (ys.drop i) = 0 := by
  rcases h with h | h
  · rw [List.drop_of_length_le h]; cases ys.drop i <;> rfl
  · rw [List.drop_of_length_le h]; cases xs.drop i <;> rfl
structure Lg where
  ok : Bool
  notes : List Nt
  len : Int
  gen : Int
  safe : Int
def lg0 : Lg := ⟨false, [], 0, 0, 0⟩
def GotLg (l : Lg) (w : World) (e : Ending) (w' : World) : Prop :=
  ∃ v, e = .returned (.agg #[.bool l.ok, v, .int .i64 l.len, .int .i64 l.gen, .int .i64 l.safe]) ∧ Own w w' [Rs.row rN 33 v l.notes]
abbrev syncL (bs : List (List Int)) (ws : List Wr) : List (List Int) := settleL bs ws (kfL true [])
def foundL (bs : List (List Int)) : List Nt × Nat := framesL (logBytes bs)
def scanL (bs : List (List Int)) (ws : List Wr) : Lg := ⟨true, (foundL (syncL bs ws)).1, (foundL (syncL bs ws)).2, logGen (syncL bs ws), sameN (foundL (syncL bs ws)).1 (foundL bs).1⟩
def BkOk (bs : List (List Int)) (ws : List Wr) : Prop := (∀ b ∈ bs, BsOk b) ∧ ∀ x ∈ ws, BsOk x.bytes
theorem found_c (A : Option Addr) (c : Nat) (bs : List (List Int)) (w : World) (hx : rBS.d.C w A bs.length bs) (hc : bs.length ≤ c) (hb : BlOk bs) :
    Calls Try.prog 109 #[.slice A bs.length c] w (GotFound w (foundL bs).1 (foundL bs).2 (logGen bs) ((logBytes bs).take (foundL bs).2)) := by
  unfold foundL
  by_cases hh : headOk bs
  · have hl := logBytes_ok hb
    refine found_yes A c bs (logBytes bs) w hx hc hb hh hl.1 (by omega) (logGen bs) (by unfold logGen; rw [if_pos hh]) (by unfold logGen logBytes; rw [if_pos hh, if_pos hh, bodyL_zero]) _ (fun _ _ h => h)
  · have e : logBytes bs = [] := by unfold logBytes; rw [if_neg hh]
    have e2 : logGen bs = 0 := by unfold logGen; rw [if_neg hh]
    rw [e, e2]
    exact found_no A c bs w hx hc hb hh
theorem sync_bytes {bs : List (List Int)} {ws : List Wr} (kf : Nat → Bool) (hk : BkOk bs ws) : ∀ i, i ≤ ws.length → ∀ x ∈ setTo bs ws kf i, BsOk x
  | 0, _, x, hx => hk.1 x hx
  | i + 1, hi, x, hx => by
    simp only [setTo] at hx
    split at hx
    · rcases List.mem_or_eq_of_mem_set hx with h | rfl
      · exact sync_bytes kf hk i (by omega) x h
      · rw [List.getD_eq_getElem?_getD, List.getElem?_eq_getElem (by omega)]
        exact hk.2 _ (List.getElem_mem _)
    · exact sync_bytes kf hk i (by omega) x hx
theorem Own.st5 {w0 w w1 : World} {L : List Rs} {g t : Nat} {a b c d e x y z u v : Value} (h : Own w0 w (Rs.box g t #[a, b, c, d, e] :: L))
    (hw : ((((w.setCell ⟨g, 0, none⟩ x).setCell ⟨g, 1, none⟩ y).setCell ⟨g, 2, none⟩ z).setCell ⟨g, 3, none⟩ u).setCell ⟨g, 4, none⟩ v = w1) : Own w0 w1 (Rs.box g t #[x, y, z, u, v] :: L) :=
  hw ▸ ((((h.set 0 x).set 1 y).set 2 z).set 3 u).set 4 v
theorem Own.st2 {w0 w w1 : World} {L : List Rs} {g t : Nat} {a b x y : Value} (h : Own w0 w (Rs.box g t #[a, b] :: L))
    (hw : (w.setCell ⟨g, 0, none⟩ x).setCell ⟨g, 1, none⟩ y = w1) : Own w0 w1 (Rs.box g t #[x, y] :: L) :=
  hw ▸ (h.set 0 x).set 1 y
theorem Own.q2 {w0 w : World} {L : List Rs} {R R1 R2 : Rs} (h : Own w0 w (R :: R1 :: R2 :: L)) : Own w0 w (R1 :: R2 :: R :: L) := h.p2.p2
theorem Own.q3 {w0 w : World} {L : List Rs} {R R1 R2 R3 : Rs} (h : Own w0 w (R :: R1 :: R2 :: R3 :: L)) : Own w0 w (R1 :: R2 :: R3 :: R :: L) := h.p3.p3.p3
theorem Own.q4 {w0 w : World} {L : List Rs} {R R1 R2 R3 R4 : Rs} (h : Own w0 w (R :: R1 :: R2 :: R3 :: R4 :: L)) : Own w0 w (R1 :: R2 :: R3 :: R4 :: R :: L) := h.p4.p4.p4.p4
theorem Own.q5 {w0 w : World} {L : List Rs} {R R1 R2 R3 R4 R5 : Rs} (h : Own w0 w (R :: R1 :: R2 :: R3 :: R4 :: R5 :: L)) : Own w0 w (R1 :: R2 :: R3 :: R4 :: R5 :: R :: L) := h.p5.p5.p5.p5.p5
theorem Own.q6 {w0 w : World} {L : List Rs} {R R1 R2 R3 R4 R5 R6 : Rs} (h : Own w0 w (R :: R1 :: R2 :: R3 :: R4 :: R5 :: R6 :: L)) : Own w0 w (R1 :: R2 :: R3 :: R4 :: R5 :: R6 :: R :: L) := h.p6.p6.p6.p6.p6.p6
end Go.Proofs.Ytocdlibnmlcokaa
namespace Go.Proofs.Ytocdlibnmlcokaa
open Go.RowKit Go.Proofs.YtocdlibnmlcokaaW.PrintWords Go.Proofs.YtocdlibnmlcokaaW.PrintLast
set_option linter.unusedVariables false
set_option linter.unusedSimpArgs false
end Go.Proofs.Ytocdlibnmlcokaa
namespace Go.Proofs.Ytocdlibnmlcokaa
open Go.RowKit Go.Proofs.YtocdlibnmlcokaaW.PrintWords Go.Proofs.YtocdlibnmlcokaaW.PrintLast
set_option linter.unusedVariables false
def ObD (w : World) (lo hi b : Nat) (bs : List (List Int)) (ws : List Wr) : Prop :=
  ∃ A0 c0 A1 c1 f0 f1, w.heap[b]? = some (.cells #[.slice A0 bs.length c0, .slice A1 ws.length c1] 43 (0, 0)) ∧ rBS.Row 22 w (.slice A0 bs.length c0) bs f0 ∧ rW.Row 147 w (.slice A1 ws.length c1) ws f1 ∧ (f0 ++ f1).Nodup ∧ (∀ x ∈ f0 ++ f1, lo ≤ x ∧ x < hi) ∧ hi ≤ b ∧ lo ≤ hi
theorem ObD.kp {w w1 : World} {lo hi b : Nat} {bs : List (List Int)} {ws : List Wr} {S : List Nat} (h : ObD w lo hi b bs ws) (k : Kp w w1 S) (hS : ∀ x ∈ S, x < lo ∨ (hi ≤ x ∧ x ≠ b)) (hlb : lo ≤ b := by omega) : ObD w1 lo hi b bs ws := by
  obtain ⟨A0, c0, A1, c1, f0, f1, hb, h0, h1, hn, hr, hhb, hlh⟩ := h
  refine ⟨A0, c0, A1, c1, f0, f1, k.blk hb (fun hm => ?_), k.row h0 (fun x hx hm => ?_), k.row h1 (fun x hx hm => ?_), hn, hr, hhb, hlh⟩
  · have := hS b hm; omega
  · have := hS x hm; have := hr x (List.mem_append_left _ hx); omega
  · have := hS x hm; have := hr x (List.mem_append_right _ hx); omega
theorem ObD.below {w w1 : World} {lo hi b : Nat} {bs : List (List Int)} {ws : List Wr} (h : ObD w lo hi b bs ws) (k : Below w.heap.size w w1) : ObD w1 lo hi b bs ws := by
  have hlb : lo ≤ b := by obtain ⟨_, _, _, _, _, _, _, _, _, _, _, h1, h2⟩ := h; omega
  exact h.kp (Kp.below k) (by simp) hlb
def ObR {α : Type} (r : Rp α) (e : Nat) (w : World) (lo hi : Nat) (v : Value) (xs : List α) : Prop := ∃ fp, r.Row e w v xs fp ∧ fp.Nodup ∧ (∀ x ∈ fp, lo ≤ x ∧ x < hi)
section
variable {α : Type} {r : Rp α} {e lo hi l u : Nat} {w w0 w1 : World} {v : Value} {xs xs' : List α} {S : List Nat}
theorem ObR.below (h : ObR r e w lo hi v xs) (k : Below w.heap.size w w1) : ObR r e w1 lo hi v xs := by
  obtain ⟨fp, hr, hn, hx⟩ := h
  exact ⟨fp, Rp.Row_below hr k, hn, hx⟩
theorem ObR.C {A : Option Addr} {n c : Nat} (h : ObR r e w lo hi (.slice A n c) xs) : n = xs.length ∧ xs.length ≤ c ∧ r.d.C w A xs.length xs := by
  obtain ⟨fp, hr, _, _⟩ := h
  exact Rp.Row_C hr
end
end Go.Proofs.Ytocdlibnmlcokaa
namespace Go.Proofs.Ytocdlibnmlcokaa.Open
open Go.RowKit Go.Proofs.YtocdlibnmlcokaaW.PrintWords Go.Proofs.YtocdlibnmlcokaaW.PrintLast
open Go.ChangeShapes Go.WideShapes
set_option linter.unusedVariables false
def Opens (P : Program) (t : TypeId) {α : Type} (d : Kd α) (ok : α → Prop) : Prop :=
  ∀ (H : Type) (enc : TypeId × Value → H) (w : World) (fuel : Nat) (cs : List Value) (x : DataW H × List MemPlace), DataW.trod enc P w 0 (fun _ => true) true fuel t cs = some x → ∃ y : α, d.K w y cs ∧ ok y
theorem opens_int {P : Program} {t : TypeId} {k : IntKind} (ht : P.underlying t = some (.int k)) : Opens P t (Kd.int k) (fun n => (Lit.int k n).wf = true) := by
  intro H enc w fuel cs x h
  obtain ⟨n, rfl, _, hw⟩ := DataW.trod_int ht h
  exact ⟨n, rfl, hw⟩
theorem opens_slice {P : Program} {t e : TypeId} {α : Type} {d : Kd α} {ok : α → Prop} (e' : Nat) (ht : P.underlying t = some (.slice e)) (hc : P.cellsOf e = d.sz) (he : Opens P e d ok) :
    Opens P t (Kd.slice e' d) (fun xs => xs.length ≤ maxLen ∧ ∀ x ∈ xs, ok x) := by
  intro H enc w fuel cs x h
  rcases Go.Deep.open_slice ht h with ⟨rfl, _⟩ | ⟨a, len, cap, m, n, D, Pl, rfl, _, hl, hm, hmm, _, hx⟩
  · exact ⟨[], ⟨none, 0, rfl, by simp, by simp, by simp, fun h => absurd h (by simp)⟩, by simp, by simp⟩
  · have hlm : len ≤ m := by rw [hmm]; split <;> omega
    have key : ∀ n' : Nat, n' ≤ len → ∃ ys : List α, ys.length = n' ∧ (∀ y ∈ ys, ok y) ∧ ∀ j p, ys[j]? = some p → ∃ c, c.length = d.sz ∧ d.K w p c ∧ ∀ i u, c[i]? = some u → w.cell? (a.add (j * d.sz + i)) = some u := by
      intro n'
      induction n' with
      | zero => exact fun _ => ⟨[], rfl, by simp, by simp⟩
      | succ n' ih =>
        intro hn
        obtain ⟨ys, hyl, hyo, hyc⟩ := ih (by omega)
        obtain ⟨cs', h1, h2⟩ := hx n' (by omega)
        obtain ⟨y, hK, hok⟩ := he H enc w _ _ _ h2
        obtain ⟨_, hlen, hcell⟩ := World.cells?_some h1
        rw [hc] at hlen hcell
        refine ⟨ys ++ [y], by simp [hyl], ?_, ?_⟩
        · intro z hz
          rcases List.mem_append.1 hz with hz | hz
          · exact hyo z hz
          · rw [List.mem_singleton.1 hz]; exact hok
        · intro j p hj
          rcases Nat.lt_or_ge j ys.length with hlt | hge
          · rw [List.getElem?_append_left hlt] at hj
            exact hyc j p hj
          · rw [List.getElem?_append_right hge] at hj
            have hj0 : j - ys.length = 0 := by
              rcases Nat.eq_zero_or_pos (j - ys.length) with h0 | h0
              · exact h0
              · rw [List.getElem?_eq_none (by simp; omega)] at hj
                cases hj
            have hjn : j = n' := by omega
            subst hjn
            rw [hj0] at hj
            obtain rfl : y = p := by simpa using hj
            refine ⟨cs', hlen, hK, fun i u hu => ?_⟩
            have hi : i < d.sz := by
              have := (List.getElem?_eq_some_iff.1 hu).1
              omega
            have hc1 := hcell i hi
            rw [hu, Go.Deep.add_add] at hc1
            exact hc1
    obtain ⟨ys, hyl, hyo, hyc⟩ := key len (Nat.le_refl _)
    have hb : len ≤ 9223372036854775807 := by
      unfold maxLen at hm
      omega
    subst hyl
    exact ⟨ys, ⟨some a, cap, rfl, hl, rfl, hb, fun _ => ⟨a, rfl, hyc⟩⟩, by omega, hyo⟩
theorem opens_Trod {P : Program} {t : TypeId} {α : Type} {d : Kd α} {ok : α → Prop} (h : Opens P t d ok) {H : Type} {enc : TypeId × Value → H} {w : World} {v : Value} {D : DataW H} {ps : List MemPlace} (hd : DataW.Trod enc P w 0 (fun _ => true) true t v D ps) : ∃ y : α, d.K w y v.cells.toList ∧ ok y := by
  obtain ⟨fuel, hf⟩ := hd
  exact h H enc w fuel _ _ hf
section
variable {P : Program} {w : World} {r : Reach} {base : Nat} {t : TypeId} {v : Value}
theorem slice_of {e : TypeId} (hs : P.underlying t = some (.slice e)) (hv : Value.okWide P w r base t v) {x : Value} (h : v.cells.toList = [x]) : v = x := by
  obtain ⟨a, len, cap, rfl⟩ := okWide_slice hs hv
  simpa [Value.cells] using h
end
end Go.Proofs.Ytocdlibnmlcokaa.Open
namespace Go.Proofs.Ytocdlibnmlcokaa
open Go.RowKit Go.Proofs.YtocdlibnmlcokaaW.PrintWords Go.Proofs.YtocdlibnmlcokaaW.PrintLast Go.Proofs.Ytocdlibnmlcokaa.Open
set_option linter.unusedVariables false
set_option linter.unusedSimpArgs false
theorem setTo_row {bs : List (List Int)} {ws : List Wr} {kf : Nat → Bool} (hd : DkOk bs ws) : ∀ i, i ≤ ws.length → ∀ x ∈ setTo bs ws kf i, x.length = 64
  | 0, _, x, hx => hd.2.2.1 x hx
  | i + 1, hi, x, hx => by
    simp only [setTo] at hx
    split at hx
    · rcases List.mem_or_eq_of_mem_set hx with h | rfl
      · exact setTo_row hd i (by omega) x h
      · rw [List.getD_eq_getElem?_getD, List.getElem?_eq_getElem (by omega)]
        exact (hd.2.2.2 _ (List.getElem_mem _)).2.2
    · exact setTo_row hd i (by omega) x hx
theorem settle_ok {bs : List (List Int)} {ws : List Wr} (kf : Nat → Bool) (hd : DkOk bs ws) : (settleL bs ws kf).length = 128 ∧ ∀ x ∈ settleL bs ws kf, x.length = 64 :=
  ⟨(setTo_len bs ws kf _).trans hd.1, setTo_row hd _ (Nat.le_refl _)⟩
theorem op22 : Opens Try.prog 22 (Kd.slice 5 (Kd.int .u8)) (fun xs => xs.length ≤ maxLen ∧ ∀ x ∈ xs, (Lit.int .u8 x).wf = true) := opens_slice 5 Try.underlying22 (by kernel_rfl) (opens_int Try.underlying5)
theorem open22 {w : World} {y : List Int} {cs : List Value} (h : (Kd.slice 5 (Kd.int .u8)).K w y cs) : ∃ A c, cs = [.slice A y.length c] ∧ kB.C w A y.length y := by
  obtain ⟨A, c, rfl, _, h0⟩ := h
  exact ⟨A, c, rfl, h0⟩
end Go.Proofs.Ytocdlibnmlcokaa
namespace Go.Proofs.Ytocdlibnmlcokaa
open Go.RowKit Go.Proofs.YtocdlibnmlcokaaW.PrintWords Go.Proofs.YtocdlibnmlcokaaW.PrintLast
attribute [local go_sem high] eqN33
set_option linter.unusedVariables false
set_option linter.unusedSimpArgs false
theorem sync_ok {bs : List (List Int)} {ws : List Wr} (hd : DkOk bs ws) (hk : BkOk bs ws) : BlOk (syncL bs ws) := by
  have h := settle_ok (kfL true []) hd
  exact ⟨h.1, fun b hb => ⟨h.2 b hb, sync_bytes _ hk _ (Nat.le_refl _) b hb⟩⟩
theorem bl_ok {bs : List (List Int)} {ws : List Wr} (hd : DkOk bs ws) (hk : BkOk bs ws) : BlOk bs := ⟨hd.1, fun b hb => ⟨hd.2.2.1 b hb, hk.1 b hb⟩⟩
theorem frames_len : ∀ (k : Nat) (b : List Int), BsOk b → (framesF k b).1.length ≤ b.length ∧ (framesF k b).2 ≤ b.length
  | 0, b, _ => by simp [framesF]
  | k + 1, b, hb => by
    by_cases h : FrIs b
    · obtain ⟨h1, h2⟩ := fr_len hb h
      have ih := frames_len k (b.drop (frLen b).toNat) (hb.drop _)
      rw [framesF_yes h]
      rw [List.length_drop] at ih
      simp only [List.length_cons]
      omega
    · rw [framesF_no h]; simp
set_option maxHeartbeats 8000000 in
set_option maxRecDepth 100000 in
theorem implScan_yes (A0 A1 : Option Addr) (c0 c1 : Nat) (bs : List (List Int)) (ws : List Wr) (w : World) (hx : rBS.d.C w A0 bs.length bs) (hy : rW.d.C w A1 ws.length ws) (hc : bs.length ≤ c0) (hd : DkOk bs ws) (hk : BkOk bs ws) :
    Calls Try.prog 72 #[.agg #[.slice A0 bs.length c0, .slice A1 ws.length c1]] w (GotLg (scanL bs ws) w) := by
  obtain ⟨S, hS⟩ : ∃ S, S = settleL bs ws (kfL true []) := ⟨_, rfl⟩
  obtain ⟨N, hN⟩ : ∃ N, N = (foundL S).1 := ⟨_, rfl⟩
  obtain ⟨L, hL⟩ : ∃ L, L = (foundL S).2 := ⟨_, rfl⟩
  obtain ⟨M, hM⟩ : ∃ M, M = (foundL bs).1 := ⟨_, rfl⟩
  obtain ⟨G, hG⟩ : ∃ G, G = logGen S := ⟨_, rfl⟩
  have hSok : BlOk S := hS ▸ sync_ok hd hk
  have hBok := bl_ok hd hk
  have hNl : N.length ≤ 10000 := by
    have h1 := logBytes_ok hSok
    have h2 := frames_len (logBytes S).length (logBytes S) h1.1
    rw [hN]; unfold foundL framesL; omega
  obtain ⟨R, hR⟩ : ∃ R, R = scanL bs ws := ⟨_, rfl⟩
  have HR : Aside0 (R = ⟨true, N, L, G, sameN N M⟩) := ⟨by rw [hR]; unfold scanL syncL; rw [← hS, ← hN, ← hL, ← hG, ← hM]⟩
  rw [← hR]; clear hR
  have HS := Aside0.mk hS; have HN := Aside0.mk hN; have HL := Aside0.mk hL; have HM := Aside0.mk hM; have HG := Aside0.mk hG; have HSok := Aside0.mk hSok; have HBok := Aside0.mk hBok
  have HX := Aside0.mk hx; have HY := Aside0.mk hy; have HD := Aside0.mk hd; clear hx hy hd hS hN hL hM hG hSok hBok
  go_enter Try.func72, Try.ntmps72
  go_upto_region 1 with (fail)
  generalize hw : World.alloc (World.alloc w _) _ = w1
  have O := Aside0.mk ((Own.nil w).of2 hw); clear hw
  have p0 := (blk_cell O.out.b1 0).trans rfl; have p1 := (blk_cell O.out.b1 1).trans rfl
  go_wp2_with fail
  refine (implDiskOk_c _ _ _ _ bs ws true ⟨fun _ => HD.out, fun _ => rfl⟩ _ (Kd.C_below HX.out O.out.bel) (Kd.C_below HY.out O.out.bel)).mono ?_
  rintro e w2 ⟨rfl, hb⟩
  replace O := Aside0.mk (O.out.below hb)
  clear p0 p1 hb
  have p0 := (blk_cell O.out.b1 0).trans rfl; have p1 := (blk_cell O.out.b1 1).trans rfl
  go_wp2_with fail
  refine (implSeen_yes _ _ _ _ bs ws _ (Kd.C_below HX.out O.out.bel) (Kd.C_below HY.out O.out.bel) HD.out).mono ?_
  intro e w3 hg
  obtain ⟨v, rfl, k⟩ := own_row hg
  rw [← HS.out] at k
  replace O := Aside0.mk (O.out.app1 k); clear k hg p0 p1
  obtain ⟨As, cs, rfl, hcs⟩ := O.out.f0
  have HCS := Aside0.mk hcs; clear hcs
  go_wp2_with fail
  refine (found_c _ _ S _ O.out.c0 HCS.out HSok.out).mono ?_
  intro e w4 hg
  rw [← HN.out, ← HL.out, ← HG.out] at hg
  obtain ⟨vn, vb, rfl, k⟩ := hg
  replace O := Aside0.mk ((O.out.app1 k.only1).p1.drop); clear k
  obtain ⟨An, cn, rfl, _⟩ := O.out.f0
  go_upto_region 4 with (fail)
  generalize hw : w4.alloc _ = w5
  replace O := Aside0.mk (O.out.of hw); clear hw
  generalize w4.heap.size = g3 at O ⊢
  have p0 := (blk_cell O.out.b3 0).trans rfl
  go_wp2_with fail
  refine (found_c _ _ bs _ (Kd.C_below HX.out O.out.bel) hc HBok.out).mono ?_
  intro e w6 hg
  rw [← HM.out] at hg
  generalize hL2 : ((foundL bs).2 : Int) = L2 at hg
  generalize hG2 : logGen bs = G2 at hg
  obtain ⟨vm, vb2, rfl, k⟩ := hg
  replace O := Aside0.mk (O.out.app1 k.only1); clear k p0 hL2 hG2
  obtain ⟨Am, cm, rfl, _⟩ := O.out.f0
  go_upto_region 5 with (fail)
  generalize hw : w6.alloc _ = w7
  replace O := Aside0.mk (O.out.of hw); clear hw
  generalize w6.heap.size = g5 at O ⊢
  go_loopg [36] (N.length + 1) (fun m v36 wr => ∃ i : Nat, Aside0 (i ≤ N.length ∧ N.length - i < m ∧ sameN N M = i + sameN (N.drop i) (M.drop i))
    ∧ Aside0 (Own w wr [Rs.box g5 59 #[.bool true, .slice Am M.length cm, .int .i64 L2, .int .i64 G2, .int .i64 0], Rs.row rN 33 (.slice Am M.length cm) M, Rs.box g3 59 #[.bool true, .slice An N.length cn, .int .i64 L, .int .i64 G, .int .i64 i], Rs.row rN 33 (.slice An N.length cn) N, Rs.box (w.heap.size + 1) 59 #[.bool false, .slice none 0 0, .int .i64 0, .int .i64 0, .int .i64 0], Rs.box w.heap.size 43 #[.slice A0 bs.length c0, .slice A1 ws.length c1]]))
  case atStart => exact ⟨0, ⟨by simp⟩, O⟩
  case round =>
    clear O
    obtain ⟨i, HI, O⟩ := hrel
    have q1 := (blk_cell O.out.b0 1).trans rfl
    have r1 := (blk_cell O.out.b2 1).trans rfl; have r4 := (blk_cell O.out.b2 4).trans rfl
    by_cases h1 : i < N.length
    · by_cases h2 : i < M.length
      · obtain ⟨ad, e1, a0, a1, a2, a3, a4⟩ := at_N O.out.c3 (i : Int) (by omega) (by omega)
        obtain ⟨ad', e2, b0, b1, b2, b3, b4⟩ := at_N O.out.c1 (i : Int) (by omega) (by omega)
        cases e1; cases e2
        simp only [Int.toNat_natCast] at a0 a1 a2 a3 a4 b0 b1 b2 b3 b4
        go_wp2
        go_quiet (fail)
        clear a0 a1 a2 a3 a4 b0 b1 b2 b3 b4 q1 r1 r4
        replace O := Aside0.mk (O.out.drewN nq)
        generalize wr.drewN nq = wd at O ⊢
        generalize hb : decide (gN N ↑i = gN M ↑i) = b
        have HBQ := Aside0.mk hb; clear hb
        cases b with
        | true =>
          have he : N[i] = M[i] := by have := of_decide_eq_true HBQ.out; rwa [gN_eq (by omega), gN_eq (by omega)] at this
          have HE := Aside0.mk he; clear he
          have r4 := (blk_cell O.out.b2 4).trans rfl; have z4 := blk_frozen O.out.b2 4
          go_wp2
          generalize hw : World.setCell _ _ _ = w8
          replace O := Aside0.mk ((O.out.p2.st hw #[.bool true, .slice (some ad) N.length cn, .int .i64 L, .int .i64 G, .int .i64 (i + 1)] rfl).q2); clear hw
          go_roundg (gk - 1)
          case measure => have := HI.out; omega
          case rel =>
            refine ⟨i + 1, ⟨by omega, by have := HI.out; omega, by have := HI.out.2.2; rw [sameN_yes (by omega) (by omega) HE.out] at this; omega⟩, ?_⟩
            exact O
        | false =>
          have he : ¬ N[i] = M[i] := by have := of_decide_eq_false HBQ.out; rwa [gN_eq (by omega), gN_eq (by omega)] at this
          have HE := Aside0.mk he; clear he
          have r0 := (blk_cell O.out.b2 0).trans rfl; have r1 := (blk_cell O.out.b2 1).trans rfl; have r2 := (blk_cell O.out.b2 2).trans rfl; have r3 := (blk_cell O.out.b2 3).trans rfl; have r4 := (blk_cell O.out.b2 4).trans rfl
          have u0 := (blk_cell O.out.b4 0).trans rfl; have u1 := (blk_cell O.out.b4 1).trans rfl; have u2 := (blk_cell O.out.b4 2).trans rfl; have u3 := (blk_cell O.out.b4 3).trans rfl; have u4 := (blk_cell O.out.b4 4).trans rfl
          have z0 := blk_frozen O.out.b4 0; have z1 := blk_frozen O.out.b4 1; have z2 := blk_frozen O.out.b4 2; have z3 := blk_frozen O.out.b4 3; have z4 := blk_frozen O.out.b4 4
          go_wp2
          generalize hw : World.setCell _ _ _ = w8
          replace O := Aside0.mk (O.out.p4.st5 hw); clear hw
          refine bodyPost_ret (results_cell_row rfl _ _ (w.heap.size + 1) 59 _ (0, 0) _ rfl O.out.b0 Try.underlying59 rfl (by kernel_rfl)) rfl ?_
          rw [HR.out]
          have hs : sameN N M = i := by rw [HI.out.2.2, sameN_ne (by omega) (by omega) HE.out]; rfl
          rw [hs]
          exact ⟨_, rfl, O.out.p4.only1⟩
      · go_wp2
        go_quiet (fail)
        clear q1 r1 r4
        replace O := Aside0.mk (O.out.drewN nq)
        generalize wr.drewN nq = wd at O ⊢
        have r0 := (blk_cell O.out.b2 0).trans rfl; have r1 := (blk_cell O.out.b2 1).trans rfl; have r2 := (blk_cell O.out.b2 2).trans rfl; have r3 := (blk_cell O.out.b2 3).trans rfl; have r4 := (blk_cell O.out.b2 4).trans rfl
        have u0 := (blk_cell O.out.b4 0).trans rfl; have u1 := (blk_cell O.out.b4 1).trans rfl; have u2 := (blk_cell O.out.b4 2).trans rfl; have u3 := (blk_cell O.out.b4 3).trans rfl; have u4 := (blk_cell O.out.b4 4).trans rfl
        have z0 := blk_frozen O.out.b4 0; have z1 := blk_frozen O.out.b4 1; have z2 := blk_frozen O.out.b4 2; have z3 := blk_frozen O.out.b4 3; have z4 := blk_frozen O.out.b4 4
        go_wp2
        generalize hw : World.setCell _ _ _ = w8
        replace O := Aside0.mk (O.out.p4.st5 hw); clear hw
        refine bodyPost_ret (results_cell_row rfl _ _ (w.heap.size + 1) 59 _ (0, 0) _ rfl O.out.b0 Try.underlying59 rfl (by kernel_rfl)) rfl ?_
        rw [HR.out]
        have hs : sameN N M = i := by rw [HI.out.2.2, sameN_out (.inr (by omega))]; rfl
        rw [hs]
        exact ⟨_, rfl, O.out.p4.only1⟩
    · go_wp2
      go_quiet (fail)
      clear q1 r1 r4
      replace O := Aside0.mk (O.out.drewN nq)
      generalize wr.drewN nq = wd at O ⊢
      have r0 := (blk_cell O.out.b2 0).trans rfl; have r1 := (blk_cell O.out.b2 1).trans rfl; have r2 := (blk_cell O.out.b2 2).trans rfl; have r3 := (blk_cell O.out.b2 3).trans rfl; have r4 := (blk_cell O.out.b2 4).trans rfl
      have u0 := (blk_cell O.out.b4 0).trans rfl; have u1 := (blk_cell O.out.b4 1).trans rfl; have u2 := (blk_cell O.out.b4 2).trans rfl; have u3 := (blk_cell O.out.b4 3).trans rfl; have u4 := (blk_cell O.out.b4 4).trans rfl
      have z0 := blk_frozen O.out.b4 0; have z1 := blk_frozen O.out.b4 1; have z2 := blk_frozen O.out.b4 2; have z3 := blk_frozen O.out.b4 3; have z4 := blk_frozen O.out.b4 4
      go_wp2
      generalize hw : World.setCell _ _ _ = w8
      replace O := Aside0.mk (O.out.p4.st5 hw); clear hw
      refine bodyPost_ret (results_cell_row rfl _ _ (w.heap.size + 1) 59 _ (0, 0) _ rfl O.out.b0 Try.underlying59 rfl (by kernel_rfl)) rfl ?_
      rw [HR.out]
      have hs : sameN N M = i := by rw [HI.out.2.2, sameN_out (.inl (by omega))]; rfl
      rw [hs]
      exact ⟨_, rfl, O.out.p4.only1⟩
end Go.Proofs.Ytocdlibnmlcokaa
namespace Go.Proofs.Ytocdlibnmlcokaa
open Go.RowKit Go.Proofs.YtocdlibnmlcokaaW.PrintWords Go.Proofs.YtocdlibnmlcokaaW.PrintLast
attribute [local go_sem high] eqN33
set_option linter.unusedVariables false
set_option linter.unusedSimpArgs false
set_option maxHeartbeats 8000000 in
set_option maxRecDepth 100000 in
theorem specScan_yes (A0 A1 : Option Addr) (c0 c1 : Nat) (bs : List (List Int)) (ws : List Wr) (w : World) (hx : rBS.d.C w A0 bs.length bs) (hy : rW.d.C w A1 ws.length ws) (hc : bs.length ≤ c0) (hd : DkOk bs ws) (hk : BkOk bs ws) :
    Calls Try.prog 73 #[.agg #[.slice A0 bs.length c0, .slice A1 ws.length c1]] w (GotLg (scanL bs ws) w) := by
  obtain ⟨S, hS⟩ : ∃ S, S = settleL bs ws (kfL true []) := ⟨_, rfl⟩
  obtain ⟨N, hN⟩ : ∃ N, N = (foundL S).1 := ⟨_, rfl⟩
  obtain ⟨L, hL⟩ : ∃ L, L = (foundL S).2 := ⟨_, rfl⟩
  obtain ⟨M, hM⟩ : ∃ M, M = (foundL bs).1 := ⟨_, rfl⟩
  obtain ⟨G, hG⟩ : ∃ G, G = logGen S := ⟨_, rfl⟩
  have hSok : BlOk S := hS ▸ sync_ok hd hk
  have hBok := bl_ok hd hk
  have hNl : N.length ≤ 10000 := by
    have h1 := logBytes_ok hSok
    have h2 := frames_len (logBytes S).length (logBytes S) h1.1
    rw [hN]; unfold foundL framesL; omega
  obtain ⟨R, hR⟩ : ∃ R, R = scanL bs ws := ⟨_, rfl⟩
  have HR : Aside0 (R = ⟨true, N, L, G, sameN N M⟩) := ⟨by rw [hR]; unfold scanL syncL; rw [← hS, ← hN, ← hL, ← hG, ← hM]⟩
  rw [← hR]; clear hR
  have HS := Aside0.mk hS; have HN := Aside0.mk hN; have HL := Aside0.mk hL; have HM := Aside0.mk hM; have HG := Aside0.mk hG; have HSok := Aside0.mk hSok; have HBok := Aside0.mk hBok
  have HX := Aside0.mk hx; have HY := Aside0.mk hy; have HD := Aside0.mk hd; clear hx hy hd hS hN hL hM hG hSok hBok
  go_enter Try.func73, Try.ntmps73
  go_upto_region 1 with (fail)
  generalize hw : World.alloc (World.alloc w _) _ = w1
  have O := Aside0.mk ((Own.nil w).of2 hw); clear hw
  have p0 := (blk_cell O.out.b1 0).trans rfl; have p1 := (blk_cell O.out.b1 1).trans rfl
  go_wp2_with fail
  refine (specDiskOk_c _ _ _ _ bs ws true ⟨fun _ => HD.out, fun _ => rfl⟩ _ (Kd.C_below HX.out O.out.bel) (Kd.C_below HY.out O.out.bel)).mono ?_
  rintro e w2 ⟨rfl, hb⟩
  replace O := Aside0.mk (O.out.below hb)
  clear p0 p1 hb
  have p0 := (blk_cell O.out.b1 0).trans rfl
  go_wp2_with fail
  refine (l3scan_c _ _ bs _ (Kd.C_below HX.out O.out.bel) hc HBok.out).mono ?_
  intro e w6 hg
  change GotLog _ (foundL bs).1 (foundL bs).2 _ _ _ _ at hg
  rw [← HM.out] at hg
  generalize hL2 : ((foundL bs).2 : Int) = L2 at hg
  generalize hG2 : logGen bs = G2 at hg
  obtain ⟨vm, rfl, k⟩ := own_log hg
  replace O := Aside0.mk (O.out.app1 k); clear k p0 hL2 hG2 hg
  obtain ⟨Am, cm, rfl, _⟩ := O.out.f0
  go_upto_region 4 with (fail)
  generalize hw : w6.alloc _ = w7
  replace O := Aside0.mk (O.out.of hw); clear hw
  generalize w6.heap.size = g5 at O ⊢
  have p0 := (blk_cell O.out.b3 0).trans rfl; have p1 := (blk_cell O.out.b3 1).trans rfl
  go_wp2_with fail
  refine (specSeen_yes _ _ _ _ bs ws _ (Kd.C_below HX.out O.out.bel) (Kd.C_below HY.out O.out.bel) HD.out).mono ?_
  intro e w3 hg
  obtain ⟨v, rfl, k⟩ := own_row hg
  rw [← HS.out] at k
  replace O := Aside0.mk (O.out.app1 k); clear k hg p0 p1
  obtain ⟨As, cs, rfl, hcs⟩ := O.out.f0
  have HCS := Aside0.mk hcs; clear hcs
  go_wp2_with fail
  refine (l3scan_c _ _ S _ O.out.c0 HCS.out HSok.out).mono ?_
  intro e w4 hg
  change GotLog _ (foundL S).1 (foundL S).2 _ _ _ _ at hg
  rw [← HN.out, ← HL.out, ← HG.out] at hg
  obtain ⟨vn, rfl, k⟩ := own_log hg
  replace O := Aside0.mk ((O.out.app1 k).p1.drop); clear k hg
  obtain ⟨An, cn, rfl, _⟩ := O.out.f0
  go_upto_region 5 with (fail)
  generalize hw : w4.alloc _ = w5
  replace O := Aside0.mk (O.out.of hw); clear hw
  generalize w4.heap.size = g3 at O ⊢
  replace O := Aside0.mk O.out.q3.q3
  go_loopg [28] (N.length + 1) (fun m v28 wr => ∃ i : Nat, Aside0 (i ≤ N.length ∧ N.length - i < m ∧ sameN N M = i + sameN (N.drop i) (M.drop i))
    ∧ Aside0 (Own w wr [Rs.box g5 59 #[.bool true, .slice Am M.length cm, .int .i64 L2, .int .i64 G2, .int .i64 0], Rs.row rN 33 (.slice Am M.length cm) M, Rs.box g3 59 #[.bool true, .slice An N.length cn, .int .i64 L, .int .i64 G, .int .i64 i], Rs.row rN 33 (.slice An N.length cn) N, Rs.box (w.heap.size + 1) 59 #[.bool false, .slice none 0 0, .int .i64 0, .int .i64 0, .int .i64 0], Rs.box w.heap.size 43 #[.slice A0 bs.length c0, .slice A1 ws.length c1]]))
  case atStart => exact ⟨0, ⟨by simp⟩, O⟩
  case round =>
    clear O
    obtain ⟨i, HI, O⟩ := hrel
    have q1 := (blk_cell O.out.b0 1).trans rfl
    have r1 := (blk_cell O.out.b2 1).trans rfl; have r4 := (blk_cell O.out.b2 4).trans rfl
    by_cases h1 : i < M.length
    · by_cases h2 : i < N.length
      · obtain ⟨ad, e1, a0, a1, a2, a3, a4⟩ := at_N O.out.c3 (i : Int) (by omega) (by omega)
        obtain ⟨ad', e2, b0, b1, b2, b3, b4⟩ := at_N O.out.c1 (i : Int) (by omega) (by omega)
        cases e1; cases e2
        simp only [Int.toNat_natCast] at a0 a1 a2 a3 a4 b0 b1 b2 b3 b4
        go_wp2
        go_quiet (fail)
        clear a0 a1 a2 a3 a4 b0 b1 b2 b3 b4 q1 r1 r4
        replace O := Aside0.mk (O.out.drewN nq)
        generalize wr.drewN nq = wd at O ⊢
        rw [show decide (gN M ↑i = gN N ↑i) = decide (gN N ↑i = gN M ↑i) from decide_eq_decide.2 eq_comm]
        generalize hb : decide (gN N ↑i = gN M ↑i) = b
        have HBQ := Aside0.mk hb; clear hb
        cases b with
        | true =>
          have he : N[i] = M[i] := by have := of_decide_eq_true HBQ.out; rwa [gN_eq (by omega), gN_eq (by omega)] at this
          have HE := Aside0.mk he; clear he
          have r4 := (blk_cell O.out.b2 4).trans rfl; have z4 := blk_frozen O.out.b2 4
          go_wp2
          generalize hw : World.setCell _ _ _ = w8
          replace O := Aside0.mk ((O.out.p2.st hw #[.bool true, .slice (some ad) N.length cn, .int .i64 L, .int .i64 G, .int .i64 (i + 1)] rfl).q2); clear hw
          go_roundg (gk - 1)
          case measure => have := HI.out; omega
          case rel =>
            refine ⟨i + 1, ⟨by omega, by have := HI.out; omega, by have := HI.out.2.2; rw [sameN_yes (by omega) (by omega) HE.out] at this; omega⟩, ?_⟩
            exact O
        | false =>
          have he : ¬ N[i] = M[i] := by have := of_decide_eq_false HBQ.out; rwa [gN_eq (by omega), gN_eq (by omega)] at this
          have HE := Aside0.mk he; clear he
          have r0 := (blk_cell O.out.b2 0).trans rfl; have r1 := (blk_cell O.out.b2 1).trans rfl; have r2 := (blk_cell O.out.b2 2).trans rfl; have r3 := (blk_cell O.out.b2 3).trans rfl; have r4 := (blk_cell O.out.b2 4).trans rfl
          have u0 := (blk_cell O.out.b4 0).trans rfl; have u1 := (blk_cell O.out.b4 1).trans rfl; have u2 := (blk_cell O.out.b4 2).trans rfl; have u3 := (blk_cell O.out.b4 3).trans rfl; have u4 := (blk_cell O.out.b4 4).trans rfl
          have z0 := blk_frozen O.out.b4 0; have z1 := blk_frozen O.out.b4 1; have z2 := blk_frozen O.out.b4 2; have z3 := blk_frozen O.out.b4 3; have z4 := blk_frozen O.out.b4 4
          go_wp2
          generalize hw : World.setCell _ _ _ = w8
          replace O := Aside0.mk (O.out.p4.st5 hw); clear hw
          refine bodyPost_ret (results_cell_row rfl _ _ (w.heap.size + 1) 59 _ (0, 0) _ rfl O.out.b0 Try.underlying59 rfl (by kernel_rfl)) rfl ?_
          rw [HR.out]
          have hs : sameN N M = i := by rw [HI.out.2.2, sameN_ne (by omega) (by omega) HE.out]; rfl
          rw [hs]
          exact ⟨_, rfl, O.out.p4.only1⟩
      · go_wp2
        go_quiet (fail)
        clear q1 r1 r4
        replace O := Aside0.mk (O.out.drewN nq)
        generalize wr.drewN nq = wd at O ⊢
        have r0 := (blk_cell O.out.b2 0).trans rfl; have r1 := (blk_cell O.out.b2 1).trans rfl; have r2 := (blk_cell O.out.b2 2).trans rfl; have r3 := (blk_cell O.out.b2 3).trans rfl; have r4 := (blk_cell O.out.b2 4).trans rfl
        have u0 := (blk_cell O.out.b4 0).trans rfl; have u1 := (blk_cell O.out.b4 1).trans rfl; have u2 := (blk_cell O.out.b4 2).trans rfl; have u3 := (blk_cell O.out.b4 3).trans rfl; have u4 := (blk_cell O.out.b4 4).trans rfl
        have z0 := blk_frozen O.out.b4 0; have z1 := blk_frozen O.out.b4 1; have z2 := blk_frozen O.out.b4 2; have z3 := blk_frozen O.out.b4 3; have z4 := blk_frozen O.out.b4 4
        go_wp2
        generalize hw : World.setCell _ _ _ = w8
        replace O := Aside0.mk (O.out.p4.st5 hw); clear hw
        refine bodyPost_ret (results_cell_row rfl _ _ (w.heap.size + 1) 59 _ (0, 0) _ rfl O.out.b0 Try.underlying59 rfl (by kernel_rfl)) rfl ?_
        rw [HR.out]
        have hs : sameN N M = i := by rw [HI.out.2.2, sameN_out (.inl (by omega))]; rfl
        rw [hs]
        exact ⟨_, rfl, O.out.p4.only1⟩
    · go_wp2
      go_quiet (fail)
      clear q1 r1 r4
      replace O := Aside0.mk (O.out.drewN nq)
      generalize wr.drewN nq = wd at O ⊢
      have r0 := (blk_cell O.out.b2 0).trans rfl; have r1 := (blk_cell O.out.b2 1).trans rfl; have r2 := (blk_cell O.out.b2 2).trans rfl; have r3 := (blk_cell O.out.b2 3).trans rfl; have r4 := (blk_cell O.out.b2 4).trans rfl
      have u0 := (blk_cell O.out.b4 0).trans rfl; have u1 := (blk_cell O.out.b4 1).trans rfl; have u2 := (blk_cell O.out.b4 2).trans rfl; have u3 := (blk_cell O.out.b4 3).trans rfl; have u4 := (blk_cell O.out.b4 4).trans rfl
      have z0 := blk_frozen O.out.b4 0; have z1 := blk_frozen O.out.b4 1; have z2 := blk_frozen O.out.b4 2; have z3 := blk_frozen O.out.b4 3; have z4 := blk_frozen O.out.b4 4
      go_wp2
      generalize hw : World.setCell _ _ _ = w8
      replace O := Aside0.mk (O.out.p4.st5 hw); clear hw
      refine bodyPost_ret (results_cell_row rfl _ _ (w.heap.size + 1) 59 _ (0, 0) _ rfl O.out.b0 Try.underlying59 rfl (by kernel_rfl)) rfl ?_
      rw [HR.out]
      have hs : sameN N M = i := by rw [HI.out.2.2, sameN_out (.inr (by omega))]; rfl
      rw [hs]
      exact ⟨_, rfl, O.out.p4.only1⟩
end Go.Proofs.Ytocdlibnmlcokaa
namespace Go.Proofs.Ytocdlibnmlcokaa
open Go.RowKit Go.Proofs.YtocdlibnmlcokaaW.PrintWords Go.Proofs.YtocdlibnmlcokaaW.PrintLast
set_option linter.unusedVariables false
set_option linter.unusedSimpArgs false
section
variable {P : Program} {ops : Array Oper} {rest : List Oper} {o : Oper} {a : Act} {Q : Exit → Act → World → Prop} {w0 W : World} {L : List Rs} {α : Type}
theorem Own.mk_row (r : Rp α) (hgd : o.guard = none) {N : Tmp} (hd : o.dst = some N) (t e : TypeId) (x y : Operand) (ho : o.op = .makeSlice t x y) (n : Int) (hx : a.eval x = .int .i64 n) (hy : a.eval y = .int .i64 n)
    (ht : P.underlying t = some (.slice e)) (z : Value) (bytes : Nat) (hinfo : (P.info? e).map (fun i => (i.zero, i.size, i.bytes)) = some (some z, r.d.sz, bytes)) (hz : z.cells.size = r.d.sz) (hs0 : 0 < r.d.sz) (hb0 : 0 < bytes)
    (z0 : α) (hzero : ∀ w, r.P w z0 z.cells.toList []) (h0 : 0 ≤ n) (hl : n.toNat * bytes ≤ 281474976710656) (HO : Own w0 W L)
    (h : ∀ g w1, Own w0 w1 (Rs.row r e (.slice (some ⟨g, 0, none⟩) n.toNat n.toNat) (List.replicate n.toNat z0) :: L) → wpList P ops Q rest (a.put o.dst (.slice (some ⟨g, 0, none⟩) n.toNat n.toNat)) w1) : wpList P ops Q (o :: rest) a W :=
  Rp.mk_row r hgd hd t e x y ho n hx hy ht z bytes hinfo hz hs0 hb0 z0 hzero h0 hl fun g w1 hg hr hb => h g w1 (HO.app1 (Own.one hb hr (by simp) (fun b hb' => by simp at hb'; omega)))
theorem Own.mk_row_step (r : Rp α) {K : Act → World → Prop} {E : Prop} (hgd : o.guard = none) (t e : TypeId) (x y : Operand) (ho : o.op = .makeSlice t x y) (n : Int) (hx : a.eval x = .int .i64 n) (hy : a.eval y = .int .i64 n)
    (ht : P.underlying t = some (.slice e)) (z : Value) (bytes : Nat) (hinfo : (P.info? e).map (fun i => (i.zero, i.size, i.bytes)) = some (some z, r.d.sz, bytes)) (hz : z.cells.size = r.d.sz) (hs0 : 0 < r.d.sz) (hb0 : 0 < bytes)
    (z0 : α) (hzero : ∀ w, r.P w z0 z.cells.toList []) (h0 : 0 ≤ n) (hl : n.toNat * bytes ≤ 281474976710656) (HO : Own w0 W L)
    (h : ∀ g w1, Own w0 w1 (Rs.row r e (.slice (some ⟨g, 0, none⟩) n.toNat n.toNat) (List.replicate n.toNat z0) :: L) → K (a.put o.dst (.slice (some ⟨g, 0, none⟩) n.toNat n.toNat)) w1) : if Region.wanted o (yielded ops a.tmps) = true then Oper.wp P o a W K Q else E :=
  Rp.mk_row_step r hgd t e x y ho n hx hy ht z bytes hinfo hz hs0 hb0 z0 hzero h0 hl fun g w1 hg hr hb => h g w1 (HO.app1 (Own.one hb hr (by simp) (fun b hb' => by simp at hb'; omega)))
end
theorem disk_own {w w1 : World} {v0 v1 : Value} {bs : List (List Int)} {ws : List Wr} (h : Own w w1 [Rs.row rBS 22 v0 bs, Rs.row rW 147 v1 ws]) : GotDisk w bs ws (.returned (.agg #[v0, v1])) w1 := by
  obtain ⟨f, g, hf, hg, hn, hl, _⟩ := h.take2
  exact ⟨v0, v1, f, g, rfl, hf, hg, hn, hl, h.bel⟩
def zeroB : List Int := List.replicate 64 0
def pageB (X : List Int) (k : Nat) (gen : Int) : List Int := if k * 56 < X.length then blockL gen (seg X (k * 56) (min X.length (k * 56 + 56))) else zeroB
theorem seg_short (X : List Int) (k : Nat) : (seg X (k * 56) (min X.length (k * 56 + 56))).length ≤ 56 := by rw [seg_len _ (by omega)]; omega
theorem pageB_len (X : List Int) (k : Nat) (gen : Int) : (pageB X k gen).length = 64 := by
  unfold pageB
  split
  · exact block_len (seg_short X k)
  · simp [zeroB]
set_option maxHeartbeats 8000000 in
set_option maxRecDepth 100000 in
theorem lay_c (A0 A1 A2 : Option Addr) (c0 c1 c2 : Nat) (bs : List (List Int)) (ws : List Wr) (X : List Int) (k : Nat) (gen : Int) (w : World) (hx : rBS.d.C w A0 bs.length bs) (hy : rW.d.C w A1 ws.length ws) (hz : kB.C w A2 X.length X) (hc : X.length ≤ c2)
    (hd : DkOk bs ws) (hw : ws.length < 200) (hk : k < 127) (hg : 1 ≤ gen) (hg2 : gen ≤ 1000000000) (hX : X.length ≤ 100000) :
    Calls Try.prog 111 #[.agg #[.slice A0 bs.length c0, .slice A1 ws.length c1], .int .i64 k, .slice A2 X.length c2, .int .i64 gen] w (GotDisk w bs (ws ++ [⟨k + 1, pageB X k gen⟩])) := by
  obtain ⟨Bk, hB⟩ : ∃ B, B = pageB X k gen := ⟨_, rfl⟩
  have hBl : Bk.length = 64 := by rw [hB]; exact pageB_len X k gen
  have HPut : Aside0 (PutOk bs ws (k + 1) Bk) := ⟨⟨hd, by omega, by omega, hBl, hw⟩⟩
  rw [← hB]
  obtain ⟨W1, hW1⟩ : ∃ W1, W1 = ws ++ [⟨(k : Int) + 1, Bk⟩] := ⟨_, rfl⟩
  rw [← hW1]
  have HW1 := Aside0.mk hW1; clear hW1
  suffices H : ∀ Q : Ending → World → Prop, (∀ e w', GotDisk w bs W1 e w' → Q e w') → Calls Try.prog 111 #[.agg #[.slice A0 bs.length c0, .slice A1 ws.length c1], .int .i64 k, .slice A2 X.length c2, .int .i64 gen] w Q from H _ (fun _ _ h => h)
  intro Q hQ
  have HX := Aside0.mk hx; have HY := Aside0.mk hy; have HZ := Aside0.mk hz; have HB := Aside0.mk hB; have HQ := Aside0.mk hQ; clear hx hy hz hd hB hQ hBl
  go_enter Try.func111, Try.ntmps111
  go_upto_region 1 with (fail)
  generalize hw : World.alloc (World.alloc w _) _ = w1
  have O := Aside0.mk ((Own.nil w).of2 hw); clear hw
  go_upto_region 2 with ((with_reducible refine gate_dst (N := 11) rfl ?_); refine Own.mk_row rB rfl (N := 11) rfl 22 5 _ _ rfl 64 rfl rfl Try.underlying22 (.int .u8 0) 1 info5 rfl (by decide) (by omega) 0 (fun _ => ⟨rfl, rfl⟩) (by omega) (by omega) O.out ?_; intro g w2 hO; have O2 := Aside0.mk hO; clear hO)
  clear O
  have O : Aside0 (Own w w2 [Rs.row rB 5 (.slice (some ⟨g, 0, none⟩) 64 64) zeroB, Rs.box (w.heap.size + 1) 43 #[.slice none 0 0, .slice none 0 0], Rs.box w.heap.size 43 #[.slice A0 bs.length c0, .slice A1 ws.length c1]]) := ⟨O2.out⟩
  clear O2
  by_cases hin : (k : Int) * 56 < X.length
  · go_upto_region 4 with (fail)
    obtain ⟨y, hy⟩ : ∃ y, y = min X.length (k * 56 + 56) := ⟨_, rfl⟩
    obtain ⟨A', hcut, hC, hle⟩ := mid_c (A := A2) (c := c2) (xs := X) ((k : Int) * 56) (y : Int) (k * 56) y (by omega) (by omega) (by omega) (by omega) (by omega) hc
    have hseg : (seg X (k * 56) y).length ≤ 56 := by rw [hy]; exact seg_short X k
    replace HB : Aside0 (Bk = blockL gen (seg X (k * 56) y)) := ⟨by rw [HB.out]; unfold pageB; rw [if_pos (by omega), hy]⟩
    generalize seg X (k * 56) y = S at hcut hC hle hseg HB
    have HCs := Aside0.mk (hC _ (Kd.C_below HZ.out O.out.bel))
    have hy1 : y = if (X.length : Int) ≤ (k : Int) * 56 + 56 then X.length else k * 56 + 56 := by rw [hy]; split <;> omega
    clear hC hy
    by_cases hsh : (X.length : Int) ≤ (k : Int) * 56 + 56
    · rw [if_pos hsh] at hy1
      subst hy1
      go_wp2_with fail
      refine (implPageBlock_yes _ _ gen S _ HCs.out ⟨rfl, hg, hg2, hseg⟩).mono ?_
      intro e w3 hg1
      rw [← HB.out] at hg1
      obtain ⟨v, rfl, k1⟩ := own_row hg1
      replace O := Aside0.mk ((O.out.drop).app1 k1); clear k1 hg1 hcut
      obtain ⟨A9, c9, rfl, _⟩ := O.out.f0
      go_upto_region 5 with (fail)
      have HC9 := Aside0.mk O.out.c0
      have p0 := (blk_cell O.out.b2 0).trans rfl; have p1 := (blk_cell O.out.b2 1).trans rfl
      go_wp2_with fail
      refine (implPut_yes _ _ _ _ _ _ bs ws _ Bk _ (Kd.C_below HX.out O.out.bel) (Kd.C_below HY.out O.out.bel) HC9.out HPut.out).mono ?_
      intro e w4 hg
      rw [← HW1.out] at hg
      obtain ⟨v0, v1, rfl, k2⟩ := own_disk hg
      replace O := Aside0.mk (O.out.app2 k2); clear k2 hg p0 p1
      have u0 := (blk_cell O.out.b3 0).trans rfl; have u1 := (blk_cell O.out.b3 1).trans rfl
      have z0 := blk_frozen O.out.b3 0; have z1 := blk_frozen O.out.b3 1
      obtain ⟨B0, d0, rfl, _⟩ := O.out.f0
      obtain ⟨B1, d1, rfl, _⟩ := O.out.f1
      go_wp2
      generalize hw : World.setCell _ _ _ = w5
      replace O := Aside0.mk (O.out.p3.st2 hw); clear hw
      refine bodyPost_ret (results_cell_row rfl _ _ (w.heap.size + 1) 43 _ (0, 0) _ rfl O.out.b0 Try.underlying43 rfl (by kernel_rfl)) rfl ?_
      exact HQ.out _ _ (disk_own O.out.drop.only2)
    · rw [if_neg hsh] at hy1
      subst hy1
      rw [show ((k * 56 + 56 : Nat) : Int) = (k : Int) * 56 + 56 by omega] at hcut
      go_wp2_with fail
      refine (implPageBlock_yes _ _ gen S _ HCs.out ⟨rfl, hg, hg2, hseg⟩).mono ?_
      intro e w3 hg1
      rw [← HB.out] at hg1
      obtain ⟨v, rfl, k1⟩ := own_row hg1
      replace O := Aside0.mk ((O.out.drop).app1 k1); clear k1 hg1 hcut
      obtain ⟨A9, c9, rfl, _⟩ := O.out.f0
      go_upto_region 5 with (fail)
      have HC9 := Aside0.mk O.out.c0
      have p0 := (blk_cell O.out.b2 0).trans rfl; have p1 := (blk_cell O.out.b2 1).trans rfl
      go_wp2_with fail
      refine (implPut_yes _ _ _ _ _ _ bs ws _ Bk _ (Kd.C_below HX.out O.out.bel) (Kd.C_below HY.out O.out.bel) HC9.out HPut.out).mono ?_
      intro e w4 hg
      rw [← HW1.out] at hg
      obtain ⟨v0, v1, rfl, k2⟩ := own_disk hg
      replace O := Aside0.mk (O.out.app2 k2); clear k2 hg p0 p1
      have u0 := (blk_cell O.out.b3 0).trans rfl; have u1 := (blk_cell O.out.b3 1).trans rfl
      have z0 := blk_frozen O.out.b3 0; have z1 := blk_frozen O.out.b3 1
      obtain ⟨B0, d0, rfl, _⟩ := O.out.f0
      obtain ⟨B1, d1, rfl, _⟩ := O.out.f1
      go_wp2
      generalize hw : World.setCell _ _ _ = w5
      replace O := Aside0.mk (O.out.p3.st2 hw); clear hw
      refine bodyPost_ret (results_cell_row rfl _ _ (w.heap.size + 1) 43 _ (0, 0) _ rfl O.out.b0 Try.underlying43 rfl (by kernel_rfl)) rfl ?_
      exact HQ.out _ _ (disk_own O.out.drop.only2)
  · replace HB : Aside0 (Bk = zeroB) := ⟨by rw [HB.out]; unfold pageB; rw [if_neg (by omega)]⟩
    rw [← HB.out] at O
    go_upto_region 5 with (fail)
    have HC9 := Aside0.mk O.out.c0
    have hl9 : Bk.length = 64 := HPut.out.2.2.2.1
    have P9 : Aside0 (Calls Try.prog 54 #[.agg #[.slice A0 bs.length c0, .slice A1 ws.length c1], .int .i64 (k + 1), .slice (some ⟨g, 0, none⟩) 64 64] w2 (GotDisk w2 bs (ws ++ [⟨k + 1, Bk⟩]))) := ⟨by
      have h := implPut_yes A0 A1 (some ⟨g, 0, none⟩) c0 c1 64 bs ws (k + 1) Bk w2 (Kd.C_below HX.out O.out.bel) (Kd.C_below HY.out O.out.bel) HC9.out HPut.out
      rw [hl9] at h
      exact h⟩
    clear hl9
    have p0 := (blk_cell O.out.b2 0).trans rfl; have p1 := (blk_cell O.out.b2 1).trans rfl
    go_wp2_with fail
    refine P9.out.mono ?_
    intro e w4 hg
    rw [← HW1.out] at hg
    obtain ⟨v0, v1, rfl, k2⟩ := own_disk hg
    replace O := Aside0.mk (O.out.app2 k2); clear k2 hg p0 p1
    have u0 := (blk_cell O.out.b3 0).trans rfl; have u1 := (blk_cell O.out.b3 1).trans rfl
    have z0 := blk_frozen O.out.b3 0; have z1 := blk_frozen O.out.b3 1
    obtain ⟨B0, d0, rfl, _⟩ := O.out.f0
    obtain ⟨B1, d1, rfl, _⟩ := O.out.f1
    go_wp2
    generalize hw : World.setCell _ _ _ = w5
    replace O := Aside0.mk (O.out.p3.st2 hw); clear hw
    refine bodyPost_ret (results_cell_row rfl _ _ (w.heap.size + 1) 43 _ (0, 0) _ rfl O.out.b0 Try.underlying43 rfl (by kernel_rfl)) rfl ?_
    exact HQ.out _ _ (disk_own O.out.drop.only2)
end Go.Proofs.Ytocdlibnmlcokaa
namespace Go.Proofs.Ytocdlibnmlcokaa
open Go.RowKit Go.Proofs.YtocdlibnmlcokaaW.PrintWords Go.Proofs.YtocdlibnmlcokaaW.PrintLast
set_option linter.unusedVariables false
set_option linter.unusedSimpArgs false
set_option maxHeartbeats 8000000 in
set_option maxRecDepth 100000 in
theorem l3page_w (A0 A1 A2 : Option Addr) (c0 c1 c2 : Nat) (bs bs' : List (List Int)) (ws ws' : List Wr) (X : List Int) (k : Nat) (gen : Int) (w : World) (hx : rBS.d.C w A0 bs.length bs) (hy : rW.d.C w A1 ws.length ws) (hz : kB.C w A2 X.length X) (hc : X.length ≤ c2)
    (hk : k < 127) (hg : 1 ≤ gen) (hg2 : gen ≤ 1000000000) (hX : X.length ≤ 100000)
    (hp : ∀ (A2 : Option Addr) (c2 : Nat) (w : World), rBS.d.C w A0 bs.length bs → rW.d.C w A1 ws.length ws → kB.C w A2 64 (pageB X k gen) → Calls Try.prog 51 #[.agg #[.slice A0 bs.length c0, .slice A1 ws.length c1], .int .i64 (k + 1), .slice A2 64 c2] w (GotDisk w bs' ws')) :
    Calls Try.prog 134 #[.agg #[.slice A0 bs.length c0, .slice A1 ws.length c1], .slice A2 X.length c2, .int .i64 k, .int .i64 gen] w (GotDisk w bs' ws') := by
  obtain ⟨Bk, hB⟩ : ∃ B, B = pageB X k gen := ⟨_, rfl⟩
  have hBl : Bk.length = 64 := by rw [hB]; exact pageB_len X k gen
  rw [← hB] at hp
  have ew : ((k : Int) + 1) = wrap64 ((k : Int) + 1) := (wrap_succ (by omega) (by omega)).symm
  rw [ew] at hp
  clear ew
  suffices H : ∀ Q : Ending → World → Prop, (∀ e w', GotDisk w bs' ws' e w' → Q e w') → Calls Try.prog 134 #[.agg #[.slice A0 bs.length c0, .slice A1 ws.length c1], .slice A2 X.length c2, .int .i64 k, .int .i64 gen] w Q from H _ (fun _ _ h => h)
  intro Q hQ
  have HX := Aside0.mk hx; have HY := Aside0.mk hy; have HZ := Aside0.mk hz; have HB := Aside0.mk hB; have HQ := Aside0.mk hQ; have HP := Aside0.mk hp; have HBl := Aside0.mk hBl; clear hx hy hz hB hQ hp hBl
  go_enter Try.func134, Try.ntmps134
  go_upto_region 1 with (fail)
  generalize hw : World.alloc (World.alloc w _) _ = w1
  have O := Aside0.mk ((Own.nil w).of2 hw); clear hw
  by_cases hin : (k : Int) * 56 < X.length
  · obtain ⟨y, hy⟩ : ∃ y, y = min X.length (k * 56 + 56) := ⟨_, rfl⟩
    obtain ⟨A', hcut, hC, hle⟩ := mid_c (A := A2) (c := c2) (xs := X) ((k : Int) * 56) (y : Int) (k * 56) y (by omega) (by omega) (by omega) (by omega) (by omega) hc
    have hseg : (seg X (k * 56) y).length ≤ 56 := by rw [hy]; exact seg_short X k
    replace HB : Aside0 (Bk = blockL gen (seg X (k * 56) y)) := ⟨by rw [HB.out]; unfold pageB; rw [if_pos (by omega), hy]⟩
    generalize seg X (k * 56) y = S at hcut hC hle hseg HB
    have HCs := Aside0.mk (hC _ (Kd.C_below HZ.out O.out.bel))
    have hy1 : y = if (X.length : Int) < (k : Int) * 56 + 56 then X.length else k * 56 + 56 := by rw [hy]; split <;> omega
    clear hC hy
    by_cases hsh : (X.length : Int) < (k : Int) * 56 + 56
    · rw [if_pos hsh] at hy1
      subst hy1
      go_upto_region 7 with fail
      have p0 := (blk_cell O.out.b1 0).trans rfl; have p1 := (blk_cell O.out.b1 1).trans rfl
      refine sta (fun w' => w'.cell? ⟨w.heap.size, 0, none⟩ = some (.slice A0 bs.length c0) ∧ w'.cell? ⟨w.heap.size, 1, none⟩ = some (.slice A1 ws.length c1)) [11] 12 ⟨p0, p1⟩ (fun hS => ?_)
      clear p0 p1
      replace O := Aside0.mk O.out.drew
      replace HCs := Aside0.mk (Kd.C_drew HCs.out)
      generalize w1.drew = wd at O HCs hS ⊢
      refine pu 1 2 ?_
      refine pu 2 6 ?_
      refine pu 3 14 ?_
      refine pu 4 30 ?_
      refine pu 5 62 ?_
      refine pu 6 126 ?_
      refine tk 0 127 hS ?_
      refine pu 7 255 ?_
      refine pu 8 511 ?_
      clear hcut
      refine on 9 1023 (fun K hK => ?_)
      refine ca (specPageBlock_yes _ _ gen S _ HCs.out ⟨rfl, hg, hg2, hseg⟩) Try.func132 ?_
      intro e w3 hg1
      rw [← HB.out] at hg1
      obtain ⟨v, rfl, k1⟩ := own_row hg1
      replace O := Aside0.mk (O.out.app1 k1); clear k1 hg1
      obtain ⟨A9, c9, rfl, _⟩ := O.out.f0
      have hl9 := HBl.out
      rw [hl9] at O ⊢
      have HC9 : Aside0 (kB.C w3 A9 64 Bk) := ⟨by have := O.out.c0; rw [hl9] at this; exact this⟩
      refine ⟨_, rfl, nx hK ⟨(blk_cell O.out.b2 0).trans rfl, (blk_cell O.out.b2 1).trans rfl⟩ (fun hS => ?_)⟩
      clear hK K hl9
      refine on 10 2047 (fun K hK => ?_)
      refine ca (HP.out _ _ _ (Kd.C_below HX.out O.out.bel) (Kd.C_below HY.out O.out.bel) HC9.out) Try.func51 ?_
      intro e w4 hg
      obtain ⟨v0, v1, rfl, k2⟩ := own_disk hg
      replace O := Aside0.mk (O.out.app2 k2); clear k2 hg
      obtain ⟨B0, d0, rfl, _⟩ := O.out.f0
      obtain ⟨B1, d1, rfl, _⟩ := O.out.f1
      refine ⟨_, rfl, nx hK ⟨(blk_cell O.out.b4 0).trans rfl, (blk_cell O.out.b4 1).trans rfl⟩ (fun hS => ?_)⟩
      clear hK K hS
      have u0 := (blk_cell O.out.b3 0).trans rfl; have u1 := (blk_cell O.out.b3 1).trans rfl
      have z0 := blk_frozen O.out.b3 0; have z1 := blk_frozen O.out.b3 1
      refine la 11 4095 (fun K hK => ?_)
      refine st ?_
      generalize hw : World.setCell _ _ _ = w5
      replace O := Aside0.mk (O.out.p3.st2 hw); clear hw
      refine nl hK (dn ?_)
      clear hK K u0 u1 z0 z1
      go_wp2
      refine bodyPost_ret (results_cell_row rfl _ _ (w.heap.size + 1) 43 _ (0, 0) _ rfl O.out.b0 Try.underlying43 rfl (by kernel_rfl)) rfl ?_
      exact HQ.out _ _ (disk_own O.out.drop.only2)
    · rw [if_neg hsh] at hy1
      subst hy1
      rw [show ((k * 56 + 56 : Nat) : Int) = (k : Int) * 56 + 56 by omega] at hcut
      go_upto_region 7 with fail
      have p0 := (blk_cell O.out.b1 0).trans rfl; have p1 := (blk_cell O.out.b1 1).trans rfl
      refine sta (fun w' => w'.cell? ⟨w.heap.size, 0, none⟩ = some (.slice A0 bs.length c0) ∧ w'.cell? ⟨w.heap.size, 1, none⟩ = some (.slice A1 ws.length c1)) [11] 12 ⟨p0, p1⟩ (fun hS => ?_)
      clear p0 p1
      replace O := Aside0.mk O.out.drew
      replace HCs := Aside0.mk (Kd.C_drew HCs.out)
      generalize w1.drew = wd at O HCs hS ⊢
      refine pu 1 2 ?_
      refine pu 2 6 ?_
      refine pu 3 14 ?_
      refine pu 4 30 ?_
      refine pu 5 62 ?_
      refine pu 6 126 ?_
      refine tk 0 127 hS ?_
      refine pu 7 255 ?_
      refine pu 8 511 ?_
      clear hcut
      refine on 9 1023 (fun K hK => ?_)
      refine ca (specPageBlock_yes _ _ gen S _ HCs.out ⟨rfl, hg, hg2, hseg⟩) Try.func132 ?_
      intro e w3 hg1
      rw [← HB.out] at hg1
      obtain ⟨v, rfl, k1⟩ := own_row hg1
      replace O := Aside0.mk (O.out.app1 k1); clear k1 hg1
      obtain ⟨A9, c9, rfl, _⟩ := O.out.f0
      have hl9 := HBl.out
      rw [hl9] at O ⊢
      have HC9 : Aside0 (kB.C w3 A9 64 Bk) := ⟨by have := O.out.c0; rw [hl9] at this; exact this⟩
      refine ⟨_, rfl, nx hK ⟨(blk_cell O.out.b2 0).trans rfl, (blk_cell O.out.b2 1).trans rfl⟩ (fun hS => ?_)⟩
      clear hK K hl9
      refine on 10 2047 (fun K hK => ?_)
      refine ca (HP.out _ _ _ (Kd.C_below HX.out O.out.bel) (Kd.C_below HY.out O.out.bel) HC9.out) Try.func51 ?_
      intro e w4 hg
      obtain ⟨v0, v1, rfl, k2⟩ := own_disk hg
      replace O := Aside0.mk (O.out.app2 k2); clear k2 hg
      obtain ⟨B0, d0, rfl, _⟩ := O.out.f0
      obtain ⟨B1, d1, rfl, _⟩ := O.out.f1
      refine ⟨_, rfl, nx hK ⟨(blk_cell O.out.b4 0).trans rfl, (blk_cell O.out.b4 1).trans rfl⟩ (fun hS => ?_)⟩
      clear hK K hS
      have u0 := (blk_cell O.out.b3 0).trans rfl; have u1 := (blk_cell O.out.b3 1).trans rfl
      have z0 := blk_frozen O.out.b3 0; have z1 := blk_frozen O.out.b3 1
      refine la 11 4095 (fun K hK => ?_)
      refine st ?_
      generalize hw : World.setCell _ _ _ = w5
      replace O := Aside0.mk (O.out.p3.st2 hw); clear hw
      refine nl hK (dn ?_)
      clear hK K u0 u1 z0 z1
      go_wp2
      refine bodyPost_ret (results_cell_row rfl _ _ (w.heap.size + 1) 43 _ (0, 0) _ rfl O.out.b0 Try.underlying43 rfl (by kernel_rfl)) rfl ?_
      exact HQ.out _ _ (disk_own O.out.drop.only2)
  · replace HB : Aside0 (Bk = zeroB) := ⟨by rw [HB.out]; unfold pageB; rw [if_neg (by omega)]⟩
    have hsh : (X.length : Int) < (k : Int) * 56 + 56 := by omega
    go_upto_region 6 with fail
    have p0 := (blk_cell O.out.b1 0).trans rfl; have p1 := (blk_cell O.out.b1 1).trans rfl
    refine sta (fun w' => w'.cell? ⟨w.heap.size, 0, none⟩ = some (.slice A0 bs.length c0) ∧ w'.cell? ⟨w.heap.size, 1, none⟩ = some (.slice A1 ws.length c1)) [5] 6 ⟨p0, p1⟩ (fun hS => ?_)
    clear p0 p1
    replace O := Aside0.mk O.out.drew
    generalize w1.drew = wd at O hS ⊢
    refine pu 1 2 ?_
    refine pu 2 6 ?_
    refine tk 0 7 hS ?_
    refine on 3 15 (fun K hK => ?_)
    refine Own.mk_row_step rB rfl 22 5 _ _ rfl 64 rfl rfl Try.underlying22 (.int .u8 0) 1 info5 rfl (by decide) (by omega) 0 (fun _ => ⟨rfl, rfl⟩) (by omega) (by omega) O.out ?_
    intro g w2 hO
    clear O hS
    have O : Aside0 (Own w w2 [Rs.row rB 5 (.slice (some ⟨g, 0, none⟩) 64 64) zeroB, Rs.box (w.heap.size + 1) 43 #[.slice none 0 0, .slice none 0 0], Rs.box w.heap.size 43 #[.slice A0 bs.length c0, .slice A1 ws.length c1]]) := ⟨hO⟩
    clear hO
    refine nx hK ⟨(blk_cell O.out.b2 0).trans rfl, (blk_cell O.out.b2 1).trans rfl⟩ (fun hS => ?_)
    clear hK K
    rw [← HB.out] at O
    have HC9 : Aside0 (kB.C w2 (some ⟨g, 0, none⟩) 64 Bk) := ⟨by have := O.out.c0; rw [HBl.out] at this; exact this⟩
    refine on 4 31 (fun K hK => ?_)
    refine ca (HP.out _ _ _ (Kd.C_below HX.out O.out.bel) (Kd.C_below HY.out O.out.bel) HC9.out) Try.func51 ?_
    intro e w4 hg
    obtain ⟨v0, v1, rfl, k2⟩ := own_disk hg
    replace O := Aside0.mk (O.out.app2 k2); clear k2 hg
    obtain ⟨B0, d0, rfl, _⟩ := O.out.f0
    obtain ⟨B1, d1, rfl, _⟩ := O.out.f1
    refine ⟨_, rfl, nx hK ⟨(blk_cell O.out.b4 0).trans rfl, (blk_cell O.out.b4 1).trans rfl⟩ (fun hS => ?_)⟩
    clear hK K hS
    have u0 := (blk_cell O.out.b3 0).trans rfl; have u1 := (blk_cell O.out.b3 1).trans rfl
    have z0 := blk_frozen O.out.b3 0; have z1 := blk_frozen O.out.b3 1
    refine la 5 63 (fun K hK => ?_)
    refine st ?_
    generalize hw : World.setCell _ _ _ = w5
    replace O := Aside0.mk (O.out.p3.st2 hw); clear hw
    refine nl hK (dn ?_)
    clear hK K u0 u1 z0 z1
    go_wp2
    refine bodyPost_ret (results_cell_row rfl _ _ (w.heap.size + 1) 43 _ (0, 0) _ rfl O.out.b0 Try.underlying43 rfl (by kernel_rfl)) rfl ?_
    exact HQ.out _ _ (disk_own O.out.drop.only2)
end Go.Proofs.Ytocdlibnmlcokaa
namespace Go.Proofs.Ytocdlibnmlcokaa
open Go.RowKit Go.Proofs.YtocdlibnmlcokaaW.PrintWords Go.Proofs.YtocdlibnmlcokaaW.PrintLast
set_option linter.unusedVariables false
set_option linter.unusedSimpArgs false
structure Opn where
  ok : Bool
  lg : Lg
  bs : List (List Int)
  ws : List Wr
def op0 : Opn := ⟨false, lg0, [], []⟩
def GotOp (o : Opn) (w : World) (e : Ending) (w' : World) : Prop :=
  ∃ vn v0 v1, e = .returned (.agg #[.bool o.ok, .bool o.lg.ok, vn, .int .i64 o.lg.len, .int .i64 o.lg.gen, .int .i64 o.lg.safe, v0, v1]) ∧ Own w w' [Rs.row rN 33 vn o.lg.notes, Rs.row rBS 22 v0 o.bs, Rs.row rW 147 v1 o.ws]
def zerosW (i : Nat) : List Wr := (List.range i).map fun k : Nat => (⟨(k : Int) + 1, zeroB⟩ : Wr)
theorem zerosW_succ (i : Nat) : zerosW (i + 1) = zerosW i ++ [⟨(i : Int) + 1, zeroB⟩] := by simp [zerosW, List.range_succ]
theorem zerosW_len (i : Nat) : (zerosW i).length = i := by simp [zerosW]
def openWs (s : List (List Int)) : List Wr :=
  ⟨0, blockL (logGen s + 1) []⟩ :: (if logGen s = 0 then zerosW 127 else if (foundL s).2 / 56 + 1 < 128 then [⟨((foundL s).2 / 56 : Nat) + 1, pageB ((logBytes s).take (foundL s).2) ((foundL s).2 / 56) (logGen s + 1)⟩] else [])
def openS (s : List (List Int)) : Opn := if logGen s = 1000000000 then op0 else ⟨true, scanL (syncL s (openWs s)) [], syncL s (openWs s), []⟩
def openL (bs : List (List Int)) (ws : List Wr) : Opn := openS (syncL bs ws)
theorem zeroB_ok : BsOk zeroB := fun x hx => by rw [List.eq_of_mem_replicate hx]; omega
theorem pageB_ok {X : List Int} (h : BsOk X) (k : Nat) (gen : Int) : BsOk (pageB X k gen) := by
  unfold pageB
  split
  · exact block_ok (h.seg _ _) (seg_short X k)
  · exact zeroB_ok
def WrOk (x : Wr) : Prop := (0 ≤ x.block ∧ x.block < 128 ∧ x.bytes.length = 64) ∧ BsOk x.bytes
theorem dk_of {S : List (List Int)} {ws : List Wr} (h : BlOk S) (hl : ws.length ≤ 200) (hw : ∀ x ∈ ws, WrOk x) : DkOk S ws ∧ BkOk S ws :=
  ⟨⟨h.1, hl, fun b hb => (h.2 b hb).1, fun x hx => (hw x hx).1⟩, fun b hb => (h.2 b hb).2, fun x hx => (hw x hx).2⟩
theorem zerosW_ok (i : Nat) (hi : i ≤ 127) : ∀ x ∈ zerosW i, WrOk x := by
  intro x hx
  simp only [zerosW, List.mem_map, List.mem_range] at hx
  obtain ⟨k, hk, rfl⟩ := hx
  exact ⟨⟨by simp only []; omega, by simp only []; omega, by simp [zeroB]⟩, zeroB_ok⟩
theorem head_ok (gen : Int) : WrOk ⟨0, blockL gen []⟩ := ⟨⟨by simp, by simp, block_len (by simp)⟩, block_ok (fun x hx => by cases hx) (by simp)⟩
theorem openWs_ok {S : List (List Int)} (h : BlOk S) : DkOk S (openWs S) ∧ BkOk S (openWs S) := by
  refine dk_of h ?_ ?_
  · unfold openWs
    split
    · rw [List.length_cons, zerosW_len]; omega
    · split <;> simp
  · unfold openWs
    intro x hx
    rcases List.mem_cons.1 hx with rfl | hx
    · exact head_ok _
    · split at hx
      · exact zerosW_ok 127 (by omega) x hx
      · split at hx
        · simp only [List.mem_singleton] at hx
          subst hx
          exact ⟨⟨by simp only []; omega, by simp only []; omega, pageB_len _ _ _⟩, pageB_ok (fun y hy => (logBytes_ok h).1 y (List.mem_of_mem_take hy)) _ _⟩
        · cases hx
theorem nilC (w : World) : kB.C w none 0 [] := (Rp.Row_C (Rp.Row_nil rB 5 w)).2.2
theorem logGen_range {bs : List (List Int)} : 0 ≤ logGen bs ∧ logGen bs ≤ 1000000000 := by
  unfold logGen
  split
  · next h => have := h.1.2.2.1; unfold PgOk at this; omega
  · omega
theorem Own.st8 {w0 w w1 : World} {L : List Rs} {g t : Nat} {a b c d e f i j x y z u v r s q : Value} (h : Own w0 w (Rs.box g t #[a, b, c, d, e, f, i, j] :: L))
    (hw : (((((((w.setCell ⟨g, 0, none⟩ x).setCell ⟨g, 1, none⟩ y).setCell ⟨g, 2, none⟩ z).setCell ⟨g, 3, none⟩ u).setCell ⟨g, 4, none⟩ v).setCell ⟨g, 5, none⟩ r).setCell ⟨g, 6, none⟩ s).setCell ⟨g, 7, none⟩ q = w1) : Own w0 w1 (Rs.box g t #[x, y, z, u, v, r, s, q] :: L) :=
  hw ▸ (Own.st (j := 7) (u := q) (Own.st (j := 6) (u := s) (Own.st (j := 5) (u := r) (Own.st (j := 4) (u := v) (Own.st (j := 3) (u := u) (Own.st (j := 2) (u := z) (Own.st (j := 1) (u := y) (Own.st (j := 0) (u := x) h rfl #[x, b, c, d, e, f, i, j] rfl) rfl #[x, y, c, d, e, f, i, j] rfl) rfl #[x, y, z, d, e, f, i, j] rfl) rfl #[x, y, z, u, e, f, i, j] rfl) rfl #[x, y, z, u, v, f, i, j] rfl) rfl #[x, y, z, u, v, r, i, j] rfl) rfl #[x, y, z, u, v, r, s, j] rfl) rfl #[x, y, z, u, v, r, s, q] rfl)
abbrev zero8 : Array Value := #[.bool false, .bool false, .slice none 0 0, .int .i64 0, .int .i64 0, .int .i64 0, .slice none 0 0, .slice none 0 0]
set_option maxHeartbeats 8000000 in
set_option maxRecDepth 100000 in
theorem implOpen_yes (A0 A1 : Option Addr) (c0 c1 : Nat) (bs : List (List Int)) (ws : List Wr) (w : World) (hx : rBS.d.C w A0 bs.length bs) (hy : rW.d.C w A1 ws.length ws) (hd : DkOk bs ws) (hk : BkOk bs ws) :
    Calls Try.prog 37 #[.agg #[.slice A0 bs.length c0, .slice A1 ws.length c1]] w (GotOp (openL bs ws) w) := by
  obtain ⟨S, hS⟩ : ∃ S, S = settleL bs ws (kfL true []) := ⟨_, rfl⟩
  obtain ⟨N, hN⟩ : ∃ N, N = (foundL S).1 := ⟨_, rfl⟩
  obtain ⟨L, hL⟩ : ∃ L, L = (foundL S).2 := ⟨_, rfl⟩
  obtain ⟨Y, hY⟩ : ∃ Y, Y = (logBytes S).take L := ⟨_, rfl⟩
  obtain ⟨G, hG⟩ : ∃ G, G = logGen S := ⟨_, rfl⟩
  have hSok : BlOk S := hS ▸ sync_ok hd hk
  have hLb := logBytes_ok hSok
  have hLl : L ≤ 7112 ∧ Y.length = L := by
    have h2 := frames_len (logBytes S).length (logBytes S) hLb.1
    rw [hY, List.length_take, hL]; unfold foundL framesL; omega
  have hGr : 0 ≤ G ∧ G ≤ 1000000000 := hG ▸ logGen_range
  suffices H : ∀ Q : Ending → World → Prop, (∀ e w', GotOp (openS S) w e w' → Q e w') → Calls Try.prog 37 #[.agg #[.slice A0 bs.length c0, .slice A1 ws.length c1]] w Q from H _ (fun e w' h => by unfold openL syncL; rw [← hS]; exact h)
  intro Q hQ
  have HS := Aside0.mk hS; have HN := Aside0.mk hN; have HL := Aside0.mk hL; have HYb := Aside0.mk hY; have HG := Aside0.mk hG; have HSok := Aside0.mk hSok; have HQ := Aside0.mk hQ
  have HLl := Aside0.mk hLl
  have HX := Aside0.mk hx; have HY := Aside0.mk hy; have HD := Aside0.mk hd; have HK := Aside0.mk hk; clear hx hy hd hS hN hL hY hG hSok hQ hLb hLl hk
  go_enter Try.func37, Try.ntmps37
  go_upto_region 1 with (fail)
  generalize hw : World.alloc (World.alloc w _) _ = w1
  have O := Aside0.mk ((Own.nil w).of2 hw); clear hw
  have p0 := (blk_cell O.out.b1 0).trans rfl; have p1 := (blk_cell O.out.b1 1).trans rfl
  go_wp2_with fail
  refine (implDiskOk_c _ _ _ _ bs ws true ⟨fun _ => HD.out, fun _ => rfl⟩ _ (Kd.C_below HX.out O.out.bel) (Kd.C_below HY.out O.out.bel)).mono ?_
  rintro e w2 ⟨rfl, hb⟩
  replace O := Aside0.mk (O.out.below hb)
  clear p0 p1 hb
  have p0 := (blk_cell O.out.b1 0).trans rfl; have p1 := (blk_cell O.out.b1 1).trans rfl
  go_wp2_with fail
  refine (implSync_yes _ _ _ _ bs ws _ (Kd.C_below HX.out O.out.bel) (Kd.C_below HY.out O.out.bel) HD.out).mono ?_
  intro e w3 hg
  rw [← HS.out] at hg
  obtain ⟨v0, v1, rfl, k⟩ := own_disk hg
  replace O := Aside0.mk (O.out.app2 k); clear k hg p0 p1
  obtain ⟨B0, d0, rfl, hb0⟩ := O.out.f0
  obtain ⟨B1, d1, rfl, _⟩ := O.out.f1
  have HB0 := Aside0.mk hb0; clear hb0
  have p0 := (blk_cell O.out.b3 0).trans rfl; have p1 := (blk_cell O.out.b3 1).trans rfl
  have z0 := blk_frozen O.out.b3 0; have z1 := blk_frozen O.out.b3 1
  go_upto_region 4 with (fail)
  generalize hw : World.setCell _ _ _ = w4
  replace O := Aside0.mk (O.out.p3.st2 hw); clear hw p0 p1 z0 z1
  have p0 := (blk_cell O.out.b0 0).trans rfl
  go_wp2_with fail
  refine (found_c _ _ S _ O.out.c1 HB0.out HSok.out).mono ?_
  intro e w5 hg
  rw [← HN.out, ← HL.out, ← HG.out, ← HYb.out] at hg
  obtain ⟨vn, vb, rfl, k⟩ := hg
  replace O := Aside0.mk (O.out.app2 k); clear k p0
  obtain ⟨An, cn, rfl, _⟩ := O.out.f0
  obtain ⟨Ab, cb, rfl, hcb⟩ := O.out.f1
  have HCB := Aside0.mk hcb; clear hcb
  go_upto_region 5 with (fail)
  generalize hw : w5.alloc _ = w6
  replace O := Aside0.mk (O.out.of hw); clear hw
  generalize w5.heap.size = g3 at O ⊢
  have q3 := (blk_cell O.out.b0 3).trans rfl
  by_cases hmax : G = 1000000000
  · obtain ⟨hmA, _⟩ := eqT hmax
    have HM := Aside0.mk hmax; clear hmax
    have u0 := (blk_cell O.out.b6 0).trans rfl; have u1 := (blk_cell O.out.b6 1).trans rfl; have u2 := (blk_cell O.out.b6 2).trans rfl; have u3 := (blk_cell O.out.b6 3).trans rfl; have u4 := (blk_cell O.out.b6 4).trans rfl; have u5 := (blk_cell O.out.b6 5).trans rfl; have u6 := (blk_cell O.out.b6 6).trans rfl; have u7 := (blk_cell O.out.b6 7).trans rfl
    have z0 := blk_frozen O.out.b6 0; have z1 := blk_frozen O.out.b6 1; have z2 := blk_frozen O.out.b6 2; have z3 := blk_frozen O.out.b6 3; have z4 := blk_frozen O.out.b6 4; have z5 := blk_frozen O.out.b6 5; have z6 := blk_frozen O.out.b6 6; have z7 := blk_frozen O.out.b6 7
    go_wp2
    generalize hw : World.setCell _ _ _ = w7
    replace O := Aside0.mk (O.out.p6.st8 hw); clear hw
    refine bodyPost_ret (results_cell_row rfl _ _ (w.heap.size + 1) 61 _ (0, 0) _ rfl O.out.b0 Try.underlying61 rfl (by kernel_rfl)) rfl ?_
    refine HQ.out _ _ ?_
    unfold openS
    rw [if_pos (by rw [← HG.out]; exact HM.out)]
    exact ⟨_, _, _, rfl, (((O.out.only []).nilRow rW 147).nilRow rBS 22).nilRow rN 33⟩
  · obtain ⟨hmA, _⟩ := eqF hmax
    have HM := Aside0.mk hmax; clear hmax
    have hg1 : 0 ≤ G := hGr.1
    have hg2 : G ≤ 1000000000 := hGr.2
    go_upto_region 8 with fail
    clear q3
    rename_i K8 hK8
    have HK8 := Aside0.mk hK8; clear hK8
    obtain ⟨P0, hP0⟩ : ∃ P, P = blockL (G + 1) [] := ⟨_, rfl⟩
    have hPl : P0.length = 64 := by rw [hP0]; exact block_len (by simp)
    have HP0 := Aside0.mk hP0; have HPl := Aside0.mk hPl; clear hP0 hPl
    have p0 := (blk_cell O.out.b3 0).trans rfl; have p1 := (blk_cell O.out.b3 1).trans rfl
    refine sta (fun w' => w'.cell? ⟨w.heap.size, 0, none⟩ = some (.slice B0 S.length d0) ∧ w'.cell? ⟨w.heap.size, 1, none⟩ = some (.slice B1 0 d1)) [5] 6 ⟨p0, p1⟩ (fun hS => ?_)
    clear p0 p1
    replace O := Aside0.mk O.out.drew
    generalize w6.drew = wd at O hS ⊢
    refine pu 1 2 ?_
    refine pu 2 6 ?_
    refine tk 0 7 hS ?_
    refine on 3 15 (fun K hK => ?_)
    refine ca (implPageBlock_yes none 0 (G + 1) [] _ (nilC _) ⟨rfl, by omega, by have := HM.out; omega, by simp⟩) Try.func110 ?_
    intro e w7 hg
    rw [← HP0.out] at hg
    obtain ⟨v, rfl, k⟩ := own_row hg
    replace O := Aside0.mk (O.out.app1 k); clear k hg
    obtain ⟨A9, c9, rfl, _⟩ := O.out.f0
    refine ⟨_, rfl, nx hK ⟨(blk_cell O.out.b4 0).trans rfl, (blk_cell O.out.b4 1).trans rfl⟩ (fun hS => ?_)⟩
    clear hK K
    refine on 4 31 (fun K hK => ?_)
    refine ca (implPut_yes _ _ _ _ _ _ S [] 0 P0 _ O.out.c5 O.out.c6 O.out.c0 ⟨⟨HSok.out.1, by simp, fun b hb => (HSok.out.2 b hb).1, by simp⟩, by omega, by omega, HPl.out, by simp⟩) Try.func54 ?_
    intro e w8 hg
    rw [List.nil_append] at hg
    obtain ⟨W1, hW1⟩ : ∃ W1, W1 = [(⟨0, P0⟩ : Wr)] := ⟨_, rfl⟩
    rw [← hW1] at hg
    have HW1 := Aside0.mk hW1; clear hW1
    obtain ⟨v0, v1, rfl, k⟩ := own_disk hg
    replace O := Aside0.mk (O.out.app2 k); clear k hg
    obtain ⟨D0, e0, rfl, _⟩ := O.out.f0
    obtain ⟨D1, e1, rfl, _⟩ := O.out.f1
    refine ⟨_, rfl, nx hK ⟨(blk_cell O.out.b6 0).trans rfl, (blk_cell O.out.b6 1).trans rfl⟩ (fun hS => ?_)⟩
    clear hK K hS
    have u0 := (blk_cell O.out.b6 0).trans rfl; have u1 := (blk_cell O.out.b6 1).trans rfl
    have z0 := blk_frozen O.out.b6 0; have z1 := blk_frozen O.out.b6 1
    refine la 5 63 (fun K hK => ?_)
    refine st ?_
    generalize hw : World.setCell _ _ _ = w9
    replace O := Aside0.mk ((O.out.p6.st2 hw).p3.drop.p6.drop.p6.drop.p4.drop); clear hw
    refine nl hK (dn ?_)
    clear hK K u0 u1 z0 z1
    refine HK8.out _ _ ?_
    clear HK8 K8
    go_step
    obtain ⟨W2, hW2⟩ : ∃ W2, W2 = openWs S := ⟨_, rfl⟩
    have HW2 := Aside0.mk hW2; clear hW2
    go_cut [] from 6 (fun wc => ∃ v0 v1, Aside0 (Own w wc [Rs.box w.heap.size 43 #[v0, v1], Rs.row rBS 22 v0 S, Rs.row rW 147 v1 W2, Rs.box (w.heap.size + 1) 61 zero8]))
    case first =>
      have q3 := (blk_cell O.out.b3 3).trans rfl
      by_cases hG0 : G = 0
      · obtain ⟨hm0, _⟩ := eqT hG0
        have HG0 := Aside0.mk hG0; clear hG0
        go_wp2
        replace HW2 : Aside0 (W2 = W1 ++ zerosW 127) := ⟨by rw [HW2.out, HW1.out]; unfold openWs; rw [if_pos (by rw [← HG.out]; exact HG0.out), HP0.out, HG.out]; rfl⟩
        have HWl : Aside0 (W1.length = 1) := ⟨by rw [HW1.out]; rfl⟩
        have HWo : Aside0 (∀ x ∈ W1, WrOk x) := ⟨by rw [HW1.out]; intro x hx; simp only [List.mem_singleton] at hx; subst hx; rw [HP0.out]; exact head_ok _⟩
        go_loopg [6] 128 (fun m v6 wr => ∃ (i : Nat) (v0 v1 : Value), v6 = .int .i64 ((i : Int) + 1) ∧ Aside0 (i ≤ 127 ∧ 127 - i < m) ∧ Aside0 (Own w wr [Rs.box w.heap.size 43 #[v0, v1], Rs.row rBS 22 v0 S, Rs.row rW 147 v1 (W1 ++ zerosW i), Rs.box (w.heap.size + 1) 61 zero8]))
        case atStart => exact ⟨0, _, _, rfl, ⟨by omega⟩, ⟨by have := O.out.p3.drop.p3.drop; simpa [zerosW] using this⟩⟩
        case round =>
          clear O
          obtain ⟨i, v0, v1, rfl, HI, O⟩ := hrel
          obtain ⟨U, hU⟩ : ∃ U, U = W1 ++ zerosW i := ⟨_, rfl⟩
          rw [← hU] at O
          have HU := Aside0.mk hU; clear hU
          obtain ⟨D0, e0, rfl, _⟩ := O.out.f1
          obtain ⟨D1, e1, rfl, _⟩ := O.out.f2
          by_cases hi : i < 127
          · go_upto_region 13 with fail
            have p0 := (blk_cell O.out.b0 0).trans rfl; have p1 := (blk_cell O.out.b0 1).trans rfl
            refine sta (fun w' => w'.cell? ⟨w.heap.size, 0, none⟩ = some (.slice D0 S.length e0) ∧ w'.cell? ⟨w.heap.size, 1, none⟩ = some (.slice D1 U.length e1)) [4] 5 ⟨p0, p1⟩ (fun hS => ?_)
            clear p0 p1
            replace O := Aside0.mk O.out.drew
            generalize wr.drew = wd at O hS ⊢
            refine pu 1 2 ?_
            refine tk 0 3 hS ?_
            refine on 2 7 (fun K hK => ?_)
            refine Own.mk_row_step rB rfl 22 5 _ _ rfl 64 rfl rfl Try.underlying22 (.int .u8 0) 1 info5 rfl (by decide) (by omega) 0 (fun _ => ⟨rfl, rfl⟩) (by omega) (by omega) O.out ?_
            intro g w2 hO
            clear O hS
            have O : Aside0 (Own w w2 [Rs.row rB 5 (.slice (some ⟨g, 0, none⟩) 64 64) zeroB, Rs.box w.heap.size 43 #[.slice D0 S.length e0, .slice D1 U.length e1], Rs.row rBS 22 (.slice D0 S.length e0) S, Rs.row rW 147 (.slice D1 U.length e1) U, Rs.box (w.heap.size + 1) 61 zero8]) := ⟨hO⟩
            clear hO
            refine nx hK ⟨(blk_cell O.out.b1 0).trans rfl, (blk_cell O.out.b1 1).trans rfl⟩ (fun hS => ?_)
            clear hK K
            obtain ⟨Z, hZ⟩ : ∃ Z, Z = zeroB := ⟨_, rfl⟩
            have hZl : Z.length = 64 := by rw [hZ]; simp [zeroB]
            rw [← hZ] at O
            have HZ := Aside0.mk hZ; clear hZ
            obtain ⟨V, hV⟩ : ∃ V, V = U ++ [⟨(i : Int) + 1, Z⟩] := ⟨_, rfl⟩
            have HP : Aside0 (Calls Try.prog 54 #[.agg #[.slice D0 S.length e0, .slice D1 U.length e1], .int .i64 ((i : Int) + 1), .slice (some ⟨g, 0, none⟩) 64 64] w2 (GotDisk w2 S V)) := ⟨by
              have hdk := dk_of (ws := U) HSok.out (by rw [HU.out, List.length_append, HWl.out, zerosW_len]; omega) (fun x hx => by
                rw [HU.out] at hx
                rcases List.mem_append.1 hx with h | h
                · exact HWo.out x h
                · exact zerosW_ok i (by omega) x h)
              have h := implPut_yes D0 D1 (some ⟨g, 0, none⟩) e0 e1 64 S U ((i : Int) + 1) Z w2 O.out.c2 O.out.c3 O.out.c0 ⟨hdk.1, by omega, by omega, hZl, by rw [HU.out, List.length_append, HWl.out, zerosW_len]; omega⟩
              rw [hZl, ← hV] at h
              exact h⟩
            have HV := Aside0.mk hV; clear hV hZl
            refine on 3 15 (fun K hK => ?_)
            refine ca HP.out Try.func54 ?_
            clear HP
            intro e w4 hg
            obtain ⟨v0, v1, rfl, k2⟩ := own_disk hg
            replace O := Aside0.mk (O.out.app2 k2); clear k2 hg
            obtain ⟨F0, h0, rfl, _⟩ := O.out.f0
            obtain ⟨F1, h1, rfl, _⟩ := O.out.f1
            refine ⟨_, rfl, nx hK ⟨(blk_cell O.out.b3 0).trans rfl, (blk_cell O.out.b3 1).trans rfl⟩ (fun hS => ?_)⟩
            clear hK K hS
            have u0 := (blk_cell O.out.b3 0).trans rfl; have u1 := (blk_cell O.out.b3 1).trans rfl
            have z0 := blk_frozen O.out.b3 0; have z1 := blk_frozen O.out.b3 1
            refine la 4 31 (fun K hK => ?_)
            refine st ?_
            generalize hw : World.setCell _ _ _ = w5
            replace O := Aside0.mk ((O.out.p3.st2 hw).p3.drop.p3.drop.p3.drop); clear hw
            refine nl hK (dn ?_)
            clear hK K u0 u1 z0 z1
            go_wp2
            go_roundg (gk - 1)
            case measure => have := HI.out; omega
            case rel =>
              refine ⟨i + 1, _, _, ?_, ⟨by have := HI.out; omega⟩, ⟨by rw [zerosW_succ, ← List.append_assoc, ← HU.out, ← HZ.out, ← HV.out]; exact O.out⟩⟩
              first | rfl | (congr 1; omega)
          · go_wp2
            go_meet
            case rel =>
              have e : i = 127 := by have := HI.out; omega
              subst e
              exact ⟨_, _, ⟨by rw [HW2.out, ← HU.out]; exact O.out⟩⟩
      · obtain ⟨hm0, _⟩ := eqF hG0
        have HG0 := Aside0.mk hG0; clear hG0
        have q2 := (blk_cell O.out.b3 2).trans rfl
        have hLr := HLl.out.1
        go_upto_region 15 with fail
        obtain ⟨kq, hkq⟩ : ∃ kq : Nat, kq = L / 56 := ⟨_, rfl⟩
        have e56 : ((L : Int) / 56) = (kq : Int) := by omega
        rw [e56]
        have hkr : kq ≤ 127 := by omega
        have HKQ := Aside0.mk hkq; clear hkq e56 q2 q3
        by_cases hk1 : (kq : Int) + 1 < 128
        · replace HW2 : Aside0 (W2 = W1 ++ [⟨(kq : Int) + 1, pageB Y kq (G + 1)⟩]) := ⟨by
            rw [HW2.out, HW1.out]; unfold openWs
            rw [if_neg (by rw [← HG.out]; exact HG0.out), ← HL.out, ← HKQ.out, if_pos (by omega), HP0.out, HG.out, HYb.out]; rfl⟩
          have hYl : Y.length ≤ 100000 := by have := HLl.out.2; omega
          have hg3 := HM.out
          have p0 := (blk_cell O.out.b0 0).trans rfl; have p1 := (blk_cell O.out.b0 1).trans rfl
          go_wp2_with fail
          refine (lay_c _ _ _ _ _ _ S W1 Y kq (G + 1) _ O.out.c1 O.out.c2 O.out.c4 HCB.out (dk_of HSok.out (by rw [HW1.out]; simp) (by rw [HW1.out]; intro x hx; simp only [List.mem_singleton] at hx; subst hx; rw [HP0.out]; exact head_ok _)).1 (by rw [HW1.out]; simp) (by omega) (by omega) (by omega) hYl).mono ?_
          intro e w10 hg
          rw [← HW2.out] at hg
          obtain ⟨v0, v1, rfl, k⟩ := own_disk hg
          replace O := Aside0.mk (O.out.app2 k); clear k hg p0 p1
          obtain ⟨F0, h0, rfl, _⟩ := O.out.f0
          obtain ⟨F1, h1, rfl, _⟩ := O.out.f1
          have u0 := (blk_cell O.out.b2 0).trans rfl; have u1 := (blk_cell O.out.b2 1).trans rfl
          have z0 := blk_frozen O.out.b2 0; have z1 := blk_frozen O.out.b2 1
          go_wp2
          generalize hw : World.setCell _ _ _ = w11
          replace O := Aside0.mk ((O.out.p2.st2 hw).p3.drop.p3.drop.p3.drop.p3.drop); clear hw
          go_meet
          case rel => exact ⟨_, _, O⟩
        · replace HW2 : Aside0 (W2 = W1) := ⟨by
            rw [HW2.out, HW1.out]; unfold openWs
            rw [if_neg (by rw [← HG.out]; exact HG0.out), ← HL.out, ← HKQ.out, if_neg (by omega), HP0.out, HG.out]⟩
          go_wp2
          go_meet
          case rel => exact ⟨_, _, ⟨by rw [HW2.out]; exact O.out.p3.drop.p3.drop⟩⟩
    case rest =>
      clear O
      obtain ⟨v0, v1, O⟩ := hcut
      obtain ⟨D0, e0, rfl, he0⟩ := O.out.f1
      obtain ⟨D1, e1, rfl, _⟩ := O.out.f2
      have hok := openWs_ok HSok.out
      rw [← HW2.out] at hok
      have HOK := Aside0.mk hok; clear hok
      obtain ⟨D, hD⟩ : ∃ D, D = settleL S W2 (kfL true []) := ⟨_, rfl⟩
      have HDD := Aside0.mk hD; clear hD
      have p0 := (blk_cell O.out.b0 0).trans rfl; have p1 := (blk_cell O.out.b0 1).trans rfl
      go_wp2_with fail
      refine (implSync_yes _ _ _ _ S W2 _ O.out.c1 O.out.c2 HOK.out.1).mono ?_
      intro e w7 hg
      rw [← HDD.out] at hg
      obtain ⟨v0, v1, rfl, k⟩ := own_disk hg
      replace O := Aside0.mk (O.out.app2 k); clear k hg p0 p1
      obtain ⟨F0, h0, rfl, hf0⟩ := O.out.f0
      obtain ⟨F1, h1, rfl, _⟩ := O.out.f1
      have HF0 := Aside0.mk hf0; clear hf0 he0
      have u0 := (blk_cell O.out.b2 0).trans rfl; have u1 := (blk_cell O.out.b2 1).trans rfl
      have z0 := blk_frozen O.out.b2 0; have z1 := blk_frozen O.out.b2 1
      go_upto_region 18 with fail
      generalize hw : World.setCell _ _ _ = w8
      replace O := Aside0.mk ((O.out.p2.st2 hw).p3.drop.p3.drop); clear hw u0 u1 z0 z1
      have HDok : Aside0 (DkOk D [] ∧ BkOk D []) := ⟨by have h := sync_ok HOK.out.1 HOK.out.2; exact dk_of (by rw [HDD.out]; exact h) (by simp) (fun x hx => by cases hx)⟩
      obtain ⟨R, hR⟩ : ∃ R, R = scanL D [] := ⟨_, rfl⟩
      have HR := Aside0.mk hR; clear hR
      have p0 := (blk_cell O.out.b0 0).trans rfl; have p1 := (blk_cell O.out.b0 1).trans rfl
      refine sta (fun w' => w'.cell? ⟨w.heap.size, 0, none⟩ = some (.slice F0 D.length h0) ∧ w'.cell? ⟨w.heap.size, 1, none⟩ = some (.slice F1 0 h1)) [4] 5 ⟨p0, p1⟩ (fun hS => ?_)
      clear p0 p1
      replace O := Aside0.mk O.out.drew
      generalize w8.drew = wd at O hS ⊢
      refine tk 0 1 hS ?_
      refine tk 2 5 hS ?_
      refine on 1 7 (fun K hK => ?_)
      refine ca (implScan_yes _ _ _ _ D [] _ O.out.c1 O.out.c2 HF0.out HDok.out.1 HDok.out.2) Try.func72 ?_
      intro e w9 hg
      rw [← HR.out] at hg
      obtain ⟨vn, rfl, k⟩ := hg
      replace O := Aside0.mk (O.out.app1 k); clear k
      obtain ⟨An, cn, rfl, _⟩ := O.out.f0
      refine ⟨_, rfl, nx hK ⟨(blk_cell O.out.b1 0).trans rfl, (blk_cell O.out.b1 1).trans rfl⟩ (fun hS => ?_)⟩
      clear hK K hS
      refine pu 3 15 ?_
      have u0 := (blk_cell O.out.b4 0).trans rfl; have u1 := (blk_cell O.out.b4 1).trans rfl; have u2 := (blk_cell O.out.b4 2).trans rfl; have u3 := (blk_cell O.out.b4 3).trans rfl; have u4 := (blk_cell O.out.b4 4).trans rfl; have u5 := (blk_cell O.out.b4 5).trans rfl; have u6 := (blk_cell O.out.b4 6).trans rfl; have u7 := (blk_cell O.out.b4 7).trans rfl
      have z0 := blk_frozen O.out.b4 0; have z1 := blk_frozen O.out.b4 1; have z2 := blk_frozen O.out.b4 2; have z3 := blk_frozen O.out.b4 3; have z4 := blk_frozen O.out.b4 4; have z5 := blk_frozen O.out.b4 5; have z6 := blk_frozen O.out.b4 6; have z7 := blk_frozen O.out.b4 7
      refine la 4 31 (fun K hK => ?_)
      refine st ?_
      generalize hw : World.setCell _ _ _ = w10
      replace O := Aside0.mk (O.out.p4.st8 hw); clear hw
      refine nl hK (dn ?_)
      clear hK K u0 u1 u2 u3 u4 u5 u6 u7 z0 z1 z2 z3 z4 z5 z6 z7
      go_wp2
      refine bodyPost_ret (results_cell_row rfl _ _ (w.heap.size + 1) 61 _ (0, 0) _ rfl O.out.b0 Try.underlying61 rfl (by kernel_rfl)) rfl ?_
      refine HQ.out _ _ ?_
      unfold openS
      rw [if_neg (by rw [← HG.out]; exact HM.out), ← HW2.out]
      unfold syncL
      rw [← HDD.out, ← HR.out]
      exact ⟨_, _, _, rfl, O.out.drop.p1.drop.only [_, _, _]⟩
end Go.Proofs.Ytocdlibnmlcokaa
namespace Go.Proofs.Ytocdlibnmlcokaa
open Go.RowKit Go.Proofs.YtocdlibnmlcokaaW.PrintWords Go.Proofs.YtocdlibnmlcokaaW.PrintLast
set_option linter.unusedVariables false
set_option linter.unusedSimpArgs false
theorem sync_nil (S : List (List Int)) : settleL S [] (kfL true []) = S := rfl
theorem l3page_yes (A0 A1 A2 : Option Addr) (c0 c1 c2 : Nat) (bs : List (List Int)) (ws : List Wr) (X : List Int) (k : Nat) (gen : Int) (w : World) (hx : rBS.d.C w A0 bs.length bs) (hy : rW.d.C w A1 ws.length ws) (hz : kB.C w A2 X.length X) (hc : X.length ≤ c2)
    (hd : DkOk bs ws) (hw : ws.length < 200) (hk : k < 127) (hg : 1 ≤ gen) (hg2 : gen ≤ 1000000000) (hX : X.length ≤ 100000) :
    Calls Try.prog 134 #[.agg #[.slice A0 bs.length c0, .slice A1 ws.length c1], .slice A2 X.length c2, .int .i64 k, .int .i64 gen] w (GotDisk w bs (ws ++ [⟨k + 1, pageB X k gen⟩])) := by
  refine l3page_w A0 A1 A2 c0 c1 c2 bs bs ws _ X k gen w hx hy hz hc hk hg hg2 hX (fun A2 c2 w hx hy hz => ?_)
  have hl := pageB_len X k gen
  have h := specPut_yes A0 A1 A2 c0 c1 c2 bs ws (k + 1) (pageB X k gen) w hx hy (by rw [hl]; exact hz) ⟨hd, by omega, by omega, hl, hw⟩
  rw [hl] at h
  exact h
theorem l3page_no (A0 A1 A2 : Option Addr) (c0 c1 c2 : Nat) (bs : List (List Int)) (ws : List Wr) (X : List Int) (k : Nat) (gen : Int) (w : World) (hx : rBS.d.C w A0 bs.length bs) (hy : rW.d.C w A1 ws.length ws) (hz : kB.C w A2 X.length X) (hc : X.length ≤ c2)
    (hw : ¬ ws.length < 200) (hk : k < 127) (hg : 1 ≤ gen) (hg2 : gen ≤ 1000000000) (hX : X.length ≤ 100000) :
    Calls Try.prog 134 #[.agg #[.slice A0 bs.length c0, .slice A1 ws.length c1], .slice A2 X.length c2, .int .i64 k, .int .i64 gen] w (GotDisk w [] []) := by
  refine l3page_w A0 A1 A2 c0 c1 c2 bs [] ws [] X k gen w hx hy hz hc hk hg hg2 hX (fun A2 c2 w hx hy hz => ?_)
  have hl := pageB_len X k gen
  have h := specPut_no A0 A1 A2 c0 c1 c2 bs ws (k + 1) (pageB X k gen) w hx hy (fun h => hw h.2.2.2.2)
  rw [hl] at h
  exact h
set_option maxHeartbeats 8000000 in
set_option maxRecDepth 100000 in
theorem specOpen_yes (A0 A1 : Option Addr) (c0 c1 : Nat) (bs : List (List Int)) (ws : List Wr) (w : World) (hx : rBS.d.C w A0 bs.length bs) (hy : rW.d.C w A1 ws.length ws) (hd : DkOk bs ws) (hk : BkOk bs ws) :
    Calls Try.prog 81 #[.agg #[.slice A0 bs.length c0, .slice A1 ws.length c1]] w (GotOp (openL bs ws) w) := by
  obtain ⟨S, hS⟩ : ∃ S, S = settleL bs ws (kfL true []) := ⟨_, rfl⟩
  obtain ⟨N, hN⟩ : ∃ N, N = (foundL S).1 := ⟨_, rfl⟩
  obtain ⟨L, hL⟩ : ∃ L, L = (foundL S).2 := ⟨_, rfl⟩
  obtain ⟨Y, hY⟩ : ∃ Y, Y = (logBytes S).take L := ⟨_, rfl⟩
  obtain ⟨G, hG⟩ : ∃ G, G = logGen S := ⟨_, rfl⟩
  have hSok : BlOk S := hS ▸ sync_ok hd hk
  have hLb := logBytes_ok hSok
  have hLl : L ≤ 7112 ∧ Y.length = L := by
    have h2 := frames_len (logBytes S).length (logBytes S) hLb.1
    rw [hY, List.length_take, hL]; unfold foundL framesL; omega
  have hGr : 0 ≤ G ∧ G ≤ 1000000000 := hG ▸ logGen_range
  suffices H : ∀ Q : Ending → World → Prop, (∀ e w', GotOp (openS S) w e w' → Q e w') → Calls Try.prog 81 #[.agg #[.slice A0 bs.length c0, .slice A1 ws.length c1]] w Q from H _ (fun e w' h => by unfold openL syncL; rw [← hS]; exact h)
  intro Q hQ
  have HS := Aside0.mk hS; have HN := Aside0.mk hN; have HL := Aside0.mk hL; have HYb := Aside0.mk hY; have HG := Aside0.mk hG; have HSok := Aside0.mk hSok; have HQ := Aside0.mk hQ
  have HLl := Aside0.mk hLl
  have HX := Aside0.mk hx; have HY := Aside0.mk hy; have HD := Aside0.mk hd; have HK := Aside0.mk hk; clear hx hy hd hS hN hL hY hG hSok hQ hLb hLl hk
  go_enter Try.func81, Try.ntmps81
  go_upto_region 1 with (fail)
  generalize hw : World.alloc (World.alloc w _) _ = w1
  have O := Aside0.mk ((Own.nil w).of2 hw); clear hw
  have p0 := (blk_cell O.out.b1 0).trans rfl; have p1 := (blk_cell O.out.b1 1).trans rfl
  go_wp2_with fail
  refine (specDiskOk_c _ _ _ _ bs ws true ⟨fun _ => HD.out, fun _ => rfl⟩ _ (Kd.C_below HX.out O.out.bel) (Kd.C_below HY.out O.out.bel)).mono ?_
  rintro e w2 ⟨rfl, hb⟩
  replace O := Aside0.mk (O.out.below hb)
  clear p0 p1 hb
  have p0 := (blk_cell O.out.b1 0).trans rfl; have p1 := (blk_cell O.out.b1 1).trans rfl
  go_wp2_with fail
  refine (specSync_yes _ _ _ _ bs ws _ (Kd.C_below HX.out O.out.bel) (Kd.C_below HY.out O.out.bel) HD.out).mono ?_
  intro e w3 hg
  rw [← HS.out] at hg
  obtain ⟨v0, v1, rfl, k⟩ := own_disk hg
  replace O := Aside0.mk (O.out.app2 k); clear k hg p0 p1
  obtain ⟨B0, d0, rfl, hb0⟩ := O.out.f0
  obtain ⟨B1, d1, rfl, _⟩ := O.out.f1
  have HB0 := Aside0.mk hb0; clear hb0
  have p0 := (blk_cell O.out.b3 0).trans rfl; have p1 := (blk_cell O.out.b3 1).trans rfl
  have z0 := blk_frozen O.out.b3 0; have z1 := blk_frozen O.out.b3 1
  go_upto_region 4 with (fail)
  generalize hw : World.setCell _ _ _ = w4
  replace O := Aside0.mk (O.out.p3.st2 hw); clear hw p0 p1 z0 z1
  have p0 := (blk_cell O.out.b0 0).trans rfl; have p1 := (blk_cell O.out.b0 1).trans rfl
  go_wp2_with fail
  refine (specScan_yes _ _ _ _ S [] _ O.out.c1 O.out.c2 HB0.out (dk_of HSok.out (by simp) (fun x hx => by cases hx)).1 (dk_of (ws := []) HSok.out (by simp) (fun x hx => by cases hx)).2).mono ?_
  intro e w5 hg
  unfold scanL syncL at hg
  rw [sync_nil, ← HN.out, ← HL.out, ← HG.out] at hg
  generalize hsf : ((sameN N N : Nat) : Int) = sf at hg
  obtain ⟨vn, rfl, k⟩ := hg
  simp only at k
  replace O := Aside0.mk (O.out.app1 k); clear k p0 p1 hsf
  obtain ⟨An, cn, rfl, _⟩ := O.out.f0
  go_upto_region 5 with (fail)
  generalize hw : w5.alloc _ = w6
  replace O := Aside0.mk (O.out.of hw); clear hw
  generalize w5.heap.size = g3 at O ⊢
  replace O := Aside0.mk (O.out.nilRow rB 5).q2
  have q3 := (blk_cell O.out.b0 3).trans rfl
  by_cases hmax : G = 1000000000
  · obtain ⟨hmA, _⟩ := eqT hmax
    have HM := Aside0.mk hmax; clear hmax
    have u0 := (blk_cell O.out.b6 0).trans rfl; have u1 := (blk_cell O.out.b6 1).trans rfl; have u2 := (blk_cell O.out.b6 2).trans rfl; have u3 := (blk_cell O.out.b6 3).trans rfl; have u4 := (blk_cell O.out.b6 4).trans rfl; have u5 := (blk_cell O.out.b6 5).trans rfl; have u6 := (blk_cell O.out.b6 6).trans rfl; have u7 := (blk_cell O.out.b6 7).trans rfl
    have z0 := blk_frozen O.out.b6 0; have z1 := blk_frozen O.out.b6 1; have z2 := blk_frozen O.out.b6 2; have z3 := blk_frozen O.out.b6 3; have z4 := blk_frozen O.out.b6 4; have z5 := blk_frozen O.out.b6 5; have z6 := blk_frozen O.out.b6 6; have z7 := blk_frozen O.out.b6 7
    go_wp2
    generalize hw : World.setCell _ _ _ = w7
    replace O := Aside0.mk (O.out.p6.st8 hw); clear hw
    refine bodyPost_ret (results_cell_row rfl _ _ (w.heap.size + 1) 61 _ (0, 0) _ rfl O.out.b0 Try.underlying61 rfl (by kernel_rfl)) rfl ?_
    refine HQ.out _ _ ?_
    unfold openS
    rw [if_pos (by rw [← HG.out]; exact HM.out)]
    exact ⟨_, _, _, rfl, (((O.out.only []).nilRow rW 147).nilRow rBS 22).nilRow rN 33⟩
  · obtain ⟨hmA, _⟩ := eqF hmax
    have HM := Aside0.mk hmax; clear hmax
    have hg1 : 0 ≤ G := hGr.1
    have hg2 : G ≤ 1000000000 := hGr.2
    go_upto_region 7 with fail
    rename_i K8 hK8
    have HK8 := Aside0.mk hK8; clear hK8
    obtain ⟨P0, hP0⟩ : ∃ P, P = blockL (G + 1) [] := ⟨_, rfl⟩
    have hPl : P0.length = 64 := by rw [hP0]; exact block_len (by simp)
    have HP0 := Aside0.mk hP0; have HPl := Aside0.mk hPl; clear hP0 hPl
    have p0 := (blk_cell O.out.b3 0).trans rfl; have p1 := (blk_cell O.out.b3 1).trans rfl
    refine sta (fun w' => (w'.cell? ⟨w.heap.size, 0, none⟩ = some (.slice B0 S.length d0) ∧ w'.cell? ⟨w.heap.size, 1, none⟩ = some (.slice B1 0 d1)) ∧ w'.cell? ⟨g3, 3, none⟩ = some (.int .i64 G)) [7] 8 ⟨⟨p0, p1⟩, q3⟩ (fun hS => ?_)
    clear p0 p1 q3
    replace O := Aside0.mk O.out.drew
    generalize w6.drew = wd at O hS ⊢
    refine pu 1 2 ?_
    refine tk 2 6 hS ?_
    refine tk 0 7 hS ?_
    refine pu 3 15 ?_
    refine pu 4 31 ?_
    have ew : wrap64 (G + 1) = G + 1 := wrap_succ (by omega) (by omega)
    have HPB : Aside0 (∀ w : World, Calls Try.prog 132 #[.agg #[.bool true, .int .i64 (wrap64 (G + 1)), .slice none 0 0]] w (GotRow rB 5 w P0)) := ⟨fun w => by rw [ew, HP0.out]; exact specPageBlock_yes none 0 (G + 1) [] _ (nilC _) ⟨rfl, by omega, by have := HM.out; omega, by simp⟩⟩
    clear ew
    refine on 5 63 (fun K hK => ?_)
    refine ca (HPB.out _) Try.func132 ?_
    intro e w7 hg
    obtain ⟨v, rfl, k⟩ := own_row hg
    replace O := Aside0.mk (O.out.app1 k); clear k hg
    obtain ⟨A9, c9, rfl, _⟩ := O.out.f0
    refine ⟨_, rfl, nx hK ⟨⟨(blk_cell O.out.b4 0).trans rfl, (blk_cell O.out.b4 1).trans rfl⟩, (blk_cell O.out.b1 3).trans rfl⟩ (fun hS => ?_)⟩
    clear hK K HPB
    refine on 6 127 (fun K hK => ?_)
    refine ca (specPut_yes _ _ _ _ _ _ S [] 0 P0 _ O.out.c5 O.out.c6 O.out.c0 ⟨⟨HSok.out.1, by simp, fun b hb => (HSok.out.2 b hb).1, by simp⟩, by omega, by omega, HPl.out, by simp⟩) Try.func51 ?_
    intro e w8 hg
    rw [List.nil_append] at hg
    obtain ⟨W1, hW1⟩ : ∃ W1, W1 = [(⟨0, P0⟩ : Wr)] := ⟨_, rfl⟩
    rw [← hW1] at hg
    have HW1 := Aside0.mk hW1; clear hW1
    obtain ⟨v0, v1, rfl, k⟩ := own_disk hg
    replace O := Aside0.mk (O.out.app2 k); clear k hg
    obtain ⟨D0, e0, rfl, he0⟩ := O.out.f0
    obtain ⟨D1, e1, rfl, _⟩ := O.out.f1
    refine ⟨_, rfl, nx hK ⟨⟨(blk_cell O.out.b6 0).trans rfl, (blk_cell O.out.b6 1).trans rfl⟩, (blk_cell O.out.b3 3).trans rfl⟩ (fun hS => ?_)⟩
    clear hK K hS
    have u0 := (blk_cell O.out.b6 0).trans rfl; have u1 := (blk_cell O.out.b6 1).trans rfl
    have z0 := blk_frozen O.out.b6 0; have z1 := blk_frozen O.out.b6 1
    refine la 7 255 (fun K hK => ?_)
    refine st ?_
    generalize hw : World.setCell _ _ _ = w9
    replace O := Aside0.mk ((O.out.p6.st2 hw).p3.drop.p6.drop.p6.drop.p4.drop); clear hw
    refine nl hK (dn ?_)
    clear hK K u0 u1 z0 z1
    refine HK8.out _ _ ?_
    clear HK8 K8
    go_step
    obtain ⟨W2, hW2⟩ : ∃ W2, W2 = openWs S := ⟨_, rfl⟩
    have HW2 := Aside0.mk hW2; clear hW2
    go_cut [] from 4 (fun wc => ∃ v0 v1, Aside0 (Own w wc [Rs.box w.heap.size 43 #[v0, v1], Rs.row rBS 22 v0 S, Rs.row rW 147 v1 W2, Rs.box (w.heap.size + 1) 61 zero8]))
    case first =>
      have q3 := (blk_cell O.out.b3 3).trans rfl
      by_cases hG0 : G = 0
      · obtain ⟨hm0, _⟩ := eqT hG0
        have HG0 := Aside0.mk hG0; clear hG0
        go_wp2
        replace HW2 : Aside0 (W2 = W1 ++ zerosW 127) := ⟨by rw [HW2.out, HW1.out]; unfold openWs; rw [if_pos (by rw [← HG.out]; exact HG0.out), HP0.out, HG.out]; rfl⟩
        have HWl : Aside0 (W1.length = 1) := ⟨by rw [HW1.out]; rfl⟩
        have HWo : Aside0 (∀ x ∈ W1, WrOk x) := ⟨by rw [HW1.out]; intro x hx; simp only [List.mem_singleton] at hx; subst hx; rw [HP0.out]; exact head_ok _⟩
        go_loopg [4] 128 (fun m v4 wr => ∃ (i : Nat) (v0 v1 : Value), v4 = .int .i64 (i : Int) ∧ Aside0 (i ≤ 127 ∧ 127 - i < m) ∧ Aside0 (Own w wr [Rs.box w.heap.size 43 #[v0, v1], Rs.row rBS 22 v0 S, Rs.row rW 147 v1 (W1 ++ zerosW i), Rs.box (w.heap.size + 1) 61 zero8]))
        case atStart => exact ⟨0, _, _, rfl, ⟨by omega⟩, ⟨by have := O.out.p3.drop.p3.drop; simpa [zerosW] using this⟩⟩
        case round =>
          clear O
          obtain ⟨i, v0, v1, rfl, HI, O⟩ := hrel
          obtain ⟨U, hU⟩ : ∃ U, U = W1 ++ zerosW i := ⟨_, rfl⟩
          rw [← hU] at O
          have HU := Aside0.mk hU; clear hU
          obtain ⟨D0, e0, rfl, _⟩ := O.out.f1
          obtain ⟨D1, e1, rfl, _⟩ := O.out.f2
          have hi2 : i ≤ 127 := HI.out.1
          by_cases hi : i < 127
          · go_upto_region 12 with fail
            have p0 := (blk_cell O.out.b0 0).trans rfl; have p1 := (blk_cell O.out.b0 1).trans rfl
            refine sta (fun w' => w'.cell? ⟨w.heap.size, 0, none⟩ = some (.slice D0 S.length e0) ∧ w'.cell? ⟨w.heap.size, 1, none⟩ = some (.slice D1 U.length e1)) [5] 6 ⟨p0, p1⟩ (fun hS => ?_)
            clear p0 p1
            replace O := Aside0.mk O.out.drew
            generalize wr.drew = wd at O hS ⊢
            refine pu 1 2 ?_
            refine pu 2 6 ?_
            refine tk 0 7 hS ?_
            refine on 3 15 (fun K hK => ?_)
            refine Own.mk_row_step rB rfl 22 5 _ _ rfl 64 rfl rfl Try.underlying22 (.int .u8 0) 1 info5 rfl (by decide) (by omega) 0 (fun _ => ⟨rfl, rfl⟩) (by omega) (by omega) O.out ?_
            intro g w2 hO
            clear O hS
            have O : Aside0 (Own w w2 [Rs.row rB 5 (.slice (some ⟨g, 0, none⟩) 64 64) zeroB, Rs.box w.heap.size 43 #[.slice D0 S.length e0, .slice D1 U.length e1], Rs.row rBS 22 (.slice D0 S.length e0) S, Rs.row rW 147 (.slice D1 U.length e1) U, Rs.box (w.heap.size + 1) 61 zero8]) := ⟨hO⟩
            clear hO
            refine nx hK ⟨(blk_cell O.out.b1 0).trans rfl, (blk_cell O.out.b1 1).trans rfl⟩ (fun hS => ?_)
            clear hK K
            obtain ⟨Z, hZ⟩ : ∃ Z, Z = zeroB := ⟨_, rfl⟩
            have hZl : Z.length = 64 := by rw [hZ]; simp [zeroB]
            rw [← hZ] at O
            have HZ := Aside0.mk hZ; clear hZ
            obtain ⟨V, hV⟩ : ∃ V, V = U ++ [⟨(i : Int) + 1, Z⟩] := ⟨_, rfl⟩
            have HP : Aside0 (Calls Try.prog 51 #[.agg #[.slice D0 S.length e0, .slice D1 U.length e1], .int .i64 (wrap64 ((i : Int) + 1)), .slice (some ⟨g, 0, none⟩) 64 64] w2 (GotDisk w2 S V)) := ⟨by
              have hdk := dk_of (ws := U) HSok.out (by rw [HU.out, List.length_append, HWl.out, zerosW_len]; omega) (fun x hx => by
                rw [HU.out] at hx
                rcases List.mem_append.1 hx with h | h
                · exact HWo.out x h
                · exact zerosW_ok i (by omega) x h)
              rw [wrap_succ (by omega) (by omega)]
              have h := specPut_yes D0 D1 (some ⟨g, 0, none⟩) e0 e1 64 S U ((i : Int) + 1) Z w2 O.out.c2 O.out.c3 O.out.c0 ⟨hdk.1, by omega, by omega, hZl, by rw [HU.out, List.length_append, HWl.out, zerosW_len]; omega⟩
              rw [hZl, ← hV] at h
              exact h⟩
            have HV := Aside0.mk hV; clear hV hZl
            refine on 4 31 (fun K hK => ?_)
            refine ca HP.out Try.func51 ?_
            clear HP
            intro e w4 hg
            obtain ⟨v0, v1, rfl, k2⟩ := own_disk hg
            replace O := Aside0.mk (O.out.app2 k2); clear k2 hg
            obtain ⟨F0, h0, rfl, _⟩ := O.out.f0
            obtain ⟨F1, h1, rfl, _⟩ := O.out.f1
            refine ⟨_, rfl, nx hK ⟨(blk_cell O.out.b3 0).trans rfl, (blk_cell O.out.b3 1).trans rfl⟩ (fun hS => ?_)⟩
            clear hK K hS
            have u0 := (blk_cell O.out.b3 0).trans rfl; have u1 := (blk_cell O.out.b3 1).trans rfl
            have z0 := blk_frozen O.out.b3 0; have z1 := blk_frozen O.out.b3 1
            refine la 5 63 (fun K hK => ?_)
            refine st ?_
            generalize hw : World.setCell _ _ _ = w5
            replace O := Aside0.mk ((O.out.p3.st2 hw).p3.drop.p3.drop.p3.drop); clear hw
            refine nl hK (dn ?_)
            clear hK K u0 u1 z0 z1
            go_wp2
            go_roundg (gk - 1)
            case measure => have := HI.out; omega
            case rel =>
              refine ⟨i + 1, _, _, ?_, ⟨by have := HI.out; omega⟩, ⟨by rw [zerosW_succ, ← List.append_assoc, ← HU.out, ← HZ.out, ← HV.out]; exact O.out⟩⟩
              first | rfl | (congr 1; omega)
          · go_wp2
            go_meet
            case rel =>
              have e : i = 127 := by have := HI.out; omega
              subst e
              exact ⟨_, _, ⟨by rw [HW2.out, ← HU.out]; exact O.out⟩⟩
      · obtain ⟨hm0, _⟩ := eqF hG0
        have HG0 := Aside0.mk hG0; clear hG0
        have q2 := (blk_cell O.out.b3 2).trans rfl
        have hLr := HLl.out.1
        obtain ⟨kq, hkq⟩ : ∃ kq : Nat, kq = L / 56 := ⟨_, rfl⟩
        have hkr : kq ≤ 127 := by omega
        have e56 : ((L : Int) / 56) = (kq : Int) := by omega
        have HKQ := Aside0.mk hkq; have E56 := Aside0.mk e56; clear hkq e56
        by_cases hk1 : (L : Int) / 56 + 1 < 128
        · go_upto_region 14 with fail
          replace HW2 : Aside0 (W2 = W1 ++ [⟨(kq : Int) + 1, pageB Y kq (G + 1)⟩]) := ⟨by
            have := E56.out
            rw [HW2.out, HW1.out]; unfold openWs
            rw [if_neg (by rw [← HG.out]; exact HG0.out), ← HL.out, ← HKQ.out, if_pos (by omega), HP0.out, HG.out, HYb.out]; rfl⟩
          have HB := Aside0.mk (show S.length ≤ e0 from he0)
          have p0 := (blk_cell O.out.b0 0).trans rfl
          clear q2 q3
          go_wp2_with fail
          refine (l3bytes_c _ _ S _ O.out.c1 HB.out HSok.out).mono ?_
          intro e w10 hg
          obtain ⟨X, hX⟩ : ∃ X, X = logBytes S := ⟨_, rfl⟩
          rw [← hX, ← HG.out] at hg
          rw [← hX] at HYb
          clear hX
          obtain ⟨vb, rfl, k⟩ := own_by hg
          replace O := Aside0.mk (O.out.app1 k); clear k hg p0
          obtain ⟨Ab, cb, rfl, hcb⟩ := O.out.f0
          have hLX : L ≤ X.length := by have := HLl.out.2; rw [HYb.out, List.length_take] at this; omega
          go_upto_region 15 with fail
          have hto := to_c (A := Ab) (c := cb) L hLX hcb
          have HCB := Aside0.mk hcb; clear hcb
          have p0 := (blk_cell O.out.b1 0).trans rfl; have p1 := (blk_cell O.out.b1 1).trans rfl
          have q2 := (blk_cell O.out.b4 2).trans rfl; have q3 := (blk_cell O.out.b4 3).trans rfl
          refine sta (fun w' => (w'.cell? ⟨w.heap.size, 0, none⟩ = some (.slice D0 S.length e0) ∧ w'.cell? ⟨w.heap.size, 1, none⟩ = some (.slice D1 W1.length e1)) ∧ (w'.cell? ⟨g3, 2, none⟩ = some (.int .i64 L) ∧ w'.cell? ⟨g3, 3, none⟩ = some (.int .i64 G))) [12] 13 ⟨⟨p0, p1⟩, ⟨q2, q3⟩⟩ (fun hS => ?_)
          clear p0 p1 q2 q3
          replace O := Aside0.mk O.out.drew
          generalize w10.drew = wd at O hS ⊢
          refine pu 1 2 ?_
          refine pu 2 6 ?_
          refine pu 5 38 ?_
          refine pu 8 294 ?_
          refine tk 0 295 hS ?_
          refine tk 3 303 hS ?_
          refine pu 4 319 ?_
          refine tk 6 383 hS ?_
          refine tk 9 895 hS ?_
          refine pu 7 1023 ?_
          refine pu 10 2047 ?_
          clear hto
          have HP : Aside0 (Calls Try.prog 134 #[.agg #[.slice D0 S.length e0, .slice D1 W1.length e1], .slice Ab L cb, .int .i64 (wrap64 ((L : Int) / 56)), .int .i64 (wrap64 (G + 1))] wd (GotDisk wd S W2)) := ⟨by
            have hg3 := HM.out
            have hC := (O.out.take_row hLX).c0
            have hYl := HLl.out.2
            rw [← HYb.out, hYl] at hC
            rw [wrap_succ (by omega) (by omega), show wrap64 ((L : Int) / 56) = (kq : Int) by rw [E56.out]; unfold wrap64; omega, HW2.out]
            have h := l3page_yes D0 D1 Ab e0 e1 cb S W1 Y kq (G + 1) wd O.out.c2 O.out.c3 (by rw [hYl]; exact hC) (by have := HCB.out; omega) (dk_of HSok.out (by rw [HW1.out]; simp) (by rw [HW1.out]; intro x hx; simp only [List.mem_singleton] at hx; subst hx; rw [HP0.out]; exact head_ok _)).1 (by rw [HW1.out]; simp) (by have := E56.out; omega) (by omega) (by omega) (by omega)
            rw [hYl] at h
            exact h⟩
          refine on 11 4095 (fun K hK => ?_)
          refine ca HP.out Try.func134 ?_
          clear HP
          intro e w11 hg
          obtain ⟨v0, v1, rfl, k⟩ := own_disk hg
          replace O := Aside0.mk (O.out.app2 k); clear k hg
          obtain ⟨F0, h0, rfl, _⟩ := O.out.f0
          obtain ⟨F1, h1, rfl, _⟩ := O.out.f1
          refine ⟨_, rfl, nx hK ⟨⟨(blk_cell O.out.b3 0).trans rfl, (blk_cell O.out.b3 1).trans rfl⟩, ⟨(blk_cell O.out.b6 2).trans rfl, (blk_cell O.out.b6 3).trans rfl⟩⟩ (fun hS => ?_)⟩
          clear hK K hS
          have u0 := (blk_cell O.out.b3 0).trans rfl; have u1 := (blk_cell O.out.b3 1).trans rfl
          have z0 := blk_frozen O.out.b3 0; have z1 := blk_frozen O.out.b3 1
          refine la 12 8191 (fun K hK => ?_)
          refine st ?_
          generalize hw : World.setCell _ _ _ = w12
          replace O := Aside0.mk ((O.out.p3.st2 hw).p3.drop.p3.drop.p3.drop.p3.drop.p3.drop); clear hw
          refine nl hK (dn ?_)
          clear hK K u0 u1 z0 z1
          go_wp2
          go_meet
          case rel => exact ⟨_, _, O⟩
        · replace HW2 : Aside0 (W2 = W1) := ⟨by
            have := E56.out
            rw [HW2.out, HW1.out]; unfold openWs
            rw [if_neg (by rw [← HG.out]; exact HG0.out), ← HL.out, ← HKQ.out, if_neg (by omega), HP0.out, HG.out]⟩
          go_wp2
          go_meet
          case rel => exact ⟨_, _, ⟨by rw [HW2.out]; exact O.out.p3.drop.p3.drop⟩⟩
    case rest =>
      clear O
      obtain ⟨v0, v1, O⟩ := hcut
      obtain ⟨D0, e0, rfl, he0⟩ := O.out.f1
      obtain ⟨D1, e1, rfl, _⟩ := O.out.f2
      have hok := openWs_ok HSok.out
      rw [← HW2.out] at hok
      have HOK := Aside0.mk hok; clear hok
      obtain ⟨D, hD⟩ : ∃ D, D = settleL S W2 (kfL true []) := ⟨_, rfl⟩
      have HDD := Aside0.mk hD; clear hD
      have p0 := (blk_cell O.out.b0 0).trans rfl; have p1 := (blk_cell O.out.b0 1).trans rfl
      go_wp2_with fail
      refine (specSync_yes _ _ _ _ S W2 _ O.out.c1 O.out.c2 HOK.out.1).mono ?_
      intro e w7 hg
      rw [← HDD.out] at hg
      obtain ⟨v0, v1, rfl, k⟩ := own_disk hg
      replace O := Aside0.mk (O.out.app2 k); clear k hg p0 p1
      obtain ⟨F0, h0, rfl, hf0⟩ := O.out.f0
      obtain ⟨F1, h1, rfl, _⟩ := O.out.f1
      have HF0 := Aside0.mk hf0; clear hf0 he0
      have u0 := (blk_cell O.out.b2 0).trans rfl; have u1 := (blk_cell O.out.b2 1).trans rfl
      have z0 := blk_frozen O.out.b2 0; have z1 := blk_frozen O.out.b2 1
      go_upto_region 17 with fail
      generalize hw : World.setCell _ _ _ = w8
      replace O := Aside0.mk ((O.out.p2.st2 hw).p3.drop.p3.drop); clear hw u0 u1 z0 z1
      have HDok : Aside0 (DkOk D [] ∧ BkOk D []) := ⟨by have h := sync_ok HOK.out.1 HOK.out.2; exact dk_of (by rw [HDD.out]; exact h) (by simp) (fun x hx => by cases hx)⟩
      obtain ⟨R, hR⟩ : ∃ R, R = scanL D [] := ⟨_, rfl⟩
      have HR := Aside0.mk hR; clear hR
      have p0 := (blk_cell O.out.b0 0).trans rfl; have p1 := (blk_cell O.out.b0 1).trans rfl
      refine sta (fun w' => w'.cell? ⟨w.heap.size, 0, none⟩ = some (.slice F0 D.length h0) ∧ w'.cell? ⟨w.heap.size, 1, none⟩ = some (.slice F1 0 h1)) [4] 5 ⟨p0, p1⟩ (fun hS => ?_)
      clear p0 p1
      replace O := Aside0.mk O.out.drew
      generalize w8.drew = wd at O hS ⊢
      refine tk 0 1 hS ?_
      refine tk 2 5 hS ?_
      refine on 1 7 (fun K hK => ?_)
      refine ca (specScan_yes _ _ _ _ D [] _ O.out.c1 O.out.c2 HF0.out HDok.out.1 HDok.out.2) Try.func73 ?_
      intro e w9 hg
      rw [← HR.out] at hg
      obtain ⟨vn, rfl, k⟩ := hg
      replace O := Aside0.mk (O.out.app1 k); clear k
      obtain ⟨An, cn, rfl, _⟩ := O.out.f0
      refine ⟨_, rfl, nx hK ⟨(blk_cell O.out.b1 0).trans rfl, (blk_cell O.out.b1 1).trans rfl⟩ (fun hS => ?_)⟩
      clear hK K hS
      refine pu 3 15 ?_
      have u0 := (blk_cell O.out.b4 0).trans rfl; have u1 := (blk_cell O.out.b4 1).trans rfl; have u2 := (blk_cell O.out.b4 2).trans rfl; have u3 := (blk_cell O.out.b4 3).trans rfl; have u4 := (blk_cell O.out.b4 4).trans rfl; have u5 := (blk_cell O.out.b4 5).trans rfl; have u6 := (blk_cell O.out.b4 6).trans rfl; have u7 := (blk_cell O.out.b4 7).trans rfl
      have z0 := blk_frozen O.out.b4 0; have z1 := blk_frozen O.out.b4 1; have z2 := blk_frozen O.out.b4 2; have z3 := blk_frozen O.out.b4 3; have z4 := blk_frozen O.out.b4 4; have z5 := blk_frozen O.out.b4 5; have z6 := blk_frozen O.out.b4 6; have z7 := blk_frozen O.out.b4 7
      refine la 4 31 (fun K hK => ?_)
      refine st ?_
      generalize hw : World.setCell _ _ _ = w10
      replace O := Aside0.mk (O.out.p4.st8 hw); clear hw
      refine nl hK (dn ?_)
      clear hK K u0 u1 u2 u3 u4 u5 u6 u7 z0 z1 z2 z3 z4 z5 z6 z7
      go_wp2
      refine bodyPost_ret (results_cell_row rfl _ _ (w.heap.size + 1) 61 _ (0, 0) _ rfl O.out.b0 Try.underlying61 rfl (by kernel_rfl)) rfl ?_
      refine HQ.out _ _ ?_
      unfold openS
      rw [if_neg (by rw [← HG.out]; exact HM.out), ← HW2.out]
      unfold syncL
      rw [← HDD.out, ← HR.out]
      exact ⟨_, _, _, rfl, O.out.drop.p1.drop.only [_, _, _]⟩
end Go.Proofs.Ytocdlibnmlcokaa
namespace Go.Proofs.Ytocdlibnmlcokaa
open Go.RowKit Go.Proofs.YtocdlibnmlcokaaW.PrintWords Go.Proofs.YtocdlibnmlcokaaW.PrintLast
attribute [local go_sem high] eqN33
set_option linter.unusedVariables false
set_option linter.unusedSimpArgs false
theorem eqTn {a b : Nat} (h : a = b) : (a == b) = true ∧ (a != b) = false := by simp [h]
theorem eqFn {a b : Nat} (h : ¬ a = b) : (a == b) = false ∧ (a != b) = true := by simp [h]
set_option maxHeartbeats 8000000 in
set_option maxRecDepth 100000 in
theorem sameLog_c (A B : Option Addr) (c d : Nat) (ok ok' : Bool) (xs ys : List Nt) (len len' gen gen' safe safe' : Int) (b : Bool) (hb : b = true ↔ (⟨ok, xs, len, gen, safe⟩ : Lg) = ⟨ok', ys, len', gen', safe'⟩) (w : World) (hx : rN.d.C w A xs.length xs) (hy : rN.d.C w B ys.length ys) :
    Calls Try.prog 150 #[.agg #[.bool ok, .slice A xs.length c, .int .i64 len, .int .i64 gen, .int .i64 safe], .agg #[.bool ok', .slice B ys.length d, .int .i64 len', .int .i64 gen', .int .i64 safe']] w (YesNo b w) := by
  have hlx : xs.length ≤ 9223372036854775807 := hx.2.1
  have hly : ys.length ≤ 9223372036854775807 := hy.2.1
  have HX := Aside0.mk hx; have HY := Aside0.mk hy; have HBB := Aside0.mk hb; clear hx hy hb
  go_enter Try.func150, Try.ntmps150
  go_upto_region 1 with (fail)
  generalize hw : World.alloc (World.alloc w _) _ = w1
  have O := Aside0.mk ((Own.nil w).of2 hw); clear hw
  have p0 := (blk_cell O.out.b1 0).trans rfl; have p1 := (blk_cell O.out.b1 1).trans rfl; have p2 := (blk_cell O.out.b1 2).trans rfl; have p3 := (blk_cell O.out.b1 3).trans rfl; have p4 := (blk_cell O.out.b1 4).trans rfl
  have q0 := (blk_cell O.out.b0 0).trans rfl; have q1 := (blk_cell O.out.b0 1).trans rfl; have q2 := (blk_cell O.out.b0 2).trans rfl; have q3 := (blk_cell O.out.b0 3).trans rfl; have q4 := (blk_cell O.out.b0 4).trans rfl
  have no : ∀ (P : Prop), ¬ P → (∀ h : (⟨ok, xs, len, gen, safe⟩ : Lg) = ⟨ok', ys, len', gen', safe'⟩, P) → Aside0 (b = false) := fun P hn hp => ⟨not_b HBB.out (fun h => hn (hp h))⟩
  have NO := Aside0.mk no; clear no
  by_cases h0 : ok = ok'
  · subst h0
    have E0 : (ok != ok) = false := by cases ok <;> rfl
    by_cases h2 : len = len'
    · obtain ⟨_, E2⟩ := eqT h2
      by_cases h3 : gen = gen'
      · obtain ⟨_, E3⟩ := eqT h3
        by_cases h4 : safe = safe'
        · obtain ⟨_, E4⟩ := eqT h4
          by_cases h1 : xs.length = ys.length
          · obtain ⟨_, E1⟩ := eqTn h1
            have hiff : Aside0 (b = true ↔ xs = ys) := ⟨HBB.out.trans ⟨fun h => by injection h, fun h => by subst h; subst h2; subst h3; subst h4; rfl⟩⟩
            have H1 := Aside0.mk h1
            clear h1 h2 h3 h4 NO HBB
            go_wp2
            clear E0 E1 E2 E3 E4 p0 p1 p2 p3 p4 q0 q1 q2 q3 q4
            go_loopg [44] xs.length (fun m v wr => ∃ i : Nat, v = .int .i64 i ∧ Aside0 (i ≤ xs.length ∧ xs.length - i ≤ m ∧ xs.take i = ys.take i) ∧ Aside0 (Own w wr [Rs.box (w.heap.size + 1) 59 #[.bool ok, .slice B ys.length d, .int .i64 len', .int .i64 gen', .int .i64 safe'], Rs.box w.heap.size 59 #[.bool ok, .slice A xs.length c, .int .i64 len, .int .i64 gen, .int .i64 safe]]))
            case atStart => exact ⟨0, rfl, ⟨by simp⟩, O⟩
            case round =>
              clear O
              obtain ⟨i, rfl, HI, O⟩ := hrel
              by_cases hi : i < xs.length
              · have hi2 : i < ys.length := by have := H1.out; omega
                obtain ⟨ad, e1, a0, a1, a2, a3, a4⟩ := at_N (Kd.C_below HX.out O.out.bel) (i : Int) (by omega) (by omega)
                obtain ⟨ad', e2, b0, b1, b2, b3, b4⟩ := at_N (Kd.C_below HY.out O.out.bel) (i : Int) (by omega) (by omega)
                cases e1; cases e2
                simp only [Int.toNat_natCast] at a0 a1 a2 a3 a4 b0 b1 b2 b3 b4
                have p1 := (blk_cell O.out.b1 1).trans rfl; have q1 := (blk_cell O.out.b0 1).trans rfl
                go_wp2
                go_quiet (fail)
                clear a0 a1 a2 a3 a4 b0 b1 b2 b3 b4 p1 q1
                replace O := Aside0.mk (O.out.drewN nq)
                generalize wr.drewN nq = wd at O ⊢
                generalize hb : decide (gN xs ↑i = gN ys ↑i) = bb
                have HBQ := Aside0.mk hb; clear hb
                cases bb with
                | true =>
                  have he : xs[i] = ys[i] := by have := of_decide_eq_true HBQ.out; rwa [gN_eq (by omega), gN_eq (by omega)] at this
                  have HE := Aside0.mk he; clear he
                  go_wp2
                  go_roundg (gk - 1)
                  case measure => have := HI.out; omega
                  case rel => exact ⟨i + 1, by first | rfl | (congr 1; omega), ⟨by omega, by have := HI.out; omega, take_succ_eq (by omega) (by omega) HI.out.2.2 HE.out⟩, O⟩
                | false =>
                  have he : ¬ xs[i] = ys[i] := by have := of_decide_eq_false HBQ.out; rwa [gN_eq (by omega), gN_eq (by omega)] at this
                  have NB : Aside0 (b = false) := ⟨not_b hiff.out (fun h => he (by subst h; rfl))⟩
                  clear he
                  go_wp2
                  go_ret
                  exact ⟨by rw [NB.out]; rfl, O.out.bel⟩
              · go_wp2
                go_ret
                have hxy : xs = ys := by
                  have h2 := HI.out; have h3 := H1.out
                  have : xs.take xs.length = ys.take ys.length := by have e : i = xs.length := by omega
                                                                     rw [← h3, ← e]; exact h2.2.2
                  simpa using this
                exact ⟨by rw [hiff.out.2 hxy]; rfl, O.out.bel⟩
          · obtain ⟨_, E1⟩ := eqFn h1
            have NB := NO.out _ h1 (fun h => by injection h with _ h; rw [h])
            clear h1 h2 h3 h4 NO HBB
            go_wp2
            go_ret
            exact ⟨by rw [NB.out]; rfl, O.out.bel⟩
        · obtain ⟨_, E4⟩ := eqF h4
          have NB := NO.out _ h4 (fun h => by injection h)
          clear h2 h3 h4 NO HBB
          go_wp2
          go_ret
          exact ⟨by rw [NB.out]; rfl, O.out.bel⟩
      · obtain ⟨_, E3⟩ := eqF h3
        have NB := NO.out _ h3 (fun h => by injection h)
        clear h2 h3 NO HBB
        go_wp2
        go_ret
        exact ⟨by rw [NB.out]; rfl, O.out.bel⟩
    · obtain ⟨_, E2⟩ := eqF h2
      have NB := NO.out _ h2 (fun h => by injection h)
      clear h2 NO HBB
      go_wp2
      go_ret
      exact ⟨by rw [NB.out]; rfl, O.out.bel⟩
  · have NB := NO.out _ h0 (fun h => by injection h)
    clear NO HBB
    cases ok <;> cases ok' <;> first
      | exact absurd rfl h0
      | (clear h0; go_wp2; go_ret; exact ⟨by rw [NB.out]; rfl, O.out.bel⟩)
set_option maxHeartbeats 8000000 in
set_option maxRecDepth 100000 in
theorem l3same_c (A B : Option Addr) (c d : Nat) (ok ok' : Bool) (xs ys : List Nt) (len len' gen gen' safe safe' : Int) (b : Bool) (hb : b = true ↔ (⟨ok, xs, len, gen, safe⟩ : Lg) = ⟨ok', ys, len', gen', safe'⟩) (w : World) (hx : rN.d.C w A xs.length xs) (hy : rN.d.C w B ys.length ys) :
    Calls Try.prog 155 #[.agg #[.bool ok, .slice A xs.length c, .int .i64 len, .int .i64 gen, .int .i64 safe], .agg #[.bool ok', .slice B ys.length d, .int .i64 len', .int .i64 gen', .int .i64 safe']] w (YesNo b w) := by
  have hlx : xs.length ≤ 9223372036854775807 := hx.2.1
  have hly : ys.length ≤ 9223372036854775807 := hy.2.1
  have HX := Aside0.mk hx; have HY := Aside0.mk hy; have HBB := Aside0.mk hb; clear hx hy hb
  go_enter Try.func155, Try.ntmps155
  go_upto_region 1 with (fail)
  generalize hw : World.alloc (World.alloc w _) _ = w1
  have O := Aside0.mk ((Own.nil w).of2 hw); clear hw
  have p0 := (blk_cell O.out.b1 0).trans rfl; have p1 := (blk_cell O.out.b1 1).trans rfl; have p2 := (blk_cell O.out.b1 2).trans rfl; have p3 := (blk_cell O.out.b1 3).trans rfl; have p4 := (blk_cell O.out.b1 4).trans rfl
  have q0 := (blk_cell O.out.b0 0).trans rfl; have q1 := (blk_cell O.out.b0 1).trans rfl; have q2 := (blk_cell O.out.b0 2).trans rfl; have q3 := (blk_cell O.out.b0 3).trans rfl; have q4 := (blk_cell O.out.b0 4).trans rfl
  have no : ∀ (P : Prop), ¬ P → (∀ h : (⟨ok, xs, len, gen, safe⟩ : Lg) = ⟨ok', ys, len', gen', safe'⟩, P) → Aside0 (b = false) := fun P hn hp => ⟨not_b HBB.out (fun h => hn (hp h))⟩
  have NO := Aside0.mk no; clear no
  by_cases h0 : ok = ok'
  · subst h0
    have E0 : (ok != ok) = false := by cases ok <;> rfl
    by_cases h2 : len = len'
    · obtain ⟨_, E2⟩ := eqT h2
      by_cases h3 : gen = gen'
      · obtain ⟨_, E3⟩ := eqT h3
        by_cases h4 : safe = safe'
        · obtain ⟨_, E4⟩ := eqT h4
          by_cases h1 : xs.length = ys.length
          · obtain ⟨_, E1⟩ := eqTn h1
            have hiff : Aside0 (b = true ↔ xs = ys) := ⟨HBB.out.trans ⟨fun h => by injection h, fun h => by subst h; subst h2; subst h3; subst h4; rfl⟩⟩
            have H1 := Aside0.mk h1
            clear h1 h2 h3 h4 NO HBB
            go_wp2
            clear E0 E1 E2 E3 E4 p0 p1 p2 p3 p4 q0 q1 q2 q3 q4
            go_loopg [44] xs.length (fun m v wr => ∃ i : Nat, v = .int .i64 i ∧ Aside0 (i ≤ xs.length ∧ xs.length - i ≤ m ∧ xs.take i = ys.take i) ∧ Aside0 (Own w wr [Rs.box (w.heap.size + 1) 59 #[.bool ok, .slice B ys.length d, .int .i64 len', .int .i64 gen', .int .i64 safe'], Rs.box w.heap.size 59 #[.bool ok, .slice A xs.length c, .int .i64 len, .int .i64 gen, .int .i64 safe]]))
            case atStart => exact ⟨0, rfl, ⟨by simp⟩, O⟩
            case round =>
              clear O
              obtain ⟨i, rfl, HI, O⟩ := hrel
              by_cases hi : i < xs.length
              · have hi2 : i < ys.length := by have := H1.out; omega
                obtain ⟨ad, e1, a0, a1, a2, a3, a4⟩ := at_N (Kd.C_below HX.out O.out.bel) (i : Int) (by omega) (by omega)
                obtain ⟨ad', e2, b0, b1, b2, b3, b4⟩ := at_N (Kd.C_below HY.out O.out.bel) (i : Int) (by omega) (by omega)
                cases e1; cases e2
                simp only [Int.toNat_natCast] at a0 a1 a2 a3 a4 b0 b1 b2 b3 b4
                have p1 := (blk_cell O.out.b1 1).trans rfl; have q1 := (blk_cell O.out.b0 1).trans rfl
                go_wp2
                go_quiet (fail)
                clear a0 a1 a2 a3 a4 b0 b1 b2 b3 b4 p1 q1
                replace O := Aside0.mk (O.out.drewN nq)
                generalize wr.drewN nq = wd at O ⊢
                generalize hb : decide (gN xs ↑i = gN ys ↑i) = bb
                have HBQ := Aside0.mk hb; clear hb
                cases bb with
                | true =>
                  have he : xs[i] = ys[i] := by have := of_decide_eq_true HBQ.out; rwa [gN_eq (by omega), gN_eq (by omega)] at this
                  have HE := Aside0.mk he; clear he
                  go_wp2
                  go_roundg (gk - 1)
                  case measure => have := HI.out; omega
                  case rel => exact ⟨i + 1, by first | rfl | (congr 1; omega), ⟨by omega, by have := HI.out; omega, take_succ_eq (by omega) (by omega) HI.out.2.2 HE.out⟩, O⟩
                | false =>
                  have he : ¬ xs[i] = ys[i] := by have := of_decide_eq_false HBQ.out; rwa [gN_eq (by omega), gN_eq (by omega)] at this
                  have NB : Aside0 (b = false) := ⟨not_b hiff.out (fun h => he (by subst h; rfl))⟩
                  clear he
                  go_wp2
                  go_ret
                  exact ⟨by rw [NB.out]; rfl, O.out.bel⟩
              · go_wp2
                go_ret
                have hxy : xs = ys := by
                  have h2 := HI.out; have h3 := H1.out
                  have : xs.take xs.length = ys.take ys.length := by have e : i = xs.length := by omega
                                                                     rw [← h3, ← e]; exact h2.2.2
                  simpa using this
                exact ⟨by rw [hiff.out.2 hxy]; rfl, O.out.bel⟩
          · obtain ⟨_, E1⟩ := eqFn h1
            have NB := NO.out _ h1 (fun h => by injection h with _ h; rw [h])
            clear h1 h2 h3 h4 NO HBB
            go_wp2
            go_ret
            exact ⟨by rw [NB.out]; rfl, O.out.bel⟩
        · obtain ⟨_, E4⟩ := eqF h4
          have NB := NO.out _ h4 (fun h => by injection h)
          clear h2 h3 h4 NO HBB
          go_wp2
          go_ret
          exact ⟨by rw [NB.out]; rfl, O.out.bel⟩
      · obtain ⟨_, E3⟩ := eqF h3
        have NB := NO.out _ h3 (fun h => by injection h)
        clear h2 h3 NO HBB
        go_wp2
        go_ret
        exact ⟨by rw [NB.out]; rfl, O.out.bel⟩
    · obtain ⟨_, E2⟩ := eqF h2
      have NB := NO.out _ h2 (fun h => by injection h)
      clear h2 NO HBB
      go_wp2
      go_ret
      exact ⟨by rw [NB.out]; rfl, O.out.bel⟩
  · have NB := NO.out _ h0 (fun h => by injection h)
    clear NO HBB
    cases ok <;> cases ok' <;> first
      | exact absurd rfl h0
      | (clear h0; go_wp2; go_ret; exact ⟨by rw [NB.out]; rfl, O.out.bel⟩)
end Go.Proofs.Ytocdlibnmlcokaa
namespace Go.Proofs.Ytocdlibnmlcokaa
open Go.RowKit Go.Proofs.YtocdlibnmlcokaaW.PrintWords Go.Proofs.YtocdlibnmlcokaaW.PrintLast
set_option linter.unusedVariables false
set_option linter.unusedSimpArgs false
def RightP (o : Opn) : Prop := o.ok = true ∧ DkOk o.bs o.ws ∧ o.lg = scanL o.bs o.ws ∧ o.lg.gen ≠ 0
theorem scan_gen (bs : List (List Int)) (ws : List Wr) : 0 ≤ (scanL bs ws).gen := logGen_range.1
set_option maxHeartbeats 8000000 in
set_option maxRecDepth 100000 in
theorem right_c (An A0 A1 : Option Addr) (cn c0 c1 : Nat) (ok lok : Bool) (notes : List Nt) (len gen safe : Int) (bs : List (List Int)) (ws : List Wr) (b : Bool) (hb : b = true ↔ RightP ⟨ok, ⟨lok, notes, len, gen, safe⟩, bs, ws⟩) (w : World)
    (hn : rN.d.C w An notes.length notes) (hx : rBS.d.C w A0 bs.length bs) (hy : rW.d.C w A1 ws.length ws) (hc : bs.length ≤ c0) (hk : BkOk bs ws) :
    Calls Try.prog 112 #[.agg #[.bool ok, .bool lok, .slice An notes.length cn, .int .i64 len, .int .i64 gen, .int .i64 safe, .slice A0 bs.length c0, .slice A1 ws.length c1]] w (YesNo b w) := by
  have HNN := Aside0.mk hn; have HX := Aside0.mk hx; have HY := Aside0.mk hy; have HBB := Aside0.mk hb; have HC := Aside0.mk hc; have HK0 := Aside0.mk hk; clear hn hx hy hb hc hk
  go_enter Try.func112, Try.ntmps112
  go_upto_region 1 with (fail)
  generalize hw : World.alloc w _ = w1
  have O := Aside0.mk ((Own.nil w).of hw); clear hw
  have p0 := (blk_cell O.out.b0 0).trans rfl; have p1 := (blk_cell O.out.b0 1).trans rfl; have p2 := (blk_cell O.out.b0 2).trans rfl; have p3 := (blk_cell O.out.b0 3).trans rfl; have p4 := (blk_cell O.out.b0 4).trans rfl; have p5 := (blk_cell O.out.b0 5).trans rfl; have p6 := (blk_cell O.out.b0 6).trans rfl; have p7 := (blk_cell O.out.b0 7).trans rfl
  refine sta (fun w' => w'.cell? ⟨w.heap.size, 0, none⟩ = some (.bool ok) ∧ w'.cell? ⟨w.heap.size, 1, none⟩ = some (.bool lok) ∧ w'.cell? ⟨w.heap.size, 2, none⟩ = some (.slice An notes.length cn) ∧ w'.cell? ⟨w.heap.size, 3, none⟩ = some (.int .i64 len) ∧ w'.cell? ⟨w.heap.size, 4, none⟩ = some (.int .i64 gen) ∧ w'.cell? ⟨w.heap.size, 5, none⟩ = some (.int .i64 safe) ∧ w'.cell? ⟨w.heap.size, 6, none⟩ = some (.slice A0 bs.length c0) ∧ w'.cell? ⟨w.heap.size, 7, none⟩ = some (.slice A1 ws.length c1)) [] 22 ⟨p0, p1, p2, p3, p4, p5, p6, p7⟩ (fun hS => ?_)
  clear p0 p1 p2 p3 p4 p5 p6 p7
  replace O := Aside0.mk O.out.drew
  generalize w1.drew = wd at O hS ⊢
  have SAgain : ∀ {w2 : World} {L : List Rs}, Own w w2 (Rs.box w.heap.size 61 #[.bool ok, .bool lok, .slice An notes.length cn, .int .i64 len, .int .i64 gen, .int .i64 safe, .slice A0 bs.length c0, .slice A1 ws.length c1] :: L) → w2.cell? ⟨w.heap.size, 0, none⟩ = some (.bool ok) ∧ w2.cell? ⟨w.heap.size, 1, none⟩ = some (.bool lok) ∧ w2.cell? ⟨w.heap.size, 2, none⟩ = some (.slice An notes.length cn) ∧ w2.cell? ⟨w.heap.size, 3, none⟩ = some (.int .i64 len) ∧ w2.cell? ⟨w.heap.size, 4, none⟩ = some (.int .i64 gen) ∧ w2.cell? ⟨w.heap.size, 5, none⟩ = some (.int .i64 safe) ∧ w2.cell? ⟨w.heap.size, 6, none⟩ = some (.slice A0 bs.length c0) ∧ w2.cell? ⟨w.heap.size, 7, none⟩ = some (.slice A1 ws.length c1) :=
    fun h => ⟨(blk_cell h.b0 0).trans rfl, (blk_cell h.b0 1).trans rfl, (blk_cell h.b0 2).trans rfl, (blk_cell h.b0 3).trans rfl, (blk_cell h.b0 4).trans rfl, (blk_cell h.b0 5).trans rfl, (blk_cell h.b0 6).trans rfl, (blk_cell h.b0 7).trans rfl⟩
  have SA := Aside0.mk @SAgain; clear SAgain
  refine pu 0 1 ?_
  refine tk 1 3 hS ?_
  refine pu 2 7 ?_
  cases ok with
  | false =>
    have NB : Aside0 (b = false) := ⟨not_b HBB.out (fun h => by cases h.1)⟩
    refine po 3 15 ?_
    refine po 4 31 ?_
    refine po 5 63 ?_
    refine pu 6 127 ?_
    refine pu 7 255 ?_
    refine po 8 511 ?_
    refine po 9 1023 ?_
    refine po 10 2047 ?_
    refine po 11 4095 ?_
    refine po 12 8191 ?_
    refine po 13 16383 ?_
    refine pu 14 32767 ?_
    refine pu 15 65535 ?_
    refine po 16 131071 ?_
    refine po 17 262143 ?_
    refine po 18 524287 ?_
    refine po 19 1048575 ?_
    refine pu 20 2097151 ?_
    refine pu 21 4194303 ?_
    refine dn ?_
    clear hS
    go_wp2
    go_ret
    exact ⟨by rw [NB.out]; rfl, O.out.bel⟩
  | true =>
    refine pu 3 15 ?_
    refine tk 4 31 hS ?_
    by_cases hd : DkOk bs ws
    · refine on 5 63 (fun K hK => ?_)
      refine ca (implDiskOk_c _ _ _ _ bs ws true ⟨fun _ => hd, fun _ => rfl⟩ _ (Kd.C_below HX.out O.out.bel) (Kd.C_below HY.out O.out.bel)) Try.func108 ?_
      rintro e w2 ⟨rfl, hb⟩
      replace O := Aside0.mk (O.out.below hb); clear hb
      refine ⟨_, rfl, nx hK (SA.out O.out) (fun hS => ?_)⟩
      clear hK K
      refine pu 6 127 ?_
      refine pu 7 255 ?_
      refine pu 8 511 ?_
      refine tk 9 1023 hS ?_
      refine pu 10 2047 ?_
      refine tk 11 4095 hS ?_
      obtain ⟨R, hR⟩ : ∃ R, R = scanL bs ws := ⟨_, rfl⟩
      refine on 12 8191 (fun K hK => ?_)
      refine ca (implScan_yes _ _ _ _ bs ws _ (Kd.C_below HX.out O.out.bel) (Kd.C_below HY.out O.out.bel) HC.out hd HK0.out) Try.func72 ?_
      intro e w3 hg
      rw [← hR] at hg
      obtain ⟨vn, rfl, k⟩ := hg
      replace O := Aside0.mk ((O.out.app1 k).p1); clear k
      obtain ⟨Am, cm, rfl, _⟩ := O.out.f1
      refine ⟨_, rfl, nx hK (SA.out O.out) (fun hS => ?_)⟩
      clear hK K
      refine on 13 16383 (fun K hK => ?_)
      by_cases hs : (⟨lok, notes, len, gen, safe⟩ : Lg) = R
      · refine ca (sameLog_c _ _ _ _ _ _ _ _ _ _ _ _ _ _ true ⟨fun _ => hs, fun _ => rfl⟩ _ (Kd.C_below HNN.out O.out.bel) O.out.c1) Try.func150 ?_
        rintro e w4 ⟨rfl, hb⟩
        replace O := Aside0.mk (O.out.below hb); clear hb
        refine ⟨_, rfl, nx hK (SA.out O.out) (fun hS => ?_)⟩
        clear hK K
        refine pu 14 32767 ?_
        refine pu 15 65535 ?_
        refine pu 16 131071 ?_
        refine pu 17 262143 ?_
        refine tk 18 524287 hS ?_
        refine pu 19 1048575 ?_
        refine pu 20 2097151 ?_
        refine pu 21 4194303 ?_
        refine dn ?_
        clear hS
        have e : (gen != 0) = b := yn b _ _ HBB.out ⟨fun h => ⟨rfl, hd, hs.trans hR, by simpa using h⟩, fun h => by simpa using h.2.2.2⟩
        have HE := Aside0.mk e; clear e
        go_wp2
        go_ret
        exact ⟨congrArg (fun x => Ending.returned (Value.bool x)) HE.out, O.out.bel⟩
      · refine ca (sameLog_c _ _ _ _ _ _ _ _ _ _ _ _ _ _ false ⟨fun h => (by cases h), fun h => absurd h hs⟩ _ (Kd.C_below HNN.out O.out.bel) O.out.c1) Try.func150 ?_
        rintro e w4 ⟨rfl, hb⟩
        replace O := Aside0.mk (O.out.below hb); clear hb
        refine ⟨_, rfl, nx hK (SA.out O.out) (fun hS => ?_)⟩
        clear hK K
        have NB : Aside0 (b = false) := ⟨not_b HBB.out (fun h => hs (by rw [hR]; exact h.2.2.1))⟩
        refine pu 14 32767 ?_
        refine pu 15 65535 ?_
        refine po 16 131071 ?_
        refine po 17 262143 ?_
        refine po 18 524287 ?_
        refine po 19 1048575 ?_
        refine pu 20 2097151 ?_
        refine pu 21 4194303 ?_
        refine dn ?_
        clear hS
        go_wp2
        go_ret
        exact ⟨by rw [NB.out]; rfl, O.out.bel⟩
    · have NB : Aside0 (b = false) := ⟨not_b HBB.out (fun h => hd h.2.1)⟩
      refine on 5 63 (fun K hK => ?_)
      refine ca (implDiskOk_c _ _ _ _ bs ws false ⟨fun h => (by cases h), fun h => absurd h hd⟩ _ (Kd.C_below HX.out O.out.bel) (Kd.C_below HY.out O.out.bel)) Try.func108 ?_
      rintro e w2 ⟨rfl, hb⟩
      replace O := Aside0.mk (O.out.below hb); clear hb
      refine ⟨_, rfl, nx hK (SA.out O.out) (fun hS => ?_)⟩
      clear hK K
      refine pu 6 127 ?_
      refine pu 7 255 ?_
      refine po 8 511 ?_
      refine po 9 1023 ?_
      refine po 10 2047 ?_
      refine po 11 4095 ?_
      refine po 12 8191 ?_
      refine po 13 16383 ?_
      refine pu 14 32767 ?_
      refine pu 15 65535 ?_
      refine po 16 131071 ?_
      refine po 17 262143 ?_
      refine po 18 524287 ?_
      refine po 19 1048575 ?_
      refine pu 20 2097151 ?_
      refine pu 21 4194303 ?_
      refine dn ?_
      clear hS
      go_wp2
      go_ret
      exact ⟨by rw [NB.out]; rfl, O.out.bel⟩
set_option maxHeartbeats 8000000 in
set_option maxRecDepth 100000 in
theorem l3open_c (An A0 A1 : Option Addr) (cn c0 c1 : Nat) (ok lok : Bool) (notes : List Nt) (len gen safe : Int) (bs : List (List Int)) (ws : List Wr) (b : Bool) (hb : b = true ↔ RightP ⟨ok, ⟨lok, notes, len, gen, safe⟩, bs, ws⟩) (w : World)
    (hn : rN.d.C w An notes.length notes) (hx : rBS.d.C w A0 bs.length bs) (hy : rW.d.C w A1 ws.length ws) (hc : bs.length ≤ c0) (hk : BkOk bs ws) :
    Calls Try.prog 130 #[.agg #[.bool ok, .bool lok, .slice An notes.length cn, .int .i64 len, .int .i64 gen, .int .i64 safe, .slice A0 bs.length c0, .slice A1 ws.length c1]] w (YesNo b w) := by
  have HNN := Aside0.mk hn; have HX := Aside0.mk hx; have HY := Aside0.mk hy; have HBB := Aside0.mk hb; have HC := Aside0.mk hc; have HK0 := Aside0.mk hk; clear hn hx hy hb hc hk
  go_enter Try.func130, Try.ntmps130
  go_upto_region 1 with (fail)
  generalize hw : World.alloc w _ = w1
  have O := Aside0.mk ((Own.nil w).of hw); clear hw
  have p0 := (blk_cell O.out.b0 0).trans rfl; have p1 := (blk_cell O.out.b0 1).trans rfl; have p2 := (blk_cell O.out.b0 2).trans rfl; have p3 := (blk_cell O.out.b0 3).trans rfl; have p4 := (blk_cell O.out.b0 4).trans rfl; have p5 := (blk_cell O.out.b0 5).trans rfl; have p6 := (blk_cell O.out.b0 6).trans rfl; have p7 := (blk_cell O.out.b0 7).trans rfl
  refine sta (fun w' => w'.cell? ⟨w.heap.size, 0, none⟩ = some (.bool ok) ∧ w'.cell? ⟨w.heap.size, 1, none⟩ = some (.bool lok) ∧ w'.cell? ⟨w.heap.size, 2, none⟩ = some (.slice An notes.length cn) ∧ w'.cell? ⟨w.heap.size, 3, none⟩ = some (.int .i64 len) ∧ w'.cell? ⟨w.heap.size, 4, none⟩ = some (.int .i64 gen) ∧ w'.cell? ⟨w.heap.size, 5, none⟩ = some (.int .i64 safe) ∧ w'.cell? ⟨w.heap.size, 6, none⟩ = some (.slice A0 bs.length c0) ∧ w'.cell? ⟨w.heap.size, 7, none⟩ = some (.slice A1 ws.length c1)) [] 22 ⟨p0, p1, p2, p3, p4, p5, p6, p7⟩ (fun hS => ?_)
  clear p0 p1 p2 p3 p4 p5 p6 p7
  replace O := Aside0.mk O.out.drew
  generalize w1.drew = wd at O hS ⊢
  have SAgain : ∀ {w2 : World} {L : List Rs}, Own w w2 (Rs.box w.heap.size 61 #[.bool ok, .bool lok, .slice An notes.length cn, .int .i64 len, .int .i64 gen, .int .i64 safe, .slice A0 bs.length c0, .slice A1 ws.length c1] :: L) → w2.cell? ⟨w.heap.size, 0, none⟩ = some (.bool ok) ∧ w2.cell? ⟨w.heap.size, 1, none⟩ = some (.bool lok) ∧ w2.cell? ⟨w.heap.size, 2, none⟩ = some (.slice An notes.length cn) ∧ w2.cell? ⟨w.heap.size, 3, none⟩ = some (.int .i64 len) ∧ w2.cell? ⟨w.heap.size, 4, none⟩ = some (.int .i64 gen) ∧ w2.cell? ⟨w.heap.size, 5, none⟩ = some (.int .i64 safe) ∧ w2.cell? ⟨w.heap.size, 6, none⟩ = some (.slice A0 bs.length c0) ∧ w2.cell? ⟨w.heap.size, 7, none⟩ = some (.slice A1 ws.length c1) :=
    fun h => ⟨(blk_cell h.b0 0).trans rfl, (blk_cell h.b0 1).trans rfl, (blk_cell h.b0 2).trans rfl, (blk_cell h.b0 3).trans rfl, (blk_cell h.b0 4).trans rfl, (blk_cell h.b0 5).trans rfl, (blk_cell h.b0 6).trans rfl, (blk_cell h.b0 7).trans rfl⟩
  have SA := Aside0.mk @SAgain; clear SAgain
  refine pu 0 1 ?_
  refine tk 1 3 hS ?_
  refine pu 2 7 ?_
  cases ok with
  | false =>
    have NB : Aside0 (b = false) := ⟨not_b HBB.out (fun h => by cases h.1)⟩
    refine po 3 15 ?_
    refine po 4 31 ?_
    refine po 5 63 ?_
    refine pu 6 127 ?_
    refine pu 7 255 ?_
    refine po 8 511 ?_
    refine po 9 1023 ?_
    refine po 10 2047 ?_
    refine po 11 4095 ?_
    refine pu 12 8191 ?_
    refine pu 13 16383 ?_
    refine po 14 32767 ?_
    refine po 15 65535 ?_
    refine po 16 131071 ?_
    refine po 17 262143 ?_
    refine po 18 524287 ?_
    refine po 19 1048575 ?_
    refine pu 20 2097151 ?_
    refine pu 21 4194303 ?_
    refine dn ?_
    clear hS
    go_wp2
    go_ret
    exact ⟨by rw [NB.out]; rfl, O.out.bel⟩
  | true =>
    refine pu 3 15 ?_
    refine tk 4 31 hS ?_
    by_cases hd : DkOk bs ws
    · refine on 5 63 (fun K hK => ?_)
      refine ca (specDiskOk_c _ _ _ _ bs ws true ⟨fun _ => hd, fun _ => rfl⟩ _ (Kd.C_below HX.out O.out.bel) (Kd.C_below HY.out O.out.bel)) Try.func99 ?_
      rintro e w2 ⟨rfl, hb⟩
      replace O := Aside0.mk (O.out.below hb); clear hb
      refine ⟨_, rfl, nx hK (SA.out O.out) (fun hS => ?_)⟩
      clear hK K
      refine pu 6 127 ?_
      refine pu 7 255 ?_
      refine pu 8 511 ?_
      refine pu 9 1023 ?_
      refine tk 10 2047 hS ?_
      refine pu 11 4095 ?_
      by_cases hg : 0 < gen
      · rw [show decide (gen > 0) = true from decide_eq_true hg]
        refine pu 12 8191 ?_
        refine pu 13 16383 ?_
        refine pu 14 32767 ?_
        refine tk 15 65535 hS ?_
        refine pu 16 131071 ?_
        refine tk 17 262143 hS ?_
        obtain ⟨R, hR⟩ : ∃ R, R = scanL bs ws := ⟨_, rfl⟩
        refine on 18 524287 (fun K hK => ?_)
        refine ca (specScan_yes _ _ _ _ bs ws _ (Kd.C_below HX.out O.out.bel) (Kd.C_below HY.out O.out.bel) HC.out hd HK0.out) Try.func73 ?_
        intro e w3 hg
        rw [← hR] at hg
        obtain ⟨vn, rfl, k⟩ := hg
        replace O := Aside0.mk ((O.out.app1 k).p1); clear k
        obtain ⟨Am, cm, rfl, _⟩ := O.out.f1
        refine ⟨_, rfl, nx hK (SA.out O.out) (fun hS => ?_)⟩
        clear hK K
        refine on 19 1048575 (fun K hK => ?_)
        refine ca (l3same_c _ _ _ _ _ _ _ _ _ _ _ _ _ _ b ⟨fun h => (HBB.out.1 h).2.2.1.trans hR.symm, fun h => HBB.out.2 ⟨rfl, hd, h.trans hR, by show gen ≠ 0; omega⟩⟩ _ (Kd.C_below HNN.out O.out.bel) O.out.c1) Try.func155 ?_
        rintro e w4 ⟨rfl, hb⟩
        replace O := Aside0.mk (O.out.below hb); clear hb
        refine ⟨_, rfl, nx hK (SA.out O.out) (fun hS => ?_)⟩
        clear hK K
        refine pu 20 2097151 ?_
        refine pu 21 4194303 ?_
        refine dn ?_
        clear hS
        go_wp2
        go_ret
        exact ⟨rfl, O.out.bel⟩
      · have NB : Aside0 (b = false) := ⟨not_b HBB.out (fun h => by have h1 := scan_gen bs ws; rw [← h.2.2.1] at h1; have h2 := h.2.2.2; simp only at h1 h2; omega)⟩
        rw [show decide (gen > 0) = false from decide_eq_false hg]
        refine pu 12 8191 ?_
        refine pu 13 16383 ?_
        refine po 14 32767 ?_
        refine po 15 65535 ?_
        refine po 16 131071 ?_
        refine po 17 262143 ?_
        refine po 18 524287 ?_
        refine po 19 1048575 ?_
        refine pu 20 2097151 ?_
        refine pu 21 4194303 ?_
        refine dn ?_
        clear hS
        go_wp2
        go_ret
        exact ⟨by rw [NB.out]; rfl, O.out.bel⟩
    · have NB : Aside0 (b = false) := ⟨not_b HBB.out (fun h => hd h.2.1)⟩
      refine on 5 63 (fun K hK => ?_)
      refine ca (specDiskOk_c _ _ _ _ bs ws false ⟨fun h => (by cases h), fun h => absurd h hd⟩ _ (Kd.C_below HX.out O.out.bel) (Kd.C_below HY.out O.out.bel)) Try.func99 ?_
      rintro e w2 ⟨rfl, hb⟩
      replace O := Aside0.mk (O.out.below hb); clear hb
      refine ⟨_, rfl, nx hK (SA.out O.out) (fun hS => ?_)⟩
      clear hK K
      refine pu 6 127 ?_
      refine pu 7 255 ?_
      refine po 8 511 ?_
      refine po 9 1023 ?_
      refine po 10 2047 ?_
      refine po 11 4095 ?_
      refine pu 12 8191 ?_
      refine pu 13 16383 ?_
      refine po 14 32767 ?_
      refine po 15 65535 ?_
      refine po 16 131071 ?_
      refine po 17 262143 ?_
      refine po 18 524287 ?_
      refine po 19 1048575 ?_
      refine pu 20 2097151 ?_
      refine pu 21 4194303 ?_
      refine dn ?_
      clear hS
      go_wp2
      go_ret
      exact ⟨by rw [NB.out]; rfl, O.out.bel⟩
end Go.Proofs.Ytocdlibnmlcokaa
namespace Go.Proofs.Ytocdlibnmlcokaa
open Go.RowKit Go.Proofs.YtocdlibnmlcokaaW.PrintWords Go.Proofs.YtocdlibnmlcokaaW.PrintLast
set_option linter.unusedVariables false
set_option linter.unusedSimpArgs false
def commitS (d : List (List Int)) : Opn := ⟨true, scanL d [], d, []⟩
set_option maxHeartbeats 4000000 in
set_option maxRecDepth 100000 in
theorem implCommit_yes (An A0 A1 : Option Addr) (cn c0 c1 : Nat) (ok lok : Bool) (notes : List Nt) (len gen safe : Int) (bs : List (List Int)) (ws : List Wr) (w : World)
    (hn : rN.d.C w An notes.length notes) (hx : rBS.d.C w A0 bs.length bs) (hy : rW.d.C w A1 ws.length ws) (hc : bs.length ≤ c0) (hk : BkOk bs ws) (hr : RightP ⟨ok, ⟨lok, notes, len, gen, safe⟩, bs, ws⟩) :
    Calls Try.prog 40 #[.agg #[.bool ok, .bool lok, .slice An notes.length cn, .int .i64 len, .int .i64 gen, .int .i64 safe, .slice A0 bs.length c0, .slice A1 ws.length c1]] w (GotOp (commitS (syncL bs ws)) w) := by
  obtain ⟨D, hD⟩ : ∃ D, D = settleL bs ws (kfL true []) := ⟨_, rfl⟩
  have hDb : BlOk D := hD ▸ sync_ok hr.2.1 hk
  suffices H : ∀ Q : Ending → World → Prop, (∀ e w', GotOp (commitS D) w e w' → Q e w') → Calls Try.prog 40 #[.agg #[.bool ok, .bool lok, .slice An notes.length cn, .int .i64 len, .int .i64 gen, .int .i64 safe, .slice A0 bs.length c0, .slice A1 ws.length c1]] w Q from H _ (fun e w' h => by unfold syncL; rw [← hD]; exact h)
  intro Q hQ
  have HDD := Aside0.mk hD; have HDb := Aside0.mk hDb; have HQ := Aside0.mk hQ; clear hD hDb hQ
  have HNN := Aside0.mk hn; have HX := Aside0.mk hx; have HY := Aside0.mk hy; have HC := Aside0.mk hc; have HK0 := Aside0.mk hk; have HR := Aside0.mk hr; clear hn hx hy hc hk hr
  go_enter Try.func40, Try.ntmps40
  go_upto_region 1 with (fail)
  generalize hw : World.alloc (World.alloc w _) _ = w1
  have O := Aside0.mk ((Own.nil w).of2 hw); clear hw
  have p0 := (blk_cell O.out.b1 0).trans rfl; have p1 := (blk_cell O.out.b1 1).trans rfl; have p2 := (blk_cell O.out.b1 2).trans rfl; have p3 := (blk_cell O.out.b1 3).trans rfl; have p4 := (blk_cell O.out.b1 4).trans rfl; have p5 := (blk_cell O.out.b1 5).trans rfl; have p6 := (blk_cell O.out.b1 6).trans rfl; have p7 := (blk_cell O.out.b1 7).trans rfl
  go_wp2_with fail
  refine (right_c _ _ _ _ _ _ _ _ _ _ _ _ _ _ true ⟨fun _ => HR.out, fun _ => rfl⟩ _ (Kd.C_below HNN.out O.out.bel) (Kd.C_below HX.out O.out.bel) (Kd.C_below HY.out O.out.bel) HC.out HK0.out).mono ?_
  rintro e w2 ⟨rfl, hb⟩
  replace O := Aside0.mk (O.out.below hb)
  clear p0 p1 p2 p3 p4 p5 p6 p7 hb
  have p6 := (blk_cell O.out.b1 6).trans rfl; have p7 := (blk_cell O.out.b1 7).trans rfl
  go_wp2_with fail
  refine (implSync_yes _ _ _ _ bs ws _ (Kd.C_below HX.out O.out.bel) (Kd.C_below HY.out O.out.bel) HR.out.2.1).mono ?_
  intro e w7 hg
  rw [← HDD.out] at hg
  obtain ⟨v0, v1, rfl, k⟩ := own_disk hg
  replace O := Aside0.mk (O.out.app2 k); clear k hg p6 p7
  obtain ⟨F0, h0, rfl, hf0⟩ := O.out.f0
  obtain ⟨F1, h1, rfl, _⟩ := O.out.f1
  have HF0 := Aside0.mk hf0; clear hf0
  go_upto_region 4 with fail
  generalize hw : w7.alloc _ = w8
  replace O := Aside0.mk (O.out.of hw); clear hw
  generalize w7.heap.size = g3 at O ⊢
  have HDok : Aside0 (DkOk D [] ∧ BkOk D []) := ⟨dk_of HDb.out (by simp) (fun x hx => by cases hx)⟩
  obtain ⟨R, hR⟩ : ∃ R, R = scanL D [] := ⟨_, rfl⟩
  have HRR := Aside0.mk hR; clear hR
  have p0 := (blk_cell O.out.b0 0).trans rfl; have p1 := (blk_cell O.out.b0 1).trans rfl
  refine sta (fun w' => w'.cell? ⟨g3, 0, none⟩ = some (.slice F0 D.length h0) ∧ w'.cell? ⟨g3, 1, none⟩ = some (.slice F1 0 h1)) [4] 5 ⟨p0, p1⟩ (fun hS => ?_)
  clear p0 p1
  replace O := Aside0.mk O.out.drew
  generalize w8.drew = wd at O hS ⊢
  refine tk 0 1 hS ?_
  refine tk 2 5 hS ?_
  refine on 1 7 (fun K hK => ?_)
  refine ca (implScan_yes _ _ _ _ D [] _ O.out.c1 O.out.c2 HF0.out HDok.out.1 HDok.out.2) Try.func72 ?_
  intro e w9 hg
  rw [← HRR.out] at hg
  obtain ⟨vn, rfl, k⟩ := hg
  replace O := Aside0.mk (O.out.app1 k); clear k
  obtain ⟨Bn, bn, rfl, _⟩ := O.out.f0
  refine ⟨_, rfl, nx hK ⟨(blk_cell O.out.b1 0).trans rfl, (blk_cell O.out.b1 1).trans rfl⟩ (fun hS => ?_)⟩
  clear hK K hS
  refine pu 3 15 ?_
  have u0 := (blk_cell O.out.b4 0).trans rfl; have u1 := (blk_cell O.out.b4 1).trans rfl; have u2 := (blk_cell O.out.b4 2).trans rfl; have u3 := (blk_cell O.out.b4 3).trans rfl; have u4 := (blk_cell O.out.b4 4).trans rfl; have u5 := (blk_cell O.out.b4 5).trans rfl; have u6 := (blk_cell O.out.b4 6).trans rfl; have u7 := (blk_cell O.out.b4 7).trans rfl
  have z0 := blk_frozen O.out.b4 0; have z1 := blk_frozen O.out.b4 1; have z2 := blk_frozen O.out.b4 2; have z3 := blk_frozen O.out.b4 3; have z4 := blk_frozen O.out.b4 4; have z5 := blk_frozen O.out.b4 5; have z6 := blk_frozen O.out.b4 6; have z7 := blk_frozen O.out.b4 7
  refine la 4 31 (fun K hK => ?_)
  refine st ?_
  generalize hw : World.setCell _ _ _ = w10
  replace O := Aside0.mk (O.out.p4.st8 hw); clear hw
  refine nl hK (dn ?_)
  clear hK K u0 u1 u2 u3 u4 u5 u6 u7 z0 z1 z2 z3 z4 z5 z6 z7
  go_wp2
  refine bodyPost_ret (results_cell_row rfl _ _ (w.heap.size + 1) 61 _ (0, 0) _ rfl O.out.b0 Try.underlying61 rfl (by kernel_rfl)) rfl ?_
  refine HQ.out _ _ ?_
  unfold commitS
  rw [← HRR.out]
  exact ⟨_, _, _, rfl, O.out.drop.p1.drop.only [_, _, _]⟩
set_option maxHeartbeats 4000000 in
set_option maxRecDepth 100000 in
theorem specCommit_yes (An A0 A1 : Option Addr) (cn c0 c1 : Nat) (ok lok : Bool) (notes : List Nt) (len gen safe : Int) (bs : List (List Int)) (ws : List Wr) (w : World)
    (hn : rN.d.C w An notes.length notes) (hx : rBS.d.C w A0 bs.length bs) (hy : rW.d.C w A1 ws.length ws) (hc : bs.length ≤ c0) (hk : BkOk bs ws) (hr : RightP ⟨ok, ⟨lok, notes, len, gen, safe⟩, bs, ws⟩) :
    Calls Try.prog 84 #[.agg #[.bool ok, .bool lok, .slice An notes.length cn, .int .i64 len, .int .i64 gen, .int .i64 safe, .slice A0 bs.length c0, .slice A1 ws.length c1]] w (GotOp (commitS (syncL bs ws)) w) := by
  obtain ⟨D, hD⟩ : ∃ D, D = settleL bs ws (kfL true []) := ⟨_, rfl⟩
  have hDb : BlOk D := hD ▸ sync_ok hr.2.1 hk
  suffices H : ∀ Q : Ending → World → Prop, (∀ e w', GotOp (commitS D) w e w' → Q e w') → Calls Try.prog 84 #[.agg #[.bool ok, .bool lok, .slice An notes.length cn, .int .i64 len, .int .i64 gen, .int .i64 safe, .slice A0 bs.length c0, .slice A1 ws.length c1]] w Q from H _ (fun e w' h => by unfold syncL; rw [← hD]; exact h)
  intro Q hQ
  have HDD := Aside0.mk hD; have HDb := Aside0.mk hDb; have HQ := Aside0.mk hQ; clear hD hDb hQ
  have HNN := Aside0.mk hn; have HX := Aside0.mk hx; have HY := Aside0.mk hy; have HC := Aside0.mk hc; have HK0 := Aside0.mk hk; have HR := Aside0.mk hr; clear hn hx hy hc hk hr
  go_enter Try.func84, Try.ntmps84
  go_upto_region 1 with (fail)
  generalize hw : World.alloc (World.alloc w _) _ = w1
  have O := Aside0.mk ((Own.nil w).of2 hw); clear hw
  have p0 := (blk_cell O.out.b1 0).trans rfl; have p1 := (blk_cell O.out.b1 1).trans rfl; have p2 := (blk_cell O.out.b1 2).trans rfl; have p3 := (blk_cell O.out.b1 3).trans rfl; have p4 := (blk_cell O.out.b1 4).trans rfl; have p5 := (blk_cell O.out.b1 5).trans rfl; have p6 := (blk_cell O.out.b1 6).trans rfl; have p7 := (blk_cell O.out.b1 7).trans rfl
  go_wp2_with fail
  refine (l3open_c _ _ _ _ _ _ _ _ _ _ _ _ _ _ true ⟨fun _ => HR.out, fun _ => rfl⟩ _ (Kd.C_below HNN.out O.out.bel) (Kd.C_below HX.out O.out.bel) (Kd.C_below HY.out O.out.bel) HC.out HK0.out).mono ?_
  rintro e w2 ⟨rfl, hb⟩
  replace O := Aside0.mk (O.out.below hb)
  clear p0 p1 p2 p3 p4 p5 p6 p7 hb
  have p6 := (blk_cell O.out.b1 6).trans rfl; have p7 := (blk_cell O.out.b1 7).trans rfl
  go_wp2_with fail
  refine (specSync_yes _ _ _ _ bs ws _ (Kd.C_below HX.out O.out.bel) (Kd.C_below HY.out O.out.bel) HR.out.2.1).mono ?_
  intro e w7 hg
  rw [← HDD.out] at hg
  obtain ⟨v0, v1, rfl, k⟩ := own_disk hg
  replace O := Aside0.mk (O.out.app2 k); clear k hg p6 p7
  obtain ⟨F0, h0, rfl, hf0⟩ := O.out.f0
  obtain ⟨F1, h1, rfl, _⟩ := O.out.f1
  have HF0 := Aside0.mk hf0; clear hf0
  go_upto_region 4 with fail
  generalize hw : w7.alloc _ = w8
  replace O := Aside0.mk (O.out.of hw); clear hw
  generalize w7.heap.size = g3 at O ⊢
  have HDok : Aside0 (DkOk D [] ∧ BkOk D []) := ⟨dk_of HDb.out (by simp) (fun x hx => by cases hx)⟩
  obtain ⟨R, hR⟩ : ∃ R, R = scanL D [] := ⟨_, rfl⟩
  have HRR := Aside0.mk hR; clear hR
  have p0 := (blk_cell O.out.b0 0).trans rfl; have p1 := (blk_cell O.out.b0 1).trans rfl
  refine sta (fun w' => w'.cell? ⟨g3, 0, none⟩ = some (.slice F0 D.length h0) ∧ w'.cell? ⟨g3, 1, none⟩ = some (.slice F1 0 h1)) [4] 5 ⟨p0, p1⟩ (fun hS => ?_)
  clear p0 p1
  replace O := Aside0.mk O.out.drew
  generalize w8.drew = wd at O hS ⊢
  refine tk 0 1 hS ?_
  refine tk 2 5 hS ?_
  refine on 1 7 (fun K hK => ?_)
  refine ca (specScan_yes _ _ _ _ D [] _ O.out.c1 O.out.c2 HF0.out HDok.out.1 HDok.out.2) Try.func73 ?_
  intro e w9 hg
  rw [← HRR.out] at hg
  obtain ⟨vn, rfl, k⟩ := hg
  replace O := Aside0.mk (O.out.app1 k); clear k
  obtain ⟨Bn, bn, rfl, _⟩ := O.out.f0
  refine ⟨_, rfl, nx hK ⟨(blk_cell O.out.b1 0).trans rfl, (blk_cell O.out.b1 1).trans rfl⟩ (fun hS => ?_)⟩
  clear hK K hS
  refine pu 3 15 ?_
  have u0 := (blk_cell O.out.b4 0).trans rfl; have u1 := (blk_cell O.out.b4 1).trans rfl; have u2 := (blk_cell O.out.b4 2).trans rfl; have u3 := (blk_cell O.out.b4 3).trans rfl; have u4 := (blk_cell O.out.b4 4).trans rfl; have u5 := (blk_cell O.out.b4 5).trans rfl; have u6 := (blk_cell O.out.b4 6).trans rfl; have u7 := (blk_cell O.out.b4 7).trans rfl
  have z0 := blk_frozen O.out.b4 0; have z1 := blk_frozen O.out.b4 1; have z2 := blk_frozen O.out.b4 2; have z3 := blk_frozen O.out.b4 3; have z4 := blk_frozen O.out.b4 4; have z5 := blk_frozen O.out.b4 5; have z6 := blk_frozen O.out.b4 6; have z7 := blk_frozen O.out.b4 7
  refine la 4 31 (fun K hK => ?_)
  refine st ?_
  generalize hw : World.setCell _ _ _ = w10
  replace O := Aside0.mk (O.out.p4.st8 hw); clear hw
  refine nl hK (dn ?_)
  clear hK K u0 u1 u2 u3 u4 u5 u6 u7 z0 z1 z2 z3 z4 z5 z6 z7
  go_wp2
  refine bodyPost_ret (results_cell_row rfl _ _ (w.heap.size + 1) 61 _ (0, 0) _ rfl O.out.b0 Try.underlying61 rfl (by kernel_rfl)) rfl ?_
  refine HQ.out _ _ ?_
  unfold commitS
  rw [← HRR.out]
  exact ⟨_, _, _, rfl, O.out.drop.p1.drop.only [_, _, _]⟩
end Go.Proofs.Ytocdlibnmlcokaa
namespace Go.Proofs.Ytocdlibnmlcokaa
open Go.RowKit Go.Proofs.YtocdlibnmlcokaaW.PrintWords Go.Proofs.YtocdlibnmlcokaaW.PrintLast
set_option linter.unusedVariables false
set_option linter.unusedSimpArgs false
def pagesW (X : List Int) (gen : Int) (fr n : Nat) : List Wr := (List.range n).map fun i : Nat => (⟨((fr + i : Nat) : Int) + 1, pageB X (fr + i) gen⟩ : Wr)
theorem pagesW_succ (X : List Int) (gen : Int) (fr n : Nat) : pagesW X gen fr (n + 1) = pagesW X gen fr n ++ [⟨((fr + n : Nat) : Int) + 1, pageB X (fr + n) gen⟩] := by simp [pagesW, List.range_succ]
theorem pagesW_len (X : List Int) (gen : Int) (fr n : Nat) : (pagesW X gen fr n).length = n := by simp [pagesW]
theorem pagesW_ok {X : List Int} (h : BsOk X) (gen : Int) (fr n : Nat) (hn : fr + n ≤ 127) : ∀ x ∈ pagesW X gen fr n, WrOk x := by
  intro x hx
  simp only [pagesW, List.mem_map, List.mem_range] at hx
  obtain ⟨k, hk, rfl⟩ := hx
  exact ⟨⟨by simp only []; omega, by simp only []; omega, pageB_len _ _ _⟩, pageB_ok h _ _⟩
theorem strL_len (s : ByteArray) : (strL s).length = s.size := bytesOf_length s
theorem frameL_len (x : Nt) : (frameL x).length = 17 + x.text.size := by
  simp only [frameL, List.length_append, lowTo_len, List.length_cons, List.length_nil, strL_len]
theorem strL_ok (s : ByteArray) : BsOk (strL s) := by
  intro x hx
  simp only [strL, Go.Proofs.YtocdlibnmlcokaaW.PrintWords.bytesOf, List.mem_map] at hx
  obtain ⟨b, _, rfl⟩ := hx
  have := b.toNat_lt
  omega
theorem frameL_ok {x : Nt} (h : NtOk x) : BsOk (frameL x) := by
  have h1 := h.2.2.2; have h2 := h.2.1
  unfold frameL
  refine ((((BsOk.append ?_ (BsOk.low _ _)).append ?_).append (BsOk.low _ _)).append (BsOk.low _ _)).append (strL_ok _)
  · intro y hy
    simp only [List.mem_cons, List.not_mem_nil, or_false] at hy
    rcases hy with rfl | rfl <;> omega
  · intro y hy
    simp only [List.mem_cons, List.not_mem_nil, or_false] at hy
    subst hy; omega
def appX (bs : List (List Int)) (ws : List Wr) (x : Nt) : List Int := (logBytes (syncL bs ws)).take (foundL (syncL bs ws)).2 ++ frameL x
def appN (len n : Nat) : Nat := (n - 1) / 56 - len / 56 + 1
def appendO (bs : List (List Int)) (ws : List Wr) (x : Nt) : Opn :=
  if (appX bs ws x).length ≤ 7112 ∧ ws.length + appN (foundL (syncL bs ws)).2 (appX bs ws x).length ≤ 200 then
    ⟨true, scanL bs (ws ++ pagesW (appX bs ws x) (logGen (syncL bs ws)) ((foundL (syncL bs ws)).2 / 56) (appN (foundL (syncL bs ws)).2 (appX bs ws x).length)), bs, ws ++ pagesW (appX bs ws x) (logGen (syncL bs ws)) ((foundL (syncL bs ws)).2 / 56) (appN (foundL (syncL bs ws)).2 (appX bs ws x).length)⟩
  else op0
theorem take_found {S : List (List Int)} (h : BlOk S) : (foundL S).2 ≤ 7112 ∧ ((logBytes S).take (foundL S).2).length = (foundL S).2 := by
  have h1 := logBytes_ok h
  have h2 := frames_len (logBytes S).length (logBytes S) h1.1
  rw [List.length_take]; unfold foundL framesL; omega
theorem Own.empty {w0 w : World} {L : List Rs} (h : Own w0 w L) : Own w0 (w.alloc (.cells #[] 5)) (Rs.row rB 5 (.slice (some ⟨w.heap.size, 0, none⟩) 0 0) [] :: L) :=
  h.app1 (Own.one (R := Rs.row rB 5 (.slice (some ⟨w.heap.size, 0, none⟩) 0 0) []) (below_alloc (Below.refl _ _) _) (empty_row w) (by simp) (by simp))
end Go.Proofs.Ytocdlibnmlcokaa
namespace Go.Proofs.Ytocdlibnmlcokaa
open Go.RowKit Go.Proofs.YtocdlibnmlcokaaW.PrintWords Go.Proofs.YtocdlibnmlcokaaW.PrintLast
set_option linter.unusedVariables false
set_option linter.unusedSimpArgs false
set_option maxHeartbeats 8000000 in
set_option maxRecDepth 100000 in
theorem implAppend_yes (An A0 A1 : Option Addr) (cn c0 c1 : Nat) (ok lok : Bool) (notes : List Nt) (len gen safe : Int) (bs : List (List Int)) (ws : List Wr) (x : Nt) (w : World)
    (hn : rN.d.C w An notes.length notes) (hx : rBS.d.C w A0 bs.length bs) (hy : rW.d.C w A1 ws.length ws) (hc : bs.length ≤ c0) (hk : BkOk bs ws) (ht : x.text.size ≤ 9223372036854775807) (hr : RightP ⟨ok, ⟨lok, notes, len, gen, safe⟩, bs, ws⟩) (hno : NtOk x) :
    Calls Try.prog 39 #[.agg #[.bool ok, .bool lok, .slice An notes.length cn, .int .i64 len, .int .i64 gen, .int .i64 safe, .slice A0 bs.length c0, .slice A1 ws.length c1], vN x] w (GotOp (appendO bs ws x) w) := by
  obtain ⟨S, hS⟩ : ∃ S, S = settleL bs ws (kfL true []) := ⟨_, rfl⟩
  obtain ⟨N, hN⟩ : ∃ N, N = (foundL S).1 := ⟨_, rfl⟩
  obtain ⟨L, hL⟩ : ∃ L, L = (foundL S).2 := ⟨_, rfl⟩
  obtain ⟨Y, hY⟩ : ∃ Y, Y = (logBytes S).take L := ⟨_, rfl⟩
  obtain ⟨G, hG⟩ : ∃ G, G = logGen S := ⟨_, rfl⟩
  obtain ⟨F, hF⟩ : ∃ F, F = frameL x := ⟨_, rfl⟩
  obtain ⟨X, hX⟩ : ∃ X, X = Y ++ F := ⟨_, rfl⟩
  have hSok : BlOk S := hS ▸ sync_ok hr.2.1 hk
  have htf := take_found hSok
  rw [← hL, ← hY] at htf
  have hYl : Y.length = L := htf.2
  have hLl : L ≤ 7112 := htf.1
  have hFl : F.length = 17 + x.text.size := by rw [hF]; exact frameL_len x
  have ht2 : x.text.size ≤ 200 := hno.2.2.2
  have hXl : X.length = L + F.length := by rw [hX, List.length_append, hYl]
  have hXok : BsOk X := by rw [hX, hY, hF]; exact BsOk.append (fun y hy => (logBytes_ok hSok).1 y (List.mem_of_mem_take hy)) (frameL_ok hno)
  have hGr : 1 ≤ G ∧ G ≤ 1000000000 := by
    have h1 := @logGen_range S
    have h2 := hr.2.2.2
    rw [hr.2.2.1] at h2
    change logGen (syncL bs ws) ≠ 0 at h2
    unfold syncL at h2
    rw [← hS] at h2
    rw [hG]; omega
  obtain ⟨fr, hfr⟩ : ∃ fr : Nat, fr = L / 56 := ⟨_, rfl⟩
  obtain ⟨tt, hto⟩ : ∃ tt : Nat, tt = (X.length - 1) / 56 := ⟨_, rfl⟩
  obtain ⟨n, hn9⟩ : ∃ n : Nat, n = tt - fr + 1 := ⟨_, rfl⟩
  obtain ⟨V, hV⟩ : ∃ V, V = ws ++ pagesW X G fr n := ⟨_, rfl⟩
  have hle : fr ≤ tt := by omega
  have happ : appendO bs ws x = if X.length ≤ 7112 ∧ ws.length + n ≤ 200 then ⟨true, scanL bs V, bs, V⟩ else op0 := by
    unfold appendO appX appN syncL
    rw [← hS, ← hL, ← hY, ← hG, ← hF, ← hX, ← hfr, ← hto, ← hn9, ← hV]
  obtain ⟨R0, hR0⟩ : ∃ R0, R0 = appendO bs ws x := ⟨_, rfl⟩
  rw [← hR0]
  rw [← hR0] at happ
  suffices H : ∀ Q : Ending → World → Prop, (∀ e w', GotOp R0 w e w' → Q e w') → Calls Try.prog 39 #[.agg #[.bool ok, .bool lok, .slice An notes.length cn, .int .i64 len, .int .i64 gen, .int .i64 safe, .slice A0 bs.length c0, .slice A1 ws.length c1], vN x] w Q from H _ (fun e w' h => h)
  intro Q hQ
  have HAPP := Aside0.mk happ; have HS := Aside0.mk hS; have HN := Aside0.mk hN; have HL := Aside0.mk hL; have HYb := Aside0.mk hY; have HG := Aside0.mk hG; have HF := Aside0.mk hF; have HXe := Aside0.mk hX; have HSok := Aside0.mk hSok; have HXok := Aside0.mk hXok; have HFR := Aside0.mk hfr; have HTO := Aside0.mk hto; have HN9 := Aside0.mk hn9; have HV := Aside0.mk hV; have HLE := Aside0.mk hle
  have HYl := Aside0.mk hYl; have HFl := Aside0.mk hFl; have HXl := Aside0.mk hXl; have HQ := Aside0.mk hQ; have HR := Aside0.mk hr; have HNO := Aside0.mk hno; have HGr := Aside0.mk hGr
  clear happ hS hN hL hY hG hF hX hSok hXok hfr hto hn9 hV hQ hr hno hGr hR0 htf hYl hFl hXl hle
  have HNN := Aside0.mk hn; have HX := Aside0.mk hx; have HY := Aside0.mk hy; have HC := Aside0.mk hc; have HK0 := Aside0.mk hk; clear hn hx hy hc hk
  simp only [vN]
  go_enter Try.func39, Try.ntmps39
  go_upto_region 1 with (fail)
  generalize hw : World.alloc (World.alloc (World.alloc w _) _) _ = w1
  have O := Aside0.mk ((Own.nil w).of3 hw); clear hw
  have p0 := (blk_cell O.out.b2 0).trans rfl; have p1 := (blk_cell O.out.b2 1).trans rfl; have p2 := (blk_cell O.out.b2 2).trans rfl; have p3 := (blk_cell O.out.b2 3).trans rfl; have p4 := (blk_cell O.out.b2 4).trans rfl; have p5 := (blk_cell O.out.b2 5).trans rfl; have p6 := (blk_cell O.out.b2 6).trans rfl; have p7 := (blk_cell O.out.b2 7).trans rfl
  go_wp2_with fail
  refine (right_c _ _ _ _ _ _ _ _ _ _ _ _ _ _ true ⟨fun _ => HR.out, fun _ => rfl⟩ _ (Kd.C_below HNN.out O.out.bel) (Kd.C_below HX.out O.out.bel) (Kd.C_below HY.out O.out.bel) HC.out HK0.out).mono ?_
  rintro e w2 ⟨rfl, hb⟩
  replace O := Aside0.mk (O.out.below hb)
  clear p0 p1 p2 p3 p4 p5 p6 p7 hb
  have n0 := (blk_cell O.out.b1 0).trans rfl; have n1 := (blk_cell O.out.b1 1).trans rfl; have n2 := (blk_cell O.out.b1 2).trans rfl; have n3 := (blk_cell O.out.b1 3).trans rfl; have n4 := (blk_cell O.out.b1 4).trans rfl
  go_wp2_with fail
  refine (implNoteOk_c x true ⟨fun _ => HNO.out, fun _ => rfl⟩ _ ht).mono ?_
  rintro e w2 ⟨rfl, hb⟩
  replace O := Aside0.mk (O.out.below hb)
  clear n0 n1 n2 n3 n4 hb
  have p6 := (blk_cell O.out.b2 6).trans rfl; have p7 := (blk_cell O.out.b2 7).trans rfl
  go_wp2_with fail
  refine (implSeen_yes _ _ _ _ bs ws _ (Kd.C_below HX.out O.out.bel) (Kd.C_below HY.out O.out.bel) HR.out.2.1).mono ?_
  intro e w3 hg
  obtain ⟨v, rfl, k⟩ := own_row hg
  rw [← HS.out] at k
  replace O := Aside0.mk (O.out.app1 k); clear k hg p6 p7
  obtain ⟨As, cs, rfl, hcs⟩ := O.out.f0
  have HCS := Aside0.mk hcs; clear hcs
  go_wp2_with fail
  refine (found_c _ _ S _ O.out.c0 HCS.out HSok.out).mono ?_
  intro e w4 hg
  rw [← HN.out, ← HL.out, ← HG.out, ← HYb.out] at hg
  obtain ⟨vn, vb, rfl, k⟩ := hg
  replace O := Aside0.mk (O.out.app2 k); clear k
  obtain ⟨Bn, bn, rfl, _⟩ := O.out.f0
  replace O := Aside0.mk (O.out.drop.p1.drop)
  obtain ⟨Ab, cb, rfl, hcb⟩ := O.out.f0
  go_upto_region 4 with (fail)
  generalize hw : w4.alloc _ = w5
  replace O := Aside0.mk (O.out.of hw); clear hw
  generalize w4.heap.size = g5 at O ⊢
  have n0 := (blk_cell O.out.b3 0).trans rfl; have n1 := (blk_cell O.out.b3 1).trans rfl; have n2 := (blk_cell O.out.b3 2).trans rfl; have n3 := (blk_cell O.out.b3 3).trans rfl; have n4 := (blk_cell O.out.b3 4).trans rfl
  go_wp2_with fail
  refine (implFrame_yes x _ HNO.out).mono ?_
  intro e w6 hg
  rw [← HF.out] at hg
  obtain ⟨vf, rfl, k⟩ := own_row hg
  replace O := Aside0.mk (O.out.app1 k); clear k hg n0 n1 n2 n3 n4
  obtain ⟨Af, cf, rfl, _⟩ := O.out.f0
  go_upto_region 5 with (fail)
  have q2 := (blk_cell O.out.b1 2).trans rfl
  by_cases hbig : (F.length : Int) > 7112 - L
  · have E0 : Aside0 (R0 = op0) := ⟨by rw [HAPP.out, if_neg (fun h => by have := HXl.out; omega)]⟩
    have u0 := (blk_cell O.out.b3 0).trans rfl; have u1 := (blk_cell O.out.b3 1).trans rfl; have u2 := (blk_cell O.out.b3 2).trans rfl; have u3 := (blk_cell O.out.b3 3).trans rfl; have u4 := (blk_cell O.out.b3 4).trans rfl; have u5 := (blk_cell O.out.b3 5).trans rfl; have u6 := (blk_cell O.out.b3 6).trans rfl; have u7 := (blk_cell O.out.b3 7).trans rfl
    have z0 := blk_frozen O.out.b3 0; have z1 := blk_frozen O.out.b3 1; have z2 := blk_frozen O.out.b3 2; have z3 := blk_frozen O.out.b3 3; have z4 := blk_frozen O.out.b3 4; have z5 := blk_frozen O.out.b3 5; have z6 := blk_frozen O.out.b3 6; have z7 := blk_frozen O.out.b3 7
    go_wp2
    generalize hw : World.setCell _ _ _ = w90
    replace O := Aside0.mk (O.out.p3.st8 hw); clear hw
    refine bodyPost_ret (results_cell_row rfl _ _ (w.heap.size + 1 + 1) 61 _ (0, 0) _ rfl O.out.b0 Try.underlying61 rfl (by kernel_rfl)) rfl ?_
    refine HQ.out _ _ ?_
    rw [E0.out]
    exact ⟨_, _, _, rfl, (((O.out.only []).nilRow rW 147).nilRow rBS 22).nilRow rN 33⟩
  · have HBIG := Aside0.mk hbig
    have hF300 : F.length ≤ 300 := by have := HFl.out; omega
    go_upto_region 7 with (fail)
    clear q2
    have HF300 := Aside0.mk hF300; clear hF300
    go_wp2_with fail
    refine (cp_c Ab cb Y _ O.out.c2 (by have := HYl.out; omega)).mono ?_
    rintro e w7 ⟨v, rfl, ⟨fc, hrc, hnc, hlc⟩, hbc⟩
    replace O := Aside0.mk (O.out.app1 (Own.one (R := Rs.row rB 5 v Y) hbc hrc hnc hlc)); clear hrc hnc hlc hbc
    obtain ⟨Ac, cc, rfl, _⟩ := O.out.f0
    go_upto_region 8 with (at_builtin; go_loud (refine Own.app_row (enc := Value.int .u8) (h1 := fun _ => rfl) 0 rfl (.tmp 38) (.tmp 39) 22 5 (.int .u8 0) 1 rfl Try.underlying22 info5 rfl (by omega) _ Y F Af F.length cf rfl rfl O.out O.out.c1 (by have := HYl.out; have := HF300.out; omega) ?_); intro v8 w8 hO; have O3 := Aside0.mk hO; clear hO)
    clear O
    replace O3 := O3.out
    rw [← HXe.out] at O3
    obtain ⟨Ax, cx, rfl, hcx⟩ := O3.f0
    have O := Aside0.mk O3.p1.drop.p2.drop.p3.drop; clear O3
    have HCX := Aside0.mk hcx; clear hcx
    have q2 := (blk_cell O.out.b1 2).trans rfl
    have hX300 : X.length ≤ 7112 := by have := HXl.out; have := HBIG.out; omega
    have hX1 : 17 ≤ X.length := by have := HXl.out; have := HFl.out; omega
    go_upto_region 9 with fail
    rw [show ((L : Int) / 56) = (fr : Int) by have := HFR.out; omega, show (((X.length : Int) - 1) / 56) = (tt : Int) by have := HTO.out; omega]
    have p7 := (blk_cell O.out.b3 7).trans rfl
    clear q2
    have hw200 : ws.length ≤ 200 := HR.out.2.1.2.1
    have htt : tt ≤ 126 := by have := HTO.out; omega
    have hfr2 : fr ≤ tt := HLE.out
    by_cases hfit : (ws.length : Int) + tt - fr + 1 > 200
    · have E0 : Aside0 (R0 = op0) := ⟨by rw [HAPP.out, if_neg (fun h => by have := HN9.out; omega)]⟩
      have u0 := (blk_cell O.out.b2 0).trans rfl; have u1 := (blk_cell O.out.b2 1).trans rfl; have u2 := (blk_cell O.out.b2 2).trans rfl; have u3 := (blk_cell O.out.b2 3).trans rfl; have u4 := (blk_cell O.out.b2 4).trans rfl; have u5 := (blk_cell O.out.b2 5).trans rfl; have u6 := (blk_cell O.out.b2 6).trans rfl; have u7 := (blk_cell O.out.b2 7).trans rfl
      have z0 := blk_frozen O.out.b2 0; have z1 := blk_frozen O.out.b2 1; have z2 := blk_frozen O.out.b2 2; have z3 := blk_frozen O.out.b2 3; have z4 := blk_frozen O.out.b2 4; have z5 := blk_frozen O.out.b2 5; have z6 := blk_frozen O.out.b2 6; have z7 := blk_frozen O.out.b2 7
      go_wp2
      generalize hw : World.setCell _ _ _ = w90
      replace O := Aside0.mk (O.out.p2.st8 hw); clear hw
      refine bodyPost_ret (results_cell_row rfl _ _ (w.heap.size + 1 + 1) 61 _ (0, 0) _ rfl O.out.b0 Try.underlying61 rfl (by kernel_rfl)) rfl ?_
      refine HQ.out _ _ ?_
      rw [E0.out]
      exact ⟨_, _, _, rfl, (((O.out.only []).nilRow rW 147).nilRow rBS 22).nilRow rN 33⟩
    · have HFIT := Aside0.mk hfit
      go_upto_region 11 with fail
      clear p7
      have p6 := (blk_cell O.out.b3 6).trans rfl; have p7 := (blk_cell O.out.b3 7).trans rfl
      go_wp2_with fail
      refine (copyDisk_c _ _ bs _ _ ws _ (Kd.C_below HX.out O.out.bel) (Kd.C_below HY.out O.out.bel) (by have : bs.length = 128 := HR.out.2.1.1; omega) (by omega) (fun b hb => by have : b.length = 64 := HR.out.2.1.2.2.1 b hb; omega) (fun b hb => by have : b.bytes.length = 64 := (HR.out.2.1.2.2.2 b hb).2.2; omega)).mono ?_
      intro e w9 hg
      obtain ⟨v0, v1, rfl, k⟩ := own_disk hg
      replace O := Aside0.mk (O.out.app2 k); clear k hg p6 p7
      obtain ⟨D0, d0, rfl, _⟩ := O.out.f0
      obtain ⟨D1, d1, rfl, _⟩ := O.out.f1
      go_upto_region 12 with fail
      generalize hw : w9.alloc _ = w10
      replace O := Aside0.mk (O.out.of hw).p6.drop; clear hw
      generalize w9.heap.size = g10 at O ⊢
      replace O : Aside0 (Own w w10 [Rs.box g10 43 #[.slice D0 bs.length d0, .slice D1 ws.length d1], Rs.row rBS 22 (.slice D0 bs.length d0) bs, Rs.row rW 147 (.slice D1 ws.length d1) ws, Rs.row rB 5 (.slice Ax X.length cx) X, Rs.box g5 59 #[.bool true, .slice Bn N.length bn, .int .i64 L, .int .i64 G, .int .i64 0], Rs.box (w.heap.size + 1 + 1) 61 zero8]) := ⟨O.out⟩
      have hg1 : 1 ≤ G := HGr.out.1
      have hg2 : G ≤ 1000000000 := HGr.out.2
      have HDK : Aside0 (∀ i, i ≤ n → DkOk bs (ws ++ pagesW X G fr i) ∧ BkOk bs (ws ++ pagesW X G fr i)) := ⟨fun i hi => by
        refine dk_of (bl_ok HR.out.2.1 HK0.out) (by rw [List.length_append, pagesW_len]; have := HN9.out; have := HFIT.out; omega) (fun y hy => ?_)
        rcases List.mem_append.1 hy with h | h
        · exact ⟨HR.out.2.1.2.2.2 y h, HK0.out.2 y h⟩
        · exact pagesW_ok HXok.out G fr i (by have := HN9.out; omega) y h⟩
      go_wp2_with fail
      go_loopg [11] (n + 1) (fun m v11 wr => ∃ (i : Nat) (v0 v1 : Value), v11 = .int .i64 ((fr + i : Nat) : Int) ∧ Aside0 (i ≤ n ∧ n - i < m) ∧ Aside0 (Own w wr [Rs.box g10 43 #[v0, v1], Rs.row rBS 22 v0 bs, Rs.row rW 147 v1 (ws ++ pagesW X G fr i), Rs.row rB 5 (.slice Ax X.length cx) X, Rs.box g5 59 #[.bool true, .slice Bn N.length bn, .int .i64 L, .int .i64 G, .int .i64 0], Rs.box (w.heap.size + 1 + 1) 61 zero8]))
      case atStart => exact ⟨0, _, _, rfl, ⟨by omega⟩, ⟨by simpa [pagesW] using O.out⟩⟩
      case round =>
        clear O
        obtain ⟨i, v0, v1, rfl, HI, O⟩ := hrel
        obtain ⟨U, hU⟩ : ∃ U, U = ws ++ pagesW X G fr i := ⟨_, rfl⟩
        obtain ⟨kk, hkk⟩ : ∃ kk : Nat, kk = fr + i := ⟨_, rfl⟩
        rw [← hU] at O
        rw [← hkk]
        have HU := Aside0.mk hU; have HKK := Aside0.mk hkk; clear hU hkk
        obtain ⟨D0, e0, rfl, hD0⟩ := O.out.f1
        obtain ⟨D1, e1, rfl, _⟩ := O.out.f2
        have HD0 := Aside0.mk hD0; clear hD0
        by_cases hi : kk ≤ tt
        · have p0 := (blk_cell O.out.b0 0).trans rfl; have p1 := (blk_cell O.out.b0 1).trans rfl; have q3 := (blk_cell O.out.b4 3).trans rfl
          have hUd := (HDK.out i HI.out.1).1
          rw [← HU.out] at hUd
          have hUl : U.length < 200 := by have := HU.out; rw [HU.out, List.length_append, pagesW_len]; have := HN9.out; have := HFIT.out; have := HKK.out; omega
          have HUD := Aside0.mk hUd; have HUL := Aside0.mk hUl; clear hUd hUl
          go_wp2_with fail
          refine (lay_c _ _ _ _ _ _ bs U X kk G _ O.out.c1 O.out.c2 O.out.c3 HCX.out HUD.out HUL.out (by omega) hg1 hg2 (by omega)).mono ?_
          intro e w11 hg
          obtain ⟨W2, hW2⟩ : ∃ W2, W2 = U ++ [⟨(kk : Int) + 1, pageB X kk G⟩] := ⟨_, rfl⟩
          rw [← hW2] at hg
          have HW2 := Aside0.mk hW2; clear hW2
          obtain ⟨v0, v1, rfl, k⟩ := own_disk hg
          replace O := Aside0.mk (O.out.app2 k); clear k hg p0 p1 q3
          obtain ⟨F0, h0, rfl, _⟩ := O.out.f0
          obtain ⟨F1, h1, rfl, _⟩ := O.out.f1
          have u0 := (blk_cell O.out.b2 0).trans rfl; have u1 := (blk_cell O.out.b2 1).trans rfl
          have z0 := blk_frozen O.out.b2 0; have z1 := blk_frozen O.out.b2 1
          go_wp2
          generalize hw : World.setCell _ _ _ = w12
          replace O := Aside0.mk ((O.out.p2.st2 hw).p3.drop.p3.drop); clear hw
          go_roundg (gk - 1)
          case measure => have := HI.out; omega
          case rel =>
            refine ⟨i + 1, _, _, ?_, ⟨by have := HI.out; have := HN9.out; have := HKK.out; omega⟩, ⟨by rw [pagesW_succ, ← List.append_assoc, ← HU.out, ← HKK.out, ← HW2.out]; exact O.out⟩⟩
            have := HKK.out
            congr 1; omega
        · have e : i = n := by have := HI.out; have := HN9.out; have := HKK.out; omega
          replace HU : Aside0 (U = V) := ⟨by rw [HU.out, e, HV.out]⟩
          have HDV := HDK.out n (Nat.le_refl _)
          rw [← HV.out, ← HU.out] at HDV
          have HDV := Aside0.mk HDV
          have HAP : Aside0 (R0 = ⟨true, scanL bs U, bs, U⟩) := ⟨by rw [HAPP.out, if_pos (by have := HN9.out; have := HFIT.out; omega), ← HU.out]⟩
          go_upto_region 16 with fail
          have p0 := (blk_cell O.out.b0 0).trans rfl; have p1 := (blk_cell O.out.b0 1).trans rfl
          refine sta (fun w' => w'.cell? ⟨g10, 0, none⟩ = some (.slice D0 bs.length e0) ∧ w'.cell? ⟨g10, 1, none⟩ = some (.slice D1 U.length e1)) [4] 5 ⟨p0, p1⟩ (fun hS => ?_)
          clear p0 p1
          replace O := Aside0.mk O.out.drew
          generalize wr.drew = wd at O hS ⊢
          obtain ⟨R, hR⟩ : ∃ R, R = scanL bs U := ⟨_, rfl⟩
          have HRR := Aside0.mk hR; clear hR
          refine tk 0 1 hS ?_
          refine tk 2 5 hS ?_
          refine on 1 7 (fun K hK => ?_)
          refine ca (implScan_yes _ _ _ _ bs U _ O.out.c1 O.out.c2 HD0.out HDV.out.1 HDV.out.2) Try.func72 ?_
          intro e w13 hg
          rw [← HRR.out] at hg
          obtain ⟨vn, rfl, k⟩ := hg
          replace O := Aside0.mk (O.out.app1 k); clear k
          obtain ⟨Cn, cn2, rfl, _⟩ := O.out.f0
          refine ⟨_, rfl, nx hK ⟨(blk_cell O.out.b1 0).trans rfl, (blk_cell O.out.b1 1).trans rfl⟩ (fun hS => ?_)⟩
          clear hK K hS
          refine pu 3 15 ?_
          have u0 := (blk_cell O.out.b6 0).trans rfl; have u1 := (blk_cell O.out.b6 1).trans rfl; have u2 := (blk_cell O.out.b6 2).trans rfl; have u3 := (blk_cell O.out.b6 3).trans rfl; have u4 := (blk_cell O.out.b6 4).trans rfl; have u5 := (blk_cell O.out.b6 5).trans rfl; have u6 := (blk_cell O.out.b6 6).trans rfl; have u7 := (blk_cell O.out.b6 7).trans rfl
          have z0 := blk_frozen O.out.b6 0; have z1 := blk_frozen O.out.b6 1; have z2 := blk_frozen O.out.b6 2; have z3 := blk_frozen O.out.b6 3; have z4 := blk_frozen O.out.b6 4; have z5 := blk_frozen O.out.b6 5; have z6 := blk_frozen O.out.b6 6; have z7 := blk_frozen O.out.b6 7
          refine la 4 31 (fun K hK => ?_)
          refine st ?_
          generalize hw : World.setCell _ _ _ = w14
          replace O := Aside0.mk (O.out.p6.st8 hw); clear hw
          refine nl hK (dn ?_)
          clear hK K u0 u1 u2 u3 u4 u5 u6 u7 z0 z1 z2 z3 z4 z5 z6 z7
          go_wp2
          refine bodyPost_ret (results_cell_row rfl _ _ (w.heap.size + 1 + 1) 61 _ (0, 0) _ rfl O.out.b0 Try.underlying61 rfl (by kernel_rfl)) rfl ?_
          refine HQ.out _ _ ?_
          rw [HAP.out, ← HRR.out]
          exact ⟨_, _, _, rfl, O.out.drop.p1.drop.only [_, _, _]⟩
end Go.Proofs.Ytocdlibnmlcokaa
