/- Contracts and words that the laws rest on, part 5: for every world; conditions as each theorem says. -/
import Derived.Test.YtocdlibnmlcokaaKTT4
namespace Go.Proofs.Ytocdlibnmlcokaa
open Go.RowKit Go.Proofs.YtocdlibnmlcokaaW.PrintWords Go.Proofs.YtocdlibnmlcokaaW.PrintLast
set_option linter.unusedVariables false
set_option linter.unusedSimpArgs false
set_option maxHeartbeats 4000000 in
theorem l4act_c (x : Ac) (K : Option Addr) (kc : Nat) (b : Bool) (hb : b = true ↔ AcOk x) (w : World) (hs : x.note.text.size ≤ 9223372036854775807) (hk : x.kept.length ≤ 9223372036854775807) :
    Calls Try.prog 98 #[vAc x (.slice K x.kept.length kc)] w (YesNo b w) := by
  suffices H : ∀ Q : Ending → World → Prop, (∀ e w', YesNo b w e w' → Q e w') → Calls Try.prog 98 #[vAc x (.slice K x.kept.length kc)] w Q from H _ (fun e w' h => h)
  intro Q hQ
  have HQ := Aside0.mk hQ; have HB := Aside0.mk hb; clear hQ hb
  obtain ⟨op, ⟨n0, n1, n2, n3, n4⟩, kl, ⟨a0, a1, a2, a3, a4⟩, pos, amt⟩ := x
  simp only [vAc] at *
  by_cases h1 : op = 1
  · subst h1
    replace HB : Aside0 (b = true ↔ NtOk ⟨n0, n1, n2, n3, n4⟩) := ⟨by rw [HB.out]; simp [AcOk]⟩
    go_enter Try.func98, Try.ntmps98
    go_upto_region 1 with (fail)
    generalize hw : World.alloc _ _ = w1
    have O := Aside0.mk ((Own.nil w).of hw); clear hw
    generalize w.heap.size = g at O ⊢
    have p0 := (blk_cell O.out.b0 0).trans rfl; have p1 := (blk_cell O.out.b0 1).trans rfl; have p2 := (blk_cell O.out.b0 2).trans rfl; have p3 := (blk_cell O.out.b0 3).trans rfl; have p4 := (blk_cell O.out.b0 4).trans rfl; have p5 := (blk_cell O.out.b0 5).trans rfl; have p6 := (blk_cell O.out.b0 6).trans rfl; have p7 := (blk_cell O.out.b0 7).trans rfl; have p8 := (blk_cell O.out.b0 8).trans rfl; have p9 := (blk_cell O.out.b0 9).trans rfl; have p10 := (blk_cell O.out.b0 10).trans rfl; have p11 := (blk_cell O.out.b0 11).trans rfl; have p12 := (blk_cell O.out.b0 12).trans rfl; have p13 := (blk_cell O.out.b0 13).trans rfl
    go_wp2_with fail
    refine (specNoteOk_c ⟨n0, n1, n2, n3, n4⟩ b HB.out _ hs).mono ?_
    rintro e w2 ⟨rfl, hb⟩
    replace O := Aside0.mk (O.out.below hb)
    go_wp2
    exact HQ.out _ _ ⟨rfl, O.out.bel⟩
  by_cases h2 : op = 2
  · subst h2
    replace HB : Aside0 (b = true ↔ True) := ⟨by rw [HB.out]; simp [AcOk]⟩
    go_enter Try.func98, Try.ntmps98
    go_upto_region 1 with (fail)
    generalize hw : World.alloc _ _ = w1
    have O := Aside0.mk ((Own.nil w).of hw); clear hw
    generalize w.heap.size = g at O ⊢
    have p0 := (blk_cell O.out.b0 0).trans rfl; have p1 := (blk_cell O.out.b0 1).trans rfl; have p2 := (blk_cell O.out.b0 2).trans rfl; have p3 := (blk_cell O.out.b0 3).trans rfl; have p4 := (blk_cell O.out.b0 4).trans rfl; have p5 := (blk_cell O.out.b0 5).trans rfl; have p6 := (blk_cell O.out.b0 6).trans rfl; have p7 := (blk_cell O.out.b0 7).trans rfl; have p8 := (blk_cell O.out.b0 8).trans rfl; have p9 := (blk_cell O.out.b0 9).trans rfl; have p10 := (blk_cell O.out.b0 10).trans rfl; have p11 := (blk_cell O.out.b0 11).trans rfl; have p12 := (blk_cell O.out.b0 12).trans rfl; have p13 := (blk_cell O.out.b0 13).trans rfl
    have eb : b = true := HB.out.2 trivial
    subst eb
    go_wp2
    exact HQ.out _ _ ⟨rfl, O.out.bel⟩
  by_cases h3 : op = 3
  · subst h3
    replace HB : Aside0 (b = true ↔ kl.length ≤ 200) := ⟨by rw [HB.out]; simp [AcOk]⟩
    go_enter Try.func98, Try.ntmps98
    go_upto_region 1 with (fail)
    generalize hw : World.alloc _ _ = w1
    have O := Aside0.mk ((Own.nil w).of hw); clear hw
    generalize w.heap.size = g at O ⊢
    have p0 := (blk_cell O.out.b0 0).trans rfl; have p1 := (blk_cell O.out.b0 1).trans rfl; have p2 := (blk_cell O.out.b0 2).trans rfl; have p3 := (blk_cell O.out.b0 3).trans rfl; have p4 := (blk_cell O.out.b0 4).trans rfl; have p5 := (blk_cell O.out.b0 5).trans rfl; have p6 := (blk_cell O.out.b0 6).trans rfl; have p7 := (blk_cell O.out.b0 7).trans rfl; have p8 := (blk_cell O.out.b0 8).trans rfl; have p9 := (blk_cell O.out.b0 9).trans rfl; have p10 := (blk_cell O.out.b0 10).trans rfl; have p11 := (blk_cell O.out.b0 11).trans rfl; have p12 := (blk_cell O.out.b0 12).trans rfl; have p13 := (blk_cell O.out.b0 13).trans rfl
    have eb : decide ((kl.length : Int) ≤ 200) = b := by
      by_cases hl : kl.length ≤ 200
      · rw [HB.out.2 hl]; exact decide_eq_true (by omega)
      · have : b = false := by cases b; rfl; exact absurd (HB.out.1 rfl) hl
        rw [this]; exact decide_eq_false (by omega)
    go_wp2
    exact HQ.out _ _ ⟨by first | rfl | rw [eb] | (simp only [eb]), O.out.bel⟩
  by_cases h4 : op = 4
  · subst h4
    replace HB : Aside0 (b = true ↔ True) := ⟨by rw [HB.out]; simp [AcOk]⟩
    go_enter Try.func98, Try.ntmps98
    go_upto_region 1 with (fail)
    generalize hw : World.alloc _ _ = w1
    have O := Aside0.mk ((Own.nil w).of hw); clear hw
    generalize w.heap.size = g at O ⊢
    have p0 := (blk_cell O.out.b0 0).trans rfl; have p1 := (blk_cell O.out.b0 1).trans rfl; have p2 := (blk_cell O.out.b0 2).trans rfl; have p3 := (blk_cell O.out.b0 3).trans rfl; have p4 := (blk_cell O.out.b0 4).trans rfl; have p5 := (blk_cell O.out.b0 5).trans rfl; have p6 := (blk_cell O.out.b0 6).trans rfl; have p7 := (blk_cell O.out.b0 7).trans rfl; have p8 := (blk_cell O.out.b0 8).trans rfl; have p9 := (blk_cell O.out.b0 9).trans rfl; have p10 := (blk_cell O.out.b0 10).trans rfl; have p11 := (blk_cell O.out.b0 11).trans rfl; have p12 := (blk_cell O.out.b0 12).trans rfl; have p13 := (blk_cell O.out.b0 13).trans rfl
    have eb : b = true := HB.out.2 trivial
    subst eb
    go_wp2
    exact HQ.out _ _ ⟨rfl, O.out.bel⟩
  by_cases h5 : op = 5
  · subst h5
    replace HB : Aside0 (b = true ↔ (0 ≤ pos ∧ pos ≤ 8191) ∧ (1 ≤ amt ∧ amt ≤ 255)) := ⟨by rw [HB.out]; simp [AcOk]; omega⟩
    go_enter Try.func98, Try.ntmps98
    go_upto_region 1 with (fail)
    generalize hw : World.alloc _ _ = w1
    have O := Aside0.mk ((Own.nil w).of hw); clear hw
    generalize w.heap.size = g at O ⊢
    have p0 := (blk_cell O.out.b0 0).trans rfl; have p1 := (blk_cell O.out.b0 1).trans rfl; have p2 := (blk_cell O.out.b0 2).trans rfl; have p3 := (blk_cell O.out.b0 3).trans rfl; have p4 := (blk_cell O.out.b0 4).trans rfl; have p5 := (blk_cell O.out.b0 5).trans rfl; have p6 := (blk_cell O.out.b0 6).trans rfl; have p7 := (blk_cell O.out.b0 7).trans rfl; have p8 := (blk_cell O.out.b0 8).trans rfl; have p9 := (blk_cell O.out.b0 9).trans rfl; have p10 := (blk_cell O.out.b0 10).trans rfl; have p11 := (blk_cell O.out.b0 11).trans rfl; have p12 := (blk_cell O.out.b0 12).trans rfl; have p13 := (blk_cell O.out.b0 13).trans rfl
    go_wp2_with fail
    refine (l1in_c _ _ _ _).mono ?_
    rintro e w2 ⟨rfl, hE⟩
    subst hE
    by_cases hp : 0 ≤ pos ∧ pos ≤ 8191
    · rw [show (decide (0 ≤ pos) && decide (pos ≤ 8191)) = true by simp [hp]]
      go_wp2_with fail
      refine (l1in_c _ _ _ _).mono ?_
      rintro e w3 ⟨rfl, hE⟩
      subst hE
      have eb : (decide (1 ≤ amt) && decide (amt ≤ 255)) = b := by
        by_cases ha : 1 ≤ amt ∧ amt ≤ 255
        · rw [HB.out.2 ⟨hp, ha⟩]; simp [ha]
        · have : b = false := by cases b; rfl; exact absurd (HB.out.1 rfl).2 ha
          rw [this]
          rcases Classical.not_and_iff_not_or_not.1 ha with h | h
          · rw [decide_eq_false h]; rfl
          · rw [decide_eq_false h, Bool.and_false]
      rw [eb]
      clear eb hp
      go_wp2
      exact HQ.out _ _ ⟨rfl, O.out.bel⟩
    · have e1 : (decide (0 ≤ pos) && decide (pos ≤ 8191)) = false := by
        rcases Classical.not_and_iff_not_or_not.1 hp with h | h
        · rw [decide_eq_false h]; rfl
        · rw [decide_eq_false h, Bool.and_false]
      have eb : b = false := by cases b; rfl; exact absurd (HB.out.1 rfl).1 hp
      subst eb
      rw [e1]
      clear e1 hp
      go_wp2
      exact HQ.out _ _ ⟨rfl, O.out.bel⟩
  have eb : b = false := by
    cases b; rfl
    have := HB.out.1 rfl
    simp only [AcOk] at this
    omega
  subst eb
  obtain ⟨E1, _⟩ := eqF h1; obtain ⟨E2, _⟩ := eqF h2; obtain ⟨E3, _⟩ := eqF h3; obtain ⟨E4, _⟩ := eqF h4; obtain ⟨E5, _⟩ := eqF h5
  clear h1 h2 h3 h4 h5
  go_enter Try.func98, Try.ntmps98
  go_upto_region 1 with (fail)
  generalize hw : World.alloc _ _ = w1
  have O := Aside0.mk ((Own.nil w).of hw); clear hw
  generalize w.heap.size = g at O ⊢
  have p0 := (blk_cell O.out.b0 0).trans rfl; have p1 := (blk_cell O.out.b0 1).trans rfl; have p2 := (blk_cell O.out.b0 2).trans rfl; have p3 := (blk_cell O.out.b0 3).trans rfl; have p4 := (blk_cell O.out.b0 4).trans rfl; have p5 := (blk_cell O.out.b0 5).trans rfl; have p6 := (blk_cell O.out.b0 6).trans rfl; have p7 := (blk_cell O.out.b0 7).trans rfl; have p8 := (blk_cell O.out.b0 8).trans rfl; have p9 := (blk_cell O.out.b0 9).trans rfl; have p10 := (blk_cell O.out.b0 10).trans rfl; have p11 := (blk_cell O.out.b0 11).trans rfl; have p12 := (blk_cell O.out.b0 12).trans rfl; have p13 := (blk_cell O.out.b0 13).trans rfl
  go_wp2
  exact HQ.out _ _ ⟨rfl, O.out.bel⟩
end Go.Proofs.Ytocdlibnmlcokaa
namespace Go.Proofs.Ytocdlibnmlcokaa
open Go.RowKit Go.Proofs.YtocdlibnmlcokaaW.PrintWords Go.Proofs.YtocdlibnmlcokaaW.PrintLast
set_option linter.unusedVariables false
set_option linter.unusedSimpArgs false
end Go.Proofs.Ytocdlibnmlcokaa
namespace Go.Proofs.Ytocdlibnmlcokaa
open Go.RowKit Go.Proofs.YtocdlibnmlcokaaW.PrintWords Go.Proofs.YtocdlibnmlcokaaW.PrintLast
set_option linter.unusedVariables false
set_option linter.unusedSimpArgs false
end Go.Proofs.Ytocdlibnmlcokaa
namespace Go.Proofs.Ytocdlibnmlcokaa
open Go.RowKit Go.Proofs.YtocdlibnmlcokaaW.PrintWords Go.Proofs.YtocdlibnmlcokaaW.PrintLast
set_option linter.unusedVariables false
set_option linter.unusedSimpArgs false
set_option maxHeartbeats 16000000 in
set_option maxRecDepth 100000 in
theorem specFind_c (A : Option Addr) (c : Nat) (xs : List Nt) (a : Nt) (w : World) (hx : rN.d.C w A xs.length xs) (ht : ∀ x ∈ xs, x.text.size < 4294967281) (ha : a.text.size < 4294967281) (hl : xs.length ≤ 1048576) :
    Calls Try.prog 34 #[.slice A xs.length c, vN a] w (GotRow rI 3 w (findL a xs)) := by
  suffices H : ∀ Q : Ending → World → Prop, (∀ e w', GotRow rI 3 w (findL a xs) e w' → Q e w') → Calls Try.prog 34 #[.slice A xs.length c, vN a] w Q from H _ (fun e w' h => h)
  intro Q hQ
  have HX := Aside0.mk hx; have HT := Aside0.mk ht; have HQ := Aside0.mk hQ; clear hx ht hQ
  obtain ⟨tick, kind, who, n, text⟩ := a
  simp only [vN] at *
  go_enter Try.func34, Try.ntmps34
  go_upto_region 1 with (fail)
  generalize hw : w.alloc _ = w1
  have O := Aside0.mk ((Own.nil w).of hw); clear hw
  go_upto_region 2 with (fail)
  replace O := Aside0.mk (O.out.nilRow rI 3)
  go_wp2
  go_loopg [5, 10] xs.length (fun m vr vi wr => ∃ i : Nat, vi = .int .i64 i ∧ Aside0 (i ≤ xs.length ∧ xs.length - i ≤ m) ∧ Aside0 (Own w wr [Rs.row rI 3 vr (findTo ⟨tick, kind, who, n, text⟩ xs i), Rs.box w.heap.size 36 #[.int .i64 tick, .int .i64 kind, .int .i64 who, .int .i64 n, .string text]]))
  case atStart => exact ⟨0, rfl, ⟨by simp⟩, O⟩
  case round =>
    clear O
    obtain ⟨i, rfl, HI, O⟩ := hrel
    by_cases hi : i < xs.length
    · obtain ⟨ad, e1, a0, a1, a2, a3, a4⟩ := at_N (Kd.C_below HX.out O.out.bel) (i : Int) (by omega) (by omega)
      cases e1
      simp only [Int.toNat_natCast] at a0 a1 a2 a3 a4
      have htx : (gN xs i).text.size < 4294967281 := by rw [gN_eq (by omega)]; exact HT.out _ (List.getElem_mem _)
      obtain ⟨x, hxe⟩ : ∃ x, x = gN xs i := ⟨_, rfl⟩
      rw [← hxe] at a0 a1 a2 a3 a4 htx
      have HXE := Aside0.mk hxe; clear hxe
      go_upto_region 5 with (fail)
      generalize hw : wr.alloc _ = w2
      replace O := Aside0.mk (O.out.of hw); clear hw
      generalize wr.heap.size = g2 at O ⊢
      have b0 := (blk_cell O.out.b0 0).trans rfl; have b1 := (blk_cell O.out.b0 1).trans rfl; have b2 := (blk_cell O.out.b0 2).trans rfl; have b3 := (blk_cell O.out.b0 3).trans rfl; have b4 := (blk_cell O.out.b0 4).trans rfl
      have c0 := (blk_cell O.out.b2 0).trans rfl; have c1 := (blk_cell O.out.b2 1).trans rfl; have c2 := (blk_cell O.out.b2 2).trans rfl; have c3 := (blk_cell O.out.b2 3).trans rfl; have c4 := (blk_cell O.out.b2 4).trans rfl
      by_cases h1 : tick ≤ x.tick
      · by_cases h2 : x.tick ≤ kind
        · have H1 := Aside0.mk h1; have H2 := Aside0.mk h2
          by_cases h3 : who = -1
          · have HWH : Aside0 (who = -1 ∨ who = x.kind) := ⟨.inl h3⟩
            obtain ⟨E3, _⟩ := eqT h3; clear h3
            by_cases h5 : n = -1
            · have HNN : Aside0 (n = -1 ∨ n = x.who) := ⟨.inl h5⟩
              obtain ⟨E5, _⟩ := eqT h5; clear h5
              go_wp2_with fail
              refine (l4has_c _ _ _ htx ha).mono ?_
              rintro e w3 ⟨rfl, rfl⟩
              generalize hb : hasB x.text text = b
              have HBQ := Aside0.mk hb; clear hb
              cases b with
              | true =>
                have HFY : Aside0 (fits ⟨tick, kind, who, n, text⟩ x = true) := ⟨fits_b (x := x) H1.out H2.out HWH.out HNN.out HBQ.out⟩
                clear a0 a1 a2 a3 a4 b0 b1 b2 b3 b4 c0 c1 c2 c3 c4
                replace O := Aside0.mk (O.out.p1.cel0 (r := rI) (cs := [.int .i64 i]) (x := (i : Int)) ⟨rfl, rfl⟩).p1
                go_upto_region 7 with (at_builtin; go_loud (refine Own.app_one rI rfl (.tmp 58) (.tmp 60) 28 3 (.int .i64 0) 8 rfl Try.underlying28 info3 rfl (by decide) (by decide) _ _ (i : Int) _ rfl rfl O.out (Nat.le_trans (Nat.mul_le_mul_right 8 (Nat.add_le_add_right (findTo_len ⟨tick, kind, who, n, text⟩ xs i) 1)) (by omega)) ?_); intro v5 w5 hX; have O5 := Aside0.mk hX; clear hX)
                clear O
                go_wp2
                go_roundg (gk - 1)
                case measure => have := HI.out; omega
                case rel => exact ⟨i + 1, by first | rfl | (congr 1; omega), ⟨by have := HI.out; omega⟩, ⟨by rw [findTo_yes (HXE.out ▸ HFY.out)]; exact O5.out.p1.drop⟩⟩
              | false =>
                have HFN : Aside0 (fits ⟨tick, kind, who, n, text⟩ x = false) := ⟨fits_b (x := x) H1.out H2.out HWH.out HNN.out HBQ.out⟩
                clear a0 a1 a2 a3 a4 b0 b1 b2 b3 b4 c0 c1 c2 c3 c4
                go_wp2
                go_roundg (gk - 1)
                case measure => have := HI.out; omega
                case rel => exact ⟨i + 1, by first | rfl | (congr 1; omega), ⟨by have := HI.out; omega⟩, ⟨by rw [findTo_no (HXE.out ▸ HFN.out)]; exact O.out.drop⟩⟩
            · by_cases h6 : n = x.who
              · have HNN : Aside0 (n = -1 ∨ n = x.who) := ⟨.inr h6⟩
                obtain ⟨E5, _⟩ := eqF h5; obtain ⟨E6, _⟩ := eqT h6; clear h5 h6
                go_wp2_with fail
                refine (l4has_c _ _ _ htx ha).mono ?_
                rintro e w3 ⟨rfl, rfl⟩
                generalize hb : hasB x.text text = b
                have HBQ := Aside0.mk hb; clear hb
                cases b with
                | true =>
                  have HFY : Aside0 (fits ⟨tick, kind, who, n, text⟩ x = true) := ⟨fits_b (x := x) H1.out H2.out HWH.out HNN.out HBQ.out⟩
                  clear a0 a1 a2 a3 a4 b0 b1 b2 b3 b4 c0 c1 c2 c3 c4
                  replace O := Aside0.mk (O.out.p1.cel0 (r := rI) (cs := [.int .i64 i]) (x := (i : Int)) ⟨rfl, rfl⟩).p1
                  go_upto_region 7 with (at_builtin; go_loud (refine Own.app_one rI rfl (.tmp 58) (.tmp 60) 28 3 (.int .i64 0) 8 rfl Try.underlying28 info3 rfl (by decide) (by decide) _ _ (i : Int) _ rfl rfl O.out (Nat.le_trans (Nat.mul_le_mul_right 8 (Nat.add_le_add_right (findTo_len ⟨tick, kind, who, n, text⟩ xs i) 1)) (by omega)) ?_); intro v5 w5 hX; have O5 := Aside0.mk hX; clear hX)
                  clear O
                  go_wp2
                  go_roundg (gk - 1)
                  case measure => have := HI.out; omega
                  case rel => exact ⟨i + 1, by first | rfl | (congr 1; omega), ⟨by have := HI.out; omega⟩, ⟨by rw [findTo_yes (HXE.out ▸ HFY.out)]; exact O5.out.p1.drop⟩⟩
                | false =>
                  have HFN : Aside0 (fits ⟨tick, kind, who, n, text⟩ x = false) := ⟨fits_b (x := x) H1.out H2.out HWH.out HNN.out HBQ.out⟩
                  clear a0 a1 a2 a3 a4 b0 b1 b2 b3 b4 c0 c1 c2 c3 c4
                  go_wp2
                  go_roundg (gk - 1)
                  case measure => have := HI.out; omega
                  case rel => exact ⟨i + 1, by first | rfl | (congr 1; omega), ⟨by have := HI.out; omega⟩, ⟨by rw [findTo_no (HXE.out ▸ HFN.out)]; exact O.out.drop⟩⟩
              · have HNO : Aside0 (¬ (tick ≤ x.tick ∧ x.tick ≤ kind ∧ (who = -1 ∨ who = x.kind) ∧ (n = -1 ∨ n = x.who))) := ⟨by omega⟩
                obtain ⟨E5, _⟩ := eqF h5; obtain ⟨E6, _⟩ := eqF h6; clear h5 h6
                have HFN : Aside0 (fits ⟨tick, kind, who, n, text⟩ x = false) := ⟨fits_no HNO.out⟩
                go_wp2
                go_roundg (gk - 1)
                case measure => have := HI.out; omega
                case rel => exact ⟨i + 1, by first | rfl | (congr 1; omega), ⟨by have := HI.out; omega⟩, ⟨by rw [findTo_no (HXE.out ▸ HFN.out)]; exact O.out.drop⟩⟩
          · by_cases h4 : who = x.kind
            · have HWH : Aside0 (who = -1 ∨ who = x.kind) := ⟨.inr h4⟩
              obtain ⟨E3, _⟩ := eqF h3; obtain ⟨E4, _⟩ := eqT h4; clear h3 h4
              by_cases h5 : n = -1
              · have HNN : Aside0 (n = -1 ∨ n = x.who) := ⟨.inl h5⟩
                obtain ⟨E5, _⟩ := eqT h5; clear h5
                go_wp2_with fail
                refine (l4has_c _ _ _ htx ha).mono ?_
                rintro e w3 ⟨rfl, rfl⟩
                generalize hb : hasB x.text text = b
                have HBQ := Aside0.mk hb; clear hb
                cases b with
                | true =>
                  have HFY : Aside0 (fits ⟨tick, kind, who, n, text⟩ x = true) := ⟨fits_b (x := x) H1.out H2.out HWH.out HNN.out HBQ.out⟩
                  clear a0 a1 a2 a3 a4 b0 b1 b2 b3 b4 c0 c1 c2 c3 c4
                  replace O := Aside0.mk (O.out.p1.cel0 (r := rI) (cs := [.int .i64 i]) (x := (i : Int)) ⟨rfl, rfl⟩).p1
                  go_upto_region 7 with (at_builtin; go_loud (refine Own.app_one rI rfl (.tmp 58) (.tmp 60) 28 3 (.int .i64 0) 8 rfl Try.underlying28 info3 rfl (by decide) (by decide) _ _ (i : Int) _ rfl rfl O.out (Nat.le_trans (Nat.mul_le_mul_right 8 (Nat.add_le_add_right (findTo_len ⟨tick, kind, who, n, text⟩ xs i) 1)) (by omega)) ?_); intro v5 w5 hX; have O5 := Aside0.mk hX; clear hX)
                  clear O
                  go_wp2
                  go_roundg (gk - 1)
                  case measure => have := HI.out; omega
                  case rel => exact ⟨i + 1, by first | rfl | (congr 1; omega), ⟨by have := HI.out; omega⟩, ⟨by rw [findTo_yes (HXE.out ▸ HFY.out)]; exact O5.out.p1.drop⟩⟩
                | false =>
                  have HFN : Aside0 (fits ⟨tick, kind, who, n, text⟩ x = false) := ⟨fits_b (x := x) H1.out H2.out HWH.out HNN.out HBQ.out⟩
                  clear a0 a1 a2 a3 a4 b0 b1 b2 b3 b4 c0 c1 c2 c3 c4
                  go_wp2
                  go_roundg (gk - 1)
                  case measure => have := HI.out; omega
                  case rel => exact ⟨i + 1, by first | rfl | (congr 1; omega), ⟨by have := HI.out; omega⟩, ⟨by rw [findTo_no (HXE.out ▸ HFN.out)]; exact O.out.drop⟩⟩
              · by_cases h6 : n = x.who
                · have HNN : Aside0 (n = -1 ∨ n = x.who) := ⟨.inr h6⟩
                  obtain ⟨E5, _⟩ := eqF h5; obtain ⟨E6, _⟩ := eqT h6; clear h5 h6
                  go_wp2_with fail
                  refine (l4has_c _ _ _ htx ha).mono ?_
                  rintro e w3 ⟨rfl, rfl⟩
                  generalize hb : hasB x.text text = b
                  have HBQ := Aside0.mk hb; clear hb
                  cases b with
                  | true =>
                    have HFY : Aside0 (fits ⟨tick, kind, who, n, text⟩ x = true) := ⟨fits_b (x := x) H1.out H2.out HWH.out HNN.out HBQ.out⟩
                    clear a0 a1 a2 a3 a4 b0 b1 b2 b3 b4 c0 c1 c2 c3 c4
                    replace O := Aside0.mk (O.out.p1.cel0 (r := rI) (cs := [.int .i64 i]) (x := (i : Int)) ⟨rfl, rfl⟩).p1
                    go_upto_region 7 with (at_builtin; go_loud (refine Own.app_one rI rfl (.tmp 58) (.tmp 60) 28 3 (.int .i64 0) 8 rfl Try.underlying28 info3 rfl (by decide) (by decide) _ _ (i : Int) _ rfl rfl O.out (Nat.le_trans (Nat.mul_le_mul_right 8 (Nat.add_le_add_right (findTo_len ⟨tick, kind, who, n, text⟩ xs i) 1)) (by omega)) ?_); intro v5 w5 hX; have O5 := Aside0.mk hX; clear hX)
                    clear O
                    go_wp2
                    go_roundg (gk - 1)
                    case measure => have := HI.out; omega
                    case rel => exact ⟨i + 1, by first | rfl | (congr 1; omega), ⟨by have := HI.out; omega⟩, ⟨by rw [findTo_yes (HXE.out ▸ HFY.out)]; exact O5.out.p1.drop⟩⟩
                  | false =>
                    have HFN : Aside0 (fits ⟨tick, kind, who, n, text⟩ x = false) := ⟨fits_b (x := x) H1.out H2.out HWH.out HNN.out HBQ.out⟩
                    clear a0 a1 a2 a3 a4 b0 b1 b2 b3 b4 c0 c1 c2 c3 c4
                    go_wp2
                    go_roundg (gk - 1)
                    case measure => have := HI.out; omega
                    case rel => exact ⟨i + 1, by first | rfl | (congr 1; omega), ⟨by have := HI.out; omega⟩, ⟨by rw [findTo_no (HXE.out ▸ HFN.out)]; exact O.out.drop⟩⟩
                · have HNO : Aside0 (¬ (tick ≤ x.tick ∧ x.tick ≤ kind ∧ (who = -1 ∨ who = x.kind) ∧ (n = -1 ∨ n = x.who))) := ⟨by omega⟩
                  obtain ⟨E5, _⟩ := eqF h5; obtain ⟨E6, _⟩ := eqF h6; clear h5 h6
                  have HFN : Aside0 (fits ⟨tick, kind, who, n, text⟩ x = false) := ⟨fits_no HNO.out⟩
                  go_wp2
                  go_roundg (gk - 1)
                  case measure => have := HI.out; omega
                  case rel => exact ⟨i + 1, by first | rfl | (congr 1; omega), ⟨by have := HI.out; omega⟩, ⟨by rw [findTo_no (HXE.out ▸ HFN.out)]; exact O.out.drop⟩⟩
            · have HNO : Aside0 (¬ (tick ≤ x.tick ∧ x.tick ≤ kind ∧ (who = -1 ∨ who = x.kind) ∧ (n = -1 ∨ n = x.who))) := ⟨by omega⟩
              obtain ⟨E3, _⟩ := eqF h3; obtain ⟨E4, _⟩ := eqF h4; clear h3 h4
              have HFN : Aside0 (fits ⟨tick, kind, who, n, text⟩ x = false) := ⟨fits_no HNO.out⟩
              go_wp2
              go_roundg (gk - 1)
              case measure => have := HI.out; omega
              case rel => exact ⟨i + 1, by first | rfl | (congr 1; omega), ⟨by have := HI.out; omega⟩, ⟨by rw [findTo_no (HXE.out ▸ HFN.out)]; exact O.out.drop⟩⟩
        · have HNO : Aside0 (¬ (tick ≤ x.tick ∧ x.tick ≤ kind ∧ (who = -1 ∨ who = x.kind) ∧ (n = -1 ∨ n = x.who))) := ⟨by omega⟩
          have HFN : Aside0 (fits ⟨tick, kind, who, n, text⟩ x = false) := ⟨fits_no HNO.out⟩
          go_wp2
          go_roundg (gk - 1)
          case measure => have := HI.out; omega
          case rel => exact ⟨i + 1, by first | rfl | (congr 1; omega), ⟨by have := HI.out; omega⟩, ⟨by rw [findTo_no (HXE.out ▸ HFN.out)]; exact O.out.drop⟩⟩
      · have HNO : Aside0 (¬ (tick ≤ x.tick ∧ x.tick ≤ kind ∧ (who = -1 ∨ who = x.kind) ∧ (n = -1 ∨ n = x.who))) := ⟨by omega⟩
        have HFN : Aside0 (fits ⟨tick, kind, who, n, text⟩ x = false) := ⟨fits_no HNO.out⟩
        go_wp2
        go_roundg (gk - 1)
        case measure => have := HI.out; omega
        case rel => exact ⟨i + 1, by first | rfl | (congr 1; omega), ⟨by have := HI.out; omega⟩, ⟨by rw [findTo_no (HXE.out ▸ HFN.out)]; exact O.out.drop⟩⟩
    · have h9 : i = xs.length := by have := HI.out; omega
      have HI9 := Aside0.mk h9; clear h9
      go_wp2
      obtain ⟨f, hf, hn, hl2, hc⟩ := O.out.take
      rw [HI9.out] at hf
      exact HQ.out _ _ ⟨_, rfl, ⟨f, hf, hn, hl2⟩, O.out.bel⟩
end Go.Proofs.Ytocdlibnmlcokaa
namespace Go.Proofs.Ytocdlibnmlcokaa
open Go.RowKit Go.Proofs.YtocdlibnmlcokaaW.PrintWords Go.Proofs.YtocdlibnmlcokaaW.PrintLast
set_option linter.unusedVariables false
set_option linter.unusedSimpArgs false
abbrev oB (o : Opn) (vn v0 v1 : Value) : Array Value := #[.bool o.ok, .bool o.lg.ok, vn, .int .i64 o.lg.len, .int .i64 o.lg.gen, .int .i64 o.lg.safe, v0, v1]
def RunCut (w wc : World) (g3 g7 g8 : Nat) (vo : Value) (out : List Ad) (o : Opn) (a : Ac) (vn v0 v1 : Value) : Prop :=
  (¬ AcOk a ∧ Own w wc [Rs.box g7 30 #[.int .i64 1, .int .i64 0, .int .i64 0, .slice none 0 0], Rs.row rAd 30 vo out, Rs.box g3 61 (oB o vn v0 v1), Rs.row rN 33 vn o.lg.notes, Rs.row rBS 22 v0 o.bs, Rs.row rW 147 v1 o.ws]) ∨
  (AcOk a ∧ a.op ≠ 4 ∧ ∃ m n0 n1, Own w wc [Rs.box g7 30 #[.int .i64 0, .int .i64 0, .int .i64 0, .slice none 0 0], Rs.box g8 61 (oB (nextL o a) m n0 n1), Rs.row rN 33 m (nextL o a).lg.notes, Rs.row rBS 22 n0 (nextL o a).bs, Rs.row rW 147 n1 (nextL o a).ws, Rs.row rAd 30 vo out, Rs.box g3 61 (oB o vn v0 v1), Rs.row rN 33 vn o.lg.notes, Rs.row rBS 22 v0 o.bs, Rs.row rW 147 v1 o.ws]) ∨
  (a.op = 4 ∧ ∃ fv, Own w wc [Rs.box g7 30 #[.int .i64 0, .int .i64 0, .int .i64 0, fv], Rs.row rI 3 fv (findL a.ask o.lg.notes), Rs.box g8 61 (oB o vn v0 v1), Rs.row rAd 30 vo out, Rs.box g3 61 (oB o vn v0 v1), Rs.row rN 33 vn o.lg.notes, Rs.row rBS 22 v0 o.bs, Rs.row rW 147 v1 o.ws])
theorem cut_next {w wc : World} {g3 g6 g7 g8 : Nat} {vo : Value} {out : List Ad} {o nx : Opn} {a : Ac} {vn v0 v1 m n0 n1 : Value} {c6 : Array Value} (hok : AcOk a) (h4 : a.op ≠ 4) (hn : nextL o a = nx)
    (O : Own w wc [Rs.box g8 61 (oB nx m n0 n1), Rs.row rN 33 m nx.lg.notes, Rs.row rBS 22 n0 nx.bs, Rs.row rW 147 n1 nx.ws, Rs.box g6 38 c6, Rs.box g7 30 #[.int .i64 0, .int .i64 0, .int .i64 0, .slice none 0 0], Rs.row rAd 30 vo out, Rs.box g3 61 (oB o vn v0 v1), Rs.row rN 33 vn o.lg.notes, Rs.row rBS 22 v0 o.bs, Rs.row rW 147 v1 o.ws]) : RunCut w wc g3 g7 g8 vo out o a vn v0 v1 := by
  subst hn
  exact .inr (.inl ⟨hok, h4, m, n0, n1, O.p4.drop.p4⟩)
theorem Inv.lgok {o : Opn} (h : Inv o) : o.ok = true ∧ o.lg.ok = true := ⟨h.1.1, by rw [h.1.2.2.1]; rfl⟩
theorem spoil_eq {T : List (List Int)} {p a : Int} {i j : Nat} (hi : i < T.length) (hj : j < T[i].length) (ei : (i : Int) = p / 64) (ej : (j : Int) = p % 64) : T.set i (T[i].set j (xorB T[i][j] a)) = spoilS T p a := by
  have h1 : (p / 64).toNat = i := by omega
  have h2 : (p % 64).toNat = j := by omega
  have hg : gBS T (p / 64) = T[i] := by rw [gBS_eq (by omega)]; simp only [h1]
  have hr : rd T[i] (p % 64) = T[i][j] := by
    show T[i].getD (p % 64).toNat 0 = _
    rw [h2, List.getD_eq_getElem?_getD, List.getElem?_eq_getElem hj]; rfl
  unfold spoilS spoilB
  rw [h1, h2, hg, hr]
theorem step_code1 {o : Opn} {a : Ac} (h : ¬ AcOk a) : afterL o a = o ∧ stepL o a = ⟨1, o.lg.notes.length, o.lg.safe, []⟩ := by
  have h4 : ¬ a.op = 4 := fun e => h (.inr (.inr (.inr (.inl e))))
  have hc : codeL o a = 1 := if_neg h
  have ha : afterL o a = o := by unfold afterL; rw [hc, if_neg (by omega)]
  refine ⟨ha, ?_⟩
  unfold stepL askL
  rw [hc, ha, if_neg h4]
theorem step_code2 {o : Opn} {a : Ac} (h : AcOk a) (h4 : a.op ≠ 4) (hn : (nextL o a).ok = false) : afterL o a = o ∧ stepL o a = ⟨2, o.lg.notes.length, o.lg.safe, []⟩ := by
  have hc : codeL o a = 2 := by unfold codeL; rw [if_pos h, if_neg (by rw [hn]; decide)]
  have ha : afterL o a = o := by unfold afterL; rw [hc, if_neg (by omega)]
  refine ⟨ha, ?_⟩
  unfold stepL askL
  rw [hc, ha, if_neg h4]
theorem step_code0 {o : Opn} {a : Ac} (h : AcOk a) (h4 : a.op ≠ 4) (hn : (nextL o a).ok = true) : afterL o a = nextL o a ∧ stepL o a = ⟨0, (nextL o a).lg.notes.length, (nextL o a).lg.safe, []⟩ := by
  have hc : codeL o a = 0 := by unfold codeL; rw [if_pos h, if_pos hn]
  have ha : afterL o a = nextL o a := by unfold afterL; rw [hc, if_pos rfl]
  refine ⟨ha, ?_⟩
  unfold stepL askL
  rw [hc, ha, if_neg h4]
theorem step_ask {o : Opn} {a : Ac} (h4 : a.op = 4) (ho : o.ok = true) : afterL o a = o ∧ stepL o a = ⟨0, o.lg.notes.length, o.lg.safe, findL a.ask o.lg.notes⟩ := by
  have h : AcOk a := .inr (.inr (.inr (.inl h4)))
  have hn : nextL o a = o := by unfold nextL; rw [if_neg (by omega), if_neg (by omega), if_neg (by omega), if_pos h4]
  have hc : codeL o a = 0 := by unfold codeL; rw [if_pos h, hn, if_pos ho]
  have ha : afterL o a = o := by unfold afterL; rw [hc, if_pos rfl, hn]
  refine ⟨ha, ?_⟩
  unfold stepL askL
  rw [hc, ha, if_pos h4]
end Go.Proofs.Ytocdlibnmlcokaa
namespace Go.Proofs.Ytocdlibnmlcokaa
open Go.RowKit Go.Proofs.YtocdlibnmlcokaaW.PrintWords Go.Proofs.YtocdlibnmlcokaaW.PrintLast
set_option linter.unusedVariables false
set_option linter.unusedSimpArgs false
set_option maxHeartbeats 8000000 in
set_option maxRecDepth 100000 in
theorem specRun_c (A : Option Addr) (c : Nat) (xs : List Ac) (w : World) (hx : rAc.d.C w A xs.length xs) (ht : ∀ x ∈ xs, x.note.text.size < 4294967281 ∧ x.ask.text.size < 4294967281) (hm : HasMax w) :
    Calls Try.prog 22 #[.slice A xs.length c] w (GotRow rAd 30 w (runL xs)) := by
  suffices H : ∀ Q : Ending → World → Prop, (∀ e w', GotRow rAd 30 w (runL xs) e w' → Q e w') → Calls Try.prog 22 #[.slice A xs.length c] w Q from H _ (fun e w' h => h)
  intro Q hQ
  have hl : xs.length ≤ 9223372036854775807 := hx.2.1
  have HX := Aside0.mk hx; have HT := Aside0.mk ht; have HQ := Aside0.mk hQ; have HM := Aside0.mk hm; clear hx ht hQ hm
  by_cases h300 : (xs.length : Int) ≤ 300
  rotate_left
  · have O := Aside0.mk ((Own.nil w).nilRow rAd 30)
    have HR : Aside0 (runL xs = []) := ⟨by unfold runL; rw [if_pos (by omega)]⟩
    go_enter Try.func22, Try.ntmps22
    go_wp2_with fail
    obtain ⟨f, hf, hnd, hl2, hc⟩ := O.out.take
    exact HQ.out _ _ ⟨_, rfl, by rw [HR.out]; exact ⟨f, hf, hnd, hl2⟩, O.out.bel⟩
  have HR : Aside0 (runL xs = outL (openL blankB []) xs xs.length) := ⟨by unfold runL; rw [if_neg (by omega)]⟩
  obtain ⟨S0, hop, hst⟩ := st_first
  have hinv := inv_first
  have hbd := dk_of blank_ok (ws := []) (by simp) (fun x hx => by simp at hx)
  have HBD := Aside0.mk hbd; have HOP := Aside0.mk hop; have HINV := Aside0.mk hinv; clear hst hbd hop hinv
  have O := Aside0.mk (Own.nil w)
  go_enter Try.func22, Try.ntmps22
  go_upto_region 3 with (fail)
  go_wp2_with fail
  refine (specBlank_c _).mono ?_
  intro e w2 hg
  obtain ⟨v0, v1, rfl, k⟩ := own_disk hg
  replace O := Aside0.mk (O.out.app2 k); clear k hg
  obtain ⟨B0, bc0, rfl, hbc⟩ := O.out.f0
  obtain ⟨B1, bc1, rfl, _⟩ := O.out.f1
  go_wp2_with fail
  refine (specOpen_yes _ _ _ _ blankB [] _ O.out.c0 O.out.c1 HBD.out.1 HBD.out.2).mono ?_
  rw [HOP.out]
  clear hbc HBD
  rintro e w3 ⟨vn, v0, v1, rfl, k⟩
  simp only at k
  replace O := Aside0.mk (Own.only [_, _, _] (O.out.app3 k)); clear k
  obtain ⟨An, Anc, rfl, _⟩ := O.out.f0
  obtain ⟨A0, A0c, rfl, hc0⟩ := O.out.f1
  obtain ⟨A1, A1c, rfl, _⟩ := O.out.f2
  have HC0 := Aside0.mk hc0; clear hc0
  go_upto_region 4 with (fail)
  generalize hw : w3.alloc _ = w4
  replace O := Aside0.mk (O.out.of hw); clear hw
  generalize w3.heap.size = g3 at O ⊢
  replace O := Aside0.mk (O.out.nilRow rAd 30)
  go_upto_region 5 with (fail)
  generalize Value.agg #[.slice B0 blankB.length bc0, .slice B1 0 bc1] = c13
  generalize Value.agg #[.bool true, .bool true, .slice An 0 Anc, .int .i64 0, .int .i64 1, .int .i64 0, .slice A0 S0.length A0c, .slice A1 0 A1c] = c14
  go_wp2
  go_loopg [4, 17] (xs.length + 1) (fun m v4 vi wr => ∃ (i : Nat) (ns : List Nt) (L G sf : Int) (S : List (List Int)) (ws : List Wr) (An A0 A1 : Option Addr) (Anc A0c A1c : Nat), vi = .int .i64 i ∧ Aside0 (i ≤ xs.length ∧ xs.length + 1 - i ≤ m) ∧ Aside0 (S.length ≤ A0c) ∧ Aside0 (stO (openL blankB []) xs i = ⟨true, ⟨true, ns, L, G, sf⟩, S, ws⟩) ∧
    Aside0 (Own w wr [Rs.row rAd 30 v4 (outL (openL blankB []) xs i), Rs.box g3 61 #[.bool true, .bool true, .slice An ns.length Anc, .int .i64 L, .int .i64 G, .int .i64 sf, .slice A0 S.length A0c, .slice A1 ws.length A1c], Rs.row rN 33 (.slice An ns.length Anc) ns, Rs.row rBS 22 (.slice A0 S.length A0c) S, Rs.row rW 147 (.slice A1 ws.length A1c) ws]))
  case atStart => exact ⟨0, [], 0, 1, (0 : Nat), S0, [], An, A0, A1, Anc, A0c, A1c, rfl, ⟨by omega, by omega⟩, HC0, HOP, O⟩
  case round =>
    clear O HC0
    obtain ⟨i, ns, L, G, sf, S, ws, An, A0, A1, Anc, A0c, A1c, rfl, HI, HC0, HST, O⟩ := hrel
    obtain ⟨out, hout⟩ : ∃ out, out = outL (openL blankB []) xs i := ⟨_, rfl⟩
    rw [← hout] at O
    have hol : out.length = i := by rw [hout, outL_len]
    have HOUT := Aside0.mk hout; clear hout
    have HIV : Aside0 (Inv ⟨true, ⟨true, ns, L, G, sf⟩, S, ws⟩) := ⟨by rw [← HST.out]; exact inv_st HINV.out xs i⟩
    have HOL := Aside0.mk hol; clear hol
    by_cases hi : i < xs.length
    · obtain ⟨Po, pc, rfl, _⟩ := O.out.f0
      obtain ⟨ad, K, kc, e1, a0, a1, a2, a3, a4, a5, a6, a7, a8, a9, a10, a11, a12, a13, _, hC1⟩ := at_Ac HX.out (i : Int) (by omega) (by omega)
      cases e1
      simp only [Int.toNat_natCast] at a0 a1 a2 a3 a4 a5 a6 a7 a8 a9 a10 a11 a12 a13
      obtain ⟨x, hxe⟩ : ∃ x, x = gA xs i := ⟨_, rfl⟩
      rw [← hxe] at a0 a1 a2 a3 a4 a5 a6 a7 a8 a9 a10 a11 a12 a13 hC1
      have HKC := Aside0.mk hC1
      have htx : x.note.text.size < 4294967281 ∧ x.ask.text.size < 4294967281 := by rw [hxe, gA_eq (by omega)]; exact HT.out _ (List.getElem_mem _)
      have hkl : x.kept.length ≤ 9223372036854775807 := hC1.2.1
      have HSO : Aside0 (stO (openL blankB []) xs (i + 1) = afterL ⟨true, ⟨true, ns, L, G, sf⟩, S, ws⟩ x ∧ outL (openL blankB []) xs (i + 1) = out ++ [stepL ⟨true, ⟨true, ns, L, G, sf⟩, S, ws⟩ x]) := ⟨by simp only [stO, outL]; rw [← hxe, HST.out, HOUT.out]; exact ⟨rfl, rfl⟩⟩
      clear hxe hC1
      replace a0 := pw_cell_below O.out.bel a0; replace a1 := pw_cell_below O.out.bel a1; replace a2 := pw_cell_below O.out.bel a2; replace a3 := pw_cell_below O.out.bel a3; replace a4 := pw_cell_below O.out.bel a4; replace a5 := pw_cell_below O.out.bel a5; replace a6 := pw_cell_below O.out.bel a6; replace a7 := pw_cell_below O.out.bel a7; replace a8 := pw_cell_below O.out.bel a8; replace a9 := pw_cell_below O.out.bel a9; replace a10 := pw_cell_below O.out.bel a10; replace a11 := pw_cell_below O.out.bel a11; replace a12 := pw_cell_below O.out.bel a12; replace a13 := pw_cell_below O.out.bel a13
      go_upto_region 8 with (fail)
      generalize hw : World.alloc _ _ = w5
      replace O := Aside0.mk (O.out.of hw); clear hw a0 a1 a2 a3 a4 a5 a6 a7 a8 a9 a10 a11 a12 a13
      generalize wr.heap.size = g6 at O ⊢
      go_upto_region 9 with (fail)
      rename_i Kq hKq
      have HKq := Aside0.mk hKq; clear hKq
      generalize hw : World.alloc _ _ = w6
      replace O := Aside0.mk (O.out.of hw); clear hw
      generalize w5.heap.size = g7 at O ⊢
      go_wp2_with fail
      generalize hw : World.alloc _ _ = w7
      replace O := Aside0.mk (O.out.of hw); clear hw
      generalize w6.heap.size = g8 at O ⊢
      refine HKq.out _ _ ?_
      clear HKq Kq
      go_step
      go_cut [9] from 18 to 107 (fun v9 wc => RunCut w wc g3 g7 g8 (.slice Po out.length pc) out ⟨true, ⟨true, ns, L, G, sf⟩, S, ws⟩ x (.slice An ns.length Anc) (.slice A0 S.length A0c) (.slice A1 ws.length A1c))
      case first =>
        replace O := Aside0.mk O.out.p1.p2
        have HI2 := HIV.out
        have a0 := (blk_cell O.out.b0 0).trans rfl; have a1 := (blk_cell O.out.b0 1).trans rfl; have a2 := (blk_cell O.out.b0 2).trans rfl; have a3 := (blk_cell O.out.b0 3).trans rfl; have a4 := (blk_cell O.out.b0 4).trans rfl; have a5 := (blk_cell O.out.b0 5).trans rfl; have a6 := (blk_cell O.out.b0 6).trans rfl; have a7 := (blk_cell O.out.b0 7).trans rfl; have a8 := (blk_cell O.out.b0 8).trans rfl; have a9 := (blk_cell O.out.b0 9).trans rfl; have a10 := (blk_cell O.out.b0 10).trans rfl; have a11 := (blk_cell O.out.b0 11).trans rfl; have a12 := (blk_cell O.out.b0 12).trans rfl; have a13 := (blk_cell O.out.b0 13).trans rfl
        go_wp2_with fail
        refine (l4act_c x K kc (decide (AcOk x)) decide_eq_true_iff _ (by omega) hkl).mono ?_
        rintro e w8 ⟨rfl, hb⟩
        replace O := Aside0.mk (O.out.below hb); clear hb a0 a1 a2 a3 a4 a5 a6 a7 a8 a9 a10 a11 a12 a13
        by_cases hac : AcOk x
        rotate_left
        · rw [decide_eq_false hac]
          have HAC := Aside0.mk hac; clear hac
          have c0 := (blk_cell O.out.b1 0).trans rfl; have z0 := blk_frozen O.out.b1 0
          go_wp2_with fail
          generalize hw : World.setCell _ _ _ = w9
          replace O := Aside0.mk (O.out.p1.st hw #[.int .i64 1, .int .i64 0, .int .i64 0, .slice none 0 0] rfl); clear hw c0 z0
          go_meet
          case rel => exact .inl ⟨HAC.out, O.out.p1.drop.p1.drop⟩
        rw [decide_eq_true hac]
        have hcase := hac
        have HAC := Aside0.mk hac; clear hac
        have a0 := (blk_cell O.out.b0 0).trans rfl
        rcases hcase with ⟨e1, hno⟩ | e2 | ⟨e3, hk200⟩ | e4 | ⟨e5, hp0, hp1, hq0, hq1⟩
        · have HE := Aside0.mk e1
          have HNX : Aside0 (nextL ⟨true, ⟨true, ns, L, G, sf⟩, S, ws⟩ x = appendO S ws x.note) := ⟨by unfold nextL; rw [if_pos HE.out]⟩
          have HNO := Aside0.mk hno
          obtain ⟨E1, _⟩ := eqT e1
          clear e1 hno
          have a1 := (blk_cell O.out.b0 1).trans rfl; have a2 := (blk_cell O.out.b0 2).trans rfl; have a3 := (blk_cell O.out.b0 3).trans rfl; have a4 := (blk_cell O.out.b0 4).trans rfl; have a5 := (blk_cell O.out.b0 5).trans rfl
          have p0 := (blk_cell O.out.b4 0).trans rfl; have p1 := (blk_cell O.out.b4 1).trans rfl; have p2 := (blk_cell O.out.b4 2).trans rfl; have p3 := (blk_cell O.out.b4 3).trans rfl; have p4 := (blk_cell O.out.b4 4).trans rfl; have p5 := (blk_cell O.out.b4 5).trans rfl; have p6 := (blk_cell O.out.b4 6).trans rfl; have p7 := (blk_cell O.out.b4 7).trans rfl
          go_wp2_with fail
          refine (specAppend_yes An A0 A1 Anc A0c A1c true true ns L G sf S ws x.note _ O.out.c5 O.out.c6 O.out.c7 HC0.out HIV.out.2 (by omega) HIV.out.1 HNO.out).mono ?_
          clear a1 a2 a3 a4 a5 p0 p1 p2 p3 p4 p5 p6 p7
          obtain ⟨nx, hnxe⟩ : ∃ nx, nx = appendO S ws x.note := ⟨_, rfl⟩
          rw [← hnxe]; rw [← hnxe] at HNX
          clear hnxe
          obtain ⟨nok, ⟨nlk, nns, nL, nG, nsf⟩, nS, nws⟩ := nx
          rintro e w9 ⟨vn, v0, v1, rfl, k⟩
          simp only at k
          replace O := Aside0.mk (O.out.app3 k); clear k
          obtain ⟨M0, mc0, rfl, _⟩ := O.out.f0
          obtain ⟨M1, mc1, rfl, _⟩ := O.out.f1
          obtain ⟨M2, mc2, rfl, _⟩ := O.out.f2
          replace O := Aside0.mk O.out
          have q0 := (blk_cell O.out.b5 0).trans rfl; have q1 := (blk_cell O.out.b5 1).trans rfl; have q2 := (blk_cell O.out.b5 2).trans rfl; have q3 := (blk_cell O.out.b5 3).trans rfl; have q4 := (blk_cell O.out.b5 4).trans rfl; have q5 := (blk_cell O.out.b5 5).trans rfl; have q6 := (blk_cell O.out.b5 6).trans rfl; have q7 := (blk_cell O.out.b5 7).trans rfl
          have z0 := blk_frozen O.out.b5 0; have z1 := blk_frozen O.out.b5 1; have z2 := blk_frozen O.out.b5 2; have z3 := blk_frozen O.out.b5 3; have z4 := blk_frozen O.out.b5 4; have z5 := blk_frozen O.out.b5 5; have z6 := blk_frozen O.out.b5 6; have z7 := blk_frozen O.out.b5 7
          go_wp2
          generalize hw : World.setCell _ _ _ = w10
          replace O := Aside0.mk (O.out.p5.st8 hw); clear hw q0 z0 q1 z1 q2 z2 q3 z3 q4 z4 q5 z5 q6 z6 q7 z7
          go_meet
          case rel => exact cut_next HAC.out (by rw [HE.out]; decide) HNX.out O.out
        · have HE := Aside0.mk e2
          have HNX : Aside0 (nextL ⟨true, ⟨true, ns, L, G, sf⟩, S, ws⟩ x = commitS (syncL S ws)) := ⟨by unfold nextL; rw [if_neg (by rw [HE.out]; decide), if_pos HE.out]⟩
          obtain ⟨E1, _⟩ := eqF (show ¬ x.op = 1 by omega)
          obtain ⟨E2, _⟩ := eqT e2
          clear e2
          have p0 := (blk_cell O.out.b4 0).trans rfl; have p1 := (blk_cell O.out.b4 1).trans rfl; have p2 := (blk_cell O.out.b4 2).trans rfl; have p3 := (blk_cell O.out.b4 3).trans rfl; have p4 := (blk_cell O.out.b4 4).trans rfl; have p5 := (blk_cell O.out.b4 5).trans rfl; have p6 := (blk_cell O.out.b4 6).trans rfl; have p7 := (blk_cell O.out.b4 7).trans rfl
          go_wp2_with fail
          refine (specCommit_yes An A0 A1 Anc A0c A1c true true ns L G sf S ws _ O.out.c5 O.out.c6 O.out.c7 HC0.out HIV.out.2 HIV.out.1).mono ?_
          clear p0 p1 p2 p3 p4 p5 p6 p7
          obtain ⟨nx, hnxe⟩ : ∃ nx, nx = commitS (syncL S ws) := ⟨_, rfl⟩
          rw [← hnxe]; rw [← hnxe] at HNX
          clear hnxe
          obtain ⟨nok, ⟨nlk, nns, nL, nG, nsf⟩, nS, nws⟩ := nx
          rintro e w9 ⟨vn, v0, v1, rfl, k⟩
          simp only at k
          replace O := Aside0.mk (O.out.app3 k); clear k
          obtain ⟨M0, mc0, rfl, _⟩ := O.out.f0
          obtain ⟨M1, mc1, rfl, _⟩ := O.out.f1
          obtain ⟨M2, mc2, rfl, _⟩ := O.out.f2
          replace O := Aside0.mk O.out
          have q0 := (blk_cell O.out.b5 0).trans rfl; have q1 := (blk_cell O.out.b5 1).trans rfl; have q2 := (blk_cell O.out.b5 2).trans rfl; have q3 := (blk_cell O.out.b5 3).trans rfl; have q4 := (blk_cell O.out.b5 4).trans rfl; have q5 := (blk_cell O.out.b5 5).trans rfl; have q6 := (blk_cell O.out.b5 6).trans rfl; have q7 := (blk_cell O.out.b5 7).trans rfl
          have z0 := blk_frozen O.out.b5 0; have z1 := blk_frozen O.out.b5 1; have z2 := blk_frozen O.out.b5 2; have z3 := blk_frozen O.out.b5 3; have z4 := blk_frozen O.out.b5 4; have z5 := blk_frozen O.out.b5 5; have z6 := blk_frozen O.out.b5 6; have z7 := blk_frozen O.out.b5 7
          go_wp2
          generalize hw : World.setCell _ _ _ = w10
          replace O := Aside0.mk (O.out.p5.st8 hw); clear hw q0 z0 q1 z1 q2 z2 q3 z3 q4 z4 q5 z5 q6 z6 q7 z7
          go_meet
          case rel => exact cut_next HAC.out (by rw [HE.out]; decide) HNX.out O.out
        · have HE := Aside0.mk e3
          obtain ⟨T, hT⟩ : ∃ T, T = settleL S ws (kfL false x.kept) := ⟨_, rfl⟩
          have HNX : Aside0 (nextL ⟨true, ⟨true, ns, L, G, sf⟩, S, ws⟩ x = openL T []) := ⟨by rw [hT]; unfold nextL; rw [if_neg (by rw [HE.out]; decide), if_neg (by rw [HE.out]; decide), if_pos HE.out]⟩
          have hbl : BlOk T := hT ▸ settle_bytes _ HIV.out.1.2.1 HIV.out.2
          have HT2 := Aside0.mk hT; have HBL := Aside0.mk hbl
          obtain ⟨E1, _⟩ := eqF (show ¬ x.op = 1 by omega)
          obtain ⟨E2, _⟩ := eqF (show ¬ x.op = 2 by omega)
          obtain ⟨E3, _⟩ := eqT e3
          clear e3 hT hbl
          have a6 := (blk_cell O.out.b0 6).trans rfl
          have p6 := (blk_cell O.out.b4 6).trans rfl; have p7 := (blk_cell O.out.b4 7).trans rfl
          go_wp2_with fail
          refine (specCrash_yes A0 A1 K A0c A1c kc S ws x.kept _ O.out.c6 O.out.c7 (Kd.C_below HKC.out O.out.bel) HIV.out.1.2.1).mono ?_
          intro e w21 hg
          rw [← HT2.out] at hg
          obtain ⟨v0, v1, rfl, k⟩ := own_disk hg
          replace O := Aside0.mk (O.out.app2 k); clear k hg a6 p6 p7
          obtain ⟨D0, D0c, rfl, _⟩ := O.out.f0
          obtain ⟨D1, D1c, rfl, _⟩ := O.out.f1
          have hd := dk_of HBL.out (ws := []) (by simp) (fun x hx => by simp at hx)
          go_wp2_with fail
          refine (specOpen_yes D0 D1 D0c D1c T [] _ O.out.c0 O.out.c1 hd.1 hd.2).mono ?_
          clear hd
          obtain ⟨nx, hnxe⟩ : ∃ nx, nx = openL T [] := ⟨_, rfl⟩
          rw [← hnxe]; rw [← hnxe] at HNX
          clear hnxe
          obtain ⟨nok, ⟨nlk, nns, nL, nG, nsf⟩, nS, nws⟩ := nx
          rintro e w9 ⟨vn, v0, v1, rfl, k⟩
          simp only at k
          replace O := Aside0.mk (O.out.app3 k); clear k
          obtain ⟨M0, mc0, rfl, _⟩ := O.out.f0
          obtain ⟨M1, mc1, rfl, _⟩ := O.out.f1
          obtain ⟨M2, mc2, rfl, _⟩ := O.out.f2
          replace O := Aside0.mk O.out.p3.drop.p3.drop
          have q0 := (blk_cell O.out.b5 0).trans rfl; have q1 := (blk_cell O.out.b5 1).trans rfl; have q2 := (blk_cell O.out.b5 2).trans rfl; have q3 := (blk_cell O.out.b5 3).trans rfl; have q4 := (blk_cell O.out.b5 4).trans rfl; have q5 := (blk_cell O.out.b5 5).trans rfl; have q6 := (blk_cell O.out.b5 6).trans rfl; have q7 := (blk_cell O.out.b5 7).trans rfl
          have z0 := blk_frozen O.out.b5 0; have z1 := blk_frozen O.out.b5 1; have z2 := blk_frozen O.out.b5 2; have z3 := blk_frozen O.out.b5 3; have z4 := blk_frozen O.out.b5 4; have z5 := blk_frozen O.out.b5 5; have z6 := blk_frozen O.out.b5 6; have z7 := blk_frozen O.out.b5 7
          go_wp2
          generalize hw : World.setCell _ _ _ = w10
          replace O := Aside0.mk (O.out.p5.st8 hw); clear hw q0 z0 q1 z1 q2 z2 q3 z3 q4 z4 q5 z5 q6 z6 q7 z7
          go_meet
          case rel => exact cut_next HAC.out (by rw [HE.out]; decide) HNX.out O.out
        · have HE := Aside0.mk e4
          obtain ⟨F, hF⟩ : ∃ F, F = findL x.ask ns := ⟨_, rfl⟩
          have HF := Aside0.mk hF; clear hF
          have HTX : Aside0 (∀ y ∈ ns, y.text.size < 4294967281) := ⟨fun y hy => by have := (HIV.out.notes.1 y hy).2.2.2; omega⟩
          have hnl : ns.length ≤ 7112 := HIV.out.notes.2
          obtain ⟨E1, _⟩ := eqF (show ¬ x.op = 1 by omega)
          obtain ⟨E2, _⟩ := eqF (show ¬ x.op = 2 by omega)
          obtain ⟨E3, _⟩ := eqF (show ¬ x.op = 3 by omega)
          obtain ⟨E4, _⟩ := eqT e4
          clear e4
          have p0 := (blk_cell O.out.b4 0).trans rfl; have p1 := (blk_cell O.out.b4 1).trans rfl; have p2 := (blk_cell O.out.b4 2).trans rfl; have p3 := (blk_cell O.out.b4 3).trans rfl; have p4 := (blk_cell O.out.b4 4).trans rfl; have p5 := (blk_cell O.out.b4 5).trans rfl; have p6 := (blk_cell O.out.b4 6).trans rfl; have p7 := (blk_cell O.out.b4 7).trans rfl
          have q0 := (blk_cell O.out.b2 0).trans rfl; have q1 := (blk_cell O.out.b2 1).trans rfl; have q2 := (blk_cell O.out.b2 2).trans rfl; have q3 := (blk_cell O.out.b2 3).trans rfl; have q4 := (blk_cell O.out.b2 4).trans rfl; have q5 := (blk_cell O.out.b2 5).trans rfl; have q6 := (blk_cell O.out.b2 6).trans rfl; have q7 := (blk_cell O.out.b2 7).trans rfl
          have z0 := blk_frozen O.out.b2 0; have z1 := blk_frozen O.out.b2 1; have z2 := blk_frozen O.out.b2 2; have z3 := blk_frozen O.out.b2 3; have z4 := blk_frozen O.out.b2 4; have z5 := blk_frozen O.out.b2 5; have z6 := blk_frozen O.out.b2 6; have z7 := blk_frozen O.out.b2 7
          go_upto_region 24 with (fail)
          generalize hw : World.setCell _ _ _ = w9
          replace O := Aside0.mk (O.out.p2.st8 hw); clear hw p0 q0 z0 p1 q1 z1 p2 q2 z2 p3 q3 z3 p4 q4 z4 p5 q5 z5 p6 q6 z6 p7 q7 z7
          have a7 := (blk_cell O.out.b1 7).trans rfl; have a8 := (blk_cell O.out.b1 8).trans rfl; have a9 := (blk_cell O.out.b1 9).trans rfl; have a10 := (blk_cell O.out.b1 10).trans rfl; have a11 := (blk_cell O.out.b1 11).trans rfl
          have p2 := (blk_cell O.out.b4 2).trans rfl
          go_wp2_with fail
          refine (specFind_c An Anc ns x.ask _ O.out.c5 HTX.out htx.2 (by omega)).mono ?_
          rw [← HF.out]
          intro e w10 hg
          obtain ⟨v, rfl, k⟩ := own_row hg
          replace O := Aside0.mk (O.out.app1 k); clear k hg p2 a7 a8 a9 a10 a11
          obtain ⟨F0, fc0, rfl, _⟩ := O.out.f0
          have q3 := (blk_cell O.out.b3 3).trans rfl; have z3 := blk_frozen O.out.b3 3
          go_wp2
          generalize hw : World.setCell _ _ _ = w11
          replace O := Aside0.mk (O.out.p3.st hw #[.int .i64 0, .int .i64 0, .int .i64 0, .slice F0 F.length fc0] rfl); clear hw q3 z3
          go_meet
          case rel => exact .inr (.inr ⟨HE.out, .slice F0 F.length fc0, by rw [← HF.out]; exact O.out.p3.drop⟩)
        · have HE := Aside0.mk e5
          obtain ⟨T, hT⟩ : ∃ T, T = syncL S ws := ⟨_, rfl⟩
          obtain ⟨U, hU⟩ : ∃ U, U = spoilS T x.pos x.amt := ⟨_, rfl⟩
          have HNX : Aside0 (nextL ⟨true, ⟨true, ns, L, G, sf⟩, S, ws⟩ x = openL U []) := ⟨by rw [hU, hT]; unfold nextL; rw [if_neg (by rw [HE.out]; decide), if_neg (by rw [HE.out]; decide), if_neg (by rw [HE.out]; decide), if_neg (by rw [HE.out]; decide)]⟩
          have hbl : BlOk T := hT ▸ sync_ok HIV.out.1.2.1 HIV.out.2
          have hbl2 : BlOk U := hU ▸ spoil_ok hbl hp0 hp1
          have hul : U.length = T.length := by rw [hbl.1, hbl2.1]
          have HU := Aside0.mk hU; have HUL := Aside0.mk hul
          have HT2 := Aside0.mk hT; have HBL := Aside0.mk hbl; have HBL2 := Aside0.mk hbl2
          obtain ⟨E1, _⟩ := eqF (show ¬ x.op = 1 by omega)
          obtain ⟨E2, _⟩ := eqF (show ¬ x.op = 2 by omega)
          obtain ⟨E3, _⟩ := eqF (show ¬ x.op = 3 by omega)
          obtain ⟨E4, _⟩ := eqF (show ¬ x.op = 4 by omega)
          clear e5 hT hbl hbl2 hU hul
          have p6 := (blk_cell O.out.b4 6).trans rfl; have p7 := (blk_cell O.out.b4 7).trans rfl
          go_wp2_with fail
          refine (specSync_yes A0 A1 A0c A1c S ws _ O.out.c6 O.out.c7 HIV.out.1.2.1).mono ?_
          rw [show settleL S ws (kfL true []) = T from HT2.out.symm]
          intro e w21 hg
          obtain ⟨v0, v1, rfl, k⟩ := own_disk hg
          replace O := Aside0.mk (O.out.app2 k); clear k hg p6 p7
          obtain ⟨D0, D0c, rfl, _⟩ := O.out.f0
          obtain ⟨D1, D1c, rfl, _⟩ := O.out.f1
          go_upto_region 11 with (fail)
          generalize hw : World.alloc _ _ = w22
          replace O := Aside0.mk (O.out.of hw); clear hw
          generalize w21.heap.size = g9 at O ⊢
          have hd := dk_of HBL.out (ws := []) (by simp) (fun x hx => by simp at hx)
          have p0 := (blk_cell O.out.b0 0).trans rfl; have p1 := (blk_cell O.out.b0 1).trans rfl
          go_wp2_with fail
          refine (specDiskOk_c D0 D1 D0c D1c T [] true ⟨fun _ => hd.1, fun _ => rfl⟩ _ O.out.c1 O.out.c2).mono ?_
          clear hd
          rintro e w23 ⟨rfl, hb⟩
          replace O := Aside0.mk (O.out.below hb); clear hb p0 p1
          go_upto_region 12 with (fail)
          have hTl := HBL.out.1
          obtain ⟨i0, hi0⟩ : ∃ i0 : Nat, (i0 : Int) = x.pos / 64 := ⟨(x.pos / 64).toNat, by omega⟩
          obtain ⟨j0, hj0⟩ : ∃ j0 : Nat, (j0 : Int) = x.pos % 64 := ⟨(x.pos % 64).toNat, by omega⟩
          have hi1 : i0 < T.length := by omega
          have hj1 : j0 < 64 := by omega
          have hi128 : i0 < 128 := by omega
          have hlb : T[i0].length = 64 := (HBL.out.2 _ (List.getElem_mem hi1)).1
          have hj2 : j0 < T[i0].length := by omega
          have htd : Int.tdiv x.pos 64 = i0 := by rw [Int.tdiv_eq_ediv_of_nonneg hp0, hi0]
          have htm : Int.tmod x.pos 64 = j0 := by rw [Int.tmod_eq_emod_of_nonneg hp0, hj0]
          have hse := spoil_eq (a := x.amt) hi1 hj2 hi0 hj0
          rw [← HU.out] at hse
          obtain ⟨gd, ge, ce, e', hnn, k1, k2, k3, hsetA⟩ := Own.set88 O.out.p1 hi1 hj2
          clear hsetA
          subst e'
          have p0 := (blk_cell O.out.b0 0).trans rfl; have a12 := (blk_cell O.out.b3 12).trans rfl; have a13 := (blk_cell O.out.b3 13).trans rfl
          obtain ⟨bl, hbl⟩ : ∃ bl, bl = T[i0].length := ⟨_, rfl⟩
          rw [← hbl] at k1
          obtain ⟨vv, hvv⟩ : ∃ vv, vv = T[i0][j0] := ⟨_, rfl⟩
          rw [← hvv] at k2 hse
          have HSE := Aside0.mk hse; have HVV := Aside0.mk hvv
          have hj3 : (j0 : Int) < (bl : Int) := by omega
          have HBLE := Aside0.mk hbl
          clear hi0 hj0 hnn hse hvv hTl hlb hbl
          refine sta (fun w' => w'.cell? ⟨g9, 0, none⟩ = some (.slice (some ⟨gd, 0, none⟩) T.length D0c) ∧ w'.cell? ⟨g6, 12, none⟩ = some (.int .i64 x.pos) ∧ w'.cell? ⟨g6, 13, none⟩ = some (.int .i64 x.amt) ∧ w'.cell? ⟨gd, i0, none⟩ = some (.slice (some ⟨ge, 0, none⟩) bl ce) ∧ w'.cell? ⟨ge, j0, none⟩ = some (.int .u8 vv)) [17] 18 ⟨p0, a12, a13, k1, k2⟩ (fun hS => ?_)
          clear p0 a12 a13 k1 k2 k3
          replace O := Aside0.mk O.out.drew
          generalize World.drew _ = w24 at O hS ⊢
          refine pu 0 1 ?_
          refine tk 1 3 hS ?_
          refine pu 2 7 ?_
          refine tk 3 15 hS ?_
          refine pu (v := .int .i64 i0) 4 31 ?_ (hr := fun w' => by go_simp; all_goals (first | rfl | omega | (rw [i64_w]; unfold wrap64; omega)))
          refine pu 5 63 ?_
          refine tk 6 127 hS ?_
          refine pu 7 255 ?_
          refine tk 8 511 hS ?_
          refine pu (v := .int .i64 j0) 9 1023 ?_ (hr := fun w' => by go_simp; all_goals (first | rfl | omega | (rw [i64_w]; unfold wrap64; omega)))
          refine pu 10 2047 ?_
          refine tk 11 4095 hS ?_
          refine pu 12 8191 ?_
          refine tk 13 16383 hS ?_
          refine pu 14 32767 ?_
          obtain ⟨y, hy⟩ : ∃ y, y = xorB vv x.amt := ⟨_, rfl⟩
          have HYE := Aside0.mk hy
          refine pu (v := .int .u8 y) 15 65535 ?_ (hr := fun w' => by rw [hy]; unfold xorB; go_simp; all_goals (first | rfl | omega))
          clear hy
          refine pu 16 131071 ?_
          obtain ⟨gd', ge', ce', e', hnn, k1', k2, k3, hset⟩ := Own.set88 O.out.p1 hi1 hj2
          injection e' with e'
          injection e' with e' _ _
          subst e'
          rw [← HBLE.out] at k1'
          have h4 := hS.2.2.2.1
          rw [k1'] at h4
          injection h4 with h4
          injection h4 with h4 _ _
          injection h4 with h4
          injection h4 with h4 _ _
          subst h4
          have hset2 := hset y
          rw [HYE.out, HSE.out, ← HYE.out] at hset2
          clear hnn k1' hset
          refine la 17 262143 (fun K hK => ?_)
          refine st ?_
          generalize hw : World.setCell _ _ _ = w25 at hset2 ⊢
          replace O := Aside0.mk hset2
          clear hset2 hw hS k2 k3 hj3 htd htm HSE HVV HYE HBLE hj2 hi1
          refine nl hK (dn ?_)
          clear hK K
          have hd := dk_of HBL2.out (ws := []) (by simp) (fun x hx => by simp at hx)
          have hopn := specOpen_yes (some ⟨gd, 0, none⟩) D1 D0c D1c U [] w25 O.out.c0 O.out.c2 hd.1 hd.2
          rw [HUL.out] at hopn
          have HOPN := Aside0.mk hopn; clear hopn hd
          have p0 := (blk_cell O.out.b1 0).trans rfl; have p1 := (blk_cell O.out.b1 1).trans rfl
          go_wp2_with fail
          refine HOPN.out.mono ?_
          clear HOPN p0 p1
          obtain ⟨nx, hnxe⟩ : ∃ nx, nx = openL U [] := ⟨_, rfl⟩
          rw [← hnxe]; rw [← hnxe] at HNX
          clear hnxe
          obtain ⟨nok, ⟨nlk, nns, nL, nG, nsf⟩, nS, nws⟩ := nx
          rintro e w9 ⟨vn, v0, v1, rfl, k⟩
          simp only at k
          replace O := Aside0.mk (O.out.app3 k); clear k
          obtain ⟨M0, mc0, rfl, _⟩ := O.out.f0
          obtain ⟨M1, mc1, rfl, _⟩ := O.out.f1
          obtain ⟨M2, mc2, rfl, _⟩ := O.out.f2
          replace O := Aside0.mk O.out.p3.drop.p3.drop.p3.drop
          have q0 := (blk_cell O.out.b5 0).trans rfl; have q1 := (blk_cell O.out.b5 1).trans rfl; have q2 := (blk_cell O.out.b5 2).trans rfl; have q3 := (blk_cell O.out.b5 3).trans rfl; have q4 := (blk_cell O.out.b5 4).trans rfl; have q5 := (blk_cell O.out.b5 5).trans rfl; have q6 := (blk_cell O.out.b5 6).trans rfl; have q7 := (blk_cell O.out.b5 7).trans rfl
          have z0 := blk_frozen O.out.b5 0; have z1 := blk_frozen O.out.b5 1; have z2 := blk_frozen O.out.b5 2; have z3 := blk_frozen O.out.b5 3; have z4 := blk_frozen O.out.b5 4; have z5 := blk_frozen O.out.b5 5; have z6 := blk_frozen O.out.b5 6; have z7 := blk_frozen O.out.b5 7
          go_wp2
          generalize hw : World.setCell _ _ _ = w10
          replace O := Aside0.mk (O.out.p5.st8 hw); clear hw q0 z0 q1 z1 q2 z2 q3 z3 q4 z4 q5 z5 q6 z6 q7 z7
          go_meet
          case rel => exact cut_next HAC.out (by rw [HE.out]; decide) HNX.out O.out
      case rest =>
        clear O
        rename_i Kr hKr
        refine hKr _ _ ?_
        clear hKr Kr
        go_step
        have hns : ns.length ≤ 9223372036854775807 := by have := HIV.out.notes.2; simp only at this; omega
        rcases hcut with ⟨hac, O⟩ | ⟨hac, h4, m, n0, n1, O⟩ | ⟨h4, fv, O⟩
        · simp only [oB] at O
          have hst := step_code1 (o := ⟨true, ⟨true, ns, L, G, sf⟩, S, ws⟩) hac
          have HFIN : Aside0 (stO (openL blankB []) xs (i + 1) = ⟨true, ⟨true, ns, L, G, sf⟩, S, ws⟩) := ⟨HSO.out.1.trans hst.1⟩
          have HOUT2 : Aside0 (outL (openL blankB []) xs (i + 1) = out ++ [⟨1, (ns.length : Nat), sf, []⟩]) := ⟨by rw [HSO.out.2, hst.2]⟩
          clear hst
          clear hac
          replace O := Aside0.mk (O.nilRow rI 3).p1
          have c0 := (blk_cell O.out.b0 0).trans rfl
          go_upto_region 29 with (fail)
          clear c0
          have z1 := blk_frozen O.out.b0 1; have c1 := (blk_cell O.out.b0 1).trans rfl; have p2 := (blk_cell O.out.b3 2).trans rfl
          go_upto_region 30 with (fail)
          generalize hw : World.setCell _ _ _ = wA
          replace O := Aside0.mk (O.out.st hw #[.int .i64 1, .int .i64 (ns.length : Nat), .int .i64 0, .slice none 0 0] rfl); clear hw z1 c1 p2
          have z2 := blk_frozen O.out.b0 2; have c2 := (blk_cell O.out.b0 2).trans rfl; have p5 := (blk_cell O.out.b3 5).trans rfl
          go_upto_region 31 with (fail)
          generalize hw : World.setCell _ _ _ = wB
          replace O := Aside0.mk (O.out.st hw #[.int .i64 1, .int .i64 (ns.length : Nat), .int .i64 sf, .slice none 0 0] rfl); clear hw z2 c2 p5
          have c0 := (blk_cell O.out.b0 0).trans rfl; have c1 := (blk_cell O.out.b0 1).trans rfl; have c2 := (blk_cell O.out.b0 2).trans rfl; have c3 := (blk_cell O.out.b0 3).trans rfl
          replace O := Aside0.mk (O.out.p1.as (R := Rs.cel rAd (cAd (⟨1, (ns.length : Nat), sf, []⟩ : Ad) (.slice none 0 0)) (⟨1, (ns.length : Nat), sf, []⟩ : Ad)) (fun f hf => Ad_mk (⟨1, (ns.length : Nat), sf, []⟩ : Ad) hf)).p2
          go_upto_region 32 with (at_builtin; go_loud (refine Own.app_one rAd rfl (.tmp 103) (.tmp 105) 25 30 (.agg #[.int .i64 0, .int .i64 0, .int .i64 0, .slice none 0 0]) 48 rfl Try.underlying25 info30 rfl (by decide) (by decide) (.slice Po out.length pc) out (⟨1, (ns.length : Nat), sf, []⟩ : Ad) _ rfl rfl O.out (by have := HOL.out; omega) ?_); intro v5 w5 hX; have O5 := Aside0.mk hX; clear hX)
          clear O c0 c1 c2 c3
          replace O5 := Aside0.mk O5.out.p1.drop
          rw [← HOUT2.out] at O5
          go_wp2
          go_roundg (gk - 1)
          case measure => have := HI.out; omega
          case rel => exact ⟨i + 1, ns, L, G, sf, S, ws, An, A0, A1, Anc, A0c, A1c, by first | rfl | (congr 1; omega), ⟨by omega, by have := HI.out; omega⟩, HC0, HFIN, O5⟩
        · obtain ⟨nx, hnx⟩ : ∃ nx, nx = nextL ⟨true, ⟨true, ns, L, G, sf⟩, S, ws⟩ x := ⟨_, rfl⟩
          rw [← hnx] at O
          have hninv : nx.ok = true → Inv nx := fun h => by rw [hnx] at h ⊢; exact inv_next HIV.out hac h
          obtain ⟨nok, ⟨nlk, nns, nL, nG, nsf⟩, nS, nws⟩ := nx
          simp only [oB] at O
          obtain ⟨M0, mc0, rfl, _⟩ := O.f2
          obtain ⟨M1, mc1, rfl, hcap⟩ := O.f3
          obtain ⟨M2, mc2, rfl, _⟩ := O.p4.f0
          have HCAP := Aside0.mk hcap; clear hcap
          replace O := Aside0.mk O
          cases nok
          · have hst := step_code2 (o := ⟨true, ⟨true, ns, L, G, sf⟩, S, ws⟩) hac h4 (by rw [← hnx])
            have HFIN : Aside0 (stO (openL blankB []) xs (i + 1) = ⟨true, ⟨true, ns, L, G, sf⟩, S, ws⟩) := ⟨HSO.out.1.trans hst.1⟩
            have HOUT2 : Aside0 (outL (openL blankB []) xs (i + 1) = out ++ [⟨2, (ns.length : Nat), sf, []⟩]) := ⟨by rw [HSO.out.2, hst.2]⟩
            clear hst
            clear hac h4 hnx hninv
            have c0 := (blk_cell O.out.b0 0).trans rfl; have z0 := blk_frozen O.out.b0 0; have q0 := (blk_cell O.out.b1 0).trans rfl
            go_upto_region 29 with (fail)
            generalize hw : World.setCell _ _ _ = w41
            replace O := Aside0.mk (O.out.st hw #[.int .i64 2, .int .i64 0, .int .i64 0, .slice none 0 0] rfl); clear hw c0 z0 q0
            replace O := Aside0.mk (O.out.p1.drop.p1.drop.p1.drop.p1.drop.nilRow rI 3).p1
            have z1 := blk_frozen O.out.b0 1; have c1 := (blk_cell O.out.b0 1).trans rfl; have p2 := (blk_cell O.out.b3 2).trans rfl
            go_upto_region 30 with (fail)
            generalize hw : World.setCell _ _ _ = wA
            replace O := Aside0.mk (O.out.st hw #[.int .i64 2, .int .i64 (ns.length : Nat), .int .i64 0, .slice none 0 0] rfl); clear hw z1 c1 p2
            have z2 := blk_frozen O.out.b0 2; have c2 := (blk_cell O.out.b0 2).trans rfl; have p5 := (blk_cell O.out.b3 5).trans rfl
            go_upto_region 31 with (fail)
            generalize hw : World.setCell _ _ _ = wB
            replace O := Aside0.mk (O.out.st hw #[.int .i64 2, .int .i64 (ns.length : Nat), .int .i64 sf, .slice none 0 0] rfl); clear hw z2 c2 p5
            have c0 := (blk_cell O.out.b0 0).trans rfl; have c1 := (blk_cell O.out.b0 1).trans rfl; have c2 := (blk_cell O.out.b0 2).trans rfl; have c3 := (blk_cell O.out.b0 3).trans rfl
            replace O := Aside0.mk (O.out.p1.as (R := Rs.cel rAd (cAd (⟨2, (ns.length : Nat), sf, []⟩ : Ad) (.slice none 0 0)) (⟨2, (ns.length : Nat), sf, []⟩ : Ad)) (fun f hf => Ad_mk (⟨2, (ns.length : Nat), sf, []⟩ : Ad) hf)).p2
            go_upto_region 32 with (at_builtin; go_loud (refine Own.app_one rAd rfl (.tmp 103) (.tmp 105) 25 30 (.agg #[.int .i64 0, .int .i64 0, .int .i64 0, .slice none 0 0]) 48 rfl Try.underlying25 info30 rfl (by decide) (by decide) (.slice Po out.length pc) out (⟨2, (ns.length : Nat), sf, []⟩ : Ad) _ rfl rfl O.out (by have := HOL.out; omega) ?_); intro v5 w5 hX; have O5 := Aside0.mk hX; clear hX)
            clear O c0 c1 c2 c3
            replace O5 := Aside0.mk O5.out.p1.drop
            rw [← HOUT2.out] at O5
            go_wp2
            go_roundg (gk - 1)
            case measure => have := HI.out; omega
            case rel => exact ⟨i + 1, ns, L, G, sf, S, ws, An, A0, A1, Anc, A0c, A1c, by first | rfl | (congr 1; omega), ⟨by omega, by have := HI.out; omega⟩, HC0, HFIN, O5⟩
          · obtain rfl : nlk = true := (hninv rfl).lgok.2
            have hst := step_code0 (o := ⟨true, ⟨true, ns, L, G, sf⟩, S, ws⟩) hac h4 (by rw [← hnx])
            have HFIN : Aside0 (stO (openL blankB []) xs (i + 1) = ⟨true, ⟨true, nns, nL, nG, nsf⟩, nS, nws⟩) := ⟨by rw [HSO.out.1, hst.1, ← hnx]⟩
            have HOUT2 : Aside0 (outL (openL blankB []) xs (i + 1) = out ++ [⟨0, (nns.length : Nat), nsf, []⟩]) := ⟨by rw [HSO.out.2, hst.2, ← hnx]⟩
            clear hst
            clear hac h4 hnx hninv
            have c0 := (blk_cell O.out.b0 0).trans rfl
            have q0 := (blk_cell O.out.b1 0).trans rfl; have q1 := (blk_cell O.out.b1 1).trans rfl; have q2 := (blk_cell O.out.b1 2).trans rfl; have q3 := (blk_cell O.out.b1 3).trans rfl; have q4 := (blk_cell O.out.b1 4).trans rfl; have q5 := (blk_cell O.out.b1 5).trans rfl; have q6 := (blk_cell O.out.b1 6).trans rfl; have q7 := (blk_cell O.out.b1 7).trans rfl
            have p0 := (blk_cell O.out.b6 0).trans rfl; have p1 := (blk_cell O.out.b6 1).trans rfl; have p2 := (blk_cell O.out.b6 2).trans rfl; have p3 := (blk_cell O.out.b6 3).trans rfl; have p4 := (blk_cell O.out.b6 4).trans rfl; have p5 := (blk_cell O.out.b6 5).trans rfl; have p6 := (blk_cell O.out.b6 6).trans rfl; have p7 := (blk_cell O.out.b6 7).trans rfl
            have z0 := blk_frozen O.out.b6 0; have z1 := blk_frozen O.out.b6 1; have z2 := blk_frozen O.out.b6 2; have z3 := blk_frozen O.out.b6 3; have z4 := blk_frozen O.out.b6 4; have z5 := blk_frozen O.out.b6 5; have z6 := blk_frozen O.out.b6 6; have z7 := blk_frozen O.out.b6 7
            go_upto_region 29 with (fail)
            generalize hw : World.setCell _ _ _ = w41
            replace O := Aside0.mk (O.out.p6.st8 hw); clear hw c0 q0 q1 q2 q3 q4 q5 q6 q7 p0 p1 p2 p3 p4 p5 p6 p7 z0 z1 z2 z3 z4 z5 z6 z7
            replace O := Aside0.mk (Own.only [_, _, _, _, _, _, _] (O.out.p2.drop.p5.nilRow rI 3).p3)
            have z1 := blk_frozen O.out.b0 1; have c1 := (blk_cell O.out.b0 1).trans rfl; have p2 := (blk_cell O.out.b3 2).trans rfl
            go_upto_region 30 with (fail)
            generalize hw : World.setCell _ _ _ = wA
            replace O := Aside0.mk (O.out.st hw #[.int .i64 0, .int .i64 (nns.length : Nat), .int .i64 0, .slice none 0 0] rfl); clear hw z1 c1 p2
            have z2 := blk_frozen O.out.b0 2; have c2 := (blk_cell O.out.b0 2).trans rfl; have p5 := (blk_cell O.out.b3 5).trans rfl
            go_upto_region 31 with (fail)
            generalize hw : World.setCell _ _ _ = wB
            replace O := Aside0.mk (O.out.st hw #[.int .i64 0, .int .i64 (nns.length : Nat), .int .i64 nsf, .slice none 0 0] rfl); clear hw z2 c2 p5
            have c0 := (blk_cell O.out.b0 0).trans rfl; have c1 := (blk_cell O.out.b0 1).trans rfl; have c2 := (blk_cell O.out.b0 2).trans rfl; have c3 := (blk_cell O.out.b0 3).trans rfl
            replace O := Aside0.mk (O.out.p1.as (R := Rs.cel rAd (cAd (⟨0, (nns.length : Nat), nsf, []⟩ : Ad) (.slice none 0 0)) (⟨0, (nns.length : Nat), nsf, []⟩ : Ad)) (fun f hf => Ad_mk (⟨0, (nns.length : Nat), nsf, []⟩ : Ad) hf)).p2
            go_upto_region 32 with (at_builtin; go_loud (refine Own.app_one rAd rfl (.tmp 103) (.tmp 105) 25 30 (.agg #[.int .i64 0, .int .i64 0, .int .i64 0, .slice none 0 0]) 48 rfl Try.underlying25 info30 rfl (by decide) (by decide) (.slice Po out.length pc) out (⟨0, (nns.length : Nat), nsf, []⟩ : Ad) _ rfl rfl O.out (by have := HOL.out; omega) ?_); intro v5 w5 hX; have O5 := Aside0.mk hX; clear hX)
            clear O c0 c1 c2 c3
            replace O5 := Aside0.mk O5.out.p1.drop
            rw [← HOUT2.out] at O5
            go_wp2
            go_roundg (gk - 1)
            case measure => have := HI.out; omega
            case rel => exact ⟨i + 1, nns, nL, nG, nsf, nS, nws, M0, M1, M2, mc0, mc1, mc2, by first | rfl | (congr 1; omega), ⟨by omega, by have := HI.out; omega⟩, HCAP, HFIN, O5⟩
        · have hst := step_ask (o := ⟨true, ⟨true, ns, L, G, sf⟩, S, ws⟩) h4 rfl
          simp only [oB] at O hst
          obtain ⟨F, hF⟩ : ∃ F, F = findL x.ask ns := ⟨_, rfl⟩
          rw [← hF] at O hst
          have HFIN : Aside0 (stO (openL blankB []) xs (i + 1) = ⟨true, ⟨true, ns, L, G, sf⟩, S, ws⟩) := ⟨HSO.out.1.trans hst.1⟩
          have HOUT2 : Aside0 (outL (openL blankB []) xs (i + 1) = out ++ [⟨0, (ns.length : Nat), sf, F⟩]) := ⟨by rw [HSO.out.2, hst.2]⟩
          clear hst h4 hF
          obtain ⟨F0, fc0, rfl, _⟩ := O.f1
          replace O := Aside0.mk O
          have c0 := (blk_cell O.out.b0 0).trans rfl
          have q0 := (blk_cell O.out.b2 0).trans rfl; have q1 := (blk_cell O.out.b2 1).trans rfl; have q2 := (blk_cell O.out.b2 2).trans rfl; have q3 := (blk_cell O.out.b2 3).trans rfl; have q4 := (blk_cell O.out.b2 4).trans rfl; have q5 := (blk_cell O.out.b2 5).trans rfl; have q6 := (blk_cell O.out.b2 6).trans rfl; have q7 := (blk_cell O.out.b2 7).trans rfl
          have p0 := (blk_cell O.out.b4 0).trans rfl; have p1 := (blk_cell O.out.b4 1).trans rfl; have p2 := (blk_cell O.out.b4 2).trans rfl; have p3 := (blk_cell O.out.b4 3).trans rfl; have p4 := (blk_cell O.out.b4 4).trans rfl; have p5 := (blk_cell O.out.b4 5).trans rfl; have p6 := (blk_cell O.out.b4 6).trans rfl; have p7 := (blk_cell O.out.b4 7).trans rfl
          have z0 := blk_frozen O.out.b4 0; have z1 := blk_frozen O.out.b4 1; have z2 := blk_frozen O.out.b4 2; have z3 := blk_frozen O.out.b4 3; have z4 := blk_frozen O.out.b4 4; have z5 := blk_frozen O.out.b4 5; have z6 := blk_frozen O.out.b4 6; have z7 := blk_frozen O.out.b4 7
          go_upto_region 29 with (fail)
          generalize hw : World.setCell _ _ _ = w41
          replace O := Aside0.mk (O.out.p4.st8 hw); clear hw c0 q0 q1 q2 q3 q4 q5 q6 q7 p0 p1 p2 p3 p4 p5 p6 p7 z0 z1 z2 z3 z4 z5 z6 z7
          replace O := Aside0.mk (O.out.p3.drop.p3.p3.p3)
          have z1 := blk_frozen O.out.b0 1; have c1 := (blk_cell O.out.b0 1).trans rfl; have p2 := (blk_cell O.out.b3 2).trans rfl
          go_upto_region 30 with (fail)
          generalize hw : World.setCell _ _ _ = wA
          replace O := Aside0.mk (O.out.st hw #[.int .i64 0, .int .i64 (ns.length : Nat), .int .i64 0, .slice F0 F.length fc0] rfl); clear hw z1 c1 p2
          have z2 := blk_frozen O.out.b0 2; have c2 := (blk_cell O.out.b0 2).trans rfl; have p5 := (blk_cell O.out.b3 5).trans rfl
          go_upto_region 31 with (fail)
          generalize hw : World.setCell _ _ _ = wB
          replace O := Aside0.mk (O.out.st hw #[.int .i64 0, .int .i64 (ns.length : Nat), .int .i64 sf, .slice F0 F.length fc0] rfl); clear hw z2 c2 p5
          have c0 := (blk_cell O.out.b0 0).trans rfl; have c1 := (blk_cell O.out.b0 1).trans rfl; have c2 := (blk_cell O.out.b0 2).trans rfl; have c3 := (blk_cell O.out.b0 3).trans rfl
          replace O := Aside0.mk (O.out.p1.as (R := Rs.cel rAd (cAd (⟨0, (ns.length : Nat), sf, F⟩ : Ad) (.slice F0 F.length fc0)) (⟨0, (ns.length : Nat), sf, F⟩ : Ad)) (fun f hf => Ad_mk (⟨0, (ns.length : Nat), sf, F⟩ : Ad) hf)).p2
          go_upto_region 32 with (at_builtin; go_loud (refine Own.app_one rAd rfl (.tmp 103) (.tmp 105) 25 30 (.agg #[.int .i64 0, .int .i64 0, .int .i64 0, .slice none 0 0]) 48 rfl Try.underlying25 info30 rfl (by decide) (by decide) (.slice Po out.length pc) out (⟨0, (ns.length : Nat), sf, F⟩ : Ad) _ rfl rfl O.out (by have := HOL.out; omega) ?_); intro v5 w5 hX; have O5 := Aside0.mk hX; clear hX)
          clear O c0 c1 c2 c3
          replace O5 := Aside0.mk O5.out.p1.drop
          rw [← HOUT2.out] at O5
          go_wp2
          go_roundg (gk - 1)
          case measure => have := HI.out; omega
          case rel => exact ⟨i + 1, ns, L, G, sf, S, ws, An, A0, A1, Anc, A0c, A1c, by first | rfl | (congr 1; omega), ⟨by omega, by have := HI.out; omega⟩, HC0, HFIN, O5⟩
    · have hie : i = xs.length := by have := HI.out; omega
      subst hie
      rw [← HOUT.out] at HR
      go_wp2
      obtain ⟨f, hf, hnd, hl2, hc⟩ := O.out.take
      exact HQ.out _ _ ⟨_, rfl, by rw [HR.out]; exact ⟨f, hf, hnd, hl2⟩, O.out.bel⟩
end Go.Proofs.Ytocdlibnmlcokaa
namespace Go.Proofs.Ytocdlibnmlcokaa
open Go.RowKit Go.Proofs.YtocdlibnmlcokaaW.PrintWords Go.Proofs.YtocdlibnmlcokaaW.PrintLast
set_option linter.unusedVariables false
set_option linter.unusedSimpArgs false
set_option maxHeartbeats 8000000 in
set_option maxRecDepth 100000 in
theorem implRun_c (A : Option Addr) (c : Nat) (xs : List Ac) (w : World) (hx : rAc.d.C w A xs.length xs) (ht : ∀ x ∈ xs, x.note.text.size < 4294967281 ∧ x.ask.text.size < 4294967281) (hm : HasMax w) :
    Calls Try.prog 23 #[.slice A xs.length c] w (GotRow rAd 30 w (runL xs)) := by
  suffices H : ∀ Q : Ending → World → Prop, (∀ e w', GotRow rAd 30 w (runL xs) e w' → Q e w') → Calls Try.prog 23 #[.slice A xs.length c] w Q from H _ (fun e w' h => h)
  intro Q hQ
  have hl : xs.length ≤ 9223372036854775807 := hx.2.1
  have HX := Aside0.mk hx; have HT := Aside0.mk ht; have HQ := Aside0.mk hQ; have HM := Aside0.mk hm; clear hx ht hQ hm
  by_cases h300 : (xs.length : Int) ≤ 300
  rotate_left
  · have O := Aside0.mk ((Own.nil w).nilRow rAd 30)
    have HR : Aside0 (runL xs = []) := ⟨by unfold runL; rw [if_pos (by omega)]⟩
    go_enter Try.func23, Try.ntmps23
    go_wp2_with fail
    obtain ⟨f, hf, hnd, hl2, hc⟩ := O.out.take
    exact HQ.out _ _ ⟨_, rfl, by rw [HR.out]; exact ⟨f, hf, hnd, hl2⟩, O.out.bel⟩
  have HR : Aside0 (runL xs = outL (openL blankB []) xs xs.length) := ⟨by unfold runL; rw [if_neg (by omega)]⟩
  obtain ⟨S0, hop, hst⟩ := st_first
  have hinv := inv_first
  have hbd := dk_of blank_ok (ws := []) (by simp) (fun x hx => by simp at hx)
  have HBD := Aside0.mk hbd; have HOP := Aside0.mk hop; have HINV := Aside0.mk hinv; clear hst hbd hop hinv
  have O := Aside0.mk (Own.nil w)
  go_enter Try.func23, Try.ntmps23
  go_upto_region 3 with (fail)
  go_wp2_with fail
  refine (implBlank_c _).mono ?_
  intro e w2 hg
  obtain ⟨v0, v1, rfl, k⟩ := own_disk hg
  replace O := Aside0.mk (O.out.app2 k); clear k hg
  obtain ⟨B0, bc0, rfl, hbc⟩ := O.out.f0
  obtain ⟨B1, bc1, rfl, _⟩ := O.out.f1
  go_wp2_with fail
  refine (implOpen_yes _ _ _ _ blankB [] _ O.out.c0 O.out.c1 HBD.out.1 HBD.out.2).mono ?_
  rw [HOP.out]
  clear hbc HBD
  rintro e w3 ⟨vn, v0, v1, rfl, k⟩
  simp only at k
  replace O := Aside0.mk (Own.only [_, _, _] (O.out.app3 k)); clear k
  obtain ⟨An, Anc, rfl, _⟩ := O.out.f0
  obtain ⟨A0, A0c, rfl, hc0⟩ := O.out.f1
  obtain ⟨A1, A1c, rfl, _⟩ := O.out.f2
  have HC0 := Aside0.mk hc0; clear hc0
  go_upto_region 4 with (fail)
  generalize hw : w3.alloc _ = w4
  replace O := Aside0.mk (O.out.of hw); clear hw
  generalize w3.heap.size = g3 at O ⊢
  replace O := Aside0.mk (O.out.nilRow rAd 30)
  go_upto_region 5 with (fail)
  generalize Value.agg #[.slice B0 blankB.length bc0, .slice B1 0 bc1] = c13
  generalize Value.agg #[.bool true, .bool true, .slice An 0 Anc, .int .i64 0, .int .i64 1, .int .i64 0, .slice A0 S0.length A0c, .slice A1 0 A1c] = c14
  go_wp2
  go_loopg [4, 17] (xs.length + 1) (fun m v4 vi wr => ∃ (i : Nat) (ns : List Nt) (L G sf : Int) (S : List (List Int)) (ws : List Wr) (An A0 A1 : Option Addr) (Anc A0c A1c : Nat), vi = .int .i64 i ∧ Aside0 (i ≤ xs.length ∧ xs.length + 1 - i ≤ m) ∧ Aside0 (S.length ≤ A0c) ∧ Aside0 (stO (openL blankB []) xs i = ⟨true, ⟨true, ns, L, G, sf⟩, S, ws⟩) ∧
    Aside0 (Own w wr [Rs.row rAd 30 v4 (outL (openL blankB []) xs i), Rs.box g3 61 #[.bool true, .bool true, .slice An ns.length Anc, .int .i64 L, .int .i64 G, .int .i64 sf, .slice A0 S.length A0c, .slice A1 ws.length A1c], Rs.row rN 33 (.slice An ns.length Anc) ns, Rs.row rBS 22 (.slice A0 S.length A0c) S, Rs.row rW 147 (.slice A1 ws.length A1c) ws]))
  case atStart => exact ⟨0, [], 0, 1, (0 : Nat), S0, [], An, A0, A1, Anc, A0c, A1c, rfl, ⟨by omega, by omega⟩, HC0, HOP, O⟩
  case round =>
    clear O HC0
    obtain ⟨i, ns, L, G, sf, S, ws, An, A0, A1, Anc, A0c, A1c, rfl, HI, HC0, HST, O⟩ := hrel
    obtain ⟨out, hout⟩ : ∃ out, out = outL (openL blankB []) xs i := ⟨_, rfl⟩
    rw [← hout] at O
    have hol : out.length = i := by rw [hout, outL_len]
    have HOUT := Aside0.mk hout; clear hout
    have HIV : Aside0 (Inv ⟨true, ⟨true, ns, L, G, sf⟩, S, ws⟩) := ⟨by rw [← HST.out]; exact inv_st HINV.out xs i⟩
    have HOL := Aside0.mk hol; clear hol
    by_cases hi : i < xs.length
    · obtain ⟨Po, pc, rfl, _⟩ := O.out.f0
      obtain ⟨ad, K, kc, e1, a0, a1, a2, a3, a4, a5, a6, a7, a8, a9, a10, a11, a12, a13, _, hC1⟩ := at_Ac HX.out (i : Int) (by omega) (by omega)
      cases e1
      simp only [Int.toNat_natCast] at a0 a1 a2 a3 a4 a5 a6 a7 a8 a9 a10 a11 a12 a13
      obtain ⟨x, hxe⟩ : ∃ x, x = gA xs i := ⟨_, rfl⟩
      rw [← hxe] at a0 a1 a2 a3 a4 a5 a6 a7 a8 a9 a10 a11 a12 a13 hC1
      have HKC := Aside0.mk hC1
      have htx : x.note.text.size < 4294967281 ∧ x.ask.text.size < 4294967281 := by rw [hxe, gA_eq (by omega)]; exact HT.out _ (List.getElem_mem _)
      have hkl : x.kept.length ≤ 9223372036854775807 := hC1.2.1
      have HSO : Aside0 (stO (openL blankB []) xs (i + 1) = afterL ⟨true, ⟨true, ns, L, G, sf⟩, S, ws⟩ x ∧ outL (openL blankB []) xs (i + 1) = out ++ [stepL ⟨true, ⟨true, ns, L, G, sf⟩, S, ws⟩ x]) := ⟨by simp only [stO, outL]; rw [← hxe, HST.out, HOUT.out]; exact ⟨rfl, rfl⟩⟩
      clear hxe hC1
      replace a0 := pw_cell_below O.out.bel a0; replace a1 := pw_cell_below O.out.bel a1; replace a2 := pw_cell_below O.out.bel a2; replace a3 := pw_cell_below O.out.bel a3; replace a4 := pw_cell_below O.out.bel a4; replace a5 := pw_cell_below O.out.bel a5; replace a6 := pw_cell_below O.out.bel a6; replace a7 := pw_cell_below O.out.bel a7; replace a8 := pw_cell_below O.out.bel a8; replace a9 := pw_cell_below O.out.bel a9; replace a10 := pw_cell_below O.out.bel a10; replace a11 := pw_cell_below O.out.bel a11; replace a12 := pw_cell_below O.out.bel a12; replace a13 := pw_cell_below O.out.bel a13
      go_upto_region 8 with (fail)
      generalize hw : World.alloc _ _ = w5
      replace O := Aside0.mk (O.out.of hw); clear hw a0 a1 a2 a3 a4 a5 a6 a7 a8 a9 a10 a11 a12 a13
      generalize wr.heap.size = g6 at O ⊢
      go_upto_region 9 with (fail)
      rename_i Kq hKq
      have HKq := Aside0.mk hKq; clear hKq
      generalize hw : World.alloc _ _ = w6
      replace O := Aside0.mk (O.out.of hw); clear hw
      generalize w5.heap.size = g7 at O ⊢
      go_wp2_with fail
      generalize hw : World.alloc _ _ = w7
      replace O := Aside0.mk (O.out.of hw); clear hw
      generalize w6.heap.size = g8 at O ⊢
      refine HKq.out _ _ ?_
      clear HKq Kq
      go_step
      go_cut [9] from 18 to 126 (fun v9 wc => RunCut w wc g3 g7 g8 (.slice Po out.length pc) out ⟨true, ⟨true, ns, L, G, sf⟩, S, ws⟩ x (.slice An ns.length Anc) (.slice A0 S.length A0c) (.slice A1 ws.length A1c))
      case first =>
        replace O := Aside0.mk O.out.p1.p2
        have HI2 := HIV.out
        have a0 := (blk_cell O.out.b0 0).trans rfl
        by_cases e1 : x.op = 1
        · have hno1 := implNoteOk_c x.note (decide (NtOk x.note)) decide_eq_true_iff
          by_cases hno : NtOk x.note
          rotate_left
          · have HAC : Aside0 (¬ AcOk x) := ⟨fun h => by
              unfold AcOk at h
              rcases h with h | h | h | h | h
              · exact hno h.2
              all_goals omega⟩
            rw [decide_eq_false hno] at hno1
            have HNO1 := Aside0.mk hno1; clear hno1 hno
            obtain ⟨E1, _⟩ := eqT e1
            clear e1
            have a1 := (blk_cell O.out.b0 1).trans rfl; have a2 := (blk_cell O.out.b0 2).trans rfl; have a3 := (blk_cell O.out.b0 3).trans rfl; have a4 := (blk_cell O.out.b0 4).trans rfl; have a5 := (blk_cell O.out.b0 5).trans rfl
            go_wp2_with fail
            refine (HNO1.out _ (by omega)).mono ?_
            rintro e w8 ⟨rfl, hb⟩
            replace O := Aside0.mk (O.out.below hb); clear hb a1 a2 a3 a4 a5
            have c0 := (blk_cell O.out.b1 0).trans rfl; have z0 := blk_frozen O.out.b1 0
            go_wp2_with fail
            generalize hw : World.setCell _ _ _ = w9
            replace O := Aside0.mk (O.out.p1.st hw #[.int .i64 1, .int .i64 0, .int .i64 0, .slice none 0 0] rfl); clear hw c0 z0
            go_meet
            case rel => exact .inl ⟨HAC.out, O.out.p1.drop.p1.drop⟩
          have HAC : Aside0 (AcOk x) := ⟨.inl ⟨e1, hno⟩⟩
          rw [decide_eq_true hno] at hno1
          have HNO1 := Aside0.mk hno1; clear hno1
          have HE := Aside0.mk e1
          have HNX : Aside0 (nextL ⟨true, ⟨true, ns, L, G, sf⟩, S, ws⟩ x = appendO S ws x.note) := ⟨by unfold nextL; rw [if_pos HE.out]⟩
          have HNO := Aside0.mk hno
          obtain ⟨E1, _⟩ := eqT e1
          clear e1 hno
          have a1 := (blk_cell O.out.b0 1).trans rfl; have a2 := (blk_cell O.out.b0 2).trans rfl; have a3 := (blk_cell O.out.b0 3).trans rfl; have a4 := (blk_cell O.out.b0 4).trans rfl; have a5 := (blk_cell O.out.b0 5).trans rfl
          have p0 := (blk_cell O.out.b4 0).trans rfl; have p1 := (blk_cell O.out.b4 1).trans rfl; have p2 := (blk_cell O.out.b4 2).trans rfl; have p3 := (blk_cell O.out.b4 3).trans rfl; have p4 := (blk_cell O.out.b4 4).trans rfl; have p5 := (blk_cell O.out.b4 5).trans rfl; have p6 := (blk_cell O.out.b4 6).trans rfl; have p7 := (blk_cell O.out.b4 7).trans rfl
          go_wp2_with fail
          refine (HNO1.out _ (by omega)).mono ?_
          rintro e w8 ⟨rfl, hb⟩
          replace O := Aside0.mk (O.out.below hb); clear hb a1 a2 a3 a4 a5 p0 p1 p2 p3 p4 p5 p6 p7
          have a1 := (blk_cell O.out.b0 1).trans rfl; have a2 := (blk_cell O.out.b0 2).trans rfl; have a3 := (blk_cell O.out.b0 3).trans rfl; have a4 := (blk_cell O.out.b0 4).trans rfl; have a5 := (blk_cell O.out.b0 5).trans rfl
          have p0 := (blk_cell O.out.b4 0).trans rfl; have p1 := (blk_cell O.out.b4 1).trans rfl; have p2 := (blk_cell O.out.b4 2).trans rfl; have p3 := (blk_cell O.out.b4 3).trans rfl; have p4 := (blk_cell O.out.b4 4).trans rfl; have p5 := (blk_cell O.out.b4 5).trans rfl; have p6 := (blk_cell O.out.b4 6).trans rfl; have p7 := (blk_cell O.out.b4 7).trans rfl
          go_wp2_with fail
          refine (implAppend_yes An A0 A1 Anc A0c A1c true true ns L G sf S ws x.note _ O.out.c5 O.out.c6 O.out.c7 HC0.out HIV.out.2 (by omega) HIV.out.1 HNO.out).mono ?_
          clear a1 a2 a3 a4 a5 p0 p1 p2 p3 p4 p5 p6 p7
          obtain ⟨nx, hnxe⟩ : ∃ nx, nx = appendO S ws x.note := ⟨_, rfl⟩
          rw [← hnxe]; rw [← hnxe] at HNX
          clear hnxe
          obtain ⟨nok, ⟨nlk, nns, nL, nG, nsf⟩, nS, nws⟩ := nx
          rintro e w9 ⟨vn, v0, v1, rfl, k⟩
          simp only at k
          replace O := Aside0.mk (O.out.app3 k); clear k
          obtain ⟨M0, mc0, rfl, _⟩ := O.out.f0
          obtain ⟨M1, mc1, rfl, _⟩ := O.out.f1
          obtain ⟨M2, mc2, rfl, _⟩ := O.out.f2
          replace O := Aside0.mk O.out
          have q0 := (blk_cell O.out.b5 0).trans rfl; have q1 := (blk_cell O.out.b5 1).trans rfl; have q2 := (blk_cell O.out.b5 2).trans rfl; have q3 := (blk_cell O.out.b5 3).trans rfl; have q4 := (blk_cell O.out.b5 4).trans rfl; have q5 := (blk_cell O.out.b5 5).trans rfl; have q6 := (blk_cell O.out.b5 6).trans rfl; have q7 := (blk_cell O.out.b5 7).trans rfl
          have z0 := blk_frozen O.out.b5 0; have z1 := blk_frozen O.out.b5 1; have z2 := blk_frozen O.out.b5 2; have z3 := blk_frozen O.out.b5 3; have z4 := blk_frozen O.out.b5 4; have z5 := blk_frozen O.out.b5 5; have z6 := blk_frozen O.out.b5 6; have z7 := blk_frozen O.out.b5 7
          go_wp2
          generalize hw : World.setCell _ _ _ = w10
          replace O := Aside0.mk (O.out.p5.st8 hw); clear hw q0 z0 q1 z1 q2 z2 q3 z3 q4 z4 q5 z5 q6 z6 q7 z7
          go_meet
          case rel => exact cut_next HAC.out (by rw [HE.out]; decide) HNX.out O.out
        by_cases e2 : x.op = 2
        · have HAC : Aside0 (AcOk x) := ⟨.inr (.inl e2)⟩
          have HE := Aside0.mk e2
          have HNX : Aside0 (nextL ⟨true, ⟨true, ns, L, G, sf⟩, S, ws⟩ x = commitS (syncL S ws)) := ⟨by unfold nextL; rw [if_neg (by rw [HE.out]; decide), if_pos HE.out]⟩
          obtain ⟨E1, _⟩ := eqF (show ¬ x.op = 1 by omega)
          obtain ⟨E2, _⟩ := eqT e2
          clear e2
          have p0 := (blk_cell O.out.b4 0).trans rfl; have p1 := (blk_cell O.out.b4 1).trans rfl; have p2 := (blk_cell O.out.b4 2).trans rfl; have p3 := (blk_cell O.out.b4 3).trans rfl; have p4 := (blk_cell O.out.b4 4).trans rfl; have p5 := (blk_cell O.out.b4 5).trans rfl; have p6 := (blk_cell O.out.b4 6).trans rfl; have p7 := (blk_cell O.out.b4 7).trans rfl
          go_wp2_with fail
          refine (implCommit_yes An A0 A1 Anc A0c A1c true true ns L G sf S ws _ O.out.c5 O.out.c6 O.out.c7 HC0.out HIV.out.2 HIV.out.1).mono ?_
          clear p0 p1 p2 p3 p4 p5 p6 p7
          obtain ⟨nx, hnxe⟩ : ∃ nx, nx = commitS (syncL S ws) := ⟨_, rfl⟩
          rw [← hnxe]; rw [← hnxe] at HNX
          clear hnxe
          obtain ⟨nok, ⟨nlk, nns, nL, nG, nsf⟩, nS, nws⟩ := nx
          rintro e w9 ⟨vn, v0, v1, rfl, k⟩
          simp only at k
          replace O := Aside0.mk (O.out.app3 k); clear k
          obtain ⟨M0, mc0, rfl, _⟩ := O.out.f0
          obtain ⟨M1, mc1, rfl, _⟩ := O.out.f1
          obtain ⟨M2, mc2, rfl, _⟩ := O.out.f2
          replace O := Aside0.mk O.out
          have q0 := (blk_cell O.out.b5 0).trans rfl; have q1 := (blk_cell O.out.b5 1).trans rfl; have q2 := (blk_cell O.out.b5 2).trans rfl; have q3 := (blk_cell O.out.b5 3).trans rfl; have q4 := (blk_cell O.out.b5 4).trans rfl; have q5 := (blk_cell O.out.b5 5).trans rfl; have q6 := (blk_cell O.out.b5 6).trans rfl; have q7 := (blk_cell O.out.b5 7).trans rfl
          have z0 := blk_frozen O.out.b5 0; have z1 := blk_frozen O.out.b5 1; have z2 := blk_frozen O.out.b5 2; have z3 := blk_frozen O.out.b5 3; have z4 := blk_frozen O.out.b5 4; have z5 := blk_frozen O.out.b5 5; have z6 := blk_frozen O.out.b5 6; have z7 := blk_frozen O.out.b5 7
          go_wp2
          generalize hw : World.setCell _ _ _ = w10
          replace O := Aside0.mk (O.out.p5.st8 hw); clear hw q0 z0 q1 z1 q2 z2 q3 z3 q4 z4 q5 z5 q6 z6 q7 z7
          go_meet
          case rel => exact cut_next HAC.out (by rw [HE.out]; decide) HNX.out O.out
        by_cases e3 : x.op = 3
        · by_cases hk200 : (x.kept.length : Int) ≤ 200
          rotate_left
          · have HAC : Aside0 (¬ AcOk x) := ⟨fun h => by
              unfold AcOk at h
              omega⟩
            obtain ⟨E1, _⟩ := eqF (show ¬ x.op = 1 by omega)
            obtain ⟨E2, _⟩ := eqF (show ¬ x.op = 2 by omega)
            obtain ⟨E3, _⟩ := eqT e3
            clear e3
            have a6 := (blk_cell O.out.b0 6).trans rfl
            have c0 := (blk_cell O.out.b1 0).trans rfl; have z0 := blk_frozen O.out.b1 0
            go_wp2_with fail
            generalize hw : World.setCell _ _ _ = w9
            replace O := Aside0.mk (O.out.p1.st hw #[.int .i64 1, .int .i64 0, .int .i64 0, .slice none 0 0] rfl); clear hw c0 z0
            go_meet
            case rel => exact .inl ⟨HAC.out, O.out.p1.drop.p1.drop⟩
          have HAC : Aside0 (AcOk x) := ⟨.inr (.inr (.inl ⟨e3, by omega⟩))⟩
          have HE := Aside0.mk e3
          obtain ⟨T, hT⟩ : ∃ T, T = settleL S ws (kfL false x.kept) := ⟨_, rfl⟩
          have HNX : Aside0 (nextL ⟨true, ⟨true, ns, L, G, sf⟩, S, ws⟩ x = openL T []) := ⟨by rw [hT]; unfold nextL; rw [if_neg (by rw [HE.out]; decide), if_neg (by rw [HE.out]; decide), if_pos HE.out]⟩
          have hbl : BlOk T := hT ▸ settle_bytes _ HIV.out.1.2.1 HIV.out.2
          have HT2 := Aside0.mk hT; have HBL := Aside0.mk hbl
          obtain ⟨E1, _⟩ := eqF (show ¬ x.op = 1 by omega)
          obtain ⟨E2, _⟩ := eqF (show ¬ x.op = 2 by omega)
          obtain ⟨E3, _⟩ := eqT e3
          clear e3 hT hbl
          have a6 := (blk_cell O.out.b0 6).trans rfl
          have p6 := (blk_cell O.out.b4 6).trans rfl; have p7 := (blk_cell O.out.b4 7).trans rfl
          go_wp2_with fail
          refine (implCrash_yes A0 A1 K A0c A1c kc S ws x.kept _ O.out.c6 O.out.c7 (Kd.C_below HKC.out O.out.bel) HIV.out.1.2.1).mono ?_
          intro e w21 hg
          rw [← HT2.out] at hg
          obtain ⟨v0, v1, rfl, k⟩ := own_disk hg
          replace O := Aside0.mk (O.out.app2 k); clear k hg a6 p6 p7
          obtain ⟨D0, D0c, rfl, _⟩ := O.out.f0
          obtain ⟨D1, D1c, rfl, _⟩ := O.out.f1
          have hd := dk_of HBL.out (ws := []) (by simp) (fun x hx => by simp at hx)
          go_wp2_with fail
          refine (implOpen_yes D0 D1 D0c D1c T [] _ O.out.c0 O.out.c1 hd.1 hd.2).mono ?_
          clear hd
          obtain ⟨nx, hnxe⟩ : ∃ nx, nx = openL T [] := ⟨_, rfl⟩
          rw [← hnxe]; rw [← hnxe] at HNX
          clear hnxe
          obtain ⟨nok, ⟨nlk, nns, nL, nG, nsf⟩, nS, nws⟩ := nx
          rintro e w9 ⟨vn, v0, v1, rfl, k⟩
          simp only at k
          replace O := Aside0.mk (O.out.app3 k); clear k
          obtain ⟨M0, mc0, rfl, _⟩ := O.out.f0
          obtain ⟨M1, mc1, rfl, _⟩ := O.out.f1
          obtain ⟨M2, mc2, rfl, _⟩ := O.out.f2
          replace O := Aside0.mk O.out.p3.drop.p3.drop
          have q0 := (blk_cell O.out.b5 0).trans rfl; have q1 := (blk_cell O.out.b5 1).trans rfl; have q2 := (blk_cell O.out.b5 2).trans rfl; have q3 := (blk_cell O.out.b5 3).trans rfl; have q4 := (blk_cell O.out.b5 4).trans rfl; have q5 := (blk_cell O.out.b5 5).trans rfl; have q6 := (blk_cell O.out.b5 6).trans rfl; have q7 := (blk_cell O.out.b5 7).trans rfl
          have z0 := blk_frozen O.out.b5 0; have z1 := blk_frozen O.out.b5 1; have z2 := blk_frozen O.out.b5 2; have z3 := blk_frozen O.out.b5 3; have z4 := blk_frozen O.out.b5 4; have z5 := blk_frozen O.out.b5 5; have z6 := blk_frozen O.out.b5 6; have z7 := blk_frozen O.out.b5 7
          go_wp2
          generalize hw : World.setCell _ _ _ = w10
          replace O := Aside0.mk (O.out.p5.st8 hw); clear hw q0 z0 q1 z1 q2 z2 q3 z3 q4 z4 q5 z5 q6 z6 q7 z7
          go_meet
          case rel => exact cut_next HAC.out (by rw [HE.out]; decide) HNX.out O.out
        by_cases e4 : x.op = 4
        · have HAC : Aside0 (AcOk x) := ⟨.inr (.inr (.inr (.inl e4)))⟩
          have HE := Aside0.mk e4
          obtain ⟨F, hF⟩ : ∃ F, F = findL x.ask ns := ⟨_, rfl⟩
          have HF := Aside0.mk hF; clear hF
          have HTX : Aside0 (∀ y ∈ ns, y.text.size < 4294967281) := ⟨fun y hy => by have := (HIV.out.notes.1 y hy).2.2.2; omega⟩
          have hnl : ns.length ≤ 7112 := HIV.out.notes.2
          obtain ⟨E1, _⟩ := eqF (show ¬ x.op = 1 by omega)
          obtain ⟨E2, _⟩ := eqF (show ¬ x.op = 2 by omega)
          obtain ⟨E3, _⟩ := eqF (show ¬ x.op = 3 by omega)
          obtain ⟨E4, _⟩ := eqT e4
          clear e4
          have p0 := (blk_cell O.out.b4 0).trans rfl; have p1 := (blk_cell O.out.b4 1).trans rfl; have p2 := (blk_cell O.out.b4 2).trans rfl; have p3 := (blk_cell O.out.b4 3).trans rfl; have p4 := (blk_cell O.out.b4 4).trans rfl; have p5 := (blk_cell O.out.b4 5).trans rfl; have p6 := (blk_cell O.out.b4 6).trans rfl; have p7 := (blk_cell O.out.b4 7).trans rfl
          have q0 := (blk_cell O.out.b2 0).trans rfl; have q1 := (blk_cell O.out.b2 1).trans rfl; have q2 := (blk_cell O.out.b2 2).trans rfl; have q3 := (blk_cell O.out.b2 3).trans rfl; have q4 := (blk_cell O.out.b2 4).trans rfl; have q5 := (blk_cell O.out.b2 5).trans rfl; have q6 := (blk_cell O.out.b2 6).trans rfl; have q7 := (blk_cell O.out.b2 7).trans rfl
          have z0 := blk_frozen O.out.b2 0; have z1 := blk_frozen O.out.b2 1; have z2 := blk_frozen O.out.b2 2; have z3 := blk_frozen O.out.b2 3; have z4 := blk_frozen O.out.b2 4; have z5 := blk_frozen O.out.b2 5; have z6 := blk_frozen O.out.b2 6; have z7 := blk_frozen O.out.b2 7
          go_upto_region 24 with (fail)
          generalize hw : World.setCell _ _ _ = w9
          replace O := Aside0.mk (O.out.p2.st8 hw); clear hw p0 q0 z0 p1 q1 z1 p2 q2 z2 p3 q3 z3 p4 q4 z4 p5 q5 z5 p6 q6 z6 p7 q7 z7
          have a7 := (blk_cell O.out.b1 7).trans rfl; have a8 := (blk_cell O.out.b1 8).trans rfl; have a9 := (blk_cell O.out.b1 9).trans rfl; have a10 := (blk_cell O.out.b1 10).trans rfl; have a11 := (blk_cell O.out.b1 11).trans rfl
          have p2 := (blk_cell O.out.b4 2).trans rfl
          go_wp2_with fail
          refine (implFind_c An Anc ns x.ask _ O.out.c5 HTX.out htx.2 (by omega) (HM.out.below O.out.bel)).mono ?_
          rw [← HF.out]
          intro e w10 hg
          obtain ⟨v, rfl, k⟩ := own_row hg
          replace O := Aside0.mk (O.out.app1 k); clear k hg p2 a7 a8 a9 a10 a11
          obtain ⟨F0, fc0, rfl, _⟩ := O.out.f0
          have q3 := (blk_cell O.out.b3 3).trans rfl; have z3 := blk_frozen O.out.b3 3
          go_wp2
          generalize hw : World.setCell _ _ _ = w11
          replace O := Aside0.mk (O.out.p3.st hw #[.int .i64 0, .int .i64 0, .int .i64 0, .slice F0 F.length fc0] rfl); clear hw q3 z3
          go_meet
          case rel => exact .inr (.inr ⟨HE.out, .slice F0 F.length fc0, by rw [← HF.out]; exact O.out.p3.drop⟩)
        by_cases e5 : x.op = 5
        · by_cases hp0 : 0 ≤ x.pos
          rotate_left
          · skip
            have HAC : Aside0 (¬ AcOk x) := ⟨fun h => by
              unfold AcOk at h
              omega⟩
            obtain ⟨E1, _⟩ := eqF (show ¬ x.op = 1 by omega)
            obtain ⟨E2, _⟩ := eqF (show ¬ x.op = 2 by omega)
            obtain ⟨E3, _⟩ := eqF (show ¬ x.op = 3 by omega)
            obtain ⟨E4, _⟩ := eqF (show ¬ x.op = 4 by omega)
            obtain ⟨E5, _⟩ := eqT e5
            clear e5
            have a12 := (blk_cell O.out.b0 12).trans rfl; have a13 := (blk_cell O.out.b0 13).trans rfl
            have c0 := (blk_cell O.out.b1 0).trans rfl; have z0 := blk_frozen O.out.b1 0
            go_wp2_with fail
            generalize hw : World.setCell _ _ _ = w9
            replace O := Aside0.mk (O.out.p1.st hw #[.int .i64 1, .int .i64 0, .int .i64 0, .slice none 0 0] rfl); clear hw c0 z0
            go_meet
            case rel => exact .inl ⟨HAC.out, O.out.p1.drop.p1.drop⟩
          by_cases hp1 : x.pos ≤ 8191
          rotate_left
          · skip
            have HAC : Aside0 (¬ AcOk x) := ⟨fun h => by
              unfold AcOk at h
              omega⟩
            obtain ⟨E1, _⟩ := eqF (show ¬ x.op = 1 by omega)
            obtain ⟨E2, _⟩ := eqF (show ¬ x.op = 2 by omega)
            obtain ⟨E3, _⟩ := eqF (show ¬ x.op = 3 by omega)
            obtain ⟨E4, _⟩ := eqF (show ¬ x.op = 4 by omega)
            obtain ⟨E5, _⟩ := eqT e5
            clear e5
            have a12 := (blk_cell O.out.b0 12).trans rfl; have a13 := (blk_cell O.out.b0 13).trans rfl
            have c0 := (blk_cell O.out.b1 0).trans rfl; have z0 := blk_frozen O.out.b1 0
            go_wp2_with fail
            generalize hw : World.setCell _ _ _ = w9
            replace O := Aside0.mk (O.out.p1.st hw #[.int .i64 1, .int .i64 0, .int .i64 0, .slice none 0 0] rfl); clear hw c0 z0
            go_meet
            case rel => exact .inl ⟨HAC.out, O.out.p1.drop.p1.drop⟩
          by_cases hq0 : 1 ≤ x.amt
          rotate_left
          · skip
            have HAC : Aside0 (¬ AcOk x) := ⟨fun h => by
              unfold AcOk at h
              omega⟩
            obtain ⟨E1, _⟩ := eqF (show ¬ x.op = 1 by omega)
            obtain ⟨E2, _⟩ := eqF (show ¬ x.op = 2 by omega)
            obtain ⟨E3, _⟩ := eqF (show ¬ x.op = 3 by omega)
            obtain ⟨E4, _⟩ := eqF (show ¬ x.op = 4 by omega)
            obtain ⟨E5, _⟩ := eqT e5
            clear e5
            have a12 := (blk_cell O.out.b0 12).trans rfl; have a13 := (blk_cell O.out.b0 13).trans rfl
            have c0 := (blk_cell O.out.b1 0).trans rfl; have z0 := blk_frozen O.out.b1 0
            go_wp2_with fail
            generalize hw : World.setCell _ _ _ = w9
            replace O := Aside0.mk (O.out.p1.st hw #[.int .i64 1, .int .i64 0, .int .i64 0, .slice none 0 0] rfl); clear hw c0 z0
            go_meet
            case rel => exact .inl ⟨HAC.out, O.out.p1.drop.p1.drop⟩
          by_cases hq1 : x.amt ≤ 255
          rotate_left
          · skip
            have HAC : Aside0 (¬ AcOk x) := ⟨fun h => by
              unfold AcOk at h
              omega⟩
            obtain ⟨E1, _⟩ := eqF (show ¬ x.op = 1 by omega)
            obtain ⟨E2, _⟩ := eqF (show ¬ x.op = 2 by omega)
            obtain ⟨E3, _⟩ := eqF (show ¬ x.op = 3 by omega)
            obtain ⟨E4, _⟩ := eqF (show ¬ x.op = 4 by omega)
            obtain ⟨E5, _⟩ := eqT e5
            clear e5
            have a12 := (blk_cell O.out.b0 12).trans rfl; have a13 := (blk_cell O.out.b0 13).trans rfl
            have c0 := (blk_cell O.out.b1 0).trans rfl; have z0 := blk_frozen O.out.b1 0
            go_wp2_with fail
            generalize hw : World.setCell _ _ _ = w9
            replace O := Aside0.mk (O.out.p1.st hw #[.int .i64 1, .int .i64 0, .int .i64 0, .slice none 0 0] rfl); clear hw c0 z0
            go_meet
            case rel => exact .inl ⟨HAC.out, O.out.p1.drop.p1.drop⟩
          have HAC : Aside0 (AcOk x) := ⟨.inr (.inr (.inr (.inr ⟨e5, hp0, hp1, hq0, hq1⟩)))⟩
          have HE := Aside0.mk e5
          obtain ⟨T, hT⟩ : ∃ T, T = syncL S ws := ⟨_, rfl⟩
          obtain ⟨U, hU⟩ : ∃ U, U = spoilS T x.pos x.amt := ⟨_, rfl⟩
          have HNX : Aside0 (nextL ⟨true, ⟨true, ns, L, G, sf⟩, S, ws⟩ x = openL U []) := ⟨by rw [hU, hT]; unfold nextL; rw [if_neg (by rw [HE.out]; decide), if_neg (by rw [HE.out]; decide), if_neg (by rw [HE.out]; decide), if_neg (by rw [HE.out]; decide)]⟩
          have hbl : BlOk T := hT ▸ sync_ok HIV.out.1.2.1 HIV.out.2
          have hbl2 : BlOk U := hU ▸ spoil_ok hbl hp0 hp1
          have hul : U.length = T.length := by rw [hbl.1, hbl2.1]
          have HU := Aside0.mk hU; have HUL := Aside0.mk hul
          have HT2 := Aside0.mk hT; have HBL := Aside0.mk hbl; have HBL2 := Aside0.mk hbl2
          obtain ⟨E1, _⟩ := eqF (show ¬ x.op = 1 by omega)
          obtain ⟨E2, _⟩ := eqF (show ¬ x.op = 2 by omega)
          obtain ⟨E3, _⟩ := eqF (show ¬ x.op = 3 by omega)
          obtain ⟨E4, _⟩ := eqF (show ¬ x.op = 4 by omega)
          obtain ⟨E5, _⟩ := eqT e5
          clear e5 hT hbl hbl2 hU hul
          have p6 := (blk_cell O.out.b4 6).trans rfl; have p7 := (blk_cell O.out.b4 7).trans rfl
          have a4 := (blk_cell O.out.b0 12).trans rfl; have a5 := (blk_cell O.out.b0 13).trans rfl
          go_wp2_with fail
          refine (implSync_yes A0 A1 A0c A1c S ws _ O.out.c6 O.out.c7 HIV.out.1.2.1).mono ?_
          rw [show settleL S ws (kfL true []) = T from HT2.out.symm]
          intro e w21 hg
          obtain ⟨v0, v1, rfl, k⟩ := own_disk hg
          replace O := Aside0.mk (O.out.app2 k); clear k hg p6 p7 a4 a5
          obtain ⟨D0, D0c, rfl, _⟩ := O.out.f0
          obtain ⟨D1, D1c, rfl, _⟩ := O.out.f1
          go_upto_region 29 with (fail)
          generalize hw : World.alloc _ _ = w22
          replace O := Aside0.mk (O.out.of hw); clear hw
          generalize w21.heap.size = g9 at O ⊢
          have hTl := HBL.out.1
          obtain ⟨i0, hi0⟩ : ∃ i0 : Nat, (i0 : Int) = x.pos / 64 := ⟨(x.pos / 64).toNat, by omega⟩
          obtain ⟨j0, hj0⟩ : ∃ j0 : Nat, (j0 : Int) = x.pos % 64 := ⟨(x.pos % 64).toNat, by omega⟩
          have hi1 : i0 < T.length := by omega
          have hj1 : j0 < 64 := by omega
          have hi128 : i0 < 128 := by omega
          have hlb : T[i0].length = 64 := (HBL.out.2 _ (List.getElem_mem hi1)).1
          have hj2 : j0 < T[i0].length := by omega
          have htd : Int.tdiv x.pos 64 = i0 := by rw [Int.tdiv_eq_ediv_of_nonneg hp0, hi0]
          have htm : Int.tmod x.pos 64 = j0 := by rw [Int.tmod_eq_emod_of_nonneg hp0, hj0]
          have hse := spoil_eq (a := x.amt) hi1 hj2 hi0 hj0
          rw [← HU.out] at hse
          obtain ⟨gd, ge, ce, e', hnn, k1, k2, k3, hsetA⟩ := Own.set88 O.out.p1 hi1 hj2
          clear hsetA
          subst e'
          have p0 := (blk_cell O.out.b0 0).trans rfl; have a12 := (blk_cell O.out.b3 12).trans rfl; have a13 := (blk_cell O.out.b3 13).trans rfl
          obtain ⟨bl, hbl⟩ : ∃ bl, bl = T[i0].length := ⟨_, rfl⟩
          rw [← hbl] at k1
          obtain ⟨vv, hvv⟩ : ∃ vv, vv = T[i0][j0] := ⟨_, rfl⟩
          rw [← hvv] at k2 hse
          have HSE := Aside0.mk hse; have HVV := Aside0.mk hvv
          have hj3 : (j0 : Int) < (bl : Int) := by omega
          have HBLE := Aside0.mk hbl
          clear hi0 hj0 hnn hse hvv hTl hlb hbl
          refine sta (fun w' => w'.cell? ⟨g9, 0, none⟩ = some (.slice (some ⟨gd, 0, none⟩) T.length D0c) ∧ w'.cell? ⟨g6, 12, none⟩ = some (.int .i64 x.pos) ∧ w'.cell? ⟨g6, 13, none⟩ = some (.int .i64 x.amt) ∧ w'.cell? ⟨gd, i0, none⟩ = some (.slice (some ⟨ge, 0, none⟩) bl ce) ∧ w'.cell? ⟨ge, j0, none⟩ = some (.int .u8 vv)) [17] 18 ⟨p0, a12, a13, k1, k2⟩ (fun hS => ?_)
          clear p0 a12 a13 k1 k2 k3
          replace O := Aside0.mk O.out.drew
          generalize World.drew _ = w24 at O hS ⊢
          refine pu 0 1 ?_
          refine tk 1 3 hS ?_
          refine pu 2 7 ?_
          refine tk 3 15 hS ?_
          refine pu (v := .int .i64 i0) 4 31 ?_ (hr := fun w' => by go_simp; all_goals (first | rfl | omega | (rw [i64_w]; unfold wrap64; omega)))
          refine pu 5 63 ?_
          refine tk 6 127 hS ?_
          refine pu 7 255 ?_
          refine tk 8 511 hS ?_
          refine pu (v := .int .i64 j0) 9 1023 ?_ (hr := fun w' => by go_simp; all_goals (first | rfl | omega | (rw [i64_w]; unfold wrap64; omega)))
          refine pu 10 2047 ?_
          refine tk 11 4095 hS ?_
          refine pu 12 8191 ?_
          refine tk 13 16383 hS ?_
          refine pu 14 32767 ?_
          obtain ⟨y, hy⟩ : ∃ y, y = xorB vv x.amt := ⟨_, rfl⟩
          have HYE := Aside0.mk hy
          refine pu (v := .int .u8 y) 15 65535 ?_ (hr := fun w' => by rw [hy]; unfold xorB; go_simp; all_goals (first | rfl | omega))
          clear hy
          refine pu 16 131071 ?_
          obtain ⟨gd', ge', ce', e', hnn, k1', k2, k3, hset⟩ := Own.set88 O.out.p1 hi1 hj2
          injection e' with e'
          injection e' with e' _ _
          subst e'
          rw [← HBLE.out] at k1'
          have h4 := hS.2.2.2.1
          rw [k1'] at h4
          injection h4 with h4
          injection h4 with h4 _ _
          injection h4 with h4
          injection h4 with h4 _ _
          subst h4
          have hset2 := hset y
          rw [HYE.out, HSE.out, ← HYE.out] at hset2
          clear hnn k1' hset
          refine la 17 262143 (fun K hK => ?_)
          refine st ?_
          generalize hw : World.setCell _ _ _ = w25 at hset2 ⊢
          replace O := Aside0.mk hset2
          clear hset2 hw hS k2 k3 hj3 htd htm HSE HVV HYE HBLE hj2 hi1
          refine nl hK (dn ?_)
          clear hK K
          have hd := dk_of HBL2.out (ws := []) (by simp) (fun x hx => by simp at hx)
          have hopn := implOpen_yes (some ⟨gd, 0, none⟩) D1 D0c D1c U [] w25 O.out.c0 O.out.c2 hd.1 hd.2
          rw [HUL.out] at hopn
          have HOPN := Aside0.mk hopn; clear hopn hd
          have p0 := (blk_cell O.out.b1 0).trans rfl; have p1 := (blk_cell O.out.b1 1).trans rfl
          go_wp2_with fail
          refine HOPN.out.mono ?_
          clear HOPN p0 p1
          obtain ⟨nx, hnxe⟩ : ∃ nx, nx = openL U [] := ⟨_, rfl⟩
          rw [← hnxe]; rw [← hnxe] at HNX
          clear hnxe
          obtain ⟨nok, ⟨nlk, nns, nL, nG, nsf⟩, nS, nws⟩ := nx
          rintro e w9 ⟨vn, v0, v1, rfl, k⟩
          simp only at k
          replace O := Aside0.mk (O.out.app3 k); clear k
          obtain ⟨M0, mc0, rfl, _⟩ := O.out.f0
          obtain ⟨M1, mc1, rfl, _⟩ := O.out.f1
          obtain ⟨M2, mc2, rfl, _⟩ := O.out.f2
          replace O := Aside0.mk O.out.p3.drop.p3.drop.p3.drop
          have q0 := (blk_cell O.out.b5 0).trans rfl; have q1 := (blk_cell O.out.b5 1).trans rfl; have q2 := (blk_cell O.out.b5 2).trans rfl; have q3 := (blk_cell O.out.b5 3).trans rfl; have q4 := (blk_cell O.out.b5 4).trans rfl; have q5 := (blk_cell O.out.b5 5).trans rfl; have q6 := (blk_cell O.out.b5 6).trans rfl; have q7 := (blk_cell O.out.b5 7).trans rfl
          have z0 := blk_frozen O.out.b5 0; have z1 := blk_frozen O.out.b5 1; have z2 := blk_frozen O.out.b5 2; have z3 := blk_frozen O.out.b5 3; have z4 := blk_frozen O.out.b5 4; have z5 := blk_frozen O.out.b5 5; have z6 := blk_frozen O.out.b5 6; have z7 := blk_frozen O.out.b5 7
          go_wp2
          generalize hw : World.setCell _ _ _ = w10
          replace O := Aside0.mk (O.out.p5.st8 hw); clear hw q0 z0 q1 z1 q2 z2 q3 z3 q4 z4 q5 z5 q6 z6 q7 z7
          go_meet
          case rel => exact cut_next HAC.out (by rw [HE.out]; decide) HNX.out O.out
        have HAC : Aside0 (¬ AcOk x) := ⟨fun h => by
          unfold AcOk at h
          omega⟩
        obtain ⟨E1, _⟩ := eqF e1
        obtain ⟨E2, _⟩ := eqF e2
        obtain ⟨E3, _⟩ := eqF e3
        obtain ⟨E4, _⟩ := eqF e4
        obtain ⟨E5, _⟩ := eqF e5
        clear e1 e2 e3 e4 e5
        have c0 := (blk_cell O.out.b1 0).trans rfl; have z0 := blk_frozen O.out.b1 0
        go_wp2_with fail
        generalize hw : World.setCell _ _ _ = w9
        replace O := Aside0.mk (O.out.p1.st hw #[.int .i64 1, .int .i64 0, .int .i64 0, .slice none 0 0] rfl); clear hw c0 z0
        go_meet
        case rel => exact .inl ⟨HAC.out, O.out.p1.drop.p1.drop⟩
      case rest =>
        clear O
        rename_i Kr hKr
        refine hKr _ _ ?_
        clear hKr Kr
        go_step
        have hns : ns.length ≤ 9223372036854775807 := by have := HIV.out.notes.2; simp only at this; omega
        rcases hcut with ⟨hac, O⟩ | ⟨hac, h4, m, n0, n1, O⟩ | ⟨h4, fv, O⟩
        · simp only [oB] at O
          have hst := step_code1 (o := ⟨true, ⟨true, ns, L, G, sf⟩, S, ws⟩) hac
          have HFIN : Aside0 (stO (openL blankB []) xs (i + 1) = ⟨true, ⟨true, ns, L, G, sf⟩, S, ws⟩) := ⟨HSO.out.1.trans hst.1⟩
          have HOUT2 : Aside0 (outL (openL blankB []) xs (i + 1) = out ++ [⟨1, (ns.length : Nat), sf, []⟩]) := ⟨by rw [HSO.out.2, hst.2]⟩
          clear hst
          clear hac
          replace O := Aside0.mk (O.nilRow rI 3).p1
          have c0 := (blk_cell O.out.b0 0).trans rfl
          go_upto_region 35 with (fail)
          clear c0
          go_upto_region 35 with (fail)
          have p2 := (blk_cell O.out.b3 2).trans rfl; have p5 := (blk_cell O.out.b3 5).trans rfl
          refine sta (fun w' => w'.cell? ⟨g3, 2, none⟩ = some (.slice An ns.length Anc) ∧ w'.cell? ⟨g3, 5, none⟩ = some (.int .i64 sf)) [10] 11 ⟨p2, p5⟩ (fun hS => ?_)
          clear p2 p5
          replace O := Aside0.mk O.out.drew
          generalize World.drew _ = wz at O hS ⊢
          refine pu 0 1 ?_
          refine pu 1 3 ?_
          refine tk 2 7 hS ?_
          refine pu 3 15 ?_
          refine pu 4 31 ?_
          refine pu 5 63 ?_
          refine tk 6 127 hS ?_
          refine pu 7 255 ?_
          have z1 := blk_frozen O.out.b0 1; have c1 := (blk_cell O.out.b0 1).trans rfl
          refine on 8 511 (fun K hK => ?_)
          refine st ?_
          generalize hw : World.setCell _ _ _ = wA
          replace O := Aside0.mk (O.out.st hw #[.int .i64 1, .int .i64 (ns.length : Nat), .int .i64 0, .slice none 0 0] rfl); clear hw z1 c1
          refine nx hK ⟨(blk_cell O.out.b3 2).trans rfl, (blk_cell O.out.b3 5).trans rfl⟩ (fun hS => ?_)
          clear hK K
          refine pu 9 1023 ?_
          have z2 := blk_frozen O.out.b0 2; have c2 := (blk_cell O.out.b0 2).trans rfl
          refine la 10 2047 (fun K hK => ?_)
          refine st ?_
          generalize hw : World.setCell _ _ _ = wB
          replace O := Aside0.mk (O.out.st hw #[.int .i64 1, .int .i64 (ns.length : Nat), .int .i64 sf, .slice none 0 0] rfl); clear hw z2 c2
          refine nl hK (dn ?_)
          clear hK K hS
          have c0 := (blk_cell O.out.b0 0).trans rfl; have c1 := (blk_cell O.out.b0 1).trans rfl; have c2 := (blk_cell O.out.b0 2).trans rfl; have c3 := (blk_cell O.out.b0 3).trans rfl
          replace O := Aside0.mk (O.out.p1.as (R := Rs.cel rAd (cAd (⟨1, (ns.length : Nat), sf, []⟩ : Ad) (.slice none 0 0)) (⟨1, (ns.length : Nat), sf, []⟩ : Ad)) (fun f hf => Ad_mk (⟨1, (ns.length : Nat), sf, []⟩ : Ad) hf)).p2
          go_upto_region 37 with (at_builtin; go_loud (refine Own.app_one rAd rfl (.tmp 122) (.tmp 124) 25 30 (.agg #[.int .i64 0, .int .i64 0, .int .i64 0, .slice none 0 0]) 48 rfl Try.underlying25 info30 rfl (by decide) (by decide) (.slice Po out.length pc) out (⟨1, (ns.length : Nat), sf, []⟩ : Ad) _ rfl rfl O.out (by have := HOL.out; omega) ?_); intro v5 w5 hX; have O5 := Aside0.mk hX; clear hX)
          clear O c0 c1 c2 c3
          replace O5 := Aside0.mk O5.out.p1.drop
          rw [← HOUT2.out] at O5
          go_wp2
          go_roundg (gk - 1)
          case measure => have := HI.out; omega
          case rel => exact ⟨i + 1, ns, L, G, sf, S, ws, An, A0, A1, Anc, A0c, A1c, by first | rfl | (congr 1; omega), ⟨by omega, by have := HI.out; omega⟩, HC0, HFIN, O5⟩
        · obtain ⟨nx, hnx⟩ : ∃ nx, nx = nextL ⟨true, ⟨true, ns, L, G, sf⟩, S, ws⟩ x := ⟨_, rfl⟩
          rw [← hnx] at O
          have hninv : nx.ok = true → Inv nx := fun h => by rw [hnx] at h ⊢; exact inv_next HIV.out hac h
          obtain ⟨nok, ⟨nlk, nns, nL, nG, nsf⟩, nS, nws⟩ := nx
          simp only [oB] at O
          obtain ⟨M0, mc0, rfl, _⟩ := O.f2
          obtain ⟨M1, mc1, rfl, hcap⟩ := O.f3
          obtain ⟨M2, mc2, rfl, _⟩ := O.p4.f0
          have HCAP := Aside0.mk hcap; clear hcap
          replace O := Aside0.mk O
          cases nok
          · have hst := step_code2 (o := ⟨true, ⟨true, ns, L, G, sf⟩, S, ws⟩) hac h4 (by rw [← hnx])
            have HFIN : Aside0 (stO (openL blankB []) xs (i + 1) = ⟨true, ⟨true, ns, L, G, sf⟩, S, ws⟩) := ⟨HSO.out.1.trans hst.1⟩
            have HOUT2 : Aside0 (outL (openL blankB []) xs (i + 1) = out ++ [⟨2, (ns.length : Nat), sf, []⟩]) := ⟨by rw [HSO.out.2, hst.2]⟩
            clear hst
            clear hac h4 hnx hninv
            have c0 := (blk_cell O.out.b0 0).trans rfl; have z0 := blk_frozen O.out.b0 0; have q0 := (blk_cell O.out.b1 0).trans rfl
            go_upto_region 35 with (fail)
            generalize hw : World.setCell _ _ _ = w41
            replace O := Aside0.mk (O.out.st hw #[.int .i64 2, .int .i64 0, .int .i64 0, .slice none 0 0] rfl); clear hw c0 z0 q0
            replace O := Aside0.mk (O.out.p1.drop.p1.drop.p1.drop.p1.drop.nilRow rI 3).p1
            go_upto_region 35 with (fail)
            have p2 := (blk_cell O.out.b3 2).trans rfl; have p5 := (blk_cell O.out.b3 5).trans rfl
            refine sta (fun w' => w'.cell? ⟨g3, 2, none⟩ = some (.slice An ns.length Anc) ∧ w'.cell? ⟨g3, 5, none⟩ = some (.int .i64 sf)) [10] 11 ⟨p2, p5⟩ (fun hS => ?_)
            clear p2 p5
            replace O := Aside0.mk O.out.drew
            generalize World.drew _ = wz at O hS ⊢
            refine pu 0 1 ?_
            refine pu 1 3 ?_
            refine tk 2 7 hS ?_
            refine pu 3 15 ?_
            refine pu 4 31 ?_
            refine pu 5 63 ?_
            refine tk 6 127 hS ?_
            refine pu 7 255 ?_
            have z1 := blk_frozen O.out.b0 1; have c1 := (blk_cell O.out.b0 1).trans rfl
            refine on 8 511 (fun K hK => ?_)
            refine st ?_
            generalize hw : World.setCell _ _ _ = wA
            replace O := Aside0.mk (O.out.st hw #[.int .i64 2, .int .i64 (ns.length : Nat), .int .i64 0, .slice none 0 0] rfl); clear hw z1 c1
            refine nx hK ⟨(blk_cell O.out.b3 2).trans rfl, (blk_cell O.out.b3 5).trans rfl⟩ (fun hS => ?_)
            clear hK K
            refine pu 9 1023 ?_
            have z2 := blk_frozen O.out.b0 2; have c2 := (blk_cell O.out.b0 2).trans rfl
            refine la 10 2047 (fun K hK => ?_)
            refine st ?_
            generalize hw : World.setCell _ _ _ = wB
            replace O := Aside0.mk (O.out.st hw #[.int .i64 2, .int .i64 (ns.length : Nat), .int .i64 sf, .slice none 0 0] rfl); clear hw z2 c2
            refine nl hK (dn ?_)
            clear hK K hS
            have c0 := (blk_cell O.out.b0 0).trans rfl; have c1 := (blk_cell O.out.b0 1).trans rfl; have c2 := (blk_cell O.out.b0 2).trans rfl; have c3 := (blk_cell O.out.b0 3).trans rfl
            replace O := Aside0.mk (O.out.p1.as (R := Rs.cel rAd (cAd (⟨2, (ns.length : Nat), sf, []⟩ : Ad) (.slice none 0 0)) (⟨2, (ns.length : Nat), sf, []⟩ : Ad)) (fun f hf => Ad_mk (⟨2, (ns.length : Nat), sf, []⟩ : Ad) hf)).p2
            go_upto_region 37 with (at_builtin; go_loud (refine Own.app_one rAd rfl (.tmp 122) (.tmp 124) 25 30 (.agg #[.int .i64 0, .int .i64 0, .int .i64 0, .slice none 0 0]) 48 rfl Try.underlying25 info30 rfl (by decide) (by decide) (.slice Po out.length pc) out (⟨2, (ns.length : Nat), sf, []⟩ : Ad) _ rfl rfl O.out (by have := HOL.out; omega) ?_); intro v5 w5 hX; have O5 := Aside0.mk hX; clear hX)
            clear O c0 c1 c2 c3
            replace O5 := Aside0.mk O5.out.p1.drop
            rw [← HOUT2.out] at O5
            go_wp2
            go_roundg (gk - 1)
            case measure => have := HI.out; omega
            case rel => exact ⟨i + 1, ns, L, G, sf, S, ws, An, A0, A1, Anc, A0c, A1c, by first | rfl | (congr 1; omega), ⟨by omega, by have := HI.out; omega⟩, HC0, HFIN, O5⟩
          · obtain rfl : nlk = true := (hninv rfl).lgok.2
            have hst := step_code0 (o := ⟨true, ⟨true, ns, L, G, sf⟩, S, ws⟩) hac h4 (by rw [← hnx])
            have HFIN : Aside0 (stO (openL blankB []) xs (i + 1) = ⟨true, ⟨true, nns, nL, nG, nsf⟩, nS, nws⟩) := ⟨by rw [HSO.out.1, hst.1, ← hnx]⟩
            have HOUT2 : Aside0 (outL (openL blankB []) xs (i + 1) = out ++ [⟨0, (nns.length : Nat), nsf, []⟩]) := ⟨by rw [HSO.out.2, hst.2, ← hnx]⟩
            clear hst
            clear hac h4 hnx hninv
            have c0 := (blk_cell O.out.b0 0).trans rfl
            have q0 := (blk_cell O.out.b1 0).trans rfl; have q1 := (blk_cell O.out.b1 1).trans rfl; have q2 := (blk_cell O.out.b1 2).trans rfl; have q3 := (blk_cell O.out.b1 3).trans rfl; have q4 := (blk_cell O.out.b1 4).trans rfl; have q5 := (blk_cell O.out.b1 5).trans rfl; have q6 := (blk_cell O.out.b1 6).trans rfl; have q7 := (blk_cell O.out.b1 7).trans rfl
            have p0 := (blk_cell O.out.b6 0).trans rfl; have p1 := (blk_cell O.out.b6 1).trans rfl; have p2 := (blk_cell O.out.b6 2).trans rfl; have p3 := (blk_cell O.out.b6 3).trans rfl; have p4 := (blk_cell O.out.b6 4).trans rfl; have p5 := (blk_cell O.out.b6 5).trans rfl; have p6 := (blk_cell O.out.b6 6).trans rfl; have p7 := (blk_cell O.out.b6 7).trans rfl
            have z0 := blk_frozen O.out.b6 0; have z1 := blk_frozen O.out.b6 1; have z2 := blk_frozen O.out.b6 2; have z3 := blk_frozen O.out.b6 3; have z4 := blk_frozen O.out.b6 4; have z5 := blk_frozen O.out.b6 5; have z6 := blk_frozen O.out.b6 6; have z7 := blk_frozen O.out.b6 7
            go_upto_region 35 with (fail)
            generalize hw : World.setCell _ _ _ = w41
            replace O := Aside0.mk (O.out.p6.st8 hw); clear hw c0 q0 q1 q2 q3 q4 q5 q6 q7 p0 p1 p2 p3 p4 p5 p6 p7 z0 z1 z2 z3 z4 z5 z6 z7
            replace O := Aside0.mk (Own.only [_, _, _, _, _, _, _] (O.out.p2.drop.p5.nilRow rI 3).p3)
            go_upto_region 35 with (fail)
            have p2 := (blk_cell O.out.b3 2).trans rfl; have p5 := (blk_cell O.out.b3 5).trans rfl
            refine sta (fun w' => w'.cell? ⟨g3, 2, none⟩ = some (.slice M0 nns.length mc0) ∧ w'.cell? ⟨g3, 5, none⟩ = some (.int .i64 nsf)) [10] 11 ⟨p2, p5⟩ (fun hS => ?_)
            clear p2 p5
            replace O := Aside0.mk O.out.drew
            generalize World.drew _ = wz at O hS ⊢
            refine pu 0 1 ?_
            refine pu 1 3 ?_
            refine tk 2 7 hS ?_
            refine pu 3 15 ?_
            refine pu 4 31 ?_
            refine pu 5 63 ?_
            refine tk 6 127 hS ?_
            refine pu 7 255 ?_
            have z1 := blk_frozen O.out.b0 1; have c1 := (blk_cell O.out.b0 1).trans rfl
            refine on 8 511 (fun K hK => ?_)
            refine st ?_
            generalize hw : World.setCell _ _ _ = wA
            replace O := Aside0.mk (O.out.st hw #[.int .i64 0, .int .i64 (nns.length : Nat), .int .i64 0, .slice none 0 0] rfl); clear hw z1 c1
            refine nx hK ⟨(blk_cell O.out.b3 2).trans rfl, (blk_cell O.out.b3 5).trans rfl⟩ (fun hS => ?_)
            clear hK K
            refine pu 9 1023 ?_
            have z2 := blk_frozen O.out.b0 2; have c2 := (blk_cell O.out.b0 2).trans rfl
            refine la 10 2047 (fun K hK => ?_)
            refine st ?_
            generalize hw : World.setCell _ _ _ = wB
            replace O := Aside0.mk (O.out.st hw #[.int .i64 0, .int .i64 (nns.length : Nat), .int .i64 nsf, .slice none 0 0] rfl); clear hw z2 c2
            refine nl hK (dn ?_)
            clear hK K hS
            have c0 := (blk_cell O.out.b0 0).trans rfl; have c1 := (blk_cell O.out.b0 1).trans rfl; have c2 := (blk_cell O.out.b0 2).trans rfl; have c3 := (blk_cell O.out.b0 3).trans rfl
            replace O := Aside0.mk (O.out.p1.as (R := Rs.cel rAd (cAd (⟨0, (nns.length : Nat), nsf, []⟩ : Ad) (.slice none 0 0)) (⟨0, (nns.length : Nat), nsf, []⟩ : Ad)) (fun f hf => Ad_mk (⟨0, (nns.length : Nat), nsf, []⟩ : Ad) hf)).p2
            go_upto_region 37 with (at_builtin; go_loud (refine Own.app_one rAd rfl (.tmp 122) (.tmp 124) 25 30 (.agg #[.int .i64 0, .int .i64 0, .int .i64 0, .slice none 0 0]) 48 rfl Try.underlying25 info30 rfl (by decide) (by decide) (.slice Po out.length pc) out (⟨0, (nns.length : Nat), nsf, []⟩ : Ad) _ rfl rfl O.out (by have := HOL.out; omega) ?_); intro v5 w5 hX; have O5 := Aside0.mk hX; clear hX)
            clear O c0 c1 c2 c3
            replace O5 := Aside0.mk O5.out.p1.drop
            rw [← HOUT2.out] at O5
            go_wp2
            go_roundg (gk - 1)
            case measure => have := HI.out; omega
            case rel => exact ⟨i + 1, nns, nL, nG, nsf, nS, nws, M0, M1, M2, mc0, mc1, mc2, by first | rfl | (congr 1; omega), ⟨by omega, by have := HI.out; omega⟩, HCAP, HFIN, O5⟩
        · have hst := step_ask (o := ⟨true, ⟨true, ns, L, G, sf⟩, S, ws⟩) h4 rfl
          simp only [oB] at O hst
          obtain ⟨F, hF⟩ : ∃ F, F = findL x.ask ns := ⟨_, rfl⟩
          rw [← hF] at O hst
          have HFIN : Aside0 (stO (openL blankB []) xs (i + 1) = ⟨true, ⟨true, ns, L, G, sf⟩, S, ws⟩) := ⟨HSO.out.1.trans hst.1⟩
          have HOUT2 : Aside0 (outL (openL blankB []) xs (i + 1) = out ++ [⟨0, (ns.length : Nat), sf, F⟩]) := ⟨by rw [HSO.out.2, hst.2]⟩
          clear hst h4 hF
          obtain ⟨F0, fc0, rfl, _⟩ := O.f1
          replace O := Aside0.mk O
          have c0 := (blk_cell O.out.b0 0).trans rfl
          have q0 := (blk_cell O.out.b2 0).trans rfl; have q1 := (blk_cell O.out.b2 1).trans rfl; have q2 := (blk_cell O.out.b2 2).trans rfl; have q3 := (blk_cell O.out.b2 3).trans rfl; have q4 := (blk_cell O.out.b2 4).trans rfl; have q5 := (blk_cell O.out.b2 5).trans rfl; have q6 := (blk_cell O.out.b2 6).trans rfl; have q7 := (blk_cell O.out.b2 7).trans rfl
          have p0 := (blk_cell O.out.b4 0).trans rfl; have p1 := (blk_cell O.out.b4 1).trans rfl; have p2 := (blk_cell O.out.b4 2).trans rfl; have p3 := (blk_cell O.out.b4 3).trans rfl; have p4 := (blk_cell O.out.b4 4).trans rfl; have p5 := (blk_cell O.out.b4 5).trans rfl; have p6 := (blk_cell O.out.b4 6).trans rfl; have p7 := (blk_cell O.out.b4 7).trans rfl
          have z0 := blk_frozen O.out.b4 0; have z1 := blk_frozen O.out.b4 1; have z2 := blk_frozen O.out.b4 2; have z3 := blk_frozen O.out.b4 3; have z4 := blk_frozen O.out.b4 4; have z5 := blk_frozen O.out.b4 5; have z6 := blk_frozen O.out.b4 6; have z7 := blk_frozen O.out.b4 7
          go_upto_region 35 with (fail)
          generalize hw : World.setCell _ _ _ = w41
          replace O := Aside0.mk (O.out.p4.st8 hw); clear hw c0 q0 q1 q2 q3 q4 q5 q6 q7 p0 p1 p2 p3 p4 p5 p6 p7 z0 z1 z2 z3 z4 z5 z6 z7
          replace O := Aside0.mk (O.out.p3.drop.p3.p3.p3)
          go_upto_region 35 with (fail)
          have p2 := (blk_cell O.out.b3 2).trans rfl; have p5 := (blk_cell O.out.b3 5).trans rfl
          refine sta (fun w' => w'.cell? ⟨g3, 2, none⟩ = some (.slice An ns.length Anc) ∧ w'.cell? ⟨g3, 5, none⟩ = some (.int .i64 sf)) [10] 11 ⟨p2, p5⟩ (fun hS => ?_)
          clear p2 p5
          replace O := Aside0.mk O.out.drew
          generalize World.drew _ = wz at O hS ⊢
          refine pu 0 1 ?_
          refine pu 1 3 ?_
          refine tk 2 7 hS ?_
          refine pu 3 15 ?_
          refine pu 4 31 ?_
          refine pu 5 63 ?_
          refine tk 6 127 hS ?_
          refine pu 7 255 ?_
          have z1 := blk_frozen O.out.b0 1; have c1 := (blk_cell O.out.b0 1).trans rfl
          refine on 8 511 (fun K hK => ?_)
          refine st ?_
          generalize hw : World.setCell _ _ _ = wA
          replace O := Aside0.mk (O.out.st hw #[.int .i64 0, .int .i64 (ns.length : Nat), .int .i64 0, .slice F0 F.length fc0] rfl); clear hw z1 c1
          refine nx hK ⟨(blk_cell O.out.b3 2).trans rfl, (blk_cell O.out.b3 5).trans rfl⟩ (fun hS => ?_)
          clear hK K
          refine pu 9 1023 ?_
          have z2 := blk_frozen O.out.b0 2; have c2 := (blk_cell O.out.b0 2).trans rfl
          refine la 10 2047 (fun K hK => ?_)
          refine st ?_
          generalize hw : World.setCell _ _ _ = wB
          replace O := Aside0.mk (O.out.st hw #[.int .i64 0, .int .i64 (ns.length : Nat), .int .i64 sf, .slice F0 F.length fc0] rfl); clear hw z2 c2
          refine nl hK (dn ?_)
          clear hK K hS
          have c0 := (blk_cell O.out.b0 0).trans rfl; have c1 := (blk_cell O.out.b0 1).trans rfl; have c2 := (blk_cell O.out.b0 2).trans rfl; have c3 := (blk_cell O.out.b0 3).trans rfl
          replace O := Aside0.mk (O.out.p1.as (R := Rs.cel rAd (cAd (⟨0, (ns.length : Nat), sf, F⟩ : Ad) (.slice F0 F.length fc0)) (⟨0, (ns.length : Nat), sf, F⟩ : Ad)) (fun f hf => Ad_mk (⟨0, (ns.length : Nat), sf, F⟩ : Ad) hf)).p2
          go_upto_region 37 with (at_builtin; go_loud (refine Own.app_one rAd rfl (.tmp 122) (.tmp 124) 25 30 (.agg #[.int .i64 0, .int .i64 0, .int .i64 0, .slice none 0 0]) 48 rfl Try.underlying25 info30 rfl (by decide) (by decide) (.slice Po out.length pc) out (⟨0, (ns.length : Nat), sf, F⟩ : Ad) _ rfl rfl O.out (by have := HOL.out; omega) ?_); intro v5 w5 hX; have O5 := Aside0.mk hX; clear hX)
          clear O c0 c1 c2 c3
          replace O5 := Aside0.mk O5.out.p1.drop
          rw [← HOUT2.out] at O5
          go_wp2
          go_roundg (gk - 1)
          case measure => have := HI.out; omega
          case rel => exact ⟨i + 1, ns, L, G, sf, S, ws, An, A0, A1, Anc, A0c, A1c, by first | rfl | (congr 1; omega), ⟨by omega, by have := HI.out; omega⟩, HC0, HFIN, O5⟩
    · have hie : i = xs.length := by have := HI.out; omega
      subst hie
      rw [← HOUT.out] at HR
      go_wp2
      obtain ⟨f, hf, hnd, hl2, hc⟩ := O.out.take
      exact HQ.out _ _ ⟨_, rfl, by rw [HR.out]; exact ⟨f, hf, hnd, hl2⟩, O.out.bel⟩
end Go.Proofs.Ytocdlibnmlcokaa
namespace Go.Proofs.Ytocdlibnmlcokaa
open Go.RowKit Go.Proofs.YtocdlibnmlcokaaW.PrintWords Go.Proofs.YtocdlibnmlcokaaW.PrintLast
set_option linter.unusedVariables false
set_option linter.unusedSimpArgs false
theorem drop_get {ys R : List Ad} {i j : Nat} (h : ys.drop i = R.drop i) (hl : ys.length = R.length) (hij : i ≤ j) (hj : j < R.length) : ys[j]'(by omega) = R[j] := by
  have h1 : (ys.drop i)[j - i]? = (R.drop i)[j - i]? := by rw [h]
  rw [List.getElem?_drop, List.getElem?_drop, show i + (j - i) = j by omega, List.getElem?_eq_getElem (by omega), List.getElem?_eq_getElem hj] at h1
  injection h1
set_option maxHeartbeats 8000000 in
set_option maxRecDepth 100000 in
theorem fnTop_w (A : Option Addr) (c : Nat) (xs : List Int) (w : World) (hx : kB.C w A xs.length xs) (hb : BsOk xs) (hm : HasMax w) :
    Calls Try.prog 3 #[.slice A xs.length c] w (Yes w) := by
  suffices H : ∀ Q : Ending → World → Prop, (∀ e w', Yes w e w' → Q e w') → Calls Try.prog 3 #[.slice A xs.length c] w Q from H _ (fun e w' h => h)
  intro Q hQ
  have hl : xs.length ≤ 9223372036854775807 := hx.2.1
  have HQ := Aside0.mk hQ; have HX := Aside0.mk hx; have HB := Aside0.mk hb; have HM := Aside0.mk hm; clear hx hb hQ hm
  by_cases hbig : (xs.length : Int) ≤ 1048576
  rotate_left
  · go_enter Try.func3, Try.ntmps3
    go_wp2_with fail
    exact HQ.out _ _ ⟨rfl, Below.refl _ _⟩
  have hsm := drawOf_sm xs
  obtain ⟨D, hD⟩ : ∃ D, D = drawOf xs := ⟨_, rfl⟩
  rw [← hD] at hsm
  have HT : Aside0 (∀ x ∈ D, x.note.text.size < 4294967281 ∧ x.ask.text.size < 4294967281) := ⟨fun x hx => by have h := hsm x hx; exact ⟨by have := h.1; omega, by have := h.2.1; omega⟩⟩
  have HKL : Aside0 (∀ x ∈ D, x.kept.length ≤ 4000) := ⟨fun x hx => (hsm x hx).2.2⟩
  obtain ⟨R, hR⟩ : ∃ R, R = runL D := ⟨_, rfl⟩
  have hRl : R.length ≤ 300 := by
    rw [hR]; unfold runL
    split
    · simp
    · rw [outL_len]; omega
  have HD := Aside0.mk hD; have HR := Aside0.mk hR; clear hD hR hsm
  have O := Aside0.mk (Own.nil w)
  go_enter Try.func3, Try.ntmps3
  go_upto_region 3 with (fail)
  go_wp2_with fail
  refine (drawRun_c A c xs _ HX.out HB.out).mono ?_
  rw [← HD.out]
  intro e w1 hg
  obtain ⟨v, rfl, k⟩ := own_row hg
  replace O := Aside0.mk (O.out.app1 k); clear k hg
  obtain ⟨X0, Xc, rfl, _⟩ := O.out.f0
  go_wp2_with fail
  refine (drawRun_c A c xs _ (Kd.C_below HX.out O.out.bel) HB.out).mono ?_
  rw [← HD.out]
  intro e w2 hg
  obtain ⟨v, rfl, k⟩ := own_row hg
  replace O := Aside0.mk (O.out.app1 k); clear k hg
  obtain ⟨Y0, Yc, rfl, _⟩ := O.out.f0
  go_wp2_with fail
  refine (specRun_c Y0 Yc D _ O.out.c0 HT.out (HM.out.below O.out.bel)).mono ?_
  rw [← HR.out]
  intro e w3 hg
  obtain ⟨v, rfl, k⟩ := own_row hg
  replace O := Aside0.mk (O.out.app1 k); clear k hg
  obtain ⟨W0, Wc, rfl, _⟩ := O.out.f0
  go_wp2_with fail
  refine (implRun_c X0 Xc D _ O.out.c2 HT.out (HM.out.below O.out.bel)).mono ?_
  rw [← HR.out]
  intro e w4 hg
  obtain ⟨v, rfl, k⟩ := own_row hg
  replace O := Aside0.mk (O.out.app1 k); clear k hg
  obtain ⟨G0, Gc, rfl, _⟩ := O.out.f0
  go_wp2_with fail
  refine (wActed_t _ _ _ _ R _ O.out.c0 O.out.c1).mono ?_
  rintro e w5 ⟨rfl, hb⟩
  replace O := Aside0.mk (O.out.below hb); clear hb
  go_wp2
  go_loopg [28] (R.length + 1) (fun m vi wr => ∃ (i : Nat) (ys : List Ad), vi = .int .i64 i ∧ Aside0 (i ≤ R.length ∧ R.length + 1 - i ≤ m ∧ ys.length = R.length ∧ ys.drop i = R.drop i) ∧
    Aside0 (Own w wr [Rs.row rAd 30 (.slice G0 R.length Gc) ys, Rs.row rAd 30 (.slice W0 R.length Wc) R, Rs.row rAc 38 (.slice Y0 D.length Yc) D, Rs.row rAc 38 (.slice X0 D.length Xc) D]))
  case atStart => exact ⟨0, R, rfl, ⟨by omega, by omega, rfl, rfl⟩, O⟩
  case round =>
    clear O
    obtain ⟨i, ys, rfl, HI, O⟩ := hrel
    obtain ⟨gk0, hgk0⟩ : ∃ g0, g0 = gk := ⟨_, rfl⟩
    have HGK := Aside0.mk hgk0; clear hgk0
    by_cases hi : i < R.length
    · have HIL : Aside0 (i < ys.length) := ⟨by have := HI.out.2.2.1; omega⟩
      obtain ⟨x, hx⟩ : ∃ x, x = ys[i]'HIL.out := ⟨_, rfl⟩
      replace O := Aside0.mk (O.out.setI0 HIL.out hx.symm)
      clear hx
      obtain ⟨g, e', hnn, hc, hz⟩ := O.out.elemI HIL.out
      subst e'
      clear hnn hc hz
      obtain ⟨x0, x1, x2, fl0⟩ := x
      obtain ⟨K, fc, f, c3, hr, hnf, hup⟩ := O.out.innerAd HIL.out
      simp only at c3
      have hfl : fl0.length ≤ 9223372036854775807 := Rp.Row_len hr
      clear hr hnf hup
      obtain ⟨L0, hL0⟩ : ∃ L0, L0 = fl0.length := ⟨_, rfl⟩
      rw [← hL0] at c3 hfl
      have HL0 := Aside0.mk hL0; clear hL0
      go_upto_region 13 with (fail)
      clear c3
      generalize Value.slice K L0 fc = c35
      go_wp2
      go_loopg [37] (L0 + 1) (fun m vk wr => ∃ (k : Nat) (fl : List Int), vk = .int .i64 k ∧ Aside0 (k ≤ L0 ∧ L0 + 1 - k ≤ m ∧ fl.length = L0) ∧
        Aside0 (Own w wr [Rs.row rAd 30 (.slice (some ⟨g, 0, none⟩) R.length Gc) (ys.set i ⟨x0, x1, x2, fl⟩), Rs.row rAd 30 (.slice W0 R.length Wc) R, Rs.row rAc 38 (.slice Y0 D.length Yc) D, Rs.row rAc 38 (.slice X0 D.length Xc) D]))
      case atStart => exact ⟨0, fl0, rfl, ⟨by omega, by omega, HL0.out.symm⟩, O⟩
      case round =>
        clear O
        obtain ⟨k, fl, rfl, HK, O⟩ := hrel
        by_cases hk : k < L0
        · obtain ⟨gf, kc, c3, ⟨u, ck⟩, zk, hset⟩ := O.out.setFound HIL.out (k := k) (by show k < fl.length; have := HK.out; omega)
          simp only at c3 hset
          rw [HK.out.2.2] at c3
          have hO := hset (-7)
          have HO := Aside0.mk hO
          clear hset hO
          go_upto_region 16 with (fail)
          replace HO := HO.out
          generalize hw : World.setCell _ _ _ = w6 at HO ⊢
          replace O := Aside0.mk HO; clear HO hw c3 ck zk
          go_wp2
          go_roundg (gk - 1)
          case measure => have := HK.out; omega
          case rel => exact ⟨k + 1, fl.set k (-7), by first | rfl | (congr 1; omega), ⟨by omega, by have := HK.out; omega, by rw [List.length_set]; exact HK.out.2.2⟩, O⟩
        · go_upto_region 17 with (fail)
          obtain ⟨zs, hzs⟩ : ∃ zs, zs = ys.set i ⟨x0, x1, x2, fl⟩ := ⟨_, rfl⟩
          rw [← hzs] at O
          have hzl : zs.length = R.length := by rw [hzs, List.length_set]; exact HI.out.2.2.1
          have hzd : zs.drop (i + 1) = R.drop (i + 1) := by
            rw [hzs]
            have h1 := HI.out.2.2.2
            have h2 : (ys.set i ⟨x0, x1, x2, fl⟩).drop (i + 1) = ys.drop (i + 1) := by
              rw [List.drop_set, if_pos (by omega)]
            rw [h2, ← List.drop_drop, ← List.drop_drop, h1]
          have HZL := Aside0.mk hzl; have HZD := Aside0.mk hzd; clear hzs hzl hzd
          obtain ⟨i1, hi1⟩ : ∃ i1, i1 = i + 1 := ⟨_, rfl⟩
          have HI1 := Aside0.mk hi1
          have hwr : IntKind.i64.wrap ((i : Int) + 1) = (i1 : Int) := by rw [i64_w]; unfold wrap64; omega
          have HWR := Aside0.mk hwr
          clear hwr
          by_cases hlt : (i1 : Int) < R.length
          · have hzx := drop_get HZD.out HZL.out (j := i1) (by omega) (by omega)
            have HC0 : Aside0 (rAd.d.C wr (some ⟨g, 0, none⟩) zs.length zs) := ⟨O.out.c0⟩
            have hz0 : ((i1 : Nat) : Int) < ((zs.length : Nat) : Int) := by have := HZL.out; omega
            obtain ⟨ad, K1, kc1, e1, _, _, _, a3, _, hC1⟩ := at_Ad HC0.out (i1 : Int) (by omega) hz0
            obtain ⟨ad', K2, kc2, e2, _, _, _, b3, _, hC2⟩ := at_Ad O.out.c1 (i1 : Int) (by omega) hlt
            cases e1; cases e2
            simp only [Int.toNat_natCast] at a3 b3
            rw [gD_eq (by have := HZL.out; show i1 < zs.length; omega)] at a3 hC1
            rw [gD_eq (by show i1 < R.length; omega)] at b3 hC2
            simp only [Int.toNat_natCast] at a3 b3 hC1 hC2
            rw [hzx] at a3 hC1
            generalize R[i1]'(by omega) = z at a3 b3 hC1 hC2 hzx
            rw [add_plain] at a3
            have HC1 := Aside0.mk hC1; have HC2 := Aside0.mk hC2
            clear hzx hC1 hC2 hi1
            refine sta (fun w' => w'.cell? ⟨g, i1 * 4 + 3, none⟩ = some (.slice K1 z.found.length kc1) ∧ w'.cell? ⟨(ad'.add (i1 * 4)).block, (ad'.add (i1 * 4)).off + 3, none⟩ = some (.slice K2 z.found.length kc2)) [] 21 ⟨a3, b3⟩ (fun hS => ?_)
            clear a3 b3
            have hbd := below_drew (Below.refl wr.heap.size wr)
            replace HC1 := Aside0.mk (Kd.C_below HC1.out hbd); replace HC2 := Aside0.mk (Kd.C_below HC2.out hbd)
            clear hbd HC0
            replace O := Aside0.mk O.out.drew
            generalize World.drew _ = wd at O hS HC1 HC2 ⊢
            refine pu 0 1 ?_
            refine pu (v := .int .i64 (i1 : Int)) 1 3 ?_ (hr := fun w' => by rw [← HWR.out]; go_simp; all_goals rfl)
            refine pu 2 7 ?_
            refine pu 3 15 ?_
            refine pu (v := .bool true) 4 31 ?_ (hr := fun w' => by go_simp; all_goals (first | rfl | exact decide_eq_true (by omega) | omega))
            refine pu 5 63 ?_
            refine pu 6 127 ?_
            refine pu 7 255 ?_
            refine pu (v := .int .i64 (i1 : Int)) 8 511 ?_ (hr := fun w' => by rw [← HWR.out]; go_simp; all_goals rfl)
            refine pu 9 1023 ?_
            refine pu 10 2047 ?_
            refine tk 11 4095 hS ?_
            refine pu 12 8191 ?_
            refine pu 13 16383 ?_
            refine pu (v := .int .i64 (i1 : Int)) 14 32767 ?_ (hr := fun w' => by rw [← HWR.out]; go_simp; all_goals rfl)
            refine pu 15 65535 ?_
            refine pu 16 131071 ?_
            refine tk 17 262143 hS ?_
            refine on 18 524287 (fun K hK => ?_)
            refine ca (wInts_t _ _ _ _ z.found _ HC1.out HC2.out) Try.func25 ?_
            rintro e wa ⟨rfl, hba⟩
            refine ⟨_, rfl, nx hK ⟨pw_cell_below hba hS.1, pw_cell_below hba hS.2⟩ (fun hS => ?_)⟩
            clear hK K
            replace O := Aside0.mk (O.out.below hba); clear hba
            refine pu 19 1048575 ?_
            refine pu 20 2097151 (dn ?_)
            clear hS
            go_wp2
            go_roundg (gk0 - 1)
            case measure => have := HI.out; have := HGK.out; omega
            case rel => exact ⟨i + 1, zs, by first | rfl | (congr 1; omega), ⟨by omega, by have := HI.out; have := HGK.out; omega, HZL.out, HZD.out⟩, O⟩
          · clear hi1
            refine sta (fun w' => True) [] 21 trivial (fun hS => ?_)
            replace O := Aside0.mk O.out.drew
            generalize World.drew _ = wd at O hS ⊢
            refine pu 0 1 ?_
            refine pu (v := .int .i64 (i1 : Int)) 1 3 ?_ (hr := fun w' => by rw [← HWR.out]; go_simp; all_goals rfl)
            refine pu 2 7 ?_
            refine pu 3 15 ?_
            refine pu (v := .bool false) 4 31 ?_ (hr := fun w' => by go_simp; all_goals (first | rfl | exact decide_eq_false (by omega) | omega))
            refine pu 5 63 ?_
            refine po 6 127 ?_
            refine po 7 255 ?_
            refine po 8 511 ?_
            refine po 9 1023 ?_
            refine po 10 2047 ?_
            refine po 11 4095 ?_
            refine po 12 8191 ?_
            refine po 13 16383 ?_
            refine po 14 32767 ?_
            refine po 15 65535 ?_
            refine po 16 131071 ?_
            refine po 17 262143 ?_
            refine po 18 524287 ?_
            refine po 19 1048575 ?_
            refine pu 20 2097151 (dn ?_)
            clear hS
            go_wp2
            go_roundg (gk0 - 1)
            case measure => have := HI.out; have := HGK.out; omega
            case rel => exact ⟨i + 1, zs, by first | rfl | (congr 1; omega), ⟨by omega, by have := HI.out; have := HGK.out; omega, HZL.out, HZD.out⟩, O⟩
    · replace O := Aside0.mk O.out.drop
      have hDl : D.length ≤ 9223372036854775807 := O.out.c1.2.1
      go_wp2
      go_loopg [72] (D.length + 1) (fun m vi wr => ∃ (i : Nat), vi = .int .i64 i ∧ Aside0 (i ≤ D.length ∧ D.length + 1 - i ≤ m) ∧
        Aside0 (Own w wr [Rs.row rAd 30 (.slice W0 R.length Wc) R, Rs.row rAc 38 (.slice Y0 D.length Yc) D, Rs.row rAc 38 (.slice X0 D.length Xc) D]))
      case atStart => exact ⟨0, rfl, ⟨by omega, by omega⟩, O⟩
      case round =>
        clear O HI
        obtain ⟨i, rfl, HI, O⟩ := hrel
        obtain ⟨gk1, hgk1⟩ : ∃ g0, g0 = gk := ⟨_, rfl⟩
        have HGK1 := Aside0.mk hgk1; clear hgk1
        by_cases hi : i < D.length
        · obtain ⟨ad, K1, kc1, e1, a0, a1, a2, a3, a4, a5, a6, a7, a8, a9, a10, a11, a12, a13, _, hC1⟩ := at_Ac O.out.c2 (i : Int) (by omega) (by omega)
          have hkk : (gA D i).kept.length ≤ 4000 := by rw [gA_eq (by omega)]; exact HKL.out _ (List.getElem_mem _)
          cases e1
          simp only [Int.toNat_natCast] at a6
          clear a0 a1 a2 a3 a4 a5 a7 a8 a9 a10 a11 a12 a13 hC1
          go_upto_region 24 with (fail)
          clear a6
          obtain ⟨L1, hL1⟩ : ∃ L1, L1 = (gA D i).kept.length := ⟨_, rfl⟩
          rw [← hL1] at hkk ⊢
          have HL1 := Aside0.mk hL1; clear hL1
          generalize Value.slice K1 L1 kc1 = c79
          go_wp2
          go_loopg [81] (L1 + 1) (fun m vk wr => ∃ (k : Nat), vk = .int .i64 k ∧ Aside0 (k ≤ L1 ∧ L1 + 1 - k ≤ m) ∧
            Aside0 (Own w wr [Rs.row rAd 30 (.slice W0 R.length Wc) R, Rs.row rAc 38 (.slice Y0 D.length Yc) D, Rs.row rAc 38 (.slice (some ad) D.length Xc) D]))
          case atStart => exact ⟨0, rfl, ⟨by omega, by omega⟩, O⟩
          case round =>
            clear O
            obtain ⟨k, rfl, HK, O⟩ := hrel
            by_cases hk : k < L1
            · obtain ⟨ad1, K1, kc1, e1, a0, a1, a2, a3, a4, a5, a6, a7, a8, a9, a10, a11, a12, a13, _, hC1⟩ := at_Ac O.out.c2 (i : Int) (by omega) (by omega)
              obtain ⟨ad2, K2, kc2, e2, b0, b1, b2, b3, b4, b5, b6, b7, b8, b9, b10, b11, b12, b13, _, hC2⟩ := at_Ac O.out.c1 (i : Int) (by omega) (by omega)
              cases e1; cases e2
              simp only [Int.toNat_natCast] at a6 b6
              clear a0 a1 a2 a3 a4 a5 a7 a8 a9 a10 a11 a12 a13 b0 b1 b2 b3 b4 b5 b7 b8 b9 b10 b11 b12 b13
              obtain ⟨kl, hkl⟩ : ∃ kl, kl = (gA D i).kept := ⟨_, rfl⟩
              rw [← hkl] at a6 b6 hC1 hC2
              have hkll : L1 = kl.length := by rw [hkl]; exact HL1.out
              rw [← hkll] at a6 b6 hC1 hC2
              clear hkl
              obtain ⟨ae, e1, ck1⟩ := Kd.at_bool hC1 (k : Int) (by omega) (by omega)
              obtain ⟨be, e2, ck2⟩ := Kd.at_bool hC2 (k : Int) (by omega) (by omega)
              cases e1; cases e2
              simp only [Int.toNat_natCast] at ck1 ck2
              have HC1 := Aside0.mk hC1; have HC2 := Aside0.mk hC2; clear hC1 hC2 hkll
              go_upto_region 26 with (fail)
              go_quiet (fail)
              clear a6 b6 ck1 ck2
              replace O := Aside0.mk (O.out.drewN nq)
              generalize wr.drewN nq = wd at O ⊢
              go_wp2
              go_roundg (gk - 1)
              case measure => have := HK.out; omega
              case rel => exact ⟨k + 1, by first | rfl | (congr 1; omega), ⟨by omega, by have := HK.out; omega⟩, O⟩
            · go_wp2
              go_roundg (gk1 - 1)
              case measure => have := HI.out; have := HGK1.out; omega
              case rel => exact ⟨i + 1, by first | rfl | (congr 1; omega), ⟨by omega, by have := HI.out; have := HGK1.out; omega⟩, O⟩
        · go_wp2_with fail
          refine (implRun_c X0 Xc D _ O.out.c2 HT.out (HM.out.below O.out.bel)).mono ?_
          rw [← HR.out]
          intro e w8 hg
          obtain ⟨v, rfl, k⟩ := own_row hg
          replace O := Aside0.mk (O.out.app1 k); clear k hg
          obtain ⟨H0, Hc, rfl, _⟩ := O.out.f0
          go_wp2_with fail
          refine (wActed_t _ _ _ _ R _ O.out.c0 O.out.c1).mono ?_
          rintro e w9 ⟨rfl, hb⟩
          replace O := Aside0.mk (O.out.below hb); clear hb
          go_wp2
          exact HQ.out _ _ ⟨rfl, O.out.bel⟩
end Go.Proofs.Ytocdlibnmlcokaa
