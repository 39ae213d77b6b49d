/- Two that read the same are equal: the laws' own comparisons, where they say yes. -/
import Derived.Test.YtocdlibnmlcokaaA5
namespace Go.Proofs.Ytocdlibnmlcokaa
open Go.RowKit Go.Proofs.YtocdlibnmlcokaaW.PrintWords Go.Proofs.YtocdlibnmlcokaaW.PrintLast
set_option linter.unusedVariables false
set_option linter.unusedSimpArgs false
/-- Yes, and nothing that was there has turned. -/
def Yes (w : World) (e : Ending) (w' : World) : Prop := e = .returned (.bool true) ∧ Below w.heap.size w w'
set_option maxRecDepth 100000 in
set_option maxHeartbeats 1000000 in
theorem eqByteS_t (A A' : Option Addr) (c c' : Nat) (xs : List Int) (w : World) (hx : kB.C w A xs.length xs) (hy : kB.C w A' xs.length xs) :
    Calls Try.prog 55 #[.slice A xs.length c, .slice A' xs.length c'] w (Yes w) := by
  have hl : xs.length ≤ 9223372036854775807 := hx.2.1
  have HX := Aside0.mk hx; have HY := Aside0.mk hy; clear hx hy
  go_enter Try.func55, Try.ntmps55
  go_wp2
  go_loopg [5] xs.length (fun k v w' => ∃ i : Int, v = .int .i64 i ∧ Aside0 (0 ≤ i ∧ i ≤ xs.length ∧ xs.length - i.toNat ≤ k) ∧ Drawn0 w w')
  case atStart => exact ⟨0, rfl, ⟨by simp⟩, Drawn0.refl _⟩
  case round =>
    obtain ⟨i, rfl, HI, ⟨m, rfl⟩⟩ := hrel
    by_cases h1 : i < (xs.length : Int)
    · have h0 : 0 ≤ i := HI.out.1
      obtain ⟨ad, e1, hc1⟩ := Kd.at_int HX.out i h0 h1
      obtain ⟨ad', e2, hc2⟩ := Kd.at_int HY.out i h0 h1
      cases e1; cases e2
      go_wp2
      repeat (go_quiet (fail); try go_wp2)
      go_roundg (gk - 1)
      case measure => have := HI.out; omega
      case rel => exact ⟨i + 1, rfl, ⟨by have := HI.out; omega, by have := HI.out; omega, by have := HI.out; omega⟩, by repeat (first | exact Drawn0.refl _ | apply Drawn0.step)⟩
    · go_wp2
      go_ret
      exact ⟨rfl, Drawn0.below (by repeat (first | exact Drawn0.refl _ | apply Drawn0.step))⟩
set_option maxRecDepth 100000 in
set_option maxHeartbeats 1000000 in
theorem eqByteSS_t (A A' : Option Addr) (c c' : Nat) (xs : List (List Int)) (w : World) (hx : rBS.d.C w A xs.length xs) (hy : rBS.d.C w A' xs.length xs) :
    Calls Try.prog 59 #[.slice A xs.length c, .slice A' xs.length c'] w (Yes w) := by
  have hl : xs.length ≤ 9223372036854775807 := hx.2.1
  have HX := Aside0.mk hx; have HY := Aside0.mk hy; clear hx hy
  go_enter Try.func59, Try.ntmps59
  go_wp2
  go_loopg [5] xs.length (fun k v w' => ∃ i : Int, v = .int .i64 i ∧ Aside0 (0 ≤ i ∧ i ≤ xs.length ∧ xs.length - i.toNat ≤ k) ∧ Aside0 (Below w.heap.size w w'))
  case atStart => exact ⟨0, rfl, ⟨by simp⟩, ⟨Below.refl _ _⟩⟩
  case round =>
    obtain ⟨i, rfl, HI, HB⟩ := hrel
    by_cases h1 : i < (xs.length : Int)
    · have h0 : 0 ≤ i := HI.out.1
      obtain ⟨ad, B1, c1, e1, hc1, _, hC1⟩ := at_BS (Kd.C_drew (Kd.C_below HX.out HB.out)) i h0 h1
      obtain ⟨ad', B2, c2, e2, hc2, _, hC2⟩ := at_BS (Kd.C_drew (Kd.C_below HY.out HB.out)) i h0 h1
      cases e1; cases e2
      have hb := below_drew HB.out
      have HC1 := Aside0.mk hC1; have HC2 := Aside0.mk hC2
      go_wp2
      refine sta (fun w' => w'.cell? (ad.add i.toNat) = some (.slice B1 (gBS xs i).length c1) ∧ w'.cell? (ad'.add i.toNat) = some (.slice B2 (gBS xs i).length c2)) [] 10 ⟨hc1, hc2⟩ (fun hS => ?_)
      clear hc1 hc2 hC1 hC2 HB
      generalize wr.drew = wd at HC1 HC2 hb hS ⊢
      refine pu 0 1 ?_
      refine pu 1 3 ?_
      refine pu 2 7 ?_
      refine pu 4 23 ?_
      refine pu 5 55 ?_
      refine pu 6 119 ?_
      refine tk 3 127 hS ?_
      refine tk 7 255 hS ?_
      refine on 8 511 (fun K hK => ?_)
      refine ca (eqByteS_t _ _ _ _ (gBS xs i) _ HC1.out HC2.out) Try.func55 ?_
      rintro e wa ⟨rfl, hba⟩
      refine ⟨_, rfl, nx hK ⟨pw_cell_below hba hS.1, pw_cell_below hba hS.2⟩ (fun hS => ?_)⟩
      refine pu 9 1023 ?_
      refine dn ?_
      clear hK K hS
      have HB := Aside0.mk (below_then hb hb.size hba)
      clear hba hb HC1 HC2
      go_wp2
      go_roundg (gk - 1)
      case measure => have := HI.out; omega
      case rel => exact ⟨i + 1, rfl, ⟨by have := HI.out; omega, by have := HI.out; omega, by have := HI.out; omega⟩, HB⟩
    · go_wp2
      go_ret
      exact ⟨rfl, HB.out⟩
set_option maxRecDepth 100000 in
set_option maxHeartbeats 1000000 in
theorem eqWrite_t (A A' : Option Addr) (c c' : Nat) (b : Int) (xs : List Int) (w : World) (hx : kB.C w A xs.length xs) (hy : kB.C w A' xs.length xs) :
    Calls Try.prog 142 #[.agg #[.int .i64 b, .slice A xs.length c], .agg #[.int .i64 b, .slice A' xs.length c']] w (Yes w) := by
  have hb := below_alloc (below_alloc (Below.refl w.heap.size w) (.cells #[.int .i64 b, .slice A xs.length c] 147)) (.cells #[.int .i64 b, .slice A' xs.length c'] 147)
  have HX := Aside0.mk (Kd.C_below hx hb); have HY := Aside0.mk (Kd.C_below hy hb); have HB := Aside0.mk hb; clear hx hy hb
  go_enter Try.func142, Try.ntmps142
  go_wp2_with (go_at_call 55; refine (eqByteS_t _ _ _ _ xs _ HX.out HY.out).mono ?_; rintro e w1 ⟨rfl, hb1⟩; have HB1 := Aside0.mk (below_then HB.out (by simp; omega) hb1); clear hb1)
  go_ret
  exact ⟨rfl, HB1.out⟩
set_option maxRecDepth 100000 in
set_option maxHeartbeats 1000000 in
theorem eqWriteS_t (A A' : Option Addr) (c c' : Nat) (xs : List Wr) (w : World) (hx : rW.d.C w A xs.length xs) (hy : rW.d.C w A' xs.length xs) :
    Calls Try.prog 101 #[.slice A xs.length c, .slice A' xs.length c'] w (Yes w) := by
  have hl : xs.length ≤ 9223372036854775807 := hx.2.1
  have HX := Aside0.mk hx; have HY := Aside0.mk hy; clear hx hy
  go_enter Try.func101, Try.ntmps101
  go_wp2
  go_loopg [5] xs.length (fun k v w' => ∃ i : Int, v = .int .i64 i ∧ Aside0 (0 ≤ i ∧ i ≤ xs.length ∧ xs.length - i.toNat ≤ k) ∧ Aside0 (Below w.heap.size w w'))
  case atStart => exact ⟨0, rfl, ⟨by simp⟩, ⟨Below.refl _ _⟩⟩
  case round =>
    obtain ⟨i, rfl, HI, HB⟩ := hrel
    by_cases h1 : i < (xs.length : Int)
    · have h0 : 0 ≤ i := HI.out.1
      obtain ⟨ad, B1, c1, e1, hc1, hd1, _, hC1⟩ := at_W (Kd.C_drew (Kd.C_below HX.out HB.out)) i h0 h1
      obtain ⟨ad', B2, c2, e2, hc2, hd2, _, hC2⟩ := at_W (Kd.C_drew (Kd.C_below HY.out HB.out)) i h0 h1
      cases e1; cases e2
      have hb := below_drew HB.out
      have HC1 := Aside0.mk hC1; have HC2 := Aside0.mk hC2
      go_wp2
      refine sta (fun w' => (w'.cell? (ad.add (i.toNat * 2)) = some (.int .i64 (gW xs i).block) ∧ w'.cell? ⟨(ad.add (i.toNat * 2)).block, (ad.add (i.toNat * 2)).off + 1, none⟩ = some (.slice B1 (gW xs i).bytes.length c1)) ∧ (w'.cell? (ad'.add (i.toNat * 2)) = some (.int .i64 (gW xs i).block) ∧ w'.cell? ⟨(ad'.add (i.toNat * 2)).block, (ad'.add (i.toNat * 2)).off + 1, none⟩ = some (.slice B2 (gW xs i).bytes.length c2))) [] 10 ⟨⟨hc1, hd1⟩, ⟨hc2, hd2⟩⟩ (fun hS => ?_)
      clear hc1 hc2 hd1 hd2 hC1 hC2 HB
      generalize wr.drew = wd at HC1 HC2 hb hS ⊢
      refine pu 0 1 ?_
      refine pu 1 3 ?_
      refine pu 2 7 ?_
      refine pu 4 23 ?_
      refine pu 5 55 ?_
      refine pu 6 119 ?_
      refine tk 3 127 hS ?_
      refine tk 7 255 hS ?_
      refine on 8 511 (fun K hK => ?_)
      refine ca (eqWrite_t _ _ _ _ _ (gW xs i).bytes _ HC1.out HC2.out) Try.func142 ?_
      rintro e wa ⟨rfl, hba⟩
      refine ⟨_, rfl, nx hK ⟨⟨pw_cell_below hba hS.1.1, pw_cell_below hba hS.1.2⟩, ⟨pw_cell_below hba hS.2.1, pw_cell_below hba hS.2.2⟩⟩ (fun hS => ?_)⟩
      refine pu 9 1023 ?_
      refine dn ?_
      clear hK K hS
      have HB := Aside0.mk (below_then hb hb.size hba)
      clear hba hb HC1 HC2
      go_wp2
      go_roundg (gk - 1)
      case measure => have := HI.out; omega
      case rel => exact ⟨i + 1, rfl, ⟨by have := HI.out; omega, by have := HI.out; omega, by have := HI.out; omega⟩, HB⟩
    · go_wp2
      go_ret
      exact ⟨rfl, HB.out⟩
set_option maxRecDepth 100000 in
set_option maxHeartbeats 1000000 in
theorem eqDisk_t (A0 A1 B0 B1 : Option Addr) (c0 c1 d0 d1 : Nat) (bs : List (List Int)) (ws : List Wr) (w : World) (hx : rBS.d.C w A0 bs.length bs) (hy : rW.d.C w A1 ws.length ws) (hx' : rBS.d.C w B0 bs.length bs) (hy' : rW.d.C w B1 ws.length ws) :
    Calls Try.prog 28 #[.agg #[.slice A0 bs.length c0, .slice A1 ws.length c1], .agg #[.slice B0 bs.length d0, .slice B1 ws.length d1]] w (Yes w) := by
  have hb := below_alloc (below_alloc (Below.refl w.heap.size w) (.cells #[.slice A0 bs.length c0, .slice A1 ws.length c1] 43)) (.cells #[.slice B0 bs.length d0, .slice B1 ws.length d1] 43)
  have HX := Aside0.mk (Kd.C_below hx hb); have HY := Aside0.mk (Kd.C_below hy hb); have HX' := Aside0.mk (Kd.C_below hx' hb); have HY' := Aside0.mk (Kd.C_below hy' hb); have HB := Aside0.mk hb; clear hx hy hx' hy' hb
  have BK1 := Aside0.mk (blk_alloc (blk_new w (.cells #[.slice A0 bs.length c0, .slice A1 ws.length c1] 43)) (.cells #[.slice B0 bs.length d0, .slice B1 ws.length d1] 43))
  have BK2 := Aside0.mk (blk_new' (w := w.alloc (.cells #[.slice A0 bs.length c0, .slice A1 ws.length c1] 43)) (.cells #[.slice B0 bs.length d0, .slice B1 ws.length d1] 43) (n := w.heap.size + 1) (by simp))
  go_enter Try.func28, Try.ntmps28
  go_wp2_with (first
    | (go_at_call 59; refine (eqByteSS_t _ _ _ _ bs _ HX.out HX'.out).mono ?_; rintro e wa ⟨rfl, hb1⟩; have k1 := (blk_cell (blk_below BK1.out hb1) 1).trans rfl; have k2 := (blk_cell (blk_below BK2.out hb1) 1).trans rfl; have HB1 := Aside0.mk (below_then HB.out (by simp; omega) hb1); have HYa := Aside0.mk (Kd.C_below HY.out hb1); have HYb := Aside0.mk (Kd.C_below HY'.out hb1); clear hb1)
    | (go_at_call 101; refine (eqWriteS_t _ _ _ _ ws _ HYa.out HYb.out).mono ?_; rintro e wb ⟨rfl, hb1⟩; have HB2 := Aside0.mk (below_then HB1.out HB1.out.size hb1); clear hb1))
  go_ret
  exact ⟨rfl, HB2.out⟩
end Go.Proofs.Ytocdlibnmlcokaa
