/- The laws' own measures. -/
import Derived.Test.YtocdlibnmlcokaaA8
namespace Go.Proofs.Ytocdlibnmlcokaa
open Go.RowKit Go.Proofs.YtocdlibnmlcokaaW.PrintWords Go.Proofs.YtocdlibnmlcokaaW.PrintLast
set_option linter.unusedVariables false
set_option linter.unusedSimpArgs false
/-- What is left of a measure; -1 where it does not reach. -/
def szR (cost left : Int) : Int := if cost ≤ left then left - cost else -1
theorem szR_yes {cost left : Int} (h : cost ≤ left) : szR cost left = left - cost := if_pos h
theorem szR_no {cost left : Int} (h : ¬ cost ≤ left) : szR cost left = -1 := if_neg h
def Num (w : World) (k : Int) (e : Ending) (w' : World) : Prop := e = .returned (.int .i64 k) ∧ Below w.heap.size w w'
theorem szByteS_c (A : Option Addr) (c n : Nat) (left : Int) (w : World) (hn : n ≤ 9223372036854775807) (h0 : 0 ≤ left) (h1 : left ≤ 1048576) :
    Calls Try.prog 151 #[.slice A n c, .int .i64 left] w (Num w (szR n left)) := by
  by_cases h : (n : Int) ≤ left
  · have HR := Aside0.mk (szR_yes h)
    go_enter Try.func151, Try.ntmps151
    go_wp2
    go_ret
    exact ⟨by rw [HR.out]; rfl, Below.refl _ _⟩
  · have HR := Aside0.mk (szR_no h)
    go_enter Try.func151, Try.ntmps151
    go_wp2
    go_ret
    exact ⟨by rw [HR.out]; rfl, Below.refl _ _⟩
def costBS (xs : List (List Int)) : Int := xs.length + cntL cnB xs
def cnV (x : Wr) : Int := x.bytes.length
def costWS (xs : List Wr) : Int := xs.length + cntL cnV xs
theorem cnV_nonneg (x : Wr) : 0 ≤ cnV x := by unfold cnV; omega
theorem szWrite_c (b : Int) (A : Option Addr) (c n : Nat) (left : Int) (w : World) (hn : n ≤ 9223372036854775807) (h0 : 0 ≤ left) (h1 : left ≤ 1048576) :
    Calls Try.prog 152 #[.agg #[.int .i64 b, .slice A n c], .int .i64 left] w (Num w (szR n left)) := by
  have hb := Aside0.mk (below_alloc (Below.refl w.heap.size w) (.cells #[.int .i64 b, .slice A n c] 176))
  by_cases h : (n : Int) ≤ left
  · have hr := szR_yes h
    go_enter Try.func152, Try.ntmps152
    go_wp2_with (go_at_call 151; refine (szByteS_c A c n left _ hn h0 h1).mono ?_; rintro e w1 ⟨rfl, hb1⟩; rw [hr]; have HB := Aside0.mk (below_then hb.out (by simp) hb1); clear hb1)
    go_ret
    exact ⟨by rw [hr]; rfl, HB.out⟩
  · have hr := szR_no h
    go_enter Try.func152, Try.ntmps152
    go_wp2_with (go_at_call 151; refine (szByteS_c A c n left _ hn h0 h1).mono ?_; rintro e w1 ⟨rfl, hb1⟩; rw [hr]; have HB := Aside0.mk (below_then hb.out (by simp) hb1); clear hb1)
    go_ret
    exact ⟨by rw [hr]; rfl, HB.out⟩
-- GEN
set_option maxHeartbeats 1000000 in
theorem szByteSS_c (A : Option Addr) (c : Nat) (xs : List (List Int)) (left : Int) (w : World) (hx : rBS.d.C w A xs.length xs) (h0 : 0 ≤ left) (h1 : left ≤ 1048576) :
    Calls Try.prog 118 #[.slice A xs.length c, .int .i64 left] w (Num w (szR (xs.length + cntL cnB xs) left)) := by
  have hl : xs.length ≤ 9223372036854775807 := hx.2.1
  have HX := Aside0.mk hx; clear hx
  have hnn := cntL_nonneg (cnt := cnB) cnB_nonneg xs
  by_cases hq : (xs.length : Int) ≤ left
  · go_enter Try.func118, Try.ntmps118
    go_wp2
    go_loopg [1, 5] xs.length (fun m vl vi wr => ∃ i lc : Int, vi = .int .i64 i ∧ vl = .int .i64 lc ∧ Aside0 (0 ≤ i ∧ i ≤ xs.length ∧ xs.length - i.toNat ≤ m ∧ lc = left - xs.length - cntL cnB (xs.take i.toNat)) ∧ Aside0 (0 ≤ lc) ∧ Aside0 (Below w.heap.size w wr))
    case atStart => exact ⟨0, left - xs.length, rfl, rfl, ⟨by simp [cntL]⟩, ⟨by omega⟩, ⟨Below.refl _ _⟩⟩
    case round =>
      obtain ⟨i, lc, rfl, rfl, HI, HL, HB⟩ := hrel
      by_cases hlt : i < (xs.length : Int)
      · have hi0 : 0 ≤ i := HI.out.1
        have hs1 := cntL_succ (cnt := cnB) xs (i := i.toNat) (by omega)
        have hs2 := cntL_le (cnt := cnB) cnB_nonneg xs (i.toNat + 1)
        have hs3 := cntL_nonneg (cnt := cnB) cnB_nonneg (xs.take i.toNat)
        have hll : 0 ≤ lc ∧ lc ≤ 1048576 := ⟨HL.out, by have := HI.out; omega⟩
        obtain ⟨ad, A0, c0, hA, c1, _, hC⟩ := at_BS (Kd.C_below HX.out HB.out) i hi0 hlt
        cases hA
        have hg := gBS_eq (xs := xs) (i := i) (by omega)
        by_cases hf : cnB (gBS xs i) ≤ lc
        · have hr := szR_yes hf
          have hs : lc - cnB (gBS xs i) = left - xs.length - cntL cnB (xs.take (i + 1).toNat) := by rw [show (i + 1).toNat = i.toNat + 1 by omega, hs1, hg]; have := HI.out; omega
          have HS := Aside0.mk hs; have HR := Aside0.mk hr
          have hpos : 0 ≤ lc - cnB (gBS xs i) := by omega
          clear hs1 hs2 hs3 hg hs hr hf
          go_wp2_with (go_at_call 151; refine (szByteS_c _ _ (gBS xs i).length lc _ hC.2.1 hll.1 hll.2).mono ?_; rintro e w1 ⟨rfl, hb1⟩; rw [show szR ((gBS xs i).length : Int) lc = _ from HR.out]; have HB1 := Aside0.mk (below_then HB.out HB.out.size hb1); clear hb1)
          go_roundg (gk - 1)
          case measure => have := HI.out; omega
          case rel => exact ⟨i + 1, _, rfl, rfl, ⟨by have := HI.out; omega, by have := HI.out; omega, by have := HI.out; omega, HS.out⟩, ⟨hpos⟩, HB1⟩
        · have hr := szR_no hf
          have hs : szR (xs.length + cntL cnB xs) left = -1 := szR_no (by rw [hg] at hf; have := HI.out; omega)
          have HS := Aside0.mk hs; have HR := Aside0.mk hr
          clear hs1 hs2 hs3 hg hs hr hf
          go_wp2_with (go_at_call 151; refine (szByteS_c _ _ (gBS xs i).length lc _ hC.2.1 hll.1 hll.2).mono ?_; rintro e w1 ⟨rfl, hb1⟩; rw [show szR ((gBS xs i).length : Int) lc = _ from HR.out]; have HB1 := Aside0.mk (below_then HB.out HB.out.size hb1); clear hb1)
          go_ret
          exact ⟨by rw [HS.out]; rfl, HB1.out⟩
      · have hi := HI.out
        have hs : szR (xs.length + cntL cnB xs) left = lc := by
          have e : xs.take i.toNat = xs := List.take_of_length_le (by omega)
          rw [e] at hi
          rw [szR_yes (by have := HL.out; omega)]; omega
        have HS := Aside0.mk hs; clear hs hi
        go_wp2
        go_ret
        exact ⟨by rw [HS.out]; rfl, HB.out⟩
  · have HR := Aside0.mk (szR_no (cost := xs.length + cntL cnB xs) (left := left) (by omega))
    go_enter Try.func118, Try.ntmps118
    go_wp2
    go_ret
    exact ⟨by rw [HR.out]; rfl, Below.refl _ _⟩
set_option maxHeartbeats 1000000 in
theorem szWriteS_c (A : Option Addr) (c : Nat) (xs : List Wr) (left : Int) (w : World) (hx : rW.d.C w A xs.length xs) (h0 : 0 ≤ left) (h1 : left ≤ 1048576) :
    Calls Try.prog 119 #[.slice A xs.length c, .int .i64 left] w (Num w (szR (xs.length + cntL cnV xs) left)) := by
  have hl : xs.length ≤ 9223372036854775807 := hx.2.1
  have HX := Aside0.mk hx; clear hx
  have hnn := cntL_nonneg (cnt := cnV) cnV_nonneg xs
  by_cases hq : (xs.length : Int) ≤ left
  · go_enter Try.func119, Try.ntmps119
    go_wp2
    go_loopg [1, 5] xs.length (fun m vl vi wr => ∃ i lc : Int, vi = .int .i64 i ∧ vl = .int .i64 lc ∧ Aside0 (0 ≤ i ∧ i ≤ xs.length ∧ xs.length - i.toNat ≤ m ∧ lc = left - xs.length - cntL cnV (xs.take i.toNat)) ∧ Aside0 (0 ≤ lc) ∧ Aside0 (Below w.heap.size w wr))
    case atStart => exact ⟨0, left - xs.length, rfl, rfl, ⟨by simp [cntL]⟩, ⟨by omega⟩, ⟨Below.refl _ _⟩⟩
    case round =>
      obtain ⟨i, lc, rfl, rfl, HI, HL, HB⟩ := hrel
      by_cases hlt : i < (xs.length : Int)
      · have hi0 : 0 ≤ i := HI.out.1
        have hs1 := cntL_succ (cnt := cnV) xs (i := i.toNat) (by omega)
        have hs2 := cntL_le (cnt := cnV) cnV_nonneg xs (i.toNat + 1)
        have hs3 := cntL_nonneg (cnt := cnV) cnV_nonneg (xs.take i.toNat)
        have hll : 0 ≤ lc ∧ lc ≤ 1048576 := ⟨HL.out, by have := HI.out; omega⟩
        obtain ⟨ad, A0, c0, hA, c1, c2, _, hC⟩ := at_W (Kd.C_below HX.out HB.out) i hi0 hlt
        cases hA
        have hg := gW_eq (xs := xs) (i := i) (by omega)
        by_cases hf : cnV (gW xs i) ≤ lc
        · have hr := szR_yes hf
          have hs : lc - cnV (gW xs i) = left - xs.length - cntL cnV (xs.take (i + 1).toNat) := by rw [show (i + 1).toNat = i.toNat + 1 by omega, hs1, hg]; have := HI.out; omega
          have HS := Aside0.mk hs; have HR := Aside0.mk hr
          have hpos : 0 ≤ lc - cnV (gW xs i) := by omega
          clear hs1 hs2 hs3 hg hs hr hf
          go_wp2_with (go_at_call 152; refine (szWrite_c _ _ _ (gW xs i).bytes.length lc _ hC.2.1 hll.1 hll.2).mono ?_; rintro e w1 ⟨rfl, hb1⟩; rw [show szR ((gW xs i).bytes.length : Int) lc = _ from HR.out]; have HB1 := Aside0.mk (below_then HB.out HB.out.size hb1); clear hb1)
          go_roundg (gk - 1)
          case measure => have := HI.out; omega
          case rel => exact ⟨i + 1, _, rfl, rfl, ⟨by have := HI.out; omega, by have := HI.out; omega, by have := HI.out; omega, HS.out⟩, ⟨hpos⟩, HB1⟩
        · have hr := szR_no hf
          have hs : szR (xs.length + cntL cnV xs) left = -1 := szR_no (by rw [hg] at hf; have := HI.out; omega)
          have HS := Aside0.mk hs; have HR := Aside0.mk hr
          clear hs1 hs2 hs3 hg hs hr hf
          go_wp2_with (go_at_call 152; refine (szWrite_c _ _ _ (gW xs i).bytes.length lc _ hC.2.1 hll.1 hll.2).mono ?_; rintro e w1 ⟨rfl, hb1⟩; rw [show szR ((gW xs i).bytes.length : Int) lc = _ from HR.out]; have HB1 := Aside0.mk (below_then HB.out HB.out.size hb1); clear hb1)
          go_ret
          exact ⟨by rw [HS.out]; rfl, HB1.out⟩
      · have hi := HI.out
        have hs : szR (xs.length + cntL cnV xs) left = lc := by
          have e : xs.take i.toNat = xs := List.take_of_length_le (by omega)
          rw [e] at hi
          rw [szR_yes (by have := HL.out; omega)]; omega
        have HS := Aside0.mk hs; clear hs hi
        go_wp2
        go_ret
        exact ⟨by rw [HS.out]; rfl, HB.out⟩
  · have HR := Aside0.mk (szR_no (cost := xs.length + cntL cnV xs) (left := left) (by omega))
    go_enter Try.func119, Try.ntmps119
    go_wp2
    go_ret
    exact ⟨by rw [HR.out]; rfl, Below.refl _ _⟩
def costD (bs : List (List Int)) (ws : List Wr) : Int := costBS bs + costWS ws
theorem costBS_nonneg (xs : List (List Int)) : 0 ≤ costBS xs := by have := cntL_nonneg (cnt := cnB) cnB_nonneg xs; unfold costBS; omega
theorem costWS_nonneg (xs : List Wr) : 0 ≤ costWS xs := by have := cntL_nonneg (cnt := cnV) cnV_nonneg xs; unfold costWS; omega
set_option maxHeartbeats 1000000 in
theorem szDisk_c (A0 A1 : Option Addr) (c0 c1 : Nat) (bs : List (List Int)) (ws : List Wr) (left : Int) (w : World) (hx : rBS.d.C w A0 bs.length bs) (hy : rW.d.C w A1 ws.length ws) (h0 : 0 ≤ left) (h1 : left ≤ 1048576) :
    Calls Try.prog 50 #[.agg #[.slice A0 bs.length c0, .slice A1 ws.length c1], .int .i64 left] w (Num w (szR (costD bs ws) left)) := by
  have hb := below_alloc (Below.refl w.heap.size w) (.cells #[.slice A0 bs.length c0, .slice A1 ws.length c1] 78)
  have HX := Aside0.mk (Kd.C_below hx hb); have HY := Aside0.mk (Kd.C_below hy hb); have BK := Aside0.mk (blk_new w (.cells #[.slice A0 bs.length c0, .slice A1 ws.length c1] 78)); have HB := Aside0.mk hb
  have n0 := costBS_nonneg bs
  have n1 := costWS_nonneg ws
  clear hx hy hb
  by_cases ha : costBS bs ≤ left
  · have hr := Aside0.mk (szR_yes ha)
    have hl1 : 0 ≤ left - costBS bs ∧ left - costBS bs ≤ 1048576 := by omega
    by_cases hc : costWS ws ≤ left - costBS bs
    · have hr2 := Aside0.mk (szR_yes hc)
      have hpos : 0 ≤ left - costBS bs - costWS ws := by omega
      have HS : Aside0 (szR (costD bs ws) left = left - costBS bs - costWS ws) := ⟨by unfold costD; rw [szR_yes (by omega)]; omega⟩
      clear ha hc
      go_enter Try.func50, Try.ntmps50
      go_wp2_with (first
        | (go_at_call 118; refine (szByteSS_c _ _ bs left _ HX.out h0 h1).mono ?_; rintro e wa ⟨rfl, hb1⟩; rw [show szR (bs.length + cntL cnB bs) left = _ from hr.out]; have k1 := (blk_cell (blk_below BK.out hb1) 1).trans rfl; have HB1 := Aside0.mk (below_then HB.out (by simp) hb1); have HY1 := Aside0.mk (Kd.C_below HY.out hb1); clear hb1)
        | (go_at_call 119; refine (szWriteS_c _ _ ws _ _ HY1.out hl1.1 hl1.2).mono ?_; rintro e wb ⟨rfl, hb1⟩; rw [show szR (ws.length + cntL cnV ws) _ = _ from hr2.out]; have HB2 := Aside0.mk (below_then HB1.out HB1.out.size hb1); clear hb1))
      go_ret
      exact ⟨by rw [HS.out]; rfl, HB2.out⟩
    · have hr2 := Aside0.mk (szR_no hc)
      have HS : Aside0 (szR (costD bs ws) left = -1) := ⟨by unfold costD; rw [szR_no (by omega)]⟩
      clear ha hc
      go_enter Try.func50, Try.ntmps50
      go_wp2_with (first
        | (go_at_call 118; refine (szByteSS_c _ _ bs left _ HX.out h0 h1).mono ?_; rintro e wa ⟨rfl, hb1⟩; rw [show szR (bs.length + cntL cnB bs) left = _ from hr.out]; have k1 := (blk_cell (blk_below BK.out hb1) 1).trans rfl; have HB1 := Aside0.mk (below_then HB.out (by simp) hb1); have HY1 := Aside0.mk (Kd.C_below HY.out hb1); clear hb1)
        | (go_at_call 119; refine (szWriteS_c _ _ ws _ _ HY1.out hl1.1 hl1.2).mono ?_; rintro e wb ⟨rfl, hb1⟩; rw [show szR (ws.length + cntL cnV ws) _ = _ from hr2.out]; have HB2 := Aside0.mk (below_then HB1.out HB1.out.size hb1); clear hb1))
      go_ret
      exact ⟨by rw [HS.out]; rfl, HB2.out⟩
  · have hr := Aside0.mk (szR_no ha)
    have HS : Aside0 (szR (costD bs ws) left = -1) := ⟨by unfold costD; rw [szR_no (by omega)]⟩
    clear ha
    go_enter Try.func50, Try.ntmps50
    go_wp2_with (go_at_call 118; refine (szByteSS_c _ _ bs left _ HX.out h0 h1).mono ?_; rintro e wa ⟨rfl, hb1⟩; rw [show szR (bs.length + cntL cnB bs) left = _ from hr.out]; have HB1 := Aside0.mk (below_then HB.out (by simp) hb1); clear hb1)
    go_ret
    exact ⟨by rw [HS.out]; rfl, HB1.out⟩
end Go.Proofs.Ytocdlibnmlcokaa
