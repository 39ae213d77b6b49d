/- Marks and what is held: writes, disks. -/
import Derived.Test.YtocdlibnmlcokaaA8
namespace Go.Proofs.Ytocdlibnmlcokaa
open Go.RowKit Go.Proofs.YtocdlibnmlcokaaW.PrintWords Go.Proofs.YtocdlibnmlcokaaW.PrintLast
set_option linter.unusedVariables false
set_option linter.unusedSimpArgs false
set_option maxHeartbeats 1000000 in
theorem heldWriteS_c (A : Option Addr) (c : Nat) (xs : List Wr) (k : Int) (w : World) (n : Nat) (hn : xs.length = n) (hx : rW.d.C w A n (markL mkW cnW k xs)) (h0 : 0 ≤ k) (h1 : k + cntL cnW xs ≤ 1000000000) :
    Calls Try.prog 103 #[.slice A n c, .int .i64 k] w fun e w' => e = .returned (.int .i64 (k + cntL cnW xs)) ∧ w' = w := by
  subst hn
  have hl : xs.length ≤ 9223372036854775807 := hx.2.1
  have HX := Aside0.mk hx; have H1 := Aside0.mk h1; clear hx h1
  go_enter Try.func103, Try.ntmps103
  go_wp2
  go_loopg [1, 5] xs.length (fun m vk vi wr => ∃ i kc : Int, vi = .int .i64 i ∧ vk = .int .i64 kc ∧ Aside0 (0 ≤ i ∧ i ≤ xs.length ∧ xs.length - i.toNat ≤ m ∧ kc = k + cntL cnW (xs.take i.toNat)) ∧ wr = w)
  case atStart => exact ⟨0, k, rfl, rfl, ⟨by simp [cntL]⟩, rfl⟩
  case round =>
    obtain ⟨i, kc, rfl, rfl, HI, rfl⟩ := hrel
    by_cases hlt : i < (xs.length : Int)
    · have hi0 : 0 ≤ i := HI.out.1
      have hs1 := cntL_succ (cnt := cnW) xs (i := i.toNat) (by omega)
      have hs2 := cntL_le (cnt := cnW) cnW_nonneg xs (i.toNat + 1)
      have hs3 := cntL_nonneg (cnt := cnW) cnW_nonneg (xs.take i.toNat)
      have hkc : 0 ≤ kc ∧ kc + 1 + (xs[i.toNat]'(by omega)).bytes.length ≤ 1000000000 := by have := HI.out; have := H1.out; unfold cnW at *; omega
      have hs1 := Aside0.mk hs1
      clear hs2 hs3
      obtain ⟨ad, A0, c0, hA, c1, c2, _, hC⟩ := at_W HX.out i hi0 hlt
      cases hA
      have hkk := HI.out.2.2.2
      rw [gW_eq (by rw [markL_len]; omega), markL_get k xs (by omega), ← hkk] at c1 c2 hC
      generalize hxi : xs[i.toNat]'(by omega) = xi at c1 c2 hC hkc hs1
      simp only [mkW] at c1 c2 hC
      have hlx : xi.bytes.length = (markL mkB cn1 (kc + 1) xi.bytes).length := by rw [markL_len]
      generalize (markL mkB cn1 (kc + 1) xi.bytes).length = nn at c2 hC hlx
      have Hxi := Aside0.mk hxi; have HC := Aside0.mk hC; have HL := Aside0.mk hlx; have hk0 := hkc.1; have HKC := Aside0.mk hkc; have hpos : 0 ≤ kc + 1 + (xi.bytes.length : Int) := by omega
      have hk1 : kc + 1 ≤ 1000000000 := by omega
      clear hxi hC hlx hkk hkc
      go_wp2_with (go_at_call 124; refine (heldByteS_c _ _ xi.bytes (kc + 1) _ nn HL.out HC.out (by omega) HKC.out.2).mono ?_; rintro e w1 ⟨rfl, rfl⟩)
      go_roundg (gk - 1)
      case measure => have := HI.out; omega
      case rel =>
        have hi := HI.out; have hs := hs1.out; have hx := Hxi.out
        refine ⟨i + 1, _, rfl, rfl, ⟨by omega, by omega, by omega, ?_⟩, rfl⟩
        rw [show (i + 1).toNat = i.toNat + 1 by omega, hs]; unfold cnW at *; omega
    · have hi := HI.out
      have e2 : kc = k + cntL cnW xs := by rw [hi.2.2.2, List.take_of_length_le (by omega)]
      subst e2
      clear hi
      go_wp2
      go_ret
      exact ⟨rfl, rfl⟩
def cnD (bs : List (List Int)) (ws : List Wr) : Int := cntL cnB bs + cntL cnW ws
theorem cnD_nonneg (bs : List (List Int)) (ws : List Wr) : 0 ≤ cnD bs ws := by have := cntL_nonneg (cnt := cnB) cnB_nonneg bs; have := cntL_nonneg (cnt := cnW) cnW_nonneg ws; unfold cnD; omega
def GotMarkD (w : World) (v0 v1 : Value) (bs : List (List Int)) (ws : List Wr) (f0 f1 : List Nat) (k : Int) (en : Ending) (w' : World) : Prop :=
  en = .returned (.int .i64 (k + cnD bs ws)) ∧ rBS.Row 22 w' v0 (markL mkBS cnB k bs) f0 ∧ rW.Row 147 w' v1 (markL mkW cnW (k + cntL cnB bs) ws) f1 ∧ Kp w w' (f0 ++ f1)
set_option maxHeartbeats 1000000 in
theorem markDisk_c (v0 v1 : Value) (bs : List (List Int)) (ws : List Wr) (f0 f1 : List Nat) (k : Int) (w : World) (hr0 : rBS.Row 22 w v0 bs f0) (hr1 : rW.Row 147 w v1 ws f1) (hnd : (f0 ++ f1).Nodup) (h0 : 0 ≤ k) (h1 : k + cnD bs ws ≤ 1000000000) :
    Calls Try.prog 29 #[.agg #[v0, v1], .int .i64 k] w (GotMarkD w v0 v1 bs ws f0 f1 k) := by
  have hb0 := cntL_nonneg (cnt := cnB) cnB_nonneg bs
  have hw0 := cntL_nonneg (cnt := cnW) cnW_nonneg ws
  unfold cnD at h1
  obtain ⟨A0, c0, rfl, _, _⟩ := Rp.Row_reads hr0
  obtain ⟨A1, c1, rfl, _, _⟩ := Rp.Row_reads hr1
  obtain ⟨n0, n1, n2⟩ := List.nodup_append.1 hnd
  have R0 := Aside0.mk (Rp.Row_alloc hr0 (.cells #[.slice A0 bs.length c0, .slice A1 ws.length c1] 43))
  have R1 := Aside0.mk (Rp.Row_alloc hr1 (.cells #[.slice A0 bs.length c0, .slice A1 ws.length c1] 43))
  have L0 := Aside0.mk (Rp.Row_lt hr0); have L1 := Aside0.mk (Rp.Row_lt hr1)
  have N0 := Aside0.mk n0; have N1 := Aside0.mk n1; have N2 := Aside0.mk n2
  have K0 := Aside0.mk (Kp.below (below_alloc (Below.refl _ w) (.cells #[.slice A0 bs.length c0, .slice A1 ws.length c1] 43)))
  have B0 := Aside0.mk (blk_new w (.cells #[.slice A0 bs.length c0, .slice A1 ws.length c1] 43))
  clear hr0 hr1 hnd n0 n1 n2
  go_enter Try.func29, Try.ntmps29
  go_wp2_with (first
    | (go_at_call 60; refine (markByteSS_c _ bs f0 k _ R0.out N0.out (by omega) (by omega)).mono ?_; rintro e wa ⟨rfl, hra, hka⟩; have B1 := Aside0.mk (hka.blk B0.out (fun h => by have := L0.out _ h; omega)); have ca := (blk_cell B1.out 1).trans rfl; have RA := Aside0.mk hra; have KA := Aside0.mk hka; clear hra hka)
    | (go_at_call 102; refine (markWriteS_c _ ws f1 _ _ (KA.out.row R1.out (fun b hb hm => N2.out b hm b hb rfl)) N1.out (by omega) (by omega)).mono ?_; rintro e wb ⟨rfl, hrb, hkb⟩; have RB := Aside0.mk hrb; have KB := Aside0.mk hkb; clear hrb hkb))
  go_ret
  refine ⟨by rw [show k + cnD bs ws = k + cntL cnB bs + cntL cnW ws by unfold cnD; omega]; rfl, KB.out.row RA.out (fun b hb hm => N2.out b hb b hm rfl), RB.out, ?_⟩
  exact ((K0.out.mono (by simp)).trans KA.out (fun b hb _ => List.mem_append_left _ hb)).trans KB.out (fun b hb _ => List.mem_append_right _ hb)
set_option maxHeartbeats 1000000 in
theorem heldDisk_c (A0 A1 : Option Addr) (c0 c1 : Nat) (bs : List (List Int)) (ws : List Wr) (k : Int) (w : World) (n0 n1 : Nat) (e0 : bs.length = n0) (e1 : ws.length = n1) (hx : rBS.d.C w A0 n0 (markL mkBS cnB k bs)) (hy : rW.d.C w A1 n1 (markL mkW cnW (k + cntL cnB bs) ws)) (h0 : 0 ≤ k) (h1 : k + cnD bs ws ≤ 1000000000) :
    Calls Try.prog 30 #[.agg #[.slice A0 n0 c0, .slice A1 n1 c1], .int .i64 k] w fun e w' => e = .returned (.int .i64 (k + cnD bs ws)) ∧ Below w.heap.size w w' := by
  subst e0 e1
  have hb0 := cntL_nonneg (cnt := cnB) cnB_nonneg bs
  have hw0 := cntL_nonneg (cnt := cnW) cnW_nonneg ws
  unfold cnD at *
  have X := Aside0.mk (Kd.C_alloc hx (.cells #[.slice A0 bs.length c0, .slice A1 ws.length c1] 43)); have Y := Aside0.mk (Kd.C_alloc hy (.cells #[.slice A0 bs.length c0, .slice A1 ws.length c1] 43))
  have t1 : 0 ≤ k + cntL cnB bs := by omega
  have t2 : 0 ≤ k + cntL cnB bs + cntL cnW ws := by omega
  clear hx hy
  go_enter Try.func30, Try.ntmps30
  go_wp2_with (first
    | (go_at_call 61; refine (heldByteSS_c _ _ bs k _ _ rfl X.out (by omega) (by omega)).mono ?_; rintro e wa ⟨rfl, rfl⟩)
    | (go_at_call 103; refine (heldWriteS_c _ _ ws _ _ _ rfl Y.out (by omega) (by omega)).mono ?_; rintro e wa ⟨rfl, rfl⟩))
  go_ret
  exact ⟨by rw [← Int.add_assoc]; rfl, below_alloc (Below.refl _ _) _⟩
end Go.Proofs.Ytocdlibnmlcokaa
