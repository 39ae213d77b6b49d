/- Marks: rows of rows of bytes, writes, disks. -/
import Derived.Test.YtocdlibnmlcokaaA5
import Derived.Test.YtocdlibnmlcokaaA7
namespace Go.Proofs.Ytocdlibnmlcokaa
open Go.RowKit Go.Proofs.YtocdlibnmlcokaaW.PrintWords Go.Proofs.YtocdlibnmlcokaaW.PrintLast
set_option linter.unusedVariables false
set_option linter.unusedSimpArgs false
set_option maxHeartbeats 1000000 in
theorem heldByteS_c (A : Option Addr) (c : Nat) (xs : List Int) (k : Int) (w : World) (n : Nat) (hn : xs.length = n) (hx : kB.C w A n (markL mkB cn1 k xs)) (h0 : 0 ≤ k) (h1 : k + xs.length ≤ 1000000000) :
    Calls Try.prog 124 #[.slice A n c, .int .i64 k] w fun e w' => e = .returned (.int .i64 (k + xs.length)) ∧ w' = w := by
  subst hn
  have HX := Aside0.mk hx; clear hx
  go_enter Try.func124, Try.ntmps124
  go_wp2
  go_loopg [1, 5] xs.length (fun m vk vi wr => ∃ i : Int, vi = .int .i64 i ∧ vk = .int .i64 (k + i) ∧ Aside0 (0 ≤ i ∧ i ≤ xs.length ∧ xs.length - i.toNat ≤ m) ∧ wr = w)
  case atStart => exact ⟨0, rfl, by rw [Int.add_zero], ⟨by simp⟩, rfl⟩
  case round =>
    obtain ⟨i, rfl, rfl, HI, rfl⟩ := hrel
    by_cases hlt : i < (xs.length : Int)
    · have hi0 : 0 ≤ i := HI.out.1
      obtain ⟨ad, hA, c1⟩ := Kd.at_int HX.out i hi0 hlt
      cases hA
      rw [rd_eq (by rw [markL_len]; omega), markL_get k xs (by omega), cnt1, List.length_take, show ((min i.toNat xs.length : Nat) : Int) = i by omega] at c1
      simp only [mkB] at c1
      go_wp2
      go_roundg (gk - 1)
      case measure => have := HI.out; omega
      case rel => exact ⟨i + 1, rfl, by rw [Int.add_assoc], ⟨by have := HI.out; omega, by have := HI.out; omega, by have := HI.out; omega⟩, rfl⟩
    · have e2 : i = xs.length := by have := HI.out; omega
      subst e2
      go_wp2
      go_ret
      exact ⟨rfl, rfl⟩
def cnB (x : List Int) : Int := x.length
def mkBS (k : Int) (x : List Int) : List Int := markL mkB cn1 k x
theorem cnB_nonneg (x : List Int) : 0 ≤ cnB x := by unfold cnB; omega
set_option maxHeartbeats 1000000 in
theorem markByteSS_c (v : Value) (xs : List (List Int)) (fp : List Nat) (k : Int) (w : World) (hr : rBS.Row 22 w v xs fp) (hnd : fp.Nodup) (h0 : 0 ≤ k) (h1 : k + cntL cnB xs ≤ 1000000000) :
    Calls Try.prog 60 #[v, .int .i64 k] w (GotMark rBS 22 w v (markL mkBS cnB k xs) fp (k + cntL cnB xs)) := by
  have hl : xs.length ≤ 9223372036854775807 := Rp.Row_len hr
  obtain ⟨A, c, rfl, _, _⟩ := Rp.Row_reads hr
  have HR := Aside0.mk hr; have HN := Aside0.mk hnd; have H1 := Aside0.mk h1; clear hr hnd h1
  go_enter Try.func60, Try.ntmps60
  go_wp2
  go_loopg [1, 5] xs.length (fun m vk vi wr => ∃ i kc : Int, vi = .int .i64 i ∧ vk = .int .i64 kc ∧ Aside0 (0 ≤ i ∧ i ≤ xs.length ∧ xs.length - i.toNat ≤ m ∧ kc = k + cntL cnB (xs.take i.toNat)) ∧ Aside0 (rBS.Row 22 wr (.slice A xs.length c) (markTo mkBS cnB k xs i.toNat) fp) ∧ Aside0 (Kp w wr fp))
  case atStart => exact ⟨0, k, rfl, rfl, ⟨by simp [cntL]⟩, ⟨by simpa [markTo_zero] using HR.out⟩, ⟨(Kp.refl w).mono (by simp)⟩⟩
  case round =>
    obtain ⟨i, kc, rfl, rfl, HI, HO, HK⟩ := hrel
    by_cases hlt : i < (xs.length : Int)
    · have hi0 : 0 ≤ i := HI.out.1
      have hs1 := cntL_succ (cnt := cnB) xs (i := i.toNat) (by omega)
      have hs2 := cntL_le (cnt := cnB) cnB_nonneg xs (i.toNat + 1)
      have hs3 := cntL_nonneg (cnt := cnB) cnB_nonneg (xs.take i.toNat)
      have hkc : 0 ≤ kc ∧ kc + (xs[i.toNat]'(by omega)).length ≤ 1000000000 := by have := HI.out; have := H1.out; unfold cnB at *; omega
      have hs1 := Aside0.mk hs1
      clear hs2 hs3
      obtain ⟨g, cap, hv, _, _⟩ := Rp.Row_form HO.out (by rw [markTo_len]; omega)
      rw [markTo_len] at hv
      injection hv with hA _ hc
      subst hA; subst hc
      obtain ⟨cs, f, hP, hnf, hff, hg, hcell, _, hup, _⟩ := Rp.Row_elem HO.out HN.out i.toNat (by rw [markTo_len]; omega)
      rw [markTo_get k xs (by omega)] at hP
      generalize hxi : xs[i.toNat]'(by omega) = xi at hP hkc hs1
      have Hxi := Aside0.mk hxi; clear hxi
      obtain ⟨vi, rfl, hri⟩ := hP
      obtain ⟨Ai, ci, rfl, _, _⟩ := Rp.Row_reads hri
      have e0 : i.toNat * rBS.d.sz + 0 = i.toNat := Nat.mul_one _
      have c1 := hcell 0 _ rfl
      rw [e0] at c1
      have Hup := Aside0.mk hup; have Hri := Aside0.mk hri; have Hnf := Aside0.mk hnf; have Hff := Aside0.mk hff; have HKC := Aside0.mk hkc
      clear hcell hup hri e0 hnf hff hkc
      go_wp2_with (go_at_call 56; refine (markByteS_c _ xi f kc _ Hri.out Hnf.out HKC.out.1 HKC.out.2).mono ?_; rintro e w1 ⟨rfl, hr1, hk1⟩; have HR1 := Aside0.mk (Hup.out w1 _ hk1 ⟨_, rfl, hr1⟩); have HK1 := Aside0.mk (HK.out.trans hk1 (fun b hb _ => (Hff.out b hb).1)); clear hr1 hk1)
      go_roundg (gk - 1)
      case measure => have := HI.out; omega
      case rel =>
        have hi := HI.out; have hs := hs1.out; have hx := Hxi.out
        refine ⟨i + 1, _, rfl, rfl, ⟨by omega, by omega, by omega, ?_⟩, ?_, HK1⟩
        · rw [show (i + 1).toNat = i.toNat + 1 by omega, hs]; unfold cnB at *; omega
        · have hm := markTo_succ (mk := mkBS) (cnt := cnB) k xs (i := i.toNat) (by omega)
          rw [show (i + 1).toNat = i.toNat + 1 by omega, ← hm, hx, ← hi.2.2.2]
          exact HR1
    · have hi := HI.out
      have e1 := markTo_end (mk := mkBS) (cnt := cnB) k xs (i := i.toNat) (by omega)
      replace HO := HO.out; rw [e1] at HO
      have e2 : kc = k + cntL cnB xs := by rw [hi.2.2.2, List.take_of_length_le (by omega)]
      subst e2
      have HO := Aside0.mk HO
      clear e1 hi
      go_wp2
      go_ret
      exact ⟨rfl, HO.out, HK.out⟩
theorem gBS_eq {xs : List (List Int)} {i : Int} (h : i.toNat < xs.length) : gBS xs i = xs[i.toNat] := by simp [gBS, List.getD_eq_getElem?_getD, h]
theorem gW_eq {xs : List Wr} {i : Int} (h : i.toNat < xs.length) : gW xs i = xs[i.toNat] := by simp [gW, List.getD_eq_getElem?_getD, h]
set_option maxHeartbeats 1000000 in
theorem heldByteSS_c (A : Option Addr) (c : Nat) (xs : List (List Int)) (k : Int) (w : World) (n : Nat) (hn : xs.length = n) (hx : rBS.d.C w A n (markL mkBS cnB k xs)) (h0 : 0 ≤ k) (h1 : k + cntL cnB xs ≤ 1000000000) :
    Calls Try.prog 61 #[.slice A n c, .int .i64 k] w fun e w' => e = .returned (.int .i64 (k + cntL cnB xs)) ∧ w' = w := by
  subst hn
  have hl : xs.length ≤ 9223372036854775807 := hx.2.1
  have HX := Aside0.mk hx; have H1 := Aside0.mk h1; clear hx h1
  go_enter Try.func61, Try.ntmps61
  go_wp2
  go_loopg [1, 5] xs.length (fun m vk vi wr => ∃ i kc : Int, vi = .int .i64 i ∧ vk = .int .i64 kc ∧ Aside0 (0 ≤ i ∧ i ≤ xs.length ∧ xs.length - i.toNat ≤ m ∧ kc = k + cntL cnB (xs.take i.toNat)) ∧ wr = w)
  case atStart => exact ⟨0, k, rfl, rfl, ⟨by simp [cntL]⟩, rfl⟩
  case round =>
    obtain ⟨i, kc, rfl, rfl, HI, rfl⟩ := hrel
    by_cases hlt : i < (xs.length : Int)
    · have hi0 : 0 ≤ i := HI.out.1
      have hs1 := cntL_succ (cnt := cnB) xs (i := i.toNat) (by omega)
      have hs2 := cntL_le (cnt := cnB) cnB_nonneg xs (i.toNat + 1)
      have hs3 := cntL_nonneg (cnt := cnB) cnB_nonneg (xs.take i.toNat)
      have hkc : 0 ≤ kc ∧ kc + (xs[i.toNat]'(by omega)).length ≤ 1000000000 := by have := HI.out; have := H1.out; unfold cnB at *; omega
      have hs1 := Aside0.mk hs1
      clear hs2 hs3
      obtain ⟨ad, A0, c0, hA, c1, _, hC⟩ := at_BS HX.out i hi0 hlt
      cases hA
      have hkk := HI.out.2.2.2
      rw [gBS_eq (by rw [markL_len]; omega), markL_get k xs (by omega), ← hkk] at c1 hC
      generalize hxi : xs[i.toNat]'(by omega) = xi at c1 hC hkc hs1
      have hlx : xi.length = (mkBS kc xi).length := by unfold mkBS; rw [markL_len]
      generalize (mkBS kc xi).length = nn at c1 hC hlx
      have Hxi := Aside0.mk hxi; have HC := Aside0.mk hC; have HL := Aside0.mk hlx; have hk0 := hkc.1; have HKC := Aside0.mk hkc; have hpos : 0 ≤ kc + (xi.length : Int) := by omega
      clear hxi hC hlx hkk hkc
      go_wp2_with (go_at_call 124; refine (heldByteS_c _ _ xi kc _ nn HL.out HC.out HKC.out.1 HKC.out.2).mono ?_; rintro e w1 ⟨rfl, rfl⟩)
      go_roundg (gk - 1)
      case measure => have := HI.out; omega
      case rel =>
        have hi := HI.out; have hs := hs1.out; have hx := Hxi.out
        refine ⟨i + 1, _, rfl, rfl, ⟨by omega, by omega, by omega, ?_⟩, rfl⟩
        rw [show (i + 1).toNat = i.toNat + 1 by omega, hs]; unfold cnB at *; omega
    · have hi := HI.out
      have e2 : kc = k + cntL cnB xs := by rw [hi.2.2.2, List.take_of_length_le (by omega)]
      subst e2
      clear hi
      go_wp2
      go_ret
      exact ⟨rfl, rfl⟩
theorem cell_set_ne {w : World} {p q : Addr} {u : Value} (h : q ≠ p) : (w.setCell p u).cell? q = w.cell? q := World.cell?_setCell_other w p q u (fun e => h e.symm)
def cnW (x : Wr) : Int := 1 + x.bytes.length
def mkW (k : Int) (x : Wr) : Wr := ⟨k, markL mkB cn1 (k + 1) x.bytes⟩
theorem cnW_nonneg (x : Wr) : 0 ≤ cnW x := by unfold cnW; omega
set_option maxHeartbeats 1000000 in
theorem markWriteS_c (v : Value) (xs : List Wr) (fp : List Nat) (k : Int) (w : World) (hr : rW.Row 147 w v xs fp) (hnd : fp.Nodup) (h0 : 0 ≤ k) (h1 : k + cntL cnW xs ≤ 1000000000) :
    Calls Try.prog 102 #[v, .int .i64 k] w (GotMark rW 147 w v (markL mkW cnW k xs) fp (k + cntL cnW xs)) := by
  have hl : xs.length ≤ 9223372036854775807 := Rp.Row_len hr
  obtain ⟨A, c, rfl, _, _⟩ := Rp.Row_reads hr
  have HR := Aside0.mk hr; have HN := Aside0.mk hnd; have H1 := Aside0.mk h1; clear hr hnd h1
  go_enter Try.func102, Try.ntmps102
  go_wp2
  go_loopg [1, 5] xs.length (fun m vk vi wr => ∃ i kc : Int, vi = .int .i64 i ∧ vk = .int .i64 kc ∧ Aside0 (0 ≤ i ∧ i ≤ xs.length ∧ xs.length - i.toNat ≤ m ∧ kc = k + cntL cnW (xs.take i.toNat)) ∧ Aside0 (rW.Row 147 wr (.slice A xs.length c) (markTo mkW cnW k xs i.toNat) fp) ∧ Aside0 (Kp w wr fp))
  case atStart => exact ⟨0, k, rfl, rfl, ⟨by simp [cntL]⟩, ⟨by simpa [markTo_zero] using HR.out⟩, ⟨(Kp.refl w).mono (by simp)⟩⟩
  case round =>
    obtain ⟨i, kc, rfl, rfl, HI, HO, HK⟩ := hrel
    by_cases hlt : i < (xs.length : Int)
    · have hi0 : 0 ≤ i := HI.out.1
      have hs1 := cntL_succ (cnt := cnW) xs (i := i.toNat) (by omega)
      have hs2 := cntL_le (cnt := cnW) cnW_nonneg xs (i.toNat + 1)
      have hs3 := cntL_nonneg (cnt := cnW) cnW_nonneg (xs.take i.toNat)
      have hkc : 0 ≤ kc ∧ kc + 1 + (xs[i.toNat]'(by omega)).bytes.length ≤ 1000000000 := by have := HI.out; have := H1.out; unfold cnW at *; omega
      have hs1 := Aside0.mk hs1
      clear hs2 hs3
      obtain ⟨g, cap, hv, _, _⟩ := Rp.Row_form HO.out (by rw [markTo_len]; omega)
      rw [markTo_len] at hv
      injection hv with hA _ hc
      subst hA; subst hc
      obtain ⟨cs, f, hP, hnf, hff, hg, hcell, hfr, _, hst⟩ := Rp.Row_elem HO.out HN.out i.toNat (by rw [markTo_len]; omega)
      rw [markTo_get k xs (by omega)] at hP
      generalize hxi : xs[i.toNat]'(by omega) = xi at hP hkc hs1
      have Hxi := Aside0.mk hxi; clear hxi
      obtain ⟨vi, rfl, hri⟩ := W_open hP
      obtain ⟨Ai, ci, rfl, _, _⟩ := Rp.Row_reads hri
      obtain ⟨fp', hr', _, _, he⟩ := hst 0 (.int .i64 kc) ⟨kc, xi.bytes⟩ f (by decide) (W_mk ⟨kc, xi.bytes⟩ (Rp.Row_far hri (p := ⟨g, i.toNat * rW.d.sz + 0, none⟩) (fun h => (hff g h).2 rfl) (.int .i64 kc))) hnf (fun b hb => .inl hb) (.inl rfl)
      have he := he rfl
      subst he
      have c0 : wr.cell? ⟨g, i.toNat * 2, none⟩ = some (.int .i64 xi.block) := hcell 0 _ rfl
      have z0 : wr.frozen? ⟨g, i.toNat * 2, none⟩ = false := hfr _
      have hr' : rW.Row 147 (wr.setCell ⟨g, i.toNat * 2, none⟩ (.int .i64 kc)) (.slice (some ⟨g, 0, none⟩) xs.length c) ((markTo mkW cnW k xs i.toNat).set i.toNat ⟨kc, xi.bytes⟩) fp' := hr'
      have hk2 : Kp w (wr.setCell ⟨g, i.toNat * 2, none⟩ (.int .i64 kc)) fp' := HK.out.trans (Kp.set _ _ _ _) (fun b hb _ => by simp at hb; subst hb; exact hg)
      clear hcell hfr hst hri hP hnf hff
      obtain ⟨cs, f, hP, hnf, hff, _, hcell, _, hup, _⟩ := Rp.Row_elem hr' HN.out i.toNat (by rw [List.length_set, markTo_len]; omega)
      rw [List.getElem_set_self] at hP
      obtain ⟨vj, rfl, hri⟩ := W_open hP
      obtain ⟨Aj, cj, rfl, _, _⟩ := Rp.Row_reads hri
      have c1 : (wr.setCell ⟨g, i.toNat * 2, none⟩ (.int .i64 kc)).cell? ⟨g, i.toNat * 2 + 1, none⟩ = some (.slice Aj xi.bytes.length cj) := hcell 1 _ rfl
      rw [cell_set_ne (by simp)] at c1
      have Hup := Aside0.mk hup; have Hri := Aside0.mk hri; have Hnf := Aside0.mk hnf; have Hff := Aside0.mk hff; have HKC := Aside0.mk hkc; have HK2 := Aside0.mk hk2
      have hk0 := hkc.1; have hk1 : kc + 1 ≤ 1000000000 := by omega
      clear hcell hup hri hnf hff hkc hr' hP hk2
      go_wp2_with (go_at_call 56; refine (markByteS_c _ xi.bytes f (kc + 1) _ Hri.out Hnf.out (by omega) HKC.out.2).mono ?_; rintro e w1 ⟨rfl, hr1, hk1⟩; have HR1 := Aside0.mk (Hup.out w1 _ hk1 (W_mk ⟨kc, _⟩ hr1)); have HK1 := Aside0.mk (HK2.out.trans hk1 (fun b hb _ => (Hff.out b hb).1)); clear hr1 hk1)
      go_roundg (gk - 1)
      case measure => have := HI.out; omega
      case rel =>
        have hi := HI.out; have hs := hs1.out; have hx := Hxi.out
        refine ⟨i + 1, _, rfl, rfl, ⟨by omega, by omega, by omega, ?_⟩, ?_, HK1⟩
        · rw [show (i + 1).toNat = i.toNat + 1 by omega, hs]; unfold cnW at *; omega
        · have hm := markTo_succ (mk := mkW) (cnt := cnW) k xs (i := i.toNat) (by omega)
          rw [show (i + 1).toNat = i.toNat + 1 by omega, ← hm, hx, ← hi.2.2.2]
          have h9 := HR1.out
          rw [List.set_set] at h9
          exact ⟨h9⟩
    · have hi := HI.out
      have e1 := markTo_end (mk := mkW) (cnt := cnW) k xs (i := i.toNat) (by omega)
      replace HO := HO.out; rw [e1] at HO
      have e2 : kc = k + cntL cnW xs := by rw [hi.2.2.2, List.take_of_length_le (by omega)]
      subst e2
      have HO := Aside0.mk HO
      clear e1 hi
      go_wp2
      go_ret
      exact ⟨rfl, HO.out, HK.out⟩
end Go.Proofs.Ytocdlibnmlcokaa
