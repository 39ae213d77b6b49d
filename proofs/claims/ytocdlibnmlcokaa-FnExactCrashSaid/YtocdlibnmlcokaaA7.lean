/- Marks: bytes. -/
import Derived.Test.YtocdlibnmlcokaaA4
import Derived.Test.YtocdlibnmlcokaaA6
namespace Go.Proofs.Ytocdlibnmlcokaa
open Go.RowKit Go.Proofs.YtocdlibnmlcokaaW.PrintWords Go.Proofs.YtocdlibnmlcokaaW.PrintLast
set_option linter.unusedVariables false
set_option linter.unusedSimpArgs false
/-- Marks, one element after the other. -/
def markL {α : Type} (mk : Int → α → α) (cnt : α → Int) : Int → List α → List α
  | _, [] => []
  | k, x :: r => mk k x :: markL mk cnt (k + cnt x) r
def cntL {α : Type} (cnt : α → Int) : List α → Int
  | [] => 0
  | x :: r => cnt x + cntL cnt r
section
variable {α : Type} {mk : Int → α → α} {cnt : α → Int}
theorem markL_len : ∀ (k : Int) (xs : List α), (markL mk cnt k xs).length = xs.length
  | _, [] => rfl
  | k, x :: r => by simp [markL, markL_len _ r]
theorem cntL_append : ∀ (xs ys : List α), cntL cnt (xs ++ ys) = cntL cnt xs + cntL cnt ys
  | [], ys => by simp [cntL]
  | x :: r, ys => by simp only [List.cons_append, cntL, cntL_append r ys]; omega
theorem markL_append : ∀ (k : Int) (xs ys : List α), markL mk cnt k (xs ++ ys) = markL mk cnt k xs ++ markL mk cnt (k + cntL cnt xs) ys
  | k, [], ys => by simp [markL, cntL]
  | k, x :: r, ys => by simp only [List.cons_append, markL, cntL, markL_append _ r ys]; rw [show k + cnt x + cntL cnt r = k + (cnt x + cntL cnt r) by omega]
/-- Behind i rounds. -/
def markTo (mk : Int → α → α) (cnt : α → Int) (k : Int) (xs : List α) (i : Nat) : List α := markL mk cnt k (xs.take i) ++ xs.drop i
theorem markTo_len (k : Int) (xs : List α) (i : Nat) : (markTo mk cnt k xs i).length = xs.length := by
  simp only [markTo, List.length_append, markL_len, List.length_take, List.length_drop]; omega
theorem markTo_zero (k : Int) (xs : List α) : markTo mk cnt k xs 0 = xs := by simp [markTo, markL]
theorem markTo_end (k : Int) (xs : List α) {i : Nat} (h : xs.length ≤ i) : markTo mk cnt k xs i = markL mk cnt k xs := by
  simp [markTo, List.take_of_length_le h, List.drop_eq_nil_of_le h]
theorem markTo_get (k : Int) (xs : List α) {i : Nat} (h : i < xs.length) : (markTo mk cnt k xs i)[i]'(by rw [markTo_len]; exact h) = xs[i] := by
  have hl : (markL mk cnt k (xs.take i)).length = i := by rw [markL_len, List.length_take]; omega
  simp [markTo, List.getElem_append, hl]
theorem markTo_succ (k : Int) (xs : List α) {i : Nat} (h : i < xs.length) : (markTo mk cnt k xs i).set i (mk (k + cntL cnt (xs.take i)) xs[i]) = markTo mk cnt k xs (i + 1) := by
  have hl : (markL mk cnt k (xs.take i)).length = i := by rw [markL_len, List.length_take]; omega
  unfold markTo
  rw [List.set_append, hl, if_neg (by omega), Nat.sub_self, List.take_succ_eq_append_getElem h, markL_append, List.drop_eq_getElem_cons h, List.set_cons_zero]
  simp [markL]
theorem cntL_succ (xs : List α) {i : Nat} (h : i < xs.length) : cntL cnt (xs.take (i + 1)) = cntL cnt (xs.take i) + cnt xs[i] := by
  rw [List.take_succ_eq_append_getElem h, cntL_append]; simp [cntL]
theorem markL_get (k : Int) (xs : List α) {i : Nat} (h : i < xs.length) : (markL mk cnt k xs)[i]'(by rw [markL_len]; exact h) = mk (k + cntL cnt (xs.take i)) xs[i] := by
  have := markTo_succ (mk := mk) (cnt := cnt) k xs h
  have h2 : xs = xs.take (i + 1) ++ xs.drop (i + 1) := (List.take_append_drop _ _).symm
  have h3 : markL mk cnt k xs = markL mk cnt k (xs.take (i + 1)) ++ markL mk cnt (k + cntL cnt (xs.take (i + 1))) (xs.drop (i + 1)) := by rw [← markL_append, ← h2]
  have hl : (markL mk cnt k (xs.take (i + 1))).length = i + 1 := by rw [markL_len, List.length_take]; omega
  have hl2 : (markL mk cnt k (xs.take i)).length = i := by rw [markL_len, List.length_take]; omega
  have e1 : (markL mk cnt k xs)[i]'(by rw [markL_len]; exact h) = (markL mk cnt k (xs.take (i + 1)))[i]'(by omega) := by
    simp only [h3]
    rw [List.getElem_append_left]
  rw [e1]
  have e2 : markL mk cnt k (xs.take (i + 1)) = markL mk cnt k (xs.take i) ++ [mk (k + cntL cnt (xs.take i)) xs[i]] := by
    rw [List.take_succ_eq_append_getElem h, markL_append]; simp [markL]
  simp only [e2]
  rw [List.getElem_append_right (by omega)]
  simp [hl2]
theorem cntL_nonneg (hc : ∀ x, 0 ≤ cnt x) : ∀ xs : List α, 0 ≤ cntL cnt xs
  | [] => Int.le_refl _
  | x :: r => by have := hc x; have := cntL_nonneg hc r; simp only [cntL]; omega
theorem cntL_le (hc : ∀ x, 0 ≤ cnt x) (xs : List α) (i : Nat) : cntL cnt (xs.take i) ≤ cntL cnt xs := by
  have h2 : cntL cnt xs = cntL cnt (xs.take i) + cntL cnt (xs.drop i) := by rw [← cntL_append, List.take_append_drop]
  have := cntL_nonneg (cnt := cnt) hc (xs.drop i)
  omega
end
/-- Bytes. -/
def mkB (k _x : Int) : Int := k % 256
def cn1 {α : Type} (_x : α) : Int := 1
theorem cnt1 {α : Type} : ∀ xs : List α, cntL cn1 xs = xs.length
  | [] => rfl
  | x :: r => by simp only [cntL, cn1, cnt1 r, List.length_cons]; omega
def GotMark {α : Type} (r : Rp α) (e : Nat) (w : World) (v : Value) (xs : List α) (fp : List Nat) (k : Int) (en : Ending) (w' : World) : Prop :=
  en = .returned (.int .i64 k) ∧ r.Row e w' v xs fp ∧ Kp w w' fp
set_option maxHeartbeats 1000000 in
theorem markByteS_c (v : Value) (xs : List Int) (fp : List Nat) (k : Int) (w : World) (hr : rB.Row 5 w v xs fp) (hnd : fp.Nodup) (h0 : 0 ≤ k) (h1 : k + xs.length ≤ 1000000000) :
    Calls Try.prog 56 #[v, .int .i64 k] w (GotMark rB 5 w v (markL mkB cn1 k xs) fp (k + xs.length)) := by
  obtain ⟨A, c, rfl, _, _⟩ := Rp.Row_reads hr
  have HR := Aside0.mk hr; have HN := Aside0.mk hnd; clear hr hnd
  go_enter Try.func56, Try.ntmps56
  go_wp2
  go_loopg [1, 5] xs.length (fun m vk vi wr => ∃ i : Int, vi = .int .i64 i ∧ vk = .int .i64 (k + i) ∧ Aside0 (0 ≤ i ∧ i ≤ xs.length ∧ xs.length - i.toNat ≤ m) ∧ Aside0 (rB.Row 5 wr (.slice A xs.length c) (markTo mkB cn1 k xs i.toNat) fp) ∧ Aside0 (Kp w wr fp))
  case atStart => exact ⟨0, rfl, by rw [Int.add_zero], ⟨by simp⟩, ⟨by simpa [markTo_zero] using HR.out⟩, ⟨(Kp.refl w).mono (by simp)⟩⟩
  case round =>
    obtain ⟨i, rfl, rfl, HI, HO, HK⟩ := hrel
    by_cases hlt : i < (xs.length : Int)
    · have hi0 : 0 ≤ i := HI.out.1
      obtain ⟨g, cap, hv, _, _⟩ := Rp.Row_form HO.out (by rw [markTo_len]; omega)
      rw [markTo_len] at hv
      injection hv with hA _ hc
      subst hA; subst hc
      obtain ⟨cs, f, hP, _, _, hg, hcell, hfr, _, hst⟩ := Rp.Row_elem HO.out HN.out i.toNat (by rw [markTo_len]; omega)
      obtain ⟨hcs, hf⟩ := hP
      subst hcs; subst hf
      have e0 : i.toNat * rB.d.sz + 0 = i.toNat := Nat.mul_one _
      have c1 := hcell 0 _ rfl
      rw [e0] at c1
      have z1 := hfr i.toNat
      clear hcell hfr
      obtain ⟨fp', hr', _, _, he⟩ := hst 0 (.int .u8 (mkB (k + i) 0)) (mkB (k + i) 0) [] (by decide) ⟨rfl, rfl⟩ (by simp) (by simp) (.inl rfl)
      have he := he rfl
      subst he
      rw [e0] at hr'
      have HO' := Aside0.mk hr'
      clear hst hr' e0
      go_wp2
      go_roundg (gk - 1)
      case measure => have := HI.out; omega
      case rel =>
        refine ⟨i + 1, ?_, ?_, ⟨by have := HI.out; omega, by have := HI.out; omega, by have := HI.out; omega⟩, ?_, ?_⟩
        · rfl
        · rw [Int.add_assoc]
        · have hs := markTo_succ (mk := mkB) (cnt := cn1) k xs (i := i.toNat) (by omega)
          rw [cnt1, List.length_take, show ((min i.toNat xs.length : Nat) : Int) = i by omega] at hs
          rw [show (i + 1).toNat = i.toNat + 1 by omega, ← hs]
          exact HO'
        · exact ⟨HK.out.trans (Kp.set _ _ _ _) (fun b hb _ => by simp at hb; subst hb; exact hg)⟩
    · have hi := HI.out
      have e1 := markTo_end (mk := mkB) (cnt := cn1) k xs (i := i.toNat) (by omega)
      replace HO := HO.out; rw [e1] at HO
      have e2 : i = xs.length := by omega
      subst e2
      have HO := Aside0.mk HO
      clear e1 hi
      go_wp2
      go_ret
      exact ⟨rfl, HO.out, HK.out⟩
end Go.Proofs.Ytocdlibnmlcokaa
