/- What the laws over disks share: what the costs bound, the argument opened. -/
import Derived.Test.YtocdlibnmlcokaaAO
import Derived.Test.YtocdlibnmlcokaaAZ
import Derived.Test.YtocdlibnmlcokaaOpen
namespace Go.Proofs.Ytocdlibnmlcokaa
open Go.RowKit Go.Proofs.YtocdlibnmlcokaaW.PrintWords Go.Proofs.YtocdlibnmlcokaaW.PrintLast Go.Proofs.Ytocdlibnmlcokaa.Open
set_option linter.unusedVariables false
set_option linter.unusedSimpArgs false
theorem cntL_mem {α : Type} {cnt : α → Int} (hc : ∀ x, 0 ≤ cnt x) : ∀ (xs : List α), ∀ x ∈ xs, cnt x ≤ cntL cnt xs
  | [], x, h => by cases h
  | y :: r, x, h => by
    have h0 := hc y
    have h1 := cntL_nonneg (cnt := cnt) hc r
    rcases List.mem_cons.1 h with rfl | h
    · simp only [cntL]; omega
    · have := cntL_mem hc r x h; simp only [cntL]; omega
theorem cntL_bound {α : Type} {cnt : α → Int} {m : Int} (h0 : 0 ≤ m) : ∀ (xs : List α), (∀ x ∈ xs, cnt x ≤ m) → cntL cnt xs ≤ xs.length * m
  | [], _ => by simp [cntL]
  | y :: r, h => by
    have := cntL_bound h0 r (fun x hx => h x (List.mem_cons_of_mem _ hx))
    have := h y (List.mem_cons_self ..)
    simp only [cntL, List.length_cons]
    push_cast
    rw [Int.add_mul]
    omega
theorem cntW_V : ∀ ws : List Wr, cntL cnW ws = ws.length + cntL cnV ws
  | [] => rfl
  | y :: r => by simp only [cntL, cntW_V r, cnW, cnV, List.length_cons]; omega
def Small (bs : List (List Int)) (ws : List Wr) : Prop := bs.length ≤ 10000000 ∧ ws.length ≤ 10000000 ∧ (∀ x ∈ bs, x.length ≤ 10000000) ∧ ∀ x ∈ ws, x.bytes.length ≤ 10000000
theorem small_of {bs : List (List Int)} {ws : List Wr} (h : costD bs ws ≤ 1048576) : Small bs ws ∧ cnD bs ws ≤ 100000000 := by
  have h0 := cntL_nonneg (cnt := cnB) cnB_nonneg bs
  have h1 := cntL_nonneg (cnt := cnV) cnV_nonneg ws
  have h2 := cntW_V ws
  unfold costD costBS costWS at h
  refine ⟨⟨by omega, by omega, fun x hx => ?_, fun x hx => ?_⟩, by unfold cnD; omega⟩
  · have := cntL_mem (cnt := cnB) cnB_nonneg bs x hx; unfold cnB at *; omega
  · have := cntL_mem (cnt := cnV) cnV_nonneg ws x hx; unfold cnV at *; omega
theorem setTo_row {bs : List (List Int)} {ws : List Wr} {kf : Nat → Bool} (hd : DkOk bs ws) : ∀ i, i ≤ ws.length → ∀ x ∈ setTo bs ws kf i, x.length = 64
  | 0, _, x, hx => hd.2.2.1 x hx
  | i + 1, hi, x, hx => by
    simp only [setTo] at hx
    split at hx
    · rcases List.mem_or_eq_of_mem_set hx with h | rfl
      · exact setTo_row hd i (by omega) x h
      · rw [List.getD_eq_getElem?_getD, List.getElem?_eq_getElem (by omega)]
        exact (hd.2.2.2 _ (List.getElem_mem _)).2.2
    · exact setTo_row hd i (by omega) x hx
theorem settle_ok {bs : List (List Int)} {ws : List Wr} (kf : Nat → Bool) (hd : DkOk bs ws) : (settleL bs ws kf).length = 128 ∧ ∀ x ∈ settleL bs ws kf, x.length = 64 :=
  ⟨(setTo_len bs ws kf _).trans hd.1, setTo_row hd _ (Nat.le_refl _)⟩
theorem cnB_of {xs : List (List Int)} (h : xs.length = 128 ∧ ∀ x ∈ xs, x.length = 64) : cntL cnB xs ≤ 10000 := by
  have := cntL_bound (cnt := cnB) (m := 64) (by omega) xs (fun x hx => by have := h.2 x hx; unfold cnB; omega)
  omega
theorem cnD_settle {bs : List (List Int)} {ws : List Wr} (kf : Nat → Bool) (hd : DkOk bs ws) : cnD (settleL bs ws kf) [] ≤ 100000000 := by
  have := cnB_of (settle_ok kf hd)
  unfold cnD; simp only [cntL]; omega
theorem cnD_nil : cnD [] [] ≤ 100000000 := by unfold cnD; simp only [cntL]; omega
/-- The disk that the caller hands in. -/
theorem op22 : Opens Try.prog 22 (Kd.slice 5 (Kd.int .u8)) (fun xs => xs.length ≤ maxLen ∧ ∀ x ∈ xs, (Lit.int .u8 x).wf = true) := opens_slice 5 Try.underlying22 (by kernel_rfl) (opens_int Try.underlying5)
theorem op34 : Opens Try.prog 34 (Kd.slice 4 Kd.bool) (fun xs => xs.length ≤ maxLen ∧ ∀ x ∈ xs, True) := opens_slice 4 Try.underlying34 (by kernel_rfl) (opens_bool Try.underlying4)
theorem op78 : Opens Try.prog 78 (Kd.pair (Kd.slice 22 rBS.d) (Kd.slice 147 rW.d)) (fun _ => True) :=
  opens_mono (opens_struct Try.underlying78 (by kernel_rfl) (opensF_cons (by kernel_rfl) (by kernel_rfl) (opens_slice 22 Try.underlying40 (by kernel_rfl) op22)
    (opensF_one (by kernel_rfl) (by kernel_rfl) (opens_slice 147 Try.underlying76 (by kernel_rfl) (opens_iso (ok' := fun x : Wr => True) (f := fun x : Wr => (x.block, x.bytes)) (opens_struct Try.underlying176 (by kernel_rfl) (opensF_cons (by kernel_rfl) (by kernel_rfl) (opens_int Try.underlying3) (opensF_one (by kernel_rfl) (by kernel_rfl) op22)))
      (fun x _ => ⟨⟨x.1, x.2⟩, rfl, trivial⟩)))))) (fun _ _ => trivial)
theorem open78 {w : World} {y : List (List Int) × List Wr} {cs : List Value} (h : (Kd.pair (Kd.slice 22 rBS.d) (Kd.slice 147 rW.d)).K w y cs) :
    ∃ A0 c0 A1 c1, cs = [.slice A0 y.1.length c0, .slice A1 y.2.length c1] ∧ rBS.d.C w A0 y.1.length y.1 ∧ rW.d.C w A1 y.2.length y.2 := by
  obtain ⟨_, _, rfl, ⟨A0, c0, rfl, _, h0⟩, ⟨A1, c1, rfl, _, h1⟩⟩ := h
  exact ⟨A0, c0, A1, c1, rfl, h0, h1⟩
theorem open22 {w : World} {y : List Int} {cs : List Value} (h : (Kd.slice 5 (Kd.int .u8)).K w y cs) : ∃ A c, cs = [.slice A y.length c] ∧ kB.C w A y.length y := by
  obtain ⟨A, c, rfl, _, h0⟩ := h
  exact ⟨A, c, rfl, h0⟩
theorem open34 {w : World} {y : List Bool} {cs : List Value} (h : (Kd.slice 4 Kd.bool).K w y cs) : ∃ A c, cs = [.slice A y.length c] ∧ Kd.bool.C w A y.length y := by
  obtain ⟨A, c, rfl, _, h0⟩ := h
  exact ⟨A, c, rfl, h0⟩
end Go.Proofs.Ytocdlibnmlcokaa
