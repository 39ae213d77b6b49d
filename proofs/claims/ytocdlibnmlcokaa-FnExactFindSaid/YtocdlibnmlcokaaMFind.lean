/- FnExactFind: whatever the input. -/
import Derived.Test.YtocdlibnmlcokaaKA4
import Derived.Test.YtocdlibnmlcokaaLFind
namespace Go.Proofs.Ytocdlibnmlcokaa
open Go.RowKit Go.Proofs.YtocdlibnmlcokaaW.PrintWords Go.Proofs.YtocdlibnmlcokaaW.PrintLast Go.Proofs.Ytocdlibnmlcokaa.Open
set_option linter.unusedVariables false
set_option linter.unusedSimpArgs false
theorem op67 : Opens Try.prog 67 rN.d TxOk :=
  opens_iso (opens_struct Try.underlying67 (by kernel_rfl) (opensF_cons (by kernel_rfl) (by kernel_rfl) (opens_int Try.underlying3) (opensF_cons (by kernel_rfl) (by kernel_rfl) (opens_int Try.underlying3) (opensF_cons (by kernel_rfl) (by kernel_rfl) (opens_int Try.underlying3)
    (opensF_cons (by kernel_rfl) (by kernel_rfl) (opens_int Try.underlying3) (opensF_one (by kernel_rfl) (by kernel_rfl) (opens_string Try.underlying9)))))))
    (fun x hx => ⟨⟨x.1, x.2.1, x.2.2.1, x.2.2.2.1, x.2.2.2.2⟩, rfl, by have := hx.2.2.2.2; unfold TxOk maxLen at *; simp only at *; omega⟩)
theorem open67 {w : World} {x : Nt} {cs : List Value} (h : rN.d.K w x cs) : cs = cN x := open109 h
theorem cntS_mem : ∀ {xs : List Nt} {x : Nt}, x ∈ xs → (x.text.size : Int) ≤ cntL cnS xs
  | y :: r, x, h => by
    have h0 := cntL_nonneg (cnt := cnS) cnS_nonneg r
    have h1 := cnS_nonneg y
    rcases List.mem_cons.1 h with rfl | h
    · simp only [cntL]; unfold cnS at *; omega
    · have := cntS_mem h
      simp only [cntL]; omega
theorem fnExactFind_c (A : Option Addr) (c : Nat) (xs : List Nt) (a : Nt) (w : World) (hx : rN.d.C w A xs.length xs) (ht : ∀ x ∈ xs, TxOk x) (ha : TxOk a) (hm : HasMax w) :
    Calls Try.prog 7 #[.slice A xs.length c, vN a] w (Yes w) := by
  by_cases hsz : costF xs a ≤ 1048576
  · have h0 := cntL_nonneg (cnt := cnS) cnS_nonneg xs
    have h1 := hsz
    unfold costF at h1
    exact fnExactFind_w A c xs a w hx (fun x hx => by have := cntS_mem hx; omega) (by omega) hsz hm
  · exact fnExactFind_l A c xs a w hx ht ha hsz
end Go.Proofs.Ytocdlibnmlcokaa
