/- FnExactRun: whatever the input. -/
import Derived.Test.YtocdlibnmlcokaaKRR5
import Derived.Test.YtocdlibnmlcokaaLRun
namespace Go.Proofs.Ytocdlibnmlcokaa
open Go.RowKit Go.Proofs.YtocdlibnmlcokaaW.PrintWords Go.Proofs.YtocdlibnmlcokaaW.PrintLast Go.Proofs.Ytocdlibnmlcokaa.Open
set_option linter.unusedVariables false
set_option linter.unusedSimpArgs false
theorem op67r : Opens Try.prog 67 rN.d TxOk :=
  opens_iso (opens_struct Try.underlying67 (by kernel_rfl) (opensF_cons (by kernel_rfl) (by kernel_rfl) (opens_int Try.underlying3) (opensF_cons (by kernel_rfl) (by kernel_rfl) (opens_int Try.underlying3) (opensF_cons (by kernel_rfl) (by kernel_rfl) (opens_int Try.underlying3)
    (opensF_cons (by kernel_rfl) (by kernel_rfl) (opens_int Try.underlying3) (opensF_one (by kernel_rfl) (by kernel_rfl) (opens_string Try.underlying9)))))))
    (fun x hx => ⟨⟨x.1, x.2.1, x.2.2.1, x.2.2.2.1, x.2.2.2.2⟩, rfl, by have := hx.2.2.2.2; unfold TxOk maxLen at *; simp only at *; omega⟩)
theorem op160 : Opens Try.prog 160 rAc.d AcTx :=
  opens_iso (opens_struct Try.underlying160 (by kernel_rfl) (opensF_cons (by kernel_rfl) (by kernel_rfl) (opens_int Try.underlying3) (opensF_cons (by kernel_rfl) (by kernel_rfl) op109 (opensF_cons (by kernel_rfl) (by kernel_rfl) op34 (opensF_cons (by kernel_rfl) (by kernel_rfl) op67r (opensF_cons (by kernel_rfl) (by kernel_rfl) (opens_int Try.underlying3) (opensF_one (by kernel_rfl) (by kernel_rfl) (opens_int Try.underlying3))))))))
    (fun x hx => ⟨⟨x.1, x.2.1, x.2.2.1, x.2.2.2.1, x.2.2.2.2.1, x.2.2.2.2.2⟩, rfl, ⟨hx.2.1, hx.2.2.2.1⟩⟩)
theorem op113 : Opens Try.prog 113 (Kd.slice 38 rAc.d) (fun xs => ∀ x ∈ xs, AcTx x) := opens_mono (opens_slice 38 Try.underlying113 (by kernel_rfl) op160) (fun xs h => h.2)
theorem open113 {w : World} {y : List Ac} {cs : List Value} (h : (Kd.slice 38 rAc.d).K w y cs) : ∃ A c, cs = [.slice A y.length c] ∧ rAc.d.C w A y.length y := by
  obtain ⟨A, c, rfl, _, h0⟩ := h
  exact ⟨A, c, rfl, h0⟩
theorem fnExactRun_c (A : Option Addr) (c : Nat) (xs : List Ac) (w : World) (hx : rAc.d.C w A xs.length xs) (ht : ∀ x ∈ xs, AcTx x) (hm : HasMax w) :
    Calls Try.prog 20 #[.slice A xs.length c] w (Yes w) := by
  by_cases hsz : xs.length + cntL cnA xs ≤ 1048576
  · exact fnExactRun_w A c xs w hx ht hsz hm
  · exact fnExactRun_l A c xs w hx ht hsz
end Go.Proofs.Ytocdlibnmlcokaa
