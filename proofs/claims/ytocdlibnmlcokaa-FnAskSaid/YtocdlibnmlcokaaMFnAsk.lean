/- FnAsk: whatever the input. -/
import Derived.Test.YtocdlibnmlcokaaKKA1
namespace Go.Proofs.Ytocdlibnmlcokaa
open Go.RowKit Go.Proofs.YtocdlibnmlcokaaW.PrintWords Go.Proofs.YtocdlibnmlcokaaW.PrintLast
set_option linter.unusedVariables false
set_option linter.unusedSimpArgs false
theorem fnAsk_c (A B : Option Addr) (c d : Nat) (xs ys : List Int) (w : World) (hx : kB.C w A xs.length xs) (hy : kB.C w B ys.length ys) (hb : ∀ b ∈ xs, (Lit.int .u8 b).wf = true) (hb2 : ∀ b ∈ ys, (Lit.int .u8 b).wf = true) (hm : HasMax w) :
    Calls Try.prog 5 #[.slice A xs.length c, .slice B ys.length d] w (Yes w) := fnAsk_w A B c d xs ys w hx hy (fun b h => u8_of (hb b h)) (fun b h => u8_of (hb2 b h)) hm
end Go.Proofs.Ytocdlibnmlcokaa
