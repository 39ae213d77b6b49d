/- FnRoom: whatever the input. -/
import Derived.Test.YtocdlibnmlcokaaKR2
namespace Go.Proofs.Ytocdlibnmlcokaa
open Go.RowKit Go.Proofs.YtocdlibnmlcokaaW.PrintWords Go.Proofs.YtocdlibnmlcokaaW.PrintLast
set_option linter.unusedVariables false
set_option linter.unusedSimpArgs false
theorem fnRoom_c (A : Option Addr) (c : Nat) (xs : List Int) (w : World) (hx : kB.C w A xs.length xs) (hb : ∀ b ∈ xs, (Lit.int .u8 b).wf = true) :
    Calls Try.prog 6 #[.slice A xs.length c] w (Yes w) := fnRoom_w A c xs w hx (fun b h => u8_of (hb b h))
end Go.Proofs.Ytocdlibnmlcokaa
