/- FnTop: whatever the input. -/
import Derived.Test.YtocdlibnmlcokaaKTT5
namespace Go.Proofs.Ytocdlibnmlcokaa
open Go.RowKit Go.Proofs.YtocdlibnmlcokaaW.PrintWords Go.Proofs.YtocdlibnmlcokaaW.PrintLast
set_option linter.unusedVariables false
set_option linter.unusedSimpArgs false
theorem fnTop_c (A : Option Addr) (c : Nat) (xs : List Int) (w : World) (hx : kB.C w A xs.length xs) (hb : ∀ b ∈ xs, (Lit.int .u8 b).wf = true) (hm : HasMax w) :
    Calls Try.prog 3 #[.slice A xs.length c] w (Yes w) := fnTop_w A c xs w hx (fun b h => u8_of (hb b h)) hm
end Go.Proofs.Ytocdlibnmlcokaa
