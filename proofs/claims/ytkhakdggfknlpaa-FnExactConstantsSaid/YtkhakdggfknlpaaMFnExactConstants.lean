/- What the functions that FnExactConstants reaches tell, and its pure statement. No condition. -/
import Derived.Test.YtkhakdggfknlpaaPFnExactConstantsx0
import Derived.Test.YtkhakdggfknlpaaPFnExactConstantsx1
import Derived.Test.YtkhakdggfknlpaaMath
namespace Go.Proofs.Ytkhakdggfknlpaa.PFnExactConstants
open Go.RowKit Go.Proofs.YtkhakdggfknlpaaW.PrintWords Go.Proofs.YtkhakdggfknlpaaW.PrintLast Go.Proofs.Ytkhakdggfknlpaa.Math
set_option linter.unusedVariables false
set_option linter.unusedSimpArgs false

/-! ### laws.FnExactConstants -/
theorem pure : laws_FnExactConstants.Pure := rfl

end Go.Proofs.Ytkhakdggfknlpaa.PFnExactConstants
