/- FnExactFrame: for every input the law returns true, and each argument reads afterwards as it read before. No condition. -/
import Derived.Test.YtkhakdggfknlpaaRFnExactFrame
import Derived.Test.YtkhakdggfknlpaaMFnExactFrame
namespace Go.Proofs.Ytkhakdggfknlpaa
theorem fnExactFrame_holds : Rows.FnExactFrameSaid := fnExactFrame.proved PFnExactFrame.pure
#print axioms fnExactFrame_holds
end Go.Proofs.Ytkhakdggfknlpaa
