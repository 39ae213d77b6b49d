/- FnExactReadFrame: for every input the law returns true, and each argument reads afterwards as it read before. No condition. -/
import Derived.Test.YtkhakdggfknlpaaRFnExactReadFrame
import Derived.Test.YtkhakdggfknlpaaMFnExactReadFrame
namespace Go.Proofs.Ytkhakdggfknlpaa
theorem fnExactReadFrame_holds : Rows.FnExactReadFrameSaid := fnExactReadFrame.proved PFnExactReadFrame.pure
#print axioms fnExactReadFrame_holds
end Go.Proofs.Ytkhakdggfknlpaa
