/- FnExactConstants: for every input the law returns true, and each argument reads afterwards as it read before. No condition. -/
import Derived.Test.YtkhakdggfknlpaaRFnExactConstants
import Derived.Test.YtkhakdggfknlpaaMFnExactConstants
namespace Go.Proofs.Ytkhakdggfknlpaa
theorem fnExactConstants_holds : Rows.FnExactConstantsSaid := fnExactConstants.proved PFnExactConstants.pure
#print axioms fnExactConstants_holds
end Go.Proofs.Ytkhakdggfknlpaa
