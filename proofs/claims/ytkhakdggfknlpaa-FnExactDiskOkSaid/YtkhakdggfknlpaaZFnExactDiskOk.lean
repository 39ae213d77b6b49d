/- FnExactDiskOk: for every input the law returns true, and each argument reads afterwards as it read before. No condition. -/
import Derived.Test.YtkhakdggfknlpaaRFnExactDiskOk
import Derived.Test.YtkhakdggfknlpaaMFnExactDiskOk
namespace Go.Proofs.Ytkhakdggfknlpaa
theorem fnExactDiskOk_holds : Rows.FnExactDiskOkSaid := fnExactDiskOk.proved PFnExactDiskOk.pure
#print axioms fnExactDiskOk_holds
end Go.Proofs.Ytkhakdggfknlpaa
