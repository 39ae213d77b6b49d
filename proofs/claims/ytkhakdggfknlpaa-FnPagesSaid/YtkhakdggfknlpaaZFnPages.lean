/- FnPages: for every input the law returns true, and each argument reads afterwards as it read before. No condition. -/
import Derived.Test.YtkhakdggfknlpaaRFnPages
import Derived.Test.YtkhakdggfknlpaaMFnPages
namespace Go.Proofs.Ytkhakdggfknlpaa
theorem fnPages_holds : Rows.FnPagesSaid := fnPages.proved PFnPages.pure
#print axioms fnPages_holds
end Go.Proofs.Ytkhakdggfknlpaa
