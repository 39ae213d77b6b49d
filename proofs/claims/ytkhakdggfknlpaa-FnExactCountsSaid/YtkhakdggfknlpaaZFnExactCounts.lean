/- FnExactCounts: for every input the law returns true, and each argument reads afterwards as it read before. No condition. -/
import Derived.Test.YtkhakdggfknlpaaRFnExactCounts
import Derived.Test.YtkhakdggfknlpaaMFnExactCounts
namespace Go.Proofs.Ytkhakdggfknlpaa
theorem fnExactCounts_holds : Rows.FnExactCountsSaid := fnExactCounts.proved PFnExactCounts.pure
#print axioms fnExactCounts_holds
end Go.Proofs.Ytkhakdggfknlpaa
