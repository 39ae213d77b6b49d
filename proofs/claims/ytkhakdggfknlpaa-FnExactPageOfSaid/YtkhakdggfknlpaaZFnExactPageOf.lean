/- FnExactPageOf: for every input the law returns true, and each argument reads afterwards as it read before. No condition. -/
import Derived.Test.YtkhakdggfknlpaaRFnExactPageOf
import Derived.Test.YtkhakdggfknlpaaMFnExactPageOf
namespace Go.Proofs.Ytkhakdggfknlpaa
theorem fnExactPageOf_holds : Rows.FnExactPageOfSaid := fnExactPageOf.proved PFnExactPageOf.pure
#print axioms fnExactPageOf_holds
end Go.Proofs.Ytkhakdggfknlpaa
