/- FnExactPageBlock: for every input the law returns true, and each argument reads afterwards as it read before. No condition. -/
import Derived.Test.YtkhakdggfknlpaaRFnExactPageBlock
import Derived.Test.YtkhakdggfknlpaaMFnExactPageBlock
namespace Go.Proofs.Ytkhakdggfknlpaa
theorem fnExactPageBlock_holds : Rows.FnExactPageBlockSaid := fnExactPageBlock.proved PFnExactPageBlock.pure
#print axioms fnExactPageBlock_holds
end Go.Proofs.Ytkhakdggfknlpaa
