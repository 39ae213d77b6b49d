/- FnFrames: for every input the law returns true, and each argument reads afterwards as it read before. No condition. -/
import Derived.Test.YtkhakdggfknlpaaRFnFrames
import Derived.Test.YtkhakdggfknlpaaMFnFrames
namespace Go.Proofs.Ytkhakdggfknlpaa
theorem fnFrames_holds : Rows.FnFramesSaid := fnFrames.proved PFnFrames.pure
#print axioms fnFrames_holds
end Go.Proofs.Ytkhakdggfknlpaa
