/- FnExactNoteOk: for every input the law returns true, and each argument reads afterwards as it read before. No condition. -/
import Derived.Test.YtkhakdggfknlpaaRFnExactNoteOk
import Derived.Test.YtkhakdggfknlpaaMFnExactNoteOk
namespace Go.Proofs.Ytkhakdggfknlpaa
theorem fnExactNoteOk_holds : Rows.FnExactNoteOkSaid := fnExactNoteOk.proved PFnExactNoteOk.pure
#print axioms fnExactNoteOk_holds
end Go.Proofs.Ytkhakdggfknlpaa
