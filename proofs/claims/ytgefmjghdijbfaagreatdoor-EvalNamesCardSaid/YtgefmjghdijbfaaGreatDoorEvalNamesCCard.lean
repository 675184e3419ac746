/- Walks. -/
import Derived.Test.YtgefmjghdijbfaaGreatDoorEvalNamesBCard
namespace Go.Proofs.YtgefmjghdijbfaaGreatDoor
open Go Go.Wk Go.Un Go.De Go.ChangeShapes Go.WideShapes Go.ChangeAt Go.RowKit
set_option linter.unusedSimpArgs false
set_option linter.unusedVariables false
theorem evalNamesClosed : joinedFacts Tryz.checked.prog 4 Tryz.f4 Rows.evalNamesSpec Rows.evalNamesRow = true := by
 unfold joinedFacts
 rw [evalNamesU, evalNamesR, evalNamesV, evalNamesI]
 kernel_rfl
end Go.Proofs.YtgefmjghdijbfaaGreatDoor
