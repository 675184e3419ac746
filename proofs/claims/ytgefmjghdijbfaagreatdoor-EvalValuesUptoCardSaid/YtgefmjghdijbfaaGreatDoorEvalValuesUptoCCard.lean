/- Walks. -/
import Derived.Test.YtgefmjghdijbfaaGreatDoorEvalValuesUptoBCard
namespace Go.Proofs.YtgefmjghdijbfaaGreatDoor
open Go Go.Wk Go.Un Go.De Go.ChangeShapes Go.WideShapes Go.ChangeAt Go.RowKit
set_option linter.unusedSimpArgs false
set_option linter.unusedVariables false
theorem evalValuesClosed : joinedFacts Tryz.checked.prog 3 Tryz.f3 (Rows.OpenSpec.upto Rows.evalValuesSpec).bare Rows.evalValuesUptoRow = true := by
 unfold joinedFacts
 rw [evalValuesU, evalValuesR, evalValuesV, evalValuesI]
 kernel_rfl
end Go.Proofs.YtgefmjghdijbfaaGreatDoor
