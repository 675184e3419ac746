/- Walks. -/
import Derived.Test.YtgefmjghdijbfaaGreatDoorQ15
import Derived.Test.YtgefmjghdijbfaaGreatDoorQ14
import Derived.Test.YtgefmjghdijbfaaGreatDoorKEvalValuesUpto07
import Derived.Test.YtgefmjghdijbfaaGreatDoorQ05
import Derived.Test.YtgefmjghdijbfaaGreatDoorKEvalValuesUpto01
import Derived.Test.YtgefmjghdijbfaaGreatDoorKEvalValuesUpto06
namespace Go.Proofs.YtgefmjghdijbfaaGreatDoor
open Go Go.Wk Go.Un Go.De Go.ChangeShapes Go.WideShapes Go.ChangeAt Go.RowKit
set_option linter.unusedSimpArgs false
set_option linter.unusedVariables false
theorem evalValuesU : (Rows.evalValuesUptoRow.unfollowed == Tryz.checked.prog.unfollowed 3) = true := by kernel_rfl
theorem evalValuesR : (Rows.evalValuesUptoRow.recurses == Tryz.checked.prog.recurses 3) = true := by kernel_rfl
theorem evalValuesV : (Rows.evalValuesUptoRow.named == Tryz.checked.prog.varsNamed 3) = true := by kernel_rfl
theorem evalValuesI : (Rows.evalValuesUptoRow.inPlace == Tryz.checked.prog.inPlace 3) = true := by kernel_rfl
end Go.Proofs.YtgefmjghdijbfaaGreatDoor
