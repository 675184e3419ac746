/- Walks. -/
import Derived.Test.YthnafdbebniapaaGreatDoorKCoverMore02
namespace Go.Proofs.YthnafdbebniapaaGreatDoor
open Go Go.Wk Go.Un Go.De Go.ChangeShapes Go.WideShapes Go.ChangeAt Go.RowKit
set_option linter.unusedSimpArgs false
set_option linter.unusedVariables false
theorem coverMoreU : (Rows.coverMoreRow.unfollowed == Tryz.checked.prog.unfollowed 8) = true := by kernel_rfl
theorem coverMoreR : (Rows.coverMoreRow.recurses == Tryz.checked.prog.recurses 8) = true := by kernel_rfl
theorem coverMoreV : (Rows.coverMoreRow.named == Tryz.checked.prog.varsNamed 8) = true := by kernel_rfl
theorem coverMoreI : (Rows.coverMoreRow.inPlace == Tryz.checked.prog.inPlace 8) = true := by kernel_rfl
end Go.Proofs.YthnafdbebniapaaGreatDoor
