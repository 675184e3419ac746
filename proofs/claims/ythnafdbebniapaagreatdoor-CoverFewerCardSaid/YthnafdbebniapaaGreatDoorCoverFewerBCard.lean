/- Walks. -/
import Derived.Test.YthnafdbebniapaaGreatDoorKCoverFewer03
namespace Go.Proofs.YthnafdbebniapaaGreatDoor
open Go Go.Wk Go.Un Go.De Go.ChangeShapes Go.WideShapes Go.ChangeAt Go.RowKit
set_option linter.unusedSimpArgs false
set_option linter.unusedVariables false
theorem coverFewerU : (Rows.coverFewerRow.unfollowed == Tryz.checked.prog.unfollowed 7) = true := by kernel_rfl
theorem coverFewerR : (Rows.coverFewerRow.recurses == Tryz.checked.prog.recurses 7) = true := by kernel_rfl
theorem coverFewerV : (Rows.coverFewerRow.named == Tryz.checked.prog.varsNamed 7) = true := by kernel_rfl
theorem coverFewerI : (Rows.coverFewerRow.inPlace == Tryz.checked.prog.inPlace 7) = true := by kernel_rfl
end Go.Proofs.YthnafdbebniapaaGreatDoor
