/- Walks. -/
import Derived.Test.YthnafdbebniapaaGreatDoorKCoverFits06
namespace Go.Proofs.YthnafdbebniapaaGreatDoor
open Go Go.Wk Go.Un Go.De Go.ChangeShapes Go.WideShapes Go.ChangeAt Go.RowKit
set_option linter.unusedSimpArgs false
set_option linter.unusedVariables false
theorem coverFitsU : (Rows.coverFitsRow.unfollowed == Tryz.checked.prog.unfollowed 4) = true := by kernel_rfl
theorem coverFitsR : (Rows.coverFitsRow.recurses == Tryz.checked.prog.recurses 4) = true := by kernel_rfl
theorem coverFitsV : (Rows.coverFitsRow.named == Tryz.checked.prog.varsNamed 4) = true := by kernel_rfl
theorem coverFitsI : (Rows.coverFitsRow.inPlace == Tryz.checked.prog.inPlace 4) = true := by kernel_rfl
end Go.Proofs.YthnafdbebniapaaGreatDoor
