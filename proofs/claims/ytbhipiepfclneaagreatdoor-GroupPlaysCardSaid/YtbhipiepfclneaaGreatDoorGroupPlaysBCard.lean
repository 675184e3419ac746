/- Walks. -/
import Derived.Test.YtbhipiepfclneaaGreatDoorKGroupPlays03
namespace Go.Proofs.YtbhipiepfclneaaGreatDoor
open Go Go.Wk Go.Un Go.De Go.ChangeShapes Go.WideShapes Go.ChangeAt Go.RowKit
set_option linter.unusedSimpArgs false
set_option linter.unusedVariables false
theorem groupPlaysU : (Rows.groupPlaysRow.unfollowed == Tryz.checked.prog.unfollowed 5) = true := by kernel_rfl
theorem groupPlaysR : (Rows.groupPlaysRow.recurses == Tryz.checked.prog.recurses 5) = true := by kernel_rfl
theorem groupPlaysV : (Rows.groupPlaysRow.named == Tryz.checked.prog.varsNamed 5) = true := by kernel_rfl
theorem groupPlaysI : (Rows.groupPlaysRow.inPlace == Tryz.checked.prog.inPlace 5) = true := by kernel_rfl
end Go.Proofs.YtbhipiepfclneaaGreatDoor
