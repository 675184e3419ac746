/- Walks. -/
import Derived.Test.YtbhipiepfclneaaGreatDoorKGroupHalves02
namespace Go.Proofs.YtbhipiepfclneaaGreatDoor
open Go Go.Wk Go.Un Go.De Go.ChangeShapes Go.WideShapes Go.ChangeAt Go.RowKit
set_option linter.unusedSimpArgs false
set_option linter.unusedVariables false
theorem groupHalvesU : (Rows.groupHalvesRow.unfollowed == Tryz.checked.prog.unfollowed 4) = true := by kernel_rfl
theorem groupHalvesR : (Rows.groupHalvesRow.recurses == Tryz.checked.prog.recurses 4) = true := by kernel_rfl
theorem groupHalvesV : (Rows.groupHalvesRow.named == Tryz.checked.prog.varsNamed 4) = true := by kernel_rfl
theorem groupHalvesI : (Rows.groupHalvesRow.inPlace == Tryz.checked.prog.inPlace 4) = true := by kernel_rfl
end Go.Proofs.YtbhipiepfclneaaGreatDoor
