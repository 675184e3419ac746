/- Walks. -/
import Derived.Test.YtbhipiepfclneaaGreatDoorKGroupOrder02
namespace Go.Proofs.YtbhipiepfclneaaGreatDoor
open Go Go.Wk Go.Un Go.De Go.ChangeShapes Go.WideShapes Go.ChangeAt Go.RowKit
set_option linter.unusedSimpArgs false
set_option linter.unusedVariables false
theorem groupOrderU : (Rows.groupOrderRow.unfollowed == Tryz.checked.prog.unfollowed 3) = true := by kernel_rfl
theorem groupOrderR : (Rows.groupOrderRow.recurses == Tryz.checked.prog.recurses 3) = true := by kernel_rfl
theorem groupOrderV : (Rows.groupOrderRow.named == Tryz.checked.prog.varsNamed 3) = true := by kernel_rfl
theorem groupOrderI : (Rows.groupOrderRow.inPlace == Tryz.checked.prog.inPlace 3) = true := by kernel_rfl
end Go.Proofs.YtbhipiepfclneaaGreatDoor
