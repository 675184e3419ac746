/- Walks. -/
import Derived.Test.YtbhipiepfclneaaGreatDoorGroupPlaysBCard
namespace Go.Proofs.YtbhipiepfclneaaGreatDoor
open Go Go.Wk Go.Un Go.De Go.ChangeShapes Go.WideShapes Go.ChangeAt Go.RowKit
set_option linter.unusedSimpArgs false
set_option linter.unusedVariables false
theorem groupPlaysClosed : joinedFacts Tryz.checked.prog 5 Tryz.f5 Rows.groupPlaysSpec Rows.groupPlaysRow = true := by
 unfold joinedFacts
 rw [groupPlaysU, groupPlaysR, groupPlaysV, groupPlaysI]
 kernel_rfl
end Go.Proofs.YtbhipiepfclneaaGreatDoor
