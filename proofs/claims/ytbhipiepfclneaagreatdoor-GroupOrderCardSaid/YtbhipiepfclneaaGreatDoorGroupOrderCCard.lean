/- Walks. -/
import Derived.Test.YtbhipiepfclneaaGreatDoorGroupOrderBCard
namespace Go.Proofs.YtbhipiepfclneaaGreatDoor
open Go Go.Wk Go.Un Go.De Go.ChangeShapes Go.WideShapes Go.ChangeAt Go.RowKit
set_option linter.unusedSimpArgs false
set_option linter.unusedVariables false
theorem groupOrderClosed : joinedFacts Tryz.checked.prog 3 Tryz.f3 Rows.groupOrderSpec Rows.groupOrderRow = true := by
 unfold joinedFacts
 rw [groupOrderU, groupOrderR, groupOrderV, groupOrderI]
 kernel_rfl
end Go.Proofs.YtbhipiepfclneaaGreatDoor
