/- Walks. -/
import Derived.Test.YtbhipiepfclneaaGreatDoorGroupNamesBCard
namespace Go.Proofs.YtbhipiepfclneaaGreatDoor
open Go Go.Wk Go.Un Go.De Go.ChangeShapes Go.WideShapes Go.ChangeAt Go.RowKit
set_option linter.unusedSimpArgs false
set_option linter.unusedVariables false
theorem groupNamesClosed : joinedFacts Tryz.checked.prog 6 Tryz.f6 Rows.groupNamesSpec Rows.groupNamesRow = true := by
 unfold joinedFacts
 rw [groupNamesU, groupNamesR, groupNamesV, groupNamesI]
 kernel_rfl
end Go.Proofs.YtbhipiepfclneaaGreatDoor
