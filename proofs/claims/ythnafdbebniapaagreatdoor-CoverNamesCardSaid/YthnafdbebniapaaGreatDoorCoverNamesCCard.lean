/- Walks. -/
import Derived.Test.YthnafdbebniapaaGreatDoorCoverNamesBCard
namespace Go.Proofs.YthnafdbebniapaaGreatDoor
open Go Go.Wk Go.Un Go.De Go.ChangeShapes Go.WideShapes Go.ChangeAt Go.RowKit
set_option linter.unusedSimpArgs false
set_option linter.unusedVariables false
theorem coverNamesClosed : joinedFacts Tryz.checked.prog 6 Tryz.f6 Rows.coverNamesSpec Rows.coverNamesRow = true := by
 unfold joinedFacts
 rw [coverNamesU, coverNamesR, coverNamesV, coverNamesI]
 kernel_rfl
end Go.Proofs.YthnafdbebniapaaGreatDoor
