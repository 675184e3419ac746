/- Walks. -/
import Derived.Test.YthnafdbebniapaaGreatDoorCoverFitsBCard
namespace Go.Proofs.YthnafdbebniapaaGreatDoor
open Go Go.Wk Go.Un Go.De Go.ChangeShapes Go.WideShapes Go.ChangeAt Go.RowKit
set_option linter.unusedSimpArgs false
set_option linter.unusedVariables false
theorem coverFitsClosed : joinedFacts Tryz.checked.prog 4 Tryz.f4 Rows.coverFitsSpec Rows.coverFitsRow = true := by
 unfold joinedFacts
 rw [coverFitsU, coverFitsR, coverFitsV, coverFitsI]
 kernel_rfl
end Go.Proofs.YthnafdbebniapaaGreatDoor
