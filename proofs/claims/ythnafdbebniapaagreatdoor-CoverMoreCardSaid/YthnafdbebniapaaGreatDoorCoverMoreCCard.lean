/- Walks. -/
import Derived.Test.YthnafdbebniapaaGreatDoorCoverMoreBCard
namespace Go.Proofs.YthnafdbebniapaaGreatDoor
open Go Go.Wk Go.Un Go.De Go.ChangeShapes Go.WideShapes Go.ChangeAt Go.RowKit
set_option linter.unusedSimpArgs false
set_option linter.unusedVariables false
theorem coverMoreClosed : joinedFacts Tryz.checked.prog 8 Tryz.f8 Rows.coverMoreSpec Rows.coverMoreRow = true := by
  unfold joinedFacts
  rw [coverMoreU, coverMoreR, coverMoreV, coverMoreI]
  kernel_rfl
end Go.Proofs.YthnafdbebniapaaGreatDoor
