/- Walks. -/
import Derived.Test.YthnafdbebniapaaGreatDoorCoverBoundBCard
namespace Go.Proofs.YthnafdbebniapaaGreatDoor
open Go Go.Wk Go.Un Go.De Go.ChangeShapes Go.WideShapes Go.ChangeAt Go.RowKit
set_option linter.unusedSimpArgs false
set_option linter.unusedVariables false
theorem coverBoundClosed : joinedFacts Tryz.checked.prog 5 Tryz.f5 Rows.coverBoundSpec Rows.coverBoundRow = true := by
  unfold joinedFacts
  rw [coverBoundU, coverBoundR, coverBoundV, coverBoundI]
  kernel_rfl
end Go.Proofs.YthnafdbebniapaaGreatDoor
