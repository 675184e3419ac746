/- Walks. -/
import Derived.Test.YthnafdbebniapaaGreatDoorCoverFewerBCard
namespace Go.Proofs.YthnafdbebniapaaGreatDoor
open Go Go.Wk Go.Un Go.De Go.ChangeShapes Go.WideShapes Go.ChangeAt Go.RowKit
set_option linter.unusedSimpArgs false
set_option linter.unusedVariables false
theorem coverFewerClosed : joinedFacts Tryz.checked.prog 7 Tryz.f7 Rows.coverFewerSpec Rows.coverFewerRow = true := by
  unfold joinedFacts
  rw [coverFewerU, coverFewerR, coverFewerV, coverFewerI]
  kernel_rfl
end Go.Proofs.YthnafdbebniapaaGreatDoor
