/- Walks. -/
import Derived.Test.YthnafdbebniapaaGreatDoorCoverMatchesUptoBCard
namespace Go.Proofs.YthnafdbebniapaaGreatDoor
open Go Go.Wk Go.Un Go.De Go.ChangeShapes Go.WideShapes Go.ChangeAt Go.RowKit
set_option linter.unusedSimpArgs false
set_option linter.unusedVariables false
theorem coverMatchesClosed : joinedFacts Tryz.checked.prog 3 Tryz.f3 (Rows.OpenSpec.upto Rows.coverMatchesSpec).bare Rows.coverMatchesUptoRow = true := by
 unfold joinedFacts
 rw [coverMatchesU, coverMatchesR, coverMatchesV, coverMatchesI]
 kernel_rfl
end Go.Proofs.YthnafdbebniapaaGreatDoor
