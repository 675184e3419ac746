/- Walks. -/
import Derived.Test.YtbhipiepfclneaaGreatDoorGroupHalvesBCard
namespace Go.Proofs.YtbhipiepfclneaaGreatDoor
open Go Go.Wk Go.Un Go.De Go.ChangeShapes Go.WideShapes Go.ChangeAt Go.RowKit
set_option linter.unusedSimpArgs false
set_option linter.unusedVariables false
theorem groupHalvesClosed : joinedFacts Tryz.checked.prog 4 Tryz.f4 Rows.groupHalvesSpec Rows.groupHalvesRow = true := by
 unfold joinedFacts
 rw [groupHalvesU, groupHalvesR, groupHalvesV, groupHalvesI]
 kernel_rfl
end Go.Proofs.YtbhipiepfclneaaGreatDoor
