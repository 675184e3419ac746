/- Walks. -/
import Derived.Test.YtgefmjghdijbfaaGreatDoorQ27
import Derived.Test.YtgefmjghdijbfaaGreatDoorQ19
import Derived.Test.YtgefmjghdijbfaaGreatDoorQ17
import Derived.Test.YtgefmjghdijbfaaGreatDoorQ16
import Derived.Test.YtgefmjghdijbfaaGreatDoorQ15
import Derived.Test.YtgefmjghdijbfaaGreatDoorQ11
import Derived.Test.YtgefmjghdijbfaaGreatDoorQ09
import Derived.Test.YtgefmjghdijbfaaGreatDoorQ06
import Derived.Test.YtgefmjghdijbfaaGreatDoorQ05
import Derived.Test.YtgefmjghdijbfaaGreatDoorKEvalNames01
import Derived.Test.YtgefmjghdijbfaaGreatDoorKEvalNamesTy
import Derived.Test.YtgefmjghdijbfaaGreatDoorQ10
import Derived.Test.YtgefmjghdijbfaaGreatDoorQShelf
import Derived.Test.YtgefmjghdijbfaaGreatDoorKEvalNames09
import Derived.Test.YtgefmjghdijbfaaGreatDoorQ26
import Derived.Test.YtgefmjghdijbfaaGreatDoorKEvalNames16
namespace Go.Proofs.YtgefmjghdijbfaaGreatDoor
open Go Go.Wk Go.Un Go.De Go.ChangeShapes Go.WideShapes Go.ChangeAt Go.RowKit
set_option linter.unusedSimpArgs false
set_option linter.unusedVariables false
theorem evalNamesU : (Rows.evalNamesRow.unfollowed == Tryz.checked.prog.unfollowed 4) = true := by kernel_rfl
theorem evalNamesR : (Rows.evalNamesRow.recurses == Tryz.checked.prog.recurses 4) = true := by kernel_rfl
theorem evalNamesV : (Rows.evalNamesRow.named == Tryz.checked.prog.varsNamed 4) = true := by kernel_rfl
theorem evalNamesI : (Rows.evalNamesRow.inPlace == Tryz.checked.prog.inPlace 4) = true := by kernel_rfl
end Go.Proofs.YtgefmjghdijbfaaGreatDoor
