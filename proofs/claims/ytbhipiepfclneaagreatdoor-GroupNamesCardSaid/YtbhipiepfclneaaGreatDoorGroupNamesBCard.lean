/- Walks. -/
import Derived.Test.YtbhipiepfclneaaGreatDoorQ18
import Derived.Test.YtbhipiepfclneaaGreatDoorQ17
import Derived.Test.YtbhipiepfclneaaGreatDoorQ16
import Derived.Test.YtbhipiepfclneaaGreatDoorQ11
import Derived.Test.YtbhipiepfclneaaGreatDoorQ09
import Derived.Test.YtbhipiepfclneaaGreatDoorQ06
import Derived.Test.YtbhipiepfclneaaGreatDoorQ05
import Derived.Test.YtbhipiepfclneaaGreatDoorQ04
import Derived.Test.YtbhipiepfclneaaGreatDoorQ03
import Derived.Test.YtbhipiepfclneaaGreatDoorQ02
import Derived.Test.YtbhipiepfclneaaGreatDoorQ01
import Derived.Test.YtbhipiepfclneaaGreatDoorKGroupNamesTy
import Derived.Test.YtbhipiepfclneaaGreatDoorQ10
import Derived.Test.YtbhipiepfclneaaGreatDoorQ07
import Derived.Test.YtbhipiepfclneaaGreatDoorQShelf
import Derived.Test.YtbhipiepfclneaaGreatDoorQ14
import Derived.Test.YtbhipiepfclneaaGreatDoorQ12
import Derived.Test.YtbhipiepfclneaaGreatDoorQ15
import Derived.Test.YtbhipiepfclneaaGreatDoorQ13
import Derived.Test.YtbhipiepfclneaaGreatDoorKGroupNames01
namespace Go.Proofs.YtbhipiepfclneaaGreatDoor
open Go Go.Wk Go.Un Go.De Go.ChangeShapes Go.WideShapes Go.ChangeAt Go.RowKit
set_option linter.unusedSimpArgs false
set_option linter.unusedVariables false
theorem groupNamesU : (Rows.groupNamesRow.unfollowed == Tryz.checked.prog.unfollowed 6) = true := by kernel_rfl
theorem groupNamesR : (Rows.groupNamesRow.recurses == Tryz.checked.prog.recurses 6) = true := by kernel_rfl
theorem groupNamesV : (Rows.groupNamesRow.named == Tryz.checked.prog.varsNamed 6) = true := by kernel_rfl
theorem groupNamesI : (Rows.groupNamesRow.inPlace == Tryz.checked.prog.inPlace 6) = true := by kernel_rfl
end Go.Proofs.YtbhipiepfclneaaGreatDoor
