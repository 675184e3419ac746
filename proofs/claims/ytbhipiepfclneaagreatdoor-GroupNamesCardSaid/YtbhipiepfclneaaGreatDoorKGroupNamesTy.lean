/- Walks. -/
import Derived.Test.YtbhipiepfclneaaGreatDoorProg
import Derived.Test.YtbhipiepfclneaaGreatDoorQ08
import Derived.Test.YtbhipiepfclneaaGreatDoorQ07
import Derived.Test.YtbhipiepfclneaaGreatDoorQ06
import Derived.Test.YtbhipiepfclneaaGreatDoorQ05
import Derived.Test.YtbhipiepfclneaaGreatDoorQ04
import Derived.Test.YtbhipiepfclneaaGreatDoorQ03
import Derived.Test.YtbhipiepfclneaaGreatDoorQ02
import Derived.Test.YtbhipiepfclneaaGreatDoorQ01
import Derived.KernelRfl
import Derived.Test.YtbhipiepfclneaaGreatDoorQTy
namespace Go.Proofs.YtbhipiepfclneaaGreatDoor
open Go Go.Wk
set_option linter.unusedSimpArgs false
set_option linter.unusedVariables false
instance fun8 : HasFn Tryz.prog 8 := hasF Tryz.func8
instance fun27 : HasFn Tryz.prog 27 := hasF Tryz.func27
instance fun28 : HasFn Tryz.prog 28 := hasF Tryz.func28
end Go.Proofs.YtbhipiepfclneaaGreatDoor
