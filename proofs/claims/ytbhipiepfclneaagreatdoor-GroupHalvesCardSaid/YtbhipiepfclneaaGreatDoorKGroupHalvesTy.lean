/- Walks. -/
import Derived.Test.YtbhipiepfclneaaGreatDoorProg
import Derived.Test.YtbhipiepfclneaaGreatDoorQ08
import Derived.Test.YtbhipiepfclneaaGreatDoorKGroupHalves01
import Derived.KernelRfl
import Derived.Test.YtbhipiepfclneaaGreatDoorQTy
namespace Go.Proofs.YtbhipiepfclneaaGreatDoor
open Go Go.Wk
set_option linter.unusedSimpArgs false
set_option linter.unusedVariables false
instance fun8 : HasFn Tryz.prog 8 := hasF Tryz.func8
end Go.Proofs.YtbhipiepfclneaaGreatDoor
