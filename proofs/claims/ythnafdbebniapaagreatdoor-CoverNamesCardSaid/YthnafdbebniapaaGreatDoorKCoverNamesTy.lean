/- Walks. -/
import Derived.Test.YthnafdbebniapaaGreatDoorProg
import Derived.Test.YthnafdbebniapaaGreatDoorQ07
import Derived.Test.YthnafdbebniapaaGreatDoorQ06
import Derived.Test.YthnafdbebniapaaGreatDoorQ05
import Derived.Test.YthnafdbebniapaaGreatDoorQ04
import Derived.Test.YthnafdbebniapaaGreatDoorQ03
import Derived.Test.YthnafdbebniapaaGreatDoorQ02
import Derived.Test.YthnafdbebniapaaGreatDoorQ01
import Derived.KernelRfl
import Derived.Test.YthnafdbebniapaaGreatDoorQTy
namespace Go.Proofs.YthnafdbebniapaaGreatDoor
open Go Go.Wk
set_option linter.unusedSimpArgs false
set_option linter.unusedVariables false
instance fun11 : HasFn Tryz.prog 11 := hasF Tryz.func11
instance fun23 : HasFn Tryz.prog 23 := hasF Tryz.func23
instance fun24 : HasFn Tryz.prog 24 := hasF Tryz.func24
instance fun25 : HasFn Tryz.prog 25 := hasF Tryz.func25
instance fun29 : HasFn Tryz.prog 29 := hasF Tryz.func29
instance fun30 : HasFn Tryz.prog 30 := hasF Tryz.func30
end Go.Proofs.YthnafdbebniapaaGreatDoor
