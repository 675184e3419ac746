/- Walks. -/
import Derived.Test.YthnafdbebniapaaGreatDoorProg
import Derived.Test.YthnafdbebniapaaGreatDoorQ07
import Derived.Test.YthnafdbebniapaaGreatDoorKCoverFewer01
import Derived.KernelRfl
import Derived.Test.YthnafdbebniapaaGreatDoorQTy
namespace Go.Proofs.YthnafdbebniapaaGreatDoor
open Go Go.Wk
set_option linter.unusedSimpArgs false
set_option linter.unusedVariables false
instance fun9 : HasFn Tryz.prog 9 := ⟨Tryz.f9, _, Tryz.func9, by kernel_rfl, rfl⟩
instance fun11 : HasFn Tryz.prog 11 := ⟨Tryz.f11, _, Tryz.func11, by kernel_rfl, rfl⟩
instance fun17 : HasFn Tryz.prog 17 := ⟨Tryz.f17, _, Tryz.func17, by kernel_rfl, rfl⟩
instance fun18 : HasFn Tryz.prog 18 := ⟨Tryz.f18, _, Tryz.func18, by kernel_rfl, rfl⟩
instance fun29 : HasFn Tryz.prog 29 := ⟨Tryz.f29, _, Tryz.func29, by kernel_rfl, rfl⟩
instance fun31 : HasFn Tryz.prog 31 := ⟨Tryz.f31, _, Tryz.func31, by kernel_rfl, rfl⟩
end Go.Proofs.YthnafdbebniapaaGreatDoor
