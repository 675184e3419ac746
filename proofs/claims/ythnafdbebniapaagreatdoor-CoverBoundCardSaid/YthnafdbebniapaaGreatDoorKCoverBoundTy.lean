/- Walks. -/
import Derived.Test.YthnafdbebniapaaGreatDoorProg
import Derived.Test.YthnafdbebniapaaGreatDoorQ07
import Derived.Test.YthnafdbebniapaaGreatDoorQ06
import Derived.Test.YthnafdbebniapaaGreatDoorQ05
import Derived.Test.YthnafdbebniapaaGreatDoorQ04
import Derived.Test.YthnafdbebniapaaGreatDoorQ03
import Derived.Test.YthnafdbebniapaaGreatDoorQ02
import Derived.Test.YthnafdbebniapaaGreatDoorKCoverBound01
import Derived.KernelRfl
import Derived.Test.YthnafdbebniapaaGreatDoorQTy
namespace Go.Proofs.YthnafdbebniapaaGreatDoor
open Go Go.Wk
set_option linter.unusedSimpArgs false
set_option linter.unusedVariables false
instance und30 : Und Tryz.prog 30 (.slice 34) := ⟨Tryz.underlying30⟩
instance flds34 : Flds Tryz.prog 34 [(0, 9), (1, 26)] := ⟨_, Tryz.underlying34, rfl⟩
instance inf34 : Inf Tryz.prog 34 (.agg #[(.string ⟨#[]⟩), (.int .u8 0), (.int .i64 0), (.string ⟨#[]⟩), (.slice none 0 0)]) 5 72 := ⟨infH (by kernel_rfl)⟩
instance plc34 : Plc Tryz.prog 34 [(0, 1), (1, 4)] := ⟨_, Tryz.underlying34, ⟨rfl, szH inf9, ⟨rfl, szH inf26, trivial⟩⟩⟩
instance fun9 : HasFn Tryz.prog 9 := ⟨Tryz.f9, _, Tryz.func9, by kernel_rfl, rfl⟩
instance fun10 : HasFn Tryz.prog 10 := ⟨Tryz.f10, _, Tryz.func10, by kernel_rfl, rfl⟩
instance fun11 : HasFn Tryz.prog 11 := ⟨Tryz.f11, _, Tryz.func11, by kernel_rfl, rfl⟩
instance fun12 : HasFn Tryz.prog 12 := ⟨Tryz.f12, _, Tryz.func12, by kernel_rfl, rfl⟩
instance fun15 : HasFn Tryz.prog 15 := ⟨Tryz.f15, _, Tryz.func15, by kernel_rfl, rfl⟩
instance fun16 : HasFn Tryz.prog 16 := ⟨Tryz.f16, _, Tryz.func16, by kernel_rfl, rfl⟩
instance fun18 : HasFn Tryz.prog 18 := ⟨Tryz.f18, _, Tryz.func18, by kernel_rfl, rfl⟩
instance fun22 : HasFn Tryz.prog 22 := ⟨Tryz.f22, _, Tryz.func22, by kernel_rfl, rfl⟩
instance fun33 : HasFn Tryz.prog 33 := ⟨Tryz.f33, _, Tryz.func33, by kernel_rfl, rfl⟩
end Go.Proofs.YthnafdbebniapaaGreatDoor
