/- Walks. -/
import Derived.Test.YthnafdbebniapaaGreatDoorProg
import Derived.Test.YthnafdbebniapaaGreatDoorQ07
import Derived.Test.YthnafdbebniapaaGreatDoorQ06
import Derived.Test.YthnafdbebniapaaGreatDoorQ05
import Derived.Test.YthnafdbebniapaaGreatDoorQ04
import Derived.Test.YthnafdbebniapaaGreatDoorQ03
import Derived.Test.YthnafdbebniapaaGreatDoorQ02
import Derived.Test.YthnafdbebniapaaGreatDoorKCoverMatchesUpto01
import Derived.KernelRfl
import Derived.Test.YthnafdbebniapaaGreatDoorQTy
namespace Go.Proofs.YthnafdbebniapaaGreatDoor
open Go Go.Wk
set_option linter.unusedSimpArgs false
set_option linter.unusedVariables false
instance und30 : Und Tryz.prog 30 (.slice 34) := ⟨Tryz.underlying30⟩
instance flds34 : Flds Tryz.prog 34 [(0, 9), (1, 26)] := ⟨_, Tryz.underlying34, rfl⟩
instance inf34 : Inf Tryz.prog 34 (.agg #[(.string ⟨#[]⟩), (.int .u8 0), (.int .i64 0), (.string ⟨#[]⟩), (.slice none 0 0)]) 5 72 := ⟨infH (by kernel_rfl)⟩
instance plc34 : Plc Tryz.prog 34 [(0, 1), (1, 4)] := ⟨_, Tryz.underlying34, ⟨rfl, szH inf9, ⟨rfl, szH inf26, trivial⟩⟩⟩
instance fun9 : HasFn Tryz.prog 9 := hasF Tryz.func9
instance fun10 : HasFn Tryz.prog 10 := hasF Tryz.func10
instance fun11 : HasFn Tryz.prog 11 := hasF Tryz.func11
instance fun12 : HasFn Tryz.prog 12 := hasF Tryz.func12
instance fun14 : HasFn Tryz.prog 14 := hasF Tryz.func14
instance fun15 : HasFn Tryz.prog 15 := hasF Tryz.func15
instance fun16 : HasFn Tryz.prog 16 := hasF Tryz.func16
instance fun18 : HasFn Tryz.prog 18 := hasF Tryz.func18
instance fun33 : HasFn Tryz.prog 33 := hasF Tryz.func33
instance fun38 : HasFn Tryz.prog 38 := hasF Tryz.func38
instance fun39 : HasFn Tryz.prog 39 := hasF Tryz.func39
instance fun40 : HasFn Tryz.prog 40 := hasF Tryz.func40
instance fun62 : HasFn Tryz.prog 62 := hasF Tryz.func62
instance fun63 : HasFn Tryz.prog 63 := hasF Tryz.func63
instance fun64 : HasFn Tryz.prog 64 := hasF Tryz.func64
instance fun65 : HasFn Tryz.prog 65 := hasF Tryz.func65
instance fun66 : HasFn Tryz.prog 66 := hasF Tryz.func66
instance fun67 : HasFn Tryz.prog 67 := hasF Tryz.func67
instance fun108 : HasFn Tryz.prog 108 := hasF Tryz.func108
instance fun109 : HasFn Tryz.prog 109 := hasF Tryz.func109
instance fun111 : HasFn Tryz.prog 111 := hasF Tryz.func111
instance fun112 : HasFn Tryz.prog 112 := hasF Tryz.func112
instance fun113 : HasFn Tryz.prog 113 := hasF Tryz.func113
instance fun114 : HasFn Tryz.prog 114 := hasF Tryz.func114
instance fun115 : HasFn Tryz.prog 115 := hasF Tryz.func115
instance fun166 : HasFn Tryz.prog 166 := hasF Tryz.func166
instance fun168 : HasFn Tryz.prog 168 := hasF Tryz.func168
instance fun220 : HasFn Tryz.prog 220 := hasF Tryz.func220
end Go.Proofs.YthnafdbebniapaaGreatDoor
