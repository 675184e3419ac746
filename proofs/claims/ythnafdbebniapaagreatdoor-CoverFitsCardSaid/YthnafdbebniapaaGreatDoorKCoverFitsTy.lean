/- Walks. -/
import Derived.Test.YthnafdbebniapaaGreatDoorProg
import Derived.Test.YthnafdbebniapaaGreatDoorQ07
import Derived.Test.YthnafdbebniapaaGreatDoorQ06
import Derived.Test.YthnafdbebniapaaGreatDoorQ05
import Derived.Test.YthnafdbebniapaaGreatDoorQ04
import Derived.Test.YthnafdbebniapaaGreatDoorQ03
import Derived.Test.YthnafdbebniapaaGreatDoorQ02
import Derived.Test.YthnafdbebniapaaGreatDoorQ01
import Derived.KernelRfl
import Derived.Test.YthnafdbebniapaaGreatDoorQTy
namespace Go.Proofs.YthnafdbebniapaaGreatDoor
open Go Go.Wk
set_option linter.unusedSimpArgs false
set_option linter.unusedVariables false
instance flds151 : Flds Tryz.prog 151 [(0, 9), (1, 66), (2, 3), (3, 90)] := ⟨_, Tryz.underlying151, rfl⟩
instance inf151 : Inf Tryz.prog 151 (.agg #[(.string ⟨#[]⟩), (.slice none 0 0), (.int .i64 0), (.slice none 0 0)]) 4 72 := ⟨infH (by kernel_rfl)⟩
instance plc151 : Plc Tryz.prog 151 [(0, 1), (1, 1), (2, 1), (3, 1)] := ⟨_, Tryz.underlying151, ⟨rfl, szH inf9, ⟨rfl, szH inf66, ⟨rfl, szH inf3, ⟨rfl, szH inf90, trivial⟩⟩⟩⟩⟩
instance fun9 : HasFn Tryz.prog 9 := hasF Tryz.func9
instance fun11 : HasFn Tryz.prog 11 := hasF Tryz.func11
instance fun17 : HasFn Tryz.prog 17 := hasF Tryz.func17
instance fun18 : HasFn Tryz.prog 18 := hasF Tryz.func18
instance fun21 : HasFn Tryz.prog 21 := hasF Tryz.func21
instance fun38 : HasFn Tryz.prog 38 := hasF Tryz.func38
instance fun39 : HasFn Tryz.prog 39 := hasF Tryz.func39
instance fun44 : HasFn Tryz.prog 44 := hasF Tryz.func44
instance fun45 : HasFn Tryz.prog 45 := hasF Tryz.func45
instance fun62 : HasFn Tryz.prog 62 := hasF Tryz.func62
instance fun63 : HasFn Tryz.prog 63 := hasF Tryz.func63
instance fun64 : HasFn Tryz.prog 64 := hasF Tryz.func64
instance fun65 : HasFn Tryz.prog 65 := hasF Tryz.func65
instance fun66 : HasFn Tryz.prog 66 := hasF Tryz.func66
instance fun76 : HasFn Tryz.prog 76 := hasF Tryz.func76
instance fun77 : HasFn Tryz.prog 77 := hasF Tryz.func77
instance fun78 : HasFn Tryz.prog 78 := hasF Tryz.func78
instance fun79 : HasFn Tryz.prog 79 := hasF Tryz.func79
instance fun108 : HasFn Tryz.prog 108 := hasF Tryz.func108
instance fun109 : HasFn Tryz.prog 109 := hasF Tryz.func109
instance fun111 : HasFn Tryz.prog 111 := hasF Tryz.func111
instance fun112 : HasFn Tryz.prog 112 := hasF Tryz.func112
instance fun113 : HasFn Tryz.prog 113 := hasF Tryz.func113
instance fun114 : HasFn Tryz.prog 114 := hasF Tryz.func114
instance fun115 : HasFn Tryz.prog 115 := hasF Tryz.func115
instance fun131 : HasFn Tryz.prog 131 := hasF Tryz.func131
instance fun166 : HasFn Tryz.prog 166 := hasF Tryz.func166
instance fun168 : HasFn Tryz.prog 168 := hasF Tryz.func168
instance fun220 : HasFn Tryz.prog 220 := hasF Tryz.func220
end Go.Proofs.YthnafdbebniapaaGreatDoor
