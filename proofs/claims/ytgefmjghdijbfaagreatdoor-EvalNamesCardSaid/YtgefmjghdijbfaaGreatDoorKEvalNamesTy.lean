/- Walks. -/
import Derived.Test.YtgefmjghdijbfaaGreatDoorProg
import Derived.Test.YtgefmjghdijbfaaGreatDoorQ08
import Derived.Test.YtgefmjghdijbfaaGreatDoorKEvalNames01
import Derived.KernelRfl
import Derived.Test.YtgefmjghdijbfaaGreatDoorQTy
namespace Go.Proofs.YtgefmjghdijbfaaGreatDoor
open Go Go.Wk
set_option linter.unusedSimpArgs false
set_option linter.unusedVariables false
instance {P : Program} {t : TypeId} {e} [h : Und P t (.pointer e)] : Conc P t := ⟨_, h.h, rfl⟩
instance {P : Program} {t : TypeId} {fs} [h : Flds P t fs] : Conc P t := by obtain ⟨_, h1, _⟩ := h.h; exact ⟨_, h1, rfl⟩
instance inf22 : Inf Tryz.prog 22 (.slice none 0 0) 1 24 := ⟨infH (by kernel_rfl)⟩
instance und23 : Und Tryz.prog 23 (.slice 97) := ⟨Tryz.underlying23⟩
instance inf23 : Inf Tryz.prog 23 (.slice none 0 0) 1 24 := ⟨infH (by kernel_rfl)⟩
instance und24 : Und Tryz.prog 24 (.slice 111) := ⟨Tryz.underlying24⟩
instance inf24 : Inf Tryz.prog 24 (.slice none 0 0) 1 24 := ⟨infH (by kernel_rfl)⟩
instance und25 : Und Tryz.prog 25 (.slice 129) := ⟨Tryz.underlying25⟩
instance inf25 : Inf Tryz.prog 25 (.slice none 0 0) 1 24 := ⟨infH (by kernel_rfl)⟩
instance und26 : Und Tryz.prog 26 (.slice 132) := ⟨Tryz.underlying26⟩
instance inf26 : Inf Tryz.prog 26 (.slice none 0 0) 1 24 := ⟨infH (by kernel_rfl)⟩
instance flds28 : Flds Tryz.prog 28 [(0, 9), (1, 22), (2, 23), (3, 24), (4, 25), (5, 26)] := ⟨_, Tryz.underlying28, rfl⟩
instance inf28 : Inf Tryz.prog 28 (.agg #[(.string ⟨#[]⟩), (.slice none 0 0), (.slice none 0 0), (.slice none 0 0), (.slice none 0 0), (.slice none 0 0)]) 6 136 := ⟨infH (by kernel_rfl)⟩
instance flds30 : Flds Tryz.prog 30 [(0, 3), (1, 3)] := ⟨_, Tryz.underlying30, rfl⟩
instance und44 : Und Tryz.prog 44 (.int .i64) := ⟨Tryz.underlying44⟩
instance inf44 : Inf Tryz.prog 44 (.int .i64 0) 1 8 := ⟨infH (by kernel_rfl)⟩
instance flds58 : Flds Tryz.prog 58 [(0, 36), (9, 33), (13, 44)] := ⟨_, Tryz.underlying58, rfl⟩
instance inf58 : Inf Tryz.prog 58 (.agg #[(.int .u8 0), (.int .i64 0), (.int .i64 0), (.string ⟨#[]⟩), (.int .u8 0), (.int .i64 0), (.string ⟨#[]⟩), (.slice none 0 0), (.slice none 0 0), (.int .u8 0), (.int .i64 0), (.string ⟨#[]⟩), (.slice none 0 0), (.int .i64 0)]) 14 184 := ⟨infH (by kernel_rfl)⟩
instance und61 : Und Tryz.prog 61 (.slice 58) := ⟨Tryz.underlying61⟩
instance und86 : Und Tryz.prog 86 (.slice 88) := ⟨Tryz.underlying86⟩
instance inf86 : Inf Tryz.prog 86 (.slice none 0 0) 1 24 := ⟨infH (by kernel_rfl)⟩
instance flds88 : Flds Tryz.prog 88 [(0, 9), (1, 86)] := ⟨_, Tryz.underlying88, rfl⟩
instance inf88 : Inf Tryz.prog 88 (.agg #[(.string ⟨#[]⟩), (.slice none 0 0)]) 2 40 := ⟨infH (by kernel_rfl)⟩
instance flds93 : Flds Tryz.prog 93 [(0, 9), (1, 91)] := ⟨_, Tryz.underlying93, rfl⟩
instance inf93 : Inf Tryz.prog 93 (.agg #[(.string ⟨#[]⟩), (.slice none 0 0)]) 2 40 := ⟨infH (by kernel_rfl)⟩
instance und94 : Und Tryz.prog 94 (.slice 93) := ⟨Tryz.underlying94⟩
instance inf94 : Inf Tryz.prog 94 (.slice none 0 0) 1 24 := ⟨infH (by kernel_rfl)⟩
instance flds97 : Flds Tryz.prog 97 [(0, 30), (2, 4), (3, 9), (4, 95), (5, 94)] := ⟨_, Tryz.underlying97, rfl⟩
instance inf97 : Inf Tryz.prog 97 (.agg #[(.int .i64 0), (.int .i64 0), (.bool false), (.string ⟨#[]⟩), (.slice none 0 0), (.slice none 0 0)]) 6 88 := ⟨infH (by kernel_rfl)⟩
instance und103 : Und Tryz.prog 103 (.map 9 97) := ⟨Tryz.underlying103⟩
instance inf103 : Inf Tryz.prog 103 (.map none) 1 8 := ⟨infH (by kernel_rfl)⟩
instance und104 : Und Tryz.prog 104 (.map 9 199) := ⟨Tryz.underlying104⟩
instance inf104 : Inf Tryz.prog 104 (.map none) 1 8 := ⟨infH (by kernel_rfl)⟩
instance und105 : Und Tryz.prog 105 (.map 9 111) := ⟨Tryz.underlying105⟩
instance inf105 : Inf Tryz.prog 105 (.map none) 1 8 := ⟨infH (by kernel_rfl)⟩
instance flds107 : Flds Tryz.prog 107 [(0, 103), (1, 104), (2, 105)] := ⟨_, Tryz.underlying107, rfl⟩
instance inf107 : Inf Tryz.prog 107 (.agg #[(.map none), (.map none), (.map none)]) 3 24 := ⟨infH (by kernel_rfl)⟩
instance flds111 : Flds Tryz.prog 111 [(0, 30), (2, 4), (3, 4), (4, 9), (5, 91)] := ⟨_, Tryz.underlying111, rfl⟩
instance inf111 : Inf Tryz.prog 111 (.agg #[(.int .i64 0), (.int .i64 0), (.bool false), (.bool false), (.string ⟨#[]⟩), (.slice none 0 0)]) 6 64 := ⟨infH (by kernel_rfl)⟩
instance flds116 : Flds Tryz.prog 116 [(0, 30), (2, 44)] := ⟨_, Tryz.underlying116, rfl⟩
instance inf116 : Inf Tryz.prog 116 (.agg #[(.int .i64 0), (.int .i64 0), (.int .i64 0)]) 3 24 := ⟨infH (by kernel_rfl)⟩
instance und121 : Und Tryz.prog 121 (.pointer 116) := ⟨Tryz.underlying121⟩
instance und127 : Und Tryz.prog 127 (.slice 175) := ⟨Tryz.underlying127⟩
instance inf127 : Inf Tryz.prog 127 (.slice none 0 0) 1 24 := ⟨infH (by kernel_rfl)⟩
instance flds129 : Flds Tryz.prog 129 [(0, 30), (2, 9), (3, 34), (4, 95), (5, 127)] := ⟨_, Tryz.underlying129, rfl⟩
instance inf129 : Inf Tryz.prog 129 (.agg #[(.int .i64 0), (.int .i64 0), (.string ⟨#[]⟩), (.slice none 0 0), (.slice none 0 0), (.slice none 0 0)]) 6 104 := ⟨infH (by kernel_rfl)⟩
instance flds132 : Flds Tryz.prog 132 [(0, 30), (2, 9), (3, 127)] := ⟨_, Tryz.underlying132, rfl⟩
instance inf132 : Inf Tryz.prog 132 (.agg #[(.int .i64 0), (.int .i64 0), (.string ⟨#[]⟩), (.slice none 0 0)]) 4 56 := ⟨infH (by kernel_rfl)⟩
instance und148 : Und Tryz.prog 148 (.func #[9] #[4] false) := ⟨Tryz.underlying148⟩
instance inf148 : Inf Tryz.prog 148 .nilFunc 1 8 := ⟨infH (by kernel_rfl)⟩
instance flds175 : Flds Tryz.prog 175 [(0, 5), (1, 30), (3, 9), (4, 34)] := ⟨_, Tryz.underlying175, rfl⟩
instance inf175 : Inf Tryz.prog 175 (.agg #[(.int .u8 0), (.int .i64 0), (.int .i64 0), (.string ⟨#[]⟩), (.slice none 0 0)]) 5 64 := ⟨infH (by kernel_rfl)⟩
instance und225 : Und Tryz.prog 225 (.func #[88] #[4] false) := ⟨Tryz.underlying225⟩
instance inf225 : Inf Tryz.prog 225 .nilFunc 1 8 := ⟨infH (by kernel_rfl)⟩
instance und256 : Und Tryz.prog 256 (.map 9 3) := ⟨Tryz.underlying256⟩
instance inf256 : Inf Tryz.prog 256 (.map none) 1 8 := ⟨infH (by kernel_rfl)⟩
instance plc28 : Plc Tryz.prog 28 [(0, 1), (1, 1), (2, 1), (3, 1), (4, 1), (5, 1)] := ⟨_, Tryz.underlying28, ⟨rfl, szH inf9, ⟨rfl, szH inf22, ⟨rfl, szH inf23, ⟨rfl, szH inf24, ⟨rfl, szH inf25, ⟨rfl, szH inf26, trivial⟩⟩⟩⟩⟩⟩⟩
instance plc30 : Plc Tryz.prog 30 [(0, 1), (1, 1)] := ⟨_, Tryz.underlying30, ⟨rfl, szH inf3, ⟨rfl, szH inf3, trivial⟩⟩⟩
instance plc58 : Plc Tryz.prog 58 [(0, 9), (9, 4), (13, 1)] := ⟨_, Tryz.underlying58, ⟨rfl, szH inf36, ⟨rfl, szH inf33, ⟨rfl, szH inf44, trivial⟩⟩⟩⟩
instance plc79 : Plc Tryz.prog 79 [(0, 1), (1, 4)] := ⟨_, Tryz.underlying79, ⟨rfl, szH inf9, ⟨rfl, szH inf33, trivial⟩⟩⟩
instance plc88 : Plc Tryz.prog 88 [(0, 1), (1, 1)] := ⟨_, Tryz.underlying88, ⟨rfl, szH inf9, ⟨rfl, szH inf86, trivial⟩⟩⟩
instance plc90 : Plc Tryz.prog 90 [(0, 1), (1, 2)] := ⟨_, Tryz.underlying90, ⟨rfl, szH inf9, ⟨rfl, szH inf88, trivial⟩⟩⟩
instance plc93 : Plc Tryz.prog 93 [(0, 1), (1, 1)] := ⟨_, Tryz.underlying93, ⟨rfl, szH inf9, ⟨rfl, szH inf91, trivial⟩⟩⟩
instance plc97 : Plc Tryz.prog 97 [(0, 2), (2, 1), (3, 1), (4, 1), (5, 1)] := ⟨_, Tryz.underlying97, ⟨rfl, szH inf30, ⟨rfl, szH inf4, ⟨rfl, szH inf9, ⟨rfl, szH inf95, ⟨rfl, szH inf94, trivial⟩⟩⟩⟩⟩⟩
instance plc107 : Plc Tryz.prog 107 [(0, 1), (1, 1), (2, 1)] := ⟨_, Tryz.underlying107, ⟨rfl, szH inf103, ⟨rfl, szH inf104, ⟨rfl, szH inf105, trivial⟩⟩⟩⟩
instance plc116 : Plc Tryz.prog 116 [(0, 2), (2, 1)] := ⟨_, Tryz.underlying116, ⟨rfl, szH inf30, ⟨rfl, szH inf44, trivial⟩⟩⟩
instance fun5 : HasFn Tryz.prog 5 := hasF Tryz.func5
instance fun16 : HasFn Tryz.prog 16 := hasF Tryz.func16
instance fun18 : HasFn Tryz.prog 18 := hasF Tryz.func18
instance fun21 : HasFn Tryz.prog 21 := hasF Tryz.func21
instance fun22 : HasFn Tryz.prog 22 := hasF Tryz.func22
instance fun23 : HasFn Tryz.prog 23 := hasF Tryz.func23
instance fun26 : HasFn Tryz.prog 26 := hasF Tryz.func26
instance fun41 : HasFn Tryz.prog 41 := hasF Tryz.func41
instance fun42 : HasFn Tryz.prog 42 := hasF Tryz.func42
instance fun43 : HasFn Tryz.prog 43 := hasF Tryz.func43
instance fun44 : HasFn Tryz.prog 44 := hasF Tryz.func44
instance fun45 : HasFn Tryz.prog 45 := hasF Tryz.func45
instance fun46 : HasFn Tryz.prog 46 := hasF Tryz.func46
instance fun47 : HasFn Tryz.prog 47 := hasF Tryz.func47
instance fun48 : HasFn Tryz.prog 48 := hasF Tryz.func48
instance fun49 : HasFn Tryz.prog 49 := hasF Tryz.func49
instance fun50 : HasFn Tryz.prog 50 := hasF Tryz.func50
instance fun51 : HasFn Tryz.prog 51 := hasF Tryz.func51
instance fun90 : HasFn Tryz.prog 90 := hasF Tryz.func90
instance fun95 : HasFn Tryz.prog 95 := hasF Tryz.func95
instance fun96 : HasFn Tryz.prog 96 := hasF Tryz.func96
instance fun97 : HasFn Tryz.prog 97 := hasF Tryz.func97
instance fun98 : HasFn Tryz.prog 98 := hasF Tryz.func98
instance fun136 : HasFn Tryz.prog 136 := hasF Tryz.func136
instance fun137 : HasFn Tryz.prog 137 := hasF Tryz.func137
instance fun138 : HasFn Tryz.prog 138 := hasF Tryz.func138
instance fun139 : HasFn Tryz.prog 139 := hasF Tryz.func139
instance fun140 : HasFn Tryz.prog 140 := hasF Tryz.func140
instance fun141 : HasFn Tryz.prog 141 := hasF Tryz.func141
instance fun142 : HasFn Tryz.prog 142 := hasF Tryz.func142
instance fun143 : HasFn Tryz.prog 143 := hasF Tryz.func143
instance fun171 : HasFn Tryz.prog 171 := hasF Tryz.func171
instance fun172 : HasFn Tryz.prog 172 := hasF Tryz.func172
instance fun173 : HasFn Tryz.prog 173 := hasF Tryz.func173
instance fun174 : HasFn Tryz.prog 174 := hasF Tryz.func174
instance fun175 : HasFn Tryz.prog 175 := hasF Tryz.func175
instance fun176 : HasFn Tryz.prog 176 := hasF Tryz.func176
instance fun177 : HasFn Tryz.prog 177 := hasF Tryz.func177
instance fun178 : HasFn Tryz.prog 178 := hasF Tryz.func178
instance fun179 : HasFn Tryz.prog 179 := hasF Tryz.func179
instance fun206 : HasFn Tryz.prog 206 := hasF Tryz.func206
instance fun207 : HasFn Tryz.prog 207 := hasF Tryz.func207
instance fun208 : HasFn Tryz.prog 208 := hasF Tryz.func208
instance fun209 : HasFn Tryz.prog 209 := hasF Tryz.func209
instance fun210 : HasFn Tryz.prog 210 := hasF Tryz.func210
instance fun211 : HasFn Tryz.prog 211 := hasF Tryz.func211
instance fun212 : HasFn Tryz.prog 212 := hasF Tryz.func212
instance fun213 : HasFn Tryz.prog 213 := hasF Tryz.func213
instance fun214 : HasFn Tryz.prog 214 := hasF Tryz.func214
instance fun215 : HasFn Tryz.prog 215 := hasF Tryz.func215
instance fun240 : HasFn Tryz.prog 240 := hasF Tryz.func240
end Go.Proofs.YtgefmjghdijbfaaGreatDoor
