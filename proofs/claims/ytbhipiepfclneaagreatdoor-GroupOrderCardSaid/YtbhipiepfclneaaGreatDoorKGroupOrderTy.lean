/- Walks. -/
import Derived.Test.YtbhipiepfclneaaGreatDoorProg
import Derived.Test.YtbhipiepfclneaaGreatDoorQ08
import Derived.Test.YtbhipiepfclneaaGreatDoorKGroupOrder01
import Derived.KernelRfl
import Derived.Test.YtbhipiepfclneaaGreatDoorQTy
namespace Go.Proofs.YtbhipiepfclneaaGreatDoor
open Go Go.Wk
set_option linter.unusedSimpArgs false
set_option linter.unusedVariables false
instance und23 : Und Tryz.prog 23 (.slice 34) := ⟨Tryz.underlying23⟩
instance flds34 : Flds Tryz.prog 34 [(0, 5), (1, 32), (2, 32), (3, 32)] := ⟨_, Tryz.underlying34, rfl⟩
instance inf34 : Inf Tryz.prog 34 (.agg #[(.int .u8 0), (.slice none 0 0), (.slice none 0 0), (.slice none 0 0)]) 4 80 := ⟨infH (by kernel_rfl)⟩
instance und35 : Und Tryz.prog 35 (.int .u64) := ⟨Tryz.underlying35⟩
instance fun7 : HasFn Tryz.prog 7 := hasF Tryz.func7
instance fun8 : HasFn Tryz.prog 8 := hasF Tryz.func8
instance fun12 : HasFn Tryz.prog 12 := hasF Tryz.func12
instance fun13 : HasFn Tryz.prog 13 := hasF Tryz.func13
instance fun29 : HasFn Tryz.prog 29 := hasF Tryz.func29
instance fun47 : HasFn Tryz.prog 47 := hasF Tryz.func47
instance fun78 : HasFn Tryz.prog 78 := hasF Tryz.func78
instance fun81 : HasFn Tryz.prog 81 := hasF Tryz.func81
instance fun157 : HasFn Tryz.prog 157 := hasF Tryz.func157
instance fun168 : HasFn Tryz.prog 168 := hasF Tryz.func168
instance fun183 : HasFn Tryz.prog 183 := hasF Tryz.func183
end Go.Proofs.YtbhipiepfclneaaGreatDoor
