/- What each type of the program is: instances, off the loaded program. By a program (inst.py). -/
import Derived.Test.YtcjnmehpkcblfaaProg
import Derived.Test.YtcjnmehpkcblfaaWk6
import Derived.KernelRfl
namespace Go.Proofs.Ytcjnmehpkcblfaa
open Go Go.Wk
set_option linter.unusedSimpArgs false
set_option linter.unusedVariables false
theorem und0 : Und Try.prog 0 (.tuple #[]) := ⟨Try.underlying0⟩
attribute [instance] und0
theorem conc0 : Conc Try.prog 0 := ⟨_, Try.underlying0, rfl⟩
attribute [instance] conc0
theorem one0 : One Try.prog 0 := ⟨_, Try.underlying0, rfl⟩
attribute [instance] one0
theorem inf0 : Inf Try.prog 0 (.tuple #[]) 1 0 := ⟨infH (by kernel_rfl)⟩
attribute [instance] inf0
theorem und1 : Und Try.prog 1 (.func #[] #[] false) := ⟨Try.underlying1⟩
attribute [instance] und1
theorem conc1 : Conc Try.prog 1 := ⟨_, Try.underlying1, rfl⟩
attribute [instance] conc1
theorem one1 : One Try.prog 1 := ⟨_, Try.underlying1, rfl⟩
attribute [instance] one1
theorem inf1 : Inf Try.prog 1 .nilFunc 1 8 := ⟨infH (by kernel_rfl)⟩
attribute [instance] inf1
theorem und2 : Und Try.prog 2 (.int .i64) := ⟨Try.underlying2⟩
attribute [instance] und2
theorem conc2 : Conc Try.prog 2 := ⟨_, Try.underlying2, rfl⟩
attribute [instance] conc2
theorem one2 : One Try.prog 2 := ⟨_, Try.underlying2, rfl⟩
attribute [instance] one2
theorem inf2 : Inf Try.prog 2 (.int .i64 0) 1 8 := ⟨infH (by kernel_rfl)⟩
attribute [instance] inf2
theorem und3 : Und Try.prog 3 (.int .i64) := ⟨Try.underlying3⟩
attribute [instance] und3
theorem conc3 : Conc Try.prog 3 := ⟨_, Try.underlying3, rfl⟩
attribute [instance] conc3
theorem one3 : One Try.prog 3 := ⟨_, Try.underlying3, rfl⟩
attribute [instance] one3
theorem inf3 : Inf Try.prog 3 (.int .i64 0) 1 8 := ⟨infH (by kernel_rfl)⟩
attribute [instance] inf3
theorem und4 : Und Try.prog 4 .bool := ⟨Try.underlying4⟩
attribute [instance] und4
theorem conc4 : Conc Try.prog 4 := ⟨_, Try.underlying4, rfl⟩
attribute [instance] conc4
theorem one4 : One Try.prog 4 := ⟨_, Try.underlying4, rfl⟩
attribute [instance] one4
theorem inf4 : Inf Try.prog 4 (.bool false) 1 1 := ⟨infH (by kernel_rfl)⟩
attribute [instance] inf4
theorem und5 : Und Try.prog 5 (.int .u8) := ⟨Try.underlying5⟩
attribute [instance] und5
theorem conc5 : Conc Try.prog 5 := ⟨_, Try.underlying5, rfl⟩
attribute [instance] conc5
theorem one5 : One Try.prog 5 := ⟨_, Try.underlying5, rfl⟩
attribute [instance] one5
theorem inf5 : Inf Try.prog 5 (.int .u8 0) 1 1 := ⟨infH (by kernel_rfl)⟩
attribute [instance] inf5
theorem und6 : Und Try.prog 6 (.int .u8) := ⟨Try.underlying6⟩
attribute [instance] und6
theorem conc6 : Conc Try.prog 6 := ⟨_, Try.underlying6, rfl⟩
attribute [instance] conc6
theorem one6 : One Try.prog 6 := ⟨_, Try.underlying6, rfl⟩
attribute [instance] one6
theorem inf6 : Inf Try.prog 6 (.int .u8 0) 1 1 := ⟨infH (by kernel_rfl)⟩
attribute [instance] inf6
theorem flds7 : Flds Try.prog 7 [(0, 2), (1, 3), (2, 4), (3, 6)] := ⟨_, Try.underlying7, rfl⟩
attribute [instance] flds7
theorem ag7 : Ag Try.prog 7 := ⟨_, Try.underlying7, rfl⟩
attribute [instance] ag7
theorem conc7 : Conc Try.prog 7 := ⟨_, Try.underlying7, rfl⟩
attribute [instance] conc7
theorem inf7 : Inf Try.prog 7 (.agg #[(.int .i64 0), (.int .i64 0), (.bool false), (.int .u8 0)]) 4 24 := ⟨infH (by kernel_rfl)⟩
attribute [instance] inf7
theorem flds8 : Flds Try.prog 8 [(0, 2), (1, 3), (2, 4), (3, 6)] := ⟨_, Try.underlying8, rfl⟩
attribute [instance] flds8
theorem ag8 : Ag Try.prog 8 := ⟨_, Try.underlying8, rfl⟩
attribute [instance] ag8
theorem conc8 : Conc Try.prog 8 := ⟨_, Try.underlying8, rfl⟩
attribute [instance] conc8
theorem inf8 : Inf Try.prog 8 (.agg #[(.int .i64 0), (.int .i64 0), (.bool false), (.int .u8 0)]) 4 24 := ⟨infH (by kernel_rfl)⟩
attribute [instance] inf8
theorem und9 : Und Try.prog 9 .string := ⟨Try.underlying9⟩
attribute [instance] und9
theorem conc9 : Conc Try.prog 9 := ⟨_, Try.underlying9, rfl⟩
attribute [instance] conc9
theorem one9 : One Try.prog 9 := ⟨_, Try.underlying9, rfl⟩
attribute [instance] one9
theorem inf9 : Inf Try.prog 9 (.string ⟨#[]⟩) 1 16 := ⟨infH (by kernel_rfl)⟩
attribute [instance] inf9
theorem und10 : Und Try.prog 10 .string := ⟨Try.underlying10⟩
attribute [instance] und10
theorem conc10 : Conc Try.prog 10 := ⟨_, Try.underlying10, rfl⟩
attribute [instance] conc10
theorem one10 : One Try.prog 10 := ⟨_, Try.underlying10, rfl⟩
attribute [instance] one10
theorem inf10 : Inf Try.prog 10 (.string ⟨#[]⟩) 1 16 := ⟨infH (by kernel_rfl)⟩
attribute [instance] inf10
theorem und11 : Und Try.prog 11 .string := ⟨Try.underlying11⟩
attribute [instance] und11
theorem conc11 : Conc Try.prog 11 := ⟨_, Try.underlying11, rfl⟩
attribute [instance] conc11
theorem one11 : One Try.prog 11 := ⟨_, Try.underlying11, rfl⟩
attribute [instance] one11
theorem inf11 : Inf Try.prog 11 (.string ⟨#[]⟩) 1 16 := ⟨infH (by kernel_rfl)⟩
attribute [instance] inf11
theorem und12 : Und Try.prog 12 (.int .u64) := ⟨Try.underlying12⟩
attribute [instance] und12
theorem conc12 : Conc Try.prog 12 := ⟨_, Try.underlying12, rfl⟩
attribute [instance] conc12
theorem one12 : One Try.prog 12 := ⟨_, Try.underlying12, rfl⟩
attribute [instance] one12
theorem inf12 : Inf Try.prog 12 (.int .u64 0) 1 8 := ⟨infH (by kernel_rfl)⟩
attribute [instance] inf12
theorem flds13 : Flds Try.prog 13 [(0, 9), (1, 12)] := ⟨_, Try.underlying13, rfl⟩
attribute [instance] flds13
theorem ag13 : Ag Try.prog 13 := ⟨_, Try.underlying13, rfl⟩
attribute [instance] ag13
theorem conc13 : Conc Try.prog 13 := ⟨_, Try.underlying13, rfl⟩
attribute [instance] conc13
theorem inf13 : Inf Try.prog 13 (.agg #[(.string ⟨#[]⟩), (.int .u64 0)]) 2 24 := ⟨infH (by kernel_rfl)⟩
attribute [instance] inf13
theorem flds14 : Flds Try.prog 14 [(0, 9), (1, 12)] := ⟨_, Try.underlying14, rfl⟩
attribute [instance] flds14
theorem ag14 : Ag Try.prog 14 := ⟨_, Try.underlying14, rfl⟩
attribute [instance] ag14
theorem conc14 : Conc Try.prog 14 := ⟨_, Try.underlying14, rfl⟩
attribute [instance] conc14
theorem inf14 : Inf Try.prog 14 (.agg #[(.string ⟨#[]⟩), (.int .u64 0)]) 2 24 := ⟨infH (by kernel_rfl)⟩
attribute [instance] inf14
theorem und15 : Und Try.prog 15 (.pointer 89) := ⟨Try.underlying15⟩
attribute [instance] und15
theorem conc15 : Conc Try.prog 15 := ⟨_, Try.underlying15, rfl⟩
attribute [instance] conc15
theorem one15 : One Try.prog 15 := ⟨_, Try.underlying15, rfl⟩
attribute [instance] one15
theorem inf15 : Inf Try.prog 15 (.pointer none) 1 8 := ⟨infH (by kernel_rfl)⟩
attribute [instance] inf15
theorem und16 : Und Try.prog 16 (.pointer 92) := ⟨Try.underlying16⟩
attribute [instance] und16
theorem conc16 : Conc Try.prog 16 := ⟨_, Try.underlying16, rfl⟩
attribute [instance] conc16
theorem one16 : One Try.prog 16 := ⟨_, Try.underlying16, rfl⟩
attribute [instance] one16
theorem inf16 : Inf Try.prog 16 (.pointer none) 1 8 := ⟨infH (by kernel_rfl)⟩
attribute [instance] inf16
theorem und17 : Und Try.prog 17 (.pointer 102) := ⟨Try.underlying17⟩
attribute [instance] und17
theorem conc17 : Conc Try.prog 17 := ⟨_, Try.underlying17, rfl⟩
attribute [instance] conc17
theorem one17 : One Try.prog 17 := ⟨_, Try.underlying17, rfl⟩
attribute [instance] one17
theorem inf17 : Inf Try.prog 17 (.pointer none) 1 8 := ⟨infH (by kernel_rfl)⟩
attribute [instance] inf17
theorem flds18 : Flds Try.prog 18 [(0, 17)] := ⟨_, Try.underlying18, rfl⟩
attribute [instance] flds18
theorem ag18 : Ag Try.prog 18 := ⟨_, Try.underlying18, rfl⟩
attribute [instance] ag18
theorem conc18 : Conc Try.prog 18 := ⟨_, Try.underlying18, rfl⟩
attribute [instance] conc18
theorem inf18 : Inf Try.prog 18 (.agg #[(.pointer none)]) 1 8 := ⟨infH (by kernel_rfl)⟩
attribute [instance] inf18
theorem flds19 : Flds Try.prog 19 [(0, 17)] := ⟨_, Try.underlying19, rfl⟩
attribute [instance] flds19
theorem ag19 : Ag Try.prog 19 := ⟨_, Try.underlying19, rfl⟩
attribute [instance] ag19
theorem conc19 : Conc Try.prog 19 := ⟨_, Try.underlying19, rfl⟩
attribute [instance] conc19
theorem inf19 : Inf Try.prog 19 (.agg #[(.pointer none)]) 1 8 := ⟨infH (by kernel_rfl)⟩
attribute [instance] inf19
theorem ifc20 : Ifc Try.prog 20 := ⟨_, Try.underlying20⟩
attribute [instance] ifc20
theorem one20 : One Try.prog 20 := ⟨_, Try.underlying20, rfl⟩
attribute [instance] one20
theorem inf20 : Inf Try.prog 20 .nilIface 1 16 := ⟨infH (by kernel_rfl)⟩
attribute [instance] inf20
theorem und21 : Und Try.prog 21 (.int .i32) := ⟨Try.underlying21⟩
attribute [instance] und21
theorem conc21 : Conc Try.prog 21 := ⟨_, Try.underlying21, rfl⟩
attribute [instance] conc21
theorem one21 : One Try.prog 21 := ⟨_, Try.underlying21, rfl⟩
attribute [instance] one21
theorem inf21 : Inf Try.prog 21 (.int .i32 0) 1 4 := ⟨infH (by kernel_rfl)⟩
attribute [instance] inf21
theorem und22 : Und Try.prog 22 (.slice 34) := ⟨Try.underlying22⟩
attribute [instance] und22
theorem conc22 : Conc Try.prog 22 := ⟨_, Try.underlying22, rfl⟩
attribute [instance] conc22
theorem one22 : One Try.prog 22 := ⟨_, Try.underlying22, rfl⟩
attribute [instance] one22
theorem inf22 : Inf Try.prog 22 (.slice none 0 0) 1 24 := ⟨infH (by kernel_rfl)⟩
attribute [instance] inf22
theorem und23 : Und Try.prog 23 (.func #[] #[4] false) := ⟨Try.underlying23⟩
attribute [instance] und23
theorem conc23 : Conc Try.prog 23 := ⟨_, Try.underlying23, rfl⟩
attribute [instance] conc23
theorem one23 : One Try.prog 23 := ⟨_, Try.underlying23, rfl⟩
attribute [instance] one23
theorem inf23 : Inf Try.prog 23 .nilFunc 1 8 := ⟨infH (by kernel_rfl)⟩
attribute [instance] inf23
theorem und24 : Und Try.prog 24 (.func #[25, 3] #[4] false) := ⟨Try.underlying24⟩
attribute [instance] und24
theorem conc24 : Conc Try.prog 24 := ⟨_, Try.underlying24, rfl⟩
attribute [instance] conc24
theorem one24 : One Try.prog 24 := ⟨_, Try.underlying24, rfl⟩
attribute [instance] one24
theorem inf24 : Inf Try.prog 24 .nilFunc 1 8 := ⟨infH (by kernel_rfl)⟩
attribute [instance] inf24
theorem und25 : Und Try.prog 25 (.slice 32) := ⟨Try.underlying25⟩
attribute [instance] und25
theorem conc25 : Conc Try.prog 25 := ⟨_, Try.underlying25, rfl⟩
attribute [instance] conc25
theorem one25 : One Try.prog 25 := ⟨_, Try.underlying25, rfl⟩
attribute [instance] one25
theorem inf25 : Inf Try.prog 25 (.slice none 0 0) 1 24 := ⟨infH (by kernel_rfl)⟩
attribute [instance] inf25
theorem und26 : Und Try.prog 26 (.func #[22] #[25] false) := ⟨Try.underlying26⟩
attribute [instance] und26
theorem conc26 : Conc Try.prog 26 := ⟨_, Try.underlying26, rfl⟩
attribute [instance] conc26
theorem one26 : One Try.prog 26 := ⟨_, Try.underlying26, rfl⟩
attribute [instance] one26
theorem inf26 : Inf Try.prog 26 .nilFunc 1 8 := ⟨infH (by kernel_rfl)⟩
attribute [instance] inf26
theorem und27 : Und Try.prog 27 (.pointer 54) := ⟨Try.underlying27⟩
attribute [instance] und27
theorem conc27 : Conc Try.prog 27 := ⟨_, Try.underlying27, rfl⟩
attribute [instance] conc27
theorem one27 : One Try.prog 27 := ⟨_, Try.underlying27, rfl⟩
attribute [instance] one27
theorem inf27 : Inf Try.prog 27 (.pointer none) 1 8 := ⟨infH (by kernel_rfl)⟩
attribute [instance] inf27
theorem und28 : Und Try.prog 28 (.func #[] #[27] false) := ⟨Try.underlying28⟩
attribute [instance] und28
theorem conc28 : Conc Try.prog 28 := ⟨_, Try.underlying28, rfl⟩
attribute [instance] conc28
theorem one28 : One Try.prog 28 := ⟨_, Try.underlying28, rfl⟩
attribute [instance] one28
theorem inf28 : Inf Try.prog 28 .nilFunc 1 8 := ⟨infH (by kernel_rfl)⟩
attribute [instance] inf28
theorem und29 : Und Try.prog 29 (.int .i64) := ⟨Try.underlying29⟩
attribute [instance] und29
theorem conc29 : Conc Try.prog 29 := ⟨_, Try.underlying29, rfl⟩
attribute [instance] conc29
theorem one29 : One Try.prog 29 := ⟨_, Try.underlying29, rfl⟩
attribute [instance] one29
theorem inf29 : Inf Try.prog 29 (.int .i64 0) 1 8 := ⟨infH (by kernel_rfl)⟩
attribute [instance] inf29
theorem und30 : Und Try.prog 30 (.func #[32, 32] #[29] false) := ⟨Try.underlying30⟩
attribute [instance] und30
theorem conc30 : Conc Try.prog 30 := ⟨_, Try.underlying30, rfl⟩
attribute [instance] conc30
theorem one30 : One Try.prog 30 := ⟨_, Try.underlying30, rfl⟩
attribute [instance] one30
theorem inf30 : Inf Try.prog 30 .nilFunc 1 8 := ⟨infH (by kernel_rfl)⟩
attribute [instance] inf30
theorem flds31 : Flds Try.prog 31 [(0, 9), (1, 25)] := ⟨_, Try.underlying31, rfl⟩
attribute [instance] flds31
theorem ag31 : Ag Try.prog 31 := ⟨_, Try.underlying31, rfl⟩
attribute [instance] ag31
theorem conc31 : Conc Try.prog 31 := ⟨_, Try.underlying31, rfl⟩
attribute [instance] conc31
theorem inf31 : Inf Try.prog 31 (.agg #[(.string ⟨#[]⟩), (.slice none 0 0)]) 2 40 := ⟨infH (by kernel_rfl)⟩
attribute [instance] inf31
theorem flds32 : Flds Try.prog 32 [(0, 9), (1, 25)] := ⟨_, Try.underlying32, rfl⟩
attribute [instance] flds32
theorem ag32 : Ag Try.prog 32 := ⟨_, Try.underlying32, rfl⟩
attribute [instance] ag32
theorem conc32 : Conc Try.prog 32 := ⟨_, Try.underlying32, rfl⟩
attribute [instance] conc32
theorem inf32 : Inf Try.prog 32 (.agg #[(.string ⟨#[]⟩), (.slice none 0 0)]) 2 40 := ⟨infH (by kernel_rfl)⟩
attribute [instance] inf32
theorem flds33 : Flds Try.prog 33 [(0, 32), (2, 32), (4, 4)] := ⟨_, Try.underlying33, rfl⟩
attribute [instance] flds33
theorem ag33 : Ag Try.prog 33 := ⟨_, Try.underlying33, rfl⟩
attribute [instance] ag33
theorem conc33 : Conc Try.prog 33 := ⟨_, Try.underlying33, rfl⟩
attribute [instance] conc33
theorem inf33 : Inf Try.prog 33 (.agg #[(.string ⟨#[]⟩), (.slice none 0 0), (.string ⟨#[]⟩), (.slice none 0 0), (.bool false)]) 5 88 := ⟨infH (by kernel_rfl)⟩
attribute [instance] inf33
theorem flds34 : Flds Try.prog 34 [(0, 32), (2, 32), (4, 4)] := ⟨_, Try.underlying34, rfl⟩
attribute [instance] flds34
theorem ag34 : Ag Try.prog 34 := ⟨_, Try.underlying34, rfl⟩
attribute [instance] ag34
theorem conc34 : Conc Try.prog 34 := ⟨_, Try.underlying34, rfl⟩
attribute [instance] conc34
theorem inf34 : Inf Try.prog 34 (.agg #[(.string ⟨#[]⟩), (.slice none 0 0), (.string ⟨#[]⟩), (.slice none 0 0), (.bool false)]) 5 88 := ⟨infH (by kernel_rfl)⟩
attribute [instance] inf34
theorem und35 : Und Try.prog 35 (.tuple #[32, 29]) := ⟨Try.underlying35⟩
attribute [instance] und35
theorem conc35 : Conc Try.prog 35 := ⟨_, Try.underlying35, rfl⟩
attribute [instance] conc35
theorem one35 : One Try.prog 35 := ⟨_, Try.underlying35, rfl⟩
attribute [instance] one35
theorem inf35 : Inf Try.prog 35 (.tuple #[(.agg #[(.string ⟨#[]⟩), (.slice none 0 0)]), (.int .i64 0)]) 1 0 := ⟨infH (by kernel_rfl)⟩
attribute [instance] inf35
theorem und36 : Und Try.prog 36 (.func #[32] #[32, 29] false) := ⟨Try.underlying36⟩
attribute [instance] und36
theorem conc36 : Conc Try.prog 36 := ⟨_, Try.underlying36, rfl⟩
attribute [instance] conc36
theorem one36 : One Try.prog 36 := ⟨_, Try.underlying36, rfl⟩
attribute [instance] one36
theorem inf36 : Inf Try.prog 36 .nilFunc 1 8 := ⟨infH (by kernel_rfl)⟩
attribute [instance] inf36
theorem und37 : Und Try.prog 37 (.func #[32, 32] #[4] false) := ⟨Try.underlying37⟩
attribute [instance] und37
theorem conc37 : Conc Try.prog 37 := ⟨_, Try.underlying37, rfl⟩
attribute [instance] conc37
theorem one37 : One Try.prog 37 := ⟨_, Try.underlying37, rfl⟩
attribute [instance] one37
theorem inf37 : Inf Try.prog 37 .nilFunc 1 8 := ⟨infH (by kernel_rfl)⟩
attribute [instance] inf37
theorem und38 : Und Try.prog 38 (.func #[22] #[4] false) := ⟨Try.underlying38⟩
attribute [instance] und38
theorem conc38 : Conc Try.prog 38 := ⟨_, Try.underlying38, rfl⟩
attribute [instance] conc38
theorem one38 : One Try.prog 38 := ⟨_, Try.underlying38, rfl⟩
attribute [instance] one38
theorem inf38 : Inf Try.prog 38 .nilFunc 1 8 := ⟨infH (by kernel_rfl)⟩
attribute [instance] inf38
theorem und39 : Und Try.prog 39 (.slice 3) := ⟨Try.underlying39⟩
attribute [instance] und39
theorem conc39 : Conc Try.prog 39 := ⟨_, Try.underlying39, rfl⟩
attribute [instance] conc39
theorem one39 : One Try.prog 39 := ⟨_, Try.underlying39, rfl⟩
attribute [instance] one39
theorem inf39 : Inf Try.prog 39 (.slice none 0 0) 1 24 := ⟨infH (by kernel_rfl)⟩
attribute [instance] inf39
theorem und40 : Und Try.prog 40 (.int .u64) := ⟨Try.underlying40⟩
attribute [instance] und40
theorem conc40 : Conc Try.prog 40 := ⟨_, Try.underlying40, rfl⟩
attribute [instance] conc40
theorem one40 : One Try.prog 40 := ⟨_, Try.underlying40, rfl⟩
attribute [instance] one40
theorem inf40 : Inf Try.prog 40 (.int .u64 0) 1 8 := ⟨infH (by kernel_rfl)⟩
attribute [instance] inf40
theorem und41 : Und Try.prog 41 (.func #[22, 39] #[4] false) := ⟨Try.underlying41⟩
attribute [instance] und41
theorem conc41 : Conc Try.prog 41 := ⟨_, Try.underlying41, rfl⟩
attribute [instance] conc41
theorem one41 : One Try.prog 41 := ⟨_, Try.underlying41, rfl⟩
attribute [instance] one41
theorem inf41 : Inf Try.prog 41 .nilFunc 1 8 := ⟨infH (by kernel_rfl)⟩
attribute [instance] inf41
theorem und42 : Und Try.prog 42 (.slice 9) := ⟨Try.underlying42⟩
attribute [instance] und42
theorem conc42 : Conc Try.prog 42 := ⟨_, Try.underlying42, rfl⟩
attribute [instance] conc42
theorem one42 : One Try.prog 42 := ⟨_, Try.underlying42, rfl⟩
attribute [instance] one42
theorem inf42 : Inf Try.prog 42 (.slice none 0 0) 1 24 := ⟨infH (by kernel_rfl)⟩
attribute [instance] inf42
theorem und43 : Und Try.prog 43 (.func #[25] #[42] false) := ⟨Try.underlying43⟩
attribute [instance] und43
theorem conc43 : Conc Try.prog 43 := ⟨_, Try.underlying43, rfl⟩
attribute [instance] conc43
theorem one43 : One Try.prog 43 := ⟨_, Try.underlying43, rfl⟩
attribute [instance] one43
theorem inf43 : Inf Try.prog 43 .nilFunc 1 8 := ⟨infH (by kernel_rfl)⟩
attribute [instance] inf43
theorem und44 : Und Try.prog 44 (.func #[32, 42, 25] #[32] false) := ⟨Try.underlying44⟩
attribute [instance] und44
theorem conc44 : Conc Try.prog 44 := ⟨_, Try.underlying44, rfl⟩
attribute [instance] conc44
theorem one44 : One Try.prog 44 := ⟨_, Try.underlying44, rfl⟩
attribute [instance] one44
theorem inf44 : Inf Try.prog 44 .nilFunc 1 8 := ⟨infH (by kernel_rfl)⟩
attribute [instance] inf44
theorem und45 : Und Try.prog 45 (.func #[32] #[4] false) := ⟨Try.underlying45⟩
attribute [instance] und45
theorem conc45 : Conc Try.prog 45 := ⟨_, Try.underlying45, rfl⟩
attribute [instance] conc45
theorem one45 : One Try.prog 45 := ⟨_, Try.underlying45, rfl⟩
attribute [instance] one45
theorem inf45 : Inf Try.prog 45 .nilFunc 1 8 := ⟨infH (by kernel_rfl)⟩
attribute [instance] inf45
theorem und46 : Und Try.prog 46 (.func #[25, 25] #[4] false) := ⟨Try.underlying46⟩
attribute [instance] und46
theorem conc46 : Conc Try.prog 46 := ⟨_, Try.underlying46, rfl⟩
attribute [instance] conc46
theorem one46 : One Try.prog 46 := ⟨_, Try.underlying46, rfl⟩
attribute [instance] one46
theorem inf46 : Inf Try.prog 46 .nilFunc 1 8 := ⟨infH (by kernel_rfl)⟩
attribute [instance] inf46
theorem und47 : Und Try.prog 47 (.func #[9, 25] #[32] true) := ⟨Try.underlying47⟩
attribute [instance] und47
theorem conc47 : Conc Try.prog 47 := ⟨_, Try.underlying47, rfl⟩
attribute [instance] conc47
theorem one47 : One Try.prog 47 := ⟨_, Try.underlying47, rfl⟩
attribute [instance] one47
theorem inf47 : Inf Try.prog 47 .nilFunc 1 8 := ⟨infH (by kernel_rfl)⟩
attribute [instance] inf47
theorem und48 : Und Try.prog 48 (.func #[27, 32, 32] #[4] false) := ⟨Try.underlying48⟩
attribute [instance] und48
theorem conc48 : Conc Try.prog 48 := ⟨_, Try.underlying48, rfl⟩
attribute [instance] conc48
theorem one48 : One Try.prog 48 := ⟨_, Try.underlying48, rfl⟩
attribute [instance] one48
theorem inf48 : Inf Try.prog 48 .nilFunc 1 8 := ⟨infH (by kernel_rfl)⟩
attribute [instance] inf48
theorem und49 : Und Try.prog 49 (.tuple #[3, 3]) := ⟨Try.underlying49⟩
attribute [instance] und49
theorem conc49 : Conc Try.prog 49 := ⟨_, Try.underlying49, rfl⟩
attribute [instance] conc49
theorem one49 : One Try.prog 49 := ⟨_, Try.underlying49, rfl⟩
attribute [instance] one49
theorem inf49 : Inf Try.prog 49 (.tuple #[(.int .i64 0), (.int .i64 0)]) 1 0 := ⟨infH (by kernel_rfl)⟩
attribute [instance] inf49
theorem und50 : Und Try.prog 50 (.func #[32] #[3, 3] false) := ⟨Try.underlying50⟩
attribute [instance] und50
theorem conc50 : Conc Try.prog 50 := ⟨_, Try.underlying50, rfl⟩
attribute [instance] conc50
theorem one50 : One Try.prog 50 := ⟨_, Try.underlying50, rfl⟩
attribute [instance] one50
theorem inf50 : Inf Try.prog 50 .nilFunc 1 8 := ⟨infH (by kernel_rfl)⟩
attribute [instance] inf50
theorem und51 : Und Try.prog 51 (.map 9 3) := ⟨Try.underlying51⟩
attribute [instance] und51
theorem conc51 : Conc Try.prog 51 := ⟨_, Try.underlying51, rfl⟩
attribute [instance] conc51
theorem one51 : One Try.prog 51 := ⟨_, Try.underlying51, rfl⟩
attribute [instance] one51
theorem inf51 : Inf Try.prog 51 (.map none) 1 8 := ⟨infH (by kernel_rfl)⟩
attribute [instance] inf51
theorem und52 : Und Try.prog 52 (.slice 71) := ⟨Try.underlying52⟩
attribute [instance] und52
theorem conc52 : Conc Try.prog 52 := ⟨_, Try.underlying52, rfl⟩
attribute [instance] conc52
theorem one52 : One Try.prog 52 := ⟨_, Try.underlying52, rfl⟩
attribute [instance] one52
theorem inf52 : Inf Try.prog 52 (.slice none 0 0) 1 24 := ⟨infH (by kernel_rfl)⟩
attribute [instance] inf52
theorem flds53 : Flds Try.prog 53 [(0, 52), (1, 51), (2, 39), (3, 39), (4, 42), (5, 3)] := ⟨_, Try.underlying53, rfl⟩
attribute [instance] flds53
theorem ag53 : Ag Try.prog 53 := ⟨_, Try.underlying53, rfl⟩
attribute [instance] ag53
theorem conc53 : Conc Try.prog 53 := ⟨_, Try.underlying53, rfl⟩
attribute [instance] conc53
theorem inf53 : Inf Try.prog 53 (.agg #[(.slice none 0 0), (.map none), (.slice none 0 0), (.slice none 0 0), (.slice none 0 0), (.int .i64 0)]) 6 112 := ⟨infH (by kernel_rfl)⟩
attribute [instance] inf53
theorem flds54 : Flds Try.prog 54 [(0, 52), (1, 51), (2, 39), (3, 39), (4, 42), (5, 3)] := ⟨_, Try.underlying54, rfl⟩
attribute [instance] flds54
theorem ag54 : Ag Try.prog 54 := ⟨_, Try.underlying54, rfl⟩
attribute [instance] ag54
theorem conc54 : Conc Try.prog 54 := ⟨_, Try.underlying54, rfl⟩
attribute [instance] conc54
theorem inf54 : Inf Try.prog 54 (.agg #[(.slice none 0 0), (.map none), (.slice none 0 0), (.slice none 0 0), (.slice none 0 0), (.int .i64 0)]) 6 112 := ⟨infH (by kernel_rfl)⟩
attribute [instance] inf54
theorem und55 : Und Try.prog 55 (.func #[32] #[3] false) := ⟨Try.underlying55⟩
attribute [instance] und55
theorem conc55 : Conc Try.prog 55 := ⟨_, Try.underlying55, rfl⟩
attribute [instance] conc55
theorem one55 : One Try.prog 55 := ⟨_, Try.underlying55, rfl⟩
attribute [instance] one55
theorem inf55 : Inf Try.prog 55 .nilFunc 1 8 := ⟨infH (by kernel_rfl)⟩
attribute [instance] inf55
theorem und56 : Und Try.prog 56 (.func #[3, 3] #[4] false) := ⟨Try.underlying56⟩
attribute [instance] und56
theorem conc56 : Conc Try.prog 56 := ⟨_, Try.underlying56, rfl⟩
attribute [instance] conc56
theorem one56 : One Try.prog 56 := ⟨_, Try.underlying56, rfl⟩
attribute [instance] one56
theorem inf56 : Inf Try.prog 56 .nilFunc 1 8 := ⟨infH (by kernel_rfl)⟩
attribute [instance] inf56
theorem und57 : Und Try.prog 57 (.func #[3, 58] #[4] false) := ⟨Try.underlying57⟩
attribute [instance] und57
theorem conc57 : Conc Try.prog 57 := ⟨_, Try.underlying57, rfl⟩
attribute [instance] conc57
theorem one57 : One Try.prog 57 := ⟨_, Try.underlying57, rfl⟩
attribute [instance] one57
theorem inf57 : Inf Try.prog 57 .nilFunc 1 8 := ⟨infH (by kernel_rfl)⟩
attribute [instance] inf57
theorem und58 : Und Try.prog 58 (.map 3 3) := ⟨Try.underlying58⟩
attribute [instance] und58
theorem conc58 : Conc Try.prog 58 := ⟨_, Try.underlying58, rfl⟩
attribute [instance] conc58
theorem one58 : One Try.prog 58 := ⟨_, Try.underlying58, rfl⟩
attribute [instance] one58
theorem inf58 : Inf Try.prog 58 (.map none) 1 8 := ⟨infH (by kernel_rfl)⟩
attribute [instance] inf58
theorem und59 : Und Try.prog 59 (.tuple #[32, 4]) := ⟨Try.underlying59⟩
attribute [instance] und59
theorem conc59 : Conc Try.prog 59 := ⟨_, Try.underlying59, rfl⟩
attribute [instance] conc59
theorem one59 : One Try.prog 59 := ⟨_, Try.underlying59, rfl⟩
attribute [instance] one59
theorem inf59 : Inf Try.prog 59 (.tuple #[(.agg #[(.string ⟨#[]⟩), (.slice none 0 0)]), (.bool false)]) 1 0 := ⟨infH (by kernel_rfl)⟩
attribute [instance] inf59
theorem und60 : Und Try.prog 60 (.func #[3, 3, 61] #[32, 4] false) := ⟨Try.underlying60⟩
attribute [instance] und60
theorem conc60 : Conc Try.prog 60 := ⟨_, Try.underlying60, rfl⟩
attribute [instance] conc60
theorem one60 : One Try.prog 60 := ⟨_, Try.underlying60, rfl⟩
attribute [instance] one60
theorem inf60 : Inf Try.prog 60 .nilFunc 1 8 := ⟨infH (by kernel_rfl)⟩
attribute [instance] inf60
theorem und61 : Und Try.prog 61 (.pointer 3) := ⟨Try.underlying61⟩
attribute [instance] und61
theorem conc61 : Conc Try.prog 61 := ⟨_, Try.underlying61, rfl⟩
attribute [instance] conc61
theorem one61 : One Try.prog 61 := ⟨_, Try.underlying61, rfl⟩
attribute [instance] one61
theorem inf61 : Inf Try.prog 61 (.pointer none) 1 8 := ⟨infH (by kernel_rfl)⟩
attribute [instance] inf61
theorem und62 : Und Try.prog 62 (.func #[25] #[4] false) := ⟨Try.underlying62⟩
attribute [instance] und62
theorem conc62 : Conc Try.prog 62 := ⟨_, Try.underlying62, rfl⟩
attribute [instance] conc62
theorem one62 : One Try.prog 62 := ⟨_, Try.underlying62, rfl⟩
attribute [instance] one62
theorem inf62 : Inf Try.prog 62 .nilFunc 1 8 := ⟨infH (by kernel_rfl)⟩
attribute [instance] inf62
theorem und63 : Und Try.prog 63 (.func #[32, 64] #[32] false) := ⟨Try.underlying63⟩
attribute [instance] und63
theorem conc63 : Conc Try.prog 63 := ⟨_, Try.underlying63, rfl⟩
attribute [instance] conc63
theorem one63 : One Try.prog 63 := ⟨_, Try.underlying63, rfl⟩
attribute [instance] one63
theorem inf63 : Inf Try.prog 63 .nilFunc 1 8 := ⟨infH (by kernel_rfl)⟩
attribute [instance] inf63
theorem und64 : Und Try.prog 64 (.func #[9] #[32, 4] false) := ⟨Try.underlying64⟩
attribute [instance] und64
theorem conc64 : Conc Try.prog 64 := ⟨_, Try.underlying64, rfl⟩
attribute [instance] conc64
theorem one64 : One Try.prog 64 := ⟨_, Try.underlying64, rfl⟩
attribute [instance] one64
theorem inf64 : Inf Try.prog 64 .nilFunc 1 8 := ⟨infH (by kernel_rfl)⟩
attribute [instance] inf64
theorem und65 : Und Try.prog 65 (.func #[42, 9] #[3] false) := ⟨Try.underlying65⟩
attribute [instance] und65
theorem conc65 : Conc Try.prog 65 := ⟨_, Try.underlying65, rfl⟩
attribute [instance] conc65
theorem one65 : One Try.prog 65 := ⟨_, Try.underlying65, rfl⟩
attribute [instance] one65
theorem inf65 : Inf Try.prog 65 .nilFunc 1 8 := ⟨infH (by kernel_rfl)⟩
attribute [instance] inf65
theorem und66 : Und Try.prog 66 (.func #[32, 3, 61] #[4] false) := ⟨Try.underlying66⟩
attribute [instance] und66
theorem conc66 : Conc Try.prog 66 := ⟨_, Try.underlying66, rfl⟩
attribute [instance] conc66
theorem one66 : One Try.prog 66 := ⟨_, Try.underlying66, rfl⟩
attribute [instance] one66
theorem inf66 : Inf Try.prog 66 .nilFunc 1 8 := ⟨infH (by kernel_rfl)⟩
attribute [instance] inf66
theorem und67 : Und Try.prog 67 (.func #[25, 25, 37] #[4] false) := ⟨Try.underlying67⟩
attribute [instance] und67
theorem conc67 : Conc Try.prog 67 := ⟨_, Try.underlying67, rfl⟩
attribute [instance] conc67
theorem one67 : One Try.prog 67 := ⟨_, Try.underlying67, rfl⟩
attribute [instance] one67
theorem inf67 : Inf Try.prog 67 .nilFunc 1 8 := ⟨infH (by kernel_rfl)⟩
attribute [instance] inf67
theorem und68 : Und Try.prog 68 (.tuple #[3, 4]) := ⟨Try.underlying68⟩
attribute [instance] und68
theorem conc68 : Conc Try.prog 68 := ⟨_, Try.underlying68, rfl⟩
attribute [instance] conc68
theorem one68 : One Try.prog 68 := ⟨_, Try.underlying68, rfl⟩
attribute [instance] one68
theorem inf68 : Inf Try.prog 68 (.tuple #[(.int .i64 0), (.bool false)]) 1 0 := ⟨infH (by kernel_rfl)⟩
attribute [instance] inf68
theorem und69 : Und Try.prog 69 (.func #[71, 3, 9] #[3] false) := ⟨Try.underlying69⟩
attribute [instance] und69
theorem conc69 : Conc Try.prog 69 := ⟨_, Try.underlying69, rfl⟩
attribute [instance] conc69
theorem one69 : One Try.prog 69 := ⟨_, Try.underlying69, rfl⟩
attribute [instance] one69
theorem inf69 : Inf Try.prog 69 .nilFunc 1 8 := ⟨infH (by kernel_rfl)⟩
attribute [instance] inf69
theorem flds70 : Flds Try.prog 70 [(0, 9), (1, 39)] := ⟨_, Try.underlying70, rfl⟩
attribute [instance] flds70
theorem ag70 : Ag Try.prog 70 := ⟨_, Try.underlying70, rfl⟩
attribute [instance] ag70
theorem conc70 : Conc Try.prog 70 := ⟨_, Try.underlying70, rfl⟩
attribute [instance] conc70
theorem inf70 : Inf Try.prog 70 (.agg #[(.string ⟨#[]⟩), (.slice none 0 0)]) 2 40 := ⟨infH (by kernel_rfl)⟩
attribute [instance] inf70
theorem flds71 : Flds Try.prog 71 [(0, 9), (1, 39)] := ⟨_, Try.underlying71, rfl⟩
attribute [instance] flds71
theorem ag71 : Ag Try.prog 71 := ⟨_, Try.underlying71, rfl⟩
attribute [instance] ag71
theorem conc71 : Conc Try.prog 71 := ⟨_, Try.underlying71, rfl⟩
attribute [instance] conc71
theorem inf71 : Inf Try.prog 71 (.agg #[(.string ⟨#[]⟩), (.slice none 0 0)]) 2 40 := ⟨infH (by kernel_rfl)⟩
attribute [instance] inf71
theorem und72 : Und Try.prog 72 (.func #[52] #[52] false) := ⟨Try.underlying72⟩
attribute [instance] und72
theorem conc72 : Conc Try.prog 72 := ⟨_, Try.underlying72, rfl⟩
attribute [instance] conc72
theorem one72 : One Try.prog 72 := ⟨_, Try.underlying72, rfl⟩
attribute [instance] one72
theorem inf72 : Inf Try.prog 72 .nilFunc 1 8 := ⟨infH (by kernel_rfl)⟩
attribute [instance] inf72
theorem und73 : Und Try.prog 73 (.func #[51] #[51] false) := ⟨Try.underlying73⟩
attribute [instance] und73
theorem conc73 : Conc Try.prog 73 := ⟨_, Try.underlying73, rfl⟩
attribute [instance] conc73
theorem one73 : One Try.prog 73 := ⟨_, Try.underlying73, rfl⟩
attribute [instance] one73
theorem inf73 : Inf Try.prog 73 .nilFunc 1 8 := ⟨infH (by kernel_rfl)⟩
attribute [instance] inf73
theorem und74 : Und Try.prog 74 (.func #[39] #[39] false) := ⟨Try.underlying74⟩
attribute [instance] und74
theorem conc74 : Conc Try.prog 74 := ⟨_, Try.underlying74, rfl⟩
attribute [instance] conc74
theorem one74 : One Try.prog 74 := ⟨_, Try.underlying74, rfl⟩
attribute [instance] one74
theorem inf74 : Inf Try.prog 74 .nilFunc 1 8 := ⟨infH (by kernel_rfl)⟩
attribute [instance] inf74
theorem und75 : Und Try.prog 75 (.func #[42] #[42] false) := ⟨Try.underlying75⟩
attribute [instance] und75
theorem conc75 : Conc Try.prog 75 := ⟨_, Try.underlying75, rfl⟩
attribute [instance] conc75
theorem one75 : One Try.prog 75 := ⟨_, Try.underlying75, rfl⟩
attribute [instance] one75
theorem inf75 : Inf Try.prog 75 .nilFunc 1 8 := ⟨infH (by kernel_rfl)⟩
attribute [instance] inf75
theorem flds76 : Flds Try.prog 76 [(0, 3), (1, 3)] := ⟨_, Try.underlying76, rfl⟩
attribute [instance] flds76
theorem ag76 : Ag Try.prog 76 := ⟨_, Try.underlying76, rfl⟩
attribute [instance] ag76
theorem conc76 : Conc Try.prog 76 := ⟨_, Try.underlying76, rfl⟩
attribute [instance] conc76
theorem inf76 : Inf Try.prog 76 (.agg #[(.int .i64 0), (.int .i64 0)]) 2 16 := ⟨infH (by kernel_rfl)⟩
attribute [instance] inf76
theorem flds77 : Flds Try.prog 77 [(0, 3), (1, 3)] := ⟨_, Try.underlying77, rfl⟩
attribute [instance] flds77
theorem ag77 : Ag Try.prog 77 := ⟨_, Try.underlying77, rfl⟩
attribute [instance] ag77
theorem conc77 : Conc Try.prog 77 := ⟨_, Try.underlying77, rfl⟩
attribute [instance] conc77
theorem inf77 : Inf Try.prog 77 (.agg #[(.int .i64 0), (.int .i64 0)]) 2 16 := ⟨infH (by kernel_rfl)⟩
attribute [instance] inf77
theorem und78 : Und Try.prog 78 (.slice 77) := ⟨Try.underlying78⟩
attribute [instance] und78
theorem conc78 : Conc Try.prog 78 := ⟨_, Try.underlying78, rfl⟩
attribute [instance] conc78
theorem one78 : One Try.prog 78 := ⟨_, Try.underlying78, rfl⟩
attribute [instance] one78
theorem inf78 : Inf Try.prog 78 (.slice none 0 0) 1 24 := ⟨infH (by kernel_rfl)⟩
attribute [instance] inf78
theorem und79 : Und Try.prog 79 (.func #[3] #[3] false) := ⟨Try.underlying79⟩
attribute [instance] und79
theorem conc79 : Conc Try.prog 79 := ⟨_, Try.underlying79, rfl⟩
attribute [instance] conc79
theorem one79 : One Try.prog 79 := ⟨_, Try.underlying79, rfl⟩
attribute [instance] one79
theorem inf79 : Inf Try.prog 79 .nilFunc 1 8 := ⟨infH (by kernel_rfl)⟩
attribute [instance] inf79
theorem und80 : Und Try.prog 80 (.func #[9, 9] #[9] false) := ⟨Try.underlying80⟩
attribute [instance] und80
theorem conc80 : Conc Try.prog 80 := ⟨_, Try.underlying80, rfl⟩
attribute [instance] conc80
theorem one80 : One Try.prog 80 := ⟨_, Try.underlying80, rfl⟩
attribute [instance] one80
theorem inf80 : Inf Try.prog 80 .nilFunc 1 8 := ⟨infH (by kernel_rfl)⟩
attribute [instance] inf80
theorem und81 : Und Try.prog 81 (.func #[39, 82] #[4] false) := ⟨Try.underlying81⟩
attribute [instance] und81
theorem conc81 : Conc Try.prog 81 := ⟨_, Try.underlying81, rfl⟩
attribute [instance] conc81
theorem one81 : One Try.prog 81 := ⟨_, Try.underlying81, rfl⟩
attribute [instance] one81
theorem inf81 : Inf Try.prog 81 .nilFunc 1 8 := ⟨infH (by kernel_rfl)⟩
attribute [instance] inf81
theorem und82 : Und Try.prog 82 (.func #[3] #[4] false) := ⟨Try.underlying82⟩
attribute [instance] und82
theorem conc82 : Conc Try.prog 82 := ⟨_, Try.underlying82, rfl⟩
attribute [instance] conc82
theorem one82 : One Try.prog 82 := ⟨_, Try.underlying82, rfl⟩
attribute [instance] one82
theorem inf82 : Inf Try.prog 82 .nilFunc 1 8 := ⟨infH (by kernel_rfl)⟩
attribute [instance] inf82
theorem und83 : Und Try.prog 83 (.func #[25, 45] #[4] false) := ⟨Try.underlying83⟩
attribute [instance] und83
theorem conc83 : Conc Try.prog 83 := ⟨_, Try.underlying83, rfl⟩
attribute [instance] conc83
theorem one83 : One Try.prog 83 := ⟨_, Try.underlying83, rfl⟩
attribute [instance] one83
theorem inf83 : Inf Try.prog 83 .nilFunc 1 8 := ⟨infH (by kernel_rfl)⟩
attribute [instance] inf83
theorem und84 : Und Try.prog 84 (.func #[20] #[20] false) := ⟨Try.underlying84⟩
attribute [instance] und84
theorem conc84 : Conc Try.prog 84 := ⟨_, Try.underlying84, rfl⟩
attribute [instance] conc84
theorem one84 : One Try.prog 84 := ⟨_, Try.underlying84, rfl⟩
attribute [instance] one84
theorem inf84 : Inf Try.prog 84 .nilFunc 1 8 := ⟨infH (by kernel_rfl)⟩
attribute [instance] inf84
theorem und85 : Und Try.prog 85 (.func #[39, 82] #[3] false) := ⟨Try.underlying85⟩
attribute [instance] und85
theorem conc85 : Conc Try.prog 85 := ⟨_, Try.underlying85, rfl⟩
attribute [instance] conc85
theorem one85 : One Try.prog 85 := ⟨_, Try.underlying85, rfl⟩
attribute [instance] one85
theorem inf85 : Inf Try.prog 85 .nilFunc 1 8 := ⟨infH (by kernel_rfl)⟩
attribute [instance] inf85
theorem und86 : Und Try.prog 86 (.func #[25, 45] #[3] false) := ⟨Try.underlying86⟩
attribute [instance] und86
theorem conc86 : Conc Try.prog 86 := ⟨_, Try.underlying86, rfl⟩
attribute [instance] conc86
theorem one86 : One Try.prog 86 := ⟨_, Try.underlying86, rfl⟩
attribute [instance] one86
theorem inf86 : Inf Try.prog 86 .nilFunc 1 8 := ⟨infH (by kernel_rfl)⟩
attribute [instance] inf86
theorem und87 : Und Try.prog 87 (.func #[] #[9] false) := ⟨Try.underlying87⟩
attribute [instance] und87
theorem conc87 : Conc Try.prog 87 := ⟨_, Try.underlying87, rfl⟩
attribute [instance] conc87
theorem one87 : One Try.prog 87 := ⟨_, Try.underlying87, rfl⟩
attribute [instance] one87
theorem inf87 : Inf Try.prog 87 .nilFunc 1 8 := ⟨infH (by kernel_rfl)⟩
attribute [instance] inf87
theorem flds88 : Flds Try.prog 88 [(0, 17), (1, 17), (2, 17), (3, 9)] := ⟨_, Try.underlying88, rfl⟩
attribute [instance] flds88
theorem ag88 : Ag Try.prog 88 := ⟨_, Try.underlying88, rfl⟩
attribute [instance] ag88
theorem conc88 : Conc Try.prog 88 := ⟨_, Try.underlying88, rfl⟩
attribute [instance] conc88
theorem inf88 : Inf Try.prog 88 (.agg #[(.pointer none), (.pointer none), (.pointer none), (.string ⟨#[]⟩)]) 4 40 := ⟨infH (by kernel_rfl)⟩
attribute [instance] inf88
theorem flds89 : Flds Try.prog 89 [(0, 17), (1, 17), (2, 17), (3, 9)] := ⟨_, Try.underlying89, rfl⟩
attribute [instance] flds89
theorem ag89 : Ag Try.prog 89 := ⟨_, Try.underlying89, rfl⟩
attribute [instance] ag89
theorem conc89 : Conc Try.prog 89 := ⟨_, Try.underlying89, rfl⟩
attribute [instance] conc89
theorem inf89 : Inf Try.prog 89 (.agg #[(.pointer none), (.pointer none), (.pointer none), (.string ⟨#[]⟩)]) 4 40 := ⟨infH (by kernel_rfl)⟩
attribute [instance] inf89
theorem und90 : Und Try.prog 90 (.array 0 16) := ⟨Try.underlying90⟩
attribute [instance] und90
theorem conc90 : Conc Try.prog 90 := ⟨_, Try.underlying90, rfl⟩
attribute [instance] conc90
theorem ag90 : Ag Try.prog 90 := ⟨_, Try.underlying90, rfl⟩
attribute [instance] ag90
theorem inf90 : Inf Try.prog 90 (.agg #[]) 0 0 := ⟨infH (by kernel_rfl)⟩
attribute [instance] inf90
theorem flds91 : Flds Try.prog 91 [(0, 90)] := ⟨_, Try.underlying91, rfl⟩
attribute [instance] flds91
theorem ag91 : Ag Try.prog 91 := ⟨_, Try.underlying91, rfl⟩
attribute [instance] ag91
theorem conc91 : Conc Try.prog 91 := ⟨_, Try.underlying91, rfl⟩
attribute [instance] conc91
theorem inf91 : Inf Try.prog 91 (.agg #[]) 0 0 := ⟨infH (by kernel_rfl)⟩
attribute [instance] inf91
theorem flds92 : Flds Try.prog 92 [(0, 90)] := ⟨_, Try.underlying92, rfl⟩
attribute [instance] flds92
theorem ag92 : Ag Try.prog 92 := ⟨_, Try.underlying92, rfl⟩
attribute [instance] ag92
theorem conc92 : Conc Try.prog 92 := ⟨_, Try.underlying92, rfl⟩
attribute [instance] conc92
theorem inf92 : Inf Try.prog 92 (.agg #[]) 0 0 := ⟨infH (by kernel_rfl)⟩
attribute [instance] inf92
theorem und93 : Und Try.prog 93 (.func #[] #[3] false) := ⟨Try.underlying93⟩
attribute [instance] und93
theorem conc93 : Conc Try.prog 93 := ⟨_, Try.underlying93, rfl⟩
attribute [instance] conc93
theorem one93 : One Try.prog 93 := ⟨_, Try.underlying93, rfl⟩
attribute [instance] one93
theorem inf93 : Inf Try.prog 93 .nilFunc 1 8 := ⟨infH (by kernel_rfl)⟩
attribute [instance] inf93
theorem und94 : Und Try.prog 94 (.int .u32) := ⟨Try.underlying94⟩
attribute [instance] und94
theorem conc94 : Conc Try.prog 94 := ⟨_, Try.underlying94, rfl⟩
attribute [instance] conc94
theorem one94 : One Try.prog 94 := ⟨_, Try.underlying94, rfl⟩
attribute [instance] one94
theorem inf94 : Inf Try.prog 94 (.int .u32 0) 1 4 := ⟨infH (by kernel_rfl)⟩
attribute [instance] inf94
theorem und95 : Und Try.prog 95 (.int .u8) := ⟨Try.underlying95⟩
attribute [instance] und95
theorem conc95 : Conc Try.prog 95 := ⟨_, Try.underlying95, rfl⟩
attribute [instance] conc95
theorem one95 : One Try.prog 95 := ⟨_, Try.underlying95, rfl⟩
attribute [instance] one95
theorem inf95 : Inf Try.prog 95 (.int .u8 0) 1 1 := ⟨infH (by kernel_rfl)⟩
attribute [instance] inf95
theorem und96 : Und Try.prog 96 (.int .u8) := ⟨Try.underlying96⟩
attribute [instance] und96
theorem conc96 : Conc Try.prog 96 := ⟨_, Try.underlying96, rfl⟩
attribute [instance] conc96
theorem one96 : One Try.prog 96 := ⟨_, Try.underlying96, rfl⟩
attribute [instance] one96
theorem inf96 : Inf Try.prog 96 (.int .u8 0) 1 1 := ⟨infH (by kernel_rfl)⟩
attribute [instance] inf96
theorem und97 : Und Try.prog 97 (.func #[103, 103] #[4] false) := ⟨Try.underlying97⟩
attribute [instance] und97
theorem conc97 : Conc Try.prog 97 := ⟨_, Try.underlying97, rfl⟩
attribute [instance] conc97
theorem one97 : One Try.prog 97 := ⟨_, Try.underlying97, rfl⟩
attribute [instance] one97
theorem inf97 : Inf Try.prog 97 .nilFunc 1 8 := ⟨infH (by kernel_rfl)⟩
attribute [instance] inf97
theorem und98 : Und Try.prog 98 (.pointer 5) := ⟨Try.underlying98⟩
attribute [instance] und98
theorem conc98 : Conc Try.prog 98 := ⟨_, Try.underlying98, rfl⟩
attribute [instance] conc98
theorem one98 : One Try.prog 98 := ⟨_, Try.underlying98, rfl⟩
attribute [instance] one98
theorem inf98 : Inf Try.prog 98 (.pointer none) 1 8 := ⟨infH (by kernel_rfl)⟩
attribute [instance] inf98
theorem und99 : Und Try.prog 99 (.int .i32) := ⟨Try.underlying99⟩
attribute [instance] und99
theorem conc99 : Conc Try.prog 99 := ⟨_, Try.underlying99, rfl⟩
attribute [instance] conc99
theorem one99 : One Try.prog 99 := ⟨_, Try.underlying99, rfl⟩
attribute [instance] one99
theorem inf99 : Inf Try.prog 99 (.int .i32 0) 1 4 := ⟨infH (by kernel_rfl)⟩
attribute [instance] inf99
theorem und100 : Und Try.prog 100 (.int .i32) := ⟨Try.underlying100⟩
attribute [instance] und100
theorem conc100 : Conc Try.prog 100 := ⟨_, Try.underlying100, rfl⟩
attribute [instance] conc100
theorem one100 : One Try.prog 100 := ⟨_, Try.underlying100, rfl⟩
attribute [instance] one100
theorem inf100 : Inf Try.prog 100 (.int .i32 0) 1 4 := ⟨infH (by kernel_rfl)⟩
attribute [instance] inf100
theorem flds101 : Flds Try.prog 101 [(0, 12), (1, 12), (2, 94), (3, 95), (4, 5), (5, 5), (6, 96), (7, 97), (8, 98), (9, 99), (10, 100)] := ⟨_, Try.underlying101, rfl⟩
attribute [instance] flds101
theorem ag101 : Ag Try.prog 101 := ⟨_, Try.underlying101, rfl⟩
attribute [instance] ag101
theorem conc101 : Conc Try.prog 101 := ⟨_, Try.underlying101, rfl⟩
attribute [instance] conc101
theorem inf101 : Inf Try.prog 101 (.agg #[(.int .u64 0), (.int .u64 0), (.int .u32 0), (.int .u8 0), (.int .u8 0), (.int .u8 0), (.int .u8 0), .nilFunc, (.pointer none), (.int .i32 0), (.int .i32 0)]) 11 48 := ⟨infH (by kernel_rfl)⟩
attribute [instance] inf101
theorem flds102 : Flds Try.prog 102 [(0, 12), (1, 12), (2, 94), (3, 95), (4, 5), (5, 5), (6, 96), (7, 97), (8, 98), (9, 99), (10, 100)] := ⟨_, Try.underlying102, rfl⟩
attribute [instance] flds102
theorem ag102 : Ag Try.prog 102 := ⟨_, Try.underlying102, rfl⟩
attribute [instance] ag102
theorem conc102 : Conc Try.prog 102 := ⟨_, Try.underlying102, rfl⟩
attribute [instance] conc102
theorem inf102 : Inf Try.prog 102 (.agg #[(.int .u64 0), (.int .u64 0), (.int .u32 0), (.int .u8 0), (.int .u8 0), (.int .u8 0), (.int .u8 0), .nilFunc, (.pointer none), (.int .i32 0), (.int .i32 0)]) 11 48 := ⟨infH (by kernel_rfl)⟩
attribute [instance] inf102
theorem und103 : Und Try.prog 103 .unsafePointer := ⟨Try.underlying103⟩
attribute [instance] und103
theorem conc103 : Conc Try.prog 103 := ⟨_, Try.underlying103, rfl⟩
attribute [instance] conc103
theorem one103 : One Try.prog 103 := ⟨_, Try.underlying103, rfl⟩
attribute [instance] one103
theorem inf103 : Inf Try.prog 103 (.pointer none) 1 8 := ⟨infH (by kernel_rfl)⟩
attribute [instance] inf103
theorem plc7 : Plc Try.prog 7 [(0, 1), (1, 1), (2, 1), (3, 1)] := ⟨_, Try.underlying7, ⟨rfl, szH inf2, ⟨rfl, szH inf3, ⟨rfl, szH inf4, ⟨rfl, szH inf6, trivial⟩⟩⟩⟩⟩
attribute [instance] plc7
theorem plc8 : Plc Try.prog 8 [(0, 1), (1, 1), (2, 1), (3, 1)] := ⟨_, Try.underlying8, ⟨rfl, szH inf2, ⟨rfl, szH inf3, ⟨rfl, szH inf4, ⟨rfl, szH inf6, trivial⟩⟩⟩⟩⟩
attribute [instance] plc8
theorem plc13 : Plc Try.prog 13 [(0, 1), (1, 1)] := ⟨_, Try.underlying13, ⟨rfl, szH inf9, ⟨rfl, szH inf12, trivial⟩⟩⟩
attribute [instance] plc13
theorem plc14 : Plc Try.prog 14 [(0, 1), (1, 1)] := ⟨_, Try.underlying14, ⟨rfl, szH inf9, ⟨rfl, szH inf12, trivial⟩⟩⟩
attribute [instance] plc14
theorem plc18 : Plc Try.prog 18 [(0, 1)] := ⟨_, Try.underlying18, ⟨rfl, szH inf17, trivial⟩⟩
attribute [instance] plc18
theorem plc19 : Plc Try.prog 19 [(0, 1)] := ⟨_, Try.underlying19, ⟨rfl, szH inf17, trivial⟩⟩
attribute [instance] plc19
theorem plc31 : Plc Try.prog 31 [(0, 1), (1, 1)] := ⟨_, Try.underlying31, ⟨rfl, szH inf9, ⟨rfl, szH inf25, trivial⟩⟩⟩
attribute [instance] plc31
theorem plc32 : Plc Try.prog 32 [(0, 1), (1, 1)] := ⟨_, Try.underlying32, ⟨rfl, szH inf9, ⟨rfl, szH inf25, trivial⟩⟩⟩
attribute [instance] plc32
theorem plc33 : Plc Try.prog 33 [(0, 2), (2, 2), (4, 1)] := ⟨_, Try.underlying33, ⟨rfl, szH inf32, ⟨rfl, szH inf32, ⟨rfl, szH inf4, trivial⟩⟩⟩⟩
attribute [instance] plc33
theorem plc34 : Plc Try.prog 34 [(0, 2), (2, 2), (4, 1)] := ⟨_, Try.underlying34, ⟨rfl, szH inf32, ⟨rfl, szH inf32, ⟨rfl, szH inf4, trivial⟩⟩⟩⟩
attribute [instance] plc34
theorem plc53 : Plc Try.prog 53 [(0, 1), (1, 1), (2, 1), (3, 1), (4, 1), (5, 1)] := ⟨_, Try.underlying53, ⟨rfl, szH inf52, ⟨rfl, szH inf51, ⟨rfl, szH inf39, ⟨rfl, szH inf39, ⟨rfl, szH inf42, ⟨rfl, szH inf3, trivial⟩⟩⟩⟩⟩⟩⟩
attribute [instance] plc53
theorem plc54 : Plc Try.prog 54 [(0, 1), (1, 1), (2, 1), (3, 1), (4, 1), (5, 1)] := ⟨_, Try.underlying54, ⟨rfl, szH inf52, ⟨rfl, szH inf51, ⟨rfl, szH inf39, ⟨rfl, szH inf39, ⟨rfl, szH inf42, ⟨rfl, szH inf3, trivial⟩⟩⟩⟩⟩⟩⟩
attribute [instance] plc54
theorem plc70 : Plc Try.prog 70 [(0, 1), (1, 1)] := ⟨_, Try.underlying70, ⟨rfl, szH inf9, ⟨rfl, szH inf39, trivial⟩⟩⟩
attribute [instance] plc70
theorem plc71 : Plc Try.prog 71 [(0, 1), (1, 1)] := ⟨_, Try.underlying71, ⟨rfl, szH inf9, ⟨rfl, szH inf39, trivial⟩⟩⟩
attribute [instance] plc71
theorem plc76 : Plc Try.prog 76 [(0, 1), (1, 1)] := ⟨_, Try.underlying76, ⟨rfl, szH inf3, ⟨rfl, szH inf3, trivial⟩⟩⟩
attribute [instance] plc76
theorem plc77 : Plc Try.prog 77 [(0, 1), (1, 1)] := ⟨_, Try.underlying77, ⟨rfl, szH inf3, ⟨rfl, szH inf3, trivial⟩⟩⟩
attribute [instance] plc77
theorem plc88 : Plc Try.prog 88 [(0, 1), (1, 1), (2, 1), (3, 1)] := ⟨_, Try.underlying88, ⟨rfl, szH inf17, ⟨rfl, szH inf17, ⟨rfl, szH inf17, ⟨rfl, szH inf9, trivial⟩⟩⟩⟩⟩
attribute [instance] plc88
theorem plc89 : Plc Try.prog 89 [(0, 1), (1, 1), (2, 1), (3, 1)] := ⟨_, Try.underlying89, ⟨rfl, szH inf17, ⟨rfl, szH inf17, ⟨rfl, szH inf17, ⟨rfl, szH inf9, trivial⟩⟩⟩⟩⟩
attribute [instance] plc89
theorem plc91 : Plc Try.prog 91 [(0, 0)] := ⟨_, Try.underlying91, ⟨rfl, szH inf90, trivial⟩⟩
attribute [instance] plc91
theorem plc92 : Plc Try.prog 92 [(0, 0)] := ⟨_, Try.underlying92, ⟨rfl, szH inf90, trivial⟩⟩
attribute [instance] plc92
theorem plc101 : Plc Try.prog 101 [(0, 1), (1, 1), (2, 1), (3, 1), (4, 1), (5, 1), (6, 1), (7, 1), (8, 1), (9, 1), (10, 1)] := ⟨_, Try.underlying101, ⟨rfl, szH inf12, ⟨rfl, szH inf12, ⟨rfl, szH inf94, ⟨rfl, szH inf95, ⟨rfl, szH inf5, ⟨rfl, szH inf5, ⟨rfl, szH inf96, ⟨rfl, szH inf97, ⟨rfl, szH inf98, ⟨rfl, szH inf99, ⟨rfl, szH inf100, trivial⟩⟩⟩⟩⟩⟩⟩⟩⟩⟩⟩⟩
attribute [instance] plc101
theorem plc102 : Plc Try.prog 102 [(0, 1), (1, 1), (2, 1), (3, 1), (4, 1), (5, 1), (6, 1), (7, 1), (8, 1), (9, 1), (10, 1)] := ⟨_, Try.underlying102, ⟨rfl, szH inf12, ⟨rfl, szH inf12, ⟨rfl, szH inf94, ⟨rfl, szH inf95, ⟨rfl, szH inf5, ⟨rfl, szH inf5, ⟨rfl, szH inf96, ⟨rfl, szH inf97, ⟨rfl, szH inf98, ⟨rfl, szH inf99, ⟨rfl, szH inf100, trivial⟩⟩⟩⟩⟩⟩⟩⟩⟩⟩⟩⟩
attribute [instance] plc102
theorem fun2 : HasFn Try.prog 2 := ⟨Try.f2, _, Try.func2, by kernel_rfl, rfl⟩
attribute [instance] fun2
theorem fun3 : HasFn Try.prog 3 := ⟨Try.f3, _, Try.func3, by kernel_rfl, rfl⟩
attribute [instance] fun3
theorem fun4 : HasFn Try.prog 4 := ⟨Try.f4, _, Try.func4, by kernel_rfl, rfl⟩
attribute [instance] fun4
theorem fun5 : HasFn Try.prog 5 := ⟨Try.f5, _, Try.func5, by kernel_rfl, rfl⟩
attribute [instance] fun5
theorem fun6 : HasFn Try.prog 6 := ⟨Try.f6, _, Try.func6, by kernel_rfl, rfl⟩
attribute [instance] fun6
theorem fun7 : HasFn Try.prog 7 := ⟨Try.f7, _, Try.func7, by kernel_rfl, rfl⟩
attribute [instance] fun7
theorem fun8 : HasFn Try.prog 8 := ⟨Try.f8, _, Try.func8, by kernel_rfl, rfl⟩
attribute [instance] fun8
theorem fun9 : HasFn Try.prog 9 := ⟨Try.f9, _, Try.func9, by kernel_rfl, rfl⟩
attribute [instance] fun9
theorem fun10 : HasFn Try.prog 10 := ⟨Try.f10, _, Try.func10, by kernel_rfl, rfl⟩
attribute [instance] fun10
theorem fun11 : HasFn Try.prog 11 := ⟨Try.f11, _, Try.func11, by kernel_rfl, rfl⟩
attribute [instance] fun11
theorem fun12 : HasFn Try.prog 12 := ⟨Try.f12, _, Try.func12, by kernel_rfl, rfl⟩
attribute [instance] fun12
theorem fun13 : HasFn Try.prog 13 := ⟨Try.f13, _, Try.func13, by kernel_rfl, rfl⟩
attribute [instance] fun13
theorem fun14 : HasFn Try.prog 14 := ⟨Try.f14, _, Try.func14, by kernel_rfl, rfl⟩
attribute [instance] fun14
theorem fun15 : HasFn Try.prog 15 := ⟨Try.f15, _, Try.func15, by kernel_rfl, rfl⟩
attribute [instance] fun15
theorem fun16 : HasFn Try.prog 16 := ⟨Try.f16, _, Try.func16, by kernel_rfl, rfl⟩
attribute [instance] fun16
theorem fun17 : HasFn Try.prog 17 := ⟨Try.f17, _, Try.func17, by kernel_rfl, rfl⟩
attribute [instance] fun17
theorem fun18 : HasFn Try.prog 18 := ⟨Try.f18, _, Try.func18, by kernel_rfl, rfl⟩
attribute [instance] fun18
theorem fun19 : HasFn Try.prog 19 := ⟨Try.f19, _, Try.func19, by kernel_rfl, rfl⟩
attribute [instance] fun19
theorem fun20 : HasFn Try.prog 20 := ⟨Try.f20, _, Try.func20, by kernel_rfl, rfl⟩
attribute [instance] fun20
theorem fun21 : HasFn Try.prog 21 := ⟨Try.f21, _, Try.func21, by kernel_rfl, rfl⟩
attribute [instance] fun21
theorem fun22 : HasFn Try.prog 22 := ⟨Try.f22, _, Try.func22, by kernel_rfl, rfl⟩
attribute [instance] fun22
theorem fun23 : HasFn Try.prog 23 := ⟨Try.f23, _, Try.func23, by kernel_rfl, rfl⟩
attribute [instance] fun23
theorem fun24 : HasFn Try.prog 24 := ⟨Try.f24, _, Try.func24, by kernel_rfl, rfl⟩
attribute [instance] fun24
theorem fun25 : HasFn Try.prog 25 := ⟨Try.f25, _, Try.func25, by kernel_rfl, rfl⟩
attribute [instance] fun25
theorem fun26 : HasFn Try.prog 26 := ⟨Try.f26, _, Try.func26, by kernel_rfl, rfl⟩
attribute [instance] fun26
theorem fun27 : HasFn Try.prog 27 := ⟨Try.f27, _, Try.func27, by kernel_rfl, rfl⟩
attribute [instance] fun27
theorem fun28 : HasFn Try.prog 28 := ⟨Try.f28, _, Try.func28, by kernel_rfl, rfl⟩
attribute [instance] fun28
theorem fun29 : HasFn Try.prog 29 := ⟨Try.f29, _, Try.func29, by kernel_rfl, rfl⟩
attribute [instance] fun29
theorem fun30 : HasFn Try.prog 30 := ⟨Try.f30, _, Try.func30, by kernel_rfl, rfl⟩
attribute [instance] fun30
theorem fun31 : HasFn Try.prog 31 := ⟨Try.f31, _, Try.func31, by kernel_rfl, rfl⟩
attribute [instance] fun31
theorem fun32 : HasFn Try.prog 32 := ⟨Try.f32, _, Try.func32, by kernel_rfl, rfl⟩
attribute [instance] fun32
theorem fun33 : HasFn Try.prog 33 := ⟨Try.f33, _, Try.func33, by kernel_rfl, rfl⟩
attribute [instance] fun33
theorem fun34 : HasFn Try.prog 34 := ⟨Try.f34, _, Try.func34, by kernel_rfl, rfl⟩
attribute [instance] fun34
theorem fun35 : HasFn Try.prog 35 := ⟨Try.f35, _, Try.func35, by kernel_rfl, rfl⟩
attribute [instance] fun35
theorem fun36 : HasFn Try.prog 36 := ⟨Try.f36, _, Try.func36, by kernel_rfl, rfl⟩
attribute [instance] fun36
theorem fun37 : HasFn Try.prog 37 := ⟨Try.f37, _, Try.func37, by kernel_rfl, rfl⟩
attribute [instance] fun37
theorem fun38 : HasFn Try.prog 38 := ⟨Try.f38, _, Try.func38, by kernel_rfl, rfl⟩
attribute [instance] fun38
theorem fun39 : HasFn Try.prog 39 := ⟨Try.f39, _, Try.func39, by kernel_rfl, rfl⟩
attribute [instance] fun39
theorem fun40 : HasFn Try.prog 40 := ⟨Try.f40, _, Try.func40, by kernel_rfl, rfl⟩
attribute [instance] fun40
theorem fun41 : HasFn Try.prog 41 := ⟨Try.f41, _, Try.func41, by kernel_rfl, rfl⟩
attribute [instance] fun41
theorem fun42 : HasFn Try.prog 42 := ⟨Try.f42, _, Try.func42, by kernel_rfl, rfl⟩
attribute [instance] fun42
theorem fun43 : HasFn Try.prog 43 := ⟨Try.f43, _, Try.func43, by kernel_rfl, rfl⟩
attribute [instance] fun43
theorem fun44 : HasFn Try.prog 44 := ⟨Try.f44, _, Try.func44, by kernel_rfl, rfl⟩
attribute [instance] fun44
theorem fun45 : HasFn Try.prog 45 := ⟨Try.f45, _, Try.func45, by kernel_rfl, rfl⟩
attribute [instance] fun45
theorem fun47 : HasFn Try.prog 47 := ⟨Try.f47, _, Try.func47, by kernel_rfl, rfl⟩
attribute [instance] fun47
theorem fun48 : HasFn Try.prog 48 := ⟨Try.f48, _, Try.func48, by kernel_rfl, rfl⟩
attribute [instance] fun48
end Go.Proofs.Ytcjnmehpkcblfaa
