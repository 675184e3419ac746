/- What each type of the program is: instances, off the loaded program. By a program (inst.py). -/
import Derived.Test.YtcjnmehpkcblfaaDoorProg
import Derived.Test.YtcjnmehpkcblfaaDoorWk6
import Derived.KernelRfl
namespace Go.Proofs.YtcjnmehpkcblfaaDoor
open Go Go.Wk
set_option linter.unusedSimpArgs false
set_option linter.unusedVariables false
theorem und0 : Und Tryd.prog 0 (.tuple #[]) := ⟨Tryd.underlying0⟩
attribute [instance] und0
theorem conc0 : Conc Tryd.prog 0 := ⟨_, Tryd.underlying0, rfl⟩
attribute [instance] conc0
theorem one0 : One Tryd.prog 0 := ⟨_, Tryd.underlying0, rfl⟩
attribute [instance] one0
theorem inf0 : Inf Tryd.prog 0 (.tuple #[]) 1 0 := ⟨infH (by kernel_rfl)⟩
attribute [instance] inf0
theorem und1 : Und Tryd.prog 1 (.func #[] #[] false) := ⟨Tryd.underlying1⟩
attribute [instance] und1
theorem conc1 : Conc Tryd.prog 1 := ⟨_, Tryd.underlying1, rfl⟩
attribute [instance] conc1
theorem one1 : One Tryd.prog 1 := ⟨_, Tryd.underlying1, rfl⟩
attribute [instance] one1
theorem inf1 : Inf Tryd.prog 1 .nilFunc 1 8 := ⟨infH (by kernel_rfl)⟩
attribute [instance] inf1
theorem und2 : Und Tryd.prog 2 (.int .i64) := ⟨Tryd.underlying2⟩
attribute [instance] und2
theorem conc2 : Conc Tryd.prog 2 := ⟨_, Tryd.underlying2, rfl⟩
attribute [instance] conc2
theorem one2 : One Tryd.prog 2 := ⟨_, Tryd.underlying2, rfl⟩
attribute [instance] one2
theorem inf2 : Inf Tryd.prog 2 (.int .i64 0) 1 8 := ⟨infH (by kernel_rfl)⟩
attribute [instance] inf2
theorem und3 : Und Tryd.prog 3 (.int .i64) := ⟨Tryd.underlying3⟩
attribute [instance] und3
theorem conc3 : Conc Tryd.prog 3 := ⟨_, Tryd.underlying3, rfl⟩
attribute [instance] conc3
theorem one3 : One Tryd.prog 3 := ⟨_, Tryd.underlying3, rfl⟩
attribute [instance] one3
theorem inf3 : Inf Tryd.prog 3 (.int .i64 0) 1 8 := ⟨infH (by kernel_rfl)⟩
attribute [instance] inf3
theorem und4 : Und Tryd.prog 4 .bool := ⟨Tryd.underlying4⟩
attribute [instance] und4
theorem conc4 : Conc Tryd.prog 4 := ⟨_, Tryd.underlying4, rfl⟩
attribute [instance] conc4
theorem one4 : One Tryd.prog 4 := ⟨_, Tryd.underlying4, rfl⟩
attribute [instance] one4
theorem inf4 : Inf Tryd.prog 4 (.bool false) 1 1 := ⟨infH (by kernel_rfl)⟩
attribute [instance] inf4
theorem und5 : Und Tryd.prog 5 (.int .u8) := ⟨Tryd.underlying5⟩
attribute [instance] und5
theorem conc5 : Conc Tryd.prog 5 := ⟨_, Tryd.underlying5, rfl⟩
attribute [instance] conc5
theorem one5 : One Tryd.prog 5 := ⟨_, Tryd.underlying5, rfl⟩
attribute [instance] one5
theorem inf5 : Inf Tryd.prog 5 (.int .u8 0) 1 1 := ⟨infH (by kernel_rfl)⟩
attribute [instance] inf5
theorem und6 : Und Tryd.prog 6 (.int .u8) := ⟨Tryd.underlying6⟩
attribute [instance] und6
theorem conc6 : Conc Tryd.prog 6 := ⟨_, Tryd.underlying6, rfl⟩
attribute [instance] conc6
theorem one6 : One Tryd.prog 6 := ⟨_, Tryd.underlying6, rfl⟩
attribute [instance] one6
theorem inf6 : Inf Tryd.prog 6 (.int .u8 0) 1 1 := ⟨infH (by kernel_rfl)⟩
attribute [instance] inf6
theorem flds7 : Flds Tryd.prog 7 [(0, 2), (1, 3), (2, 4), (3, 6)] := ⟨_, Tryd.underlying7, rfl⟩
attribute [instance] flds7
theorem ag7 : Ag Tryd.prog 7 := ⟨_, Tryd.underlying7, rfl⟩
attribute [instance] ag7
theorem conc7 : Conc Tryd.prog 7 := ⟨_, Tryd.underlying7, rfl⟩
attribute [instance] conc7
theorem inf7 : Inf Tryd.prog 7 (.agg #[(.int .i64 0), (.int .i64 0), (.bool false), (.int .u8 0)]) 4 24 := ⟨infH (by kernel_rfl)⟩
attribute [instance] inf7
theorem flds8 : Flds Tryd.prog 8 [(0, 2), (1, 3), (2, 4), (3, 6)] := ⟨_, Tryd.underlying8, rfl⟩
attribute [instance] flds8
theorem ag8 : Ag Tryd.prog 8 := ⟨_, Tryd.underlying8, rfl⟩
attribute [instance] ag8
theorem conc8 : Conc Tryd.prog 8 := ⟨_, Tryd.underlying8, rfl⟩
attribute [instance] conc8
theorem inf8 : Inf Tryd.prog 8 (.agg #[(.int .i64 0), (.int .i64 0), (.bool false), (.int .u8 0)]) 4 24 := ⟨infH (by kernel_rfl)⟩
attribute [instance] inf8
theorem und9 : Und Tryd.prog 9 .string := ⟨Tryd.underlying9⟩
attribute [instance] und9
theorem conc9 : Conc Tryd.prog 9 := ⟨_, Tryd.underlying9, rfl⟩
attribute [instance] conc9
theorem one9 : One Tryd.prog 9 := ⟨_, Tryd.underlying9, rfl⟩
attribute [instance] one9
theorem inf9 : Inf Tryd.prog 9 (.string ⟨#[]⟩) 1 16 := ⟨infH (by kernel_rfl)⟩
attribute [instance] inf9
theorem und10 : Und Tryd.prog 10 .string := ⟨Tryd.underlying10⟩
attribute [instance] und10
theorem conc10 : Conc Tryd.prog 10 := ⟨_, Tryd.underlying10, rfl⟩
attribute [instance] conc10
theorem one10 : One Tryd.prog 10 := ⟨_, Tryd.underlying10, rfl⟩
attribute [instance] one10
theorem inf10 : Inf Tryd.prog 10 (.string ⟨#[]⟩) 1 16 := ⟨infH (by kernel_rfl)⟩
attribute [instance] inf10
theorem und11 : Und Tryd.prog 11 .string := ⟨Tryd.underlying11⟩
attribute [instance] und11
theorem conc11 : Conc Tryd.prog 11 := ⟨_, Tryd.underlying11, rfl⟩
attribute [instance] conc11
theorem one11 : One Tryd.prog 11 := ⟨_, Tryd.underlying11, rfl⟩
attribute [instance] one11
theorem inf11 : Inf Tryd.prog 11 (.string ⟨#[]⟩) 1 16 := ⟨infH (by kernel_rfl)⟩
attribute [instance] inf11
theorem und12 : Und Tryd.prog 12 (.int .u64) := ⟨Tryd.underlying12⟩
attribute [instance] und12
theorem conc12 : Conc Tryd.prog 12 := ⟨_, Tryd.underlying12, rfl⟩
attribute [instance] conc12
theorem one12 : One Tryd.prog 12 := ⟨_, Tryd.underlying12, rfl⟩
attribute [instance] one12
theorem inf12 : Inf Tryd.prog 12 (.int .u64 0) 1 8 := ⟨infH (by kernel_rfl)⟩
attribute [instance] inf12
theorem flds13 : Flds Tryd.prog 13 [(0, 9), (1, 12)] := ⟨_, Tryd.underlying13, rfl⟩
attribute [instance] flds13
theorem ag13 : Ag Tryd.prog 13 := ⟨_, Tryd.underlying13, rfl⟩
attribute [instance] ag13
theorem conc13 : Conc Tryd.prog 13 := ⟨_, Tryd.underlying13, rfl⟩
attribute [instance] conc13
theorem inf13 : Inf Tryd.prog 13 (.agg #[(.string ⟨#[]⟩), (.int .u64 0)]) 2 24 := ⟨infH (by kernel_rfl)⟩
attribute [instance] inf13
theorem flds14 : Flds Tryd.prog 14 [(0, 9), (1, 12)] := ⟨_, Tryd.underlying14, rfl⟩
attribute [instance] flds14
theorem ag14 : Ag Tryd.prog 14 := ⟨_, Tryd.underlying14, rfl⟩
attribute [instance] ag14
theorem conc14 : Conc Tryd.prog 14 := ⟨_, Tryd.underlying14, rfl⟩
attribute [instance] conc14
theorem inf14 : Inf Tryd.prog 14 (.agg #[(.string ⟨#[]⟩), (.int .u64 0)]) 2 24 := ⟨infH (by kernel_rfl)⟩
attribute [instance] inf14
theorem und15 : Und Tryd.prog 15 (.pointer 103) := ⟨Tryd.underlying15⟩
attribute [instance] und15
theorem conc15 : Conc Tryd.prog 15 := ⟨_, Tryd.underlying15, rfl⟩
attribute [instance] conc15
theorem one15 : One Tryd.prog 15 := ⟨_, Tryd.underlying15, rfl⟩
attribute [instance] one15
theorem inf15 : Inf Tryd.prog 15 (.pointer none) 1 8 := ⟨infH (by kernel_rfl)⟩
attribute [instance] inf15
theorem und16 : Und Tryd.prog 16 (.pointer 106) := ⟨Tryd.underlying16⟩
attribute [instance] und16
theorem conc16 : Conc Tryd.prog 16 := ⟨_, Tryd.underlying16, rfl⟩
attribute [instance] conc16
theorem one16 : One Tryd.prog 16 := ⟨_, Tryd.underlying16, rfl⟩
attribute [instance] one16
theorem inf16 : Inf Tryd.prog 16 (.pointer none) 1 8 := ⟨infH (by kernel_rfl)⟩
attribute [instance] inf16
theorem und17 : Und Tryd.prog 17 (.pointer 115) := ⟨Tryd.underlying17⟩
attribute [instance] und17
theorem conc17 : Conc Tryd.prog 17 := ⟨_, Tryd.underlying17, rfl⟩
attribute [instance] conc17
theorem one17 : One Tryd.prog 17 := ⟨_, Tryd.underlying17, rfl⟩
attribute [instance] one17
theorem inf17 : Inf Tryd.prog 17 (.pointer none) 1 8 := ⟨infH (by kernel_rfl)⟩
attribute [instance] inf17
theorem flds18 : Flds Tryd.prog 18 [(0, 17)] := ⟨_, Tryd.underlying18, rfl⟩
attribute [instance] flds18
theorem ag18 : Ag Tryd.prog 18 := ⟨_, Tryd.underlying18, rfl⟩
attribute [instance] ag18
theorem conc18 : Conc Tryd.prog 18 := ⟨_, Tryd.underlying18, rfl⟩
attribute [instance] conc18
theorem inf18 : Inf Tryd.prog 18 (.agg #[(.pointer none)]) 1 8 := ⟨infH (by kernel_rfl)⟩
attribute [instance] inf18
theorem flds19 : Flds Tryd.prog 19 [(0, 17)] := ⟨_, Tryd.underlying19, rfl⟩
attribute [instance] flds19
theorem ag19 : Ag Tryd.prog 19 := ⟨_, Tryd.underlying19, rfl⟩
attribute [instance] ag19
theorem conc19 : Conc Tryd.prog 19 := ⟨_, Tryd.underlying19, rfl⟩
attribute [instance] conc19
theorem inf19 : Inf Tryd.prog 19 (.agg #[(.pointer none)]) 1 8 := ⟨infH (by kernel_rfl)⟩
attribute [instance] inf19
theorem ifc20 : Ifc Tryd.prog 20 := ⟨_, Tryd.underlying20⟩
attribute [instance] ifc20
theorem one20 : One Tryd.prog 20 := ⟨_, Tryd.underlying20, rfl⟩
attribute [instance] one20
theorem inf20 : Inf Tryd.prog 20 .nilIface 1 16 := ⟨infH (by kernel_rfl)⟩
attribute [instance] inf20
theorem und21 : Und Tryd.prog 21 (.int .i32) := ⟨Tryd.underlying21⟩
attribute [instance] und21
theorem conc21 : Conc Tryd.prog 21 := ⟨_, Tryd.underlying21, rfl⟩
attribute [instance] conc21
theorem one21 : One Tryd.prog 21 := ⟨_, Tryd.underlying21, rfl⟩
attribute [instance] one21
theorem inf21 : Inf Tryd.prog 21 (.int .i32 0) 1 4 := ⟨infH (by kernel_rfl)⟩
attribute [instance] inf21
theorem und22 : Und Tryd.prog 22 (.slice 36) := ⟨Tryd.underlying22⟩
attribute [instance] und22
theorem conc22 : Conc Tryd.prog 22 := ⟨_, Tryd.underlying22, rfl⟩
attribute [instance] conc22
theorem one22 : One Tryd.prog 22 := ⟨_, Tryd.underlying22, rfl⟩
attribute [instance] one22
theorem inf22 : Inf Tryd.prog 22 (.slice none 0 0) 1 24 := ⟨infH (by kernel_rfl)⟩
attribute [instance] inf22
theorem und23 : Und Tryd.prog 23 (.func #[] #[4] false) := ⟨Tryd.underlying23⟩
attribute [instance] und23
theorem conc23 : Conc Tryd.prog 23 := ⟨_, Tryd.underlying23, rfl⟩
attribute [instance] conc23
theorem one23 : One Tryd.prog 23 := ⟨_, Tryd.underlying23, rfl⟩
attribute [instance] one23
theorem inf23 : Inf Tryd.prog 23 .nilFunc 1 8 := ⟨infH (by kernel_rfl)⟩
attribute [instance] inf23
theorem und24 : Und Tryd.prog 24 (.func #[22, 3] #[4] false) := ⟨Tryd.underlying24⟩
attribute [instance] und24
theorem conc24 : Conc Tryd.prog 24 := ⟨_, Tryd.underlying24, rfl⟩
attribute [instance] conc24
theorem one24 : One Tryd.prog 24 := ⟨_, Tryd.underlying24, rfl⟩
attribute [instance] one24
theorem inf24 : Inf Tryd.prog 24 .nilFunc 1 8 := ⟨infH (by kernel_rfl)⟩
attribute [instance] inf24
theorem und25 : Und Tryd.prog 25 (.pointer 47) := ⟨Tryd.underlying25⟩
attribute [instance] und25
theorem conc25 : Conc Tryd.prog 25 := ⟨_, Tryd.underlying25, rfl⟩
attribute [instance] conc25
theorem one25 : One Tryd.prog 25 := ⟨_, Tryd.underlying25, rfl⟩
attribute [instance] one25
theorem inf25 : Inf Tryd.prog 25 (.pointer none) 1 8 := ⟨infH (by kernel_rfl)⟩
attribute [instance] inf25
theorem und26 : Und Tryd.prog 26 (.func #[] #[25] false) := ⟨Tryd.underlying26⟩
attribute [instance] und26
theorem conc26 : Conc Tryd.prog 26 := ⟨_, Tryd.underlying26, rfl⟩
attribute [instance] conc26
theorem one26 : One Tryd.prog 26 := ⟨_, Tryd.underlying26, rfl⟩
attribute [instance] one26
theorem inf26 : Inf Tryd.prog 26 .nilFunc 1 8 := ⟨infH (by kernel_rfl)⟩
attribute [instance] inf26
theorem und27 : Und Tryd.prog 27 (.int .i64) := ⟨Tryd.underlying27⟩
attribute [instance] und27
theorem conc27 : Conc Tryd.prog 27 := ⟨_, Tryd.underlying27, rfl⟩
attribute [instance] conc27
theorem one27 : One Tryd.prog 27 := ⟨_, Tryd.underlying27, rfl⟩
attribute [instance] one27
theorem inf27 : Inf Tryd.prog 27 (.int .i64 0) 1 8 := ⟨infH (by kernel_rfl)⟩
attribute [instance] inf27
theorem und28 : Und Tryd.prog 28 (.tuple #[22, 27]) := ⟨Tryd.underlying28⟩
attribute [instance] und28
theorem conc28 : Conc Tryd.prog 28 := ⟨_, Tryd.underlying28, rfl⟩
attribute [instance] conc28
theorem one28 : One Tryd.prog 28 := ⟨_, Tryd.underlying28, rfl⟩
attribute [instance] one28
theorem inf28 : Inf Tryd.prog 28 (.tuple #[(.slice none 0 0), (.int .i64 0)]) 1 0 := ⟨infH (by kernel_rfl)⟩
attribute [instance] inf28
theorem und29 : Und Tryd.prog 29 (.func #[22] #[22, 27] false) := ⟨Tryd.underlying29⟩
attribute [instance] und29
theorem conc29 : Conc Tryd.prog 29 := ⟨_, Tryd.underlying29, rfl⟩
attribute [instance] conc29
theorem one29 : One Tryd.prog 29 := ⟨_, Tryd.underlying29, rfl⟩
attribute [instance] one29
theorem inf29 : Inf Tryd.prog 29 .nilFunc 1 8 := ⟨infH (by kernel_rfl)⟩
attribute [instance] inf29
theorem und30 : Und Tryd.prog 30 (.func #[22, 22] #[4] false) := ⟨Tryd.underlying30⟩
attribute [instance] und30
theorem conc30 : Conc Tryd.prog 30 := ⟨_, Tryd.underlying30, rfl⟩
attribute [instance] conc30
theorem one30 : One Tryd.prog 30 := ⟨_, Tryd.underlying30, rfl⟩
attribute [instance] one30
theorem inf30 : Inf Tryd.prog 30 .nilFunc 1 8 := ⟨infH (by kernel_rfl)⟩
attribute [instance] inf30
theorem und31 : Und Tryd.prog 31 (.func #[22] #[22] false) := ⟨Tryd.underlying31⟩
attribute [instance] und31
theorem conc31 : Conc Tryd.prog 31 := ⟨_, Tryd.underlying31, rfl⟩
attribute [instance] conc31
theorem one31 : One Tryd.prog 31 := ⟨_, Tryd.underlying31, rfl⟩
attribute [instance] one31
theorem inf31 : Inf Tryd.prog 31 .nilFunc 1 8 := ⟨infH (by kernel_rfl)⟩
attribute [instance] inf31
theorem und32 : Und Tryd.prog 32 (.slice 9) := ⟨Tryd.underlying32⟩
attribute [instance] und32
theorem conc32 : Conc Tryd.prog 32 := ⟨_, Tryd.underlying32, rfl⟩
attribute [instance] conc32
theorem one32 : One Tryd.prog 32 := ⟨_, Tryd.underlying32, rfl⟩
attribute [instance] one32
theorem inf32 : Inf Tryd.prog 32 (.slice none 0 0) 1 24 := ⟨infH (by kernel_rfl)⟩
attribute [instance] inf32
theorem und33 : Und Tryd.prog 33 (.func #[22] #[32] false) := ⟨Tryd.underlying33⟩
attribute [instance] und33
theorem conc33 : Conc Tryd.prog 33 := ⟨_, Tryd.underlying33, rfl⟩
attribute [instance] conc33
theorem one33 : One Tryd.prog 33 := ⟨_, Tryd.underlying33, rfl⟩
attribute [instance] one33
theorem inf33 : Inf Tryd.prog 33 .nilFunc 1 8 := ⟨infH (by kernel_rfl)⟩
attribute [instance] inf33
theorem und34 : Und Tryd.prog 34 (.func #[22] #[4] false) := ⟨Tryd.underlying34⟩
attribute [instance] und34
theorem conc34 : Conc Tryd.prog 34 := ⟨_, Tryd.underlying34, rfl⟩
attribute [instance] conc34
theorem one34 : One Tryd.prog 34 := ⟨_, Tryd.underlying34, rfl⟩
attribute [instance] one34
theorem inf34 : Inf Tryd.prog 34 .nilFunc 1 8 := ⟨infH (by kernel_rfl)⟩
attribute [instance] inf34
theorem flds35 : Flds Tryd.prog 35 [(0, 9), (1, 22)] := ⟨_, Tryd.underlying35, rfl⟩
attribute [instance] flds35
theorem ag35 : Ag Tryd.prog 35 := ⟨_, Tryd.underlying35, rfl⟩
attribute [instance] ag35
theorem conc35 : Conc Tryd.prog 35 := ⟨_, Tryd.underlying35, rfl⟩
attribute [instance] conc35
theorem inf35 : Inf Tryd.prog 35 (.agg #[(.string ⟨#[]⟩), (.slice none 0 0)]) 2 40 := ⟨infH (by kernel_rfl)⟩
attribute [instance] inf35
theorem flds36 : Flds Tryd.prog 36 [(0, 9), (1, 22)] := ⟨_, Tryd.underlying36, rfl⟩
attribute [instance] flds36
theorem ag36 : Ag Tryd.prog 36 := ⟨_, Tryd.underlying36, rfl⟩
attribute [instance] ag36
theorem conc36 : Conc Tryd.prog 36 := ⟨_, Tryd.underlying36, rfl⟩
attribute [instance] conc36
theorem inf36 : Inf Tryd.prog 36 (.agg #[(.string ⟨#[]⟩), (.slice none 0 0)]) 2 40 := ⟨infH (by kernel_rfl)⟩
attribute [instance] inf36
theorem und37 : Und Tryd.prog 37 (.func #[9, 22] #[36] true) := ⟨Tryd.underlying37⟩
attribute [instance] und37
theorem conc37 : Conc Tryd.prog 37 := ⟨_, Tryd.underlying37, rfl⟩
attribute [instance] conc37
theorem one37 : One Tryd.prog 37 := ⟨_, Tryd.underlying37, rfl⟩
attribute [instance] one37
theorem inf37 : Inf Tryd.prog 37 .nilFunc 1 8 := ⟨infH (by kernel_rfl)⟩
attribute [instance] inf37
theorem und38 : Und Tryd.prog 38 (.func #[36, 36] #[27] false) := ⟨Tryd.underlying38⟩
attribute [instance] und38
theorem conc38 : Conc Tryd.prog 38 := ⟨_, Tryd.underlying38, rfl⟩
attribute [instance] conc38
theorem one38 : One Tryd.prog 38 := ⟨_, Tryd.underlying38, rfl⟩
attribute [instance] one38
theorem inf38 : Inf Tryd.prog 38 .nilFunc 1 8 := ⟨infH (by kernel_rfl)⟩
attribute [instance] inf38
theorem und39 : Und Tryd.prog 39 (.func #[25, 36, 36] #[4] false) := ⟨Tryd.underlying39⟩
attribute [instance] und39
theorem conc39 : Conc Tryd.prog 39 := ⟨_, Tryd.underlying39, rfl⟩
attribute [instance] conc39
theorem one39 : One Tryd.prog 39 := ⟨_, Tryd.underlying39, rfl⟩
attribute [instance] one39
theorem inf39 : Inf Tryd.prog 39 .nilFunc 1 8 := ⟨infH (by kernel_rfl)⟩
attribute [instance] inf39
theorem und40 : Und Tryd.prog 40 (.func #[36] #[4] false) := ⟨Tryd.underlying40⟩
attribute [instance] und40
theorem conc40 : Conc Tryd.prog 40 := ⟨_, Tryd.underlying40, rfl⟩
attribute [instance] conc40
theorem one40 : One Tryd.prog 40 := ⟨_, Tryd.underlying40, rfl⟩
attribute [instance] one40
theorem inf40 : Inf Tryd.prog 40 .nilFunc 1 8 := ⟨infH (by kernel_rfl)⟩
attribute [instance] inf40
theorem und41 : Und Tryd.prog 41 (.tuple #[3, 3]) := ⟨Tryd.underlying41⟩
attribute [instance] und41
theorem conc41 : Conc Tryd.prog 41 := ⟨_, Tryd.underlying41, rfl⟩
attribute [instance] conc41
theorem one41 : One Tryd.prog 41 := ⟨_, Tryd.underlying41, rfl⟩
attribute [instance] one41
theorem inf41 : Inf Tryd.prog 41 (.tuple #[(.int .i64 0), (.int .i64 0)]) 1 0 := ⟨infH (by kernel_rfl)⟩
attribute [instance] inf41
theorem und42 : Und Tryd.prog 42 (.func #[36] #[3, 3] false) := ⟨Tryd.underlying42⟩
attribute [instance] und42
theorem conc42 : Conc Tryd.prog 42 := ⟨_, Tryd.underlying42, rfl⟩
attribute [instance] conc42
theorem one42 : One Tryd.prog 42 := ⟨_, Tryd.underlying42, rfl⟩
attribute [instance] one42
theorem inf42 : Inf Tryd.prog 42 .nilFunc 1 8 := ⟨infH (by kernel_rfl)⟩
attribute [instance] inf42
theorem und43 : Und Tryd.prog 43 (.map 9 3) := ⟨Tryd.underlying43⟩
attribute [instance] und43
theorem conc43 : Conc Tryd.prog 43 := ⟨_, Tryd.underlying43, rfl⟩
attribute [instance] conc43
theorem one43 : One Tryd.prog 43 := ⟨_, Tryd.underlying43, rfl⟩
attribute [instance] one43
theorem inf43 : Inf Tryd.prog 43 (.map none) 1 8 := ⟨infH (by kernel_rfl)⟩
attribute [instance] inf43
theorem und44 : Und Tryd.prog 44 (.slice 66) := ⟨Tryd.underlying44⟩
attribute [instance] und44
theorem conc44 : Conc Tryd.prog 44 := ⟨_, Tryd.underlying44, rfl⟩
attribute [instance] conc44
theorem one44 : One Tryd.prog 44 := ⟨_, Tryd.underlying44, rfl⟩
attribute [instance] one44
theorem inf44 : Inf Tryd.prog 44 (.slice none 0 0) 1 24 := ⟨infH (by kernel_rfl)⟩
attribute [instance] inf44
theorem und45 : Und Tryd.prog 45 (.slice 3) := ⟨Tryd.underlying45⟩
attribute [instance] und45
theorem conc45 : Conc Tryd.prog 45 := ⟨_, Tryd.underlying45, rfl⟩
attribute [instance] conc45
theorem one45 : One Tryd.prog 45 := ⟨_, Tryd.underlying45, rfl⟩
attribute [instance] one45
theorem inf45 : Inf Tryd.prog 45 (.slice none 0 0) 1 24 := ⟨infH (by kernel_rfl)⟩
attribute [instance] inf45
theorem flds46 : Flds Tryd.prog 46 [(0, 44), (1, 43), (2, 45), (3, 45), (4, 32), (5, 3)] := ⟨_, Tryd.underlying46, rfl⟩
attribute [instance] flds46
theorem ag46 : Ag Tryd.prog 46 := ⟨_, Tryd.underlying46, rfl⟩
attribute [instance] ag46
theorem conc46 : Conc Tryd.prog 46 := ⟨_, Tryd.underlying46, rfl⟩
attribute [instance] conc46
theorem inf46 : Inf Tryd.prog 46 (.agg #[(.slice none 0 0), (.map none), (.slice none 0 0), (.slice none 0 0), (.slice none 0 0), (.int .i64 0)]) 6 112 := ⟨infH (by kernel_rfl)⟩
attribute [instance] inf46
theorem flds47 : Flds Tryd.prog 47 [(0, 44), (1, 43), (2, 45), (3, 45), (4, 32), (5, 3)] := ⟨_, Tryd.underlying47, rfl⟩
attribute [instance] flds47
theorem ag47 : Ag Tryd.prog 47 := ⟨_, Tryd.underlying47, rfl⟩
attribute [instance] ag47
theorem conc47 : Conc Tryd.prog 47 := ⟨_, Tryd.underlying47, rfl⟩
attribute [instance] conc47
theorem inf47 : Inf Tryd.prog 47 (.agg #[(.slice none 0 0), (.map none), (.slice none 0 0), (.slice none 0 0), (.slice none 0 0), (.int .i64 0)]) 6 112 := ⟨infH (by kernel_rfl)⟩
attribute [instance] inf47
theorem und48 : Und Tryd.prog 48 (.func #[36] #[3] false) := ⟨Tryd.underlying48⟩
attribute [instance] und48
theorem conc48 : Conc Tryd.prog 48 := ⟨_, Tryd.underlying48, rfl⟩
attribute [instance] conc48
theorem one48 : One Tryd.prog 48 := ⟨_, Tryd.underlying48, rfl⟩
attribute [instance] one48
theorem inf48 : Inf Tryd.prog 48 .nilFunc 1 8 := ⟨infH (by kernel_rfl)⟩
attribute [instance] inf48
theorem und49 : Und Tryd.prog 49 (.func #[] #[36] false) := ⟨Tryd.underlying49⟩
attribute [instance] und49
theorem conc49 : Conc Tryd.prog 49 := ⟨_, Tryd.underlying49, rfl⟩
attribute [instance] conc49
theorem one49 : One Tryd.prog 49 := ⟨_, Tryd.underlying49, rfl⟩
attribute [instance] one49
theorem inf49 : Inf Tryd.prog 49 .nilFunc 1 8 := ⟨infH (by kernel_rfl)⟩
attribute [instance] inf49
theorem und50 : Und Tryd.prog 50 (.func #[22, 51] #[22] false) := ⟨Tryd.underlying50⟩
attribute [instance] und50
theorem conc50 : Conc Tryd.prog 50 := ⟨_, Tryd.underlying50, rfl⟩
attribute [instance] conc50
theorem one50 : One Tryd.prog 50 := ⟨_, Tryd.underlying50, rfl⟩
attribute [instance] one50
theorem inf50 : Inf Tryd.prog 50 .nilFunc 1 8 := ⟨infH (by kernel_rfl)⟩
attribute [instance] inf50
theorem und51 : Und Tryd.prog 51 (.func #[3] #[9] false) := ⟨Tryd.underlying51⟩
attribute [instance] und51
theorem conc51 : Conc Tryd.prog 51 := ⟨_, Tryd.underlying51, rfl⟩
attribute [instance] conc51
theorem one51 : One Tryd.prog 51 := ⟨_, Tryd.underlying51, rfl⟩
attribute [instance] one51
theorem inf51 : Inf Tryd.prog 51 .nilFunc 1 8 := ⟨infH (by kernel_rfl)⟩
attribute [instance] inf51
theorem und52 : Und Tryd.prog 52 (.func #[36, 36] #[4] false) := ⟨Tryd.underlying52⟩
attribute [instance] und52
theorem conc52 : Conc Tryd.prog 52 := ⟨_, Tryd.underlying52, rfl⟩
attribute [instance] conc52
theorem one52 : One Tryd.prog 52 := ⟨_, Tryd.underlying52, rfl⟩
attribute [instance] one52
theorem inf52 : Inf Tryd.prog 52 .nilFunc 1 8 := ⟨infH (by kernel_rfl)⟩
attribute [instance] inf52
theorem und53 : Und Tryd.prog 53 (.func #[36, 54] #[36] false) := ⟨Tryd.underlying53⟩
attribute [instance] und53
theorem conc53 : Conc Tryd.prog 53 := ⟨_, Tryd.underlying53, rfl⟩
attribute [instance] conc53
theorem one53 : One Tryd.prog 53 := ⟨_, Tryd.underlying53, rfl⟩
attribute [instance] one53
theorem inf53 : Inf Tryd.prog 53 .nilFunc 1 8 := ⟨infH (by kernel_rfl)⟩
attribute [instance] inf53
theorem und54 : Und Tryd.prog 54 (.func #[9] #[36, 4] false) := ⟨Tryd.underlying54⟩
attribute [instance] und54
theorem conc54 : Conc Tryd.prog 54 := ⟨_, Tryd.underlying54, rfl⟩
attribute [instance] conc54
theorem one54 : One Tryd.prog 54 := ⟨_, Tryd.underlying54, rfl⟩
attribute [instance] one54
theorem inf54 : Inf Tryd.prog 54 .nilFunc 1 8 := ⟨infH (by kernel_rfl)⟩
attribute [instance] inf54
theorem und55 : Und Tryd.prog 55 (.func #[3, 3] #[4] false) := ⟨Tryd.underlying55⟩
attribute [instance] und55
theorem conc55 : Conc Tryd.prog 55 := ⟨_, Tryd.underlying55, rfl⟩
attribute [instance] conc55
theorem one55 : One Tryd.prog 55 := ⟨_, Tryd.underlying55, rfl⟩
attribute [instance] one55
theorem inf55 : Inf Tryd.prog 55 .nilFunc 1 8 := ⟨infH (by kernel_rfl)⟩
attribute [instance] inf55
theorem und56 : Und Tryd.prog 56 (.func #[3, 57] #[4] false) := ⟨Tryd.underlying56⟩
attribute [instance] und56
theorem conc56 : Conc Tryd.prog 56 := ⟨_, Tryd.underlying56, rfl⟩
attribute [instance] conc56
theorem one56 : One Tryd.prog 56 := ⟨_, Tryd.underlying56, rfl⟩
attribute [instance] one56
theorem inf56 : Inf Tryd.prog 56 .nilFunc 1 8 := ⟨infH (by kernel_rfl)⟩
attribute [instance] inf56
theorem und57 : Und Tryd.prog 57 (.map 3 3) := ⟨Tryd.underlying57⟩
attribute [instance] und57
theorem conc57 : Conc Tryd.prog 57 := ⟨_, Tryd.underlying57, rfl⟩
attribute [instance] conc57
theorem one57 : One Tryd.prog 57 := ⟨_, Tryd.underlying57, rfl⟩
attribute [instance] one57
theorem inf57 : Inf Tryd.prog 57 (.map none) 1 8 := ⟨infH (by kernel_rfl)⟩
attribute [instance] inf57
theorem und58 : Und Tryd.prog 58 (.tuple #[36, 27]) := ⟨Tryd.underlying58⟩
attribute [instance] und58
theorem conc58 : Conc Tryd.prog 58 := ⟨_, Tryd.underlying58, rfl⟩
attribute [instance] conc58
theorem one58 : One Tryd.prog 58 := ⟨_, Tryd.underlying58, rfl⟩
attribute [instance] one58
theorem inf58 : Inf Tryd.prog 58 (.tuple #[(.agg #[(.string ⟨#[]⟩), (.slice none 0 0)]), (.int .i64 0)]) 1 0 := ⟨infH (by kernel_rfl)⟩
attribute [instance] inf58
theorem und59 : Und Tryd.prog 59 (.func #[36] #[36, 27] false) := ⟨Tryd.underlying59⟩
attribute [instance] und59
theorem conc59 : Conc Tryd.prog 59 := ⟨_, Tryd.underlying59, rfl⟩
attribute [instance] conc59
theorem one59 : One Tryd.prog 59 := ⟨_, Tryd.underlying59, rfl⟩
attribute [instance] one59
theorem inf59 : Inf Tryd.prog 59 .nilFunc 1 8 := ⟨infH (by kernel_rfl)⟩
attribute [instance] inf59
theorem und60 : Und Tryd.prog 60 (.func #[36, 3, 61] #[4] false) := ⟨Tryd.underlying60⟩
attribute [instance] und60
theorem conc60 : Conc Tryd.prog 60 := ⟨_, Tryd.underlying60, rfl⟩
attribute [instance] conc60
theorem one60 : One Tryd.prog 60 := ⟨_, Tryd.underlying60, rfl⟩
attribute [instance] one60
theorem inf60 : Inf Tryd.prog 60 .nilFunc 1 8 := ⟨infH (by kernel_rfl)⟩
attribute [instance] inf60
theorem und61 : Und Tryd.prog 61 (.pointer 3) := ⟨Tryd.underlying61⟩
attribute [instance] und61
theorem conc61 : Conc Tryd.prog 61 := ⟨_, Tryd.underlying61, rfl⟩
attribute [instance] conc61
theorem one61 : One Tryd.prog 61 := ⟨_, Tryd.underlying61, rfl⟩
attribute [instance] one61
theorem inf61 : Inf Tryd.prog 61 (.pointer none) 1 8 := ⟨infH (by kernel_rfl)⟩
attribute [instance] inf61
theorem und62 : Und Tryd.prog 62 (.func #[22, 40] #[4] false) := ⟨Tryd.underlying62⟩
attribute [instance] und62
theorem conc62 : Conc Tryd.prog 62 := ⟨_, Tryd.underlying62, rfl⟩
attribute [instance] conc62
theorem one62 : One Tryd.prog 62 := ⟨_, Tryd.underlying62, rfl⟩
attribute [instance] one62
theorem inf62 : Inf Tryd.prog 62 .nilFunc 1 8 := ⟨infH (by kernel_rfl)⟩
attribute [instance] inf62
theorem und63 : Und Tryd.prog 63 (.tuple #[3, 4]) := ⟨Tryd.underlying63⟩
attribute [instance] und63
theorem conc63 : Conc Tryd.prog 63 := ⟨_, Tryd.underlying63, rfl⟩
attribute [instance] conc63
theorem one63 : One Tryd.prog 63 := ⟨_, Tryd.underlying63, rfl⟩
attribute [instance] one63
theorem inf63 : Inf Tryd.prog 63 (.tuple #[(.int .i64 0), (.bool false)]) 1 0 := ⟨infH (by kernel_rfl)⟩
attribute [instance] inf63
theorem und64 : Und Tryd.prog 64 (.func #[66, 3, 9] #[3] false) := ⟨Tryd.underlying64⟩
attribute [instance] und64
theorem conc64 : Conc Tryd.prog 64 := ⟨_, Tryd.underlying64, rfl⟩
attribute [instance] conc64
theorem one64 : One Tryd.prog 64 := ⟨_, Tryd.underlying64, rfl⟩
attribute [instance] one64
theorem inf64 : Inf Tryd.prog 64 .nilFunc 1 8 := ⟨infH (by kernel_rfl)⟩
attribute [instance] inf64
theorem flds65 : Flds Tryd.prog 65 [(0, 9), (1, 45)] := ⟨_, Tryd.underlying65, rfl⟩
attribute [instance] flds65
theorem ag65 : Ag Tryd.prog 65 := ⟨_, Tryd.underlying65, rfl⟩
attribute [instance] ag65
theorem conc65 : Conc Tryd.prog 65 := ⟨_, Tryd.underlying65, rfl⟩
attribute [instance] conc65
theorem inf65 : Inf Tryd.prog 65 (.agg #[(.string ⟨#[]⟩), (.slice none 0 0)]) 2 40 := ⟨infH (by kernel_rfl)⟩
attribute [instance] inf65
theorem flds66 : Flds Tryd.prog 66 [(0, 9), (1, 45)] := ⟨_, Tryd.underlying66, rfl⟩
attribute [instance] flds66
theorem ag66 : Ag Tryd.prog 66 := ⟨_, Tryd.underlying66, rfl⟩
attribute [instance] ag66
theorem conc66 : Conc Tryd.prog 66 := ⟨_, Tryd.underlying66, rfl⟩
attribute [instance] conc66
theorem inf66 : Inf Tryd.prog 66 (.agg #[(.string ⟨#[]⟩), (.slice none 0 0)]) 2 40 := ⟨infH (by kernel_rfl)⟩
attribute [instance] inf66
theorem und67 : Und Tryd.prog 67 (.func #[32, 9] #[3] false) := ⟨Tryd.underlying67⟩
attribute [instance] und67
theorem conc67 : Conc Tryd.prog 67 := ⟨_, Tryd.underlying67, rfl⟩
attribute [instance] conc67
theorem one67 : One Tryd.prog 67 := ⟨_, Tryd.underlying67, rfl⟩
attribute [instance] one67
theorem inf67 : Inf Tryd.prog 67 .nilFunc 1 8 := ⟨infH (by kernel_rfl)⟩
attribute [instance] inf67
theorem und68 : Und Tryd.prog 68 (.tuple #[36, 4]) := ⟨Tryd.underlying68⟩
attribute [instance] und68
theorem conc68 : Conc Tryd.prog 68 := ⟨_, Tryd.underlying68, rfl⟩
attribute [instance] conc68
theorem one68 : One Tryd.prog 68 := ⟨_, Tryd.underlying68, rfl⟩
attribute [instance] one68
theorem inf68 : Inf Tryd.prog 68 (.tuple #[(.agg #[(.string ⟨#[]⟩), (.slice none 0 0)]), (.bool false)]) 1 0 := ⟨infH (by kernel_rfl)⟩
attribute [instance] inf68
theorem und69 : Und Tryd.prog 69 (.func #[44] #[44] false) := ⟨Tryd.underlying69⟩
attribute [instance] und69
theorem conc69 : Conc Tryd.prog 69 := ⟨_, Tryd.underlying69, rfl⟩
attribute [instance] conc69
theorem one69 : One Tryd.prog 69 := ⟨_, Tryd.underlying69, rfl⟩
attribute [instance] one69
theorem inf69 : Inf Tryd.prog 69 .nilFunc 1 8 := ⟨infH (by kernel_rfl)⟩
attribute [instance] inf69
theorem und70 : Und Tryd.prog 70 (.func #[43] #[43] false) := ⟨Tryd.underlying70⟩
attribute [instance] und70
theorem conc70 : Conc Tryd.prog 70 := ⟨_, Tryd.underlying70, rfl⟩
attribute [instance] conc70
theorem one70 : One Tryd.prog 70 := ⟨_, Tryd.underlying70, rfl⟩
attribute [instance] one70
theorem inf70 : Inf Tryd.prog 70 .nilFunc 1 8 := ⟨infH (by kernel_rfl)⟩
attribute [instance] inf70
theorem und71 : Und Tryd.prog 71 (.func #[45] #[45] false) := ⟨Tryd.underlying71⟩
attribute [instance] und71
theorem conc71 : Conc Tryd.prog 71 := ⟨_, Tryd.underlying71, rfl⟩
attribute [instance] conc71
theorem one71 : One Tryd.prog 71 := ⟨_, Tryd.underlying71, rfl⟩
attribute [instance] one71
theorem inf71 : Inf Tryd.prog 71 .nilFunc 1 8 := ⟨infH (by kernel_rfl)⟩
attribute [instance] inf71
theorem und72 : Und Tryd.prog 72 (.func #[32] #[32] false) := ⟨Tryd.underlying72⟩
attribute [instance] und72
theorem conc72 : Conc Tryd.prog 72 := ⟨_, Tryd.underlying72, rfl⟩
attribute [instance] conc72
theorem one72 : One Tryd.prog 72 := ⟨_, Tryd.underlying72, rfl⟩
attribute [instance] one72
theorem inf72 : Inf Tryd.prog 72 .nilFunc 1 8 := ⟨infH (by kernel_rfl)⟩
attribute [instance] inf72
theorem flds73 : Flds Tryd.prog 73 [(0, 3), (1, 3)] := ⟨_, Tryd.underlying73, rfl⟩
attribute [instance] flds73
theorem ag73 : Ag Tryd.prog 73 := ⟨_, Tryd.underlying73, rfl⟩
attribute [instance] ag73
theorem conc73 : Conc Tryd.prog 73 := ⟨_, Tryd.underlying73, rfl⟩
attribute [instance] conc73
theorem inf73 : Inf Tryd.prog 73 (.agg #[(.int .i64 0), (.int .i64 0)]) 2 16 := ⟨infH (by kernel_rfl)⟩
attribute [instance] inf73
theorem flds74 : Flds Tryd.prog 74 [(0, 3), (1, 3)] := ⟨_, Tryd.underlying74, rfl⟩
attribute [instance] flds74
theorem ag74 : Ag Tryd.prog 74 := ⟨_, Tryd.underlying74, rfl⟩
attribute [instance] ag74
theorem conc74 : Conc Tryd.prog 74 := ⟨_, Tryd.underlying74, rfl⟩
attribute [instance] conc74
theorem inf74 : Inf Tryd.prog 74 (.agg #[(.int .i64 0), (.int .i64 0)]) 2 16 := ⟨infH (by kernel_rfl)⟩
attribute [instance] inf74
theorem und75 : Und Tryd.prog 75 (.slice 74) := ⟨Tryd.underlying75⟩
attribute [instance] und75
theorem conc75 : Conc Tryd.prog 75 := ⟨_, Tryd.underlying75, rfl⟩
attribute [instance] conc75
theorem one75 : One Tryd.prog 75 := ⟨_, Tryd.underlying75, rfl⟩
attribute [instance] one75
theorem inf75 : Inf Tryd.prog 75 (.slice none 0 0) 1 24 := ⟨infH (by kernel_rfl)⟩
attribute [instance] inf75
theorem und76 : Und Tryd.prog 76 (.func #[3] #[3] false) := ⟨Tryd.underlying76⟩
attribute [instance] und76
theorem conc76 : Conc Tryd.prog 76 := ⟨_, Tryd.underlying76, rfl⟩
attribute [instance] conc76
theorem one76 : One Tryd.prog 76 := ⟨_, Tryd.underlying76, rfl⟩
attribute [instance] one76
theorem inf76 : Inf Tryd.prog 76 .nilFunc 1 8 := ⟨infH (by kernel_rfl)⟩
attribute [instance] inf76
theorem und77 : Und Tryd.prog 77 (.func #[9, 9] #[9] false) := ⟨Tryd.underlying77⟩
attribute [instance] und77
theorem conc77 : Conc Tryd.prog 77 := ⟨_, Tryd.underlying77, rfl⟩
attribute [instance] conc77
theorem one77 : One Tryd.prog 77 := ⟨_, Tryd.underlying77, rfl⟩
attribute [instance] one77
theorem inf77 : Inf Tryd.prog 77 .nilFunc 1 8 := ⟨infH (by kernel_rfl)⟩
attribute [instance] inf77
theorem und78 : Und Tryd.prog 78 (.func #[45, 79] #[4] false) := ⟨Tryd.underlying78⟩
attribute [instance] und78
theorem conc78 : Conc Tryd.prog 78 := ⟨_, Tryd.underlying78, rfl⟩
attribute [instance] conc78
theorem one78 : One Tryd.prog 78 := ⟨_, Tryd.underlying78, rfl⟩
attribute [instance] one78
theorem inf78 : Inf Tryd.prog 78 .nilFunc 1 8 := ⟨infH (by kernel_rfl)⟩
attribute [instance] inf78
theorem und79 : Und Tryd.prog 79 (.func #[3] #[4] false) := ⟨Tryd.underlying79⟩
attribute [instance] und79
theorem conc79 : Conc Tryd.prog 79 := ⟨_, Tryd.underlying79, rfl⟩
attribute [instance] conc79
theorem one79 : One Tryd.prog 79 := ⟨_, Tryd.underlying79, rfl⟩
attribute [instance] one79
theorem inf79 : Inf Tryd.prog 79 .nilFunc 1 8 := ⟨infH (by kernel_rfl)⟩
attribute [instance] inf79
theorem und80 : Und Tryd.prog 80 (.func #[3, 3, 61] #[36, 4] false) := ⟨Tryd.underlying80⟩
attribute [instance] und80
theorem conc80 : Conc Tryd.prog 80 := ⟨_, Tryd.underlying80, rfl⟩
attribute [instance] conc80
theorem one80 : One Tryd.prog 80 := ⟨_, Tryd.underlying80, rfl⟩
attribute [instance] one80
theorem inf80 : Inf Tryd.prog 80 .nilFunc 1 8 := ⟨infH (by kernel_rfl)⟩
attribute [instance] inf80
theorem und81 : Und Tryd.prog 81 (.func #[22, 40] #[3] false) := ⟨Tryd.underlying81⟩
attribute [instance] und81
theorem conc81 : Conc Tryd.prog 81 := ⟨_, Tryd.underlying81, rfl⟩
attribute [instance] conc81
theorem one81 : One Tryd.prog 81 := ⟨_, Tryd.underlying81, rfl⟩
attribute [instance] one81
theorem inf81 : Inf Tryd.prog 81 .nilFunc 1 8 := ⟨infH (by kernel_rfl)⟩
attribute [instance] inf81
theorem und82 : Und Tryd.prog 82 (.func #[20] #[20] false) := ⟨Tryd.underlying82⟩
attribute [instance] und82
theorem conc82 : Conc Tryd.prog 82 := ⟨_, Tryd.underlying82, rfl⟩
attribute [instance] conc82
theorem one82 : One Tryd.prog 82 := ⟨_, Tryd.underlying82, rfl⟩
attribute [instance] one82
theorem inf82 : Inf Tryd.prog 82 .nilFunc 1 8 := ⟨infH (by kernel_rfl)⟩
attribute [instance] inf82
theorem und83 : Und Tryd.prog 83 (.func #[45, 79] #[3] false) := ⟨Tryd.underlying83⟩
attribute [instance] und83
theorem conc83 : Conc Tryd.prog 83 := ⟨_, Tryd.underlying83, rfl⟩
attribute [instance] conc83
theorem one83 : One Tryd.prog 83 := ⟨_, Tryd.underlying83, rfl⟩
attribute [instance] one83
theorem inf83 : Inf Tryd.prog 83 .nilFunc 1 8 := ⟨infH (by kernel_rfl)⟩
attribute [instance] inf83
theorem und84 : Und Tryd.prog 84 (.func #[2, 3] #[9] false) := ⟨Tryd.underlying84⟩
attribute [instance] und84
theorem conc84 : Conc Tryd.prog 84 := ⟨_, Tryd.underlying84, rfl⟩
attribute [instance] conc84
theorem one84 : One Tryd.prog 84 := ⟨_, Tryd.underlying84, rfl⟩
attribute [instance] one84
theorem inf84 : Inf Tryd.prog 84 .nilFunc 1 8 := ⟨infH (by kernel_rfl)⟩
attribute [instance] inf84
theorem und85 : Und Tryd.prog 85 (.array 24 5) := ⟨Tryd.underlying85⟩
attribute [instance] und85
theorem conc85 : Conc Tryd.prog 85 := ⟨_, Tryd.underlying85, rfl⟩
attribute [instance] conc85
theorem ag85 : Ag Tryd.prog 85 := ⟨_, Tryd.underlying85, rfl⟩
attribute [instance] ag85
theorem inf85 : Inf Tryd.prog 85 (.agg #[(.int .u8 0), (.int .u8 0), (.int .u8 0), (.int .u8 0), (.int .u8 0), (.int .u8 0), (.int .u8 0), (.int .u8 0), (.int .u8 0), (.int .u8 0), (.int .u8 0), (.int .u8 0), (.int .u8 0), (.int .u8 0), (.int .u8 0), (.int .u8 0), (.int .u8 0), (.int .u8 0), (.int .u8 0), (.int .u8 0), (.int .u8 0), (.int .u8 0), (.int .u8 0), (.int .u8 0)]) 24 24 := ⟨infH (by kernel_rfl)⟩
attribute [instance] inf85
theorem und86 : Und Tryd.prog 86 (.int .u64) := ⟨Tryd.underlying86⟩
attribute [instance] und86
theorem conc86 : Conc Tryd.prog 86 := ⟨_, Tryd.underlying86, rfl⟩
attribute [instance] conc86
theorem one86 : One Tryd.prog 86 := ⟨_, Tryd.underlying86, rfl⟩
attribute [instance] one86
theorem inf86 : Inf Tryd.prog 86 (.int .u64 0) 1 8 := ⟨infH (by kernel_rfl)⟩
attribute [instance] inf86
theorem und87 : Und Tryd.prog 87 (.func #[86] #[3] false) := ⟨Tryd.underlying87⟩
attribute [instance] und87
theorem conc87 : Conc Tryd.prog 87 := ⟨_, Tryd.underlying87, rfl⟩
attribute [instance] conc87
theorem one87 : One Tryd.prog 87 := ⟨_, Tryd.underlying87, rfl⟩
attribute [instance] one87
theorem inf87 : Inf Tryd.prog 87 .nilFunc 1 8 := ⟨infH (by kernel_rfl)⟩
attribute [instance] inf87
theorem und88 : Und Tryd.prog 88 (.func #[89, 86] #[] false) := ⟨Tryd.underlying88⟩
attribute [instance] und88
theorem conc88 : Conc Tryd.prog 88 := ⟨_, Tryd.underlying88, rfl⟩
attribute [instance] conc88
theorem one88 : One Tryd.prog 88 := ⟨_, Tryd.underlying88, rfl⟩
attribute [instance] one88
theorem inf88 : Inf Tryd.prog 88 .nilFunc 1 8 := ⟨infH (by kernel_rfl)⟩
attribute [instance] inf88
theorem und89 : Und Tryd.prog 89 (.slice 5) := ⟨Tryd.underlying89⟩
attribute [instance] und89
theorem conc89 : Conc Tryd.prog 89 := ⟨_, Tryd.underlying89, rfl⟩
attribute [instance] conc89
theorem one89 : One Tryd.prog 89 := ⟨_, Tryd.underlying89, rfl⟩
attribute [instance] one89
theorem inf89 : Inf Tryd.prog 89 (.slice none 0 0) 1 24 := ⟨infH (by kernel_rfl)⟩
attribute [instance] inf89
theorem und90 : Und Tryd.prog 90 (.tuple #[89, 9]) := ⟨Tryd.underlying90⟩
attribute [instance] und90
theorem conc90 : Conc Tryd.prog 90 := ⟨_, Tryd.underlying90, rfl⟩
attribute [instance] conc90
theorem one90 : One Tryd.prog 90 := ⟨_, Tryd.underlying90, rfl⟩
attribute [instance] one90
theorem inf90 : Inf Tryd.prog 90 (.tuple #[(.slice none 0 0), (.string ⟨#[]⟩)]) 1 0 := ⟨infH (by kernel_rfl)⟩
attribute [instance] inf90
theorem und91 : Und Tryd.prog 91 (.func #[89, 86, 3, 4, 4] #[89, 9] false) := ⟨Tryd.underlying91⟩
attribute [instance] und91
theorem conc91 : Conc Tryd.prog 91 := ⟨_, Tryd.underlying91, rfl⟩
attribute [instance] conc91
theorem one91 : One Tryd.prog 91 := ⟨_, Tryd.underlying91, rfl⟩
attribute [instance] one91
theorem inf91 : Inf Tryd.prog 91 .nilFunc 1 8 := ⟨infH (by kernel_rfl)⟩
attribute [instance] inf91
theorem und92 : Und Tryd.prog 92 (.func #[4] #[3] false) := ⟨Tryd.underlying92⟩
attribute [instance] und92
theorem conc92 : Conc Tryd.prog 92 := ⟨_, Tryd.underlying92, rfl⟩
attribute [instance] conc92
theorem one92 : One Tryd.prog 92 := ⟨_, Tryd.underlying92, rfl⟩
attribute [instance] one92
theorem inf92 : Inf Tryd.prog 92 .nilFunc 1 8 := ⟨infH (by kernel_rfl)⟩
attribute [instance] inf92
theorem und93 : Und Tryd.prog 93 (.array 20 86) := ⟨Tryd.underlying93⟩
attribute [instance] und93
theorem conc93 : Conc Tryd.prog 93 := ⟨_, Tryd.underlying93, rfl⟩
attribute [instance] conc93
theorem ag93 : Ag Tryd.prog 93 := ⟨_, Tryd.underlying93, rfl⟩
attribute [instance] ag93
theorem inf93 : Inf Tryd.prog 93 (.agg #[(.int .u64 0), (.int .u64 0), (.int .u64 0), (.int .u64 0), (.int .u64 0), (.int .u64 0), (.int .u64 0), (.int .u64 0), (.int .u64 0), (.int .u64 0), (.int .u64 0), (.int .u64 0), (.int .u64 0), (.int .u64 0), (.int .u64 0), (.int .u64 0), (.int .u64 0), (.int .u64 0), (.int .u64 0), (.int .u64 0)]) 20 160 := ⟨infH (by kernel_rfl)⟩
attribute [instance] inf93
theorem und94 : Und Tryd.prog 94 (.int .u32) := ⟨Tryd.underlying94⟩
attribute [instance] und94
theorem conc94 : Conc Tryd.prog 94 := ⟨_, Tryd.underlying94, rfl⟩
attribute [instance] conc94
theorem one94 : One Tryd.prog 94 := ⟨_, Tryd.underlying94, rfl⟩
attribute [instance] one94
theorem inf94 : Inf Tryd.prog 94 (.int .u32 0) 1 4 := ⟨infH (by kernel_rfl)⟩
attribute [instance] inf94
theorem und95 : Und Tryd.prog 95 (.array 65 5) := ⟨Tryd.underlying95⟩
attribute [instance] und95
theorem conc95 : Conc Tryd.prog 95 := ⟨_, Tryd.underlying95, rfl⟩
attribute [instance] conc95
theorem ag95 : Ag Tryd.prog 95 := ⟨_, Tryd.underlying95, rfl⟩
attribute [instance] ag95
theorem und96 : Und Tryd.prog 96 (.int .u64) := ⟨Tryd.underlying96⟩
attribute [instance] und96
theorem conc96 : Conc Tryd.prog 96 := ⟨_, Tryd.underlying96, rfl⟩
attribute [instance] conc96
theorem one96 : One Tryd.prog 96 := ⟨_, Tryd.underlying96, rfl⟩
attribute [instance] one96
theorem inf96 : Inf Tryd.prog 96 (.int .u64 0) 1 8 := ⟨infH (by kernel_rfl)⟩
attribute [instance] inf96
theorem und97 : Und Tryd.prog 97 (.func #[96] #[3] false) := ⟨Tryd.underlying97⟩
attribute [instance] und97
theorem conc97 : Conc Tryd.prog 97 := ⟨_, Tryd.underlying97, rfl⟩
attribute [instance] conc97
theorem one97 : One Tryd.prog 97 := ⟨_, Tryd.underlying97, rfl⟩
attribute [instance] one97
theorem inf97 : Inf Tryd.prog 97 .nilFunc 1 8 := ⟨infH (by kernel_rfl)⟩
attribute [instance] inf97
theorem und98 : Und Tryd.prog 98 (.func #[94] #[3] false) := ⟨Tryd.underlying98⟩
attribute [instance] und98
theorem conc98 : Conc Tryd.prog 98 := ⟨_, Tryd.underlying98, rfl⟩
attribute [instance] conc98
theorem one98 : One Tryd.prog 98 := ⟨_, Tryd.underlying98, rfl⟩
attribute [instance] one98
theorem inf98 : Inf Tryd.prog 98 .nilFunc 1 8 := ⟨infH (by kernel_rfl)⟩
attribute [instance] inf98
theorem und99 : Und Tryd.prog 99 (.array 32 5) := ⟨Tryd.underlying99⟩
attribute [instance] und99
theorem conc99 : Conc Tryd.prog 99 := ⟨_, Tryd.underlying99, rfl⟩
attribute [instance] conc99
theorem ag99 : Ag Tryd.prog 99 := ⟨_, Tryd.underlying99, rfl⟩
attribute [instance] ag99
theorem inf99 : Inf Tryd.prog 99 (.agg #[(.int .u8 0), (.int .u8 0), (.int .u8 0), (.int .u8 0), (.int .u8 0), (.int .u8 0), (.int .u8 0), (.int .u8 0), (.int .u8 0), (.int .u8 0), (.int .u8 0), (.int .u8 0), (.int .u8 0), (.int .u8 0), (.int .u8 0), (.int .u8 0), (.int .u8 0), (.int .u8 0), (.int .u8 0), (.int .u8 0), (.int .u8 0), (.int .u8 0), (.int .u8 0), (.int .u8 0), (.int .u8 0), (.int .u8 0), (.int .u8 0), (.int .u8 0), (.int .u8 0), (.int .u8 0), (.int .u8 0), (.int .u8 0)]) 32 32 := ⟨infH (by kernel_rfl)⟩
attribute [instance] inf99
theorem und100 : Und Tryd.prog 100 (.array 64 5) := ⟨Tryd.underlying100⟩
attribute [instance] und100
theorem conc100 : Conc Tryd.prog 100 := ⟨_, Tryd.underlying100, rfl⟩
attribute [instance] conc100
theorem ag100 : Ag Tryd.prog 100 := ⟨_, Tryd.underlying100, rfl⟩
attribute [instance] ag100
theorem inf100 : Inf Tryd.prog 100 (.agg #[(.int .u8 0), (.int .u8 0), (.int .u8 0), (.int .u8 0), (.int .u8 0), (.int .u8 0), (.int .u8 0), (.int .u8 0), (.int .u8 0), (.int .u8 0), (.int .u8 0), (.int .u8 0), (.int .u8 0), (.int .u8 0), (.int .u8 0), (.int .u8 0), (.int .u8 0), (.int .u8 0), (.int .u8 0), (.int .u8 0), (.int .u8 0), (.int .u8 0), (.int .u8 0), (.int .u8 0), (.int .u8 0), (.int .u8 0), (.int .u8 0), (.int .u8 0), (.int .u8 0), (.int .u8 0), (.int .u8 0), (.int .u8 0), (.int .u8 0), (.int .u8 0), (.int .u8 0), (.int .u8 0), (.int .u8 0), (.int .u8 0), (.int .u8 0), (.int .u8 0), (.int .u8 0), (.int .u8 0), (.int .u8 0), (.int .u8 0), (.int .u8 0), (.int .u8 0), (.int .u8 0), (.int .u8 0), (.int .u8 0), (.int .u8 0), (.int .u8 0), (.int .u8 0), (.int .u8 0), (.int .u8 0), (.int .u8 0), (.int .u8 0), (.int .u8 0), (.int .u8 0), (.int .u8 0), (.int .u8 0), (.int .u8 0), (.int .u8 0), (.int .u8 0), (.int .u8 0)]) 64 64 := ⟨infH (by kernel_rfl)⟩
attribute [instance] inf100
theorem und101 : Und Tryd.prog 101 (.func #[] #[9] false) := ⟨Tryd.underlying101⟩
attribute [instance] und101
theorem conc101 : Conc Tryd.prog 101 := ⟨_, Tryd.underlying101, rfl⟩
attribute [instance] conc101
theorem one101 : One Tryd.prog 101 := ⟨_, Tryd.underlying101, rfl⟩
attribute [instance] one101
theorem inf101 : Inf Tryd.prog 101 .nilFunc 1 8 := ⟨infH (by kernel_rfl)⟩
attribute [instance] inf101
theorem flds102 : Flds Tryd.prog 102 [(0, 17), (1, 17), (2, 17), (3, 9)] := ⟨_, Tryd.underlying102, rfl⟩
attribute [instance] flds102
theorem ag102 : Ag Tryd.prog 102 := ⟨_, Tryd.underlying102, rfl⟩
attribute [instance] ag102
theorem conc102 : Conc Tryd.prog 102 := ⟨_, Tryd.underlying102, rfl⟩
attribute [instance] conc102
theorem inf102 : Inf Tryd.prog 102 (.agg #[(.pointer none), (.pointer none), (.pointer none), (.string ⟨#[]⟩)]) 4 40 := ⟨infH (by kernel_rfl)⟩
attribute [instance] inf102
theorem flds103 : Flds Tryd.prog 103 [(0, 17), (1, 17), (2, 17), (3, 9)] := ⟨_, Tryd.underlying103, rfl⟩
attribute [instance] flds103
theorem ag103 : Ag Tryd.prog 103 := ⟨_, Tryd.underlying103, rfl⟩
attribute [instance] ag103
theorem conc103 : Conc Tryd.prog 103 := ⟨_, Tryd.underlying103, rfl⟩
attribute [instance] conc103
theorem inf103 : Inf Tryd.prog 103 (.agg #[(.pointer none), (.pointer none), (.pointer none), (.string ⟨#[]⟩)]) 4 40 := ⟨infH (by kernel_rfl)⟩
attribute [instance] inf103
theorem und104 : Und Tryd.prog 104 (.array 0 16) := ⟨Tryd.underlying104⟩
attribute [instance] und104
theorem conc104 : Conc Tryd.prog 104 := ⟨_, Tryd.underlying104, rfl⟩
attribute [instance] conc104
theorem ag104 : Ag Tryd.prog 104 := ⟨_, Tryd.underlying104, rfl⟩
attribute [instance] ag104
theorem inf104 : Inf Tryd.prog 104 (.agg #[]) 0 0 := ⟨infH (by kernel_rfl)⟩
attribute [instance] inf104
theorem flds105 : Flds Tryd.prog 105 [(0, 104)] := ⟨_, Tryd.underlying105, rfl⟩
attribute [instance] flds105
theorem ag105 : Ag Tryd.prog 105 := ⟨_, Tryd.underlying105, rfl⟩
attribute [instance] ag105
theorem conc105 : Conc Tryd.prog 105 := ⟨_, Tryd.underlying105, rfl⟩
attribute [instance] conc105
theorem inf105 : Inf Tryd.prog 105 (.agg #[]) 0 0 := ⟨infH (by kernel_rfl)⟩
attribute [instance] inf105
theorem flds106 : Flds Tryd.prog 106 [(0, 104)] := ⟨_, Tryd.underlying106, rfl⟩
attribute [instance] flds106
theorem ag106 : Ag Tryd.prog 106 := ⟨_, Tryd.underlying106, rfl⟩
attribute [instance] ag106
theorem conc106 : Conc Tryd.prog 106 := ⟨_, Tryd.underlying106, rfl⟩
attribute [instance] conc106
theorem inf106 : Inf Tryd.prog 106 (.agg #[]) 0 0 := ⟨infH (by kernel_rfl)⟩
attribute [instance] inf106
theorem und107 : Und Tryd.prog 107 (.func #[] #[3] false) := ⟨Tryd.underlying107⟩
attribute [instance] und107
theorem conc107 : Conc Tryd.prog 107 := ⟨_, Tryd.underlying107, rfl⟩
attribute [instance] conc107
theorem one107 : One Tryd.prog 107 := ⟨_, Tryd.underlying107, rfl⟩
attribute [instance] one107
theorem inf107 : Inf Tryd.prog 107 .nilFunc 1 8 := ⟨infH (by kernel_rfl)⟩
attribute [instance] inf107
theorem und108 : Und Tryd.prog 108 (.int .u8) := ⟨Tryd.underlying108⟩
attribute [instance] und108
theorem conc108 : Conc Tryd.prog 108 := ⟨_, Tryd.underlying108, rfl⟩
attribute [instance] conc108
theorem one108 : One Tryd.prog 108 := ⟨_, Tryd.underlying108, rfl⟩
attribute [instance] one108
theorem inf108 : Inf Tryd.prog 108 (.int .u8 0) 1 1 := ⟨infH (by kernel_rfl)⟩
attribute [instance] inf108
theorem und109 : Und Tryd.prog 109 (.int .u8) := ⟨Tryd.underlying109⟩
attribute [instance] und109
theorem conc109 : Conc Tryd.prog 109 := ⟨_, Tryd.underlying109, rfl⟩
attribute [instance] conc109
theorem one109 : One Tryd.prog 109 := ⟨_, Tryd.underlying109, rfl⟩
attribute [instance] one109
theorem inf109 : Inf Tryd.prog 109 (.int .u8 0) 1 1 := ⟨infH (by kernel_rfl)⟩
attribute [instance] inf109
theorem und110 : Und Tryd.prog 110 (.func #[116, 116] #[4] false) := ⟨Tryd.underlying110⟩
attribute [instance] und110
theorem conc110 : Conc Tryd.prog 110 := ⟨_, Tryd.underlying110, rfl⟩
attribute [instance] conc110
theorem one110 : One Tryd.prog 110 := ⟨_, Tryd.underlying110, rfl⟩
attribute [instance] one110
theorem inf110 : Inf Tryd.prog 110 .nilFunc 1 8 := ⟨infH (by kernel_rfl)⟩
attribute [instance] inf110
theorem und111 : Und Tryd.prog 111 (.pointer 5) := ⟨Tryd.underlying111⟩
attribute [instance] und111
theorem conc111 : Conc Tryd.prog 111 := ⟨_, Tryd.underlying111, rfl⟩
attribute [instance] conc111
theorem one111 : One Tryd.prog 111 := ⟨_, Tryd.underlying111, rfl⟩
attribute [instance] one111
theorem inf111 : Inf Tryd.prog 111 (.pointer none) 1 8 := ⟨infH (by kernel_rfl)⟩
attribute [instance] inf111
theorem und112 : Und Tryd.prog 112 (.int .i32) := ⟨Tryd.underlying112⟩
attribute [instance] und112
theorem conc112 : Conc Tryd.prog 112 := ⟨_, Tryd.underlying112, rfl⟩
attribute [instance] conc112
theorem one112 : One Tryd.prog 112 := ⟨_, Tryd.underlying112, rfl⟩
attribute [instance] one112
theorem inf112 : Inf Tryd.prog 112 (.int .i32 0) 1 4 := ⟨infH (by kernel_rfl)⟩
attribute [instance] inf112
theorem und113 : Und Tryd.prog 113 (.int .i32) := ⟨Tryd.underlying113⟩
attribute [instance] und113
theorem conc113 : Conc Tryd.prog 113 := ⟨_, Tryd.underlying113, rfl⟩
attribute [instance] conc113
theorem one113 : One Tryd.prog 113 := ⟨_, Tryd.underlying113, rfl⟩
attribute [instance] one113
theorem inf113 : Inf Tryd.prog 113 (.int .i32 0) 1 4 := ⟨infH (by kernel_rfl)⟩
attribute [instance] inf113
theorem flds114 : Flds Tryd.prog 114 [(0, 12), (1, 12), (2, 94), (3, 108), (4, 5), (5, 5), (6, 109), (7, 110), (8, 111), (9, 112), (10, 113)] := ⟨_, Tryd.underlying114, rfl⟩
attribute [instance] flds114
theorem ag114 : Ag Tryd.prog 114 := ⟨_, Tryd.underlying114, rfl⟩
attribute [instance] ag114
theorem conc114 : Conc Tryd.prog 114 := ⟨_, Tryd.underlying114, rfl⟩
attribute [instance] conc114
theorem inf114 : Inf Tryd.prog 114 (.agg #[(.int .u64 0), (.int .u64 0), (.int .u32 0), (.int .u8 0), (.int .u8 0), (.int .u8 0), (.int .u8 0), .nilFunc, (.pointer none), (.int .i32 0), (.int .i32 0)]) 11 48 := ⟨infH (by kernel_rfl)⟩
attribute [instance] inf114
theorem flds115 : Flds Tryd.prog 115 [(0, 12), (1, 12), (2, 94), (3, 108), (4, 5), (5, 5), (6, 109), (7, 110), (8, 111), (9, 112), (10, 113)] := ⟨_, Tryd.underlying115, rfl⟩
attribute [instance] flds115
theorem ag115 : Ag Tryd.prog 115 := ⟨_, Tryd.underlying115, rfl⟩
attribute [instance] ag115
theorem conc115 : Conc Tryd.prog 115 := ⟨_, Tryd.underlying115, rfl⟩
attribute [instance] conc115
theorem inf115 : Inf Tryd.prog 115 (.agg #[(.int .u64 0), (.int .u64 0), (.int .u32 0), (.int .u8 0), (.int .u8 0), (.int .u8 0), (.int .u8 0), .nilFunc, (.pointer none), (.int .i32 0), (.int .i32 0)]) 11 48 := ⟨infH (by kernel_rfl)⟩
attribute [instance] inf115
theorem und116 : Und Tryd.prog 116 .unsafePointer := ⟨Tryd.underlying116⟩
attribute [instance] und116
theorem conc116 : Conc Tryd.prog 116 := ⟨_, Tryd.underlying116, rfl⟩
attribute [instance] conc116
theorem one116 : One Tryd.prog 116 := ⟨_, Tryd.underlying116, rfl⟩
attribute [instance] one116
theorem inf116 : Inf Tryd.prog 116 (.pointer none) 1 8 := ⟨infH (by kernel_rfl)⟩
attribute [instance] inf116
theorem plc7 : Plc Tryd.prog 7 [(0, 1), (1, 1), (2, 1), (3, 1)] := ⟨_, Tryd.underlying7, ⟨rfl, szH inf2, ⟨rfl, szH inf3, ⟨rfl, szH inf4, ⟨rfl, szH inf6, trivial⟩⟩⟩⟩⟩
attribute [instance] plc7
theorem plc8 : Plc Tryd.prog 8 [(0, 1), (1, 1), (2, 1), (3, 1)] := ⟨_, Tryd.underlying8, ⟨rfl, szH inf2, ⟨rfl, szH inf3, ⟨rfl, szH inf4, ⟨rfl, szH inf6, trivial⟩⟩⟩⟩⟩
attribute [instance] plc8
theorem plc13 : Plc Tryd.prog 13 [(0, 1), (1, 1)] := ⟨_, Tryd.underlying13, ⟨rfl, szH inf9, ⟨rfl, szH inf12, trivial⟩⟩⟩
attribute [instance] plc13
theorem plc14 : Plc Tryd.prog 14 [(0, 1), (1, 1)] := ⟨_, Tryd.underlying14, ⟨rfl, szH inf9, ⟨rfl, szH inf12, trivial⟩⟩⟩
attribute [instance] plc14
theorem plc18 : Plc Tryd.prog 18 [(0, 1)] := ⟨_, Tryd.underlying18, ⟨rfl, szH inf17, trivial⟩⟩
attribute [instance] plc18
theorem plc19 : Plc Tryd.prog 19 [(0, 1)] := ⟨_, Tryd.underlying19, ⟨rfl, szH inf17, trivial⟩⟩
attribute [instance] plc19
theorem plc35 : Plc Tryd.prog 35 [(0, 1), (1, 1)] := ⟨_, Tryd.underlying35, ⟨rfl, szH inf9, ⟨rfl, szH inf22, trivial⟩⟩⟩
attribute [instance] plc35
theorem plc36 : Plc Tryd.prog 36 [(0, 1), (1, 1)] := ⟨_, Tryd.underlying36, ⟨rfl, szH inf9, ⟨rfl, szH inf22, trivial⟩⟩⟩
attribute [instance] plc36
theorem plc46 : Plc Tryd.prog 46 [(0, 1), (1, 1), (2, 1), (3, 1), (4, 1), (5, 1)] := ⟨_, Tryd.underlying46, ⟨rfl, szH inf44, ⟨rfl, szH inf43, ⟨rfl, szH inf45, ⟨rfl, szH inf45, ⟨rfl, szH inf32, ⟨rfl, szH inf3, trivial⟩⟩⟩⟩⟩⟩⟩
attribute [instance] plc46
theorem plc47 : Plc Tryd.prog 47 [(0, 1), (1, 1), (2, 1), (3, 1), (4, 1), (5, 1)] := ⟨_, Tryd.underlying47, ⟨rfl, szH inf44, ⟨rfl, szH inf43, ⟨rfl, szH inf45, ⟨rfl, szH inf45, ⟨rfl, szH inf32, ⟨rfl, szH inf3, trivial⟩⟩⟩⟩⟩⟩⟩
attribute [instance] plc47
theorem plc65 : Plc Tryd.prog 65 [(0, 1), (1, 1)] := ⟨_, Tryd.underlying65, ⟨rfl, szH inf9, ⟨rfl, szH inf45, trivial⟩⟩⟩
attribute [instance] plc65
theorem plc66 : Plc Tryd.prog 66 [(0, 1), (1, 1)] := ⟨_, Tryd.underlying66, ⟨rfl, szH inf9, ⟨rfl, szH inf45, trivial⟩⟩⟩
attribute [instance] plc66
theorem plc73 : Plc Tryd.prog 73 [(0, 1), (1, 1)] := ⟨_, Tryd.underlying73, ⟨rfl, szH inf3, ⟨rfl, szH inf3, trivial⟩⟩⟩
attribute [instance] plc73
theorem plc74 : Plc Tryd.prog 74 [(0, 1), (1, 1)] := ⟨_, Tryd.underlying74, ⟨rfl, szH inf3, ⟨rfl, szH inf3, trivial⟩⟩⟩
attribute [instance] plc74
theorem plc102 : Plc Tryd.prog 102 [(0, 1), (1, 1), (2, 1), (3, 1)] := ⟨_, Tryd.underlying102, ⟨rfl, szH inf17, ⟨rfl, szH inf17, ⟨rfl, szH inf17, ⟨rfl, szH inf9, trivial⟩⟩⟩⟩⟩
attribute [instance] plc102
theorem plc103 : Plc Tryd.prog 103 [(0, 1), (1, 1), (2, 1), (3, 1)] := ⟨_, Tryd.underlying103, ⟨rfl, szH inf17, ⟨rfl, szH inf17, ⟨rfl, szH inf17, ⟨rfl, szH inf9, trivial⟩⟩⟩⟩⟩
attribute [instance] plc103
theorem plc105 : Plc Tryd.prog 105 [(0, 0)] := ⟨_, Tryd.underlying105, ⟨rfl, szH inf104, trivial⟩⟩
attribute [instance] plc105
theorem plc106 : Plc Tryd.prog 106 [(0, 0)] := ⟨_, Tryd.underlying106, ⟨rfl, szH inf104, trivial⟩⟩
attribute [instance] plc106
theorem plc114 : Plc Tryd.prog 114 [(0, 1), (1, 1), (2, 1), (3, 1), (4, 1), (5, 1), (6, 1), (7, 1), (8, 1), (9, 1), (10, 1)] := ⟨_, Tryd.underlying114, ⟨rfl, szH inf12, ⟨rfl, szH inf12, ⟨rfl, szH inf94, ⟨rfl, szH inf108, ⟨rfl, szH inf5, ⟨rfl, szH inf5, ⟨rfl, szH inf109, ⟨rfl, szH inf110, ⟨rfl, szH inf111, ⟨rfl, szH inf112, ⟨rfl, szH inf113, trivial⟩⟩⟩⟩⟩⟩⟩⟩⟩⟩⟩⟩
attribute [instance] plc114
theorem plc115 : Plc Tryd.prog 115 [(0, 1), (1, 1), (2, 1), (3, 1), (4, 1), (5, 1), (6, 1), (7, 1), (8, 1), (9, 1), (10, 1)] := ⟨_, Tryd.underlying115, ⟨rfl, szH inf12, ⟨rfl, szH inf12, ⟨rfl, szH inf94, ⟨rfl, szH inf108, ⟨rfl, szH inf5, ⟨rfl, szH inf5, ⟨rfl, szH inf109, ⟨rfl, szH inf110, ⟨rfl, szH inf111, ⟨rfl, szH inf112, ⟨rfl, szH inf113, trivial⟩⟩⟩⟩⟩⟩⟩⟩⟩⟩⟩⟩
attribute [instance] plc115
theorem fun2 : HasFn Tryd.prog 2 := ⟨Tryd.f2, _, Tryd.func2, by kernel_rfl, rfl⟩
attribute [instance] fun2
theorem fun3 : HasFn Tryd.prog 3 := ⟨Tryd.f3, _, Tryd.func3, by kernel_rfl, rfl⟩
attribute [instance] fun3
theorem fun4 : HasFn Tryd.prog 4 := ⟨Tryd.f4, _, Tryd.func4, by kernel_rfl, rfl⟩
attribute [instance] fun4
theorem fun5 : HasFn Tryd.prog 5 := ⟨Tryd.f5, _, Tryd.func5, by kernel_rfl, rfl⟩
attribute [instance] fun5
theorem fun6 : HasFn Tryd.prog 6 := ⟨Tryd.f6, _, Tryd.func6, by kernel_rfl, rfl⟩
attribute [instance] fun6
theorem fun7 : HasFn Tryd.prog 7 := ⟨Tryd.f7, _, Tryd.func7, by kernel_rfl, rfl⟩
attribute [instance] fun7
theorem fun8 : HasFn Tryd.prog 8 := ⟨Tryd.f8, _, Tryd.func8, by kernel_rfl, rfl⟩
attribute [instance] fun8
theorem fun9 : HasFn Tryd.prog 9 := ⟨Tryd.f9, _, Tryd.func9, by kernel_rfl, rfl⟩
attribute [instance] fun9
theorem fun10 : HasFn Tryd.prog 10 := ⟨Tryd.f10, _, Tryd.func10, by kernel_rfl, rfl⟩
attribute [instance] fun10
theorem fun11 : HasFn Tryd.prog 11 := ⟨Tryd.f11, _, Tryd.func11, by kernel_rfl, rfl⟩
attribute [instance] fun11
theorem fun12 : HasFn Tryd.prog 12 := ⟨Tryd.f12, _, Tryd.func12, by kernel_rfl, rfl⟩
attribute [instance] fun12
theorem fun13 : HasFn Tryd.prog 13 := ⟨Tryd.f13, _, Tryd.func13, by kernel_rfl, rfl⟩
attribute [instance] fun13
theorem fun14 : HasFn Tryd.prog 14 := ⟨Tryd.f14, _, Tryd.func14, by kernel_rfl, rfl⟩
attribute [instance] fun14
theorem fun15 : HasFn Tryd.prog 15 := ⟨Tryd.f15, _, Tryd.func15, by kernel_rfl, rfl⟩
attribute [instance] fun15
theorem fun16 : HasFn Tryd.prog 16 := ⟨Tryd.f16, _, Tryd.func16, by kernel_rfl, rfl⟩
attribute [instance] fun16
theorem fun17 : HasFn Tryd.prog 17 := ⟨Tryd.f17, _, Tryd.func17, by kernel_rfl, rfl⟩
attribute [instance] fun17
theorem fun18 : HasFn Tryd.prog 18 := ⟨Tryd.f18, _, Tryd.func18, by kernel_rfl, rfl⟩
attribute [instance] fun18
theorem fun19 : HasFn Tryd.prog 19 := ⟨Tryd.f19, _, Tryd.func19, by kernel_rfl, rfl⟩
attribute [instance] fun19
theorem fun20 : HasFn Tryd.prog 20 := ⟨Tryd.f20, _, Tryd.func20, by kernel_rfl, rfl⟩
attribute [instance] fun20
theorem fun21 : HasFn Tryd.prog 21 := ⟨Tryd.f21, _, Tryd.func21, by kernel_rfl, rfl⟩
attribute [instance] fun21
theorem fun22 : HasFn Tryd.prog 22 := ⟨Tryd.f22, _, Tryd.func22, by kernel_rfl, rfl⟩
attribute [instance] fun22
theorem fun23 : HasFn Tryd.prog 23 := ⟨Tryd.f23, _, Tryd.func23, by kernel_rfl, rfl⟩
attribute [instance] fun23
theorem fun24 : HasFn Tryd.prog 24 := ⟨Tryd.f24, _, Tryd.func24, by kernel_rfl, rfl⟩
attribute [instance] fun24
theorem fun25 : HasFn Tryd.prog 25 := ⟨Tryd.f25, _, Tryd.func25, by kernel_rfl, rfl⟩
attribute [instance] fun25
theorem fun26 : HasFn Tryd.prog 26 := ⟨Tryd.f26, _, Tryd.func26, by kernel_rfl, rfl⟩
attribute [instance] fun26
theorem fun27 : HasFn Tryd.prog 27 := ⟨Tryd.f27, _, Tryd.func27, by kernel_rfl, rfl⟩
attribute [instance] fun27
theorem fun28 : HasFn Tryd.prog 28 := ⟨Tryd.f28, _, Tryd.func28, by kernel_rfl, rfl⟩
attribute [instance] fun28
theorem fun29 : HasFn Tryd.prog 29 := ⟨Tryd.f29, _, Tryd.func29, by kernel_rfl, rfl⟩
attribute [instance] fun29
theorem fun30 : HasFn Tryd.prog 30 := ⟨Tryd.f30, _, Tryd.func30, by kernel_rfl, rfl⟩
attribute [instance] fun30
theorem fun31 : HasFn Tryd.prog 31 := ⟨Tryd.f31, _, Tryd.func31, by kernel_rfl, rfl⟩
attribute [instance] fun31
theorem fun32 : HasFn Tryd.prog 32 := ⟨Tryd.f32, _, Tryd.func32, by kernel_rfl, rfl⟩
attribute [instance] fun32
theorem fun33 : HasFn Tryd.prog 33 := ⟨Tryd.f33, _, Tryd.func33, by kernel_rfl, rfl⟩
attribute [instance] fun33
theorem fun34 : HasFn Tryd.prog 34 := ⟨Tryd.f34, _, Tryd.func34, by kernel_rfl, rfl⟩
attribute [instance] fun34
theorem fun35 : HasFn Tryd.prog 35 := ⟨Tryd.f35, _, Tryd.func35, by kernel_rfl, rfl⟩
attribute [instance] fun35
theorem fun36 : HasFn Tryd.prog 36 := ⟨Tryd.f36, _, Tryd.func36, by kernel_rfl, rfl⟩
attribute [instance] fun36
theorem fun37 : HasFn Tryd.prog 37 := ⟨Tryd.f37, _, Tryd.func37, by kernel_rfl, rfl⟩
attribute [instance] fun37
theorem fun38 : HasFn Tryd.prog 38 := ⟨Tryd.f38, _, Tryd.func38, by kernel_rfl, rfl⟩
attribute [instance] fun38
theorem fun39 : HasFn Tryd.prog 39 := ⟨Tryd.f39, _, Tryd.func39, by kernel_rfl, rfl⟩
attribute [instance] fun39
theorem fun40 : HasFn Tryd.prog 40 := ⟨Tryd.f40, _, Tryd.func40, by kernel_rfl, rfl⟩
attribute [instance] fun40
theorem fun41 : HasFn Tryd.prog 41 := ⟨Tryd.f41, _, Tryd.func41, by kernel_rfl, rfl⟩
attribute [instance] fun41
theorem fun42 : HasFn Tryd.prog 42 := ⟨Tryd.f42, _, Tryd.func42, by kernel_rfl, rfl⟩
attribute [instance] fun42
theorem fun43 : HasFn Tryd.prog 43 := ⟨Tryd.f43, _, Tryd.func43, by kernel_rfl, rfl⟩
attribute [instance] fun43
theorem fun44 : HasFn Tryd.prog 44 := ⟨Tryd.f44, _, Tryd.func44, by kernel_rfl, rfl⟩
attribute [instance] fun44
theorem fun45 : HasFn Tryd.prog 45 := ⟨Tryd.f45, _, Tryd.func45, by kernel_rfl, rfl⟩
attribute [instance] fun45
theorem fun46 : HasFn Tryd.prog 46 := ⟨Tryd.f46, _, Tryd.func46, by kernel_rfl, rfl⟩
attribute [instance] fun46
theorem fun47 : HasFn Tryd.prog 47 := ⟨Tryd.f47, _, Tryd.func47, by kernel_rfl, rfl⟩
attribute [instance] fun47
theorem fun48 : HasFn Tryd.prog 48 := ⟨Tryd.f48, _, Tryd.func48, by kernel_rfl, rfl⟩
attribute [instance] fun48
theorem fun50 : HasFn Tryd.prog 50 := ⟨Tryd.f50, _, Tryd.func50, by kernel_rfl, rfl⟩
attribute [instance] fun50
theorem fun51 : HasFn Tryd.prog 51 := ⟨Tryd.f51, _, Tryd.func51, by kernel_rfl, rfl⟩
attribute [instance] fun51
theorem fun52 : HasFn Tryd.prog 52 := ⟨Tryd.f52, _, Tryd.func52, by kernel_rfl, rfl⟩
attribute [instance] fun52
theorem fun53 : HasFn Tryd.prog 53 := ⟨Tryd.f53, _, Tryd.func53, by kernel_rfl, rfl⟩
attribute [instance] fun53
theorem fun54 : HasFn Tryd.prog 54 := ⟨Tryd.f54, _, Tryd.func54, by kernel_rfl, rfl⟩
attribute [instance] fun54
theorem fun55 : HasFn Tryd.prog 55 := ⟨Tryd.f55, _, Tryd.func55, by kernel_rfl, rfl⟩
attribute [instance] fun55
theorem fun56 : HasFn Tryd.prog 56 := ⟨Tryd.f56, _, Tryd.func56, by kernel_rfl, rfl⟩
attribute [instance] fun56
theorem fun57 : HasFn Tryd.prog 57 := ⟨Tryd.f57, _, Tryd.func57, by kernel_rfl, rfl⟩
attribute [instance] fun57
theorem fun58 : HasFn Tryd.prog 58 := ⟨Tryd.f58, _, Tryd.func58, by kernel_rfl, rfl⟩
attribute [instance] fun58
theorem fun59 : HasFn Tryd.prog 59 := ⟨Tryd.f59, _, Tryd.func59, by kernel_rfl, rfl⟩
attribute [instance] fun59
theorem fun60 : HasFn Tryd.prog 60 := ⟨Tryd.f60, _, Tryd.func60, by kernel_rfl, rfl⟩
attribute [instance] fun60
theorem fun61 : HasFn Tryd.prog 61 := ⟨Tryd.f61, _, Tryd.func61, by kernel_rfl, rfl⟩
attribute [instance] fun61
theorem fun62 : HasFn Tryd.prog 62 := ⟨Tryd.f62, _, Tryd.func62, by kernel_rfl, rfl⟩
attribute [instance] fun62
theorem fun85 : HasFn Tryd.prog 85 := ⟨Tryd.f85, _, Tryd.func85, by kernel_rfl, rfl⟩
attribute [instance] fun85
end Go.Proofs.YtcjnmehpkcblfaaDoor
