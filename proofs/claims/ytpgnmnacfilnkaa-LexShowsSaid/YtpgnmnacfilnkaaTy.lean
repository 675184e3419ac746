/- What each type of the program is: instances, off the loaded program. By a program (inst.py). -/
import Derived.Test.YtpgnmnacfilnkaaProg
import Derived.Test.YtpgnmnacfilnkaaWk6
import Derived.KernelRfl
namespace Go.Proofs.Ytpgnmnacfilnkaa
open Go Go.Wk
theorem und0 : Und Try.prog 0 (.tuple #[]) := ⟨Try.underlying0⟩
attribute [instance] und0
theorem conc0 : Conc Try.prog 0 := ⟨_, Try.underlying0, rfl⟩
attribute [instance] conc0
theorem one0 : One Try.prog 0 := ⟨_, Try.underlying0, rfl⟩
attribute [instance] one0
theorem inf0 : Inf Try.prog 0 (.tuple #[]) 1 0 := ⟨infH (by kernel_rfl)⟩
attribute [instance] inf0
theorem und1 : Und Try.prog 1 (.func #[] #[] false) := ⟨Try.underlying1⟩
attribute [instance] und1
theorem conc1 : Conc Try.prog 1 := ⟨_, Try.underlying1, rfl⟩
attribute [instance] conc1
theorem one1 : One Try.prog 1 := ⟨_, Try.underlying1, rfl⟩
attribute [instance] one1
theorem inf1 : Inf Try.prog 1 .nilFunc 1 8 := ⟨infH (by kernel_rfl)⟩
attribute [instance] inf1
theorem und2 : Und Try.prog 2 (.int .i64) := ⟨Try.underlying2⟩
attribute [instance] und2
theorem conc2 : Conc Try.prog 2 := ⟨_, Try.underlying2, rfl⟩
attribute [instance] conc2
theorem one2 : One Try.prog 2 := ⟨_, Try.underlying2, rfl⟩
attribute [instance] one2
theorem inf2 : Inf Try.prog 2 (.int .i64 0) 1 8 := ⟨infH (by kernel_rfl)⟩
attribute [instance] inf2
theorem und3 : Und Try.prog 3 (.int .i64) := ⟨Try.underlying3⟩
attribute [instance] und3
theorem conc3 : Conc Try.prog 3 := ⟨_, Try.underlying3, rfl⟩
attribute [instance] conc3
theorem one3 : One Try.prog 3 := ⟨_, Try.underlying3, rfl⟩
attribute [instance] one3
theorem inf3 : Inf Try.prog 3 (.int .i64 0) 1 8 := ⟨infH (by kernel_rfl)⟩
attribute [instance] inf3
theorem und4 : Und Try.prog 4 .bool := ⟨Try.underlying4⟩
attribute [instance] und4
theorem conc4 : Conc Try.prog 4 := ⟨_, Try.underlying4, rfl⟩
attribute [instance] conc4
theorem one4 : One Try.prog 4 := ⟨_, Try.underlying4, rfl⟩
attribute [instance] one4
theorem inf4 : Inf Try.prog 4 (.bool false) 1 1 := ⟨infH (by kernel_rfl)⟩
attribute [instance] inf4
theorem und5 : Und Try.prog 5 (.int .u8) := ⟨Try.underlying5⟩
attribute [instance] und5
theorem conc5 : Conc Try.prog 5 := ⟨_, Try.underlying5, rfl⟩
attribute [instance] conc5
theorem one5 : One Try.prog 5 := ⟨_, Try.underlying5, rfl⟩
attribute [instance] one5
theorem inf5 : Inf Try.prog 5 (.int .u8 0) 1 1 := ⟨infH (by kernel_rfl)⟩
attribute [instance] inf5
theorem und6 : Und Try.prog 6 (.int .u8) := ⟨Try.underlying6⟩
attribute [instance] und6
theorem conc6 : Conc Try.prog 6 := ⟨_, Try.underlying6, rfl⟩
attribute [instance] conc6
theorem one6 : One Try.prog 6 := ⟨_, Try.underlying6, rfl⟩
attribute [instance] one6
theorem inf6 : Inf Try.prog 6 (.int .u8 0) 1 1 := ⟨infH (by kernel_rfl)⟩
attribute [instance] inf6
theorem flds7 : Flds Try.prog 7 [(0, 2), (1, 3), (2, 4), (3, 6)] := ⟨_, Try.underlying7, rfl⟩
attribute [instance] flds7
theorem ag7 : Ag Try.prog 7 := ⟨_, Try.underlying7, rfl⟩
attribute [instance] ag7
theorem conc7 : Conc Try.prog 7 := ⟨_, Try.underlying7, rfl⟩
attribute [instance] conc7
theorem inf7 : Inf Try.prog 7 (.agg #[(.int .i64 0), (.int .i64 0), (.bool false), (.int .u8 0)]) 4 24 := ⟨infH (by kernel_rfl)⟩
attribute [instance] inf7
theorem flds8 : Flds Try.prog 8 [(0, 2), (1, 3), (2, 4), (3, 6)] := ⟨_, Try.underlying8, rfl⟩
attribute [instance] flds8
theorem ag8 : Ag Try.prog 8 := ⟨_, Try.underlying8, rfl⟩
attribute [instance] ag8
theorem conc8 : Conc Try.prog 8 := ⟨_, Try.underlying8, rfl⟩
attribute [instance] conc8
theorem inf8 : Inf Try.prog 8 (.agg #[(.int .i64 0), (.int .i64 0), (.bool false), (.int .u8 0)]) 4 24 := ⟨infH (by kernel_rfl)⟩
attribute [instance] inf8
theorem und9 : Und Try.prog 9 .string := ⟨Try.underlying9⟩
attribute [instance] und9
theorem conc9 : Conc Try.prog 9 := ⟨_, Try.underlying9, rfl⟩
attribute [instance] conc9
theorem one9 : One Try.prog 9 := ⟨_, Try.underlying9, rfl⟩
attribute [instance] one9
theorem inf9 : Inf Try.prog 9 (.string ⟨#[]⟩) 1 16 := ⟨infH (by kernel_rfl)⟩
attribute [instance] inf9
theorem und10 : Und Try.prog 10 .string := ⟨Try.underlying10⟩
attribute [instance] und10
theorem conc10 : Conc Try.prog 10 := ⟨_, Try.underlying10, rfl⟩
attribute [instance] conc10
theorem one10 : One Try.prog 10 := ⟨_, Try.underlying10, rfl⟩
attribute [instance] one10
theorem inf10 : Inf Try.prog 10 (.string ⟨#[]⟩) 1 16 := ⟨infH (by kernel_rfl)⟩
attribute [instance] inf10
theorem und11 : Und Try.prog 11 .string := ⟨Try.underlying11⟩
attribute [instance] und11
theorem conc11 : Conc Try.prog 11 := ⟨_, Try.underlying11, rfl⟩
attribute [instance] conc11
theorem one11 : One Try.prog 11 := ⟨_, Try.underlying11, rfl⟩
attribute [instance] one11
theorem inf11 : Inf Try.prog 11 (.string ⟨#[]⟩) 1 16 := ⟨infH (by kernel_rfl)⟩
attribute [instance] inf11
theorem und12 : Und Try.prog 12 (.int .u64) := ⟨Try.underlying12⟩
attribute [instance] und12
theorem conc12 : Conc Try.prog 12 := ⟨_, Try.underlying12, rfl⟩
attribute [instance] conc12
theorem one12 : One Try.prog 12 := ⟨_, Try.underlying12, rfl⟩
attribute [instance] one12
theorem inf12 : Inf Try.prog 12 (.int .u64 0) 1 8 := ⟨infH (by kernel_rfl)⟩
attribute [instance] inf12
theorem flds13 : Flds Try.prog 13 [(0, 9), (1, 12)] := ⟨_, Try.underlying13, rfl⟩
attribute [instance] flds13
theorem ag13 : Ag Try.prog 13 := ⟨_, Try.underlying13, rfl⟩
attribute [instance] ag13
theorem conc13 : Conc Try.prog 13 := ⟨_, Try.underlying13, rfl⟩
attribute [instance] conc13
theorem inf13 : Inf Try.prog 13 (.agg #[(.string ⟨#[]⟩), (.int .u64 0)]) 2 24 := ⟨infH (by kernel_rfl)⟩
attribute [instance] inf13
theorem flds14 : Flds Try.prog 14 [(0, 9), (1, 12)] := ⟨_, Try.underlying14, rfl⟩
attribute [instance] flds14
theorem ag14 : Ag Try.prog 14 := ⟨_, Try.underlying14, rfl⟩
attribute [instance] ag14
theorem conc14 : Conc Try.prog 14 := ⟨_, Try.underlying14, rfl⟩
attribute [instance] conc14
theorem inf14 : Inf Try.prog 14 (.agg #[(.string ⟨#[]⟩), (.int .u64 0)]) 2 24 := ⟨infH (by kernel_rfl)⟩
attribute [instance] inf14
theorem und15 : Und Try.prog 15 (.pointer 51) := ⟨Try.underlying15⟩
attribute [instance] und15
theorem conc15 : Conc Try.prog 15 := ⟨_, Try.underlying15, rfl⟩
attribute [instance] conc15
theorem one15 : One Try.prog 15 := ⟨_, Try.underlying15, rfl⟩
attribute [instance] one15
theorem inf15 : Inf Try.prog 15 (.pointer none) 1 8 := ⟨infH (by kernel_rfl)⟩
attribute [instance] inf15
theorem und16 : Und Try.prog 16 (.pointer 54) := ⟨Try.underlying16⟩
attribute [instance] und16
theorem conc16 : Conc Try.prog 16 := ⟨_, Try.underlying16, rfl⟩
attribute [instance] conc16
theorem one16 : One Try.prog 16 := ⟨_, Try.underlying16, rfl⟩
attribute [instance] one16
theorem inf16 : Inf Try.prog 16 (.pointer none) 1 8 := ⟨infH (by kernel_rfl)⟩
attribute [instance] inf16
theorem und17 : Und Try.prog 17 (.pointer 63) := ⟨Try.underlying17⟩
attribute [instance] und17
theorem conc17 : Conc Try.prog 17 := ⟨_, Try.underlying17, rfl⟩
attribute [instance] conc17
theorem one17 : One Try.prog 17 := ⟨_, Try.underlying17, rfl⟩
attribute [instance] one17
theorem inf17 : Inf Try.prog 17 (.pointer none) 1 8 := ⟨infH (by kernel_rfl)⟩
attribute [instance] inf17
theorem flds18 : Flds Try.prog 18 [(0, 17)] := ⟨_, Try.underlying18, rfl⟩
attribute [instance] flds18
theorem ag18 : Ag Try.prog 18 := ⟨_, Try.underlying18, rfl⟩
attribute [instance] ag18
theorem conc18 : Conc Try.prog 18 := ⟨_, Try.underlying18, rfl⟩
attribute [instance] conc18
theorem inf18 : Inf Try.prog 18 (.agg #[(.pointer none)]) 1 8 := ⟨infH (by kernel_rfl)⟩
attribute [instance] inf18
theorem flds19 : Flds Try.prog 19 [(0, 17)] := ⟨_, Try.underlying19, rfl⟩
attribute [instance] flds19
theorem ag19 : Ag Try.prog 19 := ⟨_, Try.underlying19, rfl⟩
attribute [instance] ag19
theorem conc19 : Conc Try.prog 19 := ⟨_, Try.underlying19, rfl⟩
attribute [instance] conc19
theorem inf19 : Inf Try.prog 19 (.agg #[(.pointer none)]) 1 8 := ⟨infH (by kernel_rfl)⟩
attribute [instance] inf19
theorem ifc20 : Ifc Try.prog 20 := ⟨_, Try.underlying20⟩
attribute [instance] ifc20
theorem one20 : One Try.prog 20 := ⟨_, Try.underlying20, rfl⟩
attribute [instance] one20
theorem inf20 : Inf Try.prog 20 .nilIface 1 16 := ⟨infH (by kernel_rfl)⟩
attribute [instance] inf20
theorem und21 : Und Try.prog 21 (.int .i32) := ⟨Try.underlying21⟩
attribute [instance] und21
theorem conc21 : Conc Try.prog 21 := ⟨_, Try.underlying21, rfl⟩
attribute [instance] conc21
theorem one21 : One Try.prog 21 := ⟨_, Try.underlying21, rfl⟩
attribute [instance] one21
theorem inf21 : Inf Try.prog 21 (.int .i32 0) 1 4 := ⟨infH (by kernel_rfl)⟩
attribute [instance] inf21
theorem und22 : Und Try.prog 22 (.slice 26) := ⟨Try.underlying22⟩
attribute [instance] und22
theorem conc22 : Conc Try.prog 22 := ⟨_, Try.underlying22, rfl⟩
attribute [instance] conc22
theorem one22 : One Try.prog 22 := ⟨_, Try.underlying22, rfl⟩
attribute [instance] one22
theorem inf22 : Inf Try.prog 22 (.slice none 0 0) 1 24 := ⟨infH (by kernel_rfl)⟩
attribute [instance] inf22
theorem flds23 : Flds Try.prog 23 [(0, 3), (1, 3)] := ⟨_, Try.underlying23, rfl⟩
attribute [instance] flds23
theorem ag23 : Ag Try.prog 23 := ⟨_, Try.underlying23, rfl⟩
attribute [instance] ag23
theorem conc23 : Conc Try.prog 23 := ⟨_, Try.underlying23, rfl⟩
attribute [instance] conc23
theorem inf23 : Inf Try.prog 23 (.agg #[(.int .i64 0), (.int .i64 0)]) 2 16 := ⟨infH (by kernel_rfl)⟩
attribute [instance] inf23
theorem flds24 : Flds Try.prog 24 [(0, 3), (1, 3)] := ⟨_, Try.underlying24, rfl⟩
attribute [instance] flds24
theorem ag24 : Ag Try.prog 24 := ⟨_, Try.underlying24, rfl⟩
attribute [instance] ag24
theorem conc24 : Conc Try.prog 24 := ⟨_, Try.underlying24, rfl⟩
attribute [instance] conc24
theorem inf24 : Inf Try.prog 24 (.agg #[(.int .i64 0), (.int .i64 0)]) 2 16 := ⟨infH (by kernel_rfl)⟩
attribute [instance] inf24
theorem flds25 : Flds Try.prog 25 [(0, 24), (2, 5), (3, 9)] := ⟨_, Try.underlying25, rfl⟩
attribute [instance] flds25
theorem ag25 : Ag Try.prog 25 := ⟨_, Try.underlying25, rfl⟩
attribute [instance] ag25
theorem conc25 : Conc Try.prog 25 := ⟨_, Try.underlying25, rfl⟩
attribute [instance] conc25
theorem inf25 : Inf Try.prog 25 (.agg #[(.int .i64 0), (.int .i64 0), (.int .u8 0), (.string ⟨#[]⟩)]) 4 40 := ⟨infH (by kernel_rfl)⟩
attribute [instance] inf25
theorem flds26 : Flds Try.prog 26 [(0, 24), (2, 5), (3, 9)] := ⟨_, Try.underlying26, rfl⟩
attribute [instance] flds26
theorem ag26 : Ag Try.prog 26 := ⟨_, Try.underlying26, rfl⟩
attribute [instance] ag26
theorem conc26 : Conc Try.prog 26 := ⟨_, Try.underlying26, rfl⟩
attribute [instance] conc26
theorem inf26 : Inf Try.prog 26 (.agg #[(.int .i64 0), (.int .i64 0), (.int .u8 0), (.string ⟨#[]⟩)]) 4 40 := ⟨infH (by kernel_rfl)⟩
attribute [instance] inf26
theorem und27 : Und Try.prog 27 (.func #[28] #[9] false) := ⟨Try.underlying27⟩
attribute [instance] und27
theorem conc27 : Conc Try.prog 27 := ⟨_, Try.underlying27, rfl⟩
attribute [instance] conc27
theorem one27 : One Try.prog 27 := ⟨_, Try.underlying27, rfl⟩
attribute [instance] one27
theorem inf27 : Inf Try.prog 27 .nilFunc 1 8 := ⟨infH (by kernel_rfl)⟩
attribute [instance] inf27
theorem und28 : Und Try.prog 28 (.slice 34) := ⟨Try.underlying28⟩
attribute [instance] und28
theorem conc28 : Conc Try.prog 28 := ⟨_, Try.underlying28, rfl⟩
attribute [instance] conc28
theorem one28 : One Try.prog 28 := ⟨_, Try.underlying28, rfl⟩
attribute [instance] one28
theorem inf28 : Inf Try.prog 28 (.slice none 0 0) 1 24 := ⟨infH (by kernel_rfl)⟩
attribute [instance] inf28
theorem und29 : Und Try.prog 29 (.func #[22] #[28] false) := ⟨Try.underlying29⟩
attribute [instance] und29
theorem conc29 : Conc Try.prog 29 := ⟨_, Try.underlying29, rfl⟩
attribute [instance] conc29
theorem one29 : One Try.prog 29 := ⟨_, Try.underlying29, rfl⟩
attribute [instance] one29
theorem inf29 : Inf Try.prog 29 .nilFunc 1 8 := ⟨infH (by kernel_rfl)⟩
attribute [instance] inf29
theorem und30 : Und Try.prog 30 (.func #[22] #[9] false) := ⟨Try.underlying30⟩
attribute [instance] und30
theorem conc30 : Conc Try.prog 30 := ⟨_, Try.underlying30, rfl⟩
attribute [instance] conc30
theorem one30 : One Try.prog 30 := ⟨_, Try.underlying30, rfl⟩
attribute [instance] one30
theorem inf30 : Inf Try.prog 30 .nilFunc 1 8 := ⟨infH (by kernel_rfl)⟩
attribute [instance] inf30
theorem und31 : Und Try.prog 31 (.func #[9] #[9] false) := ⟨Try.underlying31⟩
attribute [instance] und31
theorem conc31 : Conc Try.prog 31 := ⟨_, Try.underlying31, rfl⟩
attribute [instance] conc31
theorem one31 : One Try.prog 31 := ⟨_, Try.underlying31, rfl⟩
attribute [instance] one31
theorem inf31 : Inf Try.prog 31 .nilFunc 1 8 := ⟨infH (by kernel_rfl)⟩
attribute [instance] inf31
theorem und32 : Und Try.prog 32 (.func #[22, 9] #[4] false) := ⟨Try.underlying32⟩
attribute [instance] und32
theorem conc32 : Conc Try.prog 32 := ⟨_, Try.underlying32, rfl⟩
attribute [instance] conc32
theorem one32 : One Try.prog 32 := ⟨_, Try.underlying32, rfl⟩
attribute [instance] one32
theorem inf32 : Inf Try.prog 32 .nilFunc 1 8 := ⟨infH (by kernel_rfl)⟩
attribute [instance] inf32
theorem und33 : Und Try.prog 33 (.slice 9) := ⟨Try.underlying33⟩
attribute [instance] und33
theorem conc33 : Conc Try.prog 33 := ⟨_, Try.underlying33, rfl⟩
attribute [instance] conc33
theorem one33 : One Try.prog 33 := ⟨_, Try.underlying33, rfl⟩
attribute [instance] one33
theorem inf33 : Inf Try.prog 33 (.slice none 0 0) 1 24 := ⟨infH (by kernel_rfl)⟩
attribute [instance] inf33
theorem flds34 : Flds Try.prog 34 [(0, 24), (2, 5), (3, 9)] := ⟨_, Try.underlying34, rfl⟩
attribute [instance] flds34
theorem ag34 : Ag Try.prog 34 := ⟨_, Try.underlying34, rfl⟩
attribute [instance] ag34
theorem conc34 : Conc Try.prog 34 := ⟨_, Try.underlying34, rfl⟩
attribute [instance] conc34
theorem inf34 : Inf Try.prog 34 (.agg #[(.int .i64 0), (.int .i64 0), (.int .u8 0), (.string ⟨#[]⟩)]) 4 40 := ⟨infH (by kernel_rfl)⟩
attribute [instance] inf34
theorem und35 : Und Try.prog 35 (.func #[33, 9] #[9] false) := ⟨Try.underlying35⟩
attribute [instance] und35
theorem conc35 : Conc Try.prog 35 := ⟨_, Try.underlying35, rfl⟩
attribute [instance] conc35
theorem one35 : One Try.prog 35 := ⟨_, Try.underlying35, rfl⟩
attribute [instance] one35
theorem inf35 : Inf Try.prog 35 .nilFunc 1 8 := ⟨infH (by kernel_rfl)⟩
attribute [instance] inf35
theorem und36 : Und Try.prog 36 (.slice 5) := ⟨Try.underlying36⟩
attribute [instance] und36
theorem conc36 : Conc Try.prog 36 := ⟨_, Try.underlying36, rfl⟩
attribute [instance] conc36
theorem one36 : One Try.prog 36 := ⟨_, Try.underlying36, rfl⟩
attribute [instance] one36
theorem inf36 : Inf Try.prog 36 (.slice none 0 0) 1 24 := ⟨infH (by kernel_rfl)⟩
attribute [instance] inf36
theorem und37 : Und Try.prog 37 (.pointer 39) := ⟨Try.underlying37⟩
attribute [instance] und37
theorem conc37 : Conc Try.prog 37 := ⟨_, Try.underlying37, rfl⟩
attribute [instance] conc37
theorem one37 : One Try.prog 37 := ⟨_, Try.underlying37, rfl⟩
attribute [instance] one37
theorem inf37 : Inf Try.prog 37 (.pointer none) 1 8 := ⟨infH (by kernel_rfl)⟩
attribute [instance] inf37
theorem flds38 : Flds Try.prog 38 [(0, 37), (1, 36)] := ⟨_, Try.underlying38, rfl⟩
attribute [instance] flds38
theorem ag38 : Ag Try.prog 38 := ⟨_, Try.underlying38, rfl⟩
attribute [instance] ag38
theorem conc38 : Conc Try.prog 38 := ⟨_, Try.underlying38, rfl⟩
attribute [instance] conc38
theorem inf38 : Inf Try.prog 38 (.agg #[(.pointer none), (.slice none 0 0)]) 2 32 := ⟨infH (by kernel_rfl)⟩
attribute [instance] inf38
theorem flds39 : Flds Try.prog 39 [(0, 37), (1, 36)] := ⟨_, Try.underlying39, rfl⟩
attribute [instance] flds39
theorem ag39 : Ag Try.prog 39 := ⟨_, Try.underlying39, rfl⟩
attribute [instance] ag39
theorem conc39 : Conc Try.prog 39 := ⟨_, Try.underlying39, rfl⟩
attribute [instance] conc39
theorem inf39 : Inf Try.prog 39 (.agg #[(.pointer none), (.slice none 0 0)]) 2 32 := ⟨infH (by kernel_rfl)⟩
attribute [instance] inf39
theorem und40 : Und Try.prog 40 (.func #[3] #[] false) := ⟨Try.underlying40⟩
attribute [instance] und40
theorem conc40 : Conc Try.prog 40 := ⟨_, Try.underlying40, rfl⟩
attribute [instance] conc40
theorem one40 : One Try.prog 40 := ⟨_, Try.underlying40, rfl⟩
attribute [instance] one40
theorem inf40 : Inf Try.prog 40 .nilFunc 1 8 := ⟨infH (by kernel_rfl)⟩
attribute [instance] inf40
theorem ifc41 : Ifc Try.prog 41 := ⟨_, Try.underlying41⟩
attribute [instance] ifc41
theorem one41 : One Try.prog 41 := ⟨_, Try.underlying41, rfl⟩
attribute [instance] one41
theorem inf41 : Inf Try.prog 41 .nilIface 1 16 := ⟨infH (by kernel_rfl)⟩
attribute [instance] inf41
theorem ifc42 : Ifc Try.prog 42 := ⟨_, Try.underlying42⟩
attribute [instance] ifc42
theorem one42 : One Try.prog 42 := ⟨_, Try.underlying42, rfl⟩
attribute [instance] one42
theorem inf42 : Inf Try.prog 42 .nilIface 1 16 := ⟨infH (by kernel_rfl)⟩
attribute [instance] inf42
theorem und43 : Und Try.prog 43 (.tuple #[3, 42]) := ⟨Try.underlying43⟩
attribute [instance] und43
theorem conc43 : Conc Try.prog 43 := ⟨_, Try.underlying43, rfl⟩
attribute [instance] conc43
theorem one43 : One Try.prog 43 := ⟨_, Try.underlying43, rfl⟩
attribute [instance] one43
theorem inf43 : Inf Try.prog 43 (.tuple #[(.int .i64 0), .nilIface]) 1 0 := ⟨infH (by kernel_rfl)⟩
attribute [instance] inf43
theorem und44 : Und Try.prog 44 (.func #[9] #[3, 42] false) := ⟨Try.underlying44⟩
attribute [instance] und44
theorem conc44 : Conc Try.prog 44 := ⟨_, Try.underlying44, rfl⟩
attribute [instance] conc44
theorem one44 : One Try.prog 44 := ⟨_, Try.underlying44, rfl⟩
attribute [instance] one44
theorem inf44 : Inf Try.prog 44 .nilFunc 1 8 := ⟨infH (by kernel_rfl)⟩
attribute [instance] inf44
theorem und45 : Und Try.prog 45 (.func #[] #[9] false) := ⟨Try.underlying45⟩
attribute [instance] und45
theorem conc45 : Conc Try.prog 45 := ⟨_, Try.underlying45, rfl⟩
attribute [instance] conc45
theorem one45 : One Try.prog 45 := ⟨_, Try.underlying45, rfl⟩
attribute [instance] one45
theorem inf45 : Inf Try.prog 45 .nilFunc 1 8 := ⟨infH (by kernel_rfl)⟩
attribute [instance] inf45
theorem und46 : Und Try.prog 46 (.pointer 5) := ⟨Try.underlying46⟩
attribute [instance] und46
theorem conc46 : Conc Try.prog 46 := ⟨_, Try.underlying46, rfl⟩
attribute [instance] conc46
theorem one46 : One Try.prog 46 := ⟨_, Try.underlying46, rfl⟩
attribute [instance] one46
theorem inf46 : Inf Try.prog 46 (.pointer none) 1 8 := ⟨infH (by kernel_rfl)⟩
attribute [instance] inf46
theorem und47 : Und Try.prog 47 .unsafePointer := ⟨Try.underlying47⟩
attribute [instance] und47
theorem conc47 : Conc Try.prog 47 := ⟨_, Try.underlying47, rfl⟩
attribute [instance] conc47
theorem one47 : One Try.prog 47 := ⟨_, Try.underlying47, rfl⟩
attribute [instance] one47
theorem inf47 : Inf Try.prog 47 (.pointer none) 1 8 := ⟨infH (by kernel_rfl)⟩
attribute [instance] inf47
theorem und48 : Und Try.prog 48 (.func #[47] #[47] false) := ⟨Try.underlying48⟩
attribute [instance] und48
theorem conc48 : Conc Try.prog 48 := ⟨_, Try.underlying48, rfl⟩
attribute [instance] conc48
theorem one48 : One Try.prog 48 := ⟨_, Try.underlying48, rfl⟩
attribute [instance] one48
theorem inf48 : Inf Try.prog 48 .nilFunc 1 8 := ⟨infH (by kernel_rfl)⟩
attribute [instance] inf48
theorem und49 : Und Try.prog 49 (.func #[3] #[36] false) := ⟨Try.underlying49⟩
attribute [instance] und49
theorem conc49 : Conc Try.prog 49 := ⟨_, Try.underlying49, rfl⟩
attribute [instance] conc49
theorem one49 : One Try.prog 49 := ⟨_, Try.underlying49, rfl⟩
attribute [instance] one49
theorem inf49 : Inf Try.prog 49 .nilFunc 1 8 := ⟨infH (by kernel_rfl)⟩
attribute [instance] inf49
theorem flds50 : Flds Try.prog 50 [(0, 17), (1, 17), (2, 17), (3, 9)] := ⟨_, Try.underlying50, rfl⟩
attribute [instance] flds50
theorem ag50 : Ag Try.prog 50 := ⟨_, Try.underlying50, rfl⟩
attribute [instance] ag50
theorem conc50 : Conc Try.prog 50 := ⟨_, Try.underlying50, rfl⟩
attribute [instance] conc50
theorem inf50 : Inf Try.prog 50 (.agg #[(.pointer none), (.pointer none), (.pointer none), (.string ⟨#[]⟩)]) 4 40 := ⟨infH (by kernel_rfl)⟩
attribute [instance] inf50
theorem flds51 : Flds Try.prog 51 [(0, 17), (1, 17), (2, 17), (3, 9)] := ⟨_, Try.underlying51, rfl⟩
attribute [instance] flds51
theorem ag51 : Ag Try.prog 51 := ⟨_, Try.underlying51, rfl⟩
attribute [instance] ag51
theorem conc51 : Conc Try.prog 51 := ⟨_, Try.underlying51, rfl⟩
attribute [instance] conc51
theorem inf51 : Inf Try.prog 51 (.agg #[(.pointer none), (.pointer none), (.pointer none), (.string ⟨#[]⟩)]) 4 40 := ⟨infH (by kernel_rfl)⟩
attribute [instance] inf51
theorem und52 : Und Try.prog 52 (.array 0 16) := ⟨Try.underlying52⟩
attribute [instance] und52
theorem conc52 : Conc Try.prog 52 := ⟨_, Try.underlying52, rfl⟩
attribute [instance] conc52
theorem ag52 : Ag Try.prog 52 := ⟨_, Try.underlying52, rfl⟩
attribute [instance] ag52
theorem inf52 : Inf Try.prog 52 (.agg #[]) 0 0 := ⟨infH (by kernel_rfl)⟩
attribute [instance] inf52
theorem flds53 : Flds Try.prog 53 [(0, 52)] := ⟨_, Try.underlying53, rfl⟩
attribute [instance] flds53
theorem ag53 : Ag Try.prog 53 := ⟨_, Try.underlying53, rfl⟩
attribute [instance] ag53
theorem conc53 : Conc Try.prog 53 := ⟨_, Try.underlying53, rfl⟩
attribute [instance] conc53
theorem inf53 : Inf Try.prog 53 (.agg #[]) 0 0 := ⟨infH (by kernel_rfl)⟩
attribute [instance] inf53
theorem flds54 : Flds Try.prog 54 [(0, 52)] := ⟨_, Try.underlying54, rfl⟩
attribute [instance] flds54
theorem ag54 : Ag Try.prog 54 := ⟨_, Try.underlying54, rfl⟩
attribute [instance] ag54
theorem conc54 : Conc Try.prog 54 := ⟨_, Try.underlying54, rfl⟩
attribute [instance] conc54
theorem inf54 : Inf Try.prog 54 (.agg #[]) 0 0 := ⟨infH (by kernel_rfl)⟩
attribute [instance] inf54
theorem und55 : Und Try.prog 55 (.func #[] #[3] false) := ⟨Try.underlying55⟩
attribute [instance] und55
theorem conc55 : Conc Try.prog 55 := ⟨_, Try.underlying55, rfl⟩
attribute [instance] conc55
theorem one55 : One Try.prog 55 := ⟨_, Try.underlying55, rfl⟩
attribute [instance] one55
theorem inf55 : Inf Try.prog 55 .nilFunc 1 8 := ⟨infH (by kernel_rfl)⟩
attribute [instance] inf55
theorem und56 : Und Try.prog 56 (.int .u32) := ⟨Try.underlying56⟩
attribute [instance] und56
theorem conc56 : Conc Try.prog 56 := ⟨_, Try.underlying56, rfl⟩
attribute [instance] conc56
theorem one56 : One Try.prog 56 := ⟨_, Try.underlying56, rfl⟩
attribute [instance] one56
theorem inf56 : Inf Try.prog 56 (.int .u32 0) 1 4 := ⟨infH (by kernel_rfl)⟩
attribute [instance] inf56
theorem und57 : Und Try.prog 57 (.int .u8) := ⟨Try.underlying57⟩
attribute [instance] und57
theorem conc57 : Conc Try.prog 57 := ⟨_, Try.underlying57, rfl⟩
attribute [instance] conc57
theorem one57 : One Try.prog 57 := ⟨_, Try.underlying57, rfl⟩
attribute [instance] one57
theorem inf57 : Inf Try.prog 57 (.int .u8 0) 1 1 := ⟨infH (by kernel_rfl)⟩
attribute [instance] inf57
theorem und58 : Und Try.prog 58 (.int .u8) := ⟨Try.underlying58⟩
attribute [instance] und58
theorem conc58 : Conc Try.prog 58 := ⟨_, Try.underlying58, rfl⟩
attribute [instance] conc58
theorem one58 : One Try.prog 58 := ⟨_, Try.underlying58, rfl⟩
attribute [instance] one58
theorem inf58 : Inf Try.prog 58 (.int .u8 0) 1 1 := ⟨infH (by kernel_rfl)⟩
attribute [instance] inf58
theorem und59 : Und Try.prog 59 (.func #[47, 47] #[4] false) := ⟨Try.underlying59⟩
attribute [instance] und59
theorem conc59 : Conc Try.prog 59 := ⟨_, Try.underlying59, rfl⟩
attribute [instance] conc59
theorem one59 : One Try.prog 59 := ⟨_, Try.underlying59, rfl⟩
attribute [instance] one59
theorem inf59 : Inf Try.prog 59 .nilFunc 1 8 := ⟨infH (by kernel_rfl)⟩
attribute [instance] inf59
theorem und60 : Und Try.prog 60 (.int .i32) := ⟨Try.underlying60⟩
attribute [instance] und60
theorem conc60 : Conc Try.prog 60 := ⟨_, Try.underlying60, rfl⟩
attribute [instance] conc60
theorem one60 : One Try.prog 60 := ⟨_, Try.underlying60, rfl⟩
attribute [instance] one60
theorem inf60 : Inf Try.prog 60 (.int .i32 0) 1 4 := ⟨infH (by kernel_rfl)⟩
attribute [instance] inf60
theorem und61 : Und Try.prog 61 (.int .i32) := ⟨Try.underlying61⟩
attribute [instance] und61
theorem conc61 : Conc Try.prog 61 := ⟨_, Try.underlying61, rfl⟩
attribute [instance] conc61
theorem one61 : One Try.prog 61 := ⟨_, Try.underlying61, rfl⟩
attribute [instance] one61
theorem inf61 : Inf Try.prog 61 (.int .i32 0) 1 4 := ⟨infH (by kernel_rfl)⟩
attribute [instance] inf61
theorem flds62 : Flds Try.prog 62 [(0, 12), (1, 12), (2, 56), (3, 57), (4, 5), (5, 5), (6, 58), (7, 59), (8, 46), (9, 60), (10, 61)] := ⟨_, Try.underlying62, rfl⟩
attribute [instance] flds62
theorem ag62 : Ag Try.prog 62 := ⟨_, Try.underlying62, rfl⟩
attribute [instance] ag62
theorem conc62 : Conc Try.prog 62 := ⟨_, Try.underlying62, rfl⟩
attribute [instance] conc62
theorem inf62 : Inf Try.prog 62 (.agg #[(.int .u64 0), (.int .u64 0), (.int .u32 0), (.int .u8 0), (.int .u8 0), (.int .u8 0), (.int .u8 0), .nilFunc, (.pointer none), (.int .i32 0), (.int .i32 0)]) 11 48 := ⟨infH (by kernel_rfl)⟩
attribute [instance] inf62
theorem flds63 : Flds Try.prog 63 [(0, 12), (1, 12), (2, 56), (3, 57), (4, 5), (5, 5), (6, 58), (7, 59), (8, 46), (9, 60), (10, 61)] := ⟨_, Try.underlying63, rfl⟩
attribute [instance] flds63
theorem ag63 : Ag Try.prog 63 := ⟨_, Try.underlying63, rfl⟩
attribute [instance] ag63
theorem conc63 : Conc Try.prog 63 := ⟨_, Try.underlying63, rfl⟩
attribute [instance] conc63
theorem inf63 : Inf Try.prog 63 (.agg #[(.int .u64 0), (.int .u64 0), (.int .u32 0), (.int .u8 0), (.int .u8 0), (.int .u8 0), (.int .u8 0), .nilFunc, (.pointer none), (.int .i32 0), (.int .i32 0)]) 11 48 := ⟨infH (by kernel_rfl)⟩
attribute [instance] inf63
theorem plc7 : Plc Try.prog 7 [(0, 1), (1, 1), (2, 1), (3, 1)] := ⟨_, Try.underlying7, ⟨rfl, szH inf2, ⟨rfl, szH inf3, ⟨rfl, szH inf4, ⟨rfl, szH inf6, trivial⟩⟩⟩⟩⟩
attribute [instance] plc7
theorem plc8 : Plc Try.prog 8 [(0, 1), (1, 1), (2, 1), (3, 1)] := ⟨_, Try.underlying8, ⟨rfl, szH inf2, ⟨rfl, szH inf3, ⟨rfl, szH inf4, ⟨rfl, szH inf6, trivial⟩⟩⟩⟩⟩
attribute [instance] plc8
theorem plc13 : Plc Try.prog 13 [(0, 1), (1, 1)] := ⟨_, Try.underlying13, ⟨rfl, szH inf9, ⟨rfl, szH inf12, trivial⟩⟩⟩
attribute [instance] plc13
theorem plc14 : Plc Try.prog 14 [(0, 1), (1, 1)] := ⟨_, Try.underlying14, ⟨rfl, szH inf9, ⟨rfl, szH inf12, trivial⟩⟩⟩
attribute [instance] plc14
theorem plc18 : Plc Try.prog 18 [(0, 1)] := ⟨_, Try.underlying18, ⟨rfl, szH inf17, trivial⟩⟩
attribute [instance] plc18
theorem plc19 : Plc Try.prog 19 [(0, 1)] := ⟨_, Try.underlying19, ⟨rfl, szH inf17, trivial⟩⟩
attribute [instance] plc19
theorem plc23 : Plc Try.prog 23 [(0, 1), (1, 1)] := ⟨_, Try.underlying23, ⟨rfl, szH inf3, ⟨rfl, szH inf3, trivial⟩⟩⟩
attribute [instance] plc23
theorem plc24 : Plc Try.prog 24 [(0, 1), (1, 1)] := ⟨_, Try.underlying24, ⟨rfl, szH inf3, ⟨rfl, szH inf3, trivial⟩⟩⟩
attribute [instance] plc24
theorem plc25 : Plc Try.prog 25 [(0, 2), (2, 1), (3, 1)] := ⟨_, Try.underlying25, ⟨rfl, szH inf24, ⟨rfl, szH inf5, ⟨rfl, szH inf9, trivial⟩⟩⟩⟩
attribute [instance] plc25
theorem plc26 : Plc Try.prog 26 [(0, 2), (2, 1), (3, 1)] := ⟨_, Try.underlying26, ⟨rfl, szH inf24, ⟨rfl, szH inf5, ⟨rfl, szH inf9, trivial⟩⟩⟩⟩
attribute [instance] plc26
theorem plc34 : Plc Try.prog 34 [(0, 2), (2, 1), (3, 1)] := ⟨_, Try.underlying34, ⟨rfl, szH inf24, ⟨rfl, szH inf5, ⟨rfl, szH inf9, trivial⟩⟩⟩⟩
attribute [instance] plc34
theorem plc38 : Plc Try.prog 38 [(0, 1), (1, 1)] := ⟨_, Try.underlying38, ⟨rfl, szH inf37, ⟨rfl, szH inf36, trivial⟩⟩⟩
attribute [instance] plc38
theorem plc39 : Plc Try.prog 39 [(0, 1), (1, 1)] := ⟨_, Try.underlying39, ⟨rfl, szH inf37, ⟨rfl, szH inf36, trivial⟩⟩⟩
attribute [instance] plc39
theorem plc50 : Plc Try.prog 50 [(0, 1), (1, 1), (2, 1), (3, 1)] := ⟨_, Try.underlying50, ⟨rfl, szH inf17, ⟨rfl, szH inf17, ⟨rfl, szH inf17, ⟨rfl, szH inf9, trivial⟩⟩⟩⟩⟩
attribute [instance] plc50
theorem plc51 : Plc Try.prog 51 [(0, 1), (1, 1), (2, 1), (3, 1)] := ⟨_, Try.underlying51, ⟨rfl, szH inf17, ⟨rfl, szH inf17, ⟨rfl, szH inf17, ⟨rfl, szH inf9, trivial⟩⟩⟩⟩⟩
attribute [instance] plc51
theorem plc53 : Plc Try.prog 53 [(0, 0)] := ⟨_, Try.underlying53, ⟨rfl, szH inf52, trivial⟩⟩
attribute [instance] plc53
theorem plc54 : Plc Try.prog 54 [(0, 0)] := ⟨_, Try.underlying54, ⟨rfl, szH inf52, trivial⟩⟩
attribute [instance] plc54
theorem plc62 : Plc Try.prog 62 [(0, 1), (1, 1), (2, 1), (3, 1), (4, 1), (5, 1), (6, 1), (7, 1), (8, 1), (9, 1), (10, 1)] := ⟨_, Try.underlying62, ⟨rfl, szH inf12, ⟨rfl, szH inf12, ⟨rfl, szH inf56, ⟨rfl, szH inf57, ⟨rfl, szH inf5, ⟨rfl, szH inf5, ⟨rfl, szH inf58, ⟨rfl, szH inf59, ⟨rfl, szH inf46, ⟨rfl, szH inf60, ⟨rfl, szH inf61, trivial⟩⟩⟩⟩⟩⟩⟩⟩⟩⟩⟩⟩
attribute [instance] plc62
theorem plc63 : Plc Try.prog 63 [(0, 1), (1, 1), (2, 1), (3, 1), (4, 1), (5, 1), (6, 1), (7, 1), (8, 1), (9, 1), (10, 1)] := ⟨_, Try.underlying63, ⟨rfl, szH inf12, ⟨rfl, szH inf12, ⟨rfl, szH inf56, ⟨rfl, szH inf57, ⟨rfl, szH inf5, ⟨rfl, szH inf5, ⟨rfl, szH inf58, ⟨rfl, szH inf59, ⟨rfl, szH inf46, ⟨rfl, szH inf60, ⟨rfl, szH inf61, trivial⟩⟩⟩⟩⟩⟩⟩⟩⟩⟩⟩⟩
attribute [instance] plc63
theorem fun2 : HasFn Try.prog 2 := ⟨Try.f2, _, Try.func2, by kernel_rfl, rfl⟩
attribute [instance] fun2
theorem fun3 : HasFn Try.prog 3 := ⟨Try.f3, _, Try.func3, by kernel_rfl, rfl⟩
attribute [instance] fun3
theorem fun4 : HasFn Try.prog 4 := ⟨Try.f4, _, Try.func4, by kernel_rfl, rfl⟩
attribute [instance] fun4
theorem fun5 : HasFn Try.prog 5 := ⟨Try.f5, _, Try.func5, by kernel_rfl, rfl⟩
attribute [instance] fun5
theorem fun6 : HasFn Try.prog 6 := ⟨Try.f6, _, Try.func6, by kernel_rfl, rfl⟩
attribute [instance] fun6
theorem fun7 : HasFn Try.prog 7 := ⟨Try.f7, _, Try.func7, by kernel_rfl, rfl⟩
attribute [instance] fun7
theorem fun8 : HasFn Try.prog 8 := ⟨Try.f8, _, Try.func8, by kernel_rfl, rfl⟩
attribute [instance] fun8
theorem fun9 : HasFn Try.prog 9 := ⟨Try.f9, _, Try.func9, by kernel_rfl, rfl⟩
attribute [instance] fun9
theorem fun10 : HasFn Try.prog 10 := ⟨Try.f10, _, Try.func10, by kernel_rfl, rfl⟩
attribute [instance] fun10
theorem fun11 : HasFn Try.prog 11 := ⟨Try.f11, _, Try.func11, by kernel_rfl, rfl⟩
attribute [instance] fun11
theorem fun12 : HasFn Try.prog 12 := ⟨Try.f12, _, Try.func12, by kernel_rfl, rfl⟩
attribute [instance] fun12
theorem fun13 : HasFn Try.prog 13 := ⟨Try.f13, _, Try.func13, by kernel_rfl, rfl⟩
attribute [instance] fun13
theorem fun14 : HasFn Try.prog 14 := ⟨Try.f14, _, Try.func14, by kernel_rfl, rfl⟩
attribute [instance] fun14
end Go.Proofs.Ytpgnmnacfilnkaa
