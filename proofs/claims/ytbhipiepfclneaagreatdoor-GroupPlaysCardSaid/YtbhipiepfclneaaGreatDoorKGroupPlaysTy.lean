/- Walks. -/
import Derived.Test.YtbhipiepfclneaaGreatDoorKGroupPlays01
import Derived.Test.YtbhipiepfclneaaGreatDoorQTy
namespace Go.Proofs.YtbhipiepfclneaaGreatDoor
open Go Go.Wk
set_option linter.unusedSimpArgs false
set_option linter.unusedVariables false
instance ub4 : Und Tryz.prog 23 (.slice 34) := ⟨Tryz.underlying23⟩
instance u5j : Inf Tryz.prog 24 (.slice none 0 0) 1 24 := ⟨q6s (by kernel_rfl)⟩
instance u62 : qkq Tryz.prog 34 [(0, 5), (1, 32), (2, 32), (3, 32)] := ⟨_, Tryz.underlying34, rfl⟩
instance u9b : Inf Tryz.prog 34 (.agg #[(.int .u8 0), (.slice none 0 0), (.slice none 0 0), (.slice none 0 0)]) 4 80 := ⟨q6s (by kernel_rfl)⟩
instance u9u : Und Tryz.prog 35 (.int .u64) := ⟨Tryz.underlying35⟩
instance uba : Und Tryz.prog 59 (.slice 63) := ⟨Tryz.underlying59⟩
instance u4w : Inf Tryz.prog 59 (.slice none 0 0) 1 24 := ⟨q6s (by kernel_rfl)⟩
instance u81 : qkq Tryz.prog 61 [(0, 22), (1, 59)] := ⟨_, Tryz.underlying61, rfl⟩
instance ub7 : Inf Tryz.prog 61 (.agg #[(.slice none 0 0), (.slice none 0 0)]) 2 48 := ⟨q6s (by kernel_rfl)⟩
instance u7i : qkq Tryz.prog 63 [(0, 32), (1, 32), (2, 32)] := ⟨_, Tryz.underlying63, rfl⟩
instance ucf : Inf Tryz.prog 63 (.agg #[(.slice none 0 0), (.slice none 0 0), (.slice none 0 0)]) 3 72 := ⟨q6s (by kernel_rfl)⟩
instance u4d : qkq Tryz.prog 162 [(0, 4), (1, 24)] := ⟨_, Tryz.underlying162, rfl⟩
instance u6q : Inf Tryz.prog 162 (.agg #[(.bool false), (.slice none 0 0)]) 2 32 := ⟨q6s (by kernel_rfl)⟩
instance uax : Plc Tryz.prog 61 [(0, 1), (1, 1)] := ⟨_, Tryz.underlying61, ⟨rfl, szH u0i, ⟨rfl, szH u4w, trivial⟩⟩⟩
instance u8u : Plc Tryz.prog 63 [(0, 1), (1, 1), (2, 1)] := ⟨_, Tryz.underlying63, ⟨rfl, szH qn3, ⟨rfl, szH qn3, ⟨rfl, szH qn3, trivial⟩⟩⟩⟩
instance u6m : Plc Tryz.prog 162 [(0, 1), (1, 1)] := ⟨_, Tryz.underlying162, ⟨rfl, szH u7x, ⟨rfl, szH u5j, trivial⟩⟩⟩
instance ucq : q0b Tryz.prog 7 := q0z Tryz.func7
instance ucp : q0b Tryz.prog 8 := q0z Tryz.func8
instance u9y : q0b Tryz.prog 13 := q0z Tryz.func13
instance ua8 : q0b Tryz.prog 19 := q0z Tryz.func19
instance ucm : q0b Tryz.prog 20 := q0z Tryz.func20
instance ubk : q0b Tryz.prog 21 := q0z Tryz.func21
instance ucj : q0b Tryz.prog 22 := q0z Tryz.func22
instance uak : q0b Tryz.prog 23 := q0z Tryz.func23
instance u9p : q0b Tryz.prog 24 := q0z Tryz.func24
instance uaw : q0b Tryz.prog 26 := q0z Tryz.func26
instance u9h : q0b Tryz.prog 27 := q0z Tryz.func27
instance ua3 : q0b Tryz.prog 29 := q0z Tryz.func29
instance uaf : q0b Tryz.prog 42 := q0z Tryz.func42
instance ua4 : q0b Tryz.prog 43 := q0z Tryz.func43
instance u97 : q0b Tryz.prog 44 := q0z Tryz.func44
instance ucc : q0b Tryz.prog 46 := q0z Tryz.func46
instance u9n : q0b Tryz.prog 47 := q0z Tryz.func47
instance u9a : q0b Tryz.prog 72 := q0z Tryz.func72
instance ubc : q0b Tryz.prog 73 := q0z Tryz.func73
instance ubj : q0b Tryz.prog 74 := q0z Tryz.func74
instance ua0 : q0b Tryz.prog 75 := q0z Tryz.func75
instance u9r : q0b Tryz.prog 76 := q0z Tryz.func76
instance uav : q0b Tryz.prog 77 := q0z Tryz.func77
instance uaq : q0b Tryz.prog 78 := q0z Tryz.func78
instance ubx : q0b Tryz.prog 81 := q0z Tryz.func81
instance uby : q0b Tryz.prog 82 := q0z Tryz.func82
instance u6c : q0b Tryz.prog 110 := q0z Tryz.func110
instance u85 : q0b Tryz.prog 111 := q0z Tryz.func111
instance u7a : q0b Tryz.prog 112 := q0z Tryz.func112
instance u66 : q0b Tryz.prog 113 := q0z Tryz.func113
instance u8m : q0b Tryz.prog 114 := q0z Tryz.func114
instance u67 : q0b Tryz.prog 115 := q0z Tryz.func115
instance u78 : q0b Tryz.prog 116 := q0z Tryz.func116
instance u6e : q0b Tryz.prog 117 := q0z Tryz.func117
instance u7h : q0b Tryz.prog 118 := q0z Tryz.func118
instance u8h : q0b Tryz.prog 119 := q0z Tryz.func119
instance u82 : q0b Tryz.prog 121 := q0z Tryz.func121
instance u7q : q0b Tryz.prog 123 := q0z Tryz.func123
instance u8q : q0b Tryz.prog 147 := q0z Tryz.func147
instance u8g : q0b Tryz.prog 148 := q0z Tryz.func148
instance u86 : q0b Tryz.prog 149 := q0z Tryz.func149
instance u8l : q0b Tryz.prog 150 := q0z Tryz.func150
instance u6v : q0b Tryz.prog 151 := q0z Tryz.func151
instance u7b : q0b Tryz.prog 152 := q0z Tryz.func152
instance u60 : q0b Tryz.prog 153 := q0z Tryz.func153
instance u6n : q0b Tryz.prog 154 := q0z Tryz.func154
instance u71 : q0b Tryz.prog 155 := q0z Tryz.func155
instance u7s : q0b Tryz.prog 157 := q0z Tryz.func157
instance u6s : q0b Tryz.prog 167 := q0z Tryz.func167
instance u6t : q0b Tryz.prog 168 := q0z Tryz.func168
instance u6k : q0b Tryz.prog 182 := q0z Tryz.func182
instance u7u : q0b Tryz.prog 183 := q0z Tryz.func183
