/- Walks. -/
import Derived.Test.YtbhipiepfclneaaGreatDoorQ06
import Derived.Test.YtbhipiepfclneaaGreatDoorQ05
import Derived.Test.YtbhipiepfclneaaGreatDoorQ04
import Derived.Test.YtbhipiepfclneaaGreatDoorQ03
import Derived.Test.YtbhipiepfclneaaGreatDoorQ02
import Derived.Test.YtbhipiepfclneaaGreatDoorQ01
import Derived.Test.YtbhipiepfclneaaGreatDoorQ07
import Derived.WideLaws
namespace Go.Wk
open Go
set_option linter.unusedVariables false
set_option linter.unusedSimpArgs false
section
variable {P : Program} {ops : Array Oper} {Q : Exit → Act → World → Prop} {Kw : World → Prop}
variable {n : Sz} {L : List (Nat × Value)} {w0 : World} {F0 : Heap} {K0 : List Nat} {F : Heap} {G : List Grp} {a : Act} {w : World} {T : Act → Prop} {rest : List Oper} {o : Oper} {Kl : List (Nat × Obj)} {pf late brk : List Nat} {r : Od} {live : Bool} {Fk : Heap}
theorem wpm_two {j k : Nat} {o2 : Oper} {r2 : Od} (ho : ops[j]? = some o) (ho2 : ops[k]? = some o2) (hk : live = true → KwF Fk Kl w) (h : wpList P ops (QK (wpM P ops Q (KwF Fk Kl) pf late brk (live && !brk.contains j) r)) [o] a w) (h2 : wpList P ops (QK (wpM P ops Q (KwF Fk Kl) pf late brk (live && !brk.contains k) r2)) [o2] a w) : wpM P ops Q (KwF Fk Kl) pf late brk live (.two j k r r2) a w := by
 unfold wpM
 exact ⟨hk, stepM_of ho h, stepM_of ho2 h2⟩
end
section
variable {P : Program} {n : Sz} {L : List (Nat × Value)} {w0 : World} {F0 : Heap} {K0 : List Nat} {F : Heap} {G : List Grp} {a : Act} {w : World} {Q : Exit → Act → World → Prop}
variable {ops : Array Oper} {rest : List Oper} {o : Oper} {Kl : List (Nat × Obj)} {pf late brk : List Nat} {r : Od} {live : Bool} {Fk : Heap} {d : Nat} {v : Value}
theorem wlF {k : Nat} (S : St n L w0 F0 K0 F G a w) (ho : ops[k]? = some o) (h : ∀ w', St n L w' Fk [] Fk [] a w' → SV P o a w' v) (kk : ∀ a', St n ((d, v) :: L) w0 F0 K0 F G a' w → wpM P ops Q (KwF Fk Kl) pf late brk live r a' w)
  (hw : Region.wanted o (yielded ops a.tmps) = true := by first | exact want_none _ rfl | exact want_yes S rfl rfl rfl) (hpf : pf.contains k = true := by rfl) (hlt : late.contains k = true := by rfl) (hd : o.dst = some d := by rfl) (hn : Nat.blt d n.sz = true := by rfl) : wpM P ops Q (KwF Fk Kl) pf late brk live (.one k r) a w := wpm_lateF S ho hpf hlt hw hd hn h kk
end
end Go.Wk
