/- Walks. -/
import Derived.Test.YthnafdbebniapaaGreatDoorQ01
import Derived.IntWalk
import Derived.Laws.Strings
import Derived.Laws.Slices
import Derived.Laws.MakeOwn
namespace Go.Wk
open Go
set_option linter.unusedSimpArgs false
set_option linter.unusedVariables false
section
variable {P : Program} {n : Sz} {L : List (Nat × Value)} {w0 : World} {F0 : Heap} {K0 : List Nat} {F : Heap} {G : List Grp} {a : Act} {w : World}
variable {ops : Array Oper} {Q : Exit → Act → World → Prop} {rest : List Oper} {o : Oper}
theorem sv_quo {x y : Operand} {p q : Int} {t yt : TypeId} (S : St n L w0 F0 K0 F G a w) (ho : o.op = .binOp .quo t x y yt) (hx : ev L x = some (.int .i64 p)) (hy : ev L y = some (.int .i64 q))
  (hb : 0 ≤ p ∧ p ≤ 9223372036854775807 ∧ 1 ≤ q) : SV P o a w (.int .i64 (p / q)) :=
 run_intOp S ho hx hy (by simp [binOp, Op.intDiv, IntWalk.i64_quo _ _ hb, show q ≠ 0 by omega])
end
end Go.Wk
