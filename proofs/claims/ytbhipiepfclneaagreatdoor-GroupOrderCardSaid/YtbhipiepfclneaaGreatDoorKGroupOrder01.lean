/- Walks. -/
import Derived.Test.YtbhipiepfclneaaGreatDoorQ04
import Derived.Test.YtbhipiepfclneaaGreatDoorQ03
import Derived.Test.YtbhipiepfclneaaGreatDoorQ02
import Derived.Test.YtbhipiepfclneaaGreatDoorQ01
import Derived.Laws.MakeOwn
import Derived.Laws.Slices
import Derived.Laws.Cover3
import Derived.Test.YtbhipiepfclneaaGreatDoorQ05
import Derived.Test.YtbhipiepfclneaaGreatDoorQ07
import Derived.Test.YtbhipiepfclneaaGreatDoorQ06
import Derived.WideLaws
namespace Go.Wk
open Go
set_option linter.unusedSimpArgs false
set_option linter.unusedVariables false
section
variable {P : Program} {n : Sz} {L : List (Nat × Value)} {w0 : World} {F0 : Heap} {K0 : List Nat} {F : Heap} {G : List Grp} {a : Act} {w : World} {o o2 : Oper} {ops : Array Oper} {rest : List Oper} {Q : Exit → Act → World → Prop}
theorem sv_sliceSl_h {x y : Operand} {ao : Option Addr} {m c i : Nat} {k : IntKind} {t e : TypeId} {zv : Value} {sz by_ : Nat} [ht : Und P t (.slice e)] [hi : Inf P e zv sz by_] (S : St n L w0 F0 K0 F G a w) (ho : o.op = .slice t x none (some y) none)
  (hx : ev L x = some (.slice ao m c)) (hy : ev L y = some (.int k (Int.ofNat i))) (h1 : i ≤ c) : SV P o a w (.slice ao i c) := by
 have hb : (Instr.sliceBounds true m c none (some (.int k (Int.ofNat i))) none).run P w = .ok (0, i, c) w := by
  simp [Instr.sliceBounds, Instr.sliceBound, asIntOf, h1]
 have ha : ao.map (fun a : Addr => a.add (0 * sz)) = ao := by cases ao <;> simp [Addr.add]
 unfold SV execOp
 rw [ho]
 simp only [Option.map_none, Option.map_some, S.fr.eval hx, S.fr.eval hy]
 simp only [Instr.sliceAt, Instr.slice, Sem.run_bind, run_underlying ht.h, Result.andThen_ok, hb, run_sizeOf hi, ha]
 simp
end
section
variable {P : Program} {n : Sz} {L : List (Nat × Value)} {w0 : World} {F0 : Heap} {K0 : List Nat} {F : Heap} {G : List Grp} {a : Act} {w : World} {Q : Exit → Act → World → Prop}
variable {ops : Array Oper} {rest : List Oper} {o : Oper} {Kl : List (Nat × Obj)} {pf late brk : List Nat} {r : Od} {live : Bool} {Fk : Heap} {d : Nat} {v : Value}
theorem wlF {k : Nat} (S : St n L w0 F0 K0 F G a w) (ho : ops[k]? = some o) (h : ∀ w', St n L w' Fk [] Fk [] a w' → SV P o a w' v) (kk : ∀ a', St n ((d, v) :: L) w0 F0 K0 F G a' w → wpM P ops Q (KwF Fk Kl) pf late brk live r a' w)
  (hw : Region.wanted o (yielded ops a.tmps) = true := by first | exact want_none _ rfl | exact want_yes S rfl rfl rfl) (hpf : pf.contains k = true := by rfl) (hlt : late.contains k = true := by rfl) (hd : o.dst = some d := by rfl) (hn : Nat.blt d n.sz = true := by rfl) : wpM P ops Q (KwF Fk Kl) pf late brk live (.one k r) a w := wpm_lateF S ho hpf hlt hw hd hn h kk
end
end Go.Wk
