/- More rules: what a test is known to say, signed division, the number with the other sign. Nothing here knows the program. -/
import Derived.Test.YtcjnmehpkcblfaaDoorWk12
import Derived.WideLaws
namespace Go.Wk
open Go
set_option linter.unusedVariables false
set_option linter.unusedSimpArgs false

section
variable {P : Program} {n : Sz} {L : List (Nat × Value)} {w0 : World} {F0 : Heap} {K0 : List Nat} {F : Heap} {G : List Grp} {a : Act} {w : World} {o : Oper}
theorem sv_lit {b c : Bool} (h : SV P o a w (.bool b)) (e : b = c) : SV P o a w (.bool c) := by subst e; exact h
theorem tdiv_in {p q : Int} (hb : -9223372036854775808 ≤ p ∧ p ≤ 9223372036854775807 ∧ 2 ≤ q) : -9223372036854775808 ≤ p.tdiv q ∧ p.tdiv q ≤ 9223372036854775807 := by
  obtain ⟨h1, h2, h3⟩ := hb
  have h4 : (p.tdiv q).natAbs ≤ p.natAbs := by rw [Int.natAbs_tdiv]; exact Nat.div_le_self _ _
  have h5 : (p.tdiv q).natAbs ≤ 9223372036854775807 := by
    rw [Int.natAbs_tdiv, show p.natAbs.div q.natAbs = p.natAbs / q.natAbs from rfl]
    have h6 : p.natAbs / q.natAbs ≤ p.natAbs / 2 := Nat.div_le_div_left (by omega) (by decide)
    omega
  omega
theorem sv_quoT {x y : Operand} {p q : Int} {t yt : TypeId} (S : St n L w0 F0 K0 F G a w) (ho : o.op = .binOp .quo t x y yt) (hx : ev L x = some (.int .i64 p)) (hy : ev L y = some (.int .i64 q))
    (hb : -9223372036854775808 ≤ p ∧ p ≤ 9223372036854775807 ∧ 2 ≤ q) : SV P o a w (.int .i64 (p.tdiv q)) :=
  run_intOp S ho hx hy (by simp [binOp, Op.intDiv, IntWalk.i64_in _ (tdiv_in hb), show q ≠ 0 by omega])
theorem sv_remT {x y : Operand} {p q : Int} {t yt : TypeId} (S : St n L w0 F0 K0 F G a w) (ho : o.op = .binOp .rem t x y yt) (hx : ev L x = some (.int .i64 p)) (hy : ev L y = some (.int .i64 q))
    (hb : 1 ≤ q) : SV P o a w (.int .i64 (p.tmod q)) :=
  run_intOp S ho hx hy (by simp [binOp, Op.intDiv, show q ≠ 0 by omega])
theorem sv_negI {x : Operand} {p : Int} {t : TypeId} (S : St n L w0 F0 K0 F G a w) (ho : o.op = .unOp .neg t x) (hx : ev L x = some (.int .i64 p))
    (hb : -9223372036854775807 ≤ p ∧ p ≤ 9223372036854775807) : SV P o a w (.int .i64 (-p)) := by
  unfold SV execOp
  rw [ho]
  have e : IntKind.i64.wrap (0 - p) = -p := by rw [IntWalk.i64_in (0 - p) (by omega), Int.zero_sub]
  simp [S.fr.eval hx, Op.unary, Op.intArith]
  simpa using e
theorem ifcM {t : TypeId} (ht : Ifc P t) : P.underlying t = some (.interface (P.methodsAt t)) := by
  obtain ⟨ms, h⟩ := ht.h
  simp [Program.methodsAt, h]
theorem sv_neNil {x : Operand} {t yt : TypeId} [ht : Ifc P t] (S : St n L w0 F0 K0 F G a w) (ho : o.op = .binOp .neq t x (.const .nilIface) yt) (hx : ev L x = some .nilIface) : SV P o a w (.bool false) := by
  unfold SV execOp
  rw [ho]
  have e := S.fr.eval hx
  have h1 : (eqGuard .neq t x (.const .nilIface) .nilIface .nilIface).run P w = .ok () w := by simp [eqGuard]
  have h2 : a.eval (.const .nilIface) = .nilIface := rfl
  simp [e, h1, h2, run_neq_nil_nil w t (ifcM ht)]
theorem sv_neSome {x : Operand} {t yt u : TypeId} {v : Value} [ht : Ifc P t] (S : St n L w0 F0 K0 F G a w) (ho : o.op = .binOp .neq t x (.const .nilIface) yt) (hx : ev L x = some (.iface u v)) : SV P o a w (.bool true) := by
  unfold SV execOp
  rw [ho]
  have e := S.fr.eval hx
  have h1 : (eqGuard .neq t x (.const .nilIface) (.iface u v) .nilIface).run P w = .ok () w := by simp [eqGuard]
  have h2 : a.eval (.const .nilIface) = .nilIface := rfl
  simp [e, h1, h2, run_neq_held_nil w t u v (ifcM ht)]
theorem ct_of_below2 {P : Program} {f : FuncId} {F : Heap} {args : List Value} {Q : Value → Prop} (h : ∀ w, At w F [] → Calls P f ⟨args⟩ w (fun e w' => ∃ v, e = .returned v ∧ Q v ∧ RowKit.Below w.heap.size w w')) : Ct P f args F [] (fun _ _ u => Q u) :=
  fun w hat => (h w hat).mono fun e w' ⟨v, he, hq, hb⟩ => ⟨v, F, [], he, tr_of_below hat hb, hq⟩
end
end Go.Wk
