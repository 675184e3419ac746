/- More rules: what a test is known to say, signed division, the number with the other sign. Nothing here knows the program. -/
import Derived.Test.YtoaodbclgeeaeaaGreatDoorWk12
import Derived.WideLaws
namespace Go.Wk
open Go
set_option linter.unusedVariables false
set_option linter.unusedSimpArgs false

section
variable {P : Program} {n : Sz} {L : List (Nat × Value)} {w0 : World} {F0 : Heap} {K0 : List Nat} {F : Heap} {G : List Grp} {a : Act} {w : World} {o : Oper}
theorem sv_lit {b c : Bool} (h : SV P o a w (.bool b)) (e : b = c) : SV P o a w (.bool c) := by subst e; exact h
theorem tdiv_in {p q : Int} (hb : -9223372036854775808 ≤ p ∧ p ≤ 9223372036854775807 ∧ 2 ≤ q) : -9223372036854775808 ≤ p.tdiv q ∧ p.tdiv q ≤ 9223372036854775807 := by
  obtain ⟨h1, h2, h3⟩ := hb
  have h4 : (p.tdiv q).natAbs ≤ p.natAbs := by rw [Int.natAbs_tdiv]; exact Nat.div_le_self _ _
  have h5 : (p.tdiv q).natAbs ≤ 9223372036854775807 := by
    rw [Int.natAbs_tdiv, show p.natAbs.div q.natAbs = p.natAbs / q.natAbs from rfl]
    have h6 : p.natAbs / q.natAbs ≤ p.natAbs / 2 := Nat.div_le_div_left (by omega) (by decide)
    omega
  omega
theorem sv_quoT {x y : Operand} {p q : Int} {t yt : TypeId} (S : St n L w0 F0 K0 F G a w) (ho : o.op = .binOp .quo t x y yt) (hx : ev L x = some (.int .i64 p)) (hy : ev L y = some (.int .i64 q))
    (hb : -9223372036854775808 ≤ p ∧ p ≤ 9223372036854775807 ∧ 2 ≤ q) : SV P o a w (.int .i64 (p.tdiv q)) :=
  run_intOp S ho hx hy (by simp [binOp, Op.intDiv, IntWalk.i64_in _ (tdiv_in hb), show q ≠ 0 by omega])
theorem sv_remT {x y : Operand} {p q : Int} {t yt : TypeId} (S : St n L w0 F0 K0 F G a w) (ho : o.op = .binOp .rem t x y yt) (hx : ev L x = some (.int .i64 p)) (hy : ev L y = some (.int .i64 q))
    (hb : 1 ≤ q) : SV P o a w (.int .i64 (p.tmod q)) :=
  run_intOp S ho hx hy (by simp [binOp, Op.intDiv, show q ≠ 0 by omega])
theorem sv_negI {x : Operand} {p : Int} {t : TypeId} (S : St n L w0 F0 K0 F G a w) (ho : o.op = .unOp .neg t x) (hx : ev L x = some (.int .i64 p))
    (hb : -9223372036854775807 ≤ p ∧ p ≤ 9223372036854775807) : SV P o a w (.int .i64 (-p)) := by
  unfold SV execOp
  rw [ho]
  have e : IntKind.i64.wrap (0 - p) = -p := by rw [IntWalk.i64_in (0 - p) (by omega), Int.zero_sub]
  simp [S.fr.eval hx, Op.unary, Op.intArith]
  simpa using e
theorem ifcM {t : TypeId} (ht : Ifc P t) : P.underlying t = some (.interface (P.methodsAt t)) := by
  obtain ⟨ms, h⟩ := ht.h
  simp [Program.methodsAt, h]
theorem sv_neNil {x : Operand} {t yt : TypeId} [ht : Ifc P t] (S : St n L w0 F0 K0 F G a w) (ho : o.op = .binOp .neq t x (.const .nilIface) yt) (hx : ev L x = some .nilIface) : SV P o a w (.bool false) := by
  unfold SV execOp
  rw [ho]
  have e := S.fr.eval hx
  have h1 : (eqGuard .neq t x (.const .nilIface) .nilIface .nilIface).run P w = .ok () w := by simp [eqGuard]
  have h2 : a.eval (.const .nilIface) = .nilIface := rfl
  simp [e, h1, h2, run_neq_nil_nil w t (ifcM ht)]
theorem sv_neSome {x : Operand} {t yt u : TypeId} {v : Value} [ht : Ifc P t] (S : St n L w0 F0 K0 F G a w) (ho : o.op = .binOp .neq t x (.const .nilIface) yt) (hx : ev L x = some (.iface u v)) : SV P o a w (.bool true) := by
  unfold SV execOp
  rw [ho]
  have e := S.fr.eval hx
  have h1 : (eqGuard .neq t x (.const .nilIface) (.iface u v) .nilIface).run P w = .ok () w := by simp [eqGuard]
  have h2 : a.eval (.const .nilIface) = .nilIface := rfl
  simp [e, h1, h2, run_neq_held_nil w t u v (ifcM ht)]
theorem ct_of_below2 {P : Program} {f : FuncId} {F : Heap} {args : List Value} {Q : Value → Prop} (h : ∀ w, At w F [] → Calls P f ⟨args⟩ w (fun e w' => ∃ v, e = .returned v ∧ Q v ∧ RowKit.Below w.heap.size w w')) : Ct P f args F [] (fun _ _ u => Q u) :=
  fun w hat => (h w hat).mono fun e w' ⟨v, he, hq, hb⟩ => ⟨v, F, [], he, tr_of_below hat hb, hq⟩
/-- What tidies a test. -/
theorem tq : (∀ (p : Prop) [Decidable p], (decide p = true) = p) ∧ (∀ (p : Prop) (x : Decidable p), decide p = false ↔ ¬p) ∧
    (∀ (α : Type) [BEq α] [LawfulBEq α] (a b : α), (a == b) = true ↔ a = b) ∧ (∀ (α : Type) [BEq α] [LawfulBEq α] (a b : α), (a != b) = true ↔ a ≠ b) ∧ (∀ (α : Type) [BEq α] [LawfulBEq α] (a b : α), (a != b) = false ↔ a = b) ∧ (∀ (α : Type) [BEq α] [LawfulBEq α] (a b : α), (a == b) = false ↔ a ≠ b) ∧
    (∀ (α : Type) (a b : α), (a ≠ b) = ¬a = b) ∧ (∀ b : Bool, ((!b) = true) = (b = false)) ∧ (∀ b : Bool, ((!b) = false) = (b = true)) ∧ (∀ b : Bool, (¬b = true) = (b = false)) ∧ (∀ b : Bool, (¬b = false) = (b = true)) ∧ (!true) = false ∧ (!false) = true ∧
    (∀ n m : Nat, (n : Int) < (m : Int) ↔ n < m) ∧ (∀ m n : Nat, (m : Int) ≤ (n : Int) ↔ m ≤ n) ∧ (∀ a b : Nat, ¬a < b ↔ b ≤ a) ∧ (∀ a b : Nat, ¬a ≤ b ↔ b < a) :=
  ⟨fun _ _ => decide_eq_true_eq, fun _ _ => decide_eq_false_iff_not, fun _ _ _ _ _ => beq_iff_eq, fun _ _ _ _ _ => bne_iff_ne, fun _ _ _ _ _ => bne_eq_false_iff_eq, fun _ _ _ _ _ => beq_eq_false_iff_ne, fun _ _ _ => rfl, Bool.not_eq_true', Bool.not_eq_false', Bool.not_eq_true, Bool.not_eq_false, rfl, rfl, fun _ _ => Int.ofNat_lt, fun _ _ => Int.ofNat_le, fun _ _ => Nat.not_lt, fun _ _ => Nat.not_le⟩
/-- Own blocks that are kept, as a state has them. -/
class KIn (G : List Grp) (Kl : List (Nat × Obj)) : Prop where
  h : ∀ {n : Sz} {L : List (Nat × Value)} {w0 : World} {F0 : Heap} {K0 : List Nat} {F : Heap} {a : Act} {w : World}, St n L w0 F0 K0 F G a w → KwL Kl w
instance {G : List Grp} : KIn G [] := ⟨fun _ => trivial⟩
instance {G : List Grp} {b : Nat} {o : Obj} {R} {r : List (Nat × Obj)} [h : Has G b o R] [hr : KIn G r] : KIn G ((b, o) :: r) := ⟨fun S => ⟨S.has h, hr.h S⟩⟩
theorem kwf {G : List Grp} {Kl : List (Nat × Obj)} {live : Bool} (S : St n L w0 F0 K0 F G a w) [h : KIn G Kl] : live = true → KwF F Kl w := fun _ => ⟨S.tr.frz, h.h S⟩
theorem kno {F : Heap} {Kl : List (Nat × Obj)} {w : World} : false = true → KwF F Kl w := fun h => by cases h
/-- A region, and what comes behind it. -/
theorem wp_sr {Q : Exit → Act → World → Prop} {id : Nat} {l : List Oper} {y : Code} (h : ∀ K : Act → World → Prop, (∀ a w, y.wp P Q a w → K a w) → wpList P l.toArray (Exit.then K Q) l a w) : (Code.seq (Code.region id l.toArray false) y).wp P Q a w :=
  wp_seq_k fun K hK => wp_region_lit (h K hK)
end
end Go.Wk
