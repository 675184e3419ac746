/- More rules: what a test is known to say, signed division, the number with the other sign. Nothing here knows the program. -/
import Derived.Test.YtoaodbclgeeaeaaGreatDoorWk12
import Derived.WideLaws
namespace Go.Wk
open Go
set_option linter.unusedVariables false
set_option linter.unusedSimpArgs false

section
variable {P : Program} {n : Sz} {L : List (Nat × Value)} {w0 : World} {F0 : Heap} {K0 : List Nat} {F : Heap} {G : List Grp} {a : Act} {w : World} {o : Oper}
theorem sv_lit {b c : Bool} (h : SV P o a w (.bool b)) (e : b = c) : SV P o a w (.bool c) := by subst e; exact h
theorem tdiv_in {p q : Int} (hb : -9223372036854775808 ≤ p ∧ p ≤ 9223372036854775807 ∧ 2 ≤ q) : -9223372036854775808 ≤ p.tdiv q ∧ p.tdiv q ≤ 9223372036854775807 := by
  obtain ⟨h1, h2, h3⟩ := hb
  have h4 : (p.tdiv q).natAbs ≤ p.natAbs := by rw [Int.natAbs_tdiv]; exact Nat.div_le_self _ _
  have h5 : (p.tdiv q).natAbs ≤ 9223372036854775807 := by
    rw [Int.natAbs_tdiv, show p.natAbs.div q.natAbs = p.natAbs / q.natAbs from rfl]
    have h6 : p.natAbs / q.natAbs ≤ p.natAbs / 2 := Nat.div_le_div_left (by omega) (by decide)
    omega
  omega
theorem sv_quoT {x y : Operand} {p q : Int} {t yt : TypeId} (S : St n L w0 F0 K0 F G a w) (ho : o.op = .binOp .quo t x y yt) (hx : ev L x = some (.int .i64 p)) (hy : ev L y = some (.int .i64 q))
    (hb : -9223372036854775808 ≤ p ∧ p ≤ 9223372036854775807 ∧ 2 ≤ q) : SV P o a w (.int .i64 (p.tdiv q)) :=
  run_intOp S ho hx hy (by simp [binOp, Op.intDiv, IntWalk.i64_in _ (tdiv_in hb), show q ≠ 0 by omega])
theorem sv_remT {x y : Operand} {p q : Int} {t yt : TypeId} (S : St n L w0 F0 K0 F G a w) (ho : o.op = .binOp .rem t x y yt) (hx : ev L x = some (.int .i64 p)) (hy : ev L y = some (.int .i64 q))
    (hb : 1 ≤ q) : SV P o a w (.int .i64 (p.tmod q)) :=
  run_intOp S ho hx hy (by simp [binOp, Op.intDiv, show q ≠ 0 by omega])
theorem sv_negI {x : Operand} {p : Int} {t : TypeId} (S : St n L w0 F0 K0 F G a w) (ho : o.op = .unOp .neg t x) (hx : ev L x = some (.int .i64 p))
    (hb : -9223372036854775807 ≤ p ∧ p ≤ 9223372036854775807) : SV P o a w (.int .i64 (-p)) := by
  unfold SV execOp
  rw [ho]
  have e : IntKind.i64.wrap (0 - p) = -p := by rw [IntWalk.i64_in (0 - p) (by omega), Int.zero_sub]
  simp [S.fr.eval hx, Op.unary, Op.intArith]
  simpa using e
theorem ifcM {t : TypeId} (ht : Ifc P t) : P.underlying t = some (.interface (P.methodsAt t)) := by
  obtain ⟨ms, h⟩ := ht.h
  simp [Program.methodsAt, h]
theorem sv_neNil {x : Operand} {t yt : TypeId} [ht : Ifc P t] (S : St n L w0 F0 K0 F G a w) (ho : o.op = .binOp .neq t x (.const .nilIface) yt) (hx : ev L x = some .nilIface) : SV P o a w (.bool false) := by
  unfold SV execOp
  rw [ho]
  have e := S.fr.eval hx
  have h1 : (eqGuard .neq t x (.const .nilIface) .nilIface .nilIface).run P w = .ok () w := by simp [eqGuard]
  have h2 : a.eval (.const .nilIface) = .nilIface := rfl
  simp [e, h1, h2, run_neq_nil_nil w t (ifcM ht)]
theorem sv_neSome {x : Operand} {t yt u : TypeId} {v : Value} [ht : Ifc P t] (S : St n L w0 F0 K0 F G a w) (ho : o.op = .binOp .neq t x (.const .nilIface) yt) (hx : ev L x = some (.iface u v)) : SV P o a w (.bool true) := by
  unfold SV execOp
  rw [ho]
  have e := S.fr.eval hx
  have h1 : (eqGuard .neq t x (.const .nilIface) (.iface u v) .nilIface).run P w = .ok () w := by simp [eqGuard]
  have h2 : a.eval (.const .nilIface) = .nilIface := rfl
  simp [e, h1, h2, run_neq_held_nil w t u v (ifcM ht)]
theorem ct_of_below2 {P : Program} {f : FuncId} {F : Heap} {args : List Value} {Q : Value → Prop} (h : ∀ w, At w F [] → Calls P f ⟨args⟩ w (fun e w' => ∃ v, e = .returned v ∧ Q v ∧ RowKit.Below w.heap.size w w')) : Ct P f args F [] (fun _ _ u => Q u) :=
  fun w hat => (h w hat).mono fun e w' ⟨v, he, hq, hb⟩ => ⟨v, F, [], he, tr_of_below hat hb, hq⟩
/-- What tidies a test. -/
theorem tq : (∀ (p : Prop) [Decidable p], (decide p = true) = p) ∧ (∀ (p : Prop) (x : Decidable p), decide p = false ↔ ¬p) ∧
    (∀ (α : Type) [BEq α] [LawfulBEq α] (a b : α), (a == b) = true ↔ a = b) ∧ (∀ (α : Type) [BEq α] [LawfulBEq α] (a b : α), (a != b) = true ↔ a ≠ b) ∧ (∀ (α : Type) [BEq α] [LawfulBEq α] (a b : α), (a != b) = false ↔ a = b) ∧ (∀ (α : Type) [BEq α] [LawfulBEq α] (a b : α), (a == b) = false ↔ a ≠ b) ∧
    (∀ (α : Type) (a b : α), (a ≠ b) = ¬a = b) ∧ (∀ b : Bool, ((!b) = true) = (b = false)) ∧ (∀ b : Bool, ((!b) = false) = (b = true)) ∧ (∀ b : Bool, (¬b = true) = (b = false)) ∧ (∀ b : Bool, (¬b = false) = (b = true)) ∧ (!true) = false ∧ (!false) = true ∧
    (∀ n m : Nat, (n : Int) < (m : Int) ↔ n < m) ∧ (∀ m n : Nat, (m : Int) ≤ (n : Int) ↔ m ≤ n) ∧ (∀ a b : Nat, ¬a < b ↔ b ≤ a) ∧ (∀ a b : Nat, ¬a ≤ b ↔ b < a) :=
  ⟨fun _ _ => decide_eq_true_eq, fun _ _ => decide_eq_false_iff_not, fun _ _ _ _ _ => beq_iff_eq, fun _ _ _ _ _ => bne_iff_ne, fun _ _ _ _ _ => bne_eq_false_iff_eq, fun _ _ _ _ _ => beq_eq_false_iff_ne, fun _ _ _ => rfl, Bool.not_eq_true', Bool.not_eq_false', Bool.not_eq_true, Bool.not_eq_false, rfl, rfl, fun _ _ => Int.ofNat_lt, fun _ _ => Int.ofNat_le, fun _ _ => Nat.not_lt, fun _ _ => Nat.not_le⟩
/-- Own blocks that are kept, as a state has them. -/
class KIn (G : List Grp) (Kl : List (Nat × Obj)) : Prop where
  h : ∀ {n : Sz} {L : List (Nat × Value)} {w0 : World} {F0 : Heap} {K0 : List Nat} {F : Heap} {a : Act} {w : World}, St n L w0 F0 K0 F G a w → KwL Kl w
instance {G : List Grp} : KIn G [] := ⟨fun _ => trivial⟩
instance {G : List Grp} {b : Nat} {o : Obj} {R} {r : List (Nat × Obj)} [h : Has G b o R] [hr : KIn G r] : KIn G ((b, o) :: r) := ⟨fun S => ⟨S.has h, hr.h S⟩⟩
theorem kwf {G : List Grp} {Kl : List (Nat × Obj)} {live : Bool} (S : St n L w0 F0 K0 F G a w) [h : KIn G Kl] : live = true → KwF F Kl w := fun _ => ⟨S.tr.frz, h.h S⟩
theorem kno {F : Heap} {Kl : List (Nat × Obj)} {w : World} : false = true → KwF F Kl w := fun h => by cases h
/-- A region, and what comes behind it. -/
theorem wp_sr {Q : Exit → Act → World → Prop} {id : Nat} {l : List Oper} {y : Code} (h : ∀ K : Act → World → Prop, (∀ a w, y.wp P Q a w → K a w) → wpList P l.toArray (Exit.then K Q) l a w) : (Code.seq (Code.region id l.toArray false) y).wp P Q a w :=
  wp_seq_k fun K hK => wp_region_lit (h K hK)
end
/-! steps that find their premises by themselves -/
section
variable {P : Program} {n : Sz} {L : List (Nat × Value)} {w0 : World} {F0 : Heap} {K0 : List Nat} {F : Heap} {G : List Grp} {a : Act} {w : World} {ops : Array Oper} {Q : Exit → Act → World → Prop} {rest : List Oper} {o : Oper} {Kl : List (Nat × Obj)} {pf late brk : List Nat} {r : Od} {live : Bool} {Fk : Heap}
theorem wpl_p {d : Nat} {v : Value} (S : St n L w0 F0 K0 F G a w) (k : ∀ a', St n ((d, v) :: L) w0 F0 K0 F G a' w → wpList P ops Q rest a' w)
    (hg : o.guard = none := by rfl) (hd : o.dst = some d := by rfl) (hn : Nat.blt d n.sz = true := by rfl)
    (h : St n L w0 F0 K0 F G a w → SV P o a w v := by
      intro S
      first
      | exact sv_pure S rfl
      | exact sv_pickB S rfl rfl rfl rfl) : wpList P ops Q (o :: rest) a w :=
  wpl_v S hg hd hn (h S) k
theorem wpl_l {d : Nat} {v : Value} (S : St n L w0 F0 K0 F G a w) (k : ∀ a', St n ((d, v) :: L) w0 F0 K0 F G a' w → wpList P ops Q rest a' w)
    (hg : o.guard = none := by rfl) (hd : o.dst = some d := by rfl) (hn : Nat.blt d n.sz = true := by rfl)
    (h : St n L w0 F0 K0 F G a w → SV P o a w v := by
      intro S
      first
      | exact sv_loadO S rfl rfl (by rfl)
      | exact sv_loadF S rfl rfl (by assumption)
      | exact sv_loadAO S rfl rfl (by rfl)
      | exact sv_loadAF S rfl rfl (by assumption) (by rfl)) : wpList P ops Q (o :: rest) a w :=
  wpl_v S hg hd hn (h S) k
theorem wpl_f {d : Nat} {v : Value} (S : St n L w0 F0 K0 F G a w) (k : ∀ a', St n ((d, v) :: L) w0 F0 K0 F G a' w → wpList P ops Q rest a' w)
    (hg : o.guard = none := by rfl) (hd : o.dst = some d := by rfl) (hn : Nat.blt d n.sz = true := by rfl)
    (h : St n L w0 F0 K0 F G a w → SV P o a w v := by
      intro S
      exact sv_fieldAddr S rfl rfl rfl inferInstance rfl) : wpList P ops Q (o :: rest) a w :=
  wpl_v S hg hd hn (h S) k
theorem wpl_a {d : Nat} {v : Value} (S : St n L w0 F0 K0 F G a w) (k : ∀ a', St n ((d, v) :: L) w0 F0 K0 F G a' w → wpList P ops Q rest a' w)
    (hg : o.guard = none := by rfl) (hd : o.dst = some d := by rfl) (hn : Nat.blt d n.sz = true := by rfl)
    (h : St n L w0 F0 K0 F G a w → SV P o a w v := by
      intro S
      exact sv_add S rfl rfl rfl (by first | omega | (simp only [List.length_append, List.length_cons, List.length_nil]; omega))) : wpList P ops Q (o :: rest) a w :=
  wpl_v S hg hd hn (h S) k
theorem wpl_b {d : Nat} {v : Value} (S : St n L w0 F0 K0 F G a w) (k : ∀ a', St n ((d, v) :: L) w0 F0 K0 F G a' w → wpList P ops Q rest a' w)
    (hg : o.guard = none := by rfl) (hd : o.dst = some d := by rfl) (hn : Nat.blt d n.sz = true := by rfl)
    (h : St n L w0 F0 K0 F G a w → SV P o a w v := by
      intro S
      exact sv_build S rfl rfl rfl) : wpList P ops Q (o :: rest) a w :=
  wpl_v S hg hd hn (h S) k
theorem wpl_n {d : Nat} {v : Value} (S : St n L w0 F0 K0 F G a w) (k : ∀ a', St n ((d, v) :: L) w0 F0 K0 F G a' w → wpList P ops Q rest a' w)
    (hg : o.guard = none := by rfl) (hd : o.dst = some d := by rfl) (hn : Nat.blt d n.sz = true := by rfl)
    (h : St n L w0 F0 K0 F G a w → SV P o a w v := by
      intro S
      exact sv_lenSl S rfl rfl) : wpList P ops Q (o :: rest) a w :=
  wpl_v S hg hd hn (h S) k
theorem wpl_i {d : Nat} {v : Value} (S : St n L w0 F0 K0 F G a w) (k : ∀ a', St n ((d, v) :: L) w0 F0 K0 F G a' w → wpList P ops Q rest a' w)
    (hg : o.guard = none := by rfl) (hd : o.dst = some d := by rfl) (hn : Nat.blt d n.sz = true := by rfl)
    (h : St n L w0 F0 K0 F G a w → SV P o a w v := by
      intro S
      exact sv_indexAddrSl S rfl rfl rfl (by first | omega | (simp only [List.length_append, List.length_cons, List.length_nil]; omega))) : wpList P ops Q (o :: rest) a w :=
  wpl_v S hg hd hn (h S) k
theorem wpl_s {d : Nat} {v : Value} (S : St n L w0 F0 K0 F G a w) (k : ∀ a', St n ((d, v) :: L) w0 F0 K0 F G a' w → wpList P ops Q rest a' w)
    (hg : o.guard = none := by rfl) (hd : o.dst = some d := by rfl) (hn : Nat.blt d n.sz = true := by rfl)
    (h : St n L w0 F0 K0 F G a w → SV P o a w v := by
      intro S
      first
      | exact sv_sub S rfl rfl rfl (by first | omega | (simp only [List.length_append, List.length_cons, List.length_nil]; omega))
      | exact sv_lenS S rfl rfl
      | exact sv_mkIface S rfl rfl
      | exact sv_nilCheck S rfl rfl
      | exact sv_eqB S rfl rfl rfl
      | exact sv_neB S rfl rfl rfl
      | exact sv_eqSlNil S rfl rfl rfl
      | exact sv_convSS S rfl rfl) : wpList P ops Q (o :: rest) a w :=
  wpl_v S hg hd hn (h S) k
/-- In a region that draws its order. -/
theorem wpm_p {k d : Nat} {v : Value} (S : St n L w0 F0 K0 F G a w) (kk : ∀ a', St n ((d, v) :: L) w0 F0 K0 F G a' w → wpM P ops Q (KwF Fk Kl) pf late brk live r a' w)
    (ho : ops[k]? = some o := by rfl) (hpf : pf.contains k = true := by rfl) (hlt : late.contains k = false := by rfl) (hw : Region.wanted o (yielded ops a.tmps) = true := by first | exact want_none _ rfl | exact want_yes (by assumption) rfl rfl rfl)
    (hd : o.dst = some d := by rfl) (hn : Nat.blt d n.sz = true := by rfl)
    (h : ∀ w', St n L w' noHeap [] noHeap [] a w' → SV P o a w' v := by
      intro w' S
      first
      | exact sv_pure S rfl
      | exact sv_pickB S rfl rfl rfl rfl) : wpM P ops Q (KwF Fk Kl) pf late brk live (.one k r) a w :=
  wpm_v S ho hpf hlt hw hd hn h kk
theorem wpm_f {k d : Nat} {v : Value} (S : St n L w0 F0 K0 F G a w) (kk : ∀ a', St n ((d, v) :: L) w0 F0 K0 F G a' w → wpM P ops Q (KwF Fk Kl) pf late brk live r a' w)
    (ho : ops[k]? = some o := by rfl) (hpf : pf.contains k = true := by rfl) (hlt : late.contains k = false := by rfl) (hw : Region.wanted o (yielded ops a.tmps) = true := by first | exact want_none _ rfl | exact want_yes (by assumption) rfl rfl rfl)
    (hd : o.dst = some d := by rfl) (hn : Nat.blt d n.sz = true := by rfl)
    (h : ∀ w', St n L w' noHeap [] noHeap [] a w' → SV P o a w' v := by
      intro w' S
      exact sv_fieldAddr S rfl rfl rfl inferInstance rfl) : wpM P ops Q (KwF Fk Kl) pf late brk live (.one k r) a w :=
  wpm_v S ho hpf hlt hw hd hn h kk
theorem wpm_a {k d : Nat} {v : Value} (S : St n L w0 F0 K0 F G a w) (kk : ∀ a', St n ((d, v) :: L) w0 F0 K0 F G a' w → wpM P ops Q (KwF Fk Kl) pf late brk live r a' w)
    (ho : ops[k]? = some o := by rfl) (hpf : pf.contains k = true := by rfl) (hlt : late.contains k = false := by rfl) (hw : Region.wanted o (yielded ops a.tmps) = true := by first | exact want_none _ rfl | exact want_yes (by assumption) rfl rfl rfl)
    (hd : o.dst = some d := by rfl) (hn : Nat.blt d n.sz = true := by rfl)
    (h : ∀ w', St n L w' noHeap [] noHeap [] a w' → SV P o a w' v := by
      intro w' S
      exact sv_add S rfl rfl rfl (by first | omega | (simp only [List.length_append, List.length_cons, List.length_nil]; omega))) : wpM P ops Q (KwF Fk Kl) pf late brk live (.one k r) a w :=
  wpm_v S ho hpf hlt hw hd hn h kk
theorem wpm_b {k d : Nat} {v : Value} (S : St n L w0 F0 K0 F G a w) (kk : ∀ a', St n ((d, v) :: L) w0 F0 K0 F G a' w → wpM P ops Q (KwF Fk Kl) pf late brk live r a' w)
    (ho : ops[k]? = some o := by rfl) (hpf : pf.contains k = true := by rfl) (hlt : late.contains k = false := by rfl) (hw : Region.wanted o (yielded ops a.tmps) = true := by first | exact want_none _ rfl | exact want_yes (by assumption) rfl rfl rfl)
    (hd : o.dst = some d := by rfl) (hn : Nat.blt d n.sz = true := by rfl)
    (h : ∀ w', St n L w' noHeap [] noHeap [] a w' → SV P o a w' v := by
      intro w' S
      exact sv_build S rfl rfl rfl) : wpM P ops Q (KwF Fk Kl) pf late brk live (.one k r) a w :=
  wpm_v S ho hpf hlt hw hd hn h kk
theorem wpm_n {k d : Nat} {v : Value} (S : St n L w0 F0 K0 F G a w) (kk : ∀ a', St n ((d, v) :: L) w0 F0 K0 F G a' w → wpM P ops Q (KwF Fk Kl) pf late brk live r a' w)
    (ho : ops[k]? = some o := by rfl) (hpf : pf.contains k = true := by rfl) (hlt : late.contains k = false := by rfl) (hw : Region.wanted o (yielded ops a.tmps) = true := by first | exact want_none _ rfl | exact want_yes (by assumption) rfl rfl rfl)
    (hd : o.dst = some d := by rfl) (hn : Nat.blt d n.sz = true := by rfl)
    (h : ∀ w', St n L w' noHeap [] noHeap [] a w' → SV P o a w' v := by
      intro w' S
      exact sv_lenSl S rfl rfl) : wpM P ops Q (KwF Fk Kl) pf late brk live (.one k r) a w :=
  wpm_v S ho hpf hlt hw hd hn h kk
theorem wpm_i {k d : Nat} {v : Value} (S : St n L w0 F0 K0 F G a w) (kk : ∀ a', St n ((d, v) :: L) w0 F0 K0 F G a' w → wpM P ops Q (KwF Fk Kl) pf late brk live r a' w)
    (ho : ops[k]? = some o := by rfl) (hpf : pf.contains k = true := by rfl) (hlt : late.contains k = false := by rfl) (hw : Region.wanted o (yielded ops a.tmps) = true := by first | exact want_none _ rfl | exact want_yes (by assumption) rfl rfl rfl)
    (hd : o.dst = some d := by rfl) (hn : Nat.blt d n.sz = true := by rfl)
    (h : ∀ w', St n L w' noHeap [] noHeap [] a w' → SV P o a w' v := by
      intro w' S
      exact sv_indexAddrSl S rfl rfl rfl (by first | omega | (simp only [List.length_append, List.length_cons, List.length_nil]; omega))) : wpM P ops Q (KwF Fk Kl) pf late brk live (.one k r) a w :=
  wpm_v S ho hpf hlt hw hd hn h kk
theorem wpm_s {k d : Nat} {v : Value} (S : St n L w0 F0 K0 F G a w) (kk : ∀ a', St n ((d, v) :: L) w0 F0 K0 F G a' w → wpM P ops Q (KwF Fk Kl) pf late brk live r a' w)
    (ho : ops[k]? = some o := by rfl) (hpf : pf.contains k = true := by rfl) (hlt : late.contains k = false := by rfl) (hw : Region.wanted o (yielded ops a.tmps) = true := by first | exact want_none _ rfl | exact want_yes (by assumption) rfl rfl rfl)
    (hd : o.dst = some d := by rfl) (hn : Nat.blt d n.sz = true := by rfl)
    (h : ∀ w', St n L w' noHeap [] noHeap [] a w' → SV P o a w' v := by
      intro w' S
      first
      | exact sv_sub S rfl rfl rfl (by first | omega | (simp only [List.length_append, List.length_cons, List.length_nil]; omega))
      | exact sv_lenS S rfl rfl
      | exact sv_mkIface S rfl rfl
      | exact sv_nilCheck S rfl rfl
      | exact sv_eqB S rfl rfl rfl
      | exact sv_neB S rfl rfl rfl
      | exact sv_eqSlNil S rfl rfl rfl
      | exact sv_convSS S rfl rfl) : wpM P ops Q (KwF Fk Kl) pf late brk live (.one k r) a w :=
  wpm_v S ho hpf hlt hw hd hn h kk
theorem wpm_o (b : Nat) {k d : Nat} {v : Value} {ob : Obj} {R} [hh : Has G b ob R] [hk : KHas Kl b ob] (S : St n L w0 F0 K0 F G a w) (kk : ∀ a', St n ((d, v) :: L) w0 F0 K0 F G a' w → wpM P ops Q (KwF Fk Kl) pf late brk live r a' w)
    (ho : ops[k]? = some o := by rfl) (hpf : pf.contains k = true := by rfl) (hlt : late.contains k = true := by rfl) (hw : Region.wanted o (yielded ops a.tmps) = true := by first | exact want_none _ rfl | exact want_yes (by assumption) rfl rfl rfl)
    (hd : o.dst = some d := by rfl) (hn : Nat.blt d n.sz = true := by rfl)
    (h : ∀ w', St n L w' noHeap (keys [[(b, ob)]]) noHeap [[(b, ob)]] a w' → SV P o a w' v := by
      intro w' S
      first
      | exact sv_loadO S rfl rfl (by rfl)
      | exact sv_loadAO S rfl rfl (by rfl)) : wpM P ops Q (KwF Fk Kl) pf late brk live (.one k r) a w :=
  wpm_lateO b S ho hpf hlt hw hd hn h kk
theorem kwg {F Fk : Heap} {G : List Grp} {Kl : List (Nat × Obj)} {live : Bool} (S : St n L w0 F0 K0 F G a w) (h : ∀ b o, Fk b = some o → F b = some o) [hk : KIn G Kl] : live = true → KwF Fk Kl w := fun _ => ⟨fun b o hb => S.tr.frz b o (h b o hb), hk.h S⟩
theorem kwa {F Fk : Heap} {G : List Grp} {Kl : List (Nat × Obj)} {live : Bool} (S : St n L w0 F0 K0 F G a w) (h : ∀ b o, Fk b = some o → F b = some o := by first | exact fun _ _ h => h | (intro b o h; solve_by_elim)) [hk : KIn G Kl] : live = true → KwF Fk Kl w := kwg S h
theorem wpm_k {k d : Nat} (S : St n L w0 F0 K0 F G a w) (kk : ∀ a', St n ((d, undef) :: L) w0 F0 K0 F G a' w → wpM P ops Q (KwF Fk Kl) pf late brk live r a' w)
    (ho : ops[k]? = some o := by rfl) (hpf : pf.contains k = true := by rfl) (hw : Region.wanted o (yielded ops a.tmps) = false := by first | exact want_no (by assumption) rfl rfl rfl | exact want_undef (by assumption) rfl rfl rfl) (hd : o.dst = some d := by rfl) (hn : Nat.blt d n.sz = true := by rfl) : wpM P ops Q (KwF Fk Kl) pf late brk live (.one k r) a w :=
  wpm_skip S ho hpf hw hd hn kk
theorem wpl_k {j dj d : Nat} {want : Bool} (S : St n L w0 F0 K0 F G a w) (k : ∀ a', St n ((d, undef) :: L) w0 F0 K0 F G a' w → wpList P ops Q rest a' w)
    (hg : o.guard = some (j, want) := by rfl) (hj : (ops[j]?).bind (·.dst) = some dj := by rfl) (hb : look L dj = some (.bool (!want)) := by rfl) (hd : o.dst = some d := by rfl) (hn : Nat.blt d n.sz = true := by rfl) : wpList P ops Q (o :: rest) a w :=
  wpl_skip S hg hj hb hd hn k
theorem wpl_c0 {d : Nat} {x : Operand} {xs : Array Operand} {ts : Array TypeId} {f : FuncId} {fi ca vs args : List Value} {Post : Value → Prop} [hf : HasFn P f] (S : St n L w0 F0 K0 F G a w) (C : Ct P f args F [] (fun _ _ v => Post v))
    (k : ∀ v a' w', Post v → St n ((d, v) :: L) w0 F0 K0 F G a' w' → wpList P ops Q rest a' w') (hg : o.guard = none := by rfl) (hd : o.dst = some d := by rfl) (hn : Nat.blt d n.sz = true := by rfl)
    (ho : o.op = .call { callee := .value x, args := xs, argTypes := ts } := by rfl) (hx : ev L x = some (.func (.func f) ⟨fi⟩ ⟨ca⟩) := by rfl) (hxs : evs L xs.toList = some vs := by rfl) (ha : fi ++ vs ++ ca = args := by rfl) : wpList P ops Q (o :: rest) a w :=
  wpl_call0 S hg hd hn ho hx hxs C ha k
theorem wpl_cF {d : Nat} {x : Operand} {xs : Array Operand} {ts : Array TypeId} {f : FuncId} {fi ca vs args : List Value} {Post : Heap → Value → Prop} [hf : HasFn P f] (S : St n L w0 F0 K0 F G a w) (C : Ct P f args F [] (fun F' _ v => Post F' v))
    (k : ∀ v F' a' w', Post F' v → (∀ b o, F b = some o → F' b = some o) → St n ((d, v) :: L) w0 F0 K0 F' G a' w' → wpList P ops Q rest a' w') (hg : o.guard = none := by rfl) (hd : o.dst = some d := by rfl) (hn : Nat.blt d n.sz = true := by rfl)
    (ho : o.op = .call { callee := .value x, args := xs, argTypes := ts } := by rfl) (hx : ev L x = some (.func (.func f) ⟨fi⟩ ⟨ca⟩) := by rfl) (hxs : evs L xs.toList = some vs := by rfl) (ha : fi ++ vs ++ ca = args := by rfl) : wpList P ops Q (o :: rest) a w :=
  wpl_callF S hg hd hn ho hx hxs C ha k
theorem wpl_al {d : Nat} {t : TypeId} {z : Value} {sz by_ : Nat} [hi : Inf P t z sz by_] (S : St n L w0 F0 K0 F G a w) (k : ∀ b a' w', St n ((d, .pointer (some ⟨b, 0, none⟩)) :: L) w0 F0 K0 F ([(b, .cells ⟨z.cells.toList⟩ t (0, 0))] :: G) a' w' → wpList P ops Q rest a' w')
    (hg : o.guard = none := by rfl) (hd : o.dst = some d := by rfl) (ho : o.op = .alloc t := by rfl) (hn : Nat.blt d n.sz = true := by rfl) : wpList P ops Q (o :: rest) a w :=
  wpl_alloc S hg hd ho hn k
theorem wpl_bx {d : Nat} {t : TypeId} {x : Operand} {v : Value} (S : St n L w0 F0 K0 F G a w) (k : ∀ b a' w', St n ((d, .pointer (some ⟨b, 0, none⟩)) :: L) w0 F0 K0 F ([(b, .cells ⟨v.cells.toList⟩ t (0, 0))] :: G) a' w' → wpList P ops Q rest a' w')
    (hg : o.guard = none := by rfl) (hd : o.dst = some d := by rfl) (ho : o.op = .box t x := by rfl) (hn : Nat.blt d n.sz = true := by rfl) (hx : ev L x = some v := by rfl) : wpList P ops Q (o :: rest) a w :=
  wpl_box S hg hd ho hn hx k
end
end Go.Wk
