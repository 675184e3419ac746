/- Rules for single operations and for control, over the state of Wk. Nothing here knows the program: what a type is, and that a function has a body, come in as instances. -/
import Derived.Test.YtoaodbclgeeaeaaGreatDoorWk
import Derived.IntWalk
import Derived.Laws.Strings
import Derived.Laws.Slices
import Derived.Laws.MakeOwn
namespace Go.Wk
open Go
set_option linter.unusedSimpArgs false
set_option linter.unusedVariables false

class Und (P : Program) (t : TypeId) (d : outParam TypeDesc) : Prop where h : P.underlying t = some d
class Inf (P : Program) (t : TypeId) (z : outParam Value) (size bytes : outParam Nat) : Prop where
  h : ∃ i, P.info? t = some i ∧ i.zero = some z ∧ i.size = size ∧ i.bytes = bytes
def notAgg (d : TypeDesc) : Bool := match d with | .struct _ | .array _ _ => false | _ => true
def isAggD (d : TypeDesc) : Bool := match d with | .struct _ | .array _ _ => true | _ => false
def notIface (d : TypeDesc) : Bool := match d with | .interface _ => false | _ => true
/-- A type of one cell; a struct or an array; no interface; a struct's fields: where each lies, and its type. -/
class One (P : Program) (t : TypeId) : Prop where h : ∃ d, P.underlying t = some d ∧ notAgg d = true
class Ag (P : Program) (t : TypeId) : Prop where h : ∃ d, P.underlying t = some d ∧ isAggD d = true
class Conc (P : Program) (t : TypeId) : Prop where h : ∃ d, P.underlying t = some d ∧ notIface d = true
class Flds (P : Program) (t : TypeId) (fs : outParam (List (Nat × TypeId))) : Prop where
  h : ∃ fields : Array Field, P.underlying t = some (.struct fields) ∧ fields.toList.map (fun f => (f.offset, f.type)) = fs
class Ifc (P : Program) (t : TypeId) : Prop where h : ∃ ms, P.underlying t = some (.interface ms)
theorem infH {P : Program} {t : TypeId} {z : Value} {size bytes : Nat} (h : (P.info? t).map (fun i => (i.zero, i.size, i.bytes)) = some (some z, size, bytes)) :
    ∃ i, P.info? t = some i ∧ i.zero = some z ∧ i.size = size ∧ i.bytes = bytes := by
  obtain ⟨i, hi, hzz⟩ := Option.map_eq_some_iff.1 h
  simp only [Prod.mk.injEq] at hzz
  exact ⟨i, hi, hzz.1, hzz.2.1, hzz.2.2⟩
class HasFn (P : Program) (f : FuncId) : Prop where
  h : ∃ fn c, P.funcs[f]? = some fn ∧ (fn.name == "runtime.NumGoroutine") = false ∧ fn.body = some c

/-- A string by its bytes. -/
def bs (l : List UInt8) : ByteArray := ⟨⟨l⟩⟩
theorem bs_data (s : ByteArray) : s = bs s.data.toList := rfl
theorem bs_size (l : List UInt8) : (bs l).size = l.length := rfl
theorem bs_toList (l : List UInt8) : (bs l).toList = l := ByteArray.toList_mk l

structure St (n : Sz) (L : List (Nat × Value)) (w0 : World) (F0 : Heap) (K0 : List Nat) (F : Heap) (G : List Grp) (a : Act) (w : World) : Prop where
  fr : Fr n L a
  tr : Tr w0 F0 K0 w F G

/-- One operation yields a value and turns nothing. -/
def SV (P : Program) (o : Oper) (a : Act) (w : World) (v : Value) : Prop := (execOp a.eval o).run P w = .ok (.value v) w

section
variable {P : Program} {n : Sz} {L : List (Nat × Value)} {w0 : World} {F0 : Heap} {K0 : List Nat} {F : Heap} {G : List Grp} {a : Act} {w : World}
variable {ops : Array Oper} {Q : Exit → Act → World → Prop} {rest : List Oper} {o : Oper}

theorem St.put (S : St n L w0 F0 K0 F G a w) {d : Nat} (hd : Nat.blt d n.sz = true) (v : Value) : St n ((d, v) :: L) w0 F0 K0 F G (a.put (some d) v) w := ⟨S.fr.put v hd, S.tr⟩
theorem St.keep {L'} (S : St n L w0 F0 K0 F G a w) (h : subL L L') : St n L' w0 F0 K0 F G a w := ⟨S.fr.keep h, S.tr⟩

theorem wpl_v {d : Nat} {v : Value} (S : St n L w0 F0 K0 F G a w) (hg : o.guard = none) (hd : o.dst = some d) (hn : Nat.blt d n.sz = true) (h : SV P o a w v)
    (k : ∀ a', St n ((d, v) :: L) w0 F0 K0 F G a' w → wpList P ops Q rest a' w) : wpList P ops Q (o :: rest) a w := by
  refine wpList_plain hg fun K hK => ?_
  unfold Oper.wp
  rw [h, Oper.upon_value, hd]
  exact hK _ _ (k _ (S.put hn v))

theorem wps_v {d : Nat} {v : Value} {Q : Act → Prop} (S : St n L w0 F0 K0 F G a w) (hg : o.guard = none) (hd : o.dst = some d) (hn : Nat.blt d n.sz = true) (h : SV P o a w v)
    (k : ∀ a', St n ((d, v) :: L) w0 F0 K0 F G a' w → wpStill P ops w Q rest a') : wpStill P ops w Q (o :: rest) a := by
  unfold wpStill
  rw [if_pos (by simp [Region.wanted, hg])]
  unfold Oper.still
  rw [h, Oper.stillUpon_value, hd]
  exact k _ (S.put hn v)

theorem St.lit (S : St n L w0 F0 K0 F G a w) {d : Nat} {b c : Bool} (hb : look L d = some (.bool b)) (h : b = c) : St n ((d, .bool c) :: L) w0 F0 K0 F G a w := by
  subst h
  refine ⟨S.fr.sub fun t v e => ?_, S.tr⟩
  rw [look_cons] at e
  split at e
  · rename_i hd; subst hd; rw [hb]; exact e
  · exact e

theorem wanted_eq (S : St n L w0 F0 K0 F G a w) {j dj : Nat} {want b : Bool} (hg : o.guard = some (j, want)) (hj : (ops[j]?).bind (·.dst) = some dj) (hb : look L dj = some (.bool b)) : Region.wanted o (yielded ops a.tmps) = (b == want) := by
  have hyv : yielded ops a.tmps j = some b := by simp [yielded, hj, S.fr.get _ _ hb]
  simp [Region.wanted, hg, hyv]

theorem wpl_take {j dj : Nat} {want : Bool} (S : St n L w0 F0 K0 F G a w) (hg : o.guard = some (j, want)) (hj : (ops[j]?).bind (·.dst) = some dj) (hb : look L dj = some (.bool want))
    (hy : wpList P ops Q ({ o with guard := none } :: rest) a w) : wpList P ops Q (o :: rest) a w := by
  unfold wpList at hy ⊢
  rw [wanted_eq S hg hj hb, if_pos (by simp)]
  rw [if_pos (by simp [Region.wanted])] at hy
  exact hy

theorem wpl_skip {j dj d : Nat} {want : Bool} (S : St n L w0 F0 K0 F G a w) (hg : o.guard = some (j, want)) (hj : (ops[j]?).bind (·.dst) = some dj) (hb : look L dj = some (.bool (!want))) (hd : o.dst = some d) (hn : Nat.blt d n.sz = true)
    (k : ∀ a', St n ((d, undef) :: L) w0 F0 K0 F G a' w → wpList P ops Q rest a' w) : wpList P ops Q (o :: rest) a w := by
  unfold wpList
  rw [wanted_eq S hg hj hb, if_neg (by simp), hd]
  exact k _ (S.put hn undef)

/-- A guarded operation: which of the two ways is told by the guard's own slot. -/
theorem wpl_guard {j dj d : Nat} {want b : Bool} (S : St n L w0 F0 K0 F G a w) (hg : o.guard = some (j, want)) (hj : (ops[j]?).bind (·.dst) = some dj) (hb : look L dj = some (.bool b)) (hd : o.dst = some d) (hn : Nat.blt d n.sz = true)
    (hy : b = want → St n ((dj, .bool want) :: L) w0 F0 K0 F G a w → wpList P ops Q ({ o with guard := none } :: rest) a w)
    (hs : b = (!want) → ∀ a', St n ((d, undef) :: (dj, .bool (!want)) :: L) w0 F0 K0 F G a' w → wpList P ops Q rest a' w) : wpList P ops Q (o :: rest) a w := by
  by_cases h : b = want
  · exact wpl_take S hg hj (by rw [hb, h]) (hy h (S.lit hb h))
  · have h' : b = (!want) := by cases b <;> cases want <;> simp_all
    have S2 := S.lit hb h'
    exact wpl_skip S2 hg hj (by simp [look]) hd hn (hs h')

theorem wps_take {j dj : Nat} {want : Bool} {Q : Act → Prop} (S : St n L w0 F0 K0 F G a w) (hg : o.guard = some (j, want)) (hj : (ops[j]?).bind (·.dst) = some dj) (hb : look L dj = some (.bool want))
    (hy : wpStill P ops w Q ({ o with guard := none } :: rest) a) : wpStill P ops w Q (o :: rest) a := by
  unfold wpStill at hy ⊢
  rw [wanted_eq S hg hj hb, if_pos (by simp)]
  rw [if_pos (by simp [Region.wanted])] at hy
  exact hy

theorem wps_skip {j dj d : Nat} {want : Bool} {Q : Act → Prop} (S : St n L w0 F0 K0 F G a w) (hg : o.guard = some (j, want)) (hj : (ops[j]?).bind (·.dst) = some dj) (hb : look L dj = some (.bool (!want))) (hd : o.dst = some d) (hn : Nat.blt d n.sz = true)
    (k : ∀ a', St n ((d, undef) :: L) w0 F0 K0 F G a' w → wpStill P ops w Q rest a') : wpStill P ops w Q (o :: rest) a := by
  unfold wpStill
  rw [wanted_eq S hg hj hb, if_neg (by simp), hd]
  exact k _ (S.put hn undef)

theorem wps_guard {j dj d : Nat} {want b : Bool} {Q : Act → Prop} (S : St n L w0 F0 K0 F G a w) (hg : o.guard = some (j, want)) (hj : (ops[j]?).bind (·.dst) = some dj) (hb : look L dj = some (.bool b)) (hd : o.dst = some d) (hn : Nat.blt d n.sz = true)
    (hy : b = want → St n ((dj, .bool want) :: L) w0 F0 K0 F G a w → wpStill P ops w Q ({ o with guard := none } :: rest) a)
    (hs : b = (!want) → ∀ a', St n ((d, undef) :: (dj, .bool (!want)) :: L) w0 F0 K0 F G a' w → wpStill P ops w Q rest a') : wpStill P ops w Q (o :: rest) a := by
  by_cases h : b = want
  · exact wps_take S hg hj (by rw [hb, h]) (hy h (S.lit hb h))
  · have h' : b = (!want) := by cases b <;> cases want <;> simp_all
    have S2 := S.lit hb h'
    exact wps_skip S2 hg hj (by simp [look]) hd hn (hs h')

/-! ### operations that only reckon -/
def binI (op : BinOp) (a b : Int) : Option Value :=
  match op with
  | .eql => some (.bool (a == b)) | .neq => some (.bool (a != b))
  | .lss => some (.bool (decide (a < b))) | .leq => some (.bool (decide (a ≤ b)))
  | .gtr => some (.bool (decide (b < a))) | .geq => some (.bool (decide (b ≤ a)))
  | _ => none

def binS (op : BinOp) (a b : List UInt8) : Option Value :=
  match op with
  | .eql => some (.bool (a == b)) | .neq => some (.bool (!(a == b)))
  | .lss => some (.bool (Op.bytesLess a b))
  | _ => none

def sameKind (a b : IntKind) : Bool := decide (a = b)

def pureVal (L : List (Nat × Value)) : Op → Option Value
  | .move x => ev L x
  | .assign x => ev L x
  | .pick c x y => match ev L c with
    | some (.bool true) => ev L x
    | some (.bool false) => ev L y
    | _ => none
  | .binOp op _ x y _ => match ev L x, ev L y with
    | some (.int k a), some (.int k' b) => match sameKind k k' with | true => binI op a b | false => none
    | some (.string ⟨⟨s⟩⟩), some (.string ⟨⟨t⟩⟩) => binS op s t
    | _, _ => none
  | .unOp op _ x => match op, ev L x with
    | .not, some (.bool b) => some (.bool (!b))
    | _, _ => none
  | .extract x i => match ev L x with
    | some (.tuple vs) => vs.toList[i]?
    | _ => none
  | .makeFunc fn f c => match evs L f.toList, evs L c.toList with
    | some fs, some cs => some (.func fn ⟨fs⟩ ⟨cs⟩)
    | _, _ => none
  | _ => none

theorem run_extract_some (P : Program) (w : World) (vs : Array Value) (i : Nat) (v : Value) (h : vs.toList[i]? = some v) : (Instr.extract (.tuple vs) i).run P w = .ok v w := by
  have : vs[i]? = some v := by simpa using h
  simp [Instr.extract, this]

theorem sv_pure {v : Value} (S : St n L w0 F0 K0 F G a w) (h : pureVal L o.op = some v) : SV P o a w v := by
  have E : ∀ x u, ev L x = some u → a.eval x = u := fun x u e => S.fr.eval e
  unfold SV execOp
  cases ho : o.op <;> rw [ho] at h <;> simp only [pureVal] at h <;> try cases h
  case move x => simp [E x v h]
  case assign x => simp [E x v h]
  case pick c x y =>
    split at h
    · rename_i hc; simp [E c _ hc, E x _ h, asBool]
    · rename_i hc; simp [E c _ hc, E y _ h, asBool]
    · cases h
  case binOp op t x y yt =>
    split at h
    · rename_i k p k' q hx hy
      split at h
      · rename_i hk
        have hk' : k = k' := by simpa [sameKind] using hk
        subst hk'
        have h1 : (eqGuard op t x y (.int k p) (.int k q)).run P w = .ok () w := by unfold eqGuard; split <;> rfl
        have h2 : (binOp op t (.int k p) (.int k q)).run P w = .ok v w := by
          cases op <;> simp only [binI] at h <;> try cases h
          all_goals simp [binOp, Op.intCmp]
        simp [E x _ hx, E y _ hy, h1, h2]
      · cases h
    · rename_i s u hx hy
      have h1 : (eqGuard op t x y (.string ⟨⟨s⟩⟩) (.string ⟨⟨u⟩⟩)).run P w = .ok () w := by unfold eqGuard; split <;> rfl
      have h2 : (binOp op t (.string ⟨⟨s⟩⟩) (.string ⟨⟨u⟩⟩)).run P w = .ok v w := by
        cases op <;> simp only [binS] at h <;> try cases h
        all_goals simp [binOp, Op.stringOp, ByteArray.toList_eq]
      simp [E x _ hx, E y _ hy, h1, h2]
    · cases h
  case unOp op t x =>
    split at h
    · rename_i b hx; cases h; simp [E x _ hx, Op.unary]
    · cases h
  case makeFunc fn f c =>
    split at h
    · rename_i fs cs hf hc
      cases h
      have e1 : f.map a.eval = ⟨fs⟩ := by
        have := S.fr.evals hf
        apply Array.ext'; simpa using this
      have e2 : c.map a.eval = ⟨cs⟩ := by
        have := S.fr.evals hc
        apply Array.ext'; simpa using this
      simp [Instr.makeFunc, e1, e2]
    · cases h
  case extract x i =>
    split at h
    · rename_i vs hx
      simp [E x _ hx, run_extract_some P w vs i v h]
    · cases h

theorem run_intOp {x y : Operand} {k : IntKind} {p q : Int} {op : BinOp} {t yt : TypeId} {v : Value} (S : St n L w0 F0 K0 F G a w) (ho : o.op = .binOp op t x y yt) (hx : ev L x = some (.int k p)) (hy : ev L y = some (.int k q))
    (h2 : (binOp op t (.int k p) (.int k q)).run P w = .ok v w) : SV P o a w v := by
  have h1 : (eqGuard op t x y (.int k p) (.int k q)).run P w = .ok () w := by unfold eqGuard; split <;> rfl
  unfold SV execOp
  rw [ho]
  simp [S.fr.eval hx, S.fr.eval hy, h1, h2]

theorem sv_add {x y : Operand} {p q : Int} {t yt : TypeId} (S : St n L w0 F0 K0 F G a w) (ho : o.op = .binOp .add t x y yt) (hx : ev L x = some (.int .i64 p)) (hy : ev L y = some (.int .i64 q))
    (hb : -9223372036854775808 ≤ p + q ∧ p + q ≤ 9223372036854775807) : SV P o a w (.int .i64 (p + q)) :=
  run_intOp S ho hx hy (by simp [binOp, Op.intArith, IntWalk.i64_in _ hb])
theorem sv_sub {x y : Operand} {p q : Int} {t yt : TypeId} (S : St n L w0 F0 K0 F G a w) (ho : o.op = .binOp .sub t x y yt) (hx : ev L x = some (.int .i64 p)) (hy : ev L y = some (.int .i64 q))
    (hb : -9223372036854775808 ≤ p - q ∧ p - q ≤ 9223372036854775807) : SV P o a w (.int .i64 (p - q)) :=
  run_intOp S ho hx hy (by simp [binOp, Op.intArith, IntWalk.i64_in _ hb])
theorem sv_mul {x y : Operand} {p q : Int} {t yt : TypeId} (S : St n L w0 F0 K0 F G a w) (ho : o.op = .binOp .mul t x y yt) (hx : ev L x = some (.int .i64 p)) (hy : ev L y = some (.int .i64 q))
    (hb : -9223372036854775808 ≤ p * q ∧ p * q ≤ 9223372036854775807) : SV P o a w (.int .i64 (p * q)) :=
  run_intOp S ho hx hy (by simp [binOp, Op.intArith, IntWalk.i64_in _ hb])
theorem sv_sub8 {x y : Operand} {p q : Int} {t yt : TypeId} (S : St n L w0 F0 K0 F G a w) (ho : o.op = .binOp .sub t x y yt) (hx : ev L x = some (.int .u8 p)) (hy : ev L y = some (.int .u8 q))
    (hb : 0 ≤ p - q ∧ p - q ≤ 255) : SV P o a w (.int .u8 (p - q)) :=
  run_intOp S ho hx hy (by simp [binOp, Op.intArith, IntWalk.u8_in _ hb])
theorem sv_add8 {x y : Operand} {p q : Int} {t yt : TypeId} (S : St n L w0 F0 K0 F G a w) (ho : o.op = .binOp .add t x y yt) (hx : ev L x = some (.int .u8 p)) (hy : ev L y = some (.int .u8 q))
    (hb : 0 ≤ p + q ∧ p + q ≤ 255) : SV P o a w (.int .u8 (p + q)) :=
  run_intOp S ho hx hy (by simp [binOp, Op.intArith, IntWalk.u8_in _ hb])
theorem sv_quo {x y : Operand} {p q : Int} {t yt : TypeId} (S : St n L w0 F0 K0 F G a w) (ho : o.op = .binOp .quo t x y yt) (hx : ev L x = some (.int .i64 p)) (hy : ev L y = some (.int .i64 q))
    (hb : 0 ≤ p ∧ p ≤ 9223372036854775807 ∧ 1 ≤ q) : SV P o a w (.int .i64 (p / q)) :=
  run_intOp S ho hx hy (by simp [binOp, Op.intDiv, IntWalk.i64_quo _ _ hb, show q ≠ 0 by omega])
theorem sv_rem {x y : Operand} {p q : Int} {t yt : TypeId} (S : St n L w0 F0 K0 F G a w) (ho : o.op = .binOp .rem t x y yt) (hx : ev L x = some (.int .i64 p)) (hy : ev L y = some (.int .i64 q))
    (hb : 0 ≤ p ∧ 1 ≤ q) : SV P o a w (.int .i64 (p % q)) :=
  run_intOp S ho hx hy (by simp [binOp, Op.intDiv, Int.tmod_eq_emod_of_nonneg hb.1, show q ≠ 0 by omega])
theorem sv_quo8 {x y : Operand} {p q : Int} {t yt : TypeId} (S : St n L w0 F0 K0 F G a w) (ho : o.op = .binOp .quo t x y yt) (hx : ev L x = some (.int .u8 p)) (hy : ev L y = some (.int .u8 q))
    (hb : 0 ≤ p ∧ p ≤ 255 ∧ 1 ≤ q) : SV P o a w (.int .u8 (p / q)) :=
  run_intOp S ho hx hy (by simp [binOp, Op.intDiv, IntWalk.u8_quo _ _ hb, show q ≠ 0 by omega])
theorem sv_rem8 {x y : Operand} {p q : Int} {t yt : TypeId} (S : St n L w0 F0 K0 F G a w) (ho : o.op = .binOp .rem t x y yt) (hx : ev L x = some (.int .u8 p)) (hy : ev L y = some (.int .u8 q))
    (hb : 0 ≤ p ∧ 1 ≤ q) : SV P o a w (.int .u8 (p % q)) :=
  run_intOp S ho hx hy (by simp [binOp, Op.intDiv, Int.tmod_eq_emod_of_nonneg hb.1, show q ≠ 0 by omega])

/-- int to int. -/
theorem sv_conv {x : Operand} {k k' : IntKind} {p : Int} {s t : TypeId} {ks : IntKind} [hs : Und P s (.int ks)] [ht : Und P t (.int k)] (S : St n L w0 F0 K0 F G a w) (ho : o.op = .convert s t x) (hx : ev L x = some (.int k' p)) :
    SV P o a w (.int k (k.wrap p)) := by
  unfold SV execOp
  rw [ho]
  simp [S.fr.eval hx, convert, run_underlying hs.h, run_underlying ht.h, Conv.intToInt]
theorem sv_conv_i64 {x : Operand} {k' : IntKind} {p : Int} {s t : TypeId} {ks : IntKind} [hs : Und P s (.int ks)] [ht : Und P t (.int .i64)] (S : St n L w0 F0 K0 F G a w) (ho : o.op = .convert s t x) (hx : ev L x = some (.int k' p))
    (hb : -9223372036854775808 ≤ p ∧ p ≤ 9223372036854775807) : SV P o a w (.int .i64 p) := by
  have := sv_conv (P := P) (k := .i64) S ho hx
  rwa [IntWalk.i64_in _ hb] at this
theorem sv_conv_u8 {x : Operand} {k' : IntKind} {p : Int} {s t : TypeId} {ks : IntKind} [hs : Und P s (.int ks)] [ht : Und P t (.int .u8)] (S : St n L w0 F0 K0 F G a w) (ho : o.op = .convert s t x) (hx : ev L x = some (.int k' p))
    (hb : 0 ≤ p ∧ p ≤ 255) : SV P o a w (.int .u8 p) := by
  have := sv_conv (P := P) (k := .u8) S ho hx
  rwa [IntWalk.u8_in _ hb] at this

/-! ### strings -/
theorem sv_lenS {x : Operand} {s : List UInt8} {t : TypeId} [ht : Und P t .string] (S : St n L w0 F0 K0 F G a w) (ho : o.op = .call { callee := .builtin .len, args := #[x], argTypes := #[t] }) (hx : ev L x = some (.string (bs s))) :
    SV P o a w (.int .i64 (s.length : Nat)) := by
  unfold SV execOp
  rw [ho]
  simp [resolve, invoke, builtin, S.fr.eval hx, run_len_string w t o.type (bs s) ht.h, goInt, bs_size]

theorem sv_lenSl {x : Operand} {b : Option Addr} {m c : Nat} {t e : TypeId} [ht : Und P t (.slice e)] (S : St n L w0 F0 K0 F G a w) (ho : o.op = .call { callee := .builtin .len, args := #[x], argTypes := #[t] }) (hx : ev L x = some (.slice b m c)) :
    SV P o a w (.int .i64 m) := by
  unfold SV execOp
  rw [ho]
  simp [resolve, invoke, builtin, S.fr.eval hx, Builtin.len_, run_underlying ht.h, goInt]

theorem sv_indexS {x y : Operand} {s : List UInt8} {k : IntKind} {i : Int} {t : TypeId} [ht : Und P t .string] (S : St n L w0 F0 K0 F G a w) (ho : o.op = .index t x y) (hx : ev L x = some (.string (bs s))) (hy : ev L y = some (.int k i))
    (hb : 0 ≤ i ∧ i < s.length) : SV P o a w (.int .u8 ((s.getD i.toNat 0).toNat : Nat)) := by
  unfold SV execOp
  rw [ho]
  have hsz : (bs s).size = s.length := rfl
  have h1 := run_index_string (P := P) w t (bs s) k i ht.h
  rw [dif_pos (by rw [hsz]; exact hb)] at h1
  have hlt : i.toNat < s.length := by omega
  have h2 : (s.getD i.toNat 0) = (bs s)[i.toNat]'(by rw [hsz]; exact hlt) := by
    rw [List.getD_eq_getElem?_getD, List.getElem?_eq_getElem hlt]; rfl
  simp [S.fr.eval hx, S.fr.eval hy, h1, ← h2]

theorem sv_indexSN {x y : Operand} {s : List UInt8} {k : IntKind} {i : Nat} {t : TypeId} [ht : Und P t .string] (S : St n L w0 F0 K0 F G a w) (ho : o.op = .index t x y) (hx : ev L x = some (.string (bs s))) (hy : ev L y = some (.int k (Int.ofNat i)))
    (hb : i < s.length) : SV P o a w (.int .u8 ((s.getD i 0).toNat : Nat)) :=
  sv_indexS (i := Int.ofNat i) S ho hx hy ⟨Int.natCast_nonneg i, by exact Int.ofNat_lt.2 hb⟩

theorem extract_bs (s : ByteArray) (i j : Nat) : s.extract i j = bs ((s.data.toList.take j).drop i) := by
  apply ByteArray.ext
  rw [ByteArray.data_extract]
  apply Array.ext'
  simp [bs, List.extract_eq_take_drop, List.drop_take]

theorem run_sliceS {s : ByteArray} {t : TypeId} {lo hi : Option Value} {l h m : Nat} (ht : P.underlying t = some .string) (hb : (Instr.sliceBounds false s.size s.size lo hi none).run P w = .ok (l, h, m) w) :
    (Instr.sliceAt t (.string s) lo hi none).run P w = .ok (.string (bs ((s.data.toList.take h).drop l))) w := by
  simp [Instr.sliceAt, Instr.slice, run_underlying ht, hb, extract_bs]

theorem sv_sliceS {x y z : Operand} {s : List UInt8} {k k' : IntKind} {i j : Int} {t : TypeId} [ht : Und P t .string] (S : St n L w0 F0 K0 F G a w) (ho : o.op = .slice t x (some y) (some z) none) (hx : ev L x = some (.string (bs s))) (hy : ev L y = some (.int k i)) (hz : ev L z = some (.int k' j))
    (hb : 0 ≤ i ∧ i ≤ j ∧ j ≤ s.length) : SV P o a w (.string (bs ((s.take j.toNat).drop i.toNat))) := by
  unfold SV execOp
  rw [ho]
  have hsz : (bs s).size = s.length := rfl
  have e : (j.toNat : Int) = j := Int.toNat_of_nonneg (by omega)
  have e9 : (bs s).data.toList = s := rfl
  simp [S.fr.eval hx, S.fr.eval hy, S.fr.eval hz, e9, run_sliceS (P := P) (w := w) (s := bs s) (lo := some (.int k i)) (hi := some (.int k' j)) (l := i.toNat) (h := j.toNat) (m := (bs s).size) ht.h (by
    simp [Instr.sliceBounds, run_sliceBound, show 0 ≤ i by omega, show 0 ≤ j by omega, show j ≤ ((bs s).size : Int) by rw [hsz]; omega, e, hb.2.1])]

theorem sv_sliceS_lo {x y : Operand} {s : List UInt8} {k : IntKind} {i : Int} {t : TypeId} [ht : Und P t .string] (S : St n L w0 F0 K0 F G a w) (ho : o.op = .slice t x (some y) none none) (hx : ev L x = some (.string (bs s))) (hy : ev L y = some (.int k i))
    (hb : 0 ≤ i ∧ i ≤ s.length) : SV P o a w (.string (bs (s.drop i.toNat))) := by
  unfold SV execOp
  rw [ho]
  have hsz : (bs s).size = s.length := rfl
  have hr := run_sliceS (P := P) (w := w) (s := bs s) (lo := some (.int k i)) (hi := none) (l := i.toNat) (h := (bs s).size) (m := (bs s).size) ht.h (by
    simp [Instr.sliceBounds, run_sliceBound, show 0 ≤ i by omega, show i ≤ ((bs s).size : Int) by rw [hsz]; omega])
  rw [show (bs s).data.toList.take (bs s).size = s from List.take_of_length_le (Nat.le_refl _)] at hr
  simp [S.fr.eval hx, S.fr.eval hy, hr]

theorem sv_sliceS_hi {x z : Operand} {s : List UInt8} {k' : IntKind} {j : Int} {t : TypeId} [ht : Und P t .string] (S : St n L w0 F0 K0 F G a w) (ho : o.op = .slice t x none (some z) none) (hx : ev L x = some (.string (bs s))) (hz : ev L z = some (.int k' j))
    (hb : 0 ≤ j ∧ j ≤ s.length) : SV P o a w (.string (bs (s.take j.toNat))) := by
  unfold SV execOp
  rw [ho]
  have hsz : (bs s).size = s.length := rfl
  have hr := run_sliceS (P := P) (w := w) (s := bs s) (lo := none) (hi := some (.int k' j)) (l := 0) (h := j.toNat) (m := (bs s).size) ht.h (by
    simp [Instr.sliceBounds, run_sliceBound, show 0 ≤ j by omega, show j ≤ ((bs s).size : Int) by rw [hsz]; omega])
  rw [List.drop_zero] at hr
  have e9 : (bs s).data.toList = s := rfl
  simp [S.fr.eval hx, S.fr.eval hz, hr, e9]

theorem append_bs (s t : ByteArray) : s ++ t = bs (s.data.toList ++ t.data.toList) := by
  apply ByteArray.ext
  rw [ByteArray.data_append]
  apply Array.ext'
  simp [bs]

theorem sv_cat {x y : Operand} {s u : List UInt8} {t yt : TypeId} (S : St n L w0 F0 K0 F G a w) (ho : o.op = .binOp .add t x y yt) (hx : ev L x = some (.string (bs s))) (hy : ev L y = some (.string (bs u)))
    (hb : s.length + u.length ≤ 9223372036854775807) : SV P o a w (.string (bs (s ++ u))) := by
  unfold SV execOp
  rw [ho]
  have h1 : (eqGuard .add t x y (.string (bs s)) (.string (bs u))).run P w = .ok () w := by unfold eqGuard; rfl
  have hs : (bs s).size = s.length := rfl
  have hu : (bs u).size = u.length := rfl
  have h2 : (binOp .add t (.string (bs s)) (.string (bs u))).run P w = .ok (.string (bs (s ++ u))) w := by
    have : ¬ ((((bs s).size + (bs u).size : Nat) : Int) > IntKind.i64.max) := by simp [IntKind.max, IntKind.bits, IntKind.signed]; rw [hs, hu]; omega
    simp only [binOp, Op.stringOp, if_neg this, append_bs]
    rfl
  simp [S.fr.eval hx, S.fr.eval hy, h1, h2]

theorem sv_convSS {x : Operand} {s : ByteArray} {t u : TypeId} [ht : Und P t .string] [hu : Und P u .string] (S : St n L w0 F0 K0 F G a w) (ho : o.op = .convert t u x) (hx : ev L x = some (.string s)) : SV P o a w (.string s) := by
  unfold SV execOp
  rw [ho]
  simp [S.fr.eval hx, convert, run_underlying ht.h, run_underlying hu.h]

theorem sv_nilCheck {x : Operand} {p : Addr} (S : St n L w0 F0 K0 F G a w) (ho : o.op = .nilCheck x) (hx : ev L x = some (.pointer (some p))) : SV P o a w (.pointer (some p)) := by
  unfold SV execOp
  rw [ho]
  simp [S.fr.eval hx]

theorem sv_mkIface {x : Operand} {v : Value} {t : TypeId} [ht : Conc P t] (S : St n L w0 F0 K0 F G a w) (ho : o.op = .makeInterface t x) (hx : ev L x = some v) : SV P o a w (.iface t v) := by
  unfold SV execOp
  rw [ho]
  obtain ⟨d, h1, hd⟩ := ht.h
  cases d <;> simp [notIface] at hd <;> simp [S.fr.eval hx, Instr.makeInterface, run_underlying h1]

/-- What pick chooses, where neither of the two is known: of two Booleans. -/
theorem sv_pickB {c x y : Operand} {p q r : Bool} (S : St n L w0 F0 K0 F G a w) (ho : o.op = .pick c x y) (hc : ev L c = some (.bool p)) (hx : ev L x = some (.bool q)) (hy : ev L y = some (.bool r)) : SV P o a w (.bool (bif p then q else r)) := by
  unfold SV execOp
  rw [ho]
  cases p <;> simp [S.fr.eval hc, S.fr.eval hx, S.fr.eval hy, asBool]
end
end Go.Wk
