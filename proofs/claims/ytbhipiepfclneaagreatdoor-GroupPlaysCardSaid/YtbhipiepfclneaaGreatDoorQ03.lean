/- Walks. -/
import Derived.Test.YtbhipiepfclneaaGreatDoorQ02
import Derived.Below
import Derived.Laws.Cover3
set_option linter.unusedVariables false
set_option linter.unusedSimpArgs false
namespace Go.Wk
open Go
section
variable {P : Program} {ops : Array Oper} {Q : Exit → Act → World → Prop}
def Qn (Q : Exit → Act → World → Prop) : Exit → Act → World → Prop
 | .normal, a, w => Q .normal a w
 | _, _, _ => False
theorem q4i : ¬ LetsOut (Qn Q) := fun ⟨_, _, h⟩ => h
def YA (P : Program) (ops : Array Oper) (o : Oper) (v : Value) (a : Act) (w : World) : Prop :=
 (Region.wanted o (yielded ops a.tmps) = true ∧ (execOp a.eval o).run P w = .ok (.value v) w) ∨ (Region.wanted o (yielded ops a.tmps) = false ∧ v = undef)
theorem YA.same {o : Oper} {v : Value} {a a' : Act} {w : World} (hy : YA P ops o v a w) (he : execOp a'.eval o = execOp a.eval o)
  (hw : Region.wanted o (yielded ops a'.tmps) = Region.wanted o (yielded ops a.tmps)) : YA P ops o v a' w := by
 unfold YA at *; rw [he, hw]; exact hy
theorem YA.wpOp {i : Nat} {o : Oper} {v : Value} {a : Act} {w : World} (hi : ops[i]? = some o) (hy : YA P ops o v a w) {K : Act → World → Prop} {Q} (h : K (a.put o.dst v) w) : wpOp P ops Q i K a w := by
 unfold Go.wpOp
 simp only [hi]
 rcases hy with ⟨hw, hv⟩ | ⟨hw, rfl⟩
 ·simp only [hw, if_true]
  refine .inl ?_
  unfold Oper.wp
  rw [hv]
  exact h
 ·simp only [hw, Bool.false_eq_true, if_false]; exact h
def RO {α : Type} (s : Sem α) : Prop := ∀ P w x w', s.run P w = .ok x w' → w' = w
theorem RO.pure {α : Type} (a : α) : RO (Pure.pure a : Sem α) := fun P w x w' h => by simp at h; exact h.2.symm
theorem RO.bind {α β : Type} {s : Sem α} {f : α → Sem β} (h : RO s) (hf : ∀ a, RO (f a)) : RO (s >>= f) := fun P w x w' hr => by
 rw [Sem.run_bind] at hr
 cases hs : s.run P w with
 | ok a w1 =>
  rw [hs, Result.andThen_ok] at hr
  rw [hf a P w1 x w' hr, h P w a w1 hs]
 | halt e w1 => rw [hs] at hr; cases hr
theorem RO.ite {α : Type} {c : Prop} [Decidable c] {s t : Sem α} (h : RO s) (h2 : RO t) : RO (if c then s else t) := by split <;> assumption
theorem RO.stuck {α : Type} (m : String) : RO (stuck m : Sem α) := fun P w x w' h => by simp at h
theorem RO.unsup {α : Type} (u : Unsupported) : RO (unsupported u : Sem α) := fun P w x w' h => by simp at h
theorem RO.und (t : TypeId) : RO (underlying t) := fun P w x w' h => by
 simp only [underlying, Sem.run_bind, run_program, Result.andThen_ok] at h
 split at h
 ·exact (RO.pure _) P w x w' h
 ·exact (RO.stuck _) P w x w' h
theorem RO.info (t : TypeId) : RO (typeInfo t) := fun P w x w' h => by
 simp only [typeInfo, Sem.run_bind, run_program, Result.andThen_ok] at h
 split at h
 ·exact (RO.pure _) P w x w' h
 ·exact (RO.stuck _) P w x w' h
theorem RO.size (t : TypeId) : RO (sizeOf t) := (RO.info t).bind fun _ => RO.pure _
theorem RO.agg (t : TypeId) : RO (isAgg t) := (RO.und t).bind fun d => by cases d <;> exact RO.pure _
theorem RO.load (a : Addr) : RO (load a) := fun P w x w' h => by
 simp only [run_load] at h
 split at h
 ·cases h; rfl
 ·split at h <;> cases h; rfl
theorem RO.loadFrom (a : Addr) : ∀ (n i : Nat) (acc : Array Value), RO (loadCellsFrom a i n acc)
 | 0, _, _ => RO.pure _
 | n + 1, i, _ => (RO.load _).bind fun _ => RO.loadFrom a n (i + 1) _
theorem RO.loadVar (t : TypeId) (a : Addr) : RO (loadVar t a) := (RO.agg t).bind fun _ => RO.ite ((RO.size t).bind fun n => (RO.loadFrom a n 0 _).bind fun _ => RO.pure _) (RO.load a)
theorem RO.sure (v : Value) : RO (Instr.sureAddr v) := by
 unfold Instr.sureAddr; split
 ·exact RO.pure _
 ·exact RO.stuck _
def q56 : Op → Bool
 | .move _ | .assign _ | .load .. | .extract .. | .makeFunc .. => true
 | .indexAddr .. | .fieldAddr .. | .index .. => true
 | _ => false
theorem RO.panic {α : Type} (k : IntKind) (x y : Int) (c : BoundsCode) : RO (boundsPanic k x y c : Sem α) := fun P w r w' h => by
 have key : ∀ b : Bool, (runtimePanic (RuntimeError.bounds (IntKind.i64.wrap x) y b c) : Sem α).run P w = .ok r w' → False := fun b h => by
  unfold runtimePanic at h
  simp [run_goPanic] at h
 have key2 : ∀ (s : Sem Bool), (s >>= fun b => (runtimePanic (RuntimeError.bounds (IntKind.i64.wrap x) y b c) : Sem α)).run P w = .ok r w' → False := fun s h => by
  rw [Sem.run_bind] at h
  cases hs : s.run P w with
  | ok b w1 =>
   rw [hs, Result.andThen_ok] at h
   unfold runtimePanic at h
   simp [run_goPanic] at h
  | halt e w1 => rw [hs] at h; cases h
 unfold boundsPanic at h
 dsimp only at h
 split at h
 ·exact (key2 _ h).elim
 ·exact (key2 _ h).elim
theorem RO.int (v : Value) : RO (asIntOf v) := by
 unfold asIntOf; split
 ·exact RO.pure _
 ·exact RO.unsup _
 ·exact RO.stuck _
theorem RO.shape (b : Nat) : RO (shape b) := fun P w x w' h => by simp at h; exact h.2.symm
theorem RO.prog : RO program := fun P w x w' h => by simp at h; exact h.2.symm
theorem RO.part (t : TypeId) (cs : Array Value) (off : Nat) : RO (part t cs off) := by
 unfold Go.part
 refine (RO.agg t).bind fun b => RO.ite ((RO.size t).bind fun _ => RO.pure _) ?_
 split
 ·exact RO.pure _
 ·exact RO.stuck _
theorem RO.getView (b : Nat) : RO (do match ← getObj b with | .view a t => Pure.pure (some (a, t)) | _ => Pure.pure none : Sem (Option (Addr × TypeId))) := by
 refine RO.bind (fun P w x w' h => ?_) fun o => by split <;> exact RO.pure _
 simp only [getObj, Sem.run] at h
 split at h <;> cases h <;> rfl
theorem RO.view (b : Nat) : RO (viewAt b) := by
 unfold viewAt
 refine (RO.shape b).bind fun s => ?_
 split
 ·exact RO.pure _
 ·exact RO.getView b
theorem RO.byteOf (a : Addr) : RO (byteOf a) := by
 unfold Go.byteOf noView
 repeat (first | exact RO.pure _ | exact RO.stuck _ | exact RO.unsup _ | exact RO.panic _ _ _ _ | exact RO.und _ | exact RO.size _ | exact RO.sure _ | exact RO.int _ | exact RO.shape _ | exact RO.prog | exact RO.part _ _ _ | exact RO.view _ | (refine RO.bind ?_ fun _ => ?_) | (refine RO.ite ?_ ?_) | split | (dsimp only))
theorem RO.index (t : TypeId) (x i : Value) : RO (Instr.index t x i) := by
 unfold Instr.index
 repeat (first | exact RO.pure _ | exact RO.stuck _ | exact RO.unsup _ | exact RO.panic _ _ _ _ | exact RO.und _ | exact RO.size _ | exact RO.sure _ | exact RO.int _ | exact RO.shape _ | exact RO.prog | exact RO.part _ _ _ | exact RO.view _ | exact RO.byteOf _ | (refine RO.bind ?_ fun _ => ?_) | (refine RO.ite ?_ ?_) | split | (dsimp only))
theorem RO.indexAt (t : TypeId) (x i : Value) : RO (Instr.indexAt t x i) := by
 unfold Instr.indexAt
 repeat (first | exact RO.pure _ | exact RO.stuck _ | exact RO.unsup _ | exact RO.panic _ _ _ _ | exact RO.und _ | exact RO.size _ | exact RO.sure _ | exact RO.int _ | exact RO.shape _ | exact RO.prog | exact RO.part _ _ _ | exact RO.view _ | exact RO.byteOf _ | (refine RO.bind ?_ fun _ => ?_) | (refine RO.ite ?_ ?_) | split | (dsimp only))
theorem RO.fieldAt (t : TypeId) (x : Value) (f : Nat) : RO (Instr.fieldAt t x f) := by
 unfold Instr.fieldAt fieldPlace partAt
 repeat (first | exact RO.pure _ | exact RO.stuck _ | exact RO.unsup _ | exact RO.panic _ _ _ _ | exact RO.und _ | exact RO.size _ | exact RO.sure _ | exact RO.int _ | exact RO.shape _ | exact RO.prog | exact RO.part _ _ _ | exact RO.view _ | exact RO.byteOf _ | (refine RO.bind ?_ fun _ => ?_) | (refine RO.ite ?_ ?_) | split | (dsimp only))
theorem qh0 {o : Oper} {ρ : Operand → Value} {w w' : World} {x : Next} (h : q56 o.op = true) (hr : (execOp ρ o).run P w = .ok x w') : ∃ v, x = .value v ∧ w' = w := by
 have key : ∀ s : Sem Value, RO s → (do pure (Next.value (← s)) : Sem Next).run P w = .ok x w' → ∃ v, x = .value v ∧ w' = w := fun s hs h => by
  rw [Sem.run_bind] at h
  cases he : s.run P w with
  | ok v w1 =>
   rw [he, Result.andThen_ok, Sem.run_pure] at h
   cases h
   exact ⟨v, rfl, hs P w v _ he⟩
  | halt e w1 => rw [he] at h; cases h
 unfold execOp at hr
 cases ho : o.op <;> rw [ho] at h hr <;> simp only [q56] at h <;> try cases h
 case move x => simp at hr; exact ⟨_, hr.1.symm, hr.2.symm⟩
 case assign x => simp at hr; exact ⟨_, hr.1.symm, hr.2.symm⟩
 case load t a => exact key _ ((RO.sure _).bind fun a => RO.loadVar t a) hr
 case extract t i =>
  refine key _ ?_ hr
  unfold Instr.extract
  split
  ·split
   ·exact RO.pure _
   ·exact RO.stuck _
  ·exact RO.stuck _
 case makeFunc f a c => exact key _ (RO.pure _) hr
 case indexAddr t x i => exact key _ (RO.indexAt _ _ _) hr
 case fieldAddr t x f => exact key _ (RO.fieldAt _ _ _) hr
 case index t x i => exact key _ (RO.index _ _ _) hr
def Still (P : Program) (o : Oper) (a : Act) (w : World) : Prop := ∃ v, (execOp a.eval o).run P w = .ok (.value v) w
def YB (P : Program) (ops : Array Oper) (st : Bool) (o : Oper) (v : Value) (a : Act) (w : World) : Prop :=
 match st with | true => YA P ops o v a w | false => ∀ w, YA P ops o v a w
theorem YB.at {st o v a w} (h : YB P ops st o v a w) : YA P ops o v a w := by cases st <;> first | exact h | exact h w
theorem qs7 {o : Oper} {a : Act} {w : World} {K : Act → World → Prop} (hq : q56 o.op = true) (h : o.wp P a w K (Qn Q)) : Still P o a w := by
 unfold Oper.wp at h
 cases hr : (execOp a.eval o).run P w with
 | ok x w' =>
  obtain ⟨v, rfl, rfl⟩ := qh0 hq hr
  exact ⟨v, hr⟩
 | halt x w' => rw [hr] at h; cases x <;> simp only [Oper.upon] at h <;> exact h.elim
theorem wpOp_put {j : Nat} {oi oj : Oper} {v : Value} {w : World} (hj : ops[j]? = some oj) (hap : oi.apart ops oj = true)
  (hsi : ∀ cs b, oi.op ≠ .select cs b) (hsj : ∀ cs b, oj.op ≠ .select cs b) {K : Act → World → Prop} {a : Act} {st : Bool}
  (hy : YB P ops st oi v a w) (hst : st = true → q56 oj.op = true)
  (h : wpOp P ops (Qn Q) j K (a.put oi.dst v) w) :
  wpOp P ops (Qn Q) j (fun a' w' => YB P ops st oi v a' w' ∧ K (a'.put oi.dst v) w') a w := by
 obtain ⟨h1, h2, h3⟩ := Oper.apart_spec hap
 have keep : ∀ u, ∀ w, YA P ops oi v a w → YA P ops oi v (a.put oj.dst u) w := fun u w hy =>
  hy.same (execOp_put oi hsi a oj.dst u h3) (wanted_put oi a oj.dst u h3)
 have keepB : ∀ u, YB P ops st oi v (a.put oj.dst u) w := fun u => by
  cases st
  ·exact fun w => keep u w (hy w)
  ·exact keep u w hy
 unfold wpOp at *
 simp only [hj] at *
 rw [wanted_put oj a oi.dst v h1] at h
 split
 ·rename_i hw
  simp only [hw, if_true] at h
  rcases h with h | h
  ·refine .inl ?_
   cases st with
   | false =>
    have keepA : ∀ u w', YB P ops false oi v (a.put oj.dst u) w' := fun u _ w => keep u w (hy w)
    unfold Oper.wp at *
    rw [execOp_put oj hsj a oi.dst v h1] at h
    generalize (execOp a.eval oj).run P w = r at *
    cases r with
    | ok n w' =>
     cases n <;> simp only [Oper.upon] at h ⊢
     case value u => exact ⟨keepA u _, by rw [← Act.put_comm a v u h2]; exact h⟩
     case skip => exact ⟨keepA _ _, by rw [← Act.put_comm a v undef h2]; exact h⟩
     case defer d =>
      refine ⟨fun w => (keep undef w (hy w)).same ?_ ?_, ?_⟩
      ·cases oj.dst <;> rfl
      ·cases oj.dst <;> rfl
      ·have := Act.put_comm ({ a with defers := d :: a.defers }) (y := oj.dst) v undef h2
       rw [← this, ← Act.put_defers]
       exact h
     case enter f args =>
      refine Calls.mono h fun e w'' he => ?_
      cases e <;> first
       | exact he.elim
       | exact absurd he q4i
       | exact ⟨keepA _ _, by rw [← Act.put_comm a v _ h2]; exact he⟩
     case row row args => exact Rows.mono h fun u w'' he => ⟨keepA _ _, by rw [← Act.put_comm a v _ h2]; exact he⟩
    | halt x w' => cases x <;> simp only [Oper.upon] at h ⊢ <;> exact h.elim
   | true =>
    obtain ⟨u, hu⟩ := qs7 (hst rfl) h
    unfold Oper.wp at *
    rw [hu] at h
    rw [execOp_put oj hsj a oi.dst v h1] at hu
    rw [hu]
    rw [Oper.upon_value] at h ⊢
    exact ⟨keepB u, by rw [← Act.put_comm a v u h2]; exact h⟩
  ·exact absurd h.2 q4i
 ·rename_i hw
  simp only [hw] at h
  exact ⟨keepB undef, by rw [← Act.put_comm a v undef h2]; exact h⟩
def twB (ops : Array Oper) : Nat → Nat → Nat → Bool
 | 0, _, _ => false
 | n + 1, j, i => match ops[j]? with
  | none => false
  | some oj => oj.after.any fun e => Region.binds .any e && (e.on == i || twB ops n e.on i)
def Closed (ops : Array Oper) (listed : Array Bool) : Prop :=
 ∀ (j : Nat) (oj : Oper), ops[j]? = some oj → listed.getD j false = true → ∀ e ∈ oj.after, Region.binds .any e = true → listed.getD e.on false = true
theorem q9p {listed : Array Bool} (hc : Closed ops listed) {i : Nat} : ∀ (n j : Nat), twB ops n j i = true →
  (∀ oj, ops[j]? = some oj → ∀ e ∈ oj.after, Region.binds .any e = true → listed.getD e.on false = true) → listed.getD i false = true
 | 0, _, h, _ => by cases h
 | n + 1, j, h, hl => by
  unfold twB at h
  split at h
  ·cases h
  ·rename_i oj hj
   obtain ⟨e, he, hb⟩ := Array.any_eq_true'.1 h
   simp only [Bool.and_eq_true, Bool.or_eq_true, beq_iff_eq] at hb
   have h1 := hl oj hj e he hb.1
   rcases hb.2 with h2 | h2
   ·rw [← h2]; exact h1
   ·exact q9p hc n e.on h2 fun ok hk e' he' hb' => hc e.on ok hk h1 e' he' hb'
theorem Closed.set {listed : Array Bool} (hc : Closed ops listed) {i : Nat} (hi : i ∈ Region.ready .any ops listed) : Closed ops (listed.setIfInBounds i true) := by
 obtain ⟨_, oi, hoi, hall⟩ := mem_ready.1 hi
 intro j oj hj hl e he hb
 by_cases hij : i = j
 ·subst hij
  have : oj = oi := Option.some.inj (hj.symm.trans hoi)
  subst this
  exact getD_set_true (hall e he hb)
 ·rw [getD_set_ne false hij] at hl
  exact getD_set_true (hc j oj hj hl e he hb)
def stOp : Op → Bool
 | .load .. | .lookup .. | .call _ => true
 | _ => false
def q26 (P : Program) (ops : Array Oper) (w : World) (T : Act → Prop) : List Oper → Act → Prop
 | [], a => T a
 | o :: r, a => ∃ v, YB P ops (stOp o.op) o v a w ∧ q26 P ops w T r (a.put o.dst v)
section
variable {n : Sz} {L : List (Nat × Value)} {w0 : World} {F0 : q01} {K0 : List Nat} {F : q01} {G : List Grp} {a : Act} {w : World} {T : Act → Prop} {rest : List Oper} {o : Oper}
theorem St.any (S : St n L w0 F0 K0 F G a w) (w' : World) : St n L w' (fun _ => none) [] (fun _ => none) [] a w' :=
 ⟨S.fr, At.tr (G := []) ⟨(fun _ _ h => by cases h), (fun _ h => by cases h), List.nodup_nil⟩⟩
theorem q0y (h : T a) : q26 P ops w T [] a := h
theorem q2t {d : Nat} {v : Value} (S : St n L w0 F0 K0 F G a w) (hg : o.guard = none) (hd : o.dst = some d) (hn : Nat.blt d n.sz = true) (hst : stOp o.op = false)
  (h : ∀ w', St n L w' (fun _ => none) [] (fun _ => none) [] a w' → SV P o a w' v) (k : ∀ a', St n ((d, v) :: L) w0 F0 K0 F G a' w → q26 P ops w T rest a') : q26 P ops w T (o :: rest) a := by
 refine ⟨v, ?_, ?_⟩
 ·rw [hst]
  exact fun w' => .inl ⟨by simp [Region.wanted, hg], h w' (S.any w')⟩
 ·rw [hd]; exact k _ (S.put hn v)
theorem q8u {d : Nat} {v : Value} (S : St n L w0 F0 K0 F G a w) (hg : o.guard = none) (hd : o.dst = some d) (hn : Nat.blt d n.sz = true) (hst : stOp o.op = true)
  (h : SV P o a w v) (k : ∀ a', St n ((d, v) :: L) w0 F0 K0 F G a' w → q26 P ops w T rest a') : q26 P ops w T (o :: rest) a := by
 refine ⟨v, ?_, ?_⟩
 ·rw [hst]
  exact .inl ⟨by simp [Region.wanted, hg], h⟩
 ·rw [hd]; exact k _ (S.put hn v)
end
end
def qwx (P : Program) : List Field → List (Nat × Nat) → Prop
 | [], [] => True
 | f :: fs, p :: ps => f.offset = p.1 ∧ (∃ i, P.info? f.type = some i ∧ i.size = p.2) ∧ qwx P fs ps
 | _, _ => False
class Plc (P : Program) (t : TypeId) (pl : outParam (List (Nat × Nat))) : Prop where
  h : ∃ fields : Array Field, P.underlying t = some (.struct fields) ∧ qwx P fields.toList pl
theorem szH {P : Program} {t : TypeId} {z : Value} {sz by_ : Nat} (h : Inf P t z sz by_) : ∃ i, P.info? t = some i ∧ i.size = sz := by
 obtain ⟨i, h1, _, h3, _⟩ := h.h; exact ⟨i, h1, h3⟩
theorem run_places {P : Program} (w : World) : ∀ (fs : List Field) (pl : List (Nat × Nat)), qwx P fs pl →
  (fs.mapM (fun f => do pure (f.offset, ← sizeOf f.type) : Field → Sem (Nat × Nat))).run P w = .ok pl w
 | [], [], _ => by simp
 | f :: fs, p :: ps, h => by
  obtain ⟨h1, ⟨i, h2, h3⟩, h4⟩ := h
  have := run_places w fs ps h4
  have e : (sizeOf f.type).run P w = .ok p.2 w := by simp [sizeOf, typeInfo, h2, h3]
  simp only [List.mapM_cons, Sem.run_bind, e, Result.andThen_ok, Sem.run_pure, this]
  rw [h1]
 | [], _ :: _, h => h.elim
 | _ :: _, [], h => h.elim
def splice (l : List Value) (off : Nat) (vs : List Value) : List Value := l.take off ++ vs ++ l.drop (off + vs.length)
def qn7 (pl : List (Nat × Nat)) : List Value → List (Nat × Value) → Option (List Value)
 | cells, [] => some cells
 | cells, (i, v) :: r => match pl[i]? with
  | none => none
  | some (off, size) => match Nat.beq v.cells.toList.length size, Nat.ble (off + v.cells.toList.length) cells.length with
   | true, true => qn7 pl (splice cells off v.cells.toList) r
   | _, _ => none
theorem qas (pl : List (Nat × Nat)) : ∀ (pv : List (Nat × Value)) (cells : Array Value) (c : List Value), qn7 pl cells.toList pv = some c → Instr.fill (fun i => (pl.toArray)[i]?) cells pv = some ⟨c⟩
 | [], cells, c, h => by simp only [qn7, Option.some.injEq] at h; subst h; rfl
 | (i, v) :: r, cells, c, h => by
  unfold qn7 at h
  cases hp : pl[i]? with
  | none => simp only [hp] at h; cases h
  | some p =>
   obtain ⟨off, size⟩ := p
   simp only [hp] at h
   split at h
   ·rename_i h1 h2
    have h1' := Nat.eq_of_beq_eq_true h1
    have h2' := Nat.le_of_ble_eq_true h2
    have e1 : v.cells.size = size := by simpa using h1'
    have e2 : off + v.cells.size ≤ cells.size := by simpa using h2'
    have ep : (pl.toArray)[i]? = some (off, size) := by simpa using hp
    simp only [Instr.fill, ep]
    rw [if_neg (by simp [e1]; rw [e1] at e2; exact e2), qif off v cells e2]
    refine qas pl r _ c ?_
    simpa [splice] using h
   ·cases h
def u35 (L : List (Nat × Value)) : List (Nat × Operand) → Option (List (Nat × Value))
 | [] => some []
 | (i, x) :: r => match ev L x, u35 L r with
  | some v, some vs => some ((i, v) :: vs)
  | _, _ => none
section
variable {P : Program} {n : Sz} {L : List (Nat × Value)} {w0 : World} {F0 : q01} {K0 : List Nat} {F : q01} {G : List Grp} {a : Act} {w : World}
variable {ops : Array Oper} {Q : Exit → Act → World → Prop} {rest : List Oper} {o : Oper}
theorem Fr.evalsP (h : Fr n L a) : ∀ {xs : List (Nat × Operand)} {vs : List (Nat × Value)}, u35 L xs = some vs → xs.map (fun p => (p.1, a.eval p.2)) = vs
 | [], vs, e => by simp only [u35, Option.some.injEq] at e; simp [← e]
 | (i, x) :: r, vs, e => by
  simp only [u35] at e
  split at e
  ·rename_i v vs' hv hvs
   simp only [Option.some.injEq] at e
   rw [← e, List.map_cons, h.eval hv, Fr.evalsP h hvs]
  ·cases e
theorem q74 {t : TypeId} {parts : Array (Nat × Operand)} {pl : List (Nat × Nat)} {z : Value} {sz by_ : Nat} {pv : List (Nat × Value)} {c : List Value} [hp : Plc P t pl] [hi : Inf P t z sz by_] (S : St n L w0 F0 K0 F G a w) (ho : o.op = .build t parts)
  (hx : u35 L parts.toList = some pv) (hf : qn7 pl z.cells.toList pv = some c) : SV P o a w (.agg ⟨c⟩) := by
 obtain ⟨fields, h1, h2⟩ := hp.h
 have h3 := run_places w _ _ h2
 have h4 : (fields.mapM (fun f => do pure (f.offset, ← sizeOf f.type) : Field → Sem (Nat × Nat))).run P w = .ok pl.toArray w := by
  rw [Array.mapM_eq_mapM_toList, Sem.run_map, h3, Result.andThen_ok]
 have h5 := qas pl pv z.cells c hf
 have h6 := S.fr.evalsP hx
 have h7 : (parts.map fun (i, x) => (i, a.eval x)).toList = pv := by rw [Array.toList_map]; exact h6
 unfold SV execOp
 rw [ho]
 simp only [Instr.build, Sem.run_bind, q4q hi, Result.andThen_ok, run_underlying h1, h4, h7, h5, Sem.run_pure]
def SlC (F : q01) (v : Value) (k : Nat) (cells : List Value) : Prop :=
 ∃ ao cap, v = .slice ao k cap ∧ k ≤ cap ∧ (0 < k → ∃ b off, ao = some ⟨b, off, none⟩ ∧ q2v F b off cells)
theorem q2v.mono {F' : q01} (hF : ∀ b o, F b = some o → F' b = some o) {b off vs} (h : q2v F b off vs) : q2v F' b off vs := fun j v hv => (h j v hv).mono hF
theorem SlC.mono {F' : q01} (hF : ∀ b o, F b = some o → F' b = some o) {v k cells} (h : SlC F v k cells) : SlC F' v k cells := by
 obtain ⟨ao, cap, h1, h2, h3⟩ := h
 exact ⟨ao, cap, h1, h2, fun hk => by obtain ⟨b, off, h4, h5⟩ := h3 hk; exact ⟨b, off, h4, h5.mono hF⟩⟩
theorem q2v.drop {b off : Nat} {vs : List Value} (h : q2v F b off vs) (i : Nat) : q2v F b (off + i) (vs.drop i) := fun j v hv => by
 rw [List.getElem?_drop] at hv
 have := h (i + j) v hv
 rwa [← Nat.add_assoc] at this
theorem q2v.take {b off : Nat} {vs : List Value} (h : q2v F b off vs) (i : Nat) : q2v F b off (vs.take i) := fun j v hv => by
 rw [List.getElem?_take] at hv
 split at hv
 ·exact h j v hv
 ·cases hv
theorem q2v.cel {b off j : Nat} {vs : List Value} {v : Value} (h : q2v F b off vs) (hj : vs[j]? = some v) : Cel F b (off + j) v := h j v hj
theorem q2v.zero {b off : Nat} {vs : List Value} (h : q2v F b off vs) : q2v F b (off + 0) vs := h
theorem St.freeze {G1 G2 : List Grp} {g : Grp} (S : St n L w0 F0 K0 F (G1 ++ g :: G2) a w) : St n L w0 F0 K0 (F.add g) (G1 ++ G2) a w := ⟨S.fr, S.tr.freeze⟩
theorem q2h {G1 G2 : List Grp} {g : Grp} (S : St n L w0 F0 K0 F (G1 ++ g :: G2) a w) : ∀ b o, F b = some o → F.add g b = some o := fun b o h => by
 rw [q01.add_none (fun hm => ?_)]
 ·exact h
 ·obtain ⟨p, hp, rfl⟩ := List.mem_map.1 hm
  have := (S.tr.own p (by simp only [List.flatten_append, qaF]; exact List.mem_append_right _ (List.mem_append_left _ hp))).2.1
  rw [this] at h; cases h
theorem St.drop1 {g : Grp} (S : St n L w0 F0 K0 F (g :: G) a w) : St n L w0 F0 K0 F G a w := ⟨S.fr, S.tr.sub (by rw [qaF]; exact List.sublist_append_right _ _)⟩
theorem St.nilg (S : St n L w0 F0 K0 F G a w) : St n L w0 F0 K0 F ([] :: G) a w := ⟨S.fr, S.tr.perm (by simp)⟩
theorem q0u.slC {e sz k : Nat} {v : Value} {cells : List Value} {g : Grp} (h : q0u e sz v k cells g) (F : q01) : SlC (F.add g) v k cells := by
 rcases h.2 with ⟨rfl, rfl, rfl⟩ | ⟨b, cap, cur, rfl, rfl, h1, h2, h3, h4⟩
 ·exact ⟨none, 0, rfl, Nat.le_refl _, fun h => absurd h (by omega)⟩
 ·refine ⟨_, cap, rfl, h1, fun _ => ⟨b, 0, rfl, fun j u hu => ⟨cur, e, (0, 0), q01.add_new (p := (b, _)) (List.mem_singleton.2 rfl) (by simp), ?_⟩⟩⟩
  rw [← h4, List.getElem?_take] at hu
  split at hu
  ·rw [Nat.zero_add]; simpa using hu
  ·cases hu
theorem qa4 (hat : At w F []) {w' : World} (h : RowKit.Below w.heap.size w w') : Tr w F [] w' F [] :=
 ⟨h.os, h.tape, h.output, h.size, fun b hb _ => h.block b hb, fun b o hb => by
  have := hat.frz b o hb
  rw [h.block b (q37 this)]; exact this, (fun _ _ h => h), (fun _ _ h => .inl h), (fun _ h => by cases h), List.nodup_nil⟩
theorem q2s {f : FuncId} {args : List Value} {v : Value} (h : ∀ w, At w F [] → Calls P f ⟨args⟩ w (fun e w' => e = .returned v ∧ RowKit.Below w.heap.size w w')) : Ct P f args F [] (fun _ _ u => u = v) :=
 fun w hw => (h w hw).mono fun e w' ⟨h1, h2⟩ => ⟨v, F, [], h1, qa4 hw h2, rfl⟩
theorem At.cel (h : At w F G) {b off : Nat} {v : Value} (hc : Cel F b off v) : w.cell? ⟨b, off, none⟩ = some v := by
 obtain ⟨c, e, f, h1, h2⟩ := hc
 exact cell_of_heap (h.frz _ _ h1) h2
end
end Go.Wk
namespace Go.Num
open Go
def dig (b S j : Nat) : Nat := S / b ^ j % b
def ndf (b S : Nat) : Nat → Nat
 | 0 => 0
 | k + 1 => if dig b S k = 0 then ndf b S k else k + 1
def nd (b S : Nat) : Nat := ndf b S S
theorem q2z {b : Nat} (hb : 2 ≤ b) (S j : Nat) : dig b S j < b := Nat.mod_lt _ (by omega)
theorem q3u {b S k : Nat} (h : S < b ^ k) {j : Nat} (hj : k ≤ j) (hb : 2 ≤ b) : dig b S j = 0 := by
 unfold dig
 rw [Nat.div_eq_of_lt (Nat.lt_of_lt_of_le h (Nat.pow_le_pow_right (by omega) hj)), Nat.zero_mod]
theorem qv3 {b : Nat} (hb : 2 ≤ b) (S : Nat) : S < b ^ S := Nat.lt_of_lt_of_le Nat.lt_two_pow_self (Nat.pow_le_pow_left hb S)
theorem quu (b S : Nat) : ∀ k, ndf b S k ≤ k
 | 0 => Nat.le_refl _
 | k + 1 => by unfold ndf; split; exact Nat.le_succ_of_le (quu b S k); exact Nat.le_refl _
theorem qig {b S k : Nat} (h : S < b ^ k) (hb : 2 ≤ b) : ∀ {m}, k ≤ m → ndf b S m = ndf b S k := by
  intro m hm
  induction m with
  | zero => have : k = 0 := by omega
            subst this; rfl
  | succ m ih =>
    by_cases e : k = m + 1
    · rw [e]
    · have hk : k ≤ m := by omega
      rw [ndf, if_pos (q3u h hk hb), ih hk]
theorem qmh {b S k : Nat} (h : S < b ^ k) (hb : 2 ≤ b) : ndf b S k = nd b S := by
 have h1 := qig h hb (Nat.le_max_left k S)
 have h2 := qig (qv3 hb S) hb (Nat.le_max_right k S)
 rw [← h1, h2, nd]
theorem qky {b S k : Nat} (h : S < b ^ k) (hb : 2 ≤ b) : nd b S ≤ k := by rw [← qmh h hb]; exact quu b S k
theorem qpy {b S k : Nat} (hb : 2 ≤ b) (h : S < b ^ (k + 1)) (hd : dig b S k = 0) : S < b ^ k := by
 unfold dig at hd
 have hp : 0 < b ^ k := Nat.pow_pos (by omega)
 have h1 : S / b ^ k < b := by rw [Nat.div_lt_iff_lt_mul hp]; rw [Nat.pow_succ] at h; rw [Nat.mul_comm]; exact h
 rw [Nat.mod_eq_of_lt h1] at hd
 exact (Nat.div_eq_zero_iff_lt hp).1 hd
theorem qvk {b S : Nat} (hb : 2 ≤ b) : ∀ k, S < b ^ k → S < b ^ (ndf b S k)
 | 0, h => h
 | k + 1, h => by
  unfold ndf
  split
  ·rename_i hd; exact qvk hb k (qpy hb h hd)
  ·exact h
theorem q33 {b : Nat} (hb : 2 ≤ b) (S : Nat) : S < b ^ nd b S := qvk hb S (qv3 hb S)
theorem qd7 (b : Nat) : nd b 0 = 0 := rfl
theorem q89 {b S : Nat} (hb : 2 ≤ b) (h : nd b S = 0) : S = 0 := by
 have := q33 hb S
 rw [h, Nat.pow_zero] at this; omega
theorem qo3 {b S : Nat} : ∀ k, ndf b S k ≠ 0 → dig b S (ndf b S k - 1) ≠ 0
 | 0, h => absurd rfl h
 | k + 1, h => by
  unfold ndf at h ⊢
  split
  ·rename_i hd; rw [if_pos hd] at h; exact qo3 k h
  ·rename_i hd; simpa using hd
theorem qvu {b S : Nat} (hb : 2 ≤ b) (h : 0 < S) : 0 < nd b S := by
 rcases Nat.eq_zero_or_pos (nd b S) with e | e
 ·have := q89 hb e; omega
 ·exact e
theorem qem {b S : Nat} (hb : 2 ≤ b) (h : 0 < S) : b ^ (nd b S - 1) ≤ S := by
 have h1 := qo3 (b := b) (S := S) S (by have := qvu hb h; unfold nd at this; omega)
 rcases Nat.lt_or_ge S (b ^ (nd b S - 1)) with hl | hl
 ·exact absurd (q3u hl (Nat.le_refl _) hb) h1
 ·exact hl
theorem q5q (b S k : Nat) : S % b ^ (k + 1) = S % b ^ k + b ^ k * dig b S k := by rw [Nat.pow_succ, Nat.mod_mul]; rfl
theorem qwi {b S k j : Nat} (hj : j < k) (hb : 2 ≤ b) : dig b (S % b ^ k) j = dig b S j := by
 unfold dig
 have e : b ^ k = b ^ j * (b * b ^ (k - j - 1)) := by rw [← Nat.pow_succ', ← Nat.pow_add]; congr 1; omega
 rw [e, Nat.mod_mul_right_div_self, Nat.mod_mul_right_mod]
theorem step {b k X d : Nat} (hb : 2 ≤ b) : (X + b ^ k * d) / b ^ k = X / b ^ k + d ∧ (X + b ^ k * d) / b ^ (k + 1) = (X / b ^ k + d) / b := by
 have hp : 0 < b ^ k := Nat.pow_pos (by omega)
 have h1 : (X + b ^ k * d) / b ^ k = X / b ^ k + d := by rw [Nat.add_mul_div_left _ _ hp]
 exact ⟨h1, by rw [Nat.pow_succ, ← Nat.div_div_eq_div_mul, h1]⟩
def cy (b A B k : Nat) : Nat := (A % b ^ k + B % b ^ k) / b ^ k
theorem qqa (b A B : Nat) : cy b A B 0 = 0 := by simp [cy, Nat.mod_one]
theorem u2l {b A B k : Nat} (hb : 2 ≤ b) : cy b A B k ≤ 1 := by
 have hp : 0 < b ^ k := Nat.pow_pos (by omega)
 have h1 := Nat.mod_lt A hp
 have h2 := Nat.mod_lt B hp
 unfold cy
 have : (A % b ^ k + B % b ^ k) / b ^ k < 2 := by rw [Nat.div_lt_iff_lt_mul hp]; omega
 omega
theorem qng {b A B k : Nat} (hb : 2 ≤ b) : cy b A B (k + 1) = (cy b A B k + dig b A k + dig b B k) / b := by
 unfold cy
 rw [q5q b A, q5q b B]
 have e : A % b ^ k + b ^ k * dig b A k + (B % b ^ k + b ^ k * dig b B k) = (A % b ^ k + B % b ^ k) + b ^ k * (dig b A k + dig b B k) := by rw [Nat.mul_add]; omega
 rw [e, (step hb).2, Nat.add_assoc]
theorem qm1 {b A B k : Nat} (hb : 2 ≤ b) : (cy b A B k + dig b A k + dig b B k) % b = dig b (A + B) k := by
 have e : dig b (A + B) k = ((A % b ^ k + B % b ^ k) + b ^ k * (dig b A k + dig b B k)) / b ^ k % b := by
  rw [← qwi (Nat.lt_succ_self k) hb]
  unfold dig
  rw [show (A + B) % b ^ (k + 1) = (A % b ^ (k + 1) + B % b ^ (k + 1)) % b ^ (k + 1) from Nat.add_mod ..]
  rw [q5q b A, q5q b B]
  rw [show A % b ^ k + b ^ k * dig b A k + (B % b ^ k + b ^ k * dig b B k) = (A % b ^ k + B % b ^ k) + b ^ k * (dig b A k + dig b B k) by rw [Nat.mul_add]; omega]
  rw [Nat.pow_succ, Nat.mod_mul_right_div_self, Nat.mod_mod]
  rfl
 rw [e, (step hb).1, Nat.add_assoc]; rfl
def bw (b A B k : Nat) : Nat := if A % b ^ k < B % b ^ k then 1 else 0
theorem qld (b A B : Nat) : bw b A B 0 = 0 := by simp [bw, Nat.mod_one]
theorem qm2 {b A B k : Nat} (hb : 2 ≤ b) : bw b A B (k + 1) = if (dig b A k : Int) - bw b A B k - dig b B k < 0 then 1 else 0 := by
 have hp : 0 < b ^ k := Nat.pow_pos (by omega)
 have hx := Nat.mod_lt A hp
 have hy := Nat.mod_lt B hp
 have hle : ∀ a c : Nat, a < c → b ^ k * a + b ^ k ≤ b ^ k * c := fun a c h => by
  have : b ^ k * (a + 1) ≤ b ^ k * c := Nat.mul_le_mul_left _ h
  rwa [Nat.mul_add, Nat.mul_one] at this
 unfold bw
 rw [q5q b A, q5q b B]
 generalize A % b ^ k = x at hx ⊢
 generalize B % b ^ k = y at hy ⊢
 by_cases h1 : x < y
 ·rw [if_pos h1]
  by_cases h2 : dig b A k ≤ dig b B k
  ·rw [if_pos (by rcases Nat.eq_or_lt_of_le h2 with h3 | h3; rw [h3]; omega; have := hle _ _ h3; omega), if_pos (by omega)]
  ·rw [if_neg (by have := hle _ _ (show dig b B k < dig b A k by omega); omega), if_neg (by omega)]
 ·rw [if_neg h1]
  by_cases h2 : dig b A k < dig b B k
  ·rw [if_pos (by have := hle _ _ h2; omega), if_pos (by omega)]
  ·rw [if_neg (by rcases Nat.eq_or_lt_of_le (Nat.le_of_not_lt h2) with h3 | h3; rw [h3]; omega; have := hle _ _ h3; omega), if_neg (by omega)]
theorem qw2 {p q r x y : Nat} (hp : 0 < p) (hx : x < p) (hy : y < p) (h : p * r + y ≤ p * q + x) : (p * q + x - (p * r + y)) / p + r + (if x < y then 1 else 0) = q := by
 have hrq : r ≤ q := by
  rcases Nat.lt_or_ge q r with h1 | h1
  ·have := Nat.mul_le_mul_left p h1
   rw [Nat.mul_succ] at this; omega
  ·exact h1
 obtain ⟨d, rfl⟩ := Nat.le.dest hrq
 rw [Nat.mul_add] at h ⊢
 by_cases h1 : x < y
 ·rw [if_pos h1]
  cases d with
  | zero => omega
  | succ d =>
   rw [Nat.mul_succ] at h ⊢
   rw [show p * r + (p * d + p) + x - (p * r + y) = p * d + (p + x - y) by omega, Nat.mul_add_div hp, Nat.div_eq_of_lt (by omega)]; omega
 ·rw [if_neg h1, show p * r + p * d + x - (p * r + y) = p * d + (x - y) by omega, Nat.mul_add_div hp, Nat.div_eq_of_lt (by omega)]; omega
theorem qoj {b A B k : Nat} (hb : 2 ≤ b) (hAB : B ≤ A) : (dig b (A - B) k : Int) = if (dig b A k : Int) - bw b A B k - dig b B k < 0 then (dig b A k : Int) - bw b A B k - dig b B k + b else (dig b A k : Int) - bw b A B k - dig b B k := by
 have hp : 0 < b ^ k := Nat.pow_pos (by omega)
 have ha := q2z hb A k
 have hb' := q2z hb B k
 have hw : bw b A B k ≤ 1 := by unfold bw; split <;> omega
 have hq : (A - B) / b ^ k + B / b ^ k + bw b A B k = A / b ^ k := by
  have e1 := Nat.div_add_mod A (b ^ k)
  have e2 := Nat.div_add_mod B (b ^ k)
  have := qw2 hp (Nat.mod_lt A hp) (Nat.mod_lt B hp) (q := A / b ^ k) (r := B / b ^ k) (by rw [e1, e2]; exact hAB)
  rw [e1, e2] at this
  exact this
 have e : ((dig b (A - B) k : Nat) : Int) = ((dig b A k : Int) - bw b A B k - dig b B k) % (b : Int) := by
  unfold dig
  generalize (A - B) / b ^ k = u at hq ⊢
  generalize A / b ^ k = x at hq ⊢
  generalize B / b ^ k = y at hq ⊢
  generalize bw b A B k = z at hq ⊢
  obtain rfl : x = u + y + z := hq.symm
  rw [Int.natCast_emod, Int.natCast_emod, Int.natCast_emod, show ((u : Nat) : Int) = ((u + y + z : Nat) : Int) - (z : Int) - (y : Int) by omega]
  rw [Int.sub_emod, Int.sub_emod ((u + y + z : Nat) : Int)]
  conv => rhs; rw [Int.sub_emod, Int.sub_emod (((u + y + z : Nat) : Int) % b), Int.emod_emod_of_dvd _ (Int.dvd_refl _), Int.emod_emod_of_dvd _ (Int.dvd_refl _)]
 rw [e]
 split
 ·rename_i h
  rw [← Int.add_emod_right]
  exact Int.emod_eq_of_lt (by omega) (by omega)
 ·rename_i h
  exact Int.emod_eq_of_lt (by omega) (by omega)
def qfv (k i : Nat) (f g : Nat → Nat) : List Value := (List.range k).map fun j => .int .i64 ((if j < i then f j else g j : Nat) : Int)
def cel (k : Nat) (f : Nat → Nat) : List Value := (List.range k).map fun j => .int .i64 ((f j : Nat) : Int)
theorem qq8 (k f) : (cel k f).length = k := by simp [cel]
theorem qd6 (k i f g) : (qfv k i f g).length = k := by simp [qfv]
theorem qmc {k f j} (h : j < k) : (cel k f)[j]? = some (.int .i64 ((f j : Nat) : Int)) := by simp [cel, h]
theorem qcw {k i f g j} (h : j < k) : (qfv k i f g)[j]? = some (.int .i64 ((if j < i then f j else g j : Nat) : Int)) := by simp [qfv, h]
theorem qlu {k i f g} (h : i < k) : (qfv k i f g)[i]? = some (.int .i64 ((g i : Nat) : Int)) := by rw [qcw h, if_neg (Nat.lt_irrefl _)]
theorem qfj (k f g) : qfv k 0 f g = cel k g := by simp [qfv, cel]
theorem qmy (k f g) : qfv k k f g = cel k f := by
 unfold qfv cel
 refine List.map_congr_left fun j hj => ?_
 rw [if_pos (List.mem_range.1 hj)]
theorem qrf {k i f g} {x : Value} (h : x = .int .i64 ((f i : Nat) : Int)) : (qfv k i f g).set i x = qfv k (i + 1) f g := by
 refine List.ext_getElem? fun j => ?_
 by_cases hj : j < k
 ·rw [qcw hj, List.getElem?_set, qd6]
  by_cases e : i = j
  ·subst e; rw [if_pos rfl, if_pos hj, if_pos (Nat.lt_succ_self _), h]
  ·rw [if_neg e, qcw hj]
   by_cases h1 : j < i
   ·rw [if_pos h1, if_pos (by omega)]
   ·rw [if_neg h1, if_neg (by omega)]
 ·rw [List.getElem?_eq_none (by rw [List.length_set, qd6]; omega), List.getElem?_eq_none (by rw [qd6]; omega)]
theorem qci (k : Nat) : List.replicate k (Value.int .i64 0) = cel k (fun _ => 0) := by
 refine List.ext_getElem? fun j => ?_
 by_cases hj : j < k
 ·rw [qmc hj, List.getElem?_replicate, if_pos hj]; rfl
 ·rw [List.getElem?_eq_none (by simpa using hj), List.getElem?_eq_none (by rw [qq8]; omega)]
theorem qr1 {k m f} (h : m ≤ k) : (cel k f).take m = cel m f := by
 unfold cel
 rw [← List.map_take, List.take_range, Nat.min_eq_left h]
theorem qx0 {k f} : ∀ u ∈ cel k f, u.oneCell' = true := fun u hu => by
 obtain ⟨j, _, rfl⟩ := List.mem_map.1 hu; rfl
theorem qss (k f) : cel (k + 1) f = cel k f ++ [.int .i64 ((f k : Nat) : Int)] := by simp [cel, List.range_succ]
end Go.Num
namespace Go.Wk
open Go
section
variable {P : Program} {n : Sz} {L : List (Nat × Value)} {w0 : World} {F0 : q01} {K0 : List Nat} {F : q01} {G : List Grp} {a : Act} {w : World} {o o2 : Oper} {ops : Array Oper} {rest : List Oper} {Q : Exit → Act → World → Prop}
theorem q8k (S : St n L w0 F0 K0 F G a w) {j dj : Nat} {want : Bool} (hg : o.guard = some (j, want)) (hj : (ops[j]?).bind (·.dst) = some dj) (hb : look L dj = some undef) : Region.wanted o (yielded ops a.tmps) = false := by
 have hyv : yielded ops a.tmps j = none := by simp [yielded, hj, S.fr.get _ _ hb, undef]
 simp [Region.wanted, hg, hyv]
theorem qo5 {j dj d : Nat} {want : Bool} (S : St n L w0 F0 K0 F G a w) (hg : o.guard = some (j, want)) (hj : (ops[j]?).bind (·.dst) = some dj) (hb : look L dj = some undef) (hd : o.dst = some d) (hn : Nat.blt d n.sz = true)
  (k : ∀ a', St n ((d, undef) :: L) w0 F0 K0 F G a' w → wpList P ops Q rest a' w) : wpList P ops Q (o :: rest) a w := by
 unfold wpList
 rw [q8k S hg hj hb, if_neg (by simp), hd]
 exact k _ (S.put hn undef)
theorem qve {x y : Operand} {p q : Bool} {t yt : TypeId} [ht : Und P t .bool] (S : St n L w0 F0 K0 F G a w) (ho : o.op = .binOp .eql t x y yt) (hx : ev L x = some (.bool p)) (hy : ev L y = some (.bool q)) : SV P o a w (.bool (p == q)) := by
 have h1 : (eqGuard .eql t x y (.bool p) (.bool q)).run P w = .ok () w := by rw [eqGuard_at_bool]; rfl
 have h2 : (binOp .eql t (.bool p) (.bool q)).run P w = .ok (.bool (p == q)) w := run_eql_bool w t p q ht.h
 unfold SV execOp
 rw [ho]
 simp [S.fr.eval hx, S.fr.eval hy, h1, h2]
theorem qup {x y : Operand} {p q : Bool} {t yt : TypeId} [ht : Und P t .bool] (S : St n L w0 F0 K0 F G a w) (ho : o.op = .binOp .neq t x y yt) (hx : ev L x = some (.bool p)) (hy : ev L y = some (.bool q)) : SV P o a w (.bool (p != q)) := by
 have h1 : (eqGuard .neq t x y (.bool p) (.bool q)).run P w = .ok () w := by rw [eqGuard_at_bool]; rfl
 have h2 : (binOp .neq t (.bool p) (.bool q)).run P w = .ok (.bool (p != q)) w := run_neq_bool w t p q ht.h
 unfold SV execOp
 rw [ho]
 simp [S.fr.eval hx, S.fr.eval hy, h1, h2]
theorem qb0 {x y : Operand} {ao : Option Addr} {m c : Nat} {t yt e : TypeId} [ht : Und P t (.slice e)] (S : St n L w0 F0 K0 F G a w) (ho : o.op = .binOp .eql t x y yt) (hx : ev L x = some (.slice ao m c)) (hy : ev L y = some (.slice none 0 0)) : SV P o a w (.bool ao.isNone) := by
 unfold SV execOp
 rw [ho]
 have h1 : (eqGuard .eql t x y (.slice ao m c) (.slice none 0 0)).run P w = .ok () w := rfl
 simp [S.fr.eval hx, S.fr.eval hy, h1, binOp, run_equal_slice_nil w t e ao m c ht.h]
theorem qo9 {x y : Operand} {p q : Nat} {k : IntKind} {ts : Array TypeId} (S : St n L w0 F0 K0 F G a w) (ho : o.op = .call { callee := .builtin .max, args := #[x, y], argTypes := ts }) (hx : ev L x = some (.int k (Int.ofNat p))) (hy : ev L y = some (.int k (Int.ofNat q))) :
  SV P o a w (.int k ((max p q : Nat) : Int)) := by
 have e : (if (q : Int) > p then (q : Int) else p) = ((max p q : Nat) : Int) := by split <;> omega
 unfold SV execOp
 rw [ho]
 simp [resolve, invoke, builtin, S.fr.eval hx, S.fr.eval hy, Builtin.max_, Builtin.max2]
 rw [← e]
 split <;> split <;> first | rfl | omega
theorem qmu {x y : Operand} {q : Int} {k : IntKind} {ts : Array TypeId} (S : St n L w0 F0 K0 F G a w) (ho : o.op = .call { callee := .builtin .max, args := #[x, y], argTypes := ts }) (hx : ev L x = some (.int k 0)) (hy : ev L y = some (.int k q)) :
  SV P o a w (.int k ((q.toNat : Nat) : Int)) := by
 have e : (if q > 0 then q else 0) = ((q.toNat : Nat) : Int) := by split <;> omega
 unfold SV execOp
 rw [ho]
 simp [resolve, invoke, builtin, S.fr.eval hx, S.fr.eval hy, Builtin.max_, Builtin.max2]
 split <;> omega
theorem qma {x y : Operand} {vs : List Value} {k : IntKind} {i m by_ : Nat} {t e : TypeId} {z u : Value} [ht : Und P t (.array m e)] [he : One P e] [hi : Inf P e z 1 by_] (S : St n L w0 F0 K0 F G a w) (ho : o.op = .index t x y) (hx : ev L x = some (.agg ⟨vs⟩)) (hy : ev L y = some (.int k (Int.ofNat i)))
  (hlt : i < m) (hv : vs[i]? = some u) : SV P o a w u := by
 have h2 : (part e ⟨vs⟩ (i * 1)).run P w = .ok u w := by
  simp [part, q3r he, hv]
 unfold SV execOp
 rw [ho]
 simp only [Nat.mul_one] at h2
 simp [S.fr.eval hx, S.fr.eval hy, Instr.index, asIntOf, run_underlying ht.h, run_sizeOf hi, hlt, h2]
theorem q12 {x y : Operand} {p q : Nat} {t yt : TypeId} (S : St n L w0 F0 K0 F G a w) (ho : o.op = .binOp .sub t x y yt) (hx : ev L x = some (.int .i64 (Int.ofNat p))) (hy : ev L y = some (.int .i64 (Int.ofNat q)))
  (hb : q ≤ p ∧ p ≤ 9223372036854775807) : SV P o a w (.int .i64 ((p - q : Nat) : Int)) := by
 have := q1a (P := P) S ho hx hy (by simp only [Int.ofNat_eq_natCast]; omega)
 rw [show (Int.ofNat p - Int.ofNat q) = ((p - q : Nat) : Int) by simp only [Int.ofNat_eq_natCast]; omega] at this
 exact this
theorem q79 {x y z : Operand} {ao : Option Addr} {m c i j : Nat} {k k' : IntKind} {t e : TypeId} {zv : Value} {sz by_ : Nat} [ht : Und P t (.slice e)] [hi : Inf P e zv sz by_] (S : St n L w0 F0 K0 F G a w) (ho : o.op = .slice t x none (some y) (some z))
  (hx : ev L x = some (.slice ao m c)) (hy : ev L y = some (.int k (Int.ofNat i))) (hz : ev L z = some (.int k' (Int.ofNat j))) (h1 : i ≤ j) (h2 : j ≤ c) : SV P o a w (.slice ao i j) := by
 have hb : (Instr.sliceBounds true m c none (some (.int k (Int.ofNat i))) (some (.int k' (Int.ofNat j)))).run P w = .ok (0, i, j) w := by
  simp [Instr.sliceBounds, Instr.sliceBound, asIntOf, h1, h2]
 have ha : ao.map (fun a : Addr => a.add (0 * sz)) = ao := by cases ao <;> simp [Addr.add]
 unfold SV execOp
 rw [ho]
 simp only [Option.map_none, Option.map_some, S.fr.eval hx, S.fr.eval hy, S.fr.eval hz]
 simp only [Instr.sliceAt, Instr.slice, Sem.run_bind, run_underlying ht.h, Result.andThen_ok, hb, run_sizeOf hi, ha]
 simp
theorem qcx (z : Value) (k : Nat) : (madeCells #[z] k).toList = List.replicate k z := by
 simp only [madeCells, Array.toList_map, Array.toList_range]
 refine List.ext_getElem (by simp) fun i h1 h2 => ?_
 simp [Nat.mod_one]
theorem qco {d : Nat} {t e : TypeId} {x y : Operand} {z : Value} {by_ q : Nat} {k1 k2 : IntKind} [ht : Und P t (.slice e)] [hi : Inf P e z 1 by_] (S : St n L w0 F0 K0 F G a w) (hg : o.guard = none) (hd : o.dst = some d) (hn : Nat.blt d n.sz = true)
  (ho : o.op = .makeSlice t x y) (hx : ev L x = some (.int k1 (Int.ofNat q))) (hy : ev L y = some (.int k2 (Int.ofNat q))) (hz : z.cells = #[z]) (hb : by_ * q ≤ 281474976710656) (h63 : q ≤ 9223372036854775807)
  (k : ∀ b a' w', q0u e 1 (.slice (some ⟨b, 0, none⟩) q q) q (List.replicate q z) [(b, .cells ⟨List.replicate q z⟩ e (0, 0))] → St n ((d, .slice (some ⟨b, 0, none⟩) q q) :: L) w0 F0 K0 F ([(b, .cells ⟨List.replicate q z⟩ e (0, 0))] :: G) a' w' → wpList P ops Q rest a' w') : wpList P ops Q (o :: rest) a w := by
 refine wpList_plain hg fun K hK => ?_
 obtain ⟨i, i1, i2, i3, i4⟩ := hi.h
 have hr := run_make (P := P) w t e i z ht.h i1 i2 k1 k2 (Int.ofNat q) (Int.ofNat q) (Int.natCast_nonneg q) (Int.le_refl _) (by rw [i4]; have h9 : ((by_ * q : Nat) : Int) ≤ ((281474976710656 : Nat) : Int) := Int.ofNat_le.2 hb; rw [Int.natCast_mul] at h9; exact h9) (Int.ofNat_le.2 h63)
 have hc : madeCells z.cells ((Int.ofNat q).toNat * i.size) = ⟨List.replicate q z⟩ := by
  rw [i3, Nat.mul_one, hz]
  exact Array.ext' (qcx z q)
 rw [hc] at hr
 unfold Oper.wp execOp
 rw [ho]
 simp only [Int.toNat_natCast, Int.ofNat_eq_natCast] at hr
 simp only [S.fr.eval hx, S.fr.eval hy, Sem.run_bind, Int.ofNat_eq_natCast, hr, Result.andThen_ok, Sem.run_pure, Oper.upon_value, hd]
 exact hK _ _ (k _ _ _ ⟨by simp, .inr ⟨_, _, _, rfl, rfl, Nat.le_refl _, by simp only [maxLen]; exact h63, by simp, by simp⟩⟩ (S.alloc _ hn _))
theorem q0u.at {e sz q : Nat} {v : Value} {xs : List Value} {g : Grp} (h : q0u e sz v q xs g) : ∃ ao cap, v = .slice ao q cap ∧ q ≤ cap ∧ cap ≤ maxLen ∧ (0 < q → ∃ b, ao = some ⟨b, 0, none⟩) := by
 rcases h.2 with ⟨rfl, rfl, _⟩ | ⟨b, cap, cur, rfl, _, h1, h2, _⟩
 ·exact ⟨none, 0, rfl, Nat.le_refl _, Nat.zero_le _, fun h => absurd h (by omega)⟩
 ·exact ⟨_, cap, rfl, h1, h2, fun _ => ⟨b, rfl⟩⟩
theorem q0u.block {e q b cap : Nat} {xs : List Value} {g : Grp} (h : q0u e 1 (.slice (some ⟨b, 0, none⟩) q cap) q xs g) :
  ∃ ex : List Value, g = [(b, .cells ⟨xs ++ ex⟩ e (0, 0))] ∧ q ≤ cap ∧ cap ≤ maxLen ∧ xs.length = q ∧ (xs ++ ex).length = cap := by
 rcases h.2 with ⟨h1, _⟩ | ⟨b', cap', cur, h1, h2, h3, h4, h5, h6⟩
 ·simp at h1
 ·simp only [Value.slice.injEq, Option.some.injEq, Addr.mk.injEq] at h1
  obtain ⟨⟨rfl, _⟩, _, rfl⟩ := h1
  rw [Nat.mul_one] at h6 h5
  refine ⟨cur.toList.drop q, ?_, h3, h4, by simpa using h.1, ?_⟩
  ·rw [← h6, List.take_append_drop, h2]
  ·rw [← h6, List.take_append_drop]; simpa using h5
theorem qbn {x : Operand} {t e : TypeId} {b cap q i : Nat} {v : Value} {xs : List Value} {g : Grp} {R} [ht : One P t] (S : St n L w0 F0 K0 F G a w) (ho : o.op = .load t x) (hx : ev L x = some (.pointer (some ⟨b, 0 + i * 1, none⟩)))
  (hown : q0u e 1 (.slice (some ⟨b, 0, none⟩) q cap) q xs g) [hN : Nth G g R] (hc : xs[i]? = some v) : SV P o a w v := by
 obtain ⟨ex, rfl, h1, h2, h3, h4⟩ := hown.block
 obtain ⟨G1, G2, e1, _⟩ := hN.h
 have hh := (S.tr.own (b, _) (by rw [e1]; simp only [List.flatten_append, qaF]; exact List.mem_append_right _ (List.mem_append_left _ (List.mem_singleton.2 rfl)))).1
 refine qh1 S ho hx (cell_of_heap hh ?_)
 have := (List.getElem?_eq_some_iff.1 hc).1
 simp only [Nat.zero_add, Nat.mul_one, List.getElem?_toArray]
 rw [List.getElem?_append_left this]
 exact hc
theorem q1o {t e : TypeId} {x y : Operand} {z : Value} {by_ b cap q i : Nat} {v : Value} {xs : List Value} {g : Grp} {R} [hi : Inf P t z 1 by_] (S : St n L w0 F0 K0 F G a w) (hg : o.guard = none) (ho : o.op = .store t x y) (hd : o.dst = none)
  (hx : ev L x = some (.pointer (some ⟨b, 0 + i * 1, none⟩))) (hy : ev L y = some v) (hown : q0u e 1 (.slice (some ⟨b, 0, none⟩) q cap) q xs g) [hN : Nth G g R] (h1 : v.oneCell' = true) (hl : i < q)
  (k : ∀ g' w', q0u e 1 (.slice (some ⟨b, 0, none⟩) q cap) q (xs.set i v) g' → St n L w0 F0 K0 F (R g') a w' → wpList P ops Q rest a w') : wpList P ops Q (o :: rest) a w := by
 obtain ⟨ex, rfl, h2, h3, h4, h5⟩ := hown.block
 obtain ⟨G1, G2, e1, hR⟩ := hN.h
 have : Has G b (.cells ⟨xs ++ ex⟩ e (0, 0)) R := ⟨G1, G2, e1, hR⟩
 have hx' : ev L x = some (.pointer (some ⟨b, i, none⟩)) := by rw [hx]; simp
 refine q0e S hg ho hd hx' hy h1 (by rw [h5]; omega) fun w' S' => k _ w' ⟨by simpa using h4, .inr ⟨b, cap, _, rfl, rfl, h2, h3, by simpa using h5, ?_⟩⟩ S'
 show List.take (q * 1) ((xs ++ ex).set i v) = xs.set i v
 rw [List.set_append_left _ _ (by omega), Nat.mul_one, List.take_append_of_le_length (by simp; omega), List.take_of_length_le (by simp; omega)]
theorem qa7 {t ty e : TypeId} {z : Value} {sz by_ : Nat} (ht : Und P t (.slice e)) (hi : Inf P e z sz by_) (base ao : Option Addr) (q cap c : Nat) (h : q ≤ cap) :
  (Builtin.append_ #[t, t] ty #[.slice base q cap, .slice ao 0 c]).run P w = .ok (.slice base q cap) w := by
 have hz : ∀ u : Option Addr, (Builtin.firstCells sz 0 (.slice u 0 c)).run P w = .ok #[] w := by
  intro u
  cases u with
  | none => rfl
  | some a => simp [Builtin.firstCells, loadCells, loadCellsFrom]
 simp only [Builtin.append_]
 simp [run_underlying ht.h, run_sizeOf hi, Builtin.lenOf, h, hz]
 cases base <;> simp [storeCells]
theorem q1u {d : Nat} {t e : TypeId} {s x : Operand} {z : Value} {sz by_ : Nat} {v : Value} {q m c : Nat} {ao : Option Addr} {cs news : List Value} {g : Grp} {R} [ht : Und P t (.slice e)] [hi : Inf P e z sz by_] (S : St n L w0 F0 K0 F G a w)
  (hg : o.guard = none) (hd : o.dst = some d) (hn : Nat.blt d n.sz = true) (ho : o.op = .call { callee := .builtin .append, args := #[s, x], argTypes := #[t, t] }) (hs : ev L s = some v) (hx : ev L x = some (.slice ao m c)) (hown : q0u e sz v q cs g) [hN : Nth G g R]
  (hz : z.cells.toList.length = sz) (hl : news.length = m * sz) (hpos : 0 < m → ∃ b off, ao = some ⟨b, off, none⟩ ∧ q2v F b off news) (h1 : ∀ u ∈ news, u.oneCell' = true)
  (hlen : (q + m) * by_ ≤ 140737488355328) (h63 : q + m ≤ 9223372036854775807)
  (k : ∀ v' g' a' w', q0u e sz v' (q + m) (cs ++ news) g' → St n ((d, v') :: L) w0 F0 K0 F (R g') a' w' → wpList P ops Q rest a' w') : wpList P ops Q (o :: rest) a w := by
 refine wpList_plain hg fun K hK => ?_
 obtain ⟨G1, G2, e1, hR⟩ := hN.h
 have e2 : a.eval s = v := S.fr.eval hs
 have e3 : a.eval x = .slice ao m c := S.fr.eval hx
 unfold Oper.wp execOp
 rw [ho]
 by_cases hm : m = 0
 ·subst hm
  have hnw : news = [] := List.eq_nil_of_length_eq_zero (by simpa using hl)
  subst hnw
  obtain ⟨bo, cap, rfl, hc, _⟩ := hown.at
  simp [resolve, invoke, builtin, e2, e3, qa7 ht hi, hc, Oper.upon_value, hd]
  have hG : R g = G := by rw [hR, e1]
  have S2 := S.put hn (.slice bo q cap)
  rw [← hG] at S2
  exact hK _ _ (k _ g _ _ (by simpa using hown) S2)
 ·obtain ⟨b, off, rfl, hcs⟩ := hpos (by omega)
  obtain ⟨v', w2, g', hr, ho', S2⟩ := S.append e1 ht hi hz hown ⟨b, off, none⟩ m c news hl (fun j u hj => by rw [addr_add]; exact S.cel (hcs j u hj)) h1 hlen (by simp only [maxLen]; exact h63) (by omega) (ty := o.type)
  simp [resolve, invoke, builtin, e2, e3, hr, Oper.upon_value, hd]
  refine hK _ _ (k v' g' _ w2 ho' ⟨S2.fr.put v' hn, ?_⟩)
  rw [hR]
  exact S2.tr
end
