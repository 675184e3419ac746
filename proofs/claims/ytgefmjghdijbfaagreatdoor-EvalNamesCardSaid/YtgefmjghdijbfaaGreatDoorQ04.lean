/- Walks. -/
import Derived.Test.YtgefmjghdijbfaaGreatDoorQ03
import Derived.Below
namespace Go.Wk
open Go
set_option linter.unusedSimpArgs false
set_option linter.unusedVariables false
section
variable {P : Program} {ops : Array Oper} {Q : Exit → Act → World → Prop}
def Qn (Q : Exit → Act → World → Prop) : Exit → Act → World → Prop
 | .normal, a, w => Q .normal a w
 | _, _, _ => False
theorem not_letsOut : ¬ LetsOut (Qn Q) := fun ⟨_, _, h⟩ => h
def YA (P : Program) (ops : Array Oper) (o : Oper) (v : Value) (a : Act) (w : World) : Prop :=
 (Region.wanted o (yielded ops a.tmps) = true ∧ (execOp a.eval o).run P w = .ok (.value v) w) ∨ (Region.wanted o (yielded ops a.tmps) = false ∧ v = undef)
theorem YA.same {o : Oper} {v : Value} {a a' : Act} {w : World} (hy : YA P ops o v a w) (he : execOp a'.eval o = execOp a.eval o)
  (hw : Region.wanted o (yielded ops a'.tmps) = Region.wanted o (yielded ops a.tmps)) : YA P ops o v a' w := by
 unfold YA at *; rw [he, hw]; exact hy
theorem YA.wpOp {i : Nat} {o : Oper} {v : Value} {a : Act} {w : World} (hi : ops[i]? = some o) (hy : YA P ops o v a w) {K : Act → World → Prop} {Q} (h : K (a.put o.dst v) w) : wpOp P ops Q i K a w := by
 unfold Go.wpOp
 simp only [hi]
 rcases hy with ⟨hw, hv⟩ | ⟨hw, rfl⟩
 ·simp only [hw, if_true]
  refine .inl ?_
  unfold Oper.wp
  rw [hv]
  exact h
 ·simp only [hw, Bool.false_eq_true, if_false]; exact h
def RO {α : Type} (s : Sem α) : Prop := ∀ P w x w', s.run P w = .ok x w' → w' = w
theorem RO.pure {α : Type} (a : α) : RO (Pure.pure a : Sem α) := fun P w x w' h => by simp at h; exact h.2.symm
theorem RO.bind {α β : Type} {s : Sem α} {f : α → Sem β} (h : RO s) (hf : ∀ a, RO (f a)) : RO (s >>= f) := fun P w x w' hr => by
 rw [Sem.run_bind] at hr
 cases hs : s.run P w with
 | ok a w1 =>
  rw [hs, Result.andThen_ok] at hr
  rw [hf a P w1 x w' hr, h P w a w1 hs]
 | halt e w1 => rw [hs] at hr; cases hr
theorem RO.ite {α : Type} {c : Prop} [Decidable c] {s t : Sem α} (h : RO s) (h2 : RO t) : RO (if c then s else t) := by split <;> assumption
theorem RO.stuck {α : Type} (m : String) : RO (stuck m : Sem α) := fun P w x w' h => by simp at h
theorem RO.unsup {α : Type} (u : Unsupported) : RO (unsupported u : Sem α) := fun P w x w' h => by simp at h
theorem RO.und (t : TypeId) : RO (underlying t) := fun P w x w' h => by
 simp only [underlying, Sem.run_bind, run_program, Result.andThen_ok] at h
 split at h
 ·exact (RO.pure _) P w x w' h
 ·exact (RO.stuck _) P w x w' h
theorem RO.info (t : TypeId) : RO (typeInfo t) := fun P w x w' h => by
 simp only [typeInfo, Sem.run_bind, run_program, Result.andThen_ok] at h
 split at h
 ·exact (RO.pure _) P w x w' h
 ·exact (RO.stuck _) P w x w' h
theorem RO.size (t : TypeId) : RO (sizeOf t) := (RO.info t).bind fun _ => RO.pure _
theorem RO.agg (t : TypeId) : RO (isAgg t) := (RO.und t).bind fun d => by cases d <;> exact RO.pure _
theorem RO.load (a : Addr) : RO (load a) := fun P w x w' h => by
 simp only [run_load] at h
 split at h
 ·cases h; rfl
 ·split at h <;> cases h; rfl
theorem RO.loadFrom (a : Addr) : ∀ (n i : Nat) (acc : Array Value), RO (loadCellsFrom a i n acc)
 | 0, _, _ => RO.pure _
 | n + 1, i, _ => (RO.load _).bind fun _ => RO.loadFrom a n (i + 1) _
theorem RO.loadVar (t : TypeId) (a : Addr) : RO (loadVar t a) := (RO.agg t).bind fun _ => RO.ite ((RO.size t).bind fun n => (RO.loadFrom a n 0 _).bind fun _ => RO.pure _) (RO.load a)
theorem RO.sure (v : Value) : RO (Instr.sureAddr v) := by
 unfold Instr.sureAddr; split
 ·exact RO.pure _
 ·exact RO.stuck _
def quietOp : Op → Bool
 | .move _ | .assign _ | .load .. | .extract .. | .makeFunc .. => true
 | .indexAddr .. | .fieldAddr .. | .index .. => true
 | _ => false
theorem RO.panic {α : Type} (k : IntKind) (x y : Int) (c : BoundsCode) : RO (boundsPanic k x y c : Sem α) := fun P w r w' h => by
 have key : ∀ b : Bool, (runtimePanic (RuntimeError.bounds (IntKind.i64.wrap x) y b c) : Sem α).run P w = .ok r w' → False := fun b h => by
  unfold runtimePanic at h
  simp [run_goPanic] at h
 have key2 : ∀ (s : Sem Bool), (s >>= fun b => (runtimePanic (RuntimeError.bounds (IntKind.i64.wrap x) y b c) : Sem α)).run P w = .ok r w' → False := fun s h => by
  rw [Sem.run_bind] at h
  cases hs : s.run P w with
  | ok b w1 =>
   rw [hs, Result.andThen_ok] at h
   unfold runtimePanic at h
   simp [run_goPanic] at h
  | halt e w1 => rw [hs] at h; cases h
 unfold boundsPanic at h
 dsimp only at h
 split at h
 ·exact (key2 _ h).elim
 ·exact (key2 _ h).elim
theorem RO.int (v : Value) : RO (asIntOf v) := by
 unfold asIntOf; split
 ·exact RO.pure _
 ·exact RO.unsup _
 ·exact RO.stuck _
theorem RO.shape (b : Nat) : RO (shape b) := fun P w x w' h => by simp at h; exact h.2.symm
theorem RO.prog : RO program := fun P w x w' h => by simp at h; exact h.2.symm
theorem RO.part (t : TypeId) (cs : Array Value) (off : Nat) : RO (part t cs off) := by
 unfold Go.part
 refine (RO.agg t).bind fun b => RO.ite ((RO.size t).bind fun _ => RO.pure _) ?_
 split
 ·exact RO.pure _
 ·exact RO.stuck _
theorem RO.getView (b : Nat) : RO (do match ← getObj b with | .view a t => Pure.pure (some (a, t)) | _ => Pure.pure none : Sem (Option (Addr × TypeId))) := by
 refine RO.bind (fun P w x w' h => ?_) fun o => by split <;> exact RO.pure _
 simp only [getObj, Sem.run] at h
 split at h <;> cases h <;> rfl
theorem RO.view (b : Nat) : RO (viewAt b) := by
 unfold viewAt
 refine (RO.shape b).bind fun s => ?_
 split
 ·exact RO.pure _
 ·exact RO.getView b
theorem RO.byteOf (a : Addr) : RO (byteOf a) := by
 unfold Go.byteOf noView
 repeat (first | exact RO.pure _ | exact RO.stuck _ | exact RO.unsup _ | exact RO.panic _ _ _ _ | exact RO.und _ | exact RO.size _ | exact RO.sure _ | exact RO.int _ | exact RO.shape _ | exact RO.prog | exact RO.part _ _ _ | exact RO.view _ | (refine RO.bind ?_ fun _ => ?_) | (refine RO.ite ?_ ?_) | split | (dsimp only))
theorem RO.index (t : TypeId) (x i : Value) : RO (Instr.index t x i) := by
 unfold Instr.index
 repeat (first | exact RO.pure _ | exact RO.stuck _ | exact RO.unsup _ | exact RO.panic _ _ _ _ | exact RO.und _ | exact RO.size _ | exact RO.sure _ | exact RO.int _ | exact RO.shape _ | exact RO.prog | exact RO.part _ _ _ | exact RO.view _ | exact RO.byteOf _ | (refine RO.bind ?_ fun _ => ?_) | (refine RO.ite ?_ ?_) | split | (dsimp only))
theorem RO.indexAt (t : TypeId) (x i : Value) : RO (Instr.indexAt t x i) := by
 unfold Instr.indexAt
 repeat (first | exact RO.pure _ | exact RO.stuck _ | exact RO.unsup _ | exact RO.panic _ _ _ _ | exact RO.und _ | exact RO.size _ | exact RO.sure _ | exact RO.int _ | exact RO.shape _ | exact RO.prog | exact RO.part _ _ _ | exact RO.view _ | exact RO.byteOf _ | (refine RO.bind ?_ fun _ => ?_) | (refine RO.ite ?_ ?_) | split | (dsimp only))
theorem RO.fieldAt (t : TypeId) (x : Value) (f : Nat) : RO (Instr.fieldAt t x f) := by
 unfold Instr.fieldAt fieldPlace partAt
 repeat (first | exact RO.pure _ | exact RO.stuck _ | exact RO.unsup _ | exact RO.panic _ _ _ _ | exact RO.und _ | exact RO.size _ | exact RO.sure _ | exact RO.int _ | exact RO.shape _ | exact RO.prog | exact RO.part _ _ _ | exact RO.view _ | exact RO.byteOf _ | (refine RO.bind ?_ fun _ => ?_) | (refine RO.ite ?_ ?_) | split | (dsimp only))
theorem quiet_still {o : Oper} {ρ : Operand → Value} {w w' : World} {x : Next} (h : quietOp o.op = true) (hr : (execOp ρ o).run P w = .ok x w') : ∃ v, x = .value v ∧ w' = w := by
 have key : ∀ s : Sem Value, RO s → (do pure (Next.value (← s)) : Sem Next).run P w = .ok x w' → ∃ v, x = .value v ∧ w' = w := fun s hs h => by
  rw [Sem.run_bind] at h
  cases he : s.run P w with
  | ok v w1 =>
   rw [he, Result.andThen_ok, Sem.run_pure] at h
   cases h
   exact ⟨v, rfl, hs P w v _ he⟩
  | halt e w1 => rw [he] at h; cases h
 unfold execOp at hr
 cases ho : o.op <;> rw [ho] at h hr <;> simp only [quietOp] at h <;> try cases h
 case move x => simp at hr; exact ⟨_, hr.1.symm, hr.2.symm⟩
 case assign x => simp at hr; exact ⟨_, hr.1.symm, hr.2.symm⟩
 case load t a => exact key _ ((RO.sure _).bind fun a => RO.loadVar t a) hr
 case extract t i =>
  refine key _ ?_ hr
  unfold Instr.extract
  split
  ·split
   ·exact RO.pure _
   ·exact RO.stuck _
  ·exact RO.stuck _
 case makeFunc f a c => exact key _ (RO.pure _) hr
 case indexAddr t x i => exact key _ (RO.indexAt _ _ _) hr
 case fieldAddr t x f => exact key _ (RO.fieldAt _ _ _) hr
 case index t x i => exact key _ (RO.index _ _ _) hr
def Still (P : Program) (o : Oper) (a : Act) (w : World) : Prop := ∃ v, (execOp a.eval o).run P w = .ok (.value v) w
def YB (P : Program) (ops : Array Oper) (st : Bool) (o : Oper) (v : Value) (a : Act) (w : World) : Prop :=
 match st with | true => YA P ops o v a w | false => ∀ w, YA P ops o v a w
theorem YB.at {st o v a w} (h : YB P ops st o v a w) : YA P ops o v a w := by cases st <;> first | exact h | exact h w
theorem wp_quiet {o : Oper} {a : Act} {w : World} {K : Act → World → Prop} (hq : quietOp o.op = true) (h : o.wp P a w K (Qn Q)) : Still P o a w := by
 unfold Oper.wp at h
 cases hr : (execOp a.eval o).run P w with
 | ok x w' =>
  obtain ⟨v, rfl, rfl⟩ := quiet_still hq hr
  exact ⟨v, hr⟩
 | halt x w' => rw [hr] at h; cases x <;> simp only [Oper.upon] at h <;> exact h.elim
theorem wpOp_put {j : Nat} {oi oj : Oper} {v : Value} {w : World} (hj : ops[j]? = some oj) (hap : oi.apart ops oj = true)
  (hsi : ∀ cs b, oi.op ≠ .select cs b) (hsj : ∀ cs b, oj.op ≠ .select cs b) {K : Act → World → Prop} {a : Act} {st : Bool}
  (hy : YB P ops st oi v a w) (hst : st = true → quietOp oj.op = true)
  (h : wpOp P ops (Qn Q) j K (a.put oi.dst v) w) :
  wpOp P ops (Qn Q) j (fun a' w' => YB P ops st oi v a' w' ∧ K (a'.put oi.dst v) w') a w := by
 obtain ⟨h1, h2, h3⟩ := Oper.apart_spec hap
 have keep : ∀ u, ∀ w, YA P ops oi v a w → YA P ops oi v (a.put oj.dst u) w := fun u w hy =>
  hy.same (execOp_put oi hsi a oj.dst u h3) (wanted_put oi a oj.dst u h3)
 have keepB : ∀ u, YB P ops st oi v (a.put oj.dst u) w := fun u => by
  cases st
  ·exact fun w => keep u w (hy w)
  ·exact keep u w hy
 unfold wpOp at *
 simp only [hj] at *
 rw [wanted_put oj a oi.dst v h1] at h
 split
 ·rename_i hw
  simp only [hw, if_true] at h
  rcases h with h | h
  ·refine .inl ?_
   cases st with
   | false =>
    have keepA : ∀ u w', YB P ops false oi v (a.put oj.dst u) w' := fun u _ w => keep u w (hy w)
    unfold Oper.wp at *
    rw [execOp_put oj hsj a oi.dst v h1] at h
    generalize (execOp a.eval oj).run P w = r at *
    cases r with
    | ok n w' =>
     cases n <;> simp only [Oper.upon] at h ⊢
     case value u => exact ⟨keepA u _, by rw [← Act.put_comm a v u h2]; exact h⟩
     case skip => exact ⟨keepA _ _, by rw [← Act.put_comm a v undef h2]; exact h⟩
     case defer d =>
      refine ⟨fun w => (keep undef w (hy w)).same ?_ ?_, ?_⟩
      ·cases oj.dst <;> rfl
      ·cases oj.dst <;> rfl
      ·have := Act.put_comm ({ a with defers := d :: a.defers }) (y := oj.dst) v undef h2
       rw [← this, ← Act.put_defers]
       exact h
     case enter f args =>
      refine Calls.mono h fun e w'' he => ?_
      cases e <;> first
       | exact he.elim
       | exact absurd he not_letsOut
       | exact ⟨keepA _ _, by rw [← Act.put_comm a v _ h2]; exact he⟩
     case row row args => exact Rows.mono h fun u w'' he => ⟨keepA _ _, by rw [← Act.put_comm a v _ h2]; exact he⟩
    | halt x w' => cases x <;> simp only [Oper.upon] at h ⊢ <;> exact h.elim
   | true =>
    obtain ⟨u, hu⟩ := wp_quiet (hst rfl) h
    unfold Oper.wp at *
    rw [hu] at h
    rw [execOp_put oj hsj a oi.dst v h1] at hu
    rw [hu]
    rw [Oper.upon_value] at h ⊢
    exact ⟨keepB u, by rw [← Act.put_comm a v u h2]; exact h⟩
  ·exact absurd h.2 not_letsOut
 ·rename_i hw
  simp only [hw] at h
  exact ⟨keepB undef, by rw [← Act.put_comm a v undef h2]; exact h⟩
def twB (ops : Array Oper) : Nat → Nat → Nat → Bool
 | 0, _, _ => false
 | n + 1, j, i => match ops[j]? with
  | none => false
  | some oj => oj.after.any fun e => Region.binds .any e && (e.on == i || twB ops n e.on i)
def Closed (ops : Array Oper) (listed : Array Bool) : Prop :=
 ∀ (j : Nat) (oj : Oper), ops[j]? = some oj → listed.getD j false = true → ∀ e ∈ oj.after, Region.binds .any e = true → listed.getD e.on false = true
theorem tw_listed {listed : Array Bool} (hc : Closed ops listed) {i : Nat} : ∀ (n j : Nat), twB ops n j i = true →
  (∀ oj, ops[j]? = some oj → ∀ e ∈ oj.after, Region.binds .any e = true → listed.getD e.on false = true) → listed.getD i false = true
 | 0, _, h, _ => by cases h
 | n + 1, j, h, hl => by
  unfold twB at h
  split at h
  ·cases h
  ·rename_i oj hj
   obtain ⟨e, he, hb⟩ := Array.any_eq_true'.1 h
   simp only [Bool.and_eq_true, Bool.or_eq_true, beq_iff_eq] at hb
   have h1 := hl oj hj e he hb.1
   rcases hb.2 with h2 | h2
   ·rw [← h2]; exact h1
   ·exact tw_listed hc n e.on h2 fun ok hk e' he' hb' => hc e.on ok hk h1 e' he' hb'
theorem Closed.set {listed : Array Bool} (hc : Closed ops listed) {i : Nat} (hi : i ∈ Region.ready .any ops listed) : Closed ops (listed.setIfInBounds i true) := by
 obtain ⟨_, oi, hoi, hall⟩ := mem_ready.1 hi
 intro j oj hj hl e he hb
 by_cases hij : i = j
 ·subst hij
  have : oj = oi := Option.some.inj (hj.symm.trans hoi)
  subst this
  exact getD_set_true (hall e he hb)
 ·rw [getD_set_ne false hij] at hl
  exact getD_set_true (hc j oj hj hl e he hb)
def stOp : Op → Bool
 | .load .. | .lookup .. | .call _ => true
 | _ => false
def wpPre (P : Program) (ops : Array Oper) (w : World) (T : Act → Prop) : List Oper → Act → Prop
 | [], a => T a
 | o :: r, a => ∃ v, YB P ops (stOp o.op) o v a w ∧ wpPre P ops w T r (a.put o.dst v)
section
variable {n : Sz} {L : List (Nat × Value)} {w0 : World} {F0 : Heap} {K0 : List Nat} {F : Heap} {G : List Grp} {a : Act} {w : World} {T : Act → Prop} {rest : List Oper} {o : Oper}
theorem St.any (S : St n L w0 F0 K0 F G a w) (w' : World) : St n L w' (fun _ => none) [] (fun _ => none) [] a w' :=
 ⟨S.fr, At.tr (G := []) ⟨(fun _ _ h => by cases h), (fun _ h => by cases h), List.nodup_nil⟩⟩
theorem wpp_nil (h : T a) : wpPre P ops w T [] a := h
theorem wpp_v {d : Nat} {v : Value} (S : St n L w0 F0 K0 F G a w) (hg : o.guard = none) (hd : o.dst = some d) (hn : Nat.blt d n.sz = true) (hst : stOp o.op = false)
  (h : ∀ w', St n L w' (fun _ => none) [] (fun _ => none) [] a w' → SV P o a w' v) (k : ∀ a', St n ((d, v) :: L) w0 F0 K0 F G a' w → wpPre P ops w T rest a') : wpPre P ops w T (o :: rest) a := by
 refine ⟨v, ?_, ?_⟩
 ·rw [hst]
  exact fun w' => .inl ⟨by simp [Region.wanted, hg], h w' (S.any w')⟩
 ·rw [hd]; exact k _ (S.put hn v)
theorem wpp_s {d : Nat} {v : Value} (S : St n L w0 F0 K0 F G a w) (hg : o.guard = none) (hd : o.dst = some d) (hn : Nat.blt d n.sz = true) (hst : stOp o.op = true)
  (h : SV P o a w v) (k : ∀ a', St n ((d, v) :: L) w0 F0 K0 F G a' w → wpPre P ops w T rest a') : wpPre P ops w T (o :: rest) a := by
 refine ⟨v, ?_, ?_⟩
 ·rw [hst]
  exact .inl ⟨by simp [Region.wanted, hg], h⟩
 ·rw [hd]; exact k _ (S.put hn v)
end
end
def plcOk (P : Program) : List Field → List (Nat × Nat) → Prop
 | [], [] => True
 | f :: fs, p :: ps => f.offset = p.1 ∧ (∃ i, P.info? f.type = some i ∧ i.size = p.2) ∧ plcOk P fs ps
 | _, _ => False
class Plc (P : Program) (t : TypeId) (pl : outParam (List (Nat × Nat))) : Prop where
  h : ∃ fields : Array Field, P.underlying t = some (.struct fields) ∧ plcOk P fields.toList pl
theorem szH {P : Program} {t : TypeId} {z : Value} {sz by_ : Nat} (h : Inf P t z sz by_) : ∃ i, P.info? t = some i ∧ i.size = sz := by
 obtain ⟨i, h1, _, h3, _⟩ := h.h; exact ⟨i, h1, h3⟩
theorem run_places {P : Program} (w : World) : ∀ (fs : List Field) (pl : List (Nat × Nat)), plcOk P fs pl →
  (fs.mapM (fun f => do pure (f.offset, ← sizeOf f.type) : Field → Sem (Nat × Nat))).run P w = .ok pl w
 | [], [], _ => by simp
 | f :: fs, p :: ps, h => by
  obtain ⟨h1, ⟨i, h2, h3⟩, h4⟩ := h
  have := run_places w fs ps h4
  have e : (sizeOf f.type).run P w = .ok p.2 w := by simp [sizeOf, typeInfo, h2, h3]
  simp only [List.mapM_cons, Sem.run_bind, e, Result.andThen_ok, Sem.run_pure, this]
  rw [h1]
 | [], _ :: _, h => h.elim
 | _ :: _, [], h => h.elim
def splice (l : List Value) (off : Nat) (vs : List Value) : List Value := l.take off ++ vs ++ l.drop (off + vs.length)
def fillL (pl : List (Nat × Nat)) : List Value → List (Nat × Value) → Option (List Value)
 | cells, [] => some cells
 | cells, (i, v) :: r => match pl[i]? with
  | none => none
  | some (off, size) => match Nat.beq v.cells.toList.length size, Nat.ble (off + v.cells.toList.length) cells.length with
   | true, true => fillL pl (splice cells off v.cells.toList) r
   | _, _ => none
theorem fill_fillL (pl : List (Nat × Nat)) : ∀ (pv : List (Nat × Value)) (cells : Array Value) (c : List Value), fillL pl cells.toList pv = some c → Instr.fill (fun i => (pl.toArray)[i]?) cells pv = some ⟨c⟩
 | [], cells, c, h => by simp only [fillL, Option.some.injEq] at h; subst h; rfl
 | (i, v) :: r, cells, c, h => by
  unfold fillL at h
  cases hp : pl[i]? with
  | none => simp only [hp] at h; cases h
  | some p =>
   obtain ⟨off, size⟩ := p
   simp only [hp] at h
   split at h
   ·rename_i h1 h2
    have h1' := Nat.eq_of_beq_eq_true h1
    have h2' := Nat.le_of_ble_eq_true h2
    have e1 : v.cells.size = size := by simpa using h1'
    have e2 : off + v.cells.size ≤ cells.size := by simpa using h2'
    have ep : (pl.toArray)[i]? = some (off, size) := by simpa using hp
    simp only [Instr.fill, ep]
    rw [if_neg (by simp [e1]; rw [e1] at e2; exact e2), fill_one off v cells e2]
    refine fill_fillL pl r _ c ?_
    simpa [splice] using h
   ·cases h
def evsP (L : List (Nat × Value)) : List (Nat × Operand) → Option (List (Nat × Value))
 | [] => some []
 | (i, x) :: r => match ev L x, evsP L r with
  | some v, some vs => some ((i, v) :: vs)
  | _, _ => none
section
variable {P : Program} {n : Sz} {L : List (Nat × Value)} {w0 : World} {F0 : Heap} {K0 : List Nat} {F : Heap} {G : List Grp} {a : Act} {w : World}
variable {ops : Array Oper} {Q : Exit → Act → World → Prop} {rest : List Oper} {o : Oper}
theorem Fr.evalsP (h : Fr n L a) : ∀ {xs : List (Nat × Operand)} {vs : List (Nat × Value)}, evsP L xs = some vs → xs.map (fun p => (p.1, a.eval p.2)) = vs
 | [], vs, e => by simp only [evsP, Option.some.injEq] at e; simp [← e]
 | (i, x) :: r, vs, e => by
  simp only [evsP] at e
  split at e
  ·rename_i v vs' hv hvs
   simp only [Option.some.injEq] at e
   rw [← e, List.map_cons, h.eval hv, Fr.evalsP h hvs]
  ·cases e
theorem sv_build {t : TypeId} {parts : Array (Nat × Operand)} {pl : List (Nat × Nat)} {z : Value} {sz by_ : Nat} {pv : List (Nat × Value)} {c : List Value} [hp : Plc P t pl] [hi : Inf P t z sz by_] (S : St n L w0 F0 K0 F G a w) (ho : o.op = .build t parts)
  (hx : evsP L parts.toList = some pv) (hf : fillL pl z.cells.toList pv = some c) : SV P o a w (.agg ⟨c⟩) := by
 obtain ⟨fields, h1, h2⟩ := hp.h
 have h3 := run_places w _ _ h2
 have h4 : (fields.mapM (fun f => do pure (f.offset, ← sizeOf f.type) : Field → Sem (Nat × Nat))).run P w = .ok pl.toArray w := by
  rw [Array.mapM_eq_mapM_toList, Sem.run_map, h3, Result.andThen_ok]
 have h5 := fill_fillL pl pv z.cells c hf
 have h6 := S.fr.evalsP hx
 have h7 : (parts.map fun (i, x) => (i, a.eval x)).toList = pv := by rw [Array.toList_map]; exact h6
 unfold SV execOp
 rw [ho]
 simp only [Instr.build, Sem.run_bind, run_zero hi, Result.andThen_ok, run_underlying h1, h4, h7, h5, Sem.run_pure]
def SlC (F : Heap) (v : Value) (k : Nat) (cells : List Value) : Prop :=
 ∃ ao cap, v = .slice ao k cap ∧ k ≤ cap ∧ (0 < k → ∃ b off, ao = some ⟨b, off, none⟩ ∧ Cels F b off cells)
theorem Cels.mono {F' : Heap} (hF : ∀ b o, F b = some o → F' b = some o) {b off vs} (h : Cels F b off vs) : Cels F' b off vs := fun j v hv => (h j v hv).mono hF
theorem SlC.mono {F' : Heap} (hF : ∀ b o, F b = some o → F' b = some o) {v k cells} (h : SlC F v k cells) : SlC F' v k cells := by
 obtain ⟨ao, cap, h1, h2, h3⟩ := h
 exact ⟨ao, cap, h1, h2, fun hk => by obtain ⟨b, off, h4, h5⟩ := h3 hk; exact ⟨b, off, h4, h5.mono hF⟩⟩
theorem Cels.drop {b off : Nat} {vs : List Value} (h : Cels F b off vs) (i : Nat) : Cels F b (off + i) (vs.drop i) := fun j v hv => by
 rw [List.getElem?_drop] at hv
 have := h (i + j) v hv
 rwa [← Nat.add_assoc] at this
theorem Cels.take {b off : Nat} {vs : List Value} (h : Cels F b off vs) (i : Nat) : Cels F b off (vs.take i) := fun j v hv => by
 rw [List.getElem?_take] at hv
 split at hv
 ·exact h j v hv
 ·cases hv
theorem Cels.cel {b off j : Nat} {vs : List Value} {v : Value} (h : Cels F b off vs) (hj : vs[j]? = some v) : Cel F b (off + j) v := h j v hj
theorem Cels.zero {b off : Nat} {vs : List Value} (h : Cels F b off vs) : Cels F b (off + 0) vs := h
theorem St.freeze {G1 G2 : List Grp} {g : Grp} (S : St n L w0 F0 K0 F (G1 ++ g :: G2) a w) : St n L w0 F0 K0 (F.add g) (G1 ++ G2) a w := ⟨S.fr, S.tr.freeze⟩
theorem add_le {G1 G2 : List Grp} {g : Grp} (S : St n L w0 F0 K0 F (G1 ++ g :: G2) a w) : ∀ b o, F b = some o → F.add g b = some o := fun b o h => by
 rw [Heap.add_none (fun hm => ?_)]
 ·exact h
 ·obtain ⟨p, hp, rfl⟩ := List.mem_map.1 hm
  have := (S.tr.own p (by simp only [List.flatten_append, List.flatten_cons]; exact List.mem_append_right _ (List.mem_append_left _ hp))).2.1
  rw [this] at h; cases h
theorem St.drop1 {g : Grp} (S : St n L w0 F0 K0 F (g :: G) a w) : St n L w0 F0 K0 F G a w := ⟨S.fr, S.tr.sub (by rw [List.flatten_cons]; exact List.sublist_append_right _ _)⟩
theorem St.drops (S : St n L w0 F0 K0 F G a w) : St n L w0 F0 K0 F [] a w := ⟨S.fr, S.tr.sub (List.nil_sublist _)⟩
theorem St.nilg (S : St n L w0 F0 K0 F G a w) : St n L w0 F0 K0 F ([] :: G) a w := ⟨S.fr, S.tr.perm (by simp)⟩
theorem OwnS.slC {e sz k : Nat} {v : Value} {cells : List Value} {g : Grp} (h : OwnS e sz v k cells g) (F : Heap) : SlC (F.add g) v k cells := by
 rcases h.2 with ⟨rfl, rfl, rfl⟩ | ⟨b, cap, cur, rfl, rfl, h1, h2, h3, h4⟩
 ·exact ⟨none, 0, rfl, Nat.le_refl _, fun h => absurd h (by omega)⟩
 ·refine ⟨_, cap, rfl, h1, fun _ => ⟨b, 0, rfl, fun j u hu => ⟨cur, e, (0, 0), Heap.add_new (p := (b, _)) (List.mem_singleton.2 rfl) (by simp), ?_⟩⟩⟩
  rw [← h4, List.getElem?_take] at hu
  split at hu
  ·rw [Nat.zero_add]; simpa using hu
  ·cases hu
theorem tr_of_below (hat : At w F []) {w' : World} (h : RowKit.Below w.heap.size w w') : Tr w F [] w' F [] :=
 ⟨h.os, h.tape, h.output, h.size, fun b hb _ => h.block b hb, fun b o hb => by
  have := hat.frz b o hb
  rw [h.block b (heap_lt this)]; exact this, (fun _ _ h => h), (fun _ _ h => .inl h), (fun _ h => by cases h), List.nodup_nil⟩
theorem ct_of_below {f : FuncId} {args : List Value} {v : Value} (h : ∀ w, At w F [] → Calls P f ⟨args⟩ w (fun e w' => e = .returned v ∧ RowKit.Below w.heap.size w w')) : Ct P f args F [] (fun _ _ u => u = v) :=
 fun w hw => (h w hw).mono fun e w' ⟨h1, h2⟩ => ⟨v, F, [], h1, tr_of_below hw h2, rfl⟩
theorem At.cel (h : At w F G) {b off : Nat} {v : Value} (hc : Cel F b off v) : w.cell? ⟨b, off, none⟩ = some v := by
 obtain ⟨c, e, f, h1, h2⟩ := hc
 exact cell_of_heap (h.frz _ _ h1) h2
end
end Go.Wk
