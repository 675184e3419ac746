/- Regions that draw their order: operations that only reckon may come whenever they like; those that only read come before all that writes; what is left is a chain. -/
import Derived.Test.YtoaodbclgeeaeaaGreatDoorWk4
namespace Go.Wk
open Go
set_option linter.unusedSimpArgs false
set_option linter.unusedVariables false

section
variable {P : Program} {ops : Array Oper} {Q : Exit → Act → World → Prop}

/-- Only the normal end counts. -/
def Qn (Q : Exit → Act → World → Prop) : Exit → Act → World → Prop
  | .normal, a, w => Q .normal a w
  | _, _, _ => False

theorem not_letsOut : ¬ LetsOut (Qn Q) := fun ⟨_, _, h⟩ => h

/-- What an operation yields, the world staying as it is. -/
def YA (P : Program) (ops : Array Oper) (o : Oper) (v : Value) (a : Act) (w : World) : Prop :=
  (Region.wanted o (yielded ops a.tmps) = true ∧ (execOp a.eval o).run P w = .ok (.value v) w) ∨ (Region.wanted o (yielded ops a.tmps) = false ∧ v = undef)

theorem YA.same {o : Oper} {v : Value} {a a' : Act} {w : World} (hy : YA P ops o v a w) (he : execOp a'.eval o = execOp a.eval o)
    (hw : Region.wanted o (yielded ops a'.tmps) = Region.wanted o (yielded ops a.tmps)) : YA P ops o v a' w := by
  unfold YA at *; rw [he, hw]; exact hy

theorem YA.wpOp {i : Nat} {o : Oper} {v : Value} {a : Act} {w : World} (hi : ops[i]? = some o) (hy : YA P ops o v a w) {K : Act → World → Prop} {Q} (h : K (a.put o.dst v) w) : wpOp P ops Q i K a w := by
  unfold Go.wpOp
  simp only [hi]
  rcases hy with ⟨hw, hv⟩ | ⟨hw, rfl⟩
  · simp only [hw, if_true]
    refine .inl ?_
    unfold Oper.wp
    rw [hv]
    exact h
  · simp only [hw, Bool.false_eq_true, if_false]; exact h

/-- A run that turns nothing, where it comes to an end. -/
def RO {α : Type} (s : Sem α) : Prop := ∀ P w x w', s.run P w = .ok x w' → w' = w
theorem RO.pure {α : Type} (a : α) : RO (Pure.pure a : Sem α) := fun P w x w' h => by simp at h; exact h.2.symm
theorem RO.bind {α β : Type} {s : Sem α} {f : α → Sem β} (h : RO s) (hf : ∀ a, RO (f a)) : RO (s >>= f) := fun P w x w' hr => by
  rw [Sem.run_bind] at hr
  cases hs : s.run P w with
  | ok a w1 =>
    rw [hs, Result.andThen_ok] at hr
    rw [hf a P w1 x w' hr, h P w a w1 hs]
  | halt e w1 => rw [hs] at hr; cases hr
theorem RO.ite {α : Type} {c : Prop} [Decidable c] {s t : Sem α} (h : RO s) (h2 : RO t) : RO (if c then s else t) := by split <;> assumption
theorem RO.stuck {α : Type} (m : String) : RO (stuck m : Sem α) := fun P w x w' h => by simp at h
theorem RO.unsup {α : Type} (u : Unsupported) : RO (unsupported u : Sem α) := fun P w x w' h => by simp at h
theorem RO.und (t : TypeId) : RO (underlying t) := fun P w x w' h => by
  simp only [underlying, Sem.run_bind, run_program, Result.andThen_ok] at h
  split at h
  · exact (RO.pure _) P w x w' h
  · exact (RO.stuck _) P w x w' h
theorem RO.info (t : TypeId) : RO (typeInfo t) := fun P w x w' h => by
  simp only [typeInfo, Sem.run_bind, run_program, Result.andThen_ok] at h
  split at h
  · exact (RO.pure _) P w x w' h
  · exact (RO.stuck _) P w x w' h
theorem RO.size (t : TypeId) : RO (sizeOf t) := (RO.info t).bind fun _ => RO.pure _
theorem RO.agg (t : TypeId) : RO (isAgg t) := (RO.und t).bind fun d => by cases d <;> exact RO.pure _
theorem RO.load (a : Addr) : RO (load a) := fun P w x w' h => by
  simp only [run_load] at h
  split at h
  · cases h; rfl
  · split at h <;> cases h; rfl
theorem RO.loadFrom (a : Addr) : ∀ (n i : Nat) (acc : Array Value), RO (loadCellsFrom a i n acc)
  | 0, _, _ => RO.pure _
  | n + 1, i, _ => (RO.load _).bind fun _ => RO.loadFrom a n (i + 1) _
theorem RO.loadVar (t : TypeId) (a : Addr) : RO (loadVar t a) := (RO.agg t).bind fun _ => RO.ite ((RO.size t).bind fun n => (RO.loadFrom a n 0 _).bind fun _ => RO.pure _) (RO.load a)
theorem RO.sure (v : Value) : RO (Instr.sureAddr v) := by
  unfold Instr.sureAddr; split
  · exact RO.pure _
  · exact RO.stuck _

/-- Operations that turn nothing, whatever they yield. -/
def quietOp : Op → Bool
  | .move _ | .assign _ | .load .. | .extract .. | .makeFunc .. => true
  | .indexAddr .. | .fieldAddr .. | .index .. => true
  | _ => false

theorem RO.err {α : Type} (e : RuntimeError) (h : ∀ a b c d, e ≠ .typeAssertion a b c d) (h2 : e ≠ .panicNil) : RO (runtimePanic e : Sem α) := fun P w r w' hr => by
  unfold runtimePanic at hr
  simp only [Sem.run_bind, run_program, Result.andThen_ok] at hr
  cases e <;> first | exact absurd rfl (h _ _ _ _) | exact absurd rfl h2 | (simp [run_goPanic] at hr)

theorem RO.panic {α : Type} (k : IntKind) (x y : Int) (c : BoundsCode) : RO (boundsPanic k x y c : Sem α) := fun P w r w' h => by
  have key : ∀ b : Bool, (runtimePanic (RuntimeError.bounds (IntKind.i64.wrap x) y b c) : Sem α).run P w = .ok r w' → False := fun b h => by
    unfold runtimePanic at h
    simp [run_goPanic] at h
  have key2 : ∀ (s : Sem Bool), (s >>= fun b => (runtimePanic (RuntimeError.bounds (IntKind.i64.wrap x) y b c) : Sem α)).run P w = .ok r w' → False := fun s h => by
    rw [Sem.run_bind] at h
    cases hs : s.run P w with
    | ok b w1 =>
      rw [hs, Result.andThen_ok] at h
      unfold runtimePanic at h
      simp [run_goPanic] at h
    | halt e w1 => rw [hs] at h; cases h
  unfold boundsPanic at h
  dsimp only at h
  split at h
  · exact (key2 _ h).elim
  · exact (key2 _ h).elim

theorem RO.int (v : Value) : RO (asIntOf v) := by
  unfold asIntOf; split
  · exact RO.pure _
  · exact RO.unsup _
  · exact RO.stuck _

theorem RO.shape (b : Nat) : RO (shape b) := fun P w x w' h => by simp at h; exact h.2.symm
theorem RO.prog : RO program := fun P w x w' h => by simp at h; exact h.2.symm

theorem RO.part (t : TypeId) (cs : Array Value) (off : Nat) : RO (part t cs off) := by
  unfold Go.part
  refine (RO.agg t).bind fun b => RO.ite ((RO.size t).bind fun _ => RO.pure _) ?_
  split
  · exact RO.pure _
  · exact RO.stuck _

theorem RO.getView (b : Nat) : RO (do match ← getObj b with | .view a t => Pure.pure (some (a, t)) | _ => Pure.pure none : Sem (Option (Addr × TypeId))) := by
  refine RO.bind (fun P w x w' h => ?_) fun o => by split <;> exact RO.pure _
  simp only [getObj, Sem.run] at h
  split at h <;> cases h <;> rfl

theorem RO.view (b : Nat) : RO (viewAt b) := by
  unfold viewAt
  refine (RO.shape b).bind fun s => ?_
  split
  · exact RO.pure _
  · exact RO.getView b

theorem RO.byteOf (a : Addr) : RO (byteOf a) := by
  unfold Go.byteOf noView
  repeat (first | exact RO.pure _ | exact RO.stuck _ | exact RO.unsup _ | exact RO.panic _ _ _ _ | exact RO.und _ | exact RO.size _ | exact RO.sure _ | exact RO.int _ | exact RO.shape _ | exact RO.prog | exact RO.part _ _ _ | exact RO.view _ | (refine RO.bind ?_ fun _ => ?_) | (refine RO.ite ?_ ?_) | split | (dsimp only))

theorem RO.index (t : TypeId) (x i : Value) : RO (Instr.index t x i) := by
  unfold Instr.index
  repeat (first | exact RO.pure _ | exact RO.stuck _ | exact RO.unsup _ | exact RO.panic _ _ _ _ | exact RO.und _ | exact RO.size _ | exact RO.sure _ | exact RO.int _ | exact RO.shape _ | exact RO.prog | exact RO.part _ _ _ | exact RO.view _ | exact RO.byteOf _ | (refine RO.bind ?_ fun _ => ?_) | (refine RO.ite ?_ ?_) | split | (dsimp only))

theorem RO.indexAt (t : TypeId) (x i : Value) : RO (Instr.indexAt t x i) := by
  unfold Instr.indexAt
  repeat (first | exact RO.pure _ | exact RO.stuck _ | exact RO.unsup _ | exact RO.panic _ _ _ _ | exact RO.und _ | exact RO.size _ | exact RO.sure _ | exact RO.int _ | exact RO.shape _ | exact RO.prog | exact RO.part _ _ _ | exact RO.view _ | exact RO.byteOf _ | (refine RO.bind ?_ fun _ => ?_) | (refine RO.ite ?_ ?_) | split | (dsimp only))

theorem RO.fieldAt (t : TypeId) (x : Value) (f : Nat) : RO (Instr.fieldAt t x f) := by
  unfold Instr.fieldAt fieldPlace partAt
  repeat (first | exact RO.pure _ | exact RO.stuck _ | exact RO.unsup _ | exact RO.panic _ _ _ _ | exact RO.und _ | exact RO.size _ | exact RO.sure _ | exact RO.int _ | exact RO.shape _ | exact RO.prog | exact RO.part _ _ _ | exact RO.view _ | exact RO.byteOf _ | (refine RO.bind ?_ fun _ => ?_) | (refine RO.ite ?_ ?_) | split | (dsimp only))

theorem quiet_still {o : Oper} {ρ : Operand → Value} {w w' : World} {x : Next} (h : quietOp o.op = true) (hr : (execOp ρ o).run P w = .ok x w') : ∃ v, x = .value v ∧ w' = w := by
  have key : ∀ s : Sem Value, RO s → (do pure (Next.value (← s)) : Sem Next).run P w = .ok x w' → ∃ v, x = .value v ∧ w' = w := fun s hs h => by
    rw [Sem.run_bind] at h
    cases he : s.run P w with
    | ok v w1 =>
      rw [he, Result.andThen_ok, Sem.run_pure] at h
      cases h
      exact ⟨v, rfl, hs P w v _ he⟩
    | halt e w1 => rw [he] at h; cases h
  unfold execOp at hr
  cases ho : o.op <;> rw [ho] at h hr <;> simp only [quietOp] at h <;> try cases h
  case move x => simp at hr; exact ⟨_, hr.1.symm, hr.2.symm⟩
  case assign x => simp at hr; exact ⟨_, hr.1.symm, hr.2.symm⟩
  case load t a => exact key _ ((RO.sure _).bind fun a => RO.loadVar t a) hr
  case extract t i =>
    refine key _ ?_ hr
    unfold Instr.extract
    split
    · split
      · exact RO.pure _
      · exact RO.stuck _
    · exact RO.stuck _
  case makeFunc f a c => exact key _ (RO.pure _) hr
  case indexAddr t x i => exact key _ (RO.indexAt _ _ _) hr
  case fieldAddr t x f => exact key _ (RO.fieldAt _ _ _) hr
  case index t x i => exact key _ (RO.index _ _ _) hr

/-- That an operation, where it comes to a value, has turned nothing. -/
def Still (P : Program) (o : Oper) (a : Act) (w : World) : Prop := ∃ v, (execOp a.eval o).run P w = .ok (.value v) w

/-- What an operation yields, in this world; or in all. -/
def YB (P : Program) (ops : Array Oper) (st : Bool) (o : Oper) (v : Value) (a : Act) (w : World) : Prop :=
  match st with | true => YA P ops o v a w | false => ∀ w, YA P ops o v a w
theorem YB.at {st o v a w} (h : YB P ops st o v a w) : YA P ops o v a w := by cases st <;> first | exact h | exact h w

theorem wp_quiet {o : Oper} {a : Act} {w : World} {K : Act → World → Prop} (hq : quietOp o.op = true) (h : o.wp P a w K (Qn Q)) : Still P o a w := by
  unfold Oper.wp at h
  cases hr : (execOp a.eval o).run P w with
  | ok x w' =>
    obtain ⟨v, rfl, rfl⟩ := quiet_still hq hr
    exact ⟨v, hr⟩
  | halt x w' => rw [hr] at h; cases x <;> simp only [Oper.upon] at h <;> exact h.elim

/-- One operation that is known to turn nothing, carried past another one. -/
theorem wpOp_put {j : Nat} {oi oj : Oper} {v : Value} {w : World} (hj : ops[j]? = some oj) (hap : oi.apart ops oj = true)
    (hsi : ∀ cs b, oi.op ≠ .select cs b) (hsj : ∀ cs b, oj.op ≠ .select cs b) {K : Act → World → Prop} {a : Act} {st : Bool}
    (hy : YB P ops st oi v a w) (hst : st = true → quietOp oj.op = true)
    (h : wpOp P ops (Qn Q) j K (a.put oi.dst v) w) :
    wpOp P ops (Qn Q) j (fun a' w' => YB P ops st oi v a' w' ∧ K (a'.put oi.dst v) w') a w := by
  obtain ⟨h1, h2, h3⟩ := Oper.apart_spec hap
  have keep : ∀ u, ∀ w, YA P ops oi v a w → YA P ops oi v (a.put oj.dst u) w := fun u w hy =>
    hy.same (execOp_put oi hsi a oj.dst u h3) (wanted_put oi a oj.dst u h3)
  have keepB : ∀ u, YB P ops st oi v (a.put oj.dst u) w := fun u => by
    cases st
    · exact fun w => keep u w (hy w)
    · exact keep u w hy
  unfold wpOp at *
  simp only [hj] at *
  rw [wanted_put oj a oi.dst v h1] at h
  split
  · rename_i hw
    simp only [hw, if_true] at h
    rcases h with h | h
    · refine .inl ?_
      cases st with
      | false =>
        have keepA : ∀ u w', YB P ops false oi v (a.put oj.dst u) w' := fun u _ w => keep u w (hy w)
        unfold Oper.wp at *
        rw [execOp_put oj hsj a oi.dst v h1] at h
        generalize (execOp a.eval oj).run P w = r at *
        cases r with
        | ok n w' =>
          cases n <;> simp only [Oper.upon] at h ⊢
          case value u => exact ⟨keepA u _, by rw [← Act.put_comm a v u h2]; exact h⟩
          case skip => exact ⟨keepA _ _, by rw [← Act.put_comm a v undef h2]; exact h⟩
          case defer d =>
            refine ⟨fun w => (keep undef w (hy w)).same ?_ ?_, ?_⟩
            · cases oj.dst <;> rfl
            · cases oj.dst <;> rfl
            · have := Act.put_comm ({ a with defers := d :: a.defers }) (y := oj.dst) v undef h2
              rw [← this, ← Act.put_defers]
              exact h
          case enter f args =>
            refine Calls.mono h fun e w'' he => ?_
            cases e <;> first
              | exact he.elim
              | exact absurd he not_letsOut
              | exact ⟨keepA _ _, by rw [← Act.put_comm a v _ h2]; exact he⟩
          case row row args => exact Rows.mono h fun u w'' he => ⟨keepA _ _, by rw [← Act.put_comm a v _ h2]; exact he⟩
        | halt x w' => cases x <;> simp only [Oper.upon] at h ⊢ <;> exact h.elim
      | true =>
        obtain ⟨u, hu⟩ := wp_quiet (hst rfl) h
        unfold Oper.wp at *
        rw [hu] at h
        rw [execOp_put oj hsj a oi.dst v h1] at hu
        rw [hu]
        rw [Oper.upon_value] at h ⊢
        exact ⟨keepB u, by rw [← Act.put_comm a v u h2]; exact h⟩
    · exact absurd h.2 not_letsOut
  · rename_i hw
    simp only [hw] at h
    exact ⟨keepB undef, by rw [← Act.put_comm a v undef h2]; exact h⟩

/-- j comes behind i, whatever the order. -/
def twB (ops : Array Oper) : Nat → Nat → Nat → Bool
  | 0, _, _ => false
  | n + 1, j, i => match ops[j]? with
    | none => false
    | some oj => oj.after.any fun e => Region.binds .any e && (e.on == i || twB ops n e.on i)

def Closed (ops : Array Oper) (listed : Array Bool) : Prop :=
  ∀ (j : Nat) (oj : Oper), ops[j]? = some oj → listed.getD j false = true → ∀ e ∈ oj.after, Region.binds .any e = true → listed.getD e.on false = true

theorem tw_listed {listed : Array Bool} (hc : Closed ops listed) {i : Nat} : ∀ (n j : Nat), twB ops n j i = true →
    (∀ oj, ops[j]? = some oj → ∀ e ∈ oj.after, Region.binds .any e = true → listed.getD e.on false = true) → listed.getD i false = true
  | 0, _, h, _ => by cases h
  | n + 1, j, h, hl => by
    unfold twB at h
    split at h
    · cases h
    · rename_i oj hj
      obtain ⟨e, he, hb⟩ := Array.any_eq_true'.1 h
      simp only [Bool.and_eq_true, Bool.or_eq_true, beq_iff_eq] at hb
      have h1 := hl oj hj e he hb.1
      rcases hb.2 with h2 | h2
      · rw [← h2]; exact h1
      · exact tw_listed hc n e.on h2 fun ok hk e' he' hb' => hc e.on ok hk h1 e' he' hb'

theorem Closed.set {listed : Array Bool} (hc : Closed ops listed) {i : Nat} (hi : i ∈ Region.ready .any ops listed) : Closed ops (listed.setIfInBounds i true) := by
  obtain ⟨_, oi, hoi, hall⟩ := mem_ready.1 hi
  intro j oj hj hl e he hb
  by_cases hij : i = j
  · subst hij
    have : oj = oi := Option.some.inj (hj.symm.trans hoi)
    subst this
    exact getD_set_true (hall e he hb)
  · rw [getD_set_ne false hij] at hl
    exact getD_set_true (hc j oj hj hl e he hb)

theorem wpAny_first {i : Nat} {oi : Oper} {v : Value} {st : Bool} (hi : ops[i]? = some oi) (hsel : ∀ (j : Nat) (o : Oper) cs b, ops[j]? = some o → o.op ≠ .select cs b) :
    ∀ (fuel : Nat) (listed : Array Bool) (a : Act) (w : World), Closed ops listed →
      (∀ j oj, ops[j]? = some oj → j ≠ i → listed.getD j true = false → (∀ e ∈ oj.after, Region.binds .any e = true → e.on ≠ i) → oi.apart ops oj = true) →
      (st = true → ∀ j oj, ops[j]? = some oj → j ≠ i → listed.getD j true = false → quietOp oj.op = true ∨ ∃ n, twB ops n j i = true) →
      i ∈ Region.ready .any ops listed → YB P ops st oi v a w →
      wpAny P .any ops (Qn Q) fuel (listed.setIfInBounds i true) (a.put oi.dst v) w → wpAny P .any ops (Qn Q) (fuel + 1) listed a w := by
  intro fuel
  induction fuel with
  | zero =>
    intro listed a w _ _ _ hr hy H
    refine ⟨fun h => (by rw [h] at hr; cases hr), fun j hj => ?_⟩
    by_cases hji : j = i
    · subst hji; exact hy.at.wpOp hi H
    · have := ready_mono hj hji
      rw [H.1] at this
      cases this
  | succ fuel ih =>
    intro listed a w hc hfree hq hr hy H
    refine ⟨fun h => (by rw [h] at hr; cases hr), fun j hj => ?_⟩
    by_cases hji : j = i
    · subst hji; exact hy.at.wpOp hi H
    · have h1 := H.2 j (ready_mono hj hji)
      obtain ⟨hjun, oj, hoj, hall⟩ := mem_ready.1 hj
      have hun := (mem_ready.1 hr).1
      have hnot : ∀ e ∈ oj.after, Region.binds .any e = true → e.on ≠ i := fun e he hb heq => by
        have h1 := hall e he hb
        rw [heq] at h1
        have := getD_both hun
        rw [h1] at this; cases this
      have hqj : st = true → quietOp oj.op = true := fun hs => by
        rcases hq hs j oj hoj hji hjun with h | ⟨n, h⟩
        · exact h
        · have := tw_listed hc n j h (fun ok hk e he hb => by
            have : ok = oj := Option.some.inj (hk.symm.trans hoj)
            subst this
            exact hall e he hb)
          rw [getD_both hun] at this; cases this
      have h2 := wpOp_put hoj (hfree j oj hoj hji hjun hnot) (fun cs b => hsel i oi cs b hi) (fun cs b => hsel j oj cs b hoj) hy hqj h1
      refine wpOp_mono (fun a' w' h3 => ih (listed.setIfInBounds j true) a' w' (hc.set hj) (fun k ok hk hki hun' hno => ?_) (fun hs k ok hk hki hun' => ?_) (ready_mono hr (Ne.symm hji)) h3.1 ?_) h2
      · refine hfree k ok hk hki ?_ hno
        by_cases hjk : j = k
        · subst hjk; exact hjun
        · rw [getD_set_ne true hjk] at hun'; exact hun'
      · refine hq hs k ok hk hki ?_
        by_cases hjk : j = k
        · subst hjk; exact hjun
        · rw [getD_set_ne true hjk] at hun'; exact hun'
      · rw [Array.setIfInBounds_comm _ _ hji]
        exact h3.2

/-- Whether an operation reads memory. -/
def stOp : Op → Bool
  | .load .. | .lookup .. | .call _ => true
  | _ => false

def mixFrom (ops : Array Oper) (n : Nat) : Nat → Nat → Array Bool → Bool
  | 0, _, listed => (Region.ready .any ops listed).isEmpty
  | fuel + 1, k, listed =>
    (bif Nat.blt k n then (Region.ready .any ops listed).contains k && Region.free .any ops listed k && (match ops[k]? with
        | some o => !stOp o.op || (List.range ops.size).all fun j => j == k || listed.getD j true || (match ops[j]? with | some oj => quietOp oj.op || twB ops ops.size j k | none => true)
        | none => false)
      else decide (Region.ready .any ops listed = [k])) && mixFrom ops n fuel (k + 1) (listed.setIfInBounds k true)

def mixB (ops : Array Oper) (n : Nat) : Bool := Region.noSelect ops && mixFrom ops n ops.size 0 (Array.replicate ops.size false)

def wpMx (P : Program) (ops : Array Oper) (Q : Exit → Act → World → Prop) (n : Nat) : Nat → List Oper → Act → World → Prop
  | _, [], a, w => Q .normal a w
  | k, o :: r, a, w => if k < n then ∃ v, YB P ops (stOp o.op) o v a w ∧ wpMx P ops Q n (k + 1) r (a.put o.dst v) w
    else if Region.wanted o (yielded ops a.tmps) then o.wp P a w (wpMx P ops Q n (k + 1) r) (Qn Q) else wpMx P ops Q n (k + 1) r (a.put o.dst undef) w

theorem wpAny_mx {n : Nat} (hs : Region.noSelect ops = true) : ∀ (l : List Oper) (k : Nat) (listed : Array Bool) (a : Act) (w : World), (∀ j, l[j]? = ops[k + j]?) → Closed ops listed →
    mixFrom ops n l.length k listed = true → wpMx P ops Q n k l a w → wpAny P .any ops (Qn Q) l.length listed a w
  | [], _, _, _, _, _, _, hB, h => ⟨by simpa [mixFrom] using hB, h⟩
  | o :: l, k, listed, a, w, hl, hc, hB, h => by
    have h0 : ops[k]? = some o := by simpa using (hl 0).symm
    have hl' : ∀ j, l[j]? = ops[k + 1 + j]? := fun j => by have := hl (j + 1); simpa [Nat.add_assoc, Nat.add_comm 1 j] using this
    simp only [List.length_cons, mixFrom, Bool.and_eq_true] at hB
    obtain ⟨hb, hB'⟩ := hB
    unfold wpMx at h
    by_cases hk : k < n
    · rw [if_pos hk] at h
      have hkb : Nat.blt k n = true := by simpa [Nat.blt_eq] using hk
      simp only [hkb, cond_true, Bool.and_eq_true, h0] at hb
      obtain ⟨⟨hr, hf⟩, hq⟩ := hb
      have hr' : k ∈ Region.ready .any ops listed := by simpa using hr
      obtain ⟨v, hy, hK⟩ := h
      refine wpAny_first h0 (Region.noSelect_spec hs) l.length listed a w hc (Region.free_spec h0 hf) (fun hst j oj hj hji hun => ?_) hr' hy
        (wpAny_mx hs l (k + 1) _ _ _ hl' (hc.set hr') hB' hK)
      rw [hst] at hq
      simp only [Bool.not_true, Bool.false_or, List.all_eq_true, List.mem_range] at hq
      have := hq j (Array.getElem?_eq_some_iff.1 hj).1
      simp only [hj, Bool.or_eq_true, beq_iff_eq, hji, false_or, hun, Bool.false_eq_true] at this
      rcases this with h | h
      · exact .inl h
      · exact .inr ⟨_, h⟩
    · rw [if_neg hk] at h
      have hkb : Nat.blt k n = false := by rw [← Bool.not_eq_true, Nat.blt_eq]; exact hk
      simp only [hkb, cond_false, decide_eq_true_eq] at hb
      have hr' : k ∈ Region.ready .any ops listed := by rw [hb]; simp
      refine ⟨fun h => (by rw [h] at hb; cases hb), fun i hi => ?_⟩
      rw [hb] at hi
      simp only [List.mem_singleton] at hi
      subst hi
      unfold wpOp
      simp only [h0]
      split
      · rename_i hw
        rw [if_pos hw] at h
        exact .inl (Oper.wp_mono (fun a' w' h' => wpAny_mx hs l _ _ _ _ hl' (hc.set hr') hB' h') h)
      · rename_i hw
        rw [if_neg hw] at h
        exact wpAny_mx hs l _ _ _ _ hl' (hc.set hr') hB' h

def wpPre (P : Program) (ops : Array Oper) (w : World) (T : Act → Prop) : List Oper → Act → Prop
  | [], a => T a
  | o :: r, a => ∃ v, YB P ops (stOp o.op) o v a w ∧ wpPre P ops w T r (a.put o.dst v)

theorem mx_tail {n : Nat} : ∀ (l : List Oper) (k : Nat) (a : Act) (w : World), n ≤ k → wpList P ops (Qn Q) l a w → wpMx P ops Q n k l a w
  | [], _, _, _, _, h => h
  | o :: r, k, a, w, hk, h => by
    unfold wpMx
    rw [if_neg (by omega)]
    unfold wpList at h
    split
    · rename_i hw
      rw [if_pos hw] at h
      rcases h with h | h
      · exact Oper.wp_mono (fun a' w' h' => mx_tail r (k + 1) a' w' (by omega) h') h
      · exact absurd h.2 not_letsOut
    · rename_i hw
      rw [if_neg hw] at h
      exact mx_tail r (k + 1) _ w (by omega) h

theorem mx_pre {n : Nat} {l2 : List Oper} : ∀ (l : List Oper) (k : Nat) (a : Act) (w : World), k + l.length = n → wpPre P ops w (fun a' => wpList P ops (Qn Q) l2 a' w) l a → wpMx P ops Q n k (l ++ l2) a w
  | [], k, a, w, hk, h => mx_tail l2 k a w (by simp at hk; omega) h
  | o :: r, k, a, w, hk, h => by
    simp only [List.length_cons] at hk
    rw [List.cons_append]
    unfold wpMx
    rw [if_pos (by omega)]
    obtain ⟨v, hy, h'⟩ := h
    exact ⟨v, hy, mx_pre r (k + 1) _ w (by omega) h'⟩

theorem wp_region_mix {id : Nat} {a : Act} {w : World} {l : List Oper} (n : Nat) (hm : P.follows .mixedOrders = true) (hn : Nat.ble n l.length = true) (hB : mixB l.toArray n = true)
    (h : wpPre P l.toArray w.drew (fun a' => wpList P l.toArray (Qn Q) (l.drop n) a' w.drew) (l.take n) a) : (Code.region id l.toArray true).wp P Q a w := by
  simp only [mixB, Bool.and_eq_true] at hB
  have hn' := Nat.le_of_ble_eq_true hn
  have h1 := mx_pre (Q := Q) (n := n) (l2 := l.drop n) (l.take n) 0 a w.drew (by rw [List.length_take]; omega) h
  rw [List.take_append_drop] at h1
  have h2 := wpAny_mx hB.1 l 0 (Array.replicate l.toArray.size false) a w.drew (by simp) (fun j oj _ hl => by rw [getD_replicate_false] at hl; cases hl) (by simpa using hB.2) h1
  refine wp_mono (Q := Qn Q) (wp_region_any hm (by simpa using h2)) fun e a w h => ?_
  cases e <;> first | exact h | exact h.elim

section
variable {n : Sz} {L : List (Nat × Value)} {w0 : World} {F0 : Heap} {K0 : List Nat} {F : Heap} {G : List Grp} {a : Act} {w : World} {T : Act → Prop} {rest : List Oper} {o : Oper}

theorem wpc_mix {id : Nat} {l : List Oper} (k : Nat) (S : St n L w0 F0 K0 F G a w) (hm : P.follows .mixedOrders = true) (hk : Nat.ble k l.length = true) (hB : mixB l.toArray k = true)
    (h : ∀ w, St n L w0 F0 K0 F G a w → wpPre P l.toArray w (fun a' => wpList P l.toArray (Qn Q) (l.drop k) a' w) (l.take k) a) : (Code.region id l.toArray true).wp P Q a w :=
  wp_region_mix k hm hk hB (h _ ⟨S.fr, S.tr.drew⟩)

theorem St.any (S : St n L w0 F0 K0 F G a w) (w' : World) : St n L w' (fun _ => none) [] (fun _ => none) [] a w' :=
  ⟨S.fr, At.tr (G := []) ⟨(fun _ _ h => by cases h), (fun _ h => by cases h), List.nodup_nil⟩⟩

theorem wpp_nil (h : T a) : wpPre P ops w T [] a := h
/-- It only reckons. -/
theorem wpp_v {d : Nat} {v : Value} (S : St n L w0 F0 K0 F G a w) (hg : o.guard = none) (hd : o.dst = some d) (hn : Nat.blt d n.sz = true) (hst : stOp o.op = false)
    (h : ∀ w', St n L w' (fun _ => none) [] (fun _ => none) [] a w' → SV P o a w' v) (k : ∀ a', St n ((d, v) :: L) w0 F0 K0 F G a' w → wpPre P ops w T rest a') : wpPre P ops w T (o :: rest) a := by
  refine ⟨v, ?_, ?_⟩
  · rw [hst]
    exact fun w' => .inl ⟨by simp [Region.wanted, hg], h w' (S.any w')⟩
  · rw [hd]; exact k _ (S.put hn v)
/-- It reads. -/
theorem wpp_s {d : Nat} {v : Value} (S : St n L w0 F0 K0 F G a w) (hg : o.guard = none) (hd : o.dst = some d) (hn : Nat.blt d n.sz = true) (hst : stOp o.op = true)
    (h : SV P o a w v) (k : ∀ a', St n ((d, v) :: L) w0 F0 K0 F G a' w → wpPre P ops w T rest a') : wpPre P ops w T (o :: rest) a := by
  refine ⟨v, ?_, ?_⟩
  · rw [hst]
    exact .inl ⟨by simp [Region.wanted, hg], h⟩
  · rw [hd]; exact k _ (S.put hn v)
theorem wpp_take {j dj d : Nat} {want : Bool} {v : Value} (S : St n L w0 F0 K0 F G a w) (hg : o.guard = some (j, want)) (hj : (ops[j]?).bind (·.dst) = some dj) (hb : look L dj = some (.bool want)) (hd : o.dst = some d) (hn : Nat.blt d n.sz = true) (hst : stOp o.op = false)
    (h : ∀ w', St n L w' (fun _ => none) [] (fun _ => none) [] a w' → SV P o a w' v) (k : ∀ a', St n ((d, v) :: L) w0 F0 K0 F G a' w → wpPre P ops w T rest a') : wpPre P ops w T (o :: rest) a := by
  refine ⟨v, ?_, ?_⟩
  · rw [hst]
    exact fun w' => .inl ⟨by rw [wanted_eq S hg hj hb]; simp, h w' (S.any w')⟩
  · rw [hd]; exact k _ (S.put hn v)
theorem wpp_takes {j dj d : Nat} {want : Bool} {v : Value} (S : St n L w0 F0 K0 F G a w) (hg : o.guard = some (j, want)) (hj : (ops[j]?).bind (·.dst) = some dj) (hb : look L dj = some (.bool want)) (hd : o.dst = some d) (hn : Nat.blt d n.sz = true) (hst : stOp o.op = true)
    (h : SV P o a w v) (k : ∀ a', St n ((d, v) :: L) w0 F0 K0 F G a' w → wpPre P ops w T rest a') : wpPre P ops w T (o :: rest) a := by
  refine ⟨v, ?_, ?_⟩
  · rw [hst]
    exact .inl ⟨by rw [wanted_eq S hg hj hb]; simp, h⟩
  · rw [hd]; exact k _ (S.put hn v)
theorem wpp_skip {j dj d : Nat} {want : Bool} (S : St n L w0 F0 K0 F G a w) (hg : o.guard = some (j, want)) (hj : (ops[j]?).bind (·.dst) = some dj) (hb : look L dj = some (.bool (!want))) (hd : o.dst = some d) (hn : Nat.blt d n.sz = true)
    (k : ∀ a', St n ((d, undef) :: L) w0 F0 K0 F G a' w → wpPre P ops w T rest a') : wpPre P ops w T (o :: rest) a := by
  have hw : Region.wanted o (yielded ops a.tmps) = false := by rw [wanted_eq S hg hj hb]; simp
  refine ⟨undef, ?_, ?_⟩
  · cases stOp o.op
    · exact fun w' => .inr ⟨hw, rfl⟩
    · exact .inr ⟨hw, rfl⟩
  · rw [hd]; exact k _ (S.put hn undef)
/-- The guard is parted on, whatever stands next. -/
theorem wpp_part {dj : Nat} {want b : Bool} (l : List Oper) (S : St n L w0 F0 K0 F G a w) (hb : look L dj = some (.bool b))
    (hy : b = want → St n ((dj, .bool want) :: L) w0 F0 K0 F G a w → wpPre P ops w T l a)
    (hs : b = (!want) → St n ((dj, .bool (!want)) :: L) w0 F0 K0 F G a w → wpPre P ops w T l a) : wpPre P ops w T l a := by
  by_cases h : b = want
  · exact hy h (S.lit hb h)
  · have h' : b = (!want) := by cases b <;> cases want <;> simp_all
    exact hs h' (S.lit hb h')
end
end
end Go.Wk
