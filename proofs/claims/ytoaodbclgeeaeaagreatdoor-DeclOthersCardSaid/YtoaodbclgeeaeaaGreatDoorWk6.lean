/- Struct literals; slices that never turn; what a contract of the library's own is, as a contract of ours. -/
import Derived.Test.YtoaodbclgeeaeaaGreatDoorWk5
import Derived.Below
namespace Go.Wk
open Go
set_option linter.unusedSimpArgs false
set_option linter.unusedVariables false

/-! ### struct literals -/
def plcOk (P : Program) : List Field → List (Nat × Nat) → Prop
  | [], [] => True
  | f :: fs, p :: ps => f.offset = p.1 ∧ (∃ i, P.info? f.type = some i ∧ i.size = p.2) ∧ plcOk P fs ps
  | _, _ => False
class Plc (P : Program) (t : TypeId) (pl : outParam (List (Nat × Nat))) : Prop where
  h : ∃ fields : Array Field, P.underlying t = some (.struct fields) ∧ plcOk P fields.toList pl
theorem szH {P : Program} {t : TypeId} {z : Value} {sz by_ : Nat} (h : Inf P t z sz by_) : ∃ i, P.info? t = some i ∧ i.size = sz := by
  obtain ⟨i, h1, _, h3, _⟩ := h.h; exact ⟨i, h1, h3⟩

theorem run_places {P : Program} (w : World) : ∀ (fs : List Field) (pl : List (Nat × Nat)), plcOk P fs pl →
    (fs.mapM (fun f => do pure (f.offset, ← sizeOf f.type) : Field → Sem (Nat × Nat))).run P w = .ok pl w
  | [], [], _ => by simp
  | f :: fs, p :: ps, h => by
    obtain ⟨h1, ⟨i, h2, h3⟩, h4⟩ := h
    have := run_places w fs ps h4
    have e : (sizeOf f.type).run P w = .ok p.2 w := by simp [sizeOf, typeInfo, h2, h3]
    simp only [List.mapM_cons, Sem.run_bind, e, Result.andThen_ok, Sem.run_pure, this]
    rw [h1]
  | [], _ :: _, h => h.elim
  | _ :: _, [], h => h.elim

def splice (l : List Value) (off : Nat) (vs : List Value) : List Value := l.take off ++ vs ++ l.drop (off + vs.length)
def fillL (pl : List (Nat × Nat)) : List Value → List (Nat × Value) → Option (List Value)
  | cells, [] => some cells
  | cells, (i, v) :: r => match pl[i]? with
    | none => none
    | some (off, size) => match Nat.beq v.cells.toList.length size, Nat.ble (off + v.cells.toList.length) cells.length with
      | true, true => fillL pl (splice cells off v.cells.toList) r
      | _, _ => none

theorem fill_fillL (pl : List (Nat × Nat)) : ∀ (pv : List (Nat × Value)) (cells : Array Value) (c : List Value), fillL pl cells.toList pv = some c → Instr.fill (fun i => (pl.toArray)[i]?) cells pv = some ⟨c⟩
  | [], cells, c, h => by simp only [fillL, Option.some.injEq] at h; subst h; rfl
  | (i, v) :: r, cells, c, h => by
    unfold fillL at h
    cases hp : pl[i]? with
    | none => simp only [hp] at h; cases h
    | some p =>
      obtain ⟨off, size⟩ := p
      simp only [hp] at h
      split at h
      · rename_i h1 h2
        have h1' := Nat.eq_of_beq_eq_true h1
        have h2' := Nat.le_of_ble_eq_true h2
        have e1 : v.cells.size = size := by simpa using h1'
        have e2 : off + v.cells.size ≤ cells.size := by simpa using h2'
        have ep : (pl.toArray)[i]? = some (off, size) := by simpa using hp
        simp only [Instr.fill, ep]
        rw [if_neg (by simp [e1]; rw [e1] at e2; exact e2), fill_one off v cells e2]
        refine fill_fillL pl r _ c ?_
        simpa [splice] using h
      · cases h

def evsP (L : List (Nat × Value)) : List (Nat × Operand) → Option (List (Nat × Value))
  | [] => some []
  | (i, x) :: r => match ev L x, evsP L r with
    | some v, some vs => some ((i, v) :: vs)
    | _, _ => none

section
variable {P : Program} {n : Sz} {L : List (Nat × Value)} {w0 : World} {F0 : Heap} {K0 : List Nat} {F : Heap} {G : List Grp} {a : Act} {w : World}
variable {ops : Array Oper} {Q : Exit → Act → World → Prop} {rest : List Oper} {o : Oper}

theorem Fr.evalsP (h : Fr n L a) : ∀ {xs : List (Nat × Operand)} {vs : List (Nat × Value)}, evsP L xs = some vs → xs.map (fun p => (p.1, a.eval p.2)) = vs
  | [], vs, e => by simp only [evsP, Option.some.injEq] at e; simp [← e]
  | (i, x) :: r, vs, e => by
    simp only [evsP] at e
    split at e
    · rename_i v vs' hv hvs
      simp only [Option.some.injEq] at e
      rw [← e, List.map_cons, h.eval hv, Fr.evalsP h hvs]
    · cases e

theorem sv_build {t : TypeId} {parts : Array (Nat × Operand)} {pl : List (Nat × Nat)} {z : Value} {sz by_ : Nat} {pv : List (Nat × Value)} {c : List Value} [hp : Plc P t pl] [hi : Inf P t z sz by_] (S : St n L w0 F0 K0 F G a w) (ho : o.op = .build t parts)
    (hx : evsP L parts.toList = some pv) (hf : fillL pl z.cells.toList pv = some c) : SV P o a w (.agg ⟨c⟩) := by
  obtain ⟨fields, h1, h2⟩ := hp.h
  have h3 := run_places w _ _ h2
  have h4 : (fields.mapM (fun f => do pure (f.offset, ← sizeOf f.type) : Field → Sem (Nat × Nat))).run P w = .ok pl.toArray w := by
    rw [Array.mapM_eq_mapM_toList, Sem.run_map, h3, Result.andThen_ok]
  have h5 := fill_fillL pl pv z.cells c hf
  have h6 := S.fr.evalsP hx
  have h7 : (parts.map fun (i, x) => (i, a.eval x)).toList = pv := by rw [Array.toList_map]; exact h6
  unfold SV execOp
  rw [ho]
  simp only [Instr.build, Sem.run_bind, run_zero hi, Result.andThen_ok, run_underlying h1, h4, h7, h5, Sem.run_pure]

/-! ### slices that never turn -/
/-- v is a slice of k elements, whose cells lie in memory that never turns. -/
def SlC (F : Heap) (v : Value) (k : Nat) (cells : List Value) : Prop :=
  ∃ ao cap, v = .slice ao k cap ∧ k ≤ cap ∧ (0 < k → ∃ b off, ao = some ⟨b, off, none⟩ ∧ Cels F b off cells)

theorem Cels.mono {F' : Heap} (hF : ∀ b o, F b = some o → F' b = some o) {b off vs} (h : Cels F b off vs) : Cels F' b off vs := fun j v hv => (h j v hv).mono hF
theorem SlC.mono {F' : Heap} (hF : ∀ b o, F b = some o → F' b = some o) {v k cells} (h : SlC F v k cells) : SlC F' v k cells := by
  obtain ⟨ao, cap, h1, h2, h3⟩ := h
  exact ⟨ao, cap, h1, h2, fun hk => by obtain ⟨b, off, h4, h5⟩ := h3 hk; exact ⟨b, off, h4, h5.mono hF⟩⟩

theorem Cels.drop {b off : Nat} {vs : List Value} (h : Cels F b off vs) (i : Nat) : Cels F b (off + i) (vs.drop i) := fun j v hv => by
  rw [List.getElem?_drop] at hv
  have := h (i + j) v hv
  rwa [← Nat.add_assoc] at this
theorem Cels.take {b off : Nat} {vs : List Value} (h : Cels F b off vs) (i : Nat) : Cels F b off (vs.take i) := fun j v hv => by
  rw [List.getElem?_take] at hv
  split at hv
  · exact h j v hv
  · cases hv

/-- The cells of the elements, one behind the other: those of one. -/
theorem flat_at {α : Type} (f : α → List Value) (sz : Nat) : ∀ (l : List α), (∀ x ∈ l, (f x).length = sz) → ∀ (k : Nat) (x : α), l[k]? = some x → ((l.flatMap f).drop (k * sz)).take sz = f x
  | [], _, k, x, h => by cases h
  | y :: r, hl, k, x, h => by
    have hy := hl y (by simp)
    cases k with
    | zero =>
      simp only [List.getElem?_cons_zero, Option.some.injEq] at h
      subst h
      simp only [List.flatMap_cons, Nat.zero_mul, List.drop_zero]
      rw [← hy]; exact List.take_left
    | succ k =>
      simp only [List.getElem?_cons_succ] at h
      have := flat_at f sz r (fun z hz => hl z (by simp [hz])) k x h
      rw [List.flatMap_cons, Nat.add_mul, Nat.one_mul, Nat.add_comm, ← List.drop_drop, ← hy]
      rw [List.drop_left]
      rw [hy]; exact this

theorem Cels.elem {α : Type} {f : α → List Value} {sz : Nat} {l : List α} (hl : ∀ x ∈ l, (f x).length = sz) {b off k : Nat} {x : α} (h : Cels F b off (l.flatMap f)) (hk : l[k]? = some x) : Cels F b (off + k * sz) (f x) := by
  have := (h.drop (k * sz)).take sz
  rwa [flat_at f sz l hl k x hk] at this

theorem Cels.cel {b off j : Nat} {vs : List Value} {v : Value} (h : Cels F b off vs) (hj : vs[j]? = some v) : Cel F b (off + j) v := h j v hj

theorem Cels.zero {b off : Nat} {vs : List Value} (h : Cels F b off vs) : Cels F b (off + 0) vs := h

/-- An own slice, not written any more. -/
theorem St.freeze {G1 G2 : List Grp} {g : Grp} (S : St n L w0 F0 K0 F (G1 ++ g :: G2) a w) : St n L w0 F0 K0 (F.add g) (G1 ++ G2) a w := ⟨S.fr, S.tr.freeze⟩
theorem add_le {G1 G2 : List Grp} {g : Grp} (S : St n L w0 F0 K0 F (G1 ++ g :: G2) a w) : ∀ b o, F b = some o → F.add g b = some o := fun b o h => by
  rw [Heap.add_none (fun hm => ?_)]
  · exact h
  · obtain ⟨p, hp, rfl⟩ := List.mem_map.1 hm
    have := (S.tr.own p (by simp only [List.flatten_append, List.flatten_cons]; exact List.mem_append_right _ (List.mem_append_left _ hp))).2.1
    rw [this] at h; cases h

theorem St.drop1 {g : Grp} (S : St n L w0 F0 K0 F (g :: G) a w) : St n L w0 F0 K0 F G a w := ⟨S.fr, S.tr.sub (by rw [List.flatten_cons]; exact List.sublist_append_right _ _)⟩
theorem St.drops (S : St n L w0 F0 K0 F G a w) : St n L w0 F0 K0 F [] a w := ⟨S.fr, S.tr.sub (List.nil_sublist _)⟩
theorem St.nilg (S : St n L w0 F0 K0 F G a w) : St n L w0 F0 K0 F ([] :: G) a w := ⟨S.fr, S.tr.perm (by simp)⟩
theorem OwnS.slC {e sz k : Nat} {v : Value} {cells : List Value} {g : Grp} (h : OwnS e sz v k cells g) (F : Heap) : SlC (F.add g) v k cells := by
  rcases h.2 with ⟨rfl, rfl, rfl⟩ | ⟨b, cap, cur, rfl, rfl, h1, h2, h3, h4⟩
  · exact ⟨none, 0, rfl, Nat.le_refl _, fun h => absurd h (by omega)⟩
  · refine ⟨_, cap, rfl, h1, fun _ => ⟨b, 0, rfl, fun j u hu => ⟨cur, e, (0, 0), Heap.add_new (p := (b, _)) (List.mem_singleton.2 rfl) (by simp), ?_⟩⟩⟩
    rw [← h4, List.getElem?_take] at hu
    split at hu
    · rw [Nat.zero_add]; simpa using hu
    · cases hu

/-! ### contracts of the library -/
theorem tr_of_below (hat : At w F []) {w' : World} (h : RowKit.Below w.heap.size w w') : Tr w F [] w' F [] :=
  ⟨h.os, h.tape, h.output, h.size, fun b hb _ => h.block b hb, fun b o hb => by
    have := hat.frz b o hb
    rw [h.block b (heap_lt this)]; exact this, (fun _ _ h => h), (fun _ _ h => .inl h), (fun _ h => by cases h), List.nodup_nil⟩

theorem ct_of_below {f : FuncId} {args : List Value} {v : Value} (h : ∀ w, At w F [] → Calls P f ⟨args⟩ w (fun e w' => e = .returned v ∧ RowKit.Below w.heap.size w w')) : Ct P f args F [] (fun _ _ u => u = v) :=
  fun w hw => (h w hw).mono fun e w' ⟨h1, h2⟩ => ⟨v, F, [], h1, tr_of_below hw h2, rfl⟩

theorem At.cel (h : At w F G) {b off : Nat} {v : Value} (hc : Cel F b off v) : w.cell? ⟨b, off, none⟩ = some v := by
  obtain ⟨c, e, f, h1, h2⟩ := hc
  exact cell_of_heap (h.frz _ _ h1) h2
end
end Go.Wk
