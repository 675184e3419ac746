/- Maps of the call's own, and maps that never turn: made, stored into, looked into. Keys: texts, whole numbers. Nothing here knows the program. -/
import Derived.Test.YtoaodbclgeeaeaaGreatDoorWk13
namespace Go.Wk
open Go
set_option linter.unusedVariables false
set_option linter.unusedSimpArgs false
set_option linter.unusedSectionVars false

/-- Keys of one kind. -/
class KeyK (d : TypeDesc) {α : Type} [DecidableEq α] (enc : α → Value) : Prop where
  same : ∀ a b, Instr.sameNow d (enc a) (enc b) = some (decide (a = b))
  bits : ∀ a, Instr.sameBits 10000 (enc a) (enc a) = true
  chk : ∀ (P : Program) (w : World) (t : TypeId) (em : Bool) (a : α), P.underlying t = some d → (Instr.checkKey em 10000 t (enc a)).run P w = .ok () w
def kS (l : List UInt8) : Value := .string (bs l)
def kI (n : Int) : Value := .int .i64 n
theorem bs_inj {a b : List UInt8} : bs a = bs b ↔ a = b := ⟨fun h => by have := congrArg (fun x => x.data.toList) h; exact this, fun h => by rw [h]⟩
theorem bs_beq (a b : List UInt8) : (bs a == bs b) = decide (a = b) := by
  show ((⟨a⟩ : Array UInt8) == ⟨b⟩) = _
  rw [Bool.eq_iff_iff]; simp
instance : KeyK .string kS where
  same a b := by
    simp only [Instr.sameNow, kS, bs_beq]
  bits a := by simp [Instr.sameBits, kS, bs_beq]
  chk P w t em a h := by
    rw [Instr.checkKey]
    simp [run_underlying h, kS]
instance : KeyK (.int .i64) kI where
  same a b := by
    simp only [Instr.sameNow, kI, if_true, Option.some.injEq]
    rw [Bool.eq_iff_iff, beq_iff_eq, decide_eq_true_eq]
  bits a := by simp [Instr.sameBits, kI]
  chk P w t em a h := by
    rw [Instr.checkKey]
    simp [run_underlying h, kI]

section
variable {α : Type} [DecidableEq α]
/-- The entries, as they were born. -/
def mEnt (enc : α → Value) : Nat → List (α × Value) → List MapEntry
  | _, [] => []
  | n, (k, v) :: r => { key := enc k, val := v, born := n } :: mEnt enc (n + 1) r
def mObj (enc : α → Value) (es : List (α × Value)) : Obj := .map ⟨mEnt enc 0 es⟩ es.length
def mGet (es : List (α × Value)) (k : α) : Option Value := (es.find? fun p => decide (k = p.1)).map (·.2)
/-- An entry is turned, or put behind. -/
def mSet : List (α × Value) → α → Value → List (α × Value)
  | [], k, v => [(k, v)]
  | (a, u) :: r, k, v => if k = a then (a, v) :: r else (a, u) :: mSet r k v
theorem mGet_set (es : List (α × Value)) (k j : α) (v : Value) : mGet (mSet es k v) j = if j = k then some v else mGet es j := by
  induction es with
  | nil => by_cases h : j = k <;> simp [mSet, mGet, h]
  | cons p r ih =>
    obtain ⟨a, u⟩ := p
    unfold mSet
    by_cases hk : k = a
    · subst hk
      rw [if_pos rfl]
      by_cases h : j = k <;> simp [mGet, h]
    · rw [if_neg hk]
      unfold mGet at ih ⊢
      by_cases h : j = a
      · subst h
        rw [if_neg (Ne.symm hk)]
        simp
      · simp only [List.find?_cons, h, decide_false]
        exact ih
theorem mSet_new {es : List (α × Value)} {k : α} {v : Value} (h : mGet es k = none) : mSet es k v = es ++ [(k, v)] := by
  induction es with
  | nil => rfl
  | cons p r ih =>
    obtain ⟨a, u⟩ := p
    unfold mGet at h ih
    by_cases hk : k = a
    · subst hk; simp at h
    · simp only [List.find?_cons, hk, decide_false] at h
      unfold mSet
      rw [if_neg hk, ih h]; rfl
theorem findNow_ent {d : TypeDesc} {enc : α → Value} [hk : KeyK d enc] (k : α) : ∀ (es : List (α × Value)) (n i : Nat),
    Instr.findNow d (enc k) (mEnt enc n es) i = some ((es.findIdx? fun p => decide (k = p.1)).map fun j => (i + j, ((es[j]?).map (·.2)).getD undef))
  | [], _, _ => rfl
  | (a, u) :: r, n, i => by
    rw [mEnt, Instr.findNow, hk.same]
    by_cases h : k = a
    · subst h; simp [List.findIdx?_cons]
    · have := findNow_ent (d := d) (enc := enc) k r (n + 1) (i + 1)
      simp only [h, decide_false]
      rw [this]
      simp only [List.findIdx?_cons, h, decide_false, Bool.false_eq_true, if_false, Option.map_map]
      congr 1
      cases hf : List.findIdx? (fun p => decide (k = p.1)) r with
      | none => rfl
      | some j => simp [Nat.add_assoc, Nat.add_comm 1 j]
theorem mGet_idx (es : List (α × Value)) (k : α) : mGet es k = (es.findIdx? fun p => decide (k = p.1)).bind fun j => (es[j]?).map (·.2) := by
  induction es with
  | nil => rfl
  | cons p r ih =>
    obtain ⟨a, u⟩ := p
    unfold mGet at ih ⊢
    by_cases h : k = a
    · subst h; simp [List.findIdx?_cons]
    · simp only [List.find?_cons, h, decide_false, List.findIdx?_cons, Bool.false_eq_true, if_false]
      rw [ih]
      cases List.findIdx? (fun p => decide (k = p.1)) r <;> simp
theorem mEnt_len (enc : α → Value) : ∀ (n : Nat) (es : List (α × Value)), (mEnt enc n es).length = es.length
  | _, [] => rfl
  | n, _ :: r => by simp [mEnt, mEnt_len enc (n + 1) r]
theorem mEnt_append (enc : α → Value) : ∀ (n : Nat) (es : List (α × Value)) (k : α) (v : Value), mEnt enc n (es ++ [(k, v)]) = mEnt enc n es ++ [{ key := enc k, val := v, born := n + es.length }]
  | n, [], k, v => rfl
  | n, _ :: r, k, v => by simp [mEnt, mEnt_append enc (n + 1) r k v, Nat.add_assoc, Nat.add_comm 1]
theorem mEnt_modify (enc : α → Value) (k : α) (v : Value) : ∀ (n : Nat) (es : List (α × Value)) (j : Nat), (es.findIdx? fun p => decide (k = p.1)) = some j →
    (mEnt enc n es).modify j (fun e => { e with key := enc k, val := v }) = mEnt enc n (mSet es k v) ∧ ((mEnt enc n es)[j]?).map (·.key) = some (enc k) ∧ (mSet es k v).length = es.length
  | n, [], j, h => by cases h
  | n, (a, u) :: r, j, h => by
    rw [List.findIdx?_cons] at h
    by_cases hk : k = a
    · subst hk
      simp at h
      subst h
      simp [mEnt, mSet]
    · simp only [hk, decide_false, Bool.false_eq_true, if_false] at h
      cases hf : List.findIdx? (fun p => decide (k = p.1)) r with
      | none => rw [hf] at h; cases h
      | some i =>
        rw [hf] at h
        simp at h
        subst h
        obtain ⟨h1, h2, h3⟩ := mEnt_modify enc k v (n + 1) r i hf
        unfold mSet
        rw [if_neg hk]
        simp [mEnt, h1, h2, h3]

variable {P : Program} {n : Sz} {L : List (Nat × Value)} {w0 : World} {F0 : Heap} {K0 : List Nat} {F : Heap} {G : List Grp} {a : Act} {w : World} {ops : Array Oper} {Q : Exit → Act → World → Prop} {rest : List Oper} {o : Oper}

theorem run_findKey {d : TypeDesc} {enc : α → Value} [hk : KeyK d enc] {kt : TypeId} (h : P.underlying kt = some d) (w : World) (es : List (α × Value)) (k : α) :
    (Instr.findKey kt (enc k) (mEnt enc 0 es)).run P w = .ok ((es.findIdx? fun p => decide (k = p.1)).map fun j => (j, ((es[j]?).map (·.2)).getD undef)) w := by
  unfold Instr.findKey
  simp only [Sem.run_bind, run_underlying h, Result.andThen_ok, findNow_ent (d := d) k es 0 0, Nat.zero_add]
  rfl
theorem run_getMap {w : World} {b : Nat} {es : Array MapEntry} {c : Nat} (h : w.heap[b]? = some (.map es c)) : (getObj b).run P w = .ok (.map es c) w := by simp [getObj, Sem.run, h]
theorem run_lookupM {d : TypeDesc} {enc : α → Value} [hk : KeyK d enc] {t kt e : TypeId} {z : Value} {sz by_ : Nat} {b : Nat} (ht : Und P t (.map kt e)) (hd : P.underlying kt = some d) (hi : Inf P e z sz by_) {w : World} {es : List (α × Value)} (hb : w.heap[b]? = some (mObj enc es)) (k : α) (ok : Bool) :
    (Instr.lookup t (.map (some b)) (enc k) ok).run P w = .ok (if ok then .tuple #[(mGet es k).getD z, .bool (mGet es k).isSome] else (mGet es k).getD z) w := by
  unfold Instr.lookup
  have hg := run_getMap (P := P) hb
  have hc := hk.chk P w kt (mEnt enc 0 es).toArray.isEmpty k hd
  simp only [Sem.run_bind, run_underlying ht.h, Result.andThen_ok, hg, Sem.run_pure, hc, run_findKey (d := d) hd w es k]
  rw [mGet_idx]
  cases hf : List.findIdx? (fun p => decide (k = p.1)) es with
  | none => simp [run_zero hi]
  | some j =>
    have hj : j < es.length := (List.findIdx?_eq_some_iff_findIdx_eq.1 hf).1
    simp [List.getElem?_eq_getElem hj]

/-- Look into a map of the call's own, or one that never turns. -/
theorem sv_lookupO {d : TypeDesc} {enc : α → Value} [hk : KeyK d enc] {x y : Operand} {t kt e : TypeId} {z : Value} {sz by_ : Nat} {b : Nat} {es : List (α × Value)} {R} {k : α} {ok : Bool} [ht : Und P t (.map kt e)] [hd : Und P kt d] [hi : Inf P e z sz by_] [hh : Has G b (mObj enc es) R]
    (S : St n L w0 F0 K0 F G a w) (ho : o.op = .lookup t x y ok) (hx : ev L x = some (.map (some b))) (hy : ev L y = some (enc k)) : SV P o a w (if ok then .tuple #[(mGet es k).getD z, .bool (mGet es k).isSome] else (mGet es k).getD z) := by
  unfold SV execOp
  rw [ho]
  simp [S.fr.eval hx, S.fr.eval hy, run_lookupM (d := d) ht hd.h hi (S.has hh) k ok]
theorem sv_lookupF {d : TypeDesc} {enc : α → Value} [hk : KeyK d enc] {x y : Operand} {t kt e : TypeId} {z : Value} {sz by_ : Nat} {b : Nat} {es : List (α × Value)} {k : α} {ok : Bool} [ht : Und P t (.map kt e)] [hd : Und P kt d] [hi : Inf P e z sz by_]
    (S : St n L w0 F0 K0 F G a w) (ho : o.op = .lookup t x y ok) (hx : ev L x = some (.map (some b))) (hy : ev L y = some (enc k)) (hb : F b = some (mObj enc es)) : SV P o a w (if ok then .tuple #[(mGet es k).getD z, .bool (mGet es k).isSome] else (mGet es k).getD z) := by
  unfold SV execOp
  rw [ho]
  simp [S.fr.eval hx, S.fr.eval hy, run_lookupM (d := d) ht hd.h hi (S.tr.frz _ _ hb) k ok]
/-- A map is made. -/
theorem wpl_makeMap {d : Nat} {t : TypeId} (enc : α → Value) (S : St n L w0 F0 K0 F G a w) (hg : o.guard = none) (hd : o.dst = some d) (ho : o.op = .makeMap t none) (hn : Nat.blt d n.sz = true)
    (k : ∀ b a' w', St n ((d, .map (some b)) :: L) w0 F0 K0 F ([(b, mObj enc [])] :: G) a' w' → wpList P ops Q rest a' w') : wpList P ops Q (o :: rest) a w := by
  refine wpList_plain hg fun K hK => ?_
  unfold Oper.wp execOp
  rw [ho]
  have hr : (Instr.makeMap t none).run P w = .ok (.map (some w.heap.size)) (w.alloc (mObj enc [])) := rfl
  simp only [Sem.run_bind, Option.map_none, hr, Result.andThen_ok, Sem.run_pure, Oper.upon_value, hd]
  exact hK _ _ (k _ _ _ (S.alloc _ hn _))
/-- An entry is stored into a map of the call's own. -/
theorem wpl_mapSet {d : TypeDesc} {enc : α → Value} [hk : KeyK d enc] {t kt e : TypeId} {x y z : Operand} {b : Nat} {es : List (α × Value)} {R} {k : α} {v : Value} [ht : Und P t (.map kt e)] [hd : Und P kt d] [hh : Has G b (mObj enc es) R]
    (S : St n L w0 F0 K0 F G a w) (hg : o.guard = none) (ho : o.op = .mapUpdate t x y z) (hdst : o.dst = none) (hx : ev L x = some (.map (some b))) (hy : ev L y = some (enc k)) (hz : ev L z = some v)
    (kk : ∀ w', St n L w0 F0 K0 F (R [(b, mObj enc (mSet es k v))]) a w' → wpList P ops Q rest a w') : wpList P ops Q (o :: rest) a w := by
  refine wpList_plain hg fun K hK => ?_
  have hb := S.has hh
  have hr : (Instr.mapUpdate t (.map (some b)) (enc k) v).run P w = .ok () (w.putObj b (mObj enc (mSet es k v))) := by
    unfold Instr.mapUpdate
    have hg := run_getMap (P := P) hb
    have hc := hk.chk P w kt false k hd.h
    simp only [Sem.run_bind, run_underlying ht.h, Result.andThen_ok, hg, Sem.run_pure, hc, run_findKey (d := d) hd.h w es k]
    cases hf : List.findIdx? (fun p => decide (k = p.1)) es with
    | none =>
      have hn : mGet es k = none := by rw [mGet_idx, hf]; rfl
      simp only [Option.map_none, mSet_new hn, mObj, mEnt_append]
      simp only [mObj] at hb
      simp [setObj, Sem.run, hb, World.putObj, Array.set!]
    | some j =>
      obtain ⟨h1, h2, h3⟩ := mEnt_modify enc k v 0 es j hf
      simp only [Option.map_some, Sem.run_bind, mObj, List.getElem?_toArray, h2, Option.getD_some]
      unfold Instr.keyThatStays
      rw [if_pos (hk.bits k)]
      simp only [Sem.run_pure, Result.andThen_ok, List.modify_toArray, h1, h3]
      simp only [mObj] at hb
      simp [setObj, Sem.run, hb, World.putObj, Array.set!]
  unfold Oper.wp execOp
  rw [ho]
  simp [S.fr.eval hx, S.fr.eval hy, S.fr.eval hz, hr, Oper.upon_skip, hdst, Act.put]
  exact hK _ _ (kk _ (S.write hh rfl rfl rfl (by simp) (World.putObj_heap_same (heap_lt hb)) fun j hj => World.putObj_heap_other hj))
theorem ct_of {f : FuncId} {args : List Value} {Post : Heap → List Grp → Value → Prop} (h : ∀ w, At w F G → Calls P f ⟨args⟩ w (fun e w' => ∃ v F' G', e = .returned v ∧ Tr w F (keys G) w' F' G' ∧ Post F' G' v)) : Ct P f args F G Post := h
/-- Own blocks that a call only reads: it may take them as memory that never turns, and they come back as they were. -/
theorem Ct.lend {f : FuncId} {args : List Value} {g : Grp} {Post : Value → Prop} (C : Ct P f args (F.add g) [] (fun _ _ v => Post v)) : Ct P f args F [g] (fun _ G' v => G' = [g] ∧ Post v) := by
  intro w hw
  have hT : Tr w F (keys [g]) w (F.add g) ([] ++ []) := Tr.freeze (G1 := []) (G2 := []) hw.tr
  have hA : At w (F.add g) [] := hT.at
  refine (C w hA).mono fun e w' ⟨v, F', G', he, ht, hp⟩ => ⟨v, F, [g], he, ?_, rfl, hp⟩
  refine ⟨ht.os, ht.tape, ht.output, ht.size, fun b hb _ => ht.old b hb (by simp [keys]), fun b o hb => ?_, fun _ _ h => h, fun _ _ h => .inl h, fun p hq => ?_, hw.nd⟩
  · have h1 := hw.frz b o hb
    rw [ht.old b (heap_lt h1) (by simp [keys])]; exact h1
  · have h1 := hw.own p hq
    refine ⟨?_, h1.2, .inr (mem_keys hq)⟩
    rw [ht.old p.1 (heap_lt h1.1) (by simp [keys])]; exact h1.1
end
end Go.Wk
