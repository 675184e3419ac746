/- Walks. -/
import Derived.Test.YtbhipiepfclneaaGreatDoorQ01
import Derived.Lib.ConvBytes
import Derived.Laws.BytesString
import Derived.StillTail
theorem qaA {α : Type _} {as bs : List α} : (as ++ bs).length = as.length + bs.length := List.length_append
theorem qaB {α : Type _} (as bs cs : List α) : as ++ bs ++ cs = as ++ (bs ++ cs) := List.append_assoc as bs cs
theorem qaC {α : Type _} {a : α} {as : List α} : (a :: as).length = as.length + 1 := List.length_cons
theorem qaD {α : Type _} : ([] : List α).length = 0 := List.length_nil
theorem qaE {α : Type _} (as : List α) : as ++ [] = as := List.append_nil as
theorem qaF {α : Type _} {l : List α} {L : List (List α)} : (l :: L).flatten = l ++ L.flatten := List.flatten_cons
theorem qaG {α : Type _} (as : List α) : [] ++ as = as := List.nil_append as
theorem qaH {α : Type _} {a : α} {l : List α} : a ∈ a :: l := List.mem_cons_self
theorem qaI {α : Type _} {i : Nat} {l : List α} : (List.take i l).length = min i l.length := List.length_take
theorem qaJ {α : Type _} {i : Nat} {l : List α} : (List.drop i l).length = l.length - i := List.length_drop
namespace Go.Wk
open Go
set_option linter.unusedSimpArgs false
set_option linter.unusedVariables false
def Cel (F : q01) (b off : Nat) (v : Value) : Prop := ∃ c e f, F b = some (.cells c e f) ∧ c[off]? = some v
def q2v (F : q01) (b off : Nat) (vs : List Value) : Prop := ∀ j v, vs[j]? = some v → Cel F b (off + j) v
class Has (G : List Grp) (b : Nat) (o : outParam Obj) (R : outParam (Grp → List Grp)) : Prop where
  h : ∃ G1 G2, G = G1 ++ [(b, o)] :: G2 ∧ ∀ g, R g = G1 ++ g :: G2
instance Has.here {b : Nat} {o : Obj} {G : List Grp} : Has ([(b, o)] :: G) b o (fun g => g :: G) := ⟨[], G, rfl, fun _ => rfl⟩
instance Has.there {b : Nat} {o : Obj} {R} {g : Grp} {G : List Grp} [h : Has G b o R] : Has (g :: G) b o (fun x => g :: R x) := by
 obtain ⟨G1, G2, e, hR⟩ := h.h
 exact ⟨g :: G1, G2, by rw [e]; rfl, fun x => by rw [hR]; rfl⟩
theorem Cel.mono {F F' : q01} (hF : ∀ b o, F b = some o → F' b = some o) {b off v} (h : Cel F b off v) : Cel F' b off v := by
 obtain ⟨c, e, f, h1, h2⟩ := h; exact ⟨c, e, f, hF _ _ h1, h2⟩
theorem cell_of_heap {w : World} {b off : Nat} {c : Array Value} {e f v} (h : w.heap[b]? = some (.cells c e f)) (hv : c[off]? = some v) : w.cell? ⟨b, off, none⟩ = some v := by
 simp [World.cell?, h, hv]
theorem addr_add (b off j : Nat) : (⟨b, off, none⟩ : Addr).add j = ⟨b, off + j, none⟩ := by
 unfold Addr.add
 split
 ·rename_i h; subst h; rfl
 ·rfl
section
variable {P : Program} {n : Sz} {L : List (Nat × Value)} {w0 : World} {F0 : q01} {K0 : List Nat} {F : q01} {G : List Grp} {a : Act} {w : World}
variable {ops : Array Oper} {Q : Exit → Act → World → Prop} {rest : List Oper} {o : Oper}
theorem St.cel (S : St n L w0 F0 K0 F G a w) {b off v} (h : Cel F b off v) : w.cell? ⟨b, off, none⟩ = some v := by
 obtain ⟨c, e, f, h1, h2⟩ := h
 exact cell_of_heap (S.tr.frz _ _ h1) h2
theorem St.has (S : St n L w0 F0 K0 F G a w) {b o R} (h : Has G b o R) : w.heap[b]? = some o := by
 obtain ⟨G1, G2, e, _⟩ := h.h
 exact (S.tr.own (b, o) (by rw [e]; simp [List.flatten_append])).1
theorem q3r {t : TypeId} (ht : One P t) : (isAgg t).run P w = .ok false w := by
 obtain ⟨d, ht, hd⟩ := ht.h
 cases d <;> simp [qum] at hd <;> simp [isAgg, run_underlying ht]
theorem qh1 {x : Operand} {t : TypeId} {b off : Nat} {v : Value} [ht : One P t] (S : St n L w0 F0 K0 F G a w) (ho : o.op = .load t x) (hx : ev L x = some (.pointer (some ⟨b, off, none⟩)))
  (hc : w.cell? ⟨b, off, none⟩ = some v) : SV P o a w v := by
 unfold SV execOp
 rw [ho]
 simp [S.fr.eval hx, Instr.loadAt, Instr.sureAddr, loadVar, q3r ht, hc]
theorem q0f {x : Operand} {t : TypeId} {b off : Nat} {v : Value} {c : List Value} {e f R} [ht : One P t] [hh : Has G b (.cells ⟨c⟩ e f) R] (S : St n L w0 F0 K0 F G a w) (ho : o.op = .load t x) (hx : ev L x = some (.pointer (some ⟨b, off, none⟩)))
  (hc : c[off]? = some v) : SV P o a w v :=
 qh1 S ho hx (cell_of_heap (S.has hh) (by simpa using hc))
theorem q05 {x : Operand} {t : TypeId} {b off : Nat} {v : Value} [ht : One P t] (S : St n L w0 F0 K0 F G a w) (ho : o.op = .load t x) (hx : ev L x = some (.pointer (some ⟨b, off, none⟩)))
  (hc : Cel F b off v) : SV P o a w v :=
 qh1 S ho hx (S.cel hc)
theorem q9z {t : TypeId} (ht : Ag P t) : (isAgg t).run P w = .ok true w := by
 obtain ⟨d, ht, hd⟩ := ht.h
 cases d <;> simp [quk] at hd <;> simp [isAgg, run_underlying ht]
theorem run_sizeOf {t : TypeId} {z : Value} {sz by_ : Nat} (hi : Inf P t z sz by_) : (sizeOf t).run P w = .ok sz w := by
 obtain ⟨i, h1, h2, h3, h4⟩ := hi.h
 simp [sizeOf, typeInfo, h1, h3]
theorem q4q {t : TypeId} {z : Value} {sz by_ : Nat} (hi : Inf P t z sz by_) : (zeroValue t).run P w = .ok z w := by
 obtain ⟨i, h1, h2, h3, h4⟩ := hi.h
 simp [zeroValue, typeInfo, h1, h2]
theorem qhm {x : Operand} {t : TypeId} {z : Value} {sz by_ b off : Nat} {vs : List Value} [ht : Ag P t] [hi : Inf P t z sz by_] (S : St n L w0 F0 K0 F G a w) (ho : o.op = .load t x) (hx : ev L x = some (.pointer (some ⟨b, off, none⟩)))
  (hl : vs.length = sz) (hc : ∀ j v, vs[j]? = some v → w.cell? ⟨b, off + j, none⟩ = some v) : SV P o a w (.agg ⟨vs⟩) := by
 unfold SV execOp
 rw [ho]
 have h1 := run_loadCells_list (P := P) w ⟨b, off, none⟩ vs (fun j v hj => by rw [addr_add]; exact hc j v hj)
 rw [hl] at h1
 simp [S.fr.eval hx, Instr.loadAt, Instr.sureAddr, loadVar, q9z ht, run_sizeOf hi, h1]
theorem q18 {x : Operand} {t : TypeId} {z : Value} {sz by_ b off : Nat} {vs : List Value} [ht : Ag P t] [hi : Inf P t z sz by_] (S : St n L w0 F0 K0 F G a w) (ho : o.op = .load t x) (hx : ev L x = some (.pointer (some ⟨b, off, none⟩)))
  (hc : q2v F b off vs) (hl : vs.length = sz) : SV P o a w (.agg ⟨vs⟩) :=
 qhm S ho hx hl fun j v hj => S.cel (hc j v hj)
theorem q1v {x : Operand} {t : TypeId} {z : Value} {sz by_ b off : Nat} {c : List Value} {e f R} [ht : Ag P t] [hi : Inf P t z sz by_] [hh : Has G b (.cells ⟨c⟩ e f) R] (S : St n L w0 F0 K0 F G a w) (ho : o.op = .load t x) (hx : ev L x = some (.pointer (some ⟨b, off, none⟩)))
  (hl : Nat.ble (off + sz) c.length = true) : SV P o a w (.agg ⟨(c.drop off).take sz⟩) := by
 have hl' : off + sz ≤ c.length := Nat.le_of_ble_eq_true hl
 refine qhm S ho hx (by simp; omega) fun j v hj => ?_
 refine cell_of_heap (S.has hh) ?_
 have hjl : j < sz := by
  have := (List.getElem?_eq_some_iff.1 hj).1
  simp at this; omega
 rw [List.getElem?_take, if_pos hjl, List.getElem?_drop] at hj
 simpa using hj
theorem q0w {x : Operand} {t : TypeId} {fs : List (Nat × TypeId)} {i b off fo : Nat} {ft : TypeId} {z : Value} {sz by_ : Nat} [ht : qkq P t fs] (S : St n L w0 F0 K0 F G a w) (ho : o.op = .fieldAddr t x i) (hx : ev L x = some (.pointer (some ⟨b, off, none⟩)))
  (hf : fs[i]? = some (fo, ft)) (hi : Inf P ft z sz by_) (hsz : Nat.beq sz 0 = false) : SV P o a w (.pointer (some ⟨b, off + fo, none⟩)) := by
 obtain ⟨fields, h1, h2⟩ := ht.h
 have hne : sz ≠ 0 := fun h => by subst h; simp at hsz
 rw [← h2, List.getElem?_map] at hf
 obtain ⟨f, hf', he⟩ := Option.map_eq_some_iff.1 hf
 simp only [Prod.mk.injEq] at he
 obtain ⟨rfl, rfl⟩ := he
 have hf2 : fields[i]? = some f := by simpa using hf'
 unfold SV execOp
 rw [ho]
 simp [S.fr.eval hx, Instr.fieldAt, Instr.sureAddr, run_underlying h1, hf2, fieldPlace, run_sizeOf hi, hne, addr_add]
theorem q28 {x y : Operand} {t e : TypeId} {b off m c i : Nat} {k : IntKind} {z : Value} {sz by_ : Nat} [ht : Und P t (.slice e)] [hi : Inf P e z sz by_] (S : St n L w0 F0 K0 F G a w) (ho : o.op = .indexAddr t x y) (hx : ev L x = some (.slice (some ⟨b, off, none⟩) m c)) (hy : ev L y = some (.int k (Int.ofNat i)))
  (hb : i < m) : SV P o a w (.pointer (some ⟨b, off + i * sz, none⟩)) := by
 unfold SV execOp
 rw [ho]
 have h0 : (0 : Int) ≤ Int.ofNat i ∧ Int.ofNat i < (m : Int) := ⟨Int.natCast_nonneg i, by exact Int.ofNat_lt.2 hb⟩
 simp [S.fr.eval hx, S.fr.eval hy, Instr.indexAt, asIntOf, run_underlying ht.h, run_sizeOf hi, addr_add, hb]
theorem q0i {x y : Operand} {t e : TypeId} {b off m i : Nat} {k : IntKind} {z : Value} {sz by_ : Nat} [ht : Und P t (.array m e)] [hi : Inf P e z sz by_] (S : St n L w0 F0 K0 F G a w) (ho : o.op = .indexAddr t x y) (hx : ev L x = some (.pointer (some ⟨b, off, none⟩))) (hy : ev L y = some (.int k (Int.ofNat i)))
  (hb : i < m) : SV P o a w (.pointer (some ⟨b, off + i * sz, none⟩)) := by
 unfold SV execOp
 rw [ho]
 simp [S.fr.eval hx, S.fr.eval hy, Instr.indexAt, Instr.sureAddr, asIntOf, run_underlying ht.h, run_sizeOf hi, addr_add, hb]
theorem St.alloc (S : St n L w0 F0 K0 F G a w) (o : Obj) {d : Nat} (hd : Nat.blt d n.sz = true) (v : Value) : St n ((d, v) :: L) w0 F0 K0 F ([(w.heap.size, o)] :: G) (a.put (some d) v) (w.alloc o) := ⟨S.fr.put v hd, S.tr.alloc o⟩
theorem q0a {d : Nat} {t : TypeId} {z : Value} {sz by_ : Nat} [hi : Inf P t z sz by_] (S : St n L w0 F0 K0 F G a w) (hg : o.guard = none) (hd : o.dst = some d) (ho : o.op = .alloc t) (hn : Nat.blt d n.sz = true)
  (k : ∀ b a' w', St n ((d, .pointer (some ⟨b, 0, none⟩)) :: L) w0 F0 K0 F ([(b, .cells ⟨z.cells.toList⟩ t (0, 0))] :: G) a' w' → wpList P ops Q rest a' w') : wpList P ops Q (o :: rest) a w := by
 refine wpList_plain hg fun K hK => ?_
 unfold Oper.wp execOp
 rw [ho]
 simp [Instr.alloc, q4q hi, newVar, newRow, Oper.upon_value, hd]
 exact hK _ _ (k _ _ _ (S.alloc _ hn _))
theorem qxr {d : Nat} {t : TypeId} {x : Operand} {v : Value} (S : St n L w0 F0 K0 F G a w) (hg : o.guard = none) (hd : o.dst = some d) (ho : o.op = .box t x) (hn : Nat.blt d n.sz = true) (hx : ev L x = some v)
  (k : ∀ b a' w', St n ((d, .pointer (some ⟨b, 0, none⟩)) :: L) w0 F0 K0 F ([(b, .cells ⟨v.cells.toList⟩ t (0, 0))] :: G) a' w' → wpList P ops Q rest a' w') : wpList P ops Q (o :: rest) a w := by
 refine wpList_plain hg fun K hK => ?_
 unfold Oper.wp execOp
 rw [ho]
 simp [Instr.box, S.fr.eval hx, newVar, newRow, Oper.upon_value, hd]
 exact hK _ _ (k _ _ _ (S.alloc _ hn _))
theorem St.write (S : St n L w0 F0 K0 F G a w) {b : Nat} {o o' : Obj} {R} (h : Has G b o R) {w' : World} (hos : w'.os = w.os) (ht : w'.tape = w.tape) (hout : w'.output = w.output)
  (hs : w'.heap.size = w.heap.size) (hb : w'.heap[b]? = some o') (hother : ∀ k, k ≠ b → w'.heap[k]? = w.heap[k]?) : St n L w0 F0 K0 F (R [(b, o')]) a w' := by
 obtain ⟨G1, G2, e, hR⟩ := h.h
 refine ⟨S.fr, ?_⟩
 rw [hR]
 have := S.tr
 rw [e] at this
 exact this.write hos ht hout hs hb hother
theorem q81 {t : TypeId} {x y : Operand} {z : Value} {sz by_ : Nat} {v : Value} {b off : Nat} {c : List Value} {e : TypeId} {R} [hi : Inf P t z sz by_] [hh : Has G b (.cells ⟨c⟩ e (0, 0)) R] (S : St n L w0 F0 K0 F G a w) (hg : o.guard = none) (ho : o.op = .store t x y) (hd : o.dst = none)
  (hx : ev L x = some (.pointer (some ⟨b, off, none⟩))) (hy : ev L y = some v) (hv : v.cells.toList.length = sz) (h1 : ∀ u ∈ v.cells.toList, u.oneCell' = true) (hl : Nat.ble (off + sz) c.length = true)
  (k : ∀ w', St n L w0 F0 K0 F (R [(b, .cells ⟨c.take off ++ v.cells.toList ++ c.drop (off + sz)⟩ e (0, 0))]) a w' → wpList P ops Q rest a w') : wpList P ops Q (o :: rest) a w := by
 refine wpList_plain hg fun K hK => ?_
 have hhb := S.has hh
 have hl' : off + sz ≤ c.length := Nat.le_of_ble_eq_true hl
 have hst := run_storeCells_at P b off e v.cells.toList 0 ⟨c⟩ w hhb (by rw [hv]; simpa using hl') h1
 simp only [Nat.add_zero, hv] at hst
 obtain ⟨row, hrow⟩ : ∃ r : Array Value, r = ⟨c.take off ++ v.cells.toList ++ c.drop (off + sz)⟩ := ⟨_, rfl⟩
 rw [show (List.take off c ++ v.cells.toList ++ List.drop (off + sz) c).toArray = row from hrow.symm] at hst
 have hsz : v.cells.size = sz := by simpa using hv
 unfold Oper.wp execOp
 rw [ho]
 simp [S.fr.eval hx, S.fr.eval hy, Instr.storeAt, Instr.sureAddr, storeVar, run_sizeOf hi, hsz, hst, Oper.upon_skip, hd, Act.put]
 have hw := S.write hh (w' := w.setRow b row) rfl rfl rfl (by simp [World.setRow]) (setRow_heap w b _ row e _ hhb) fun k hk => setRow_other w b k _ hk
 rw [hrow] at hw
 rw [hrow]
 exact hK _ _ (k _ hw)
theorem q0e {t : TypeId} {x y : Operand} {z : Value} {by_ : Nat} {v : Value} {b off : Nat} {c : List Value} {e : TypeId} {R} [hi : Inf P t z 1 by_] [hh : Has G b (.cells ⟨c⟩ e (0, 0)) R] (S : St n L w0 F0 K0 F G a w) (hg : o.guard = none) (ho : o.op = .store t x y) (hd : o.dst = none)
  (hx : ev L x = some (.pointer (some ⟨b, off, none⟩))) (hy : ev L y = some v) (h1 : v.oneCell' = true) (hl : off < c.length)
  (k : ∀ w', St n L w0 F0 K0 F (R [(b, .cells ⟨c.set off v⟩ e (0, 0))]) a w' → wpList P ops Q rest a w') : wpList P ops Q (o :: rest) a w := by
 have hc : v.cells = #[v] := by cases v <;> first | rfl | (simp [Value.oneCell'] at h1)
 refine q81 S hg ho hd hx hy (by rw [hc]; rfl) (fun u hu => by rw [hc] at hu; simp at hu; subst hu; exact h1) (by rw [Nat.ble_eq]; omega) fun w' S' => ?_
 rw [hc, show c.take off ++ #[v].toList ++ c.drop (off + 1) = c.set off v by simp [List.set_eq_take_append_cons_drop, hl]] at S'
 exact k w' S'
def Ct (P : Program) (f : FuncId) (args : List Value) (F : q01) (G : List Grp) (Post : q01 → List Grp → Value → Prop) : Prop :=
 ∀ w, At w F G → Calls P f ⟨args⟩ w (fun e w' => ∃ v F' G', e = .returned v ∧ Tr w F (keys G) w' F' G' ∧ Post F' G' v)
theorem Ct.mono {f args Post Post'} (h : Ct P f args F G Post) (hp : ∀ F' G' v, Post F' G' v → Post' F' G' v) : Ct P f args F G Post' :=
 fun w hw => (h w hw).mono fun _ _ ⟨v, F', G', h1, h2, h3⟩ => ⟨v, F', G', h1, h2, hp _ _ _ h3⟩
theorem q8l {f : FuncId} (hf : q0b P f) (args : Array Value) : (callFunc f args).run P w = .ok (.enter f args) w := by
 obtain ⟨fn, c, h1, h2, h3⟩ := hf.h
 simp only [callFunc, Sem.run_bind, run_program, Result.andThen_ok, h1]
 simp only [h2]
 simp [h3]
theorem q2p {d : Nat} {x : Operand} {xs : Array Operand} {ts : Array TypeId} {f : FuncId} {fi ca vs args : List Value} {Gs Gr : List Grp} {Post} [hf : q0b P f] (S : St n L w0 F0 K0 F G a w) (hg : o.guard = none) (hd : o.dst = some d) (hn : Nat.blt d n.sz = true)
  (ho : o.op = .call { callee := .value x, args := xs, argTypes := ts }) (hx : ev L x = some (.func (.func f) ⟨fi⟩ ⟨ca⟩)) (hxs : evs L xs.toList = some vs) (C : Ct P f args F Gs Post) (ha : fi ++ vs ++ ca = args) (hp : G.flatten.Perm (Gs.flatten ++ Gr.flatten))
  (k : ∀ v F' G' a' w', Post F' G' v → (∀ b o, F b = some o → F' b = some o) → St n ((d, v) :: L) w0 F0 K0 F' (G' ++ Gr) a' w' → wpList P ops Q rest a' w') : wpList P ops Q (o :: rest) a w := by
 refine wpList_plain hg fun K hK => ?_
 have e1 : xs.map a.eval = ⟨vs⟩ := by
  have := S.fr.evals hxs
  apply Array.ext'; simpa using this
 unfold Oper.wp execOp
 rw [ho]
 have ea : (⟨fi⟩ : Array Value) ++ (⟨vs⟩ : Array Value) ++ (⟨ca⟩ : Array Value) = ⟨args⟩ := by rw [← ha]; apply Array.ext'; simp
 simp only [resolve, S.fr.eval hx, Deferred.ofValue, e1, Sem.run_bind, Sem.run_pure, Result.andThen_ok, invoke, q8l hf, Oper.upon_enter, ea]
 refine (C w (S.tr.at_sub hp)).mono ?_
 rintro e w' ⟨v, F', G', rfl, h2, h3⟩
 rw [hd]
 exact hK _ _ (k v F' G' _ w' h3 h2.ext ⟨S.fr.put v hn, S.tr.call hp h2⟩)
theorem Tr.shrink {F' : q01} (h : Tr w0 F0 K0 w F' G) (hs : ∀ b o, F b = some o → F' b = some o) (h0 : ∀ b o, F0 b = some o → F b = some o) : Tr w0 F0 K0 w F G :=
 ⟨h.os, h.tape, h.output, h.size, h.old, fun b o e => h.frz b o (hs b o e), h0, fun b o e => h.fresh b o (hs b o e), fun p hp => by
  obtain ⟨x, y, z⟩ := h.own p hp
  refine ⟨x, ?_, z⟩
  cases hF : F p.1 with
  | none => rfl
  | some u => exact absurd (hs _ _ hF) (by rw [y]; simp), h.nd⟩
theorem qnz {d : Nat} {x : Operand} {xs : Array Operand} {ts : Array TypeId} {f : FuncId} {fi ca vs args : List Value} {Post : Value → Prop} [hf : q0b P f] (S : St n L w0 F0 K0 F G a w) (hg : o.guard = none) (hd : o.dst = some d) (hn : Nat.blt d n.sz = true)
  (ho : o.op = .call { callee := .value x, args := xs, argTypes := ts }) (hx : ev L x = some (.func (.func f) ⟨fi⟩ ⟨ca⟩)) (hxs : evs L xs.toList = some vs) (C : Ct P f args F [] (fun _ _ v => Post v)) (ha : fi ++ vs ++ ca = args)
  (k : ∀ v a' w', Post v → St n ((d, v) :: L) w0 F0 K0 F G a' w' → wpList P ops Q rest a' w') : wpList P ops Q (o :: rest) a w := by
 refine q2p (Gs := []) (Gr := G) S hg hd hn ho hx hxs C ha (by simp) fun v F' G' a' w' hv hF S' => ?_
 refine k v a' w' hv ⟨S'.fr, ?_⟩
 exact Tr.shrink (S'.tr.sub (by rw [List.flatten_append]; exact List.sublist_append_right _ _)) hF S.tr.ext
theorem Ct.enter {f : FuncId} {fn : Func} {c : Code} {args : List Value} {k : Nat} {Post} (hf : P.funcs[f]? = some fn) (hb : fn.body = some c) (hn : fn.ntmps = k) (hl : Nat.ble args.length k = true)
  (h : ∀ w a, St (OfNat.ofNat k) (number 0 args) w F (keys G) F G a w → c.wp P (bodyPost P fn (fun e w' => ∃ v F' G', e = .returned v ∧ Tr w F (keys G) w' F' G' ∧ Post F' G' v)) a w) : Ct P f args F G Post := by
 intro w hw
 have hl' := Nat.le_of_ble_eq_true hl
 refine calls_of_wp hf hb (h w _ ⟨⟨?_, rfl, fun t v e => ?_⟩, hw.tr⟩)
 ·show _ = k
  simp [hn]; omega
 ·obtain ⟨_, h2⟩ := q4t _ _ _ _ e
  simp only [Nat.sub_zero] at h2
  have := (List.getElem?_eq_some_iff.1 h2).1
  rw [Array.getElem?_append_left (by simpa using this)]
  simpa using h2
def qod (a : Act) : ResultVar → Sem Value
 | .tmp t => pure (a.tmps.getD t undef)
 | .cell x t => do loadVar t (← asAddr (a.tmps.getD x undef))
def RV (P : Program) (a : Act) (w : World) (r : ResultVar) (v : Value) : Prop := (qod a r).run P w = .ok v w
theorem q5p (fn : Func) (a : Act) : results fn a.tmps = (do let vs ← fn.results.mapM (qod a); pure (if h : vs.size = 1 then vs[0] else .tuple vs)) := by
 unfold results
 congr 1
theorem RV.tmp (S : St n L w0 F0 K0 F G a w) {t : Nat} {v : Value} (h : look L t = some v) : RV P a w (.tmp t) v := by
 have := S.fr.eval (x := .tmp t) h
 simp only [Act.eval] at this
 simp [RV, qod, this]
theorem RV.cell (S : St n L w0 F0 K0 F G a w) {x : Nat} {t : TypeId} {z : Value} {sz by_ b off : Nat} {vs : List Value} [ht : Ag P t] [hi : Inf P t z sz by_] (h : look L x = some (.pointer (some ⟨b, off, none⟩)))
  (hl : vs.length = sz) (hc : ∀ j v, vs[j]? = some v → w.cell? ⟨b, off + j, none⟩ = some v) : RV P a w (.cell x t) (.agg ⟨vs⟩) := by
 have := S.fr.eval (x := .tmp x) h
 simp only [Act.eval] at this
 have h1 := run_loadCells_list (P := P) w ⟨b, off, none⟩ vs (fun j v hj => by rw [addr_add]; exact hc j v hj)
 rw [hl] at h1
 simp [RV, qod, this, asAddr, loadVar, q9z ht, run_sizeOf hi, h1]
theorem RV.cellO (S : St n L w0 F0 K0 F G a w) {x : Nat} {t : TypeId} {z : Value} {sz by_ b : Nat} {c : List Value} {e f R} [ht : Ag P t] [hi : Inf P t z sz by_] [hh : Has G b (.cells ⟨c⟩ e f) R] (h : look L x = some (.pointer (some ⟨b, 0, none⟩)))
  (hl : c.length = sz) : RV P a w (.cell x t) (.agg ⟨c⟩) :=
 RV.cell S h hl fun j v hj => cell_of_heap (S.has hh) (by simpa using hj)
theorem RV.cell1O (S : St n L w0 F0 K0 F G a w) {x : Nat} {t : TypeId} {b off : Nat} {v : Value} {c : List Value} {e f R} [ht : One P t] [hh : Has G b (.cells ⟨c⟩ e f) R] (h : look L x = some (.pointer (some ⟨b, off, none⟩)))
  (hc : c[off]? = some v) : RV P a w (.cell x t) v := by
 have := S.fr.eval (x := .tmp x) h
 simp only [Act.eval] at this
 have h2 := cell_of_heap (S.has hh) (off := off) (v := v) (by simpa using hc)
 simp [RV, qod, this, asAddr, loadVar, q3r ht, h2]
theorem q0x {fn : Func} (h : fn.results = #[]) : (results fn a.tmps).run P w = .ok (.tuple #[]) w := by simp [q5p, h]
theorem q0c {fn : Func} {r : ResultVar} {v : Value} (h : fn.results = #[r]) (h1 : RV P a w r v) : (results fn a.tmps).run P w = .ok v w := by
 unfold RV at h1
 simp [q5p, h, h1]
theorem q0v {fn : Func} {r s : ResultVar} {v u : Value} (h : fn.results = #[r, s]) (h1 : RV P a w r v) (h2 : RV P a w s u) : (results fn a.tmps).run P w = .ok (.tuple #[v, u]) w := by
 unfold RV at h1 h2
 simp [q5p, h, h1, h2]
theorem q6x {fn : Func} {r s q : ResultVar} {v u x : Value} (h : fn.results = #[r, s, q]) (h1 : RV P a w r v) (h2 : RV P a w s u) (h3 : RV P a w q x) : (results fn a.tmps).run P w = .ok (.tuple #[v, u, x]) w := by
 unfold RV at h1 h2 h3
 simp [q5p, h, h1, h2, h3]
theorem q08 {fn : Func} {Post : q01 → List Grp → Value → Prop} {v : Value} (S : St n L w0 F0 K0 F G a w) (h : (results fn a.tmps).run P w = .ok v w) (hp : Post F G v) (hds : n.ds = [] := by rfl) :
  bodyPost P fn (fun e w' => ∃ v F' G', e = .returned v ∧ Tr w0 F0 K0 w' F' G' ∧ Post F' G' v) .ret a w := ⟨S.fr.df.trans hds, v, h, v, F, G, rfl, S.tr, hp⟩
theorem q1m {fn : Func} {Post : q01 → List Grp → Value → Prop} {v : Value} (S : St n L w0 F0 K0 F G a w) (h : (results fn a.tmps).run P w = .ok v w) (hp : Post F G v) (hds : n.ds = [] := by rfl) :
  bodyPost P fn (fun e w' => ∃ v F' G', e = .returned v ∧ Tr w0 F0 K0 w' F' G' ∧ Post F' G' v) .normal a w := ⟨S.fr.df.trans hds, v, h, v, F, G, rfl, S.tr, hp⟩
theorem q0h {c : Operand} {x y : Code} (S : St n L w0 F0 K0 F G a w) (hc : ev L c = some (.bool true)) (h : x.wp P Q a w) : (Code.cond c x y).wp P Q a w := wp_cond_true (S.fr.eval hc) h
theorem q03 {c : Operand} {x y : Code} (S : St n L w0 F0 K0 F G a w) (hc : ev L c = some (.bool false)) (h : y.wp P Q a w) : (Code.cond c x y).wp P Q a w := wp_cond_false (S.fr.eval hc) h
theorem q0l {c : Operand} {x y : Code} {t : Bool} (S : St n L w0 F0 K0 F G a w) (hc : ev L c = some (.bool t)) (ht : t = true → x.wp P Q a w) (hf : t = false → y.wp P Q a w) : (Code.cond c x y).wp P Q a w := wp_cond_split (S.fr.eval hc) ht hf
theorem least {p : Nat → Prop} (h : ∃ m, p m) : ∃ m, p m ∧ ∀ k, p k → m ≤ k := by
 obtain ⟨m, hm⟩ := h
 induction m using Nat.strongRecOn with
 | _ m ih =>
  by_cases hk : ∃ k, k < m ∧ p k
  ·obtain ⟨k, hlt, hp⟩ := hk
   exact ih k hlt hp
  ·exact ⟨m, hm, fun k hp => by
    rcases Nat.lt_or_ge k m with h | h
    ·exact absurd ⟨k, h, hp⟩ hk
    ·exact h⟩
open Classical in
theorem q04 {c : Code} (I : Nat → Act → World → Prop) (h₀ : ∃ m, I m a w)
  (round : ∀ m a w, I m a w → c.wp P (Exit.then (fun a' w' => ∃ m', m' < m ∧ I m' a' w') Q) a w) : (Code.loop c).wp P Q a w := by
 let μ : Act → World → Nat := fun a w => if h : ∃ m, I m a w then Classical.choose (least h) else 0
 refine wp_loop (fun a w => ∃ m, I m a w) μ h₀ fun a w hI => ?_
 have hμ : I (μ a w) a w := by simp only [μ, dif_pos hI]; exact (Classical.choose_spec (least hI)).1
 refine wp_mono (round _ a w hμ) fun e a' w' h => ?_
 cases e <;> try exact h
 obtain ⟨m', hm, hI'⟩ := h
 refine ⟨⟨m', hI'⟩, ?_⟩
 have : μ a' w' ≤ m' := by
  have hex : ∃ m, I m a' w' := ⟨m', hI'⟩
  simp only [μ, dif_pos hex]
  exact (Classical.choose_spec (least hex)).2 _ hI'
 omega
end
def q0u (e size : Nat) (v : Value) (k : Nat) (xs : List Value) (g : Grp) : Prop :=
 xs.length = k * size ∧ ((v = .slice none 0 0 ∧ k = 0 ∧ g = []) ∨
  ∃ b cap cur, v = .slice (some ⟨b, 0, none⟩) k cap ∧ g = [(b, .cells cur e (0, 0))] ∧ k ≤ cap ∧ cap ≤ maxLen ∧ cur.size = cap * size ∧ cur.toList.take (k * size) = xs)
theorem q0u.nil (e size : Nat) : q0u e size (.slice none 0 0) 0 [] [] := ⟨by simp, .inl ⟨rfl, rfl, rfl⟩⟩
theorem q0u.oneCell {e size v k xs g} (h : q0u e size v k xs g) : v.oneCell' = true := by
 rcases h.2 with ⟨rfl, _⟩ | ⟨b, cap, cur, rfl, _⟩ <;> rfl
def idx {α : Type} : Nat → List α → List (Nat × α)
 | _, [] => []
 | k, x :: r => (k, x) :: idx (k + 1) r
def qgv {α : Type} : Nat → List (Nat × α) → Option (List α)
 | _, [] => some []
 | k, p :: r => match Nat.beq p.1 k, qgv (k + 1) r with
  | true, some l => some (p.2 :: l)
  | _, _ => none
theorem qca {α : Type} : ∀ {l : List (Nat × α)} {k : Nat} {xs : List α}, qgv k l = some xs → l = idx k xs
 | [], k, xs, h => by simp only [qgv, Option.some.injEq] at h; subst h; rfl
 | p :: r, k, xs, h => by
  simp only [qgv] at h
  split at h
  ·rename_i l hb hl
   simp only [Option.some.injEq] at h
   subst h
   have := Nat.eq_of_beq_eq_true hb
   simp only [idx]
   rw [← qca hl, ← this]
  ·cases h
theorem foldl_set (off : Nat) : ∀ (vs : List Value) (j : Nat) (cells : Array Value), off + j + vs.length ≤ cells.size →
  (vs.zipIdx j).foldl (fun cs (p : Value × Nat) => cs.setIfInBounds (off + p.2) p.1) cells = ⟨cells.toList.take (off + j) ++ vs ++ cells.toList.drop (off + j + vs.length)⟩
 | [], j, cells, _ => by simp
 | v :: r, j, cells, h => by
  simp only [qaC] at h
  rw [List.zipIdx_cons, List.foldl_cons, foldl_set off r (j + 1) _ (by simp; omega)]
  congr 1
  have := list_seg_step cells.toList (off + j) v r (by simp; omega)
  simp only [Array.toList_setIfInBounds]
  rw [show off + (j + 1) = off + j + 1 from rfl]
  rw [this]
  simp
theorem qif (off : Nat) (v : Value) (cells : Array Value) (h : off + v.cells.size ≤ cells.size) :
  v.cells.zipIdx.foldl (fun cs (p : Value × Nat) => cs.setIfInBounds (off + p.2) p.1) cells = ⟨cells.toList.take off ++ v.cells.toList ++ cells.toList.drop (off + v.cells.size)⟩ := by
 rw [← Array.foldl_toList, Array.toList_zipIdx]
 have := foldl_set off v.cells.toList 0 cells (by simpa using h)
 simpa using this
theorem q91 (size : Nat) : ∀ (vs : List Value) (k : Nat) (cells : Array Value), (∀ v ∈ vs, v.cells.toList.length = size) → cells.size = (k + vs.length) * size →
  Instr.fill (fun i => some (i * size, size)) cells (idx k vs) = some ⟨cells.toList.take (k * size) ++ vs.flatMap (·.cells.toList)⟩
 | [], k, cells, _, hs => by
  simp only [idx, Instr.fill, List.flatMap_nil, qaE]
  rw [List.take_of_length_le (by simp at hs ⊢; omega)]
 | v :: r, k, cells, hv, hs => by
  have hvs : v.cells.size = size := by have := hv v (by simp); simpa using this
  simp only [qaC] at hs
  have e1 : (k + (r.length + 1)) * size = k * size + size + r.length * size := by rw [Nat.add_mul, Nat.add_mul]; omega
  have hle : k * size + v.cells.size ≤ cells.size := by rw [hvs, hs, e1]; omega
  simp only [idx, Instr.fill]
  rw [if_neg (by simp [hvs]; rw [hvs] at hle; omega)]
  rw [qif _ _ _ hle]
  rw [q91 size r (k + 1) _ (fun u hu => hv u (by simp [hu]))]
  ·congr 2
   simp only [List.flatMap_cons]
   rw [← qaB]
   congr 1
   have hl : (cells.toList.take (k * size) ++ v.cells.toList).length = (k + 1) * size := by
    rw [qaA, qaI, Array.length_toList, Array.length_toList, hvs, Nat.add_mul]; omega
   rw [← hl]
   exact List.take_left
  ·simp only [List.size_toArray, qaA, qaI, qaJ, Array.length_toList]
   rw [hvs] at hle ⊢
   rw [hs, e1, Nat.add_mul, Nat.add_mul]
   omega
section
variable {P : Program} {n : Sz} {L : List (Nat × Value)} {w0 : World} {F0 : q01} {K0 : List Nat} {F : q01} {G : List Grp} {a : Act} {w : World}
variable {ops : Array Oper} {Q : Exit → Act → World → Prop} {rest : List Oper} {o o1 o2 : Oper}
theorem run_buildSlice {t e : TypeId} {z : Value} {sz by_ : Nat} (ht : Und P t (.slice e)) (hi : Inf P e z sz by_) (hz : z.cells.toList.length = sz) (vs : List Value) (hv : ∀ v ∈ vs, v.cells.toList.length = sz) (hb : vs.length * sz ≤ 16777216) :
  (Instr.buildSlice t vs.length (idx 0 vs).toArray).run P w = .ok (.slice (some ⟨w.heap.size, 0, none⟩) vs.length vs.length) (w.alloc (.cells ⟨vs.flatMap (·.cells.toList)⟩ e)) := by
 have h1 : ¬ (16777216 < vs.length * sz) := by omega
 have hzs : z.cells.size = sz := by simpa using hz
 unfold Instr.buildSlice
 simp only [Sem.run_bind, run_underlying ht.h, Result.andThen_ok, run_sizeOf hi, Sem.run_ite]
 simp only [Nat.reducePow, gt_iff_lt, h1, if_false]
 by_cases h0 : vs.length * sz = 0
 ·have hf := q91 sz vs 0 ((Array.range (vs.length * sz)).map (#[][· % (#[] : Array Value).size]!)) hv (by simp)
  simp only [h0, if_true, Sem.run_pure, Result.andThen_ok]
  rw [h0] at hf
  simp only [hf]
  simp [newRow]
 ·have hf := q91 sz vs 0 ((Array.range (vs.length * sz)).map (z.cells[· % z.cells.size]!)) hv (by simp)
  simp only [h0, if_false, q4q hi, Sem.run_pure, Result.andThen_ok]
  simp only [hf]
  simp [newRow]
theorem qnh {α β : Type} (f : α → β) : ∀ (l : List α) (k : Nat), (idx k l).map (fun p => (p.1, f p.2)) = idx k (l.map f)
 | [], _ => rfl
 | x :: r, k => by simp [idx, qnh f r]
theorem St.evalParts (S : St n L w0 F0 K0 F G a w) {parts : Array (Nat × Operand)} {xs : List Operand} {vs : List Value} (hp : parts.toList = idx 0 xs) (h : evs L xs = some vs) :
  (parts.map fun (i, x) => (i, a.eval x)) = (idx 0 vs).toArray := by
 apply Array.ext'
 have h1 := S.fr.evals h
 have h2 := qnh a.eval xs 0
 rw [h1] at h2
 simp only [Array.toList_map, hp]
 exact h2
theorem q0d {d : Nat} {t e : TypeId} {m : Nat} {parts : Array (Nat × Operand)} {xs : List Operand} {vs : List Value} {z : Value} {sz by_ : Nat} [ht : Und P t (.slice e)] [hi : Inf P e z sz by_] (S : St n L w0 F0 K0 F G a w) (hg : o.guard = none) (hd : o.dst = some d) (hn : Nat.blt d n.sz = true)
  (ho : o.op = .buildSlice t m parts) (hp : qgv 0 parts.toList = some xs) (hxs : evs L xs = some vs) (hz : z.cells.toList.length = sz) (hv : ∀ v ∈ vs, v.cells.toList.length = sz) (hm : vs.length = m) (hb : Nat.ble (m * sz) 16777216 = true) (hsz : Nat.blt 0 sz = true)
  (k : ∀ b a' w', q0u e sz (.slice (some ⟨b, 0, none⟩) m m) m (vs.flatMap (·.cells.toList)) [(b, .cells ⟨vs.flatMap (·.cells.toList)⟩ e (0, 0))] → St n ((d, .slice (some ⟨b, 0, none⟩) m m) :: L) w0 F0 K0 F ([(b, .cells ⟨vs.flatMap (·.cells.toList)⟩ e (0, 0))] :: G) a' w' → wpList P ops Q rest a' w') : wpList P ops Q (o :: rest) a w := by
 refine wpList_plain hg fun K hK => ?_
 subst hm
 have hb' := Nat.le_of_ble_eq_true hb
 have hr := run_buildSlice (P := P) (w := w) ht hi hz vs hv hb'
 have hl : (vs.flatMap (·.cells.toList)).length = vs.length * sz := by
  clear hr hxs k hb hb' ho
  induction vs with
  | nil => simp
  | cons v r ih =>
   rw [List.flatMap_cons, qaA, ih (fun u hu => hv u (by simp [hu])), hv v (by simp), qaC, Nat.add_mul]; omega
 have hml : vs.length ≤ maxLen := by
  have h0 : 0 < sz := by simpa [Nat.blt_eq] using hsz
  have : vs.length ≤ vs.length * sz := Nat.le_mul_of_pos_right _ h0
  simp only [maxLen]; omega
 unfold Oper.wp execOp
 rw [ho]
 simp only [Sem.run_bind, S.evalParts (qca hp) hxs, hr, Result.andThen_ok, Sem.run_pure, Oper.upon_value, hd]
 exact hK _ _ (k _ _ _ ⟨hl, .inr ⟨_, _, _, rfl, rfl, Nat.le_refl _, hml, by simpa using hl, by rw [← hl]; exact List.take_length⟩⟩ (S.alloc _ hn _))
theorem St.append (S : St n L w0 F0 K0 F G a w) {G1 G2 : List Grp} {g : Grp} (hG : G = G1 ++ g :: G2) {t ty e : TypeId} {z : Value} {sz by_ : Nat} (ht : Und P t (.slice e)) (hi : Inf P e z sz by_) (hz : z.cells.toList.length = sz)
  {v : Value} {k : Nat} {xs : List Value} (hown : q0u e sz v k xs g) (ad : Addr) (m c : Nat) (news : List Value) (hl : news.length = m * sz) (hnews : ∀ j u, news[j]? = some u → w.cell? (ad.add j) = some u) (h1 : ∀ u ∈ news, u.oneCell' = true)
  (hlen : (k + m) * by_ ≤ 140737488355328) (h63 : k + m ≤ maxLen) (hm : 0 < m) :
  ∃ v' w' g', (Builtin.append_ #[t, t] ty #[v, .slice (some ad) m c]).run P w = .ok v' w' ∧ q0u e sz v' (k + m) (xs ++ news) g' ∧ St n L w0 F0 K0 F (G1 ++ g' :: G2) a w' := by
 obtain ⟨i, i1, i2, i3, i4⟩ := hi.h
 subst hG
 have hsmall : k + m ≤ 9223372036854775807 := by simp only [maxLen] at h63; omega
 have hxl : (xs ++ news).length = (k + m) * sz := by rw [qaA, hown.1, hl, Nat.add_mul]
 -- a new row
 have fresh : ∀ old, old < k + m → ∀ Gx : List Grp, Tr w0 F0 K0 w F Gx →
   q0u e sz (.slice (some ⟨w.heap.size, 0, none⟩) (k + m) (grownCap w (k + m) old e)) (k + m) (xs ++ news) [(w.heap.size, .cells (xs.toArray ++ news.toArray ++ Builtin.zeroCells z.cells (grownCap w (k + m) old e - (k + m))) e (0, 0))] := fun old ho Gx hx => by
  have hge := grownCap_ge w (k + m) old e
  have hcm := grownCap_le_maxLen w (k + m) old e h63
  have hzs : z.cells.size = sz := by simpa using hz
  refine ⟨hxl, .inr ⟨_, _, _, rfl, rfl, hge, hcm, ?_, ?_⟩⟩
  ·simp only [Array.size_append, List.size_toArray, size_zeroCells, hzs, hown.1, hl, ← Nat.add_mul]
   congr 1; omega
  ·simp only [Array.toList_append, qaB]
   rw [← qaB, ← hxl]
   exact List.take_left
 rcases hown.2 with ⟨rfl, rfl, rfl⟩ | ⟨b, cap, cur, rfl, rfl, hkc, hcm, hcs, htk⟩
 ·have hx : xs = [] := List.eq_nil_of_length_eq_zero (by simpa using hown.1)
  subst hx
  have hr := run_append_nil (P := P) w t ty e i z ht.h i1 i2 ad m c news (by rw [i3]; exact hl) hnews hm (by omega) (by rw [i4]; have hb := hlen; simp only [Nat.zero_add] at hb; omega)
  have hT : Tr w0 F0 K0 w F (G1 ++ G2) := S.tr.sub (by simp [List.flatten_append])
  have := fresh 0 (by omega) _ S.tr
  simp only [Nat.zero_add, qaG, Array.empty_append] at this ⊢
  exact ⟨_, _, _, hr, this, S.fr, (hT.drew.alloc _).perm (by simp only [List.flatten_append, qaF]; exact (List.perm_append_comm_assoc _ _ _))⟩
 ·have hhb : w.heap[b]? = some (.cells cur e (0, 0)) := (S.tr.own (b, _) (by simp [List.flatten_append, qaF])).1
  by_cases hroom : k + m ≤ cap
  ·have hfit : k * i.size + news.length ≤ cur.size := by rw [i3, hl, hcs, ← Nat.add_mul]; exact Nat.mul_le_mul_right _ hroom
   have hr := run_append_room (P := P) w t ty e i ht.h i1 b k cap cur hhb ad m c news (by rw [i3]; exact hl) hnews h1 hroom hfit
   rw [i3] at hr hfit
   refine ⟨_, _, _, hr, ⟨hxl, .inr ⟨b, cap, _, rfl, rfl, hroom, hcm, ?_, ?_⟩⟩, S.fr, S.tr.write rfl rfl rfl (by simp [World.setRow]) (setRow_heap w b cur _ e _ hhb) fun q hq => setRow_other w b q _ hq⟩
   ·simp only [List.size_toArray, qaA, qaI, qaJ, Array.length_toList]
    omega
   ·show List.take ((k + m) * sz) (cur.toList.take (k * sz) ++ news ++ _) = _
    rw [htk, ← hxl]
    exact List.take_left
  ·have holds : ∀ j u, xs[j]? = some u → w.cell? ((⟨b, 0, none⟩ : Addr).add j) = some u := fun j u hu => by
    rw [addr_add, Nat.zero_add]
    refine cell_of_heap hhb ?_
    rw [← htk, List.getElem?_take] at hu
    split at hu
    ·simpa using hu
    ·cases hu
   have hr := run_append_grow (P := P) w t ty e i z ht.h i1 i2 ⟨b, 0, none⟩ k cap xs (by rw [i3]; exact hown.1) holds ad m c news (by rw [i3]; exact hl) hnews (by omega) (by omega) (by rw [i4]; exact growslice_fits (by omega) hlen)
   have hT : Tr w0 F0 K0 w F (G1 ++ G2) := S.tr.sub (by simp only [List.flatten_append, qaF]; exact List.Sublist.append_left (List.sublist_append_right _ _) _)
   exact ⟨_, _, _, hr, fresh cap (by omega) _ S.tr, S.fr, (hT.drew.alloc _).perm (by simp only [List.flatten_append, qaF]; exact (List.perm_append_comm_assoc _ _ _))⟩
class Nth (G : List Grp) (g : Grp) (R : outParam (Grp → List Grp)) : Prop where
  h : ∃ G1 G2, G = G1 ++ g :: G2 ∧ ∀ g', R g' = G1 ++ g' :: G2
instance Nth.here {g : Grp} {G : List Grp} : Nth (g :: G) g (fun g => g :: G) := ⟨[], G, rfl, fun _ => rfl⟩
instance Nth.there {R} {g g1 : Grp} {G : List Grp} [h : Nth G g R] : Nth (g1 :: G) g (fun x => g1 :: R x) := by
 obtain ⟨G1, G2, e, hR⟩ := h.h
 exact ⟨g1 :: G1, G2, by rw [e]; rfl, fun x => by rw [hR]; rfl⟩
theorem q0s {d1 d2 : Nat} {t e : TypeId} {m : Nat} {parts : Array (Nat × Operand)} {s : Operand} {xs : List Operand} {vs : List Value} {z : Value} {sz by_ : Nat} {v : Value} {q : Nat} {cs : List Value} {g : Grp} {R} [ht : Und P t (.slice e)] [hi : Inf P e z sz by_] (S : St n L w0 F0 K0 F G a w)
  (hg1 : o1.guard = none) (hg2 : o2.guard = none) (hd1 : o1.dst = some d1) (hd2 : o2.dst = some d2) (hn1 : Nat.blt d1 n.sz = true) (hn2 : Nat.blt d2 n.sz = true)
  (ho1 : o1.op = .buildSlice t m parts) (ho2 : o2.op = .call { callee := .builtin .append, args := #[s, .tmp d1], argTypes := #[t, t] }) (hp : qgv 0 parts.toList = some xs) (hxs : evs L xs = some vs) (hs : ev L s = some v) (hsd : ∀ u, ev ((d1, u) :: L) s = ev L s) (hown : q0u e sz v q cs g) [hN : Nth G g R]
  (hz : z.cells.toList.length = sz) (hv : ∀ v ∈ vs, v.cells.toList.length = sz) (h1 : ∀ v ∈ vs, ∀ u ∈ v.cells.toList, u.oneCell' = true) (hm : vs.length = m) (hb : Nat.ble (m * sz) 16777216 = true) (hsz : Nat.blt 0 sz = true) (hm0 : Nat.blt 0 m = true)
  (hlen : (q + m) * by_ ≤ 140737488355328) (h63 : q + m ≤ 9223372036854775807)
  (k : ∀ v' u g' a' w', q0u e sz v' (q + m) (cs ++ vs.flatMap (·.cells.toList)) g' → St n ((d2, v') :: (d1, u) :: L) w0 F0 K0 F (R g') a' w' → wpList P ops Q rest a' w') : wpList P ops Q (o1 :: o2 :: rest) a w := by
 refine q0d S hg1 hd1 hn1 ho1 hp hxs hz hv hm hb hsz fun b a' w' hbs S' => ?_
 refine wpList_plain hg2 fun K hK => ?_
 obtain ⟨G1, G2, e1, hR⟩ := hN.h
 have hm0' : 0 < m := by simpa [Nat.blt_eq] using hm0
 have hl : (vs.flatMap (·.cells.toList)).length = m * sz := hbs.1
 have hnews : ∀ j u, (vs.flatMap (·.cells.toList))[j]? = some u → w'.cell? ((⟨b, 0, none⟩ : Addr).add j) = some u := fun j u hu => by
  rw [addr_add, Nat.zero_add]
  exact cell_of_heap (c := ⟨vs.flatMap (·.cells.toList)⟩) (e := e) (f := (0, 0)) (S'.tr.own (b, .cells ⟨vs.flatMap (·.cells.toList)⟩ e (0, 0)) (by simp [qaF])).1 (by simpa using hu)
 have h1' : ∀ u ∈ vs.flatMap (·.cells.toList), u.oneCell' = true := fun u hu => by
  obtain ⟨v, hv1, hv2⟩ := List.mem_flatMap.1 hu
  exact h1 v hv1 u hv2
 subst e1
 obtain ⟨v', w2, g', hr, ho', S2⟩ := S'.append (G1 := [(b, .cells ⟨vs.flatMap (·.cells.toList)⟩ e (0, 0))] :: G1) rfl ht hi hz hown ⟨b, 0, none⟩ m m _ hl hnews h1' hlen (by simp only [maxLen]; omega) hm0' (ty := o2.type)
 have e2 : a'.eval s = v := S'.fr.eval (by rw [hsd]; exact hs)
 have e3 : a'.eval (.tmp d1) = .slice (some ⟨b, 0, none⟩) m m := S'.fr.eval (by simp [ev, look])
 unfold Oper.wp execOp
 rw [ho2]
 simp [resolve, invoke, builtin, e2, e3, hr, Oper.upon_value, hd2]
 refine hK _ _ (k v' _ g' _ w2 ho' ⟨S2.fr.put v' hn2, ?_⟩)
 rw [hR]
 exact S2.tr.sub (by rw [List.cons_append, qaF]; exact List.sublist_append_right _ _)
theorem q7o {P : Program} (w : World) (s : ByteArray) : (Builtin.firstCells 1 s.size (.string s)).run P w = .ok ⟨s.data.toList.map (fun b => Value.int .u8 b.toNat)⟩ w := by
 have : (s.extract 0 s.size).data = s.data := by rw [ByteArray.data_extract]; exact Array.extract_size
 simp only [Builtin.firstCells, Sem.run_pure, this]
 congr 1
 apply Array.ext'
 simp
theorem St.appendStr (S : St n L w0 F0 K0 F G a w) {G1 G2 : List Grp} {g : Grp} (hG : G = G1 ++ g :: G2) {t u ty e : TypeId} {z : Value} {by_ : Nat} (ht : Und P t (.slice e)) (hu : Und P u .string) (hi : Inf P e z 1 by_) (hz : z.cells.toList.length = 1)
  {v : Value} {k : Nat} {xs : List Value} (hown : q0u e 1 v k xs g) (s : ByteArray) (hm : 0 < s.size)
  (hlen : (k + s.size) * by_ ≤ 140737488355328) (h63 : k + s.size ≤ maxLen) :
  ∃ v' w' g', (Builtin.append_ #[t, u] ty #[v, .string s]).run P w = .ok v' w' ∧ q0u e 1 v' (k + s.size) (xs ++ s.data.toList.map (fun b => Value.int .u8 b.toNat)) g' ∧ St n L w0 F0 K0 F (G1 ++ g' :: G2) a w' := by
 obtain ⟨i, i1, i2, i3, i4⟩ := hi.h
 subst hG
 have hsmall : k + s.size ≤ 9223372036854775807 := by simp only [maxLen] at h63; omega
 obtain ⟨news, hnews⟩ : ∃ l, l = s.data.toList.map (fun b => Value.int .u8 (b.toNat : Int)) := ⟨_, rfl⟩
 have hl : news.length = s.size := by rw [hnews, List.length_map]; rfl
 have h1 : ∀ u ∈ news, u.oneCell' = true := fun u hu => by rw [hnews] at hu; obtain ⟨_, _, rfl⟩ := List.mem_map.1 hu; rfl
 have hfc : ∀ w, (Builtin.firstCells 1 s.size (.string s)).run P w = .ok news.toArray w := fun w => by rw [q7o, ← hnews]
 rw [← hnews]
 have hxl : (xs ++ news).length = (k + s.size) * 1 := by rw [qaA, hown.1, hl]; omega
 have hint : (match TypeDesc.string with | .int _ => true | _ => false) = false := rfl
 have fresh : ∀ old, old < k + s.size →
   q0u e 1 (.slice (some ⟨w.heap.size, 0, none⟩) (k + s.size) (grownCap w (k + s.size) old e)) (k + s.size) (xs ++ news) [(w.heap.size, .cells (xs.toArray ++ news.toArray ++ Builtin.zeroCells z.cells (grownCap w (k + s.size) old e - (k + s.size))) e (0, 0))] := fun old ho => by
  have hge := grownCap_ge w (k + s.size) old e
  have hcm := grownCap_le_maxLen w (k + s.size) old e h63
  have hzs : z.cells.size = 1 := by simpa using hz
  refine ⟨hxl, .inr ⟨_, _, _, rfl, rfl, hge, hcm, ?_, ?_⟩⟩
  ·simp only [Array.size_append, List.size_toArray, size_zeroCells, hzs, hown.1, hl]
   omega
  ·simp only [Array.toList_append, qaB]
   rw [← qaB, ← hxl]
   exact List.take_left
 rcases hown.2 with ⟨rfl, rfl, rfl⟩ | ⟨b, cap, cur, rfl, rfl, hkc, hcm, hcs, htk⟩
 ·have hx : xs = [] := List.eq_nil_of_length_eq_zero (by simpa using hown.1)
  subst hx
  have hr := run_append_nil_string (P := P) w t u ty e i z ht.h hu.h i1 i2 s hm (by omega) (by rw [i4]; have hb := hlen; simp only [Nat.zero_add] at hb; omega)
  have hT : Tr w0 F0 K0 w F (G1 ++ G2) := S.tr.sub (by simp [List.flatten_append])
  have hf := fresh 0 (by omega)
  have hd : s.data.map (fun b => Value.int .u8 (b.toNat : Int)) = news.toArray := by rw [hnews]; apply Array.ext'; simp
  rw [hd] at hr
  simp only [Nat.zero_add, qaG, Array.empty_append] at hf ⊢
  exact ⟨_, _, _, hr, hf, S.fr, (hT.drew.alloc _).perm (by simp only [List.flatten_append, qaF]; exact (List.perm_append_comm_assoc _ _ _))⟩
 ·have hhb : w.heap[b]? = some (.cells cur e (0, 0)) := (S.tr.own (b, _) (by simp [List.flatten_append, qaF])).1
  by_cases hroom : k + s.size ≤ cap
  ·have hfit : k * 1 + news.length ≤ cur.size := by rw [hl, hcs]; omega
   have hst := run_storeCells_at P b (k * 1) e news 0 cur w hhb (by simpa using hfit) h1
   simp only [Nat.add_zero] at hst
   have hr : (Builtin.append_ #[t, u] ty #[.slice (some ⟨b, 0, none⟩) k cap, .string s]).run P w = .ok (.slice (some ⟨b, 0, none⟩) (k + s.size) cap) (w.setRow b (cur.toList.take (k * 1) ++ news ++ cur.toList.drop (k * 1 + news.length)).toArray) := by
    simp [Builtin.append_, run_underlying ht.h, run_underlying hu.h, sizeOf, typeInfo, i1, i3, Builtin.lenOf, hroom, hfc, addr_add, Nat.mul_one] at hst ⊢
    simp [hst]
   refine ⟨_, _, _, hr, ⟨hxl, .inr ⟨b, cap, _, rfl, rfl, hroom, hcm, ?_, ?_⟩⟩, S.fr, S.tr.write rfl rfl rfl (by simp [World.setRow]) (setRow_heap w b cur _ e _ hhb) fun q hq => setRow_other w b q _ hq⟩
   ·simp only [List.size_toArray, qaA, qaI, qaJ, Array.length_toList]
    omega
   ·show List.take ((k + s.size) * 1) (cur.toList.take (k * 1) ++ news ++ _) = _
    rw [htk, ← hxl]
    exact List.take_left
  ·have holds : ∀ j u, xs[j]? = some u → w.cell? ((⟨b, 0, none⟩ : Addr).add j) = some u := fun j u hu => by
    rw [addr_add, Nat.zero_add]
    refine cell_of_heap hhb ?_
    rw [← htk, List.getElem?_take] at hu
    split at hu
    ·simpa using hu
    ·cases hu
   have hT : Tr w0 F0 K0 w F (G1 ++ G2) := S.tr.sub (by simp only [List.flatten_append, qaF]; exact List.Sublist.append_left (List.sublist_append_right _ _) _)
   have hfo := run_firstCells_some (P := P) w.drew 1 k ⟨b, 0, none⟩ k cap xs (by rw [hown.1]) (fun j v hv => by simpa using holds j v hv)
   have h48 : ¬ (281474976710656 < Builtin.nextslicecap (k + s.size) cap * i.bytes) := by
    have := growslice_fits (need := k + s.size) (old := cap) (bytes := i.bytes) (by omega) (by rw [i4]; exact hlen)
    omega
   have h63' : ¬ (9223372036854775807 < ((k : Int) + (s.size : Int))) := by omega
   have hr : (Builtin.append_ #[t, u] ty #[.slice (some ⟨b, 0, none⟩) k cap, .string s]).run P w = .ok (.slice (some ⟨w.heap.size, 0, none⟩) (k + s.size) (grownCap w (k + s.size) cap e)) (w.drew.alloc (.cells (xs.toArray ++ news.toArray ++ Builtin.zeroCells z.cells (grownCap w (k + s.size) cap e - (k + s.size))) e)) := by
    simp [Builtin.append_, run_underlying ht.h, run_underlying hu.h, sizeOf, typeInfo, i1, i2, i3, zeroValue, Builtin.lenOf, hroom, hfc, hfo, h48, h63', Question.forced, newRow, grownCap]
    simp [← List.append_toArray]
   exact ⟨_, _, _, hr, fresh cap (by omega), S.fr, (hT.drew.alloc _).perm (by simp only [List.flatten_append, qaF]; exact (List.perm_append_comm_assoc _ _ _))⟩
theorem q71 {d2 : Nat} {t u e : TypeId} {s x : Operand} {by_ : Nat} {z : Value} {v : Value} {q : Nat} {cs : List Value} {g : Grp} {R} {str : List UInt8} [ht : Und P t (.slice e)] [hu : Und P u .string] [hi : Inf P e z 1 by_] (S : St n L w0 F0 K0 F G a w)
  (hg2 : o2.guard = none) (hd2 : o2.dst = some d2) (hn2 : Nat.blt d2 n.sz = true)
  (ho2 : o2.op = .call { callee := .builtin .append, args := #[s, x], argTypes := #[t, u] }) (hs : ev L s = some v) (hx : ev L x = some (.string (bs str))) (hown : q0u e 1 v q cs g) [hN : Nth G g R]
  (hz : z.cells.toList.length = 1) (hm0 : 0 < str.length)
  (hlen : (q + str.length) * by_ ≤ 140737488355328) (h63 : q + str.length ≤ 9223372036854775807)
  (k : ∀ v' g' a' w', q0u e 1 v' (q + str.length) (cs ++ str.map (fun b => Value.int .u8 b.toNat)) g' → St n ((d2, v') :: L) w0 F0 K0 F (R g') a' w' → wpList P ops Q rest a' w') : wpList P ops Q (o2 :: rest) a w := by
 refine wpList_plain hg2 fun K hK => ?_
 obtain ⟨G1, G2, e1, hR⟩ := hN.h
 obtain ⟨v', w2, g', hr, ho', S2⟩ := S.appendStr e1 ht hu hi hz hown (bs str) hm0 hlen (by simp only [maxLen]; exact h63) (ty := o2.type)
 have e2 : a.eval s = v := S.fr.eval hs
 have e3 : a.eval x = .string (bs str) := S.fr.eval hx
 unfold Oper.wp execOp
 rw [ho2]
 simp [resolve, invoke, builtin, e2, e3, hr, Oper.upon_value, hd2]
 refine hK _ _ (k v' g' _ w2 ho' ⟨S2.fr.put v' hn2, ?_⟩)
 rw [hR]
 exact S2.tr
end
