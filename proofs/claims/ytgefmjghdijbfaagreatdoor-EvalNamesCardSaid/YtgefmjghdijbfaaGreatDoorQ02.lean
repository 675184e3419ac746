/- Walks. -/
import Derived.Test.YtgefmjghdijbfaaGreatDoorQ01
namespace Go.Wk
open Go
set_option linter.unusedSimpArgs false
set_option linter.unusedVariables false
def Cel (F : Heap) (b off : Nat) (v : Value) : Prop := ∃ c e f, F b = some (.cells c e f) ∧ c[off]? = some v
def Cels (F : Heap) (b off : Nat) (vs : List Value) : Prop := ∀ j v, vs[j]? = some v → Cel F b (off + j) v
class Has (G : List Grp) (b : Nat) (o : outParam Obj) (R : outParam (Grp → List Grp)) : Prop where
  h : ∃ G1 G2, G = G1 ++ [(b, o)] :: G2 ∧ ∀ g, R g = G1 ++ g :: G2
instance Has.here {b : Nat} {o : Obj} {G : List Grp} : Has ([(b, o)] :: G) b o (fun g => g :: G) := ⟨[], G, rfl, fun _ => rfl⟩
instance Has.there {b : Nat} {o : Obj} {R} {g : Grp} {G : List Grp} [h : Has G b o R] : Has (g :: G) b o (fun x => g :: R x) := by
 obtain ⟨G1, G2, e, hR⟩ := h.h
 exact ⟨g :: G1, G2, by rw [e]; rfl, fun x => by rw [hR]; rfl⟩
theorem Cel.mono {F F' : Heap} (hF : ∀ b o, F b = some o → F' b = some o) {b off v} (h : Cel F b off v) : Cel F' b off v := by
 obtain ⟨c, e, f, h1, h2⟩ := h; exact ⟨c, e, f, hF _ _ h1, h2⟩
theorem cell_of_heap {w : World} {b off : Nat} {c : Array Value} {e f v} (h : w.heap[b]? = some (.cells c e f)) (hv : c[off]? = some v) : w.cell? ⟨b, off, none⟩ = some v := by
 simp [World.cell?, h, hv]
theorem addr_add (b off j : Nat) : (⟨b, off, none⟩ : Addr).add j = ⟨b, off + j, none⟩ := by
 unfold Addr.add
 split
 ·rename_i h; subst h; rfl
 ·rfl
section
variable {P : Program} {n : Sz} {L : List (Nat × Value)} {w0 : World} {F0 : Heap} {K0 : List Nat} {F : Heap} {G : List Grp} {a : Act} {w : World}
variable {ops : Array Oper} {Q : Exit → Act → World → Prop} {rest : List Oper} {o : Oper}
theorem St.cel (S : St n L w0 F0 K0 F G a w) {b off v} (h : Cel F b off v) : w.cell? ⟨b, off, none⟩ = some v := by
 obtain ⟨c, e, f, h1, h2⟩ := h
 exact cell_of_heap (S.tr.frz _ _ h1) h2
theorem St.has (S : St n L w0 F0 K0 F G a w) {b o R} (h : Has G b o R) : w.heap[b]? = some o := by
 obtain ⟨G1, G2, e, _⟩ := h.h
 exact (S.tr.own (b, o) (by rw [e]; simp [List.flatten_append])).1
theorem isAgg_notAgg {t : TypeId} (ht : One P t) : (isAgg t).run P w = .ok false w := by
 obtain ⟨d, ht, hd⟩ := ht.h
 cases d <;> simp [notAgg] at hd <;> simp [isAgg, run_underlying ht]
theorem sv_load {x : Operand} {t : TypeId} {b off : Nat} {v : Value} [ht : One P t] (S : St n L w0 F0 K0 F G a w) (ho : o.op = .load t x) (hx : ev L x = some (.pointer (some ⟨b, off, none⟩)))
  (hc : w.cell? ⟨b, off, none⟩ = some v) : SV P o a w v := by
 unfold SV execOp
 rw [ho]
 simp [S.fr.eval hx, Instr.loadAt, Instr.sureAddr, loadVar, isAgg_notAgg ht, hc]
theorem sv_loadO {x : Operand} {t : TypeId} {b off : Nat} {v : Value} {c : List Value} {e f R} [ht : One P t] [hh : Has G b (.cells ⟨c⟩ e f) R] (S : St n L w0 F0 K0 F G a w) (ho : o.op = .load t x) (hx : ev L x = some (.pointer (some ⟨b, off, none⟩)))
  (hc : c[off]? = some v) : SV P o a w v :=
 sv_load S ho hx (cell_of_heap (S.has hh) (by simpa using hc))
theorem sv_loadF {x : Operand} {t : TypeId} {b off : Nat} {v : Value} [ht : One P t] (S : St n L w0 F0 K0 F G a w) (ho : o.op = .load t x) (hx : ev L x = some (.pointer (some ⟨b, off, none⟩)))
  (hc : Cel F b off v) : SV P o a w v :=
 sv_load S ho hx (S.cel hc)
theorem isAgg_isAgg {t : TypeId} (ht : Ag P t) : (isAgg t).run P w = .ok true w := by
 obtain ⟨d, ht, hd⟩ := ht.h
 cases d <;> simp [isAggD] at hd <;> simp [isAgg, run_underlying ht]
theorem run_sizeOf {t : TypeId} {z : Value} {sz by_ : Nat} (hi : Inf P t z sz by_) : (sizeOf t).run P w = .ok sz w := by
 obtain ⟨i, h1, h2, h3, h4⟩ := hi.h
 simp [sizeOf, typeInfo, h1, h3]
theorem run_zero {t : TypeId} {z : Value} {sz by_ : Nat} (hi : Inf P t z sz by_) : (zeroValue t).run P w = .ok z w := by
 obtain ⟨i, h1, h2, h3, h4⟩ := hi.h
 simp [zeroValue, typeInfo, h1, h2]
theorem sv_loadA {x : Operand} {t : TypeId} {z : Value} {sz by_ b off : Nat} {vs : List Value} [ht : Ag P t] [hi : Inf P t z sz by_] (S : St n L w0 F0 K0 F G a w) (ho : o.op = .load t x) (hx : ev L x = some (.pointer (some ⟨b, off, none⟩)))
  (hl : vs.length = sz) (hc : ∀ j v, vs[j]? = some v → w.cell? ⟨b, off + j, none⟩ = some v) : SV P o a w (.agg ⟨vs⟩) := by
 unfold SV execOp
 rw [ho]
 have h1 := run_loadCells_list (P := P) w ⟨b, off, none⟩ vs (fun j v hj => by rw [addr_add]; exact hc j v hj)
 rw [hl] at h1
 simp [S.fr.eval hx, Instr.loadAt, Instr.sureAddr, loadVar, isAgg_isAgg ht, run_sizeOf hi, h1]
theorem sv_loadAF {x : Operand} {t : TypeId} {z : Value} {sz by_ b off : Nat} {vs : List Value} [ht : Ag P t] [hi : Inf P t z sz by_] (S : St n L w0 F0 K0 F G a w) (ho : o.op = .load t x) (hx : ev L x = some (.pointer (some ⟨b, off, none⟩)))
  (hc : Cels F b off vs) (hl : vs.length = sz) : SV P o a w (.agg ⟨vs⟩) :=
 sv_loadA S ho hx hl fun j v hj => S.cel (hc j v hj)
theorem sv_loadAO {x : Operand} {t : TypeId} {z : Value} {sz by_ b off : Nat} {c : List Value} {e f R} [ht : Ag P t] [hi : Inf P t z sz by_] [hh : Has G b (.cells ⟨c⟩ e f) R] (S : St n L w0 F0 K0 F G a w) (ho : o.op = .load t x) (hx : ev L x = some (.pointer (some ⟨b, off, none⟩)))
  (hl : Nat.ble (off + sz) c.length = true) : SV P o a w (.agg ⟨(c.drop off).take sz⟩) := by
 have hl' : off + sz ≤ c.length := Nat.le_of_ble_eq_true hl
 refine sv_loadA S ho hx (by simp; omega) fun j v hj => ?_
 refine cell_of_heap (S.has hh) ?_
 have hjl : j < sz := by
  have := (List.getElem?_eq_some_iff.1 hj).1
  simp at this; omega
 rw [List.getElem?_take, if_pos hjl, List.getElem?_drop] at hj
 simpa using hj
theorem sv_fieldAddr {x : Operand} {t : TypeId} {fs : List (Nat × TypeId)} {i b off fo : Nat} {ft : TypeId} {z : Value} {sz by_ : Nat} [ht : Flds P t fs] (S : St n L w0 F0 K0 F G a w) (ho : o.op = .fieldAddr t x i) (hx : ev L x = some (.pointer (some ⟨b, off, none⟩)))
  (hf : fs[i]? = some (fo, ft)) (hi : Inf P ft z sz by_) (hsz : Nat.beq sz 0 = false) : SV P o a w (.pointer (some ⟨b, off + fo, none⟩)) := by
 obtain ⟨fields, h1, h2⟩ := ht.h
 have hne : sz ≠ 0 := fun h => by subst h; simp at hsz
 rw [← h2, List.getElem?_map] at hf
 obtain ⟨f, hf', he⟩ := Option.map_eq_some_iff.1 hf
 simp only [Prod.mk.injEq] at he
 obtain ⟨rfl, rfl⟩ := he
 have hf2 : fields[i]? = some f := by simpa using hf'
 unfold SV execOp
 rw [ho]
 simp [S.fr.eval hx, Instr.fieldAt, Instr.sureAddr, run_underlying h1, hf2, fieldPlace, run_sizeOf hi, hne, addr_add]
theorem sv_indexAddrSl {x y : Operand} {t e : TypeId} {b off m c i : Nat} {k : IntKind} {z : Value} {sz by_ : Nat} [ht : Und P t (.slice e)] [hi : Inf P e z sz by_] (S : St n L w0 F0 K0 F G a w) (ho : o.op = .indexAddr t x y) (hx : ev L x = some (.slice (some ⟨b, off, none⟩) m c)) (hy : ev L y = some (.int k (Int.ofNat i)))
  (hb : i < m) : SV P o a w (.pointer (some ⟨b, off + i * sz, none⟩)) := by
 unfold SV execOp
 rw [ho]
 have h0 : (0 : Int) ≤ Int.ofNat i ∧ Int.ofNat i < (m : Int) := ⟨Int.natCast_nonneg i, by exact Int.ofNat_lt.2 hb⟩
 simp [S.fr.eval hx, S.fr.eval hy, Instr.indexAt, asIntOf, run_underlying ht.h, run_sizeOf hi, addr_add, hb]
theorem St.alloc (S : St n L w0 F0 K0 F G a w) (o : Obj) {d : Nat} (hd : Nat.blt d n.sz = true) (v : Value) : St n ((d, v) :: L) w0 F0 K0 F ([(w.heap.size, o)] :: G) (a.put (some d) v) (w.alloc o) := ⟨S.fr.put v hd, S.tr.alloc o⟩
theorem wpl_alloc {d : Nat} {t : TypeId} {z : Value} {sz by_ : Nat} [hi : Inf P t z sz by_] (S : St n L w0 F0 K0 F G a w) (hg : o.guard = none) (hd : o.dst = some d) (ho : o.op = .alloc t) (hn : Nat.blt d n.sz = true)
  (k : ∀ b a' w', St n ((d, .pointer (some ⟨b, 0, none⟩)) :: L) w0 F0 K0 F ([(b, .cells ⟨z.cells.toList⟩ t (0, 0))] :: G) a' w' → wpList P ops Q rest a' w') : wpList P ops Q (o :: rest) a w := by
 refine wpList_plain hg fun K hK => ?_
 unfold Oper.wp execOp
 rw [ho]
 simp [Instr.alloc, run_zero hi, newVar, newRow, Oper.upon_value, hd]
 exact hK _ _ (k _ _ _ (S.alloc _ hn _))
theorem wpl_box {d : Nat} {t : TypeId} {x : Operand} {v : Value} (S : St n L w0 F0 K0 F G a w) (hg : o.guard = none) (hd : o.dst = some d) (ho : o.op = .box t x) (hn : Nat.blt d n.sz = true) (hx : ev L x = some v)
  (k : ∀ b a' w', St n ((d, .pointer (some ⟨b, 0, none⟩)) :: L) w0 F0 K0 F ([(b, .cells ⟨v.cells.toList⟩ t (0, 0))] :: G) a' w' → wpList P ops Q rest a' w') : wpList P ops Q (o :: rest) a w := by
 refine wpList_plain hg fun K hK => ?_
 unfold Oper.wp execOp
 rw [ho]
 simp [Instr.box, S.fr.eval hx, newVar, newRow, Oper.upon_value, hd]
 exact hK _ _ (k _ _ _ (S.alloc _ hn _))
theorem St.write (S : St n L w0 F0 K0 F G a w) {b : Nat} {o o' : Obj} {R} (h : Has G b o R) {w' : World} (hos : w'.os = w.os) (ht : w'.tape = w.tape) (hout : w'.output = w.output)
  (hs : w'.heap.size = w.heap.size) (hb : w'.heap[b]? = some o') (hother : ∀ k, k ≠ b → w'.heap[k]? = w.heap[k]?) : St n L w0 F0 K0 F (R [(b, o')]) a w' := by
 obtain ⟨G1, G2, e, hR⟩ := h.h
 refine ⟨S.fr, ?_⟩
 rw [hR]
 have := S.tr
 rw [e] at this
 exact this.write hos ht hout hs hb hother
theorem wpl_storeO {t : TypeId} {x y : Operand} {z : Value} {sz by_ : Nat} {v : Value} {b off : Nat} {c : List Value} {e : TypeId} {R} [hi : Inf P t z sz by_] [hh : Has G b (.cells ⟨c⟩ e (0, 0)) R] (S : St n L w0 F0 K0 F G a w) (hg : o.guard = none) (ho : o.op = .store t x y) (hd : o.dst = none)
  (hx : ev L x = some (.pointer (some ⟨b, off, none⟩))) (hy : ev L y = some v) (hv : v.cells.toList.length = sz) (h1 : ∀ u ∈ v.cells.toList, u.oneCell' = true) (hl : Nat.ble (off + sz) c.length = true)
  (k : ∀ w', St n L w0 F0 K0 F (R [(b, .cells ⟨c.take off ++ v.cells.toList ++ c.drop (off + sz)⟩ e (0, 0))]) a w' → wpList P ops Q rest a w') : wpList P ops Q (o :: rest) a w := by
 refine wpList_plain hg fun K hK => ?_
 have hhb := S.has hh
 have hl' : off + sz ≤ c.length := Nat.le_of_ble_eq_true hl
 have hst := run_storeCells_at P b off e v.cells.toList 0 ⟨c⟩ w hhb (by rw [hv]; simpa using hl') h1
 simp only [Nat.add_zero, hv] at hst
 obtain ⟨row, hrow⟩ : ∃ r : Array Value, r = ⟨c.take off ++ v.cells.toList ++ c.drop (off + sz)⟩ := ⟨_, rfl⟩
 rw [show (List.take off c ++ v.cells.toList ++ List.drop (off + sz) c).toArray = row from hrow.symm] at hst
 have hsz : v.cells.size = sz := by simpa using hv
 unfold Oper.wp execOp
 rw [ho]
 simp [S.fr.eval hx, S.fr.eval hy, Instr.storeAt, Instr.sureAddr, storeVar, run_sizeOf hi, hsz, hst, Oper.upon_skip, hd, Act.put]
 have hw := S.write hh (w' := w.setRow b row) rfl rfl rfl (by simp [World.setRow]) (setRow_heap w b _ row e _ hhb) fun k hk => setRow_other w b k _ hk
 rw [hrow] at hw
 rw [hrow]
 exact hK _ _ (k _ hw)
theorem wpl_store1 {t : TypeId} {x y : Operand} {z : Value} {by_ : Nat} {v : Value} {b off : Nat} {c : List Value} {e : TypeId} {R} [hi : Inf P t z 1 by_] [hh : Has G b (.cells ⟨c⟩ e (0, 0)) R] (S : St n L w0 F0 K0 F G a w) (hg : o.guard = none) (ho : o.op = .store t x y) (hd : o.dst = none)
  (hx : ev L x = some (.pointer (some ⟨b, off, none⟩))) (hy : ev L y = some v) (h1 : v.oneCell' = true) (hl : off < c.length)
  (k : ∀ w', St n L w0 F0 K0 F (R [(b, .cells ⟨c.set off v⟩ e (0, 0))]) a w' → wpList P ops Q rest a w') : wpList P ops Q (o :: rest) a w := by
 have hc : v.cells = #[v] := by cases v <;> first | rfl | (simp [Value.oneCell'] at h1)
 refine wpl_storeO S hg ho hd hx hy (by rw [hc]; rfl) (fun u hu => by rw [hc] at hu; simp at hu; subst hu; exact h1) (by rw [Nat.ble_eq]; omega) fun w' S' => ?_
 rw [hc, show c.take off ++ #[v].toList ++ c.drop (off + 1) = c.set off v by simp [List.set_eq_take_append_cons_drop, hl]] at S'
 exact k w' S'
def Ct (P : Program) (f : FuncId) (args : List Value) (F : Heap) (G : List Grp) (Post : Heap → List Grp → Value → Prop) : Prop :=
 ∀ w, At w F G → Calls P f ⟨args⟩ w (fun e w' => ∃ v F' G', e = .returned v ∧ Tr w F (keys G) w' F' G' ∧ Post F' G' v)
theorem Ct.mono {f args Post Post'} (h : Ct P f args F G Post) (hp : ∀ F' G' v, Post F' G' v → Post' F' G' v) : Ct P f args F G Post' :=
 fun w hw => (h w hw).mono fun _ _ ⟨v, F', G', h1, h2, h3⟩ => ⟨v, F', G', h1, h2, hp _ _ _ h3⟩
theorem run_callFunc {f : FuncId} (hf : HasFn P f) (args : Array Value) : (callFunc f args).run P w = .ok (.enter f args) w := by
 obtain ⟨fn, c, h1, h2, h3⟩ := hf.h
 simp only [callFunc, Sem.run_bind, run_program, Result.andThen_ok, h1]
 simp only [h2]
 simp [h3]
theorem wpl_call {d : Nat} {x : Operand} {xs : Array Operand} {ts : Array TypeId} {f : FuncId} {fi ca vs args : List Value} {Gs Gr : List Grp} {Post} [hf : HasFn P f] (S : St n L w0 F0 K0 F G a w) (hg : o.guard = none) (hd : o.dst = some d) (hn : Nat.blt d n.sz = true)
  (ho : o.op = .call { callee := .value x, args := xs, argTypes := ts }) (hx : ev L x = some (.func (.func f) ⟨fi⟩ ⟨ca⟩)) (hxs : evs L xs.toList = some vs) (C : Ct P f args F Gs Post) (ha : fi ++ vs ++ ca = args) (hp : G.flatten.Perm (Gs.flatten ++ Gr.flatten))
  (k : ∀ v F' G' a' w', Post F' G' v → (∀ b o, F b = some o → F' b = some o) → St n ((d, v) :: L) w0 F0 K0 F' (G' ++ Gr) a' w' → wpList P ops Q rest a' w') : wpList P ops Q (o :: rest) a w := by
 refine wpList_plain hg fun K hK => ?_
 have e1 : xs.map a.eval = ⟨vs⟩ := by
  have := S.fr.evals hxs
  apply Array.ext'; simpa using this
 unfold Oper.wp execOp
 rw [ho]
 have ea : (⟨fi⟩ : Array Value) ++ (⟨vs⟩ : Array Value) ++ (⟨ca⟩ : Array Value) = ⟨args⟩ := by rw [← ha]; apply Array.ext'; simp
 simp only [resolve, S.fr.eval hx, Deferred.ofValue, e1, Sem.run_bind, Sem.run_pure, Result.andThen_ok, invoke, run_callFunc hf, Oper.upon_enter, ea]
 refine (C w (S.tr.at_sub hp)).mono ?_
 rintro e w' ⟨v, F', G', rfl, h2, h3⟩
 rw [hd]
 exact hK _ _ (k v F' G' _ w' h3 h2.ext ⟨S.fr.put v hn, S.tr.call hp h2⟩)
theorem Tr.shrink {F' : Heap} (h : Tr w0 F0 K0 w F' G) (hs : ∀ b o, F b = some o → F' b = some o) (h0 : ∀ b o, F0 b = some o → F b = some o) : Tr w0 F0 K0 w F G :=
 ⟨h.os, h.tape, h.output, h.size, h.old, fun b o e => h.frz b o (hs b o e), h0, fun b o e => h.fresh b o (hs b o e), fun p hp => by
  obtain ⟨x, y, z⟩ := h.own p hp
  refine ⟨x, ?_, z⟩
  cases hF : F p.1 with
  | none => rfl
  | some u => exact absurd (hs _ _ hF) (by rw [y]; simp), h.nd⟩
theorem wpl_call0 {d : Nat} {x : Operand} {xs : Array Operand} {ts : Array TypeId} {f : FuncId} {fi ca vs args : List Value} {Post : Value → Prop} [hf : HasFn P f] (S : St n L w0 F0 K0 F G a w) (hg : o.guard = none) (hd : o.dst = some d) (hn : Nat.blt d n.sz = true)
  (ho : o.op = .call { callee := .value x, args := xs, argTypes := ts }) (hx : ev L x = some (.func (.func f) ⟨fi⟩ ⟨ca⟩)) (hxs : evs L xs.toList = some vs) (C : Ct P f args F [] (fun _ _ v => Post v)) (ha : fi ++ vs ++ ca = args)
  (k : ∀ v a' w', Post v → St n ((d, v) :: L) w0 F0 K0 F G a' w' → wpList P ops Q rest a' w') : wpList P ops Q (o :: rest) a w := by
 refine wpl_call (Gs := []) (Gr := G) S hg hd hn ho hx hxs C ha (by simp) fun v F' G' a' w' hv hF S' => ?_
 refine k v a' w' hv ⟨S'.fr, ?_⟩
 exact Tr.shrink (S'.tr.sub (by rw [List.flatten_append]; exact List.sublist_append_right _ _)) hF S.tr.ext
theorem Ct.enter {f : FuncId} {fn : Func} {c : Code} {args : List Value} {k : Nat} {Post} (hf : P.funcs[f]? = some fn) (hb : fn.body = some c) (hn : fn.ntmps = k) (hl : Nat.ble args.length k = true)
  (h : ∀ w a, St (OfNat.ofNat k) (number 0 args) w F (keys G) F G a w → c.wp P (bodyPost P fn (fun e w' => ∃ v F' G', e = .returned v ∧ Tr w F (keys G) w' F' G' ∧ Post F' G' v)) a w) : Ct P f args F G Post := by
 intro w hw
 have hl' := Nat.le_of_ble_eq_true hl
 refine calls_of_wp hf hb (h w _ ⟨⟨?_, rfl, fun t v e => ?_⟩, hw.tr⟩)
 ·show _ = k
  simp [hn]; omega
 ·obtain ⟨_, h2⟩ := look_number _ _ _ _ e
  simp only [Nat.sub_zero] at h2
  have := (List.getElem?_eq_some_iff.1 h2).1
  rw [Array.getElem?_append_left (by simpa using this)]
  simpa using h2
def rvSem (a : Act) : ResultVar → Sem Value
 | .tmp t => pure (a.tmps.getD t undef)
 | .cell x t => do loadVar t (← asAddr (a.tmps.getD x undef))
def RV (P : Program) (a : Act) (w : World) (r : ResultVar) (v : Value) : Prop := (rvSem a r).run P w = .ok v w
theorem results_eq (fn : Func) (a : Act) : results fn a.tmps = (do let vs ← fn.results.mapM (rvSem a); pure (if h : vs.size = 1 then vs[0] else .tuple vs)) := by
 unfold results
 congr 1
theorem RV.tmp (S : St n L w0 F0 K0 F G a w) {t : Nat} {v : Value} (h : look L t = some v) : RV P a w (.tmp t) v := by
 have := S.fr.eval (x := .tmp t) h
 simp only [Act.eval] at this
 simp [RV, rvSem, this]
theorem RV.cell (S : St n L w0 F0 K0 F G a w) {x : Nat} {t : TypeId} {z : Value} {sz by_ b off : Nat} {vs : List Value} [ht : Ag P t] [hi : Inf P t z sz by_] (h : look L x = some (.pointer (some ⟨b, off, none⟩)))
  (hl : vs.length = sz) (hc : ∀ j v, vs[j]? = some v → w.cell? ⟨b, off + j, none⟩ = some v) : RV P a w (.cell x t) (.agg ⟨vs⟩) := by
 have := S.fr.eval (x := .tmp x) h
 simp only [Act.eval] at this
 have h1 := run_loadCells_list (P := P) w ⟨b, off, none⟩ vs (fun j v hj => by rw [addr_add]; exact hc j v hj)
 rw [hl] at h1
 simp [RV, rvSem, this, asAddr, loadVar, isAgg_isAgg ht, run_sizeOf hi, h1]
theorem RV.cellO (S : St n L w0 F0 K0 F G a w) {x : Nat} {t : TypeId} {z : Value} {sz by_ b : Nat} {c : List Value} {e f R} [ht : Ag P t] [hi : Inf P t z sz by_] [hh : Has G b (.cells ⟨c⟩ e f) R] (h : look L x = some (.pointer (some ⟨b, 0, none⟩)))
  (hl : c.length = sz) : RV P a w (.cell x t) (.agg ⟨c⟩) :=
 RV.cell S h hl fun j v hj => cell_of_heap (S.has hh) (by simpa using hj)
theorem RV.cell1O (S : St n L w0 F0 K0 F G a w) {x : Nat} {t : TypeId} {b off : Nat} {v : Value} {c : List Value} {e f R} [ht : One P t] [hh : Has G b (.cells ⟨c⟩ e f) R] (h : look L x = some (.pointer (some ⟨b, off, none⟩)))
  (hc : c[off]? = some v) : RV P a w (.cell x t) v := by
 have := S.fr.eval (x := .tmp x) h
 simp only [Act.eval] at this
 have h2 := cell_of_heap (S.has hh) (off := off) (v := v) (by simpa using hc)
 simp [RV, rvSem, this, asAddr, loadVar, isAgg_notAgg ht, h2]
theorem results0 {fn : Func} (h : fn.results = #[]) : (results fn a.tmps).run P w = .ok (.tuple #[]) w := by simp [results_eq, h]
theorem results1 {fn : Func} {r : ResultVar} {v : Value} (h : fn.results = #[r]) (h1 : RV P a w r v) : (results fn a.tmps).run P w = .ok v w := by
 unfold RV at h1
 simp [results_eq, h, h1]
theorem results2 {fn : Func} {r s : ResultVar} {v u : Value} (h : fn.results = #[r, s]) (h1 : RV P a w r v) (h2 : RV P a w s u) : (results fn a.tmps).run P w = .ok (.tuple #[v, u]) w := by
 unfold RV at h1 h2
 simp [results_eq, h, h1, h2]
theorem results3 {fn : Func} {r s q : ResultVar} {v u x : Value} (h : fn.results = #[r, s, q]) (h1 : RV P a w r v) (h2 : RV P a w s u) (h3 : RV P a w q x) : (results fn a.tmps).run P w = .ok (.tuple #[v, u, x]) w := by
 unfold RV at h1 h2 h3
 simp [results_eq, h, h1, h2, h3]
theorem fin_ret {fn : Func} {Post : Heap → List Grp → Value → Prop} {v : Value} (S : St n L w0 F0 K0 F G a w) (h : (results fn a.tmps).run P w = .ok v w) (hp : Post F G v) (hds : n.ds = [] := by rfl) :
  bodyPost P fn (fun e w' => ∃ v F' G', e = .returned v ∧ Tr w0 F0 K0 w' F' G' ∧ Post F' G' v) .ret a w := ⟨S.fr.df.trans hds, v, h, v, F, G, rfl, S.tr, hp⟩
theorem fin_end {fn : Func} {Post : Heap → List Grp → Value → Prop} {v : Value} (S : St n L w0 F0 K0 F G a w) (h : (results fn a.tmps).run P w = .ok v w) (hp : Post F G v) (hds : n.ds = [] := by rfl) :
  bodyPost P fn (fun e w' => ∃ v F' G', e = .returned v ∧ Tr w0 F0 K0 w' F' G' ∧ Post F' G' v) .normal a w := ⟨S.fr.df.trans hds, v, h, v, F, G, rfl, S.tr, hp⟩
theorem wpc_true {c : Operand} {x y : Code} (S : St n L w0 F0 K0 F G a w) (hc : ev L c = some (.bool true)) (h : x.wp P Q a w) : (Code.cond c x y).wp P Q a w := wp_cond_true (S.fr.eval hc) h
theorem wpc_false {c : Operand} {x y : Code} (S : St n L w0 F0 K0 F G a w) (hc : ev L c = some (.bool false)) (h : y.wp P Q a w) : (Code.cond c x y).wp P Q a w := wp_cond_false (S.fr.eval hc) h
theorem wpc_split {c : Operand} {x y : Code} {t : Bool} (S : St n L w0 F0 K0 F G a w) (hc : ev L c = some (.bool t)) (ht : t = true → x.wp P Q a w) (hf : t = false → y.wp P Q a w) : (Code.cond c x y).wp P Q a w := wp_cond_split (S.fr.eval hc) ht hf
theorem least {p : Nat → Prop} (h : ∃ m, p m) : ∃ m, p m ∧ ∀ k, p k → m ≤ k := by
 obtain ⟨m, hm⟩ := h
 induction m using Nat.strongRecOn with
 | _ m ih =>
  by_cases hk : ∃ k, k < m ∧ p k
  ·obtain ⟨k, hlt, hp⟩ := hk
   exact ih k hlt hp
  ·exact ⟨m, hm, fun k hp => by
    rcases Nat.lt_or_ge k m with h | h
    ·exact absurd ⟨k, h, hp⟩ hk
    ·exact h⟩
open Classical in
theorem wpc_loop {c : Code} (I : Nat → Act → World → Prop) (h₀ : ∃ m, I m a w)
  (round : ∀ m a w, I m a w → c.wp P (Exit.then (fun a' w' => ∃ m', m' < m ∧ I m' a' w') Q) a w) : (Code.loop c).wp P Q a w := by
 let μ : Act → World → Nat := fun a w => if h : ∃ m, I m a w then Classical.choose (least h) else 0
 refine wp_loop (fun a w => ∃ m, I m a w) μ h₀ fun a w hI => ?_
 have hμ : I (μ a w) a w := by simp only [μ, dif_pos hI]; exact (Classical.choose_spec (least hI)).1
 refine wp_mono (round _ a w hμ) fun e a' w' h => ?_
 cases e <;> try exact h
 obtain ⟨m', hm, hI'⟩ := h
 refine ⟨⟨m', hI'⟩, ?_⟩
 have : μ a' w' ≤ m' := by
  have hex : ∃ m, I m a' w' := ⟨m', hI'⟩
  simp only [μ, dif_pos hex]
  exact (Classical.choose_spec (least hex)).2 _ hI'
 omega
end
end Go.Wk
