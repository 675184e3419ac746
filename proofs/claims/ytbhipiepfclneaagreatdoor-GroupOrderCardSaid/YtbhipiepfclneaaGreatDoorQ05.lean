/- Walks. -/
import Derived.Test.YtbhipiepfclneaaGreatDoorQ04
import Derived.Laws.MakeOwn
import Derived.Laws.Slices
import Derived.Laws.Cover3
import Derived.RangeFuncFrom
import Derived.RangeFuncLeaves
import Derived.RangeFuncCalls
import Derived.TacticsIn
namespace Go.Wk
open Go
set_option linter.unusedSimpArgs false
set_option linter.unusedVariables false
section
variable {P : Program} {n : Sz} {L : List (Nat × Value)} {w0 : World} {F0 : Heap} {K0 : List Nat} {F : Heap} {G : List Grp} {a : Act} {w : World} {o o2 : Oper} {ops : Array Oper} {rest : List Oper} {Q : Exit → Act → World → Prop}
theorem wanted_undef (S : St n L w0 F0 K0 F G a w) {j dj : Nat} {want : Bool} (hg : o.guard = some (j, want)) (hj : (ops[j]?).bind (·.dst) = some dj) (hb : look L dj = some undef) : Region.wanted o (yielded ops a.tmps) = false := by
 have hyv : yielded ops a.tmps j = none := by simp [yielded, hj, S.fr.get _ _ hb, undef]
 simp [Region.wanted, hg, hyv]
theorem wpl_skipU {j dj d : Nat} {want : Bool} (S : St n L w0 F0 K0 F G a w) (hg : o.guard = some (j, want)) (hj : (ops[j]?).bind (·.dst) = some dj) (hb : look L dj = some undef) (hd : o.dst = some d) (hn : Nat.blt d n.sz = true)
  (k : ∀ a', St n ((d, undef) :: L) w0 F0 K0 F G a' w → wpList P ops Q rest a' w) : wpList P ops Q (o :: rest) a w := by
 unfold wpList
 rw [wanted_undef S hg hj hb, if_neg (by simp), hd]
 exact k _ (S.put hn undef)
theorem sv_eqB {x y : Operand} {p q : Bool} {t yt : TypeId} [ht : Und P t .bool] (S : St n L w0 F0 K0 F G a w) (ho : o.op = .binOp .eql t x y yt) (hx : ev L x = some (.bool p)) (hy : ev L y = some (.bool q)) : SV P o a w (.bool (p == q)) := by
 have h1 : (eqGuard .eql t x y (.bool p) (.bool q)).run P w = .ok () w := by rw [eqGuard_at_bool]; rfl
 have h2 : (binOp .eql t (.bool p) (.bool q)).run P w = .ok (.bool (p == q)) w := run_eql_bool w t p q ht.h
 unfold SV execOp
 rw [ho]
 simp [S.fr.eval hx, S.fr.eval hy, h1, h2]
theorem sv_neB {x y : Operand} {p q : Bool} {t yt : TypeId} [ht : Und P t .bool] (S : St n L w0 F0 K0 F G a w) (ho : o.op = .binOp .neq t x y yt) (hx : ev L x = some (.bool p)) (hy : ev L y = some (.bool q)) : SV P o a w (.bool (p != q)) := by
 have h1 : (eqGuard .neq t x y (.bool p) (.bool q)).run P w = .ok () w := by rw [eqGuard_at_bool]; rfl
 have h2 : (binOp .neq t (.bool p) (.bool q)).run P w = .ok (.bool (p != q)) w := run_neq_bool w t p q ht.h
 unfold SV execOp
 rw [ho]
 simp [S.fr.eval hx, S.fr.eval hy, h1, h2]
theorem sv_eqSlNil {x y : Operand} {ao : Option Addr} {m c : Nat} {t yt e : TypeId} [ht : Und P t (.slice e)] (S : St n L w0 F0 K0 F G a w) (ho : o.op = .binOp .eql t x y yt) (hx : ev L x = some (.slice ao m c)) (hy : ev L y = some (.slice none 0 0)) : SV P o a w (.bool ao.isNone) := by
 unfold SV execOp
 rw [ho]
 have h1 : (eqGuard .eql t x y (.slice ao m c) (.slice none 0 0)).run P w = .ok () w := rfl
 simp [S.fr.eval hx, S.fr.eval hy, h1, binOp, run_equal_slice_nil w t e ao m c ht.h]
theorem sv_maxN {x y : Operand} {p q : Nat} {k : IntKind} {ts : Array TypeId} (S : St n L w0 F0 K0 F G a w) (ho : o.op = .call { callee := .builtin .max, args := #[x, y], argTypes := ts }) (hx : ev L x = some (.int k (Int.ofNat p))) (hy : ev L y = some (.int k (Int.ofNat q))) :
  SV P o a w (.int k ((max p q : Nat) : Int)) := by
 have e : (if (q : Int) > p then (q : Int) else p) = ((max p q : Nat) : Int) := by split <;> omega
 unfold SV execOp
 rw [ho]
 simp [resolve, invoke, builtin, S.fr.eval hx, S.fr.eval hy, Builtin.max_, Builtin.max2]
 rw [← e]
 split <;> split <;> first | rfl | omega
theorem sv_max0 {x y : Operand} {q : Int} {k : IntKind} {ts : Array TypeId} (S : St n L w0 F0 K0 F G a w) (ho : o.op = .call { callee := .builtin .max, args := #[x, y], argTypes := ts }) (hx : ev L x = some (.int k 0)) (hy : ev L y = some (.int k q)) :
  SV P o a w (.int k ((q.toNat : Nat) : Int)) := by
 have e : (if q > 0 then q else 0) = ((q.toNat : Nat) : Int) := by split <;> omega
 unfold SV execOp
 rw [ho]
 simp [resolve, invoke, builtin, S.fr.eval hx, S.fr.eval hy, Builtin.max_, Builtin.max2]
 split <;> omega
theorem sv_indexA {x y : Operand} {vs : List Value} {k : IntKind} {i m by_ : Nat} {t e : TypeId} {z u : Value} [ht : Und P t (.array m e)] [he : One P e] [hi : Inf P e z 1 by_] (S : St n L w0 F0 K0 F G a w) (ho : o.op = .index t x y) (hx : ev L x = some (.agg ⟨vs⟩)) (hy : ev L y = some (.int k (Int.ofNat i)))
  (hlt : i < m) (hv : vs[i]? = some u) : SV P o a w u := by
 have h2 : (part e ⟨vs⟩ (i * 1)).run P w = .ok u w := by
  simp [part, isAgg_notAgg he, hv]
 unfold SV execOp
 rw [ho]
 simp only [Nat.mul_one] at h2
 simp [S.fr.eval hx, S.fr.eval hy, Instr.index, asIntOf, run_underlying ht.h, run_sizeOf hi, hlt, h2]
theorem sv_subN {x y : Operand} {p q : Nat} {t yt : TypeId} (S : St n L w0 F0 K0 F G a w) (ho : o.op = .binOp .sub t x y yt) (hx : ev L x = some (.int .i64 (Int.ofNat p))) (hy : ev L y = some (.int .i64 (Int.ofNat q)))
  (hb : q ≤ p ∧ p ≤ 9223372036854775807) : SV P o a w (.int .i64 ((p - q : Nat) : Int)) := by
 have := sv_sub (P := P) S ho hx hy (by simp only [Int.ofNat_eq_natCast]; omega)
 rw [show (Int.ofNat p - Int.ofNat q) = ((p - q : Nat) : Int) by simp only [Int.ofNat_eq_natCast]; omega] at this
 exact this
theorem sv_sliceSl_hm {x y z : Operand} {ao : Option Addr} {m c i j : Nat} {k k' : IntKind} {t e : TypeId} {zv : Value} {sz by_ : Nat} [ht : Und P t (.slice e)] [hi : Inf P e zv sz by_] (S : St n L w0 F0 K0 F G a w) (ho : o.op = .slice t x none (some y) (some z))
  (hx : ev L x = some (.slice ao m c)) (hy : ev L y = some (.int k (Int.ofNat i))) (hz : ev L z = some (.int k' (Int.ofNat j))) (h1 : i ≤ j) (h2 : j ≤ c) : SV P o a w (.slice ao i j) := by
 have hb : (Instr.sliceBounds true m c none (some (.int k (Int.ofNat i))) (some (.int k' (Int.ofNat j)))).run P w = .ok (0, i, j) w := by
  simp [Instr.sliceBounds, Instr.sliceBound, asIntOf, h1, h2]
 have ha : ao.map (fun a : Addr => a.add (0 * sz)) = ao := by cases ao <;> simp [Addr.add]
 unfold SV execOp
 rw [ho]
 simp only [Option.map_none, Option.map_some, S.fr.eval hx, S.fr.eval hy, S.fr.eval hz]
 simp only [Instr.sliceAt, Instr.slice, Sem.run_bind, run_underlying ht.h, Result.andThen_ok, hb, run_sizeOf hi, ha]
 simp
theorem madeCells_one (z : Value) (k : Nat) : (madeCells #[z] k).toList = List.replicate k z := by
 simp only [madeCells, Array.toList_map, Array.toList_range]
 refine List.ext_getElem (by simp) fun i h1 h2 => ?_
 simp [Nat.mod_one]
theorem wpl_makeSlice {d : Nat} {t e : TypeId} {x y : Operand} {z : Value} {by_ q : Nat} {k1 k2 : IntKind} [ht : Und P t (.slice e)] [hi : Inf P e z 1 by_] (S : St n L w0 F0 K0 F G a w) (hg : o.guard = none) (hd : o.dst = some d) (hn : Nat.blt d n.sz = true)
  (ho : o.op = .makeSlice t x y) (hx : ev L x = some (.int k1 (Int.ofNat q))) (hy : ev L y = some (.int k2 (Int.ofNat q))) (hz : z.cells = #[z]) (hb : by_ * q ≤ 281474976710656) (h63 : q ≤ 9223372036854775807)
  (k : ∀ b a' w', OwnS e 1 (.slice (some ⟨b, 0, none⟩) q q) q (List.replicate q z) [(b, .cells ⟨List.replicate q z⟩ e (0, 0))] → St n ((d, .slice (some ⟨b, 0, none⟩) q q) :: L) w0 F0 K0 F ([(b, .cells ⟨List.replicate q z⟩ e (0, 0))] :: G) a' w' → wpList P ops Q rest a' w') : wpList P ops Q (o :: rest) a w := by
 refine wpList_plain hg fun K hK => ?_
 obtain ⟨i, i1, i2, i3, i4⟩ := hi.h
 have hr := run_make (P := P) w t e i z ht.h i1 i2 k1 k2 (Int.ofNat q) (Int.ofNat q) (Int.natCast_nonneg q) (Int.le_refl _) (by rw [i4]; have h9 : ((by_ * q : Nat) : Int) ≤ ((281474976710656 : Nat) : Int) := Int.ofNat_le.2 hb; rw [Int.natCast_mul] at h9; exact h9) (Int.ofNat_le.2 h63)
 have hc : madeCells z.cells ((Int.ofNat q).toNat * i.size) = ⟨List.replicate q z⟩ := by
  rw [i3, Nat.mul_one, hz]
  exact Array.ext' (madeCells_one z q)
 rw [hc] at hr
 unfold Oper.wp execOp
 rw [ho]
 simp only [Int.toNat_natCast, Int.ofNat_eq_natCast] at hr
 simp only [S.fr.eval hx, S.fr.eval hy, Sem.run_bind, Int.ofNat_eq_natCast, hr, Result.andThen_ok, Sem.run_pure, Oper.upon_value, hd]
 exact hK _ _ (k _ _ _ ⟨by simp, .inr ⟨_, _, _, rfl, rfl, Nat.le_refl _, by simp only [maxLen]; exact h63, by simp, by simp⟩⟩ (S.alloc _ hn _))
theorem OwnS.at {e sz q : Nat} {v : Value} {xs : List Value} {g : Grp} (h : OwnS e sz v q xs g) : ∃ ao cap, v = .slice ao q cap ∧ q ≤ cap ∧ cap ≤ maxLen ∧ (0 < q → ∃ b, ao = some ⟨b, 0, none⟩) := by
 rcases h.2 with ⟨rfl, rfl, _⟩ | ⟨b, cap, cur, rfl, _, h1, h2, _⟩
 ·exact ⟨none, 0, rfl, Nat.le_refl _, Nat.zero_le _, fun h => absurd h (by omega)⟩
 ·exact ⟨_, cap, rfl, h1, h2, fun _ => ⟨b, rfl⟩⟩
theorem OwnS.block {e q b cap : Nat} {xs : List Value} {g : Grp} (h : OwnS e 1 (.slice (some ⟨b, 0, none⟩) q cap) q xs g) :
  ∃ ex : List Value, g = [(b, .cells ⟨xs ++ ex⟩ e (0, 0))] ∧ q ≤ cap ∧ cap ≤ maxLen ∧ xs.length = q ∧ (xs ++ ex).length = cap := by
 rcases h.2 with ⟨h1, _⟩ | ⟨b', cap', cur, h1, h2, h3, h4, h5, h6⟩
 ·simp at h1
 ·simp only [Value.slice.injEq, Option.some.injEq, Addr.mk.injEq] at h1
  obtain ⟨⟨rfl, _⟩, _, rfl⟩ := h1
  rw [Nat.mul_one] at h6 h5
  refine ⟨cur.toList.drop q, ?_, h3, h4, by simpa using h.1, ?_⟩
  ·rw [← h6, List.take_append_drop, h2]
  ·rw [← h6, List.take_append_drop]; simpa using h5
theorem sv_loadOwn {x : Operand} {t e : TypeId} {b cap q i : Nat} {v : Value} {xs : List Value} {g : Grp} {R} [ht : One P t] (S : St n L w0 F0 K0 F G a w) (ho : o.op = .load t x) (hx : ev L x = some (.pointer (some ⟨b, 0 + i * 1, none⟩)))
  (hown : OwnS e 1 (.slice (some ⟨b, 0, none⟩) q cap) q xs g) [hN : Nth G g R] (hc : xs[i]? = some v) : SV P o a w v := by
 obtain ⟨ex, rfl, h1, h2, h3, h4⟩ := hown.block
 obtain ⟨G1, G2, e1, _⟩ := hN.h
 have hh := (S.tr.own (b, _) (by rw [e1]; simp only [List.flatten_append, List.flatten_cons]; exact List.mem_append_right _ (List.mem_append_left _ (List.mem_singleton.2 rfl)))).1
 refine sv_load S ho hx (cell_of_heap hh ?_)
 have := (List.getElem?_eq_some_iff.1 hc).1
 simp only [Nat.zero_add, Nat.mul_one, List.getElem?_toArray]
 rw [List.getElem?_append_left this]
 exact hc
theorem wpl_storeOwn {t e : TypeId} {x y : Operand} {z : Value} {by_ b cap q i : Nat} {v : Value} {xs : List Value} {g : Grp} {R} [hi : Inf P t z 1 by_] (S : St n L w0 F0 K0 F G a w) (hg : o.guard = none) (ho : o.op = .store t x y) (hd : o.dst = none)
  (hx : ev L x = some (.pointer (some ⟨b, 0 + i * 1, none⟩))) (hy : ev L y = some v) (hown : OwnS e 1 (.slice (some ⟨b, 0, none⟩) q cap) q xs g) [hN : Nth G g R] (h1 : v.oneCell' = true) (hl : i < q)
  (k : ∀ g' w', OwnS e 1 (.slice (some ⟨b, 0, none⟩) q cap) q (xs.set i v) g' → St n L w0 F0 K0 F (R g') a w' → wpList P ops Q rest a w') : wpList P ops Q (o :: rest) a w := by
 obtain ⟨ex, rfl, h2, h3, h4, h5⟩ := hown.block
 obtain ⟨G1, G2, e1, hR⟩ := hN.h
 have : Has G b (.cells ⟨xs ++ ex⟩ e (0, 0)) R := ⟨G1, G2, e1, hR⟩
 have hx' : ev L x = some (.pointer (some ⟨b, i, none⟩)) := by rw [hx]; simp
 refine wpl_store1 S hg ho hd hx' hy h1 (by rw [h5]; omega) fun w' S' => k _ w' ⟨by simpa using h4, .inr ⟨b, cap, _, rfl, rfl, h2, h3, by simpa using h5, ?_⟩⟩ S'
 show List.take (q * 1) ((xs ++ ex).set i v) = xs.set i v
 rw [List.set_append_left _ _ (by omega), Nat.mul_one, List.take_append_of_le_length (by simp; omega), List.take_of_length_le (by simp; omega)]
theorem run_append_zero {t ty e : TypeId} {z : Value} {sz by_ : Nat} (ht : Und P t (.slice e)) (hi : Inf P e z sz by_) (base ao : Option Addr) (q cap c : Nat) (h : q ≤ cap) :
  (Builtin.append_ #[t, t] ty #[.slice base q cap, .slice ao 0 c]).run P w = .ok (.slice base q cap) w := by
 have hz : ∀ u : Option Addr, (Builtin.firstCells sz 0 (.slice u 0 c)).run P w = .ok #[] w := by
  intro u
  cases u with
  | none => rfl
  | some a => simp [Builtin.firstCells, loadCells, loadCellsFrom]
 simp only [Builtin.append_]
 simp [run_underlying ht.h, run_sizeOf hi, Builtin.lenOf, h, hz]
 cases base <;> simp [storeCells]
theorem wpl_appendSl {d : Nat} {t e : TypeId} {s x : Operand} {z : Value} {sz by_ : Nat} {v : Value} {q m c : Nat} {ao : Option Addr} {cs news : List Value} {g : Grp} {R} [ht : Und P t (.slice e)] [hi : Inf P e z sz by_] (S : St n L w0 F0 K0 F G a w)
  (hg : o.guard = none) (hd : o.dst = some d) (hn : Nat.blt d n.sz = true) (ho : o.op = .call { callee := .builtin .append, args := #[s, x], argTypes := #[t, t] }) (hs : ev L s = some v) (hx : ev L x = some (.slice ao m c)) (hown : OwnS e sz v q cs g) [hN : Nth G g R]
  (hz : z.cells.toList.length = sz) (hl : news.length = m * sz) (hpos : 0 < m → ∃ b off, ao = some ⟨b, off, none⟩ ∧ Cels F b off news) (h1 : ∀ u ∈ news, u.oneCell' = true)
  (hlen : (q + m) * by_ ≤ 140737488355328) (h63 : q + m ≤ 9223372036854775807)
  (k : ∀ v' g' a' w', OwnS e sz v' (q + m) (cs ++ news) g' → St n ((d, v') :: L) w0 F0 K0 F (R g') a' w' → wpList P ops Q rest a' w') : wpList P ops Q (o :: rest) a w := by
 refine wpList_plain hg fun K hK => ?_
 obtain ⟨G1, G2, e1, hR⟩ := hN.h
 have e2 : a.eval s = v := S.fr.eval hs
 have e3 : a.eval x = .slice ao m c := S.fr.eval hx
 unfold Oper.wp execOp
 rw [ho]
 by_cases hm : m = 0
 ·subst hm
  have hnw : news = [] := List.eq_nil_of_length_eq_zero (by simpa using hl)
  subst hnw
  obtain ⟨bo, cap, rfl, hc, _⟩ := hown.at
  simp [resolve, invoke, builtin, e2, e3, run_append_zero ht hi, hc, Oper.upon_value, hd]
  have hG : R g = G := by rw [hR, e1]
  have S2 := S.put hn (.slice bo q cap)
  rw [← hG] at S2
  exact hK _ _ (k _ g _ _ (by simpa using hown) S2)
 ·obtain ⟨b, off, rfl, hcs⟩ := hpos (by omega)
  obtain ⟨v', w2, g', hr, ho', S2⟩ := S.append e1 ht hi hz hown ⟨b, off, none⟩ m c news hl (fun j u hj => by rw [addr_add]; exact S.cel (hcs j u hj)) h1 hlen (by simp only [maxLen]; exact h63) (by omega) (ty := o.type)
  simp [resolve, invoke, builtin, e2, e3, hr, Oper.upon_value, hd]
  refine hK _ _ (k v' g' _ w2 ho' ⟨S2.fr.put v' hn, ?_⟩)
  rw [hR]
  exact S2.tr
end
def noDefer (o : Oper) : Bool := match o.op with | .defer _ => false | _ => true
theorem noDefer_ne {o : Oper} (h : noDefer o = true) : ∀ c, o.op ≠ .defer c := fun c e => by simp [noDefer, e] at h
def WF (ro : Option Nat) : Fence := { Fence.wide with round := ro }
class NoOut (Q : Exit → Act → World → Prop) : Prop where h : ¬ LetsOut Q
instance {K : Act → World → Prop} {Q} [h : NoOut Q] : NoOut (Exit.then K Q) := ⟨fun ⟨a, w, q⟩ => h.h ⟨a, w, q⟩⟩
instance {id : Nat} {Q} [h : NoOut Q] : NoOut (Exit.inBlock id Q) := ⟨fun ⟨a, w, q⟩ => h.h ⟨a, w, q⟩⟩
instance : NoOut (fun _ _ _ => False) := ⟨fun ⟨_, _, q⟩ => q⟩
section
variable {P : Program} {ro : Option Nat}
theorem callsIn_wf {f : FuncId} {args : Array Value} {w : World} {R : Ending → World → Prop} (h : Calls P f args w R) : CallsIn (WF ro) 0 P f args w R := by
 have h1 : CallsIn Fence.wide 0 P f args w R := callsIn_wide.2 h
 exact h1
theorem rowsIn_wf {row : String} {args : Array Value} {w : World} {R : Value → World → Prop} (h : Rows P row args w R) : RowsIn (WF ro) 0 P row args w R := by
 have h1 : RowsIn Fence.wide 0 P row args w R := fun c cs _ => let ⟨v, w', r, s⟩ := h c cs; ⟨v, w', r, stepsIn_wide.2 s⟩
 exact h1
theorem uponIn_of {o : Oper} {a : Act} {next next' : Act → World → Prop} {Q : Exit → Act → World → Prop} {r : Result Next} (h : o.upon P a next Q r) (hn : ∀ a w, next a w → next' a w) : o.uponIn (WF ro) 0 P a next' Q r := by
 unfold Oper.upon at h
 unfold Oper.uponIn
 split at h
 ·exact hn _ _ h
 ·exact hn _ _ h
 ·exact hn _ _ h
 ·refine ⟨(fun hd => by cases hd), ?_⟩
  refine callsIn_wf (h.mono fun e w' he => ?_)
  cases e <;> first | exact hn _ _ he | exact he
 ·refine ⟨(fun hd => by cases hd), ?_⟩
  exact rowsIn_wf (h.mono fun v w' he => hn _ _ he)
 ·exact h
 ·exact h.elim
theorem wpIn_of {o : Oper} {a : Act} {w : World} {next next' : Act → World → Prop} {Q : Exit → Act → World → Prop} (hd : noDefer o = true) (h : o.wp P a w next Q) (hn : ∀ a w, next a w → next' a w) : o.wpIn (WF ro) 0 P a w next' Q := by
 refine ⟨fun _ _ => trivial, ?_⟩
 rw [Oper.semAt_eq _ _ _ (noDefer_ne hd)]
 exact uponIn_of h hn
theorem opsIn_of {ops : Array Oper} {Q : Exit → Act → World → Prop} (hout : ¬ LetsOut Q) (hd : ∀ (i : Nat) (o : Oper), ops[i]? = some o → noDefer o = true) : ∀ (l : List Nat) (a : Act) (w : World), wpOps P ops Q l a w → wpOpsIn (WF ro) 0 P ops Q l a w
 | [], _, _, h => h
 | i :: r, a, w, h => by
  unfold wpOps at h
  unfold wpOpsIn
  split
  ·rename_i e
   rw [e] at h
   exact opsIn_of hout hd r a w h
  ·rename_i o e
   rw [e] at h
   simp only at h
   by_cases hw : Region.wanted o (yielded ops a.tmps) = true
   ·rw [if_pos hw] at h ⊢
    rcases h with h | h
    ·exact wpIn_of (hd i o e) h fun a w h => opsIn_of hout hd r a w h
    ·exact absurd h.2 hout
   ·simp only [if_neg hw] at h ⊢
    exact ⟨fun _ _ => trivial, opsIn_of hout hd r _ _ h⟩
theorem all_of {l : List Oper} (h : l.all noDefer = true) : ∀ (i : Nat) (o : Oper), l.toArray[i]? = some o → noDefer o = true := fun i o e => by
 rw [List.all_eq_true] at h
 exact h o (List.mem_of_getElem? (by simpa using e))
variable {Q : Exit → Act → World → Prop} {a : Act} {w : World}
theorem wpi_region {id : Nat} {l : List Oper} [hout : NoOut Q] (hd : l.all noDefer = true) (h : wpList P l.toArray Q l a w) : (Code.region id l.toArray false).wpIn (WF ro) 0 P Q a w := by
 refine wpIn_region (opsIn_of hout.h (all_of hd) _ _ _ ?_)
 rw [List.range_eq_range', ← Array.length_toList, wpOps_eq_wpList l.toArray.toList 0 (by simp)]
 exact h
variable {n : Sz} {L : List (Nat × Value)} {w0 : World} {F0 : Heap} {K0 : List Nat} {F : Heap} {G : List Grp}
theorem wpi_split {c : Operand} {x y : Code} {t : Bool} (S : St n L w0 F0 K0 F G a w) (hc : ev L c = some (.bool t)) (ht : t = true → x.wpIn (WF ro) 0 P Q a w) (hf : t = false → y.wpIn (WF ro) 0 P Q a w) : (Code.cond c x y).wpIn (WF ro) 0 P Q a w := wpIn_cond_split (S.fr.eval hc) ht hf
open Classical in
theorem wpi_loop {c : Code} (I : Nat → Act → World → Prop) (h₀ : ∃ m, I m a w)
  (round : ∀ m a w, I m a w → c.wpIn (WF ro) 0 P (Exit.then (fun a' w' => ∃ m', m' < m ∧ I m' a' w') Q) a w) : (Code.loop c).wpIn (WF ro) 0 P Q a w := by
 let μ : Act → World → Nat := fun a w => if h : ∃ m, I m a w then Classical.choose (least h) else 0
 refine wpIn_loop (fun a w => ∃ m, I m a w) μ h₀ fun a w hI => ?_
 have hμ : I (μ a w) a w := by simp only [μ, dif_pos hI]; exact (Classical.choose_spec (least hI)).1
 refine wpIn_mono (round _ a w hμ) fun e a' w' h => ?_
 cases e <;> try exact h
 obtain ⟨m', hm, hI'⟩ := h
 refine ⟨⟨m', hI'⟩, ?_⟩
 have : μ a' w' ≤ m' := by
  have hex : ∃ m, I m a' w' := ⟨m', hI'⟩
  simp only [μ, dif_pos hex]
  exact (Classical.choose_spec (least hex)).2 _ hI'
 omega
end
end Go.Wk
