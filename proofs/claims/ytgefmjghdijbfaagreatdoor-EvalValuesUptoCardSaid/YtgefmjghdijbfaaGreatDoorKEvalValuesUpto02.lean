/- Walks. -/
import Derived.Test.YtgefmjghdijbfaaGreatDoorQ05
import Derived.Test.YtgefmjghdijbfaaGreatDoorKEvalValuesUpto01
import Derived.Test.YtgefmjghdijbfaaGreatDoorQ09
import Derived.Test.YtgefmjghdijbfaaGreatDoorQ07
import Derived.Test.YtgefmjghdijbfaaGreatDoorQ04
import Derived.Test.YtgefmjghdijbfaaGreatDoorQ03
import Derived.Test.YtgefmjghdijbfaaGreatDoorQ11
import Derived.Test.YtgefmjghdijbfaaGreatDoorQ12
import Derived.Test.YtgefmjghdijbfaaGreatDoorKEvalValuesUptoTy
set_option maxHeartbeats 8000000
set_option maxRecDepth 20000
namespace Go.Wk
open Go
set_option linter.unusedVariables false
set_option linter.unusedSimpArgs false
set_option linter.unusedSectionVars false
section
variable {α : Type} [DecidableEq α]
variable {P : Program} {n : Sz} {L : List (Nat × Value)} {w0 : World} {F0 : Heap} {K0 : List Nat} {F : Heap} {G : List Grp} {a : Act} {w : World} {ops : Array Oper} {Q : Exit → Act → World → Prop} {rest : List Oper} {o : Oper}
theorem sv_lookupO {d : TypeDesc} {enc : α → Value} [hk : KeyK d enc] {x y : Operand} {t kt e : TypeId} {z : Value} {sz by_ : Nat} {b : Nat} {es : List (α × Value)} {R} {k : α} {ok : Bool} [ht : Und P t (.map kt e)] [hd : Und P kt d] [hi : Inf P e z sz by_] [hh : Has G b (mObj enc es) R]
  (S : St n L w0 F0 K0 F G a w) (ho : o.op = .lookup t x y ok) (hx : ev L x = some (.map (some b))) (hy : ev L y = some (enc k)) : SV P o a w (if ok then .tuple #[(mGet es k).getD z, .bool (mGet es k).isSome] else (mGet es k).getD z) := by
 unfold SV execOp
 rw [ho]
 simp [S.fr.eval hx, S.fr.eval hy, run_lookupM (d := d) ht hd.h hi (S.has hh) k ok]
theorem wpl_mapSet {d : TypeDesc} {enc : α → Value} [hk : KeyK d enc] {t kt e : TypeId} {x y z : Operand} {b : Nat} {es : List (α × Value)} {R} {k : α} {v : Value} [ht : Und P t (.map kt e)] [hd : Und P kt d] [hh : Has G b (mObj enc es) R]
  (S : St n L w0 F0 K0 F G a w) (hg : o.guard = none) (ho : o.op = .mapUpdate t x y z) (hdst : o.dst = none) (hx : ev L x = some (.map (some b))) (hy : ev L y = some (enc k)) (hz : ev L z = some v)
  (kk : ∀ w', St n L w0 F0 K0 F (R [(b, mObj enc (mSet es k v))]) a w' → wpList P ops Q rest a w') : wpList P ops Q (o :: rest) a w := by
 refine wpList_plain hg fun K hK => ?_
 have hb := S.has hh
 have hr : (Instr.mapUpdate t (.map (some b)) (enc k) v).run P w = .ok () (w.putObj b (mObj enc (mSet es k v))) := by
  unfold Instr.mapUpdate
  have hg := run_getMap (P := P) hb
  have hc := hk.chk P w kt false k hd.h
  simp only [Sem.run_bind, run_underlying ht.h, Result.andThen_ok, hg, Sem.run_pure, hc, run_findKey (d := d) hd.h w es k]
  cases hf : List.findIdx? (fun p => decide (k = p.1)) es with
  | none =>
   have hn : mGet es k = none := by rw [mGet_idx, hf]; rfl
   simp only [Option.map_none, mSet_new hn, mObj, mEnt_append]
   simp only [mObj] at hb
   simp [setObj, Sem.run, hb, World.putObj, Array.set!]
  | some j =>
   obtain ⟨h1, h2, h3⟩ := mEnt_modify enc k v 0 es j hf
   simp only [Option.map_some, Sem.run_bind, mObj, List.getElem?_toArray, h2, Option.getD_some]
   unfold Instr.keyThatStays
   rw [if_pos (hk.bits k)]
   simp only [Sem.run_pure, Result.andThen_ok, List.modify_toArray, h1, h3]
   simp only [mObj] at hb
   simp [setObj, Sem.run, hb, World.putObj, Array.set!]
 unfold Oper.wp execOp
 rw [ho]
 simp [S.fr.eval hx, S.fr.eval hy, S.fr.eval hz, hr, Oper.upon_skip, hdst, Act.put]
 exact hK _ _ (kk _ (S.write hh rfl rfl rfl (by simp) (World.putObj_heap_same (heap_lt hb)) fun j hj => World.putObj_heap_other hj))
theorem Ct.lend {f : FuncId} {args : List Value} {g : Grp} {Post : Value → Prop} (C : Ct P f args (F.add g) [] (fun _ _ v => Post v)) : Ct P f args F [g] (fun _ G' v => G' = [g] ∧ Post v) := by
 intro w hw
 have hT : Tr w F (keys [g]) w (F.add g) ([] ++ []) := Tr.freeze (G1 := []) (G2 := []) hw.tr
 have hA : At w (F.add g) [] := hT.at
 refine (C w hA).mono fun e w' ⟨v, F', G', he, ht, hp⟩ => ⟨v, F, [g], he, ?_, rfl, hp⟩
 refine ⟨ht.os, ht.tape, ht.output, ht.size, fun b hb _ => ht.old b hb (by simp [keys]), fun b o hb => ?_, fun _ _ h => h, fun _ _ h => .inl h, fun p hq => ?_, hw.nd⟩
 ·have h1 := hw.frz b o hb
  rw [ht.old b (heap_lt h1) (by simp [keys])]; exact h1
 ·have h1 := hw.own p hq
  refine ⟨?_, h1.2, .inr (mem_keys hq)⟩
  rw [ht.old p.1 (heap_lt h1.1) (by simp [keys])]; exact h1.1
end
end Go.Wk
namespace Go.Un
open Go Go.Wk
set_option linter.unusedSimpArgs false
set_option linter.unusedVariables false
namespace Fo
end Fo
theorem Fo.len_app : ∀ (l m : Fo), (l.app m).len = l.len + m.len
 | .nil, m => by simp [Fo.app, Fo.len]
 | .cons nm ar r, m => by simp only [Fo.app, Fo.len, Fo.len_app r m]; omega
theorem FoC.fom {F : Heap} : ∀ {xs : List Value} {l : Fo} {b off : Nat}, FoC F xs l → Cels F b off xs → FoM F l b off
 | [], .nil, _, _, _, _ => trivial
 | [], .cons _ _ _, _, _, h, _ => h.elim
 | [_], .nil, _, _, h, _ => h.elim
 | [_], .cons _ _ _, _, _, h, _ => h.elim
 | _ :: _ :: _, .nil, _, _, h, _ => h.elim
 | x :: v :: r, .cons nm ar l, b, off, ⟨h1, ⟨ao, cap, h2, h4, h5⟩, h3⟩, hc => by
  subst h1; subst h2
  refine ⟨hc 0 _ rfl, ⟨ao, cap, hc 1 _ rfl, h4, h5⟩, FoC.fom h3 fun j u hu => ?_⟩
  have := hc (j + 2) u hu
  rw [show off + (j + 2) = off + 2 + j by omega] at this
  exact this
theorem FoC.slf {F : Heap} {e q : Nat} {v : Value} {xs : List Value} {g : Grp} {l : Fo} (hown : OwnS e 2 v q xs g) (h : FoC F xs l) (hq : q = l.len) (hF : ∀ b o, F b = some o → F.add g b = some o) (hm : q ≤ 9223372036854775807) : SlF (F.add g) v l := by
 obtain ⟨ao, cap, rfl, h1, h2⟩ := hown.slC F
 subst hq
 exact ⟨ao, cap, rfl, ⟨h1, hm⟩, fun hp => by obtain ⟨b, o, e, h3⟩ := h2 hp; exact ⟨b, o, e, (h.mono hF).fom h3⟩⟩
theorem St.permI {n : Sz} {L : List (Nat × Value)} {w0 : World} {F0 : Heap} {K0 : List Nat} {F : Heap} {G : List Grp} {a : Act} {w : World} (S : St n L w0 F0 K0 F G a w) (m : Nat) (hm : G.length = m) (ix : List Nat) (h : (List.range m).Perm ix) : St n L w0 F0 K0 F (ix.map fun i => G.getD i []) a w := by
 refine ⟨S.fr, S.tr.perm ?_⟩
 have e : G = (List.range m).map fun i => G.getD i [] := by
  refine List.ext_getElem (by simp [hm]) fun i h1 h2 => ?_
  simp [List.getElem?_eq_getElem h1]
 conv => lhs; rw [e]
 exact (h.map _).flatten
theorem ownS_blkN {e sz q : Nat} {v : Value} {xs : List Value} {g : Grp} (h : OwnS e sz v q xs g) (hq : 0 < q) : ∃ b cap ex, v = .slice (some ⟨b, 0, none⟩) q cap ∧ g = [(b, .cells ⟨xs ++ ex⟩ e (0, 0))] ∧ q ≤ cap ∧ cap ≤ maxLen ∧ xs.length = q * sz ∧ (xs ++ ex).length = cap * sz := by
 have h0 := h.1
 rcases h.2 with ⟨_, h1, _⟩ | ⟨b, cap, cur, rfl, rfl, h1, h2, h3, h4⟩
 ·omega
 ·have e : xs ++ cur.toList.drop (q * sz) = cur.toList := by rw [← h4, List.take_append_drop]
  exact ⟨b, cap, cur.toList.drop (q * sz), rfl, by rw [e], h1, h2, h0, by rw [e]; simpa using h3⟩
theorem ownS_mkN {e sz q b cap : Nat} {xs ex : List Value} (h1 : xs.length = q * sz) (h2 : q ≤ cap) (h3 : cap ≤ maxLen) (h4 : (xs ++ ex).length = cap * sz) : OwnS e sz (.slice (some ⟨b, 0, none⟩) q cap) q xs [(b, .cells ⟨xs ++ ex⟩ e (0, 0))] :=
 ⟨h1, .inr ⟨b, cap, ⟨xs ++ ex⟩, rfl, rfl, h2, h3, by simpa using h4, by simp [← h1]⟩⟩
end Go.Un
namespace Go.De
open Go Go.Wk Go.Un
set_option linter.unusedSimpArgs false
set_option linter.unusedVariables false
theorem LiC.join {α : Type} {F : Heap} {sz : Nat} {R : Heap → α → List Value → Prop} {l : List α} {i : Nat} {x : α} {xa cs xb : List Value} (hx : l[i]? = some x) (h1 : LiC F sz R xa (l.take i)) (h2 : cs.length = sz) (h3 : R F x cs) (h4 : LiC F sz R xb (l.drop (i + 1))) : LiC F sz R (xa ++ cs ++ xb) l := by
 have h5 := LiC.app (LiC.app h1 (LiC.one h2 h3)) h4
 obtain ⟨h6, h7⟩ := List.getElem?_eq_some_iff.1 hx
 have h8 : l.take i ++ [x] ++ l.drop (i + 1) = l := by
  rw [← h7, List.append_assoc, List.singleton_append, ← List.drop_eq_getElem_cons h6, List.take_append_drop]
 rw [h8] at h5
 exact h5
theorem set_mid {xa cs xb ex : List Value} {n j : Nat} (v : Value) (h : xa.length = n) (hj : j < cs.length) : (xa ++ cs ++ xb ++ ex).set (0 + n + j) v = xa ++ cs.set j v ++ xb ++ ex := by
 subst h
 rw [List.append_assoc, List.append_assoc, Nat.zero_add, List.set_append_right _ _ (by omega), Nat.add_sub_cancel_left, List.set_append_left _ _ hj]
 simp [List.append_assoc]
theorem get_mid {xa cs xb ex : List Value} {n j : Nat} {v : Value} (h : xa.length = n) (hj : cs[j]? = some v) : (xa ++ cs ++ xb ++ ex)[0 + n + j]? = some v := by
 subst h
 have := (List.getElem?_eq_some_iff.1 hj).1
 rw [List.append_assoc, List.append_assoc, Nat.zero_add, List.getElem?_append_right (by omega), Nat.add_sub_cancel_left, List.getElem?_append_left this]
 exact hj
theorem LiC.one' {α : Type} {F : Heap} {sz : Nat} {R : Heap → α → List Value → Prop} [hO : OneC R] : ∀ {l : List α} {xs : List Value}, LiC F sz R xs l → ∀ u ∈ xs, u.oneCell' = true
 | [], xs, h, u, hu => by rw [show xs = [] from h] at hu; cases hu
 | x :: l, xs, ⟨cs, r, h1, h2, h3, h4⟩, u, hu => by
  rw [h1] at hu
  exact (List.mem_append.1 hu).elim (hO.h h3 u) (LiC.one' h4 u)
namespace Rose
variable {α : Type}
end Rose
def LtR (F : Heap) (x : LT) (cs : List Value) : Prop := ∃ v, cs = [.int .u8 (x.k : Int), .int .i64 x.l, .int .i64 x.c, .string (bs x.rel), v] ∧ TrS F 9 EhR v x.args
def RuR (F : Heap) (x : RU) (cs : List Value) : Prop := ∃ v u y, cs = [.int .i64 x.l, .int .i64 x.c, .string (bs x.rel), v, u, y] ∧ TrS F 9 EhR v x.args ∧ LiM F 1 StR u x.aggs ∧ LiM F 5 LtR y x.body
def NvR (F : Heap) (x : NV) (cs : List Value) : Prop := ∃ y, cs = [.int .i64 x.l, .int .i64 x.c, .string (bs x.nm), y] ∧ LiM F 5 LtR y x.body
instance : Mon LtR := ⟨fun hF ⟨v, h1, h2⟩ => ⟨v, h1, h2.mono hF⟩⟩
instance : Mon RuR := ⟨fun hF ⟨v, u, y, h1, h2, h3, h4⟩ => ⟨v, u, y, h1, h2.mono hF, h3.mono hF, h4.mono hF⟩⟩
instance : Mon NvR := ⟨fun hF ⟨v, h1, h2⟩ => ⟨v, h1, h2.mono hF⟩⟩
def MdR (F : Heap) (x : MD) (cs : List Value) : Prop := ∃ i1 i2 i3 v1 v2 v3 v4, cs = [.string (bs x.nm), .slice i1 i2 i3, v1, v2, v3, v4] ∧ LiM F 6 TdR v1 x.ts ∧ LiM F 6 RdR v2 x.rs ∧ LiM F 6 RuR v3 x.ru ∧ LiM F 4 NvR v4 x.nv
theorem lim_one {α : Type} {F : Heap} {sz : Nat} {R : Heap → α → List Value → Prop} {v : Value} {l : List α} (h : LiM F sz R v l) : v.oneCell' = true := by obtain ⟨ao, cap, rfl, -, -⟩ := h; rfl
theorem allc {p : Value → Prop} {a : Value} {l : List Value} (ha : p a) (hl : ∀ u ∈ l, p u) : ∀ u ∈ a :: l, p u := fun u hu => by
 rcases List.mem_cons.1 hu with rfl | hu
 ·exact ha
 ·exact hl u hu
theorem alln {p : Value → Prop} : ∀ u ∈ ([] : List Value), p u := fun u hu => by cases hu
instance : OneC StR := ⟨fun h => by rw [show _ = _ from h]; exact allc rfl alln⟩
instance : OneC CdR := ⟨fun ⟨v, h1, h2⟩ => by rw [h1]; exact allc rfl (allc (lim_one h2) alln)⟩
instance : OneC TdR := ⟨fun ⟨v, u, h1, h2, h3⟩ => by rw [h1]; exact allc rfl (allc rfl (allc rfl (allc rfl (allc (lim_one h2) (allc (lim_one h3) alln)))))⟩
instance : OneC RdR := ⟨fun ⟨v, h1, h2⟩ => by rw [h1]; exact allc rfl (allc rfl (allc rfl (allc rfl (allc rfl (allc (lim_one h2) alln)))))⟩
theorem MapM.mem {α : Type} {F : Heap} {R : Heap → α → List Value → Prop} {key : α → List UInt8} {es : List (List UInt8 × Value)} {l : List α} (h : MapM F R key es l) (s : List UInt8) : (mGet es s).isSome = decide (s ∈ l.map key) := by
 rcases h.get s with ⟨x, cs, h1, h2, h3⟩ | ⟨h1, h2⟩
 ·rw [h2]
  have h4 := List.mem_of_find?_eq_some h1
  have h5 := List.find?_some h1
  exact (decide_eq_true (List.mem_map.2 ⟨x, h4, (of_decide_eq_true h5).symm⟩)).symm
 ·rw [h2]
  refine (decide_eq_false fun hm => ?_).symm
  obtain ⟨x, h4, h5⟩ := List.mem_map.1 hm
  have := List.find?_eq_none.1 h1 x h4
  exact this (decide_eq_true h5.symm)
end Go.De
namespace Go.De
open Go Go.Wk Go.Un
set_option linter.unusedSimpArgs false
set_option linter.unusedVariables false
theorem parS_ref (s : List UInt8) : parS s = (decide (s ≠ []) && decide ((s.getD 0 0).toNat = 39)) := by
 cases s with
 | nil => rfl
 | cons x r =>
  unfold parS
  rw [Bool.eq_iff_iff]
  simp
  constructor
  ·intro h; subst h; rfl
  ·intro h; exact UInt8.toNat_inj.1 h
theorem depthL_le : ∀ l : Fo, depthL l ≤ l.size
 | .nil => Nat.le_refl _
 | .cons nm ar r => by have := depthL_le ar; have := depthL_le r; simp only [depthL, Fo.size]; omega
theorem depthL_get : ∀ {l : Fo} {k : Nat} {x : Ty}, l.get? k = some x → depthL x.2 + 1 ≤ depthL l
 | .cons nm ar r, 0, x, h => by cases h; simp only [depthL]; omega
 | .cons nm ar r, k + 1, x, h => by have := depthL_get (l := r) h; simp only [depthL]; omega
theorem anyF_cons (p : Ty → Bool) (nm : List UInt8) (ar r : Fo) : anyF p (.cons nm ar r) = (p (nm, ar) || anyF p r) := rfl
theorem anyF_wi (p : Ty → Bool) : ∀ l : Fo, anyF (wiT p) l = wiL p l
 | .nil => rfl
 | .cons nm ar r => by rw [anyF_cons, anyF_wi p r]; rfl
theorem fo_app_nil : ∀ l : Fo, l.app .nil = l
 | .nil => rfl
 | .cons nm ar r => by show Fo.cons nm ar (r.app .nil) = _; rw [fo_app_nil r]
theorem fo_app_assoc : ∀ (l m k : Fo), (l.app m).app k = l.app (m.app k)
 | .nil, m, k => rfl
 | .cons nm ar r, m, k => by show Fo.cons nm ar ((r.app m).app k) = Fo.cons nm ar (r.app (m.app k)); rw [fo_app_assoc r m k]
def strs (l : List (List UInt8)) : List Value := l.map fun s => Value.string (bs s)
theorem st_nil2 {n : Sz} {L : List (Nat × Value)} {w0 : World} {F0 : Heap} {K0 : List Nat} {F : Heap} {g : Grp} {G : List Grp} {a : Act} {w : World} (S : St n L w0 F0 K0 F (g :: G) a w) : St n L w0 F0 K0 F (g :: [] :: G) a w :=
 ⟨S.fr, S.tr.perm (by rw [List.flatten_cons, List.flatten_cons, List.flatten_cons, List.nil_append])⟩
theorem _root_.Go.Wk.St.rotG {n : Sz} {L : List (Nat × Value)} {w0 : World} {F0 : Heap} {K0 : List Nat} {F : Heap} {A B : List Grp} {a : Act} {w : World} (S : St n L w0 F0 K0 F (A ++ B) a w) : St n L w0 F0 K0 F (B ++ A) a w :=
 ⟨S.fr, S.tr.perm (by rw [List.flatten_append, List.flatten_append]; exact List.perm_append_comm)⟩
theorem ct_nil {P : Program} {F : Heap} {f : FuncId} {args : List Value} {G : List Grp} {Post : Heap → Value → Prop} (C : Ct P f args F G (fun F' _ v => Post F' v)) : Ct P f args F G (fun F' G' v => Post F' v ∧ G' = []) := fun w hw =>
 (C w hw).mono fun e w' ⟨v, F', G', he, ht, hp⟩ => ⟨v, F', [], he, ht.sub (List.nil_sublist _), hp, rfl⟩
def findR (rs : List RD) (s : List UInt8) : Option RD := rs.find? fun x => decide (s = x.nm)
def exprE (css : List KC) (h : EH) (n : Nat) : Int := if h.k = 5 then (match findC css h.nm with | none => 63 | some c => if c.fs.length ≠ n then 70 else 0) else 0
def exprsE (css : List KC) : Ef → Int
 | .nil => 0
 | .cons h L r => if exprE css h L.len ≠ 0 then exprE css h L.len else if exprsE css L ≠ 0 then exprsE css L else exprsE css r
def litE (rs : List RD) (x : LT) : Int := if x.k = 1 ∨ x.k = 2 then (match findR rs x.rel with | none => 63 | some r => if r.fs.length ≠ x.args.len then 70 else 0) else 0
def bodyE (css : List KC) (rs : List RD) : List LT → Int
 | [] => 0
 | x :: r => if litE rs x ≠ 0 then litE rs x else if exprsE css x.args ≠ 0 then exprsE css x.args else bodyE css rs r
def ruleE (css : List KC) (rs : List RD) (x : RU) : Int := match findR rs x.rel with
 | none => 63
 | some r => if r.inp = true then 50 else if x.aggs.length ≠ x.args.len then 4 else if x.args.len ≠ r.fs.length then 70 else if exprsE css x.args ≠ 0 then exprsE css x.args else bodyE css rs x.body
def rulesE (css : List KC) (rs : List RD) : List RU → Int
 | [] => 0
 | x :: r => if ruleE css rs x ≠ 0 then ruleE css rs x else rulesE css rs r
def neversE (css : List KC) (rs : List RD) : List NV → Int
 | [] => 0
 | x :: r => if bodyE css rs x.body ≠ 0 then bodyE css rs x.body else neversE css rs r
theorem exprsE_cons (css : List KC) (h : EH) (L r : Ef) : exprsE css (.cons h L r) = if exprE css h L.len ≠ 0 then exprE css h L.len else if exprsE css L ≠ 0 then exprsE css L else exprsE css r := rfl
theorem exprE_no {css : List KC} {h : EH} {n : Nat} (h5 : h.k ≠ 5) : exprE css h n = 0 := by unfold exprE; rw [if_neg h5]
theorem exprE_none {css : List KC} {h : EH} {n : Nat} (h5 : h.k = 5) (hn : findC css h.nm = none) : exprE css h n = 63 := by unfold exprE; rw [if_pos h5, hn]
theorem exprE_some {css : List KC} {h : EH} {n : Nat} {c : KC} (h5 : h.k = 5) (hs : findC css h.nm = some c) : exprE css h n = if c.fs.length ≠ n then 70 else 0 := by unfold exprE; rw [if_pos h5, hs]
theorem litE_no {rs : List RD} {x : LT} (h5 : ¬ (x.k = 1 ∨ x.k = 2)) : litE rs x = 0 := by unfold litE; rw [if_neg h5]
theorem litE_none {rs : List RD} {x : LT} (h5 : x.k = 1 ∨ x.k = 2) (hn : findR rs x.rel = none) : litE rs x = 63 := by unfold litE; rw [if_pos h5, hn]
theorem litE_some {rs : List RD} {x : LT} {c : RD} (h5 : x.k = 1 ∨ x.k = 2) (hs : findR rs x.rel = some c) : litE rs x = if c.fs.length ≠ x.args.len then 70 else 0 := by unfold litE; rw [if_pos h5, hs]
theorem ruleE_none {css : List KC} {rs : List RD} {x : RU} (hn : findR rs x.rel = none) : ruleE css rs x = 63 := by unfold ruleE; rw [hn]
theorem ruleE_some {css : List KC} {rs : List RD} {x : RU} {r : RD} (hs : findR rs x.rel = some r) : ruleE css rs x = if r.inp = true then 50 else if x.aggs.length ≠ x.args.len then 4 else if x.args.len ≠ r.fs.length then 70 else if exprsE css x.args ≠ 0 then exprsE css x.args else bodyE css rs x.body := by unfold ruleE; rw [hs]
def relatedE (ts : List TD) : List (List UInt8) → List RD → Int
 | _, [] => 0
 | seen, x :: r => if x.nm ∈ seen ∨ twiceD x.fs = true then 6 else if fieldsE ts (fun _ => true) x.fs ≠ 0 then fieldsE ts (fun _ => true) x.fs else relatedE ts (seen ++ [x.nm]) r
theorem hasL_cons (k : List (List UInt8)) (nm : List UInt8) (ar r : Fo) : hasL k (.cons nm ar r) = (hasT k (nm, ar) && hasL k r) := rfl
theorem any_has (k : List (List UInt8)) : ∀ l : Fo, anyF (fun y => !hasT k y) l = !hasL k l
 | .nil => rfl
 | .cons nm ar r => by rw [anyF_cons, any_has k r, hasL_cons, Bool.not_and]
theorem anyP_has (k : List (List UInt8)) : ∀ (l pre : List FD), anyP (fun _ x => !hasT k (x.tn, x.ta)) pre l = !(l.all fun f => hasT k (f.tn, f.ta))
 | [], _ => rfl
 | x :: r, pre => by
  show (!hasT k (x.tn, x.ta) || anyP _ (pre ++ [x]) r) = _
  rw [anyP_has k r, List.all_cons, Bool.not_and]
theorem hasL_mono {k k' : List (List UInt8)} (h : ∀ s ∈ k, s ∈ k') : ∀ {l : Fo}, hasL k l = true → hasL k' l = true
 | .nil, _ => rfl
 | .cons nm ar r, h1 => by
  unfold hasL at h1 ⊢
  rw [Bool.and_eq_true] at h1 ⊢
  refine ⟨?_, hasL_mono h h1.2⟩
  have h2 := h1.1
  split at h2
  ·rename_i e; rw [if_pos e]; exact hasL_mono h h2
  ·rename_i e
   rw [if_neg e]
   rw [Bool.or_eq_true, decide_eq_true_eq] at h2 ⊢
   exact h2.imp (h nm) id
theorem hasT_mono {k k' : List (List UInt8)} (h : ∀ s ∈ k, s ∈ k') {a : Ty} (h1 : hasT k a = true) : hasT k' a = true := by
 have := hasL_mono h (l := .cons a.1 a.2 .nil) (by rw [hasL_cons, h1]; rfl)
 rw [hasL_cons, Bool.and_eq_true] at this
 exact this.1
theorem tyOK_mono {k k' : List (List UInt8)} (h : ∀ s ∈ k, s ∈ k') {x : TD} (h1 : tyOK k x = true) : tyOK k' x = true := by
 unfold tyOK at *
 rw [List.any_eq_true] at *
 obtain ⟨c, hc, h2⟩ := h1
 refine ⟨c, hc, ?_⟩
 unfold consOK at *
 rw [List.all_eq_true] at *
 exact fun f hf => hasT_mono h (h2 f hf)
theorem Rch.base_sub {l : List TD} {k : List (List UInt8)} (h : Rch l k) : ∀ s ∈ full0, s ∈ k := by
 induction h with
 | base => exact fun s hs => hs
 | step _ _ _ _ ih => exact fun s hs => List.mem_append_left _ (ih s hs)
theorem rch_sub {l : List TD} {k k' : List (List UInt8)} (h : Rch l k) (h0 : ∀ s ∈ full0, s ∈ k') (hc : Closed l k') : ∀ s ∈ k, s ∈ k' := by
 induction h with
 | base => exact h0
 | @step k x hk hx hn ho ih =>
  intro s hs
  rcases List.mem_append.1 hs with hs | hs
  ·exact ih s hs
  ·rw [List.mem_singleton] at hs
   subst hs
   apply Classical.byContradiction
   intro hnm
   have := hc x hx hnm
   rw [tyOK_mono ih ho] at this
   cases this
def leftN (l : List TD) (k : List (List UInt8)) : Nat := l.countP fun x => !decide (x.nm ∈ k)
theorem leftN_step {l : List TD} {k : List (List UInt8)} {x : TD} (hx : x ∈ l) (hn : x.nm ∉ k) : leftN l (k ++ [x.nm]) < leftN l k := by
 unfold leftN
 have hle : ∀ r : List TD, r.countP (fun y => !decide (y.nm ∈ k ++ [x.nm])) ≤ r.countP fun y => !decide (y.nm ∈ k) := fun r => by
  refine List.countP_mono_left fun y _ hy => ?_
  rw [Bool.not_eq_true', decide_eq_false_iff_not] at hy ⊢
  exact fun hm => hy (List.mem_append_left _ hm)
 induction l with
 | nil => cases hx
 | cons y r ih =>
  rw [List.countP_cons, List.countP_cons]
  by_cases e : y = x
  ·subst e
   have h1 : (!decide (y.nm ∈ k ++ [y.nm])) = false := by simp
   have h2 : (!decide (y.nm ∈ k)) = true := by simp [hn]
   rw [h1, h2]
   have := hle r
   simp only [if_true, Bool.false_eq_true, if_false]
   omega
  ·have h1 := ih ((List.mem_cons.1 hx).resolve_left fun h => e h.symm)
   have h2 : (if (!decide (y.nm ∈ k ++ [x.nm])) = true then 1 else 0) ≤ (if (!decide (y.nm ∈ k)) = true then 1 else 0) := by
    by_cases h3 : y.nm ∈ k
    ·have h4 : y.nm ∈ k ++ [x.nm] := List.mem_append_left _ h3
     simp [h3, h4]
    ·simp [h3]; split <;> omega
   omega
theorem runK_closed {l : List TD} : ∀ (n : Nat) {k : List (List UInt8)}, leftN l k ≤ n → Closed l (runK l n k)
 | 0, k, h => by
  intro x hx hn
  unfold leftN at h
  have h1 := List.countP_eq_zero.1 (Nat.le_zero.1 h) x hx
  rw [Bool.not_eq_true', decide_eq_false_iff_not] at h1
  exact absurd hn h1
 | n + 1, k, h => by
  unfold runK
  cases hf : l.find? fun x => !decide (x.nm ∈ k) && tyOK k x with
  | none =>
   intro x hx hn
   have h1 := List.find?_eq_none.1 hf x hx
   rw [Bool.and_eq_true, Bool.not_eq_true', decide_eq_false_iff_not] at h1
   cases ho : tyOK k x with
   | false => rfl
   | true => exact absurd ⟨hn, ho⟩ h1
  | some x =>
   have h1 := List.find?_some hf
   rw [Bool.and_eq_true, Bool.not_eq_true', decide_eq_false_iff_not] at h1
   have := leftN_step (List.mem_of_find?_eq_some hf) h1.1
   exact runK_closed n (by omega)
theorem fullK_closed (l : List TD) : Closed l (fullK l) := runK_closed _ List.countP_le_length
theorem fullE_of {l : List TD} {k : List (List UInt8)} (h : Rch l k) (hc : Closed l k) : fullE l = if (l.all fun x => decide (x.nm ∈ k)) = true then 0 else 5 := by
 have h1 : ∀ s, s ∈ k ↔ s ∈ fullK l := fun s => ⟨rch_sub h (fullK_rch l).base_sub (fullK_closed l) s, rch_sub (fullK_rch l) h.base_sub hc s⟩
 unfold fullE
 rw [show (fun x : TD => decide (x.nm ∈ fullK l)) = fun x => decide (x.nm ∈ k) from funext fun x => by rw [Bool.eq_iff_iff, decide_eq_true_eq, decide_eq_true_eq, h1]]
def typedE (l : List TD) : Int := if dupE [] [] l = true then 6 else if typesFE l l ≠ 0 then typesFE l l else fullE l
theorem consFrom_app (x : TD) : ∀ (i : Nat) (l : List CD) (c : CD), consFrom x i (l ++ [c]) = consFrom x i l ++ [⟨c.nm, x.nm, x.ps, ((i + l.length : Nat) : Int), c.fs⟩]
 | i, [], c => rfl
 | i, d :: r, c => by
  show _ :: consFrom x (i + 1) (r ++ [c]) = _ :: (consFrom x (i + 1) r ++ _)
  rw [consFrom_app x (i + 1) r c, List.length_cons, show i + 1 + r.length = i + (r.length + 1) by omega]
theorem consOf_app (l : List TD) (x : TD) : consOf (l ++ [x]) = consOf l ++ consFrom x 0 x.cs := by unfold consOf; rw [List.flatMap_append]; simp
theorem cnames_app (l : List TD) (x : TD) : cnames (l ++ [x]) = cnames l ++ x.cs.map CD.nm := by unfold cnames; rw [List.flatMap_append]; simp
def takeE (M : MD) : Int := if typedE M.ts ≠ 0 then typedE M.ts else if relatedE M.ts [] M.rs ≠ 0 then relatedE M.ts [] M.rs else if rulesE (consOf M.ts) M.rs M.ru ≠ 0 then rulesE (consOf M.ts) M.rs M.ru else neversE (consOf M.ts) M.rs M.nv
end Go.De
namespace Go.Proofs.YtgefmjghdijbfaaGreatDoor
open Go Go.Wk Go.Un Go.De
set_option linter.unusedSimpArgs false
set_option linter.unusedVariables false
theorem sameH_iff {h h2 : VH} : sameH h h2 = true ↔ h = h2 := by
 unfold sameH
 simp only [Bool.and_eq_true, decide_eq_true_eq]
 obtain ⟨a, b, c⟩ := h
 obtain ⟨a2, b2, c2⟩ := h2
 simp
theorem sameL_iff : ∀ {l m : Vf}, sameL l m = true ↔ l = m
 | .nil, .nil => by simp [sameL]
 | .nil, .cons _ _ _ => by simp [sameL]
 | .cons _ _ _, .nil => by simp [sameL]
 | .cons h L r, .cons h2 L2 r2 => by
  unfold sameL
  rw [Bool.and_eq_true, Bool.and_eq_true, sameH_iff, sameL_iff (l := L), sameL_iff (l := r)]
  constructor
  ·rintro ⟨⟨rfl, rfl⟩, rfl⟩; rfl
  ·intro e; cases e; exact ⟨⟨rfl, rfl⟩, rfl⟩
theorem sameV_iff {x y : Vv} : sameV x y = true ↔ x = y := by
 unfold sameV
 rw [Bool.and_eq_true, sameH_iff, sameL_iff]
 exact ⟨fun h => Prod.ext h.1 h.2, fun h => by rw [h]; exact ⟨rfl, rfl⟩⟩
theorem depV_more : ∀ (l : Vf) (n m m' : Int), depV l n m < m → m ≤ m' → depV l n m' = depV l n m
 | .nil, n, m, m', _, _ => rfl
 | .cons h L r, n, m, m', h1, h2 => by
  rw [depV_cons] at h1 ⊢
  rw [depV_cons]
  split at h1
  ·omega
  ·rename_i h3
   rw [if_neg h3, if_neg (by omega)]
   have h4 : max n (depV L 0 (m - 1) + 1) ≤ depV r (max n (depV L 0 (m - 1) + 1)) m := by
    have : 0 ≤ depV L 0 (m - 1) := (depV_bd L 0 (m - 1) (Int.le_refl _)).1
    exact (depV_bd r _ m (by omega)).1
   have e := depV_more L 0 (m - 1) (m' - 1) (by omega) (by omega)
   rw [e]
   exact depV_more r _ m m' h1 h2
theorem depV_all : ∀ (l : Vf) (n m : Int), 0 ≤ n → depV l n m < m → ∀ k x, l.get? k = some x → depV x.2 0 m + 1 ≤ depV l n m
 | .cons h L r, n, m, hn, h1, 0, x, e => by
  cases e
  rw [depV_cons] at h1 ⊢
  split at h1
  ·omega
  ·rename_i h3
   rw [if_neg h3]
   have h0 : 0 ≤ depV L 0 (m - 1) := (depV_bd L 0 (m - 1) (Int.le_refl _)).1
   have h4 := (depV_bd r (max n (depV L 0 (m - 1) + 1)) m (by omega)).1
   have e := depV_more L 0 (m - 1) m (by omega) (by omega)
   show depV L 0 m + 1 ≤ _
   omega
 | .cons h L r, n, m, hn, h1, k + 1, x, e => by
  rw [depV_cons] at h1 ⊢
  split at h1
  ·omega
  ·rename_i h3
   rw [if_neg h3]
   exact depV_all r _ m (by omega) h1 k x e
theorem formL_get : ∀ {l : Vf} {k : Nat} {x : Vv}, formL l = true → l.get? k = some x → formH x.1 x.2.len = true ∧ formL x.2 = true
 | .cons h L r, 0, x, f, e => by cases e; rw [formL_cons, Bool.and_eq_true, Bool.and_eq_true] at f; exact f.1
 | .cons h L r, k + 1, x, f, e => by rw [formL_cons, Bool.and_eq_true] at f; exact formL_get (l := r) f.2 e
theorem fitsL_get : ∀ {l : Vf} {k : Nat} {x : Vv}, fitsL l = true → l.get? k = some x → fitsH x.1 x.2.len = true ∧ fitsL x.2 = true
 | .cons h L r, 0, x, f, e => by cases e; rw [fitsL_cons, Bool.and_eq_true, Bool.and_eq_true] at f; exact f.1
 | .cons h L r, k + 1, x, f, e => by rw [fitsL_cons, Bool.and_eq_true] at f; exact fitsL_get (l := r) f.2 e
theorem chk_parts {h : VH} {L : Vf} (hc : checkV h L = 0) : depV L 0 65 + 1 ≤ 64 ∧ (formH h L.len && formL L) = true ∧ (fitsH h L.len && fitsL L) = true := by
 unfold checkV at hc
 split at hc
 ·cases hc
 ·split at hc
  ·cases hc
  ·split at hc
   ·cases hc
   ·rename_i h1 h2 h3
    exact ⟨by omega, by simpa using h2, by simpa using h3⟩
theorem may_get {v x : Vv} {k : Nat} (hv : mayV v = true) (e : v.2.get? k = some x) : mayV x = true := by
 obtain ⟨h1, h2, h3⟩ := chk_parts (of_decide_eq_true hv)
 rw [Bool.and_eq_true] at h2 h3
 have f := formL_get h2.2 e
 have g := fitsL_get h3.2 e
 have d := depV_all v.2 0 65 (Int.le_refl _) (by omega) k x e
 refine decide_eq_true ?_
 unfold checkV
 rw [if_neg (by omega), if_neg (by rw [f.1, f.2]; decide), if_neg (by rw [g.1, g.2]; decide)]
end Go.Proofs.YtgefmjghdijbfaaGreatDoor
namespace Go.Cv
open Go Go.Wk Go.Un Go.De
set_option linter.unusedSimpArgs false
set_option linter.unusedVariables false
theorem wi_or (p q : Ty → Bool) : ∀ l : Fo, wiL (fun y => p y || q y) l = (wiL p l || wiL q l)
 | .nil => rfl
 | .cons nm ar r => by
  rw [wi_cons, wi_cons, wi_cons, wi_or p q r]
  unfold wiT
  rw [wi_or p q ar]
  exact (show ∀ a b c d e f : Bool, (((a || b) || (c || d)) || (e || f)) = (((a || c) || e) || ((b || d) || f)) by decide) _ _ _ _ _ _
theorem wiT_or (p q : Ty → Bool) (x : Ty) : wiT (fun y => p y || q y) x = (wiT p x || wiT q x) := by
 unfold wiT
 rw [wi_or p q]
 exact (show ∀ a b c d : Bool, ((a || b) || (c || d)) = ((a || c) || (b || d)) by decide) _ _ _ _
theorem useT_ok {ts : List TD} {a : Ty} (h : useT ts a = 0) : wiT (nameT ts) a = false ∧ wiT (fun y => !countsT ts y) a = false := by
 unfold useT at h
 split at h
 ·cases h
 ·split at h
  ·cases h
  ·split at h
   ·cases h
   ·rename_i h1 h2 h3
    exact ⟨by simpa using h2, by simpa using h3⟩
theorem fieldE_ok {ts : List TD} {ps : List By} {f : FD} (h : fieldE ts (fun s => decide (s ∈ ps)) f = 0) : FOk ts ps (f.tn, f.ta) := by
 unfold fieldE at h
 split at h
 ·cases h
 ·rename_i h1
  have h2 := useT_ok h
  unfold FOk
  rw [wiT_or (fun y => nameT ts y || !countsT ts y), wiT_or, h2.1, h2.2]
  rw [h] at h1
  have h3 : ¬ wiT (fun y => parS y.1 && !decide (y.1 ∈ ps)) (f.tn, f.ta) = true := fun h9 => h1 ⟨by decide, h9⟩
  simpa using h3
theorem fieldsE_ok {ts : List TD} {p : By → Bool} : ∀ {l : List FD}, fieldsE ts p l = 0 → ∀ f ∈ l, fieldE ts p f = 0
 | [], _, f, h => by cases h
 | x :: r, h, f, hf => by
  unfold fieldsE at h
  split at h
  ·rename_i h1; exact absurd h h1
  ·rename_i h1
   rcases List.mem_cons.1 hf with rfl | hf
   ·exact Classical.not_not.1 h1
   ·exact fieldsE_ok h f hf
theorem consFE_ok {ts : List TD} {ps : List By} : ∀ {l : List CD}, consFE ts ps l = 0 → ∀ c ∈ l, fieldsE ts (fun s => decide (s ∈ ps)) c.fs = 0
 | [], _, f, h => by cases h
 | x :: r, h, c, hc => by
  unfold consFE at h
  split at h
  ·rename_i h1; exact absurd h h1
  ·rename_i h1
   rcases List.mem_cons.1 hc with rfl | hc
   ·exact Classical.not_not.1 h1
   ·exact consFE_ok h c hc
theorem typesFE_ok {ts : List TD} : ∀ {l : List TD}, typesFE ts l = 0 → ∀ x ∈ l, consFE ts x.ps x.cs = 0
 | [], _, f, h => by cases h
 | x :: r, h, c, hc => by
  unfold typesFE at h
  split at h
  ·rename_i h1; exact absurd h h1
  ·rename_i h1
   rcases List.mem_cons.1 hc with rfl | hc
   ·exact Classical.not_not.1 h1
   ·exact typesFE_ok h c hc
theorem TOk.field {ts : List TD} (h : TOk ts) {d : TD} {c : CD} (hd : d ∈ ts) (hc : c ∈ d.cs) : ∀ f ∈ c.fs, FOk ts d.ps (f.tn, f.ta) := fun f hf => fieldE_ok (fieldsE_ok (consFE_ok (typesFE_ok h.fe d hd) c hc) f hf)
def rCount (ts : List TD) (a : Ty) : Bool := if plainS a.1 = true ∨ parS a.1 = true then decide (a.2.len = 0) else if a.1 = sTuple then decide (a.2.len ≠ 1) && decide (a.2.len ≤ 16) else declS ts a.1 && decide (a.2.len = parN ts a.1)
def rUse (ts : List TD) (a : Ty) : Int := if 64 < depthT a then 65 else if wiT (nameT ts) a = true then 63 else if wiT (fun y => !rCount ts y) a = true then 70 else if wiT (growT ts) a = true then 72 else 0
theorem rCount_eq {ts : List TD} {y : Ty} (h : nameT ts y = false) : rCount ts y = countsT ts y := by
 unfold rCount countsT
 split
 ·rfl
 ·rename_i h1
  split
  ·rfl
  ·rename_i h2
   unfold nameT at h
   have hp : plainS y.1 = false := by cases e : plainS y.1 with | false => rfl | true => exact absurd (.inl e) h1
   have hq : parS y.1 = false := by cases e : parS y.1 with | false => rfl | true => exact absurd (.inr e) h1
   rw [hp, hq, decide_eq_false h2] at h
   have : declS ts y.1 = true := by simpa using h
   rw [this, Bool.true_and]
theorem wiL_count {ts : List TD} : ∀ l : Fo, wiL (nameT ts) l = false → wiL (fun y => !rCount ts y) l = wiL (fun y => !countsT ts y) l
 | .nil, _ => rfl
 | .cons nm ar r, h => by
  rw [wi_cons, Bool.or_eq_false_iff] at h
  have h1 := h.1
  unfold wiT at h1
  rw [Bool.or_eq_false_iff] at h1
  rw [wi_cons, wi_cons, wiL_count r h.2]
  unfold wiT
  have e : rCount ts (nm, ar) = countsT ts (nm, ar) := rCount_eq h1.1
  show (!rCount ts (nm, ar) || wiL (fun y => !rCount ts y) ar || _) = _
  rw [wiL_count ar h1.2, e]
theorem rUse_eq (ts : List TD) (a : Ty) : rUse ts a = useT ts a := by
 unfold rUse useT
 split
 ·rfl
 ·split
  ·rfl
  ·rename_i h
   have h1 : wiT (nameT ts) a = false := by simpa using h
   have h2 := h1
   unfold wiT at h2
   rw [Bool.or_eq_false_iff] at h2
   have e : wiT (fun y => !rCount ts y) a = wiT (fun y => !countsT ts y) a := by
    unfold wiT
    show (!rCount ts a || wiL (fun y => !rCount ts y) a.2) = (!countsT ts a || _)
    rw [wiL_count a.2 h2.2, rCount_eq h2.1]
   rw [e]
def stepR (ts : List TD) (k : List By) : List By := (ts.filter fun x => tyOK (full0 ++ k) x).map TD.nm
def roundR (ts : List TD) : Nat → List By → List By
 | 0, k => k
 | n + 1, k => roundR ts n (stepR ts k)
def fullR (ts : List TD) : List By := roundR ts (ts.length + 1) []
theorem roundR_succ (ts : List TD) : ∀ (n : Nat) (k : List By), roundR ts (n + 1) k = stepR ts (roundR ts n k)
 | 0, k => rfl
 | n + 1, k => by show roundR ts (n + 1) (stepR ts k) = _; rw [roundR_succ ts n]; rfl
def rTypesE (ts : List TD) : Int := if dupE [] [] ts = true then 6 else if typesFE ts ts ≠ 0 then typesFE ts ts else if (ts.all fun x => decide (x.nm ∈ fullR ts)) = true then 0 else 5
end Go.Cv
namespace Go.Proofs.YtgefmjghdijbfaaGreatDoor
open Go Go.Wk Go.Un Go.De
set_option linter.unusedSimpArgs false
set_option linter.unusedVariables false
attribute [local irreducible] Go.wpList Go.Code.wp Go.wpStill Go.Wk.wpPre Go.bodyPost Go.Calls Go.Wk.Ct Go.Wk.OwnS Go.Wk.wpG Go.Wk.wpM
section
variable {P : Program} {n : Sz} {L : List (Nat × Value)} {w0 : World} {F0 : Heap} {K0 : List Nat} {F : Heap} {G : List Grp} {a : Act} {w : World} {o : Oper}
theorem sv_field1 {x : Operand} {vs : List Value} {t : TypeId} {fs : List (Nat × TypeId)} {i fo : Nat} {ft : TypeId} {u : Value} [ht : Flds P t fs] (S : St n L w0 F0 K0 F G a w) (ho : o.op = .field t x i) (hx : ev L x = some (.agg ⟨vs⟩))
  (hf : fs[i]? = some (fo, ft)) (he : One P ft) (hv : vs[fo]? = some u) : SV P o a w u := by
 obtain ⟨fields, h1, h2⟩ := ht.h
 rw [← h2, List.getElem?_map] at hf
 obtain ⟨f, hf', e⟩ := Option.map_eq_some_iff.1 hf
 simp only [Prod.mk.injEq] at e
 obtain ⟨rfl, rfl⟩ := e
 have hf2 : fields[i]? = some f := by simpa using hf'
 have h3 : (part f.type ⟨vs⟩ f.offset).run P w = .ok u w := by
  simp [part, isAgg_notAgg he, hv]
 unfold SV execOp
 rw [ho]
 simp [S.fr.eval hx, Instr.field, run_underlying h1, hf2, asAgg, h3]
end
theorem zzDeB0 {p : Prop} (h : p := by (unfold parS; congr 1; first | (rw [Bool.eq_iff_iff, beq_iff_eq, decide_eq_true_eq]; exact Iff.rfl) | (have h0 : s = [] := List.length_eq_zero_iff.1 (by have h9 : s.length < 1 := h; omega); subst h0; rfl))) : p := h
theorem hasPrefix0Ct (F : Heap) (s : List UInt8) : Ct Tryz.prog 205 [.string (bs s), .string (bs [39])] F [] (fun _ _ u => u = .bool (parS s)) := by
 refine Ct.enter Tryz.func205 rfl Tryz.ntmps205 rfl fun w0 a S => ?_
 (revert S a; refine go 11 ?_; intro Z hZ a S)
 refine wgd S ?_ ?_
 ·(clear S; intro h S)
  (revert S a; refine go 6 ?_; intro a S)
  (refine wv S (sv_sliceS_hi S rfl rfl rfl (by first | omega | (simp only [List.length_append, List.length_cons, List.length_nil]; omega))) ?_; clear S a; intro a S)
  (revert S a; revert hZ Z; refine go 8 ?_; intro a S)
  refine wp_ret (fr1 S Tryz.results205 ?_)
  exact zzDeB0
 (clear S a; intro h a S)
 (revert S a; revert hZ Z; refine go 9 ?_; intro a S)
 refine wp_ret (fr1 S Tryz.results205 ?_)
 exact zzDeB0
theorem hasPrefixCt (F : Heap) (s : List UInt8) : Ct Tryz.prog 170 [.string (bs s), .string (bs [39])] F [] (fun _ _ u => u = .bool (parS s)) := by
 refine Ct.enter Tryz.func170 rfl Tryz.ntmps170 rfl fun w0 a S => ?_
 (revert S a; refine go 7 ?_; intro Z hZ a S)
 (refine wc0 S (hasPrefix0Ct F s) ?_; clear S a; intro v a w hv S; subst hv)
 (revert S a; revert hZ Z; refine go 3 ?_; intro a S)
 refine wp_ret (fr1 S Tryz.results170 ?_)
 rfl
theorem paramCt (F : Heap) (s : List UInt8) : Ct Tryz.prog 137 [.string (bs s)] F [] (fun _ _ u => u = .bool (parS s)) := by
 refine Ct.enter Tryz.func137 rfl Tryz.ntmps137 rfl fun w0 a S => ?_
 (revert S a; refine go 6 ?_; intro Z hZ a S)
 (refine wc0 S (hasPrefixCt F s) ?_; clear S a; intro v a w hv S; subst hv)
 (revert S a; revert hZ Z; refine go 3 ?_; intro a S)
 refine wp_ret (fr1 S Tryz.results137 ?_)
 rfl
theorem refParamCt (F : Heap) (s : List UInt8) : Ct Tryz.prog 101 [.string (bs s)] F [] (fun _ _ u => u = .bool (parS s)) := by
 refine Ct.enter Tryz.func101 rfl Tryz.ntmps101 rfl fun w0 a S => ?_
 (revert S a; refine go 8 ?_; intro Z hZ a S)
 refine wgd S ?_ ?_
 ·(clear S; intro h S)
  (revert S a; refine go 2 ?_; intro a S)
  (refine wv S (sv_indexSN (i := 0) S rfl rfl rfl (by first | omega | (have h9 : 0 < s.length := List.length_pos_iff.2 (by assumption); omega))) ?_; clear S a; intro a S)
  (revert S a; revert hZ Z; refine go 6 ?_; intro a S)
  refine wp_ret (fr1 S Tryz.results101 ?_)
  (rw [parS_ref]; congr 1; rw [Bool.eq_iff_iff]; simp [*]; try omega)
 (clear S a; intro h a S)
 (revert S a; revert hZ Z; refine go 6 ?_; intro a S)
 refine wp_ret (fr1 S Tryz.results101 ?_)
 (rw [parS_ref]; congr 1; rw [Bool.eq_iff_iff]; simp [*]; try omega)
theorem plainCt (F : Heap) (s : List UInt8) : Ct Tryz.prog 136 [.string (bs s)] F [] (fun _ _ u => u = .bool (plainS s)) := by
 refine Ct.enter Tryz.func136 rfl Tryz.ntmps136 rfl fun w0 a S => ?_
 (revert S a; refine go 8 ?_; intro Z hZ a S)
 refine wgd S ?_ ?_
 ·(clear S; intro h S)
  (revert S a; refine go 5 ?_; intro a S)
  refine wgd S ?_ ?_
  ·(clear S; intro h S)
   (revert S a; refine go 5 ?_; intro a S)
   refine wgd S ?_ ?_
   ·(clear S; intro h S)
    (revert S a; revert hZ Z; refine go 7 ?_; intro a S)
    refine wp_ret (fr1 S Tryz.results136 ?_)
    (congr 1; rw [Bool.eq_iff_iff]; simp [plainS, sBool, sInt, sBig, sText, *]; try exact decide_eq_true_iff.symm)
   (clear S a; intro h a S)
   (revert S a; revert hZ Z; refine go 5 ?_; intro a S)
   refine wp_ret (fr1 S Tryz.results136 ?_)
   (congr 1; rw [Bool.eq_iff_iff]; simp [plainS, sBool, sInt, sBig, sText, *]; try exact decide_eq_true_iff.symm)
  (clear S a; intro h a S)
  (revert S a; revert hZ Z; refine go 9 ?_; intro a S)
  refine wp_ret (fr1 S Tryz.results136 ?_)
  (congr 1; rw [Bool.eq_iff_iff]; simp [plainS, sBool, sInt, sBig, sText, *]; try exact decide_eq_true_iff.symm)
 (clear S a; intro h a S)
 (revert S a; revert hZ Z; refine go 13 ?_; intro a S)
 refine wp_ret (fr1 S Tryz.results136 ?_)
 (congr 1; rw [Bool.eq_iff_iff]; simp [plainS, sBool, sInt, sBig, sText, *]; try exact decide_eq_true_iff.symm)
theorem zzDeB1 {p : Prop} (h : p := by (first | (have he : s = x := (by first | assumption | simpa using h); subst he; have hm : s ∈ l := List.mem_of_getElem? hx; have hi : l.idxOf s = k := (by have h1 := List.idxOf_lt_length_iff.2 hm; rcases Nat.lt_trichotomy (l.idxOf s) k with h2 | h2 | h2; exact absurd (List.getElem_idxOf h1) (hall _ _ h2 (List.getElem?_eq_getElem h1)); exact h2; (exfalso; have h3 := List.not_of_lt_findIdx (p := (· == s)) (xs := l) h2; rw [(List.getElem?_eq_some_iff.1 hx).2] at h3; simp at h3)); unfold idxOf; rw [if_pos hm, hi]) | (have hm : ¬ s ∈ l := (by intro hm; obtain ⟨j, hj⟩ := List.mem_iff_getElem?.1 hm; exact hall j s (by have := (List.getElem?_eq_some_iff.1 hj).1; omega) hj rfl); unfold idxOf; rw [if_neg hm]) | trace_state)) : p := h
theorem indexSCt (F : Heap) (l : List (List UInt8)) (s : List UInt8) (v : Value) (h : SlC F v l.length (strs l)) (hl : l.length ≤ 9223372036854775807) : Ct Tryz.prog 122 [v, .string (bs s)] F [] (fun _ _ u => u = .int .i64 (idxOf l s)) := by
 obtain ⟨ao, cap, rfl, hcap, hpos⟩ := h
 refine Ct.enter Tryz.func122 rfl Tryz.ntmps122 rfl fun w0 a S => ?_
 (revert S a; refine go 12 ?_; intro Z hZ a S)
 refine wpc_loop (fun m a w' => ∃ (k : Nat), m = l.length - k ∧ k ≤ l.length ∧ (∀ j x, j < k → l[j]? = some x → x ≠ s) ∧ St 19 [(0, .slice ao l.length cap), (1, .string (bs s)), (7, .int .i64 l.length), (8, .int .i64 k)] w0 F [] F [] a w') ?_ ?_
 ·(refine ⟨l.length, 0, by omega, Nat.zero_le _, fun j x h => absurd h (Nat.not_lt_zero _), ?_⟩; refine S.keep ?_; exact zk)
 (clear S; rintro m a w ⟨k, rfl, hkl, hall, S⟩)
 (revert S a; refine go 5 ?_; intro Z hZ a S)
 refine wpc_sp S rfl ?_ ?_ <;> intro h
 ·(revert S a; revert hZ Z; refine go 9 ?_; intro Z hZ a S)
  (refine wp_seq_k ?_; intro Z hZ)
  (obtain ⟨x, hx⟩ : ∃ x, l[k]? = some x := ⟨_, List.getElem?_eq_getElem (by omega)⟩; obtain ⟨b8, o8, hao, hcs⟩ := hpos (by omega); rw [hao] at S; have hc1 : Cel F b8 (o8 + k * 1) (.string (bs x)) := (by rw [Nat.mul_one]; exact hcs k _ (by rw [strs, List.getElem?_map, hx]; rfl)))
  (revert S a; revert hZ Z; refine go 9 ?_; intro a S)
  refine wpc_sp S rfl ?_ ?_ <;> intro h
  ·(revert S a; refine go 5 ?_; intro a S)
   refine wp_ret (fr1 S Tryz.results122 ?_)
   exact zzDeB1
  (revert S a; revert hZ Z; refine go 6 ?_; intro a S)
  change ∃ m', _ ∧ _
  (rw [← hao] at S; refine ⟨l.length - (k + 1), by omega, k + 1, rfl, by omega, ?_, ?_⟩; rotate_left 1; (refine S.keep ?_; exact zk); intro j y h7 h8; rcases Nat.lt_or_eq_of_le (Nat.le_of_lt_succ h7) with h6 | h6; exact hall j y h6 h8; subst h6; rw [hx] at h8; cases h8; have hne : ¬ s = x := (by first | assumption | simpa using h); exact fun e => hne e.symm)
 (refine wp_exit ?_; conv => whnf)
 clear hZ Z
 (revert S a; revert hZ Z; refine go 5 ?_; intro a S)
 refine wp_ret (fr1 S Tryz.results122 ?_)
 exact zzDeB1
def OwnD (m : Nat) : Prop := ∀ (F : Heap) (nm : List UInt8) (ar : Fo) (cs : List Value), ar.size < m → TyC F cs nm ar → ar.len * 40 ≤ 140737488355328 → Thin ar →
 Ct Tryz.prog 90 [.agg ⟨cs⟩] F [] (fun F' _ u => ∃ (ao : Option Addr) (q c : Nat), u = .agg ⟨[.string (bs nm), .slice ao q c]⟩ ∧ SlF F' (.slice ao q c) ar)
theorem drop_app {pre : Fo} {l : Fo} {k : Nat} {x : Ty} (h : pre.app (l.drop k) = l) (hx : l.get? k = some x) : (pre.app (.cons x.1 x.2 .nil)).app (l.drop (k + 1)) = l := by
 conv => rhs; rw [← h, Fo.drop_get hx]
 rw [fo_app_assoc]; rfl
theorem ownDCt : ∀ m, OwnD m := by
 intro m
 induction m with
 | zero => intro F nm ar cs hm; omega
 | succ m ih =>
 intro F nm ar cs hm hT hln hthin
 obtain ⟨v, rfl, ao, cap, rfl, hcap, hpos⟩ := hT
 refine Ct.enter Tryz.func90 rfl Tryz.ntmps90 rfl fun w0 a S => ?_
 refine wp_sr fun Z hZ => ?_
 (refine wbx S ?_; clear S a; intro b1 a w S)
 (refine wpl_alloc S rfl rfl rfl rfl ?_; clear S a; intro b2 a w S)
 (revert S a; revert hZ Z; refine go 6 ?_; intro Z hZ a S)
 (refine wpl_alloc S rfl rfl rfl rfl ?_; clear S a; intro b3 a w S)
 (refine wso S rfl rfl ?_; clear S; intro w S)
 (revert S a; revert hZ Z; refine go 11 ?_; intro Z hZ a S)
 refine wpc_loop (fun m a w' => ∃ (i : Nat) (v : Value) (g : Grp) (xs : List Value) (pre : Fo) (F3 : Heap), m = ar.len - i ∧ i ≤ ar.len ∧ (∀ b o, F b = some o → F3 b = some o) ∧ OwnS 88 2 v i xs g ∧ FoC F3 xs pre ∧ pre.len = i ∧ pre.app (ar.drop i) = ar ∧ St 25 [(2, ptr b2), (3, ptr b3), (10, .slice ao ar.len cap), (11, .int .i64 ar.len), (12, .int .i64 i)] w0 F [] F3 ([(b3, .cells ⟨[.string (bs nm), v]⟩ 88 (0, 0))] :: g :: [(b2, .cells ⟨[.string (bs []), .slice none 0 0]⟩ 88 (0, 0))] :: [(b1, .cells ⟨[.string (bs nm), .slice ao ar.len cap]⟩ 88 (0, 0))] :: []) a w') ?_ ?_
 ·(replace S := st_nil2 S; refine ⟨ar.len, 0, .slice none 0 0, [], [], .nil, F, by omega, Nat.zero_le _, fun _ _ h => h, OwnS.nil _ _, trivial, rfl, rfl, ?_⟩; refine S.keep ?_; exact zk)
 (clear S; rintro m a w ⟨i, v, g, xs, pre, F3, rfl, hil, hF3, hown, hfc, hpre, happ, S⟩)
 (revert S a; refine go 5 ?_; intro Z hZ a S)
 refine wpc_sp S rfl ?_ ?_ <;> intro h
 ·(revert S a; revert hZ Z; refine go 4 ?_; intro Z hZ a S)
  (refine wp_seq_k ?_; intro Z hZ)
  (obtain ⟨b8, o8, hao, x, v1, hx, hc1, hT1⟩ := FoM.pos hpos (k := i) (by omega); rw [hao] at S; replace hc1 := Cels.mono hF3 hc1; replace hT1 := hT1.mono hF3; have hT1c := hT1; obtain ⟨a91, c91, rfl, -⟩ := hT1c; obtain ⟨hx40, hxth⟩ := hthin.get hx; have hxs := Fo.size_get hx)
  (revert S a; refine go 3 ?_; intro a S)
  (refine wpl_alloc S rfl rfl rfl rfl ?_; clear S a; intro b5 a w S)
  (refine wso S rfl rfl ?_; clear S; intro w S)
  (revert S a; revert hZ Z; refine go 2 ?_; intro a S)
  (refine wpc_mixM [0, 1, 2, 6] [1, 2] [7] (.one 0 (.one 1 (.one 2 (.one 3 (.one 4 (.one 5 (.one 6 (.one 7 .nil)))))))) [b3, b5] S mixed (by kernel_rfl) ?_; clear S; intro w S)
  (revert S a; refine go 4 ?_; intro a S)
  (refine wpl_call (Gs := []) (Gr := [[(b5, _)], [(b3, _)], g, [(b2, _)], [(b1, _)]]) S rfl rfl rfl rfl rfl rfl (ih F3 x.1 x.2 _ (by omega) ⟨_, rfl, hT1⟩ hx40 hxth) rfl (by exact List.Perm.refl _) ?_; clear S a; intro u9 F4 G4 a w hv hF4 S; obtain ⟨a4, q4, c4, rfl, hs4⟩ := hv; replace S : St _ _ _ _ _ F4 ([(b5, _)] :: [(b3, _)] :: g :: [(b2, _)] :: [(b1, _)] :: []) _ _ := ⟨S.fr, S.tr.sub (by rw [List.flatten_append]; exact List.sublist_append_right _ _)⟩)
  (revert S a; refine go 2 ?_; intro a S)
  (refine wpl_buildSlice S rfl rfl rfl rfl rfl rfl (by rfl) (by simp [Value.cells, splice, splice]) rfl (by rfl) (by rfl) ?_; clear S a; intro b20 a w hown2 S)
  (revert S a; refine go 2 ?_; intro a S)
  (refine wpl_appendOwn S rfl rfl rfl rfl rfl rfl hown hown2 (by rfl) (by simp [Value.cells, Value.oneCell', splice, splice]) (by omega) (by omega) ?_; clear hown S a; intro v g a w hown S)
  (revert S a; refine go 3 ?_; intro a S)
  (refine wpl_store1 S rfl rfl rfl rfl rfl hown.oneCell (by first | (simp; done) | (simp [Value.cells]; done) | exact Nat.le_of_ble_eq_true rfl) ?_; clear S; intro w S)
  refine wpList_nil ?_
  refine wpm_nil (fun h => absurd h (by decide)) ?_
  (revert S a; revert hZ Z; refine go 5 ?_; intro a S)
  change ∃ m', _ ∧ _
  (rw [← hao] at S; replace S := S.drop1; refine ⟨ar.len - (i + 1), by omega, i + 1, _, _, _, pre.app (.cons x.1 x.2 .nil), F4, rfl, by omega, fun b o h => hF4 _ _ (hF3 _ _ h), hown, FoC.app (hfc.mono hF4) (FoC.one hs4), by rw [Fo.len_app, hpre]; rfl, drop_app happ hx, ?_⟩; refine S.keep ?_; exact zk)
 (refine wp_exit ?_; conv => whnf)
 clear hZ Z
 (refine hZ _ _ ?_; clear hZ Z)
 (refine wp_seq_k ?_; intro Z hZ)
 (obtain ⟨aoK, capK, rfl, -⟩ := hown.at)
 (revert S a; refine go 2 ?_; intro a S)
 (refine wso S rfl rfl ?_; clear S; intro w S)
 (revert S a; revert hZ Z; refine go 2 ?_; intro a S)
 refine wp_ret ?_
 (have S0 := S; have hii : i = ar.len := (by omega); replace S := S.drop1; have hle := add_le (G1 := []) S; replace S := St.freeze (G1 := []) S; (simp only [List.nil_append] at S hle); replace S := S.drop1.drop1)
 refine fin_ret S (results1 Tryz.results90 (RV.cellO S0 rfl (by rfl))) ?_
 (have hdl : ar.drop i = .nil := Fo.drop_len (by omega); rw [hdl, fo_app_nil] at happ; rw [happ] at hfc hpre; exact ⟨_, _, _, rfl, FoC.slf hown hfc (by omega) hle (by omega)⟩)
end Go.Proofs.YtgefmjghdijbfaaGreatDoor
