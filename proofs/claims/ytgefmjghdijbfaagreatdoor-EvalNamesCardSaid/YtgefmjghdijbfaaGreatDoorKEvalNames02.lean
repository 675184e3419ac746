/- Walks. -/
import Derived.Test.YtgefmjghdijbfaaGreatDoorKEvalNames01
import Derived.Test.YtgefmjghdijbfaaGreatDoorQ11
import Derived.Test.YtgefmjghdijbfaaGreatDoorQ09
import Derived.Test.YtgefmjghdijbfaaGreatDoorQ06
import Derived.Test.YtgefmjghdijbfaaGreatDoorQ05
import Derived.Test.YtgefmjghdijbfaaGreatDoorQ12
import Derived.Test.YtgefmjghdijbfaaGreatDoorQ14
import Derived.Test.YtgefmjghdijbfaaGreatDoorQ13
import Derived.Test.YtgefmjghdijbfaaGreatDoorQ18
import Derived.Test.YtgefmjghdijbfaaGreatDoorQ17
import Derived.Test.YtgefmjghdijbfaaGreatDoorQ10
import Derived.Test.YtgefmjghdijbfaaGreatDoorKEvalNamesTy
import Derived.Test.YtgefmjghdijbfaaGreatDoorQ16
import Derived.Test.YtgefmjghdijbfaaGreatDoorQ15
import Derived.Test.YtgefmjghdijbfaaGreatDoorQShelf
import Derived.Test.YtgefmjghdijbfaaGreatDoorQ24
import Derived.Test.YtgefmjghdijbfaaGreatDoorQ26
import Derived.Test.YtgefmjghdijbfaaGreatDoorQ25
import Derived.Test.YtgefmjghdijbfaaGreatDoorQ23
import Derived.Test.YtgefmjghdijbfaaGreatDoorQ22
import Derived.Test.YtgefmjghdijbfaaGreatDoorQ21
import Derived.Test.YtgefmjghdijbfaaGreatDoorQ20
import Derived.Test.YtgefmjghdijbfaaGreatDoorQ19
namespace Go.Wk
open Go
set_option linter.unusedVariables false
set_option linter.unusedSimpArgs false
set_option linter.unusedSectionVars false
section
variable {α : Type} [DecidableEq α]
variable {P : Program} {n : Sz} {L : List (Nat × Value)} {w0 : World} {F0 : Heap} {K0 : List Nat} {F : Heap} {G : List Grp} {a : Act} {w : World} {ops : Array Oper} {Q : Exit → Act → World → Prop} {rest : List Oper} {o : Oper}
theorem sv_lookupO {d : TypeDesc} {enc : α → Value} [hk : KeyK d enc] {x y : Operand} {t kt e : TypeId} {z : Value} {sz by_ : Nat} {b : Nat} {es : List (α × Value)} {R} {k : α} {ok : Bool} [ht : Und P t (.map kt e)] [hd : Und P kt d] [hi : Inf P e z sz by_] [hh : Has G b (mObj enc es) R]
  (S : St n L w0 F0 K0 F G a w) (ho : o.op = .lookup t x y ok) (hx : ev L x = some (.map (some b))) (hy : ev L y = some (enc k)) : SV P o a w (if ok then .tuple #[(mGet es k).getD z, .bool (mGet es k).isSome] else (mGet es k).getD z) := by
 unfold SV execOp
 rw [ho]
 simp [S.fr.eval hx, S.fr.eval hy, run_lookupM (d := d) ht hd.h hi (S.has hh) k ok]
theorem wpl_mapSet {d : TypeDesc} {enc : α → Value} [hk : KeyK d enc] {t kt e : TypeId} {x y z : Operand} {b : Nat} {es : List (α × Value)} {R} {k : α} {v : Value} [ht : Und P t (.map kt e)] [hd : Und P kt d] [hh : Has G b (mObj enc es) R]
  (S : St n L w0 F0 K0 F G a w) (hg : o.guard = none) (ho : o.op = .mapUpdate t x y z) (hdst : o.dst = none) (hx : ev L x = some (.map (some b))) (hy : ev L y = some (enc k)) (hz : ev L z = some v)
  (kk : ∀ w', St n L w0 F0 K0 F (R [(b, mObj enc (mSet es k v))]) a w' → wpList P ops Q rest a w') : wpList P ops Q (o :: rest) a w := by
 refine wpList_plain hg fun K hK => ?_
 have hb := S.has hh
 have hr : (Instr.mapUpdate t (.map (some b)) (enc k) v).run P w = .ok () (w.putObj b (mObj enc (mSet es k v))) := by
  unfold Instr.mapUpdate
  have hg := run_getMap (P := P) hb
  have hc := hk.chk P w kt false k hd.h
  simp only [Sem.run_bind, run_underlying ht.h, Result.andThen_ok, hg, Sem.run_pure, hc, run_findKey (d := d) hd.h w es k]
  cases hf : List.findIdx? (fun p => decide (k = p.1)) es with
  | none =>
   have hn : mGet es k = none := by rw [mGet_idx, hf]; rfl
   simp only [Option.map_none, mSet_new hn, mObj, mEnt_append]
   simp only [mObj] at hb
   simp [setObj, Sem.run, hb, World.putObj, Array.set!]
  | some j =>
   obtain ⟨h1, h2, h3⟩ := mEnt_modify enc k v 0 es j hf
   simp only [Option.map_some, Sem.run_bind, mObj, List.getElem?_toArray, h2, Option.getD_some]
   unfold Instr.keyThatStays
   rw [if_pos (hk.bits k)]
   simp only [Sem.run_pure, Result.andThen_ok, List.modify_toArray, h1, h3]
   simp only [mObj] at hb
   simp [setObj, Sem.run, hb, World.putObj, Array.set!]
 unfold Oper.wp execOp
 rw [ho]
 simp [S.fr.eval hx, S.fr.eval hy, S.fr.eval hz, hr, Oper.upon_skip, hdst, Act.put]
 exact hK _ _ (kk _ (S.write hh rfl rfl rfl (by simp) (World.putObj_heap_same (heap_lt hb)) fun j hj => World.putObj_heap_other hj))
theorem Ct.lend {f : FuncId} {args : List Value} {g : Grp} {Post : Value → Prop} (C : Ct P f args (F.add g) [] (fun _ _ v => Post v)) : Ct P f args F [g] (fun _ G' v => G' = [g] ∧ Post v) := by
 intro w hw
 have hT : Tr w F (keys [g]) w (F.add g) ([] ++ []) := Tr.freeze (G1 := []) (G2 := []) hw.tr
 have hA : At w (F.add g) [] := hT.at
 refine (C w hA).mono fun e w' ⟨v, F', G', he, ht, hp⟩ => ⟨v, F, [g], he, ?_, rfl, hp⟩
 refine ⟨ht.os, ht.tape, ht.output, ht.size, fun b hb _ => ht.old b hb (by simp [keys]), fun b o hb => ?_, fun _ _ h => h, fun _ _ h => .inl h, fun p hq => ?_, hw.nd⟩
 ·have h1 := hw.frz b o hb
  rw [ht.old b (heap_lt h1) (by simp [keys])]; exact h1
 ·have h1 := hw.own p hq
  refine ⟨?_, h1.2, .inr (mem_keys hq)⟩
  rw [ht.old p.1 (heap_lt h1.1) (by simp [keys])]; exact h1.1
end
end Go.Wk
namespace Go.Un
open Go Go.Wk
set_option linter.unusedSimpArgs false
set_option linter.unusedVariables false
namespace Fo
end Fo
theorem Fo.len_app : ∀ (l m : Fo), (l.app m).len = l.len + m.len
 | .nil, m => by simp [Fo.app, Fo.len]
 | .cons nm ar r, m => by simp only [Fo.app, Fo.len, Fo.len_app r m]; omega
theorem FoC.fom {F : Heap} : ∀ {xs : List Value} {l : Fo} {b off : Nat}, FoC F xs l → Cels F b off xs → FoM F l b off
 | [], .nil, _, _, _, _ => trivial
 | [], .cons _ _ _, _, _, h, _ => h.elim
 | [_], .nil, _, _, h, _ => h.elim
 | [_], .cons _ _ _, _, _, h, _ => h.elim
 | _ :: _ :: _, .nil, _, _, h, _ => h.elim
 | x :: v :: r, .cons nm ar l, b, off, ⟨h1, ⟨ao, cap, h2, h4, h5⟩, h3⟩, hc => by
  subst h1; subst h2
  refine ⟨hc 0 _ rfl, ⟨ao, cap, hc 1 _ rfl, h4, h5⟩, FoC.fom h3 fun j u hu => ?_⟩
  have := hc (j + 2) u hu
  rw [show off + (j + 2) = off + 2 + j by omega] at this
  exact this
theorem FoC.slf {F : Heap} {e q : Nat} {v : Value} {xs : List Value} {g : Grp} {l : Fo} (hown : OwnS e 2 v q xs g) (h : FoC F xs l) (hq : q = l.len) (hF : ∀ b o, F b = some o → F.add g b = some o) (hm : q ≤ 9223372036854775807) : SlF (F.add g) v l := by
 obtain ⟨ao, cap, rfl, h1, h2⟩ := hown.slC F
 subst hq
 exact ⟨ao, cap, rfl, ⟨h1, hm⟩, fun hp => by obtain ⟨b, o, e, h3⟩ := h2 hp; exact ⟨b, o, e, (h.mono hF).fom h3⟩⟩
theorem St.permI {n : Sz} {L : List (Nat × Value)} {w0 : World} {F0 : Heap} {K0 : List Nat} {F : Heap} {G : List Grp} {a : Act} {w : World} (S : St n L w0 F0 K0 F G a w) (m : Nat) (hm : G.length = m) (ix : List Nat) (h : (List.range m).Perm ix) : St n L w0 F0 K0 F (ix.map fun i => G.getD i []) a w := by
 refine ⟨S.fr, S.tr.perm ?_⟩
 have e : G = (List.range m).map fun i => G.getD i [] := by
  refine List.ext_getElem (by simp [hm]) fun i h1 h2 => ?_
  simp [List.getElem?_eq_getElem h1]
 conv => lhs; rw [e]
 exact (h.map _).flatten
theorem ownS_blkN {e sz q : Nat} {v : Value} {xs : List Value} {g : Grp} (h : OwnS e sz v q xs g) (hq : 0 < q) : ∃ b cap ex, v = .slice (some ⟨b, 0, none⟩) q cap ∧ g = [(b, .cells ⟨xs ++ ex⟩ e (0, 0))] ∧ q ≤ cap ∧ cap ≤ maxLen ∧ xs.length = q * sz ∧ (xs ++ ex).length = cap * sz := by
 have h0 := h.1
 rcases h.2 with ⟨_, h1, _⟩ | ⟨b, cap, cur, rfl, rfl, h1, h2, h3, h4⟩
 ·omega
 ·have e : xs ++ cur.toList.drop (q * sz) = cur.toList := by rw [← h4, List.take_append_drop]
  exact ⟨b, cap, cur.toList.drop (q * sz), rfl, by rw [e], h1, h2, h0, by rw [e]; simpa using h3⟩
theorem ownS_mkN {e sz q b cap : Nat} {xs ex : List Value} (h1 : xs.length = q * sz) (h2 : q ≤ cap) (h3 : cap ≤ maxLen) (h4 : (xs ++ ex).length = cap * sz) : OwnS e sz (.slice (some ⟨b, 0, none⟩) q cap) q xs [(b, .cells ⟨xs ++ ex⟩ e (0, 0))] :=
 ⟨h1, .inr ⟨b, cap, ⟨xs ++ ex⟩, rfl, rfl, h2, h3, by simpa using h4, by simp [← h1]⟩⟩
end Go.Un
namespace Go.De
open Go Go.Wk Go.Un
set_option linter.unusedSimpArgs false
set_option linter.unusedVariables false
theorem LiC.join {α : Type} {F : Heap} {sz : Nat} {R : Heap → α → List Value → Prop} {l : List α} {i : Nat} {x : α} {xa cs xb : List Value} (hx : l[i]? = some x) (h1 : LiC F sz R xa (l.take i)) (h2 : cs.length = sz) (h3 : R F x cs) (h4 : LiC F sz R xb (l.drop (i + 1))) : LiC F sz R (xa ++ cs ++ xb) l := by
 have h5 := LiC.app (LiC.app h1 (LiC.one h2 h3)) h4
 obtain ⟨h6, h7⟩ := List.getElem?_eq_some_iff.1 hx
 have h8 : l.take i ++ [x] ++ l.drop (i + 1) = l := by
  rw [← h7, List.append_assoc, List.singleton_append, ← List.drop_eq_getElem_cons h6, List.take_append_drop]
 rw [h8] at h5
 exact h5
theorem set_mid {xa cs xb ex : List Value} {n j : Nat} (v : Value) (h : xa.length = n) (hj : j < cs.length) : (xa ++ cs ++ xb ++ ex).set (0 + n + j) v = xa ++ cs.set j v ++ xb ++ ex := by
 subst h
 rw [List.append_assoc, List.append_assoc, Nat.zero_add, List.set_append_right _ _ (by omega), Nat.add_sub_cancel_left, List.set_append_left _ _ hj]
 simp [List.append_assoc]
theorem get_mid {xa cs xb ex : List Value} {n j : Nat} {v : Value} (h : xa.length = n) (hj : cs[j]? = some v) : (xa ++ cs ++ xb ++ ex)[0 + n + j]? = some v := by
 subst h
 have := (List.getElem?_eq_some_iff.1 hj).1
 rw [List.append_assoc, List.append_assoc, Nat.zero_add, List.getElem?_append_right (by omega), Nat.add_sub_cancel_left, List.getElem?_append_left this]
 exact hj
theorem LiC.one' {α : Type} {F : Heap} {sz : Nat} {R : Heap → α → List Value → Prop} [hO : OneC R] : ∀ {l : List α} {xs : List Value}, LiC F sz R xs l → ∀ u ∈ xs, u.oneCell' = true
 | [], xs, h, u, hu => by rw [show xs = [] from h] at hu; cases hu
 | x :: l, xs, ⟨cs, r, h1, h2, h3, h4⟩, u, hu => by
  rw [h1] at hu
  exact (List.mem_append.1 hu).elim (hO.h h3 u) (LiC.one' h4 u)
namespace Rose
variable {α : Type}
end Rose
def LtR (F : Heap) (x : LT) (cs : List Value) : Prop := ∃ v, cs = [.int .u8 (x.k : Int), .int .i64 x.l, .int .i64 x.c, .string (bs x.rel), v] ∧ TrS F 9 EhR v x.args
def RuR (F : Heap) (x : RU) (cs : List Value) : Prop := ∃ v u y, cs = [.int .i64 x.l, .int .i64 x.c, .string (bs x.rel), v, u, y] ∧ TrS F 9 EhR v x.args ∧ LiM F 1 StR u x.aggs ∧ LiM F 5 LtR y x.body
def NvR (F : Heap) (x : NV) (cs : List Value) : Prop := ∃ y, cs = [.int .i64 x.l, .int .i64 x.c, .string (bs x.nm), y] ∧ LiM F 5 LtR y x.body
instance : Mon LtR := ⟨fun hF ⟨v, h1, h2⟩ => ⟨v, h1, h2.mono hF⟩⟩
instance : Mon RuR := ⟨fun hF ⟨v, u, y, h1, h2, h3, h4⟩ => ⟨v, u, y, h1, h2.mono hF, h3.mono hF, h4.mono hF⟩⟩
instance : Mon NvR := ⟨fun hF ⟨v, h1, h2⟩ => ⟨v, h1, h2.mono hF⟩⟩
def MdR (F : Heap) (x : MD) (cs : List Value) : Prop := ∃ i1 i2 i3 v1 v2 v3 v4, cs = [.string (bs x.nm), .slice i1 i2 i3, v1, v2, v3, v4] ∧ LiM F 6 TdR v1 x.ts ∧ LiM F 6 RdR v2 x.rs ∧ LiM F 6 RuR v3 x.ru ∧ LiM F 4 NvR v4 x.nv
theorem lim_one {α : Type} {F : Heap} {sz : Nat} {R : Heap → α → List Value → Prop} {v : Value} {l : List α} (h : LiM F sz R v l) : v.oneCell' = true := by obtain ⟨ao, cap, rfl, -, -⟩ := h; rfl
theorem allc {p : Value → Prop} {a : Value} {l : List Value} (ha : p a) (hl : ∀ u ∈ l, p u) : ∀ u ∈ a :: l, p u := fun u hu => by
 rcases List.mem_cons.1 hu with rfl | hu
 ·exact ha
 ·exact hl u hu
theorem alln {p : Value → Prop} : ∀ u ∈ ([] : List Value), p u := fun u hu => by cases hu
instance : OneC StR := ⟨fun h => by rw [show _ = _ from h]; exact allc rfl alln⟩
instance : OneC CdR := ⟨fun ⟨v, h1, h2⟩ => by rw [h1]; exact allc rfl (allc (lim_one h2) alln)⟩
instance : OneC TdR := ⟨fun ⟨v, u, h1, h2, h3⟩ => by rw [h1]; exact allc rfl (allc rfl (allc rfl (allc rfl (allc (lim_one h2) (allc (lim_one h3) alln)))))⟩
instance : OneC RdR := ⟨fun ⟨v, h1, h2⟩ => by rw [h1]; exact allc rfl (allc rfl (allc rfl (allc rfl (allc rfl (allc (lim_one h2) alln)))))⟩
theorem MapM.mem {α : Type} {F : Heap} {R : Heap → α → List Value → Prop} {key : α → List UInt8} {es : List (List UInt8 × Value)} {l : List α} (h : MapM F R key es l) (s : List UInt8) : (mGet es s).isSome = decide (s ∈ l.map key) := by
 rcases h.get s with ⟨x, cs, h1, h2, h3⟩ | ⟨h1, h2⟩
 ·rw [h2]
  have h4 := List.mem_of_find?_eq_some h1
  have h5 := List.find?_some h1
  exact (decide_eq_true (List.mem_map.2 ⟨x, h4, (of_decide_eq_true h5).symm⟩)).symm
 ·rw [h2]
  refine (decide_eq_false fun hm => ?_).symm
  obtain ⟨x, h4, h5⟩ := List.mem_map.1 hm
  have := List.find?_eq_none.1 h1 x h4
  exact this (decide_eq_true h5.symm)
end Go.De
namespace Go.De
open Go Go.Wk Go.Un
set_option linter.unusedSimpArgs false
set_option linter.unusedVariables false
def plainS (s : List UInt8) : Bool := decide (s = sBool) || decide (s = sInt) || decide (s = sBig) || decide (s = sText)
def depthL : Fo → Nat
 | .nil => 0
 | .cons nm ar r => max (depthL ar + 1) (depthL r)
def depthT (a : Ty) : Nat := depthL a.2 + 1
theorem depthL_le : ∀ l : Fo, depthL l ≤ l.size
 | .nil => Nat.le_refl _
 | .cons nm ar r => by have := depthL_le ar; have := depthL_le r; simp only [depthL, Fo.size]; omega
theorem depthL_get : ∀ {l : Fo} {k : Nat} {x : Ty}, l.get? k = some x → depthL x.2 + 1 ≤ depthL l
 | .cons nm ar r, 0, x, h => by cases h; simp only [depthL]; omega
 | .cons nm ar r, k + 1, x, h => by have := depthL_get (l := r) h; simp only [depthL]; omega
def anyF (p : Ty → Bool) : Fo → Bool
 | .nil => false
 | .cons nm ar r => p (nm, ar) || anyF p r
theorem anyF_cons (p : Ty → Bool) (nm : List UInt8) (ar r : Fo) : anyF p (.cons nm ar r) = (p (nm, ar) || anyF p r) := rfl
def wiL (p : Ty → Bool) : Fo → Bool
 | .nil => false
 | .cons nm ar r => (p (nm, ar) || wiL p ar) || wiL p r
def wiT (p : Ty → Bool) (a : Ty) : Bool := p a || wiL p a.2
theorem anyF_wi (p : Ty → Bool) : ∀ l : Fo, anyF (wiT p) l = wiL p l
 | .nil => rfl
 | .cons nm ar r => by rw [anyF_cons, anyF_wi p r]; rfl
def openT (a : Ty) : Bool := wiT (fun y => parS y.1) a
def findT (ts : List TD) (s : List UInt8) : Option TD := ts.find? fun x => decide (s = x.nm)
def declS (ts : List TD) (s : List UInt8) : Bool := (findT ts s).isSome
def parN (ts : List TD) (s : List UInt8) : Nat := match findT ts s with | some x => x.ps.length | none => 0
def countsT (ts : List TD) (a : Ty) : Bool := if plainS a.1 = true ∨ parS a.1 = true then decide (a.2.len = 0) else if a.1 = sTuple then decide (a.2.len ≠ 1) && decide (a.2.len ≤ 16) else decide (a.2.len = parN ts a.1)
def nameT (ts : List TD) (y : Ty) : Bool := !plainS y.1 && !parS y.1 && !decide (y.1 = sTuple) && !declS ts y.1
def growT (ts : List TD) (y : Ty) : Bool := declS ts y.1 && anyF (fun z => !parS z.1 && openT z) y.2
def useT (ts : List TD) (a : Ty) : Int := if 64 < depthT a then 65 else if wiT (nameT ts) a = true then 63 else if wiT (fun y => !countsT ts y) a = true then 70 else if wiT (growT ts) a = true then 72 else 0
theorem fo_app_nil : ∀ l : Fo, l.app .nil = l
 | .nil => rfl
 | .cons nm ar r => by show Fo.cons nm ar (r.app .nil) = _; rw [fo_app_nil r]
theorem fo_app_assoc : ∀ (l m k : Fo), (l.app m).app k = l.app (m.app k)
 | .nil, m, k => rfl
 | .cons nm ar r, m, k => by show Fo.cons nm ar ((r.app m).app k) = Fo.cons nm ar (r.app (m.app k)); rw [fo_app_assoc r m k]
def strs (l : List (List UInt8)) : List Value := l.map fun s => Value.string (bs s)
theorem st_nil2 {n : Sz} {L : List (Nat × Value)} {w0 : World} {F0 : Heap} {K0 : List Nat} {F : Heap} {g : Grp} {G : List Grp} {a : Act} {w : World} (S : St n L w0 F0 K0 F (g :: G) a w) : St n L w0 F0 K0 F (g :: [] :: G) a w :=
 ⟨S.fr, S.tr.perm (by rw [List.flatten_cons, List.flatten_cons, List.flatten_cons, List.nil_append])⟩
theorem _root_.Go.Wk.St.rotG {n : Sz} {L : List (Nat × Value)} {w0 : World} {F0 : Heap} {K0 : List Nat} {F : Heap} {A B : List Grp} {a : Act} {w : World} (S : St n L w0 F0 K0 F (A ++ B) a w) : St n L w0 F0 K0 F (B ++ A) a w :=
 ⟨S.fr, S.tr.perm (by rw [List.flatten_append, List.flatten_append]; exact List.perm_append_comm)⟩
theorem ct_nil {P : Program} {F : Heap} {f : FuncId} {args : List Value} {G : List Grp} {Post : Heap → Value → Prop} (C : Ct P f args F G (fun F' _ v => Post F' v)) : Ct P f args F G (fun F' G' v => Post F' v ∧ G' = []) := fun w hw =>
 (C w hw).mono fun e w' ⟨v, F', G', he, ht, hp⟩ => ⟨v, F', [], he, ht.sub (List.nil_sublist _), hp, rfl⟩
def anyP (p : List FD → FD → Bool) : List FD → List FD → Bool
 | _, [] => false
 | pre, x :: r => p pre x || anyP p (pre ++ [x]) r
def twiceD (l : List FD) : Bool := anyP twP [] l
def fieldE (ts : List TD) (p : List UInt8 → Bool) (x : FD) : Int := if useT ts (x.tn, x.ta) ≠ 65 ∧ wiT (fun y => parS y.1 && !p y.1) (x.tn, x.ta) = true then 63 else useT ts (x.tn, x.ta)
def fieldsE (ts : List TD) (p : List UInt8 → Bool) : List FD → Int
 | [] => 0
 | x :: r => if fieldE ts p x ≠ 0 then fieldE ts p x else fieldsE ts p r
def findR (rs : List RD) (s : List UInt8) : Option RD := rs.find? fun x => decide (s = x.nm)
def exprE (css : List KC) (h : EH) (n : Nat) : Int := if h.k = 5 then (match findC css h.nm with | none => 63 | some c => if c.fs.length ≠ n then 70 else 0) else 0
def exprsE (css : List KC) : Ef → Int
 | .nil => 0
 | .cons h L r => if exprE css h L.len ≠ 0 then exprE css h L.len else if exprsE css L ≠ 0 then exprsE css L else exprsE css r
def litE (rs : List RD) (x : LT) : Int := if x.k = 1 ∨ x.k = 2 then (match findR rs x.rel with | none => 63 | some r => if r.fs.length ≠ x.args.len then 70 else 0) else 0
def bodyE (css : List KC) (rs : List RD) : List LT → Int
 | [] => 0
 | x :: r => if litE rs x ≠ 0 then litE rs x else if exprsE css x.args ≠ 0 then exprsE css x.args else bodyE css rs r
def ruleE (css : List KC) (rs : List RD) (x : RU) : Int := match findR rs x.rel with
 | none => 63
 | some r => if r.inp = true then 50 else if x.aggs.length ≠ x.args.len then 4 else if x.args.len ≠ r.fs.length then 70 else if exprsE css x.args ≠ 0 then exprsE css x.args else bodyE css rs x.body
def rulesE (css : List KC) (rs : List RD) : List RU → Int
 | [] => 0
 | x :: r => if ruleE css rs x ≠ 0 then ruleE css rs x else rulesE css rs r
def neversE (css : List KC) (rs : List RD) : List NV → Int
 | [] => 0
 | x :: r => if bodyE css rs x.body ≠ 0 then bodyE css rs x.body else neversE css rs r
theorem exprsE_cons (css : List KC) (h : EH) (L r : Ef) : exprsE css (.cons h L r) = if exprE css h L.len ≠ 0 then exprE css h L.len else if exprsE css L ≠ 0 then exprsE css L else exprsE css r := rfl
theorem exprE_no {css : List KC} {h : EH} {n : Nat} (h5 : h.k ≠ 5) : exprE css h n = 0 := by unfold exprE; rw [if_neg h5]
theorem exprE_none {css : List KC} {h : EH} {n : Nat} (h5 : h.k = 5) (hn : findC css h.nm = none) : exprE css h n = 63 := by unfold exprE; rw [if_pos h5, hn]
theorem exprE_some {css : List KC} {h : EH} {n : Nat} {c : KC} (h5 : h.k = 5) (hs : findC css h.nm = some c) : exprE css h n = if c.fs.length ≠ n then 70 else 0 := by unfold exprE; rw [if_pos h5, hs]
theorem litE_no {rs : List RD} {x : LT} (h5 : ¬ (x.k = 1 ∨ x.k = 2)) : litE rs x = 0 := by unfold litE; rw [if_neg h5]
theorem litE_none {rs : List RD} {x : LT} (h5 : x.k = 1 ∨ x.k = 2) (hn : findR rs x.rel = none) : litE rs x = 63 := by unfold litE; rw [if_pos h5, hn]
theorem litE_some {rs : List RD} {x : LT} {c : RD} (h5 : x.k = 1 ∨ x.k = 2) (hs : findR rs x.rel = some c) : litE rs x = if c.fs.length ≠ x.args.len then 70 else 0 := by unfold litE; rw [if_pos h5, hs]
theorem ruleE_none {css : List KC} {rs : List RD} {x : RU} (hn : findR rs x.rel = none) : ruleE css rs x = 63 := by unfold ruleE; rw [hn]
theorem ruleE_some {css : List KC} {rs : List RD} {x : RU} {r : RD} (hs : findR rs x.rel = some r) : ruleE css rs x = if r.inp = true then 50 else if x.aggs.length ≠ x.args.len then 4 else if x.args.len ≠ r.fs.length then 70 else if exprsE css x.args ≠ 0 then exprsE css x.args else bodyE css rs x.body := by unfold ruleE; rw [hs]
def relatedE (ts : List TD) : List (List UInt8) → List RD → Int
 | _, [] => 0
 | seen, x :: r => if x.nm ∈ seen ∨ twiceD x.fs = true then 6 else if fieldsE ts (fun _ => true) x.fs ≠ 0 then fieldsE ts (fun _ => true) x.fs else relatedE ts (seen ++ [x.nm]) r
theorem hasL_cons (k : List (List UInt8)) (nm : List UInt8) (ar r : Fo) : hasL k (.cons nm ar r) = (hasT k (nm, ar) && hasL k r) := rfl
theorem any_has (k : List (List UInt8)) : ∀ l : Fo, anyF (fun y => !hasT k y) l = !hasL k l
 | .nil => rfl
 | .cons nm ar r => by rw [anyF_cons, any_has k r, hasL_cons, Bool.not_and]
theorem anyP_has (k : List (List UInt8)) : ∀ (l pre : List FD), anyP (fun _ x => !hasT k (x.tn, x.ta)) pre l = !(l.all fun f => hasT k (f.tn, f.ta))
 | [], _ => rfl
 | x :: r, pre => by
  show (!hasT k (x.tn, x.ta) || anyP _ (pre ++ [x]) r) = _
  rw [anyP_has k r, List.all_cons, Bool.not_and]
theorem hasL_mono {k k' : List (List UInt8)} (h : ∀ s ∈ k, s ∈ k') : ∀ {l : Fo}, hasL k l = true → hasL k' l = true
 | .nil, _ => rfl
 | .cons nm ar r, h1 => by
  unfold hasL at h1 ⊢
  rw [Bool.and_eq_true] at h1 ⊢
  refine ⟨?_, hasL_mono h h1.2⟩
  have h2 := h1.1
  split at h2
  ·rename_i e; rw [if_pos e]; exact hasL_mono h h2
  ·rename_i e
   rw [if_neg e]
   rw [Bool.or_eq_true, decide_eq_true_eq] at h2 ⊢
   exact h2.imp (h nm) id
theorem hasT_mono {k k' : List (List UInt8)} (h : ∀ s ∈ k, s ∈ k') {a : Ty} (h1 : hasT k a = true) : hasT k' a = true := by
 have := hasL_mono h (l := .cons a.1 a.2 .nil) (by rw [hasL_cons, h1]; rfl)
 rw [hasL_cons, Bool.and_eq_true] at this
 exact this.1
theorem tyOK_mono {k k' : List (List UInt8)} (h : ∀ s ∈ k, s ∈ k') {x : TD} (h1 : tyOK k x = true) : tyOK k' x = true := by
 unfold tyOK at *
 rw [List.any_eq_true] at *
 obtain ⟨c, hc, h2⟩ := h1
 refine ⟨c, hc, ?_⟩
 unfold consOK at *
 rw [List.all_eq_true] at *
 exact fun f hf => hasT_mono h (h2 f hf)
theorem Rch.base_sub {l : List TD} {k : List (List UInt8)} (h : Rch l k) : ∀ s ∈ full0, s ∈ k := by
 induction h with
 | base => exact fun s hs => hs
 | step _ _ _ _ ih => exact fun s hs => List.mem_append_left _ (ih s hs)
theorem rch_sub {l : List TD} {k k' : List (List UInt8)} (h : Rch l k) (h0 : ∀ s ∈ full0, s ∈ k') (hc : Closed l k') : ∀ s ∈ k, s ∈ k' := by
 induction h with
 | base => exact h0
 | @step k x hk hx hn ho ih =>
  intro s hs
  rcases List.mem_append.1 hs with hs | hs
  ·exact ih s hs
  ·rw [List.mem_singleton] at hs
   subst hs
   apply Classical.byContradiction
   intro hnm
   have := hc x hx hnm
   rw [tyOK_mono ih ho] at this
   cases this
def runK (l : List TD) : Nat → List (List UInt8) → List (List UInt8)
 | 0, k => k
 | n + 1, k => match l.find? fun x => !decide (x.nm ∈ k) && tyOK k x with
  | some x => runK l n (k ++ [x.nm])
  | none => k
theorem runK_rch {l : List TD} : ∀ (n : Nat) {k : List (List UInt8)}, Rch l k → Rch l (runK l n k)
 | 0, k, h => h
 | n + 1, k, h => by
  unfold runK
  cases hf : l.find? fun x => !decide (x.nm ∈ k) && tyOK k x with
  | none => exact h
  | some x =>
   have h1 := List.find?_some hf
   rw [Bool.and_eq_true, Bool.not_eq_true', decide_eq_false_iff_not] at h1
   exact runK_rch n (.step h (List.mem_of_find?_eq_some hf) h1.1 h1.2)
def leftN (l : List TD) (k : List (List UInt8)) : Nat := l.countP fun x => !decide (x.nm ∈ k)
theorem leftN_step {l : List TD} {k : List (List UInt8)} {x : TD} (hx : x ∈ l) (hn : x.nm ∉ k) : leftN l (k ++ [x.nm]) < leftN l k := by
 unfold leftN
 have hle : ∀ r : List TD, r.countP (fun y => !decide (y.nm ∈ k ++ [x.nm])) ≤ r.countP fun y => !decide (y.nm ∈ k) := fun r => by
  refine List.countP_mono_left fun y _ hy => ?_
  rw [Bool.not_eq_true', decide_eq_false_iff_not] at hy ⊢
  exact fun hm => hy (List.mem_append_left _ hm)
 induction l with
 | nil => cases hx
 | cons y r ih =>
  rw [List.countP_cons, List.countP_cons]
  by_cases e : y = x
  ·subst e
   have h1 : (!decide (y.nm ∈ k ++ [y.nm])) = false := by simp
   have h2 : (!decide (y.nm ∈ k)) = true := by simp [hn]
   rw [h1, h2]
   have := hle r
   simp only [if_true, Bool.false_eq_true, if_false]
   omega
  ·have h1 := ih ((List.mem_cons.1 hx).resolve_left fun h => e h.symm)
   have h2 : (if (!decide (y.nm ∈ k ++ [x.nm])) = true then 1 else 0) ≤ (if (!decide (y.nm ∈ k)) = true then 1 else 0) := by
    by_cases h3 : y.nm ∈ k
    ·have h4 : y.nm ∈ k ++ [x.nm] := List.mem_append_left _ h3
     simp [h3, h4]
    ·simp [h3]; split <;> omega
   omega
theorem runK_closed {l : List TD} : ∀ (n : Nat) {k : List (List UInt8)}, leftN l k ≤ n → Closed l (runK l n k)
 | 0, k, h => by
  intro x hx hn
  unfold leftN at h
  have h1 := List.countP_eq_zero.1 (Nat.le_zero.1 h) x hx
  rw [Bool.not_eq_true', decide_eq_false_iff_not] at h1
  exact absurd hn h1
 | n + 1, k, h => by
  unfold runK
  cases hf : l.find? fun x => !decide (x.nm ∈ k) && tyOK k x with
  | none =>
   intro x hx hn
   have h1 := List.find?_eq_none.1 hf x hx
   rw [Bool.and_eq_true, Bool.not_eq_true', decide_eq_false_iff_not] at h1
   cases ho : tyOK k x with
   | false => rfl
   | true => exact absurd ⟨hn, ho⟩ h1
  | some x =>
   have h1 := List.find?_some hf
   rw [Bool.and_eq_true, Bool.not_eq_true', decide_eq_false_iff_not] at h1
   have := leftN_step (List.mem_of_find?_eq_some hf) h1.1
   exact runK_closed n (by omega)
def fullK (l : List TD) : List (List UInt8) := runK l l.length full0
def fullE (l : List TD) : Int := if (l.all fun x => decide (x.nm ∈ fullK l)) = true then 0 else 5
theorem fullK_rch (l : List TD) : Rch l (fullK l) := runK_rch _ .base
theorem fullK_closed (l : List TD) : Closed l (fullK l) := runK_closed _ List.countP_le_length
theorem fullE_of {l : List TD} {k : List (List UInt8)} (h : Rch l k) (hc : Closed l k) : fullE l = if (l.all fun x => decide (x.nm ∈ k)) = true then 0 else 5 := by
 have h1 : ∀ s, s ∈ k ↔ s ∈ fullK l := fun s => ⟨rch_sub h (fullK_rch l).base_sub (fullK_closed l) s, rch_sub (fullK_rch l) h.base_sub hc s⟩
 unfold fullE
 rw [show (fun x : TD => decide (x.nm ∈ fullK l)) = fun x => decide (x.nm ∈ k) from funext fun x => by rw [Bool.eq_iff_iff, decide_eq_true_eq, decide_eq_true_eq, h1]]
def badT (tn : List (List UInt8)) (x : TD) : Bool := ((decide (x.nm ∈ tn) || plainS x.nm) || decide (x.nm = sTuple)) || parS x.nm
def consBad : List (List UInt8) → List CD → Bool
 | _, [] => false
 | cn, c :: r => (decide (c.nm ∈ cn) || twiceD c.fs) || consBad (cn ++ [c.nm]) r
def dupE : List (List UInt8) → List (List UInt8) → List TD → Bool
 | _, _, [] => false
 | tn, cn, x :: r => (badT tn x || consBad cn x.cs) || dupE (tn ++ [x.nm]) (cn ++ x.cs.map CD.nm) r
def consFE (ts : List TD) (ps : List (List UInt8)) : List CD → Int
 | [] => 0
 | c :: r => if fieldsE ts (fun s => decide (s ∈ ps)) c.fs ≠ 0 then fieldsE ts (fun s => decide (s ∈ ps)) c.fs else consFE ts ps r
def typesFE (ts : List TD) : List TD → Int
 | [] => 0
 | x :: r => if consFE ts x.ps x.cs ≠ 0 then consFE ts x.ps x.cs else typesFE ts r
def typedE (l : List TD) : Int := if dupE [] [] l = true then 6 else if typesFE l l ≠ 0 then typesFE l l else fullE l
theorem consFrom_nm (x : TD) : ∀ (i : Nat) (l : List CD), (consFrom x i l).map KC.nm = l.map CD.nm
 | _, [] => rfl
 | i, c :: r => by show c.nm :: (consFrom x (i + 1) r).map KC.nm = _; rw [consFrom_nm x (i + 1) r]; rfl
theorem consFrom_app (x : TD) : ∀ (i : Nat) (l : List CD) (c : CD), consFrom x i (l ++ [c]) = consFrom x i l ++ [⟨c.nm, x.nm, x.ps, ((i + l.length : Nat) : Int), c.fs⟩]
 | i, [], c => rfl
 | i, d :: r, c => by
  show _ :: consFrom x (i + 1) (r ++ [c]) = _ :: (consFrom x (i + 1) r ++ _)
  rw [consFrom_app x (i + 1) r c, List.length_cons, show i + 1 + r.length = i + (r.length + 1) by omega]
theorem consOf_app (l : List TD) (x : TD) : consOf (l ++ [x]) = consOf l ++ consFrom x 0 x.cs := by unfold consOf; rw [List.flatMap_append]; simp
def cnames (l : List TD) : List (List UInt8) := l.flatMap fun x => x.cs.map CD.nm
theorem consOf_nm : ∀ l : List TD, (consOf l).map KC.nm = cnames l
 | [] => rfl
 | x :: r => by
  unfold consOf cnames
  rw [List.flatMap_cons, List.flatMap_cons, List.map_append, consFrom_nm]
  congr 1
  exact consOf_nm r
theorem cnames_app (l : List TD) (x : TD) : cnames (l ++ [x]) = cnames l ++ x.cs.map CD.nm := by unfold cnames; rw [List.flatMap_append]; simp
def takeE (M : MD) : Int := if typedE M.ts ≠ 0 then typedE M.ts else if relatedE M.ts [] M.rs ≠ 0 then relatedE M.ts [] M.rs else if rulesE (consOf M.ts) M.rs M.ru ≠ 0 then rulesE (consOf M.ts) M.rs M.ru else neversE (consOf M.ts) M.rs M.nv
end Go.De
namespace Go.Proofs.YtgefmjghdijbfaaGreatDoor
open Go Go.Wk Go.Un Go.De Go.Num
set_option linter.unusedSimpArgs false
set_option linter.unusedVariables false
theorem sameH_iff {h h2 : VH} : sameH h h2 = true ↔ h = h2 := by
 unfold sameH
 simp only [Bool.and_eq_true, decide_eq_true_eq]
 obtain ⟨a, b, c⟩ := h
 obtain ⟨a2, b2, c2⟩ := h2
 simp
theorem sameL_iff : ∀ {l m : Vf}, sameL l m = true ↔ l = m
 | .nil, .nil => by simp [sameL]
 | .nil, .cons _ _ _ => by simp [sameL]
 | .cons _ _ _, .nil => by simp [sameL]
 | .cons h L r, .cons h2 L2 r2 => by
  unfold sameL
  rw [Bool.and_eq_true, Bool.and_eq_true, sameH_iff, sameL_iff (l := L), sameL_iff (l := r)]
  constructor
  ·rintro ⟨⟨rfl, rfl⟩, rfl⟩; rfl
  ·intro e; cases e; exact ⟨⟨rfl, rfl⟩, rfl⟩
theorem sameV_iff {x y : Vv} : sameV x y = true ↔ x = y := by
 unfold sameV
 rw [Bool.and_eq_true, sameH_iff, sameL_iff]
 exact ⟨fun h => Prod.ext h.1 h.2, fun h => by rw [h]; exact ⟨rfl, rfl⟩⟩
theorem cels_of {F : Heap} {b : Nat} {cs : List Value} {e : TypeId} (h : F b = some (.cells ⟨cs⟩ e (0, 0))) : Cels F b 0 cs := fun j u hj => ⟨_, _, _, h, by simpa using hj⟩
def callX1 (s : List UInt8) (x : Ex) : Ex := (callH s, .cons x.1 x.2 .nil)
def ifX (x y z : Ex) : Ex := (⟨8, 0, 0, [], ⟨0, 0, []⟩, .nil⟩, .cons x.1 x.2 (.cons y.1 y.2 (.cons z.1 z.2 .nil)))
section
variable {a b c : Int} (ha : in64 a) (hb : in64 b) (hc : in64 c)
include ha hb
include hc
end
abbrev exl (x : Ex) (c1 : Option Addr) (n1 d1 : Nat) (c2 : Option Addr) (d2 : Nat) : List Value := [.int .u8 (x.1.k : Int), .int .i64 x.1.l, .int .i64 x.1.c, .string (bs x.1.nm), .int .u8 (x.1.v.k : Int), .int .i64 x.1.v.n, .string (bs x.1.v.s), .slice c1 n1 d1, .slice c2 x.2.len d2]
def x1 (k : Nat) (a b : Int) : Ex := callX1 sBig (callX2 (opn k) (litX (intV a)) (litX (intV b)))
def x2 (k : Nat) (a b : Int) : Ex := callX2 (opn k) (callX1 sBig (litX (intV a))) (callX1 sBig (litX (intV b)))
def x3 (k : Nat) (a b : Int) : Ex := callX1 sInt (x2 k a b)
end Go.Proofs.YtgefmjghdijbfaaGreatDoor
