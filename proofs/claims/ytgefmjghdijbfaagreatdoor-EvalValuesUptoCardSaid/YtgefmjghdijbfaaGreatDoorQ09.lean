/- Walks. -/
import Derived.Test.YtgefmjghdijbfaaGreatDoorQ05
import Derived.Test.YtgefmjghdijbfaaGreatDoorQ07
import Derived.Lib.SlTrimSet
import Derived.Shelf.Strings.Prefix
import Derived.Lib.Bytealg
namespace Go.Wk
open Go
set_option linter.unusedVariables false
set_option linter.unusedSimpArgs false
set_option linter.unusedSectionVars false
class KeyK (d : TypeDesc) {α : Type} [DecidableEq α] (enc : α → Value) : Prop where
  same : ∀ a b, Instr.sameNow d (enc a) (enc b) = some (decide (a = b))
  bits : ∀ a, Instr.sameBits 10000 (enc a) (enc a) = true
  chk : ∀ (P : Program) (w : World) (t : TypeId) (em : Bool) (a : α), P.underlying t = some d → (Instr.checkKey em 10000 t (enc a)).run P w = .ok () w
def kS (l : List UInt8) : Value := .string (bs l)
theorem bs_beq (a b : List UInt8) : (bs a == bs b) = decide (a = b) := by
 show ((⟨a⟩ : Array UInt8) == ⟨b⟩) = _
 rw [Bool.eq_iff_iff]; simp
instance : KeyK .string kS where
 same a b := by
  simp only [Instr.sameNow, kS, bs_beq]
 bits a := by simp [Instr.sameBits, kS, bs_beq]
 chk P w t em a h := by
  rw [Instr.checkKey]
  simp [run_underlying h, kS]
section
variable {α : Type} [DecidableEq α]
def mEnt (enc : α → Value) : Nat → List (α × Value) → List MapEntry
 | _, [] => []
 | n, (k, v) :: r => { key := enc k, val := v, born := n } :: mEnt enc (n + 1) r
def mObj (enc : α → Value) (es : List (α × Value)) : Obj := .map ⟨mEnt enc 0 es⟩ es.length
def mGet (es : List (α × Value)) (k : α) : Option Value := (es.find? fun p => decide (k = p.1)).map (·.2)
def mSet : List (α × Value) → α → Value → List (α × Value)
 | [], k, v => [(k, v)]
 | (a, u) :: r, k, v => if k = a then (a, v) :: r else (a, u) :: mSet r k v
theorem mGet_set (es : List (α × Value)) (k j : α) (v : Value) : mGet (mSet es k v) j = if j = k then some v else mGet es j := by
 induction es with
 | nil => by_cases h : j = k <;> simp [mSet, mGet, h]
 | cons p r ih =>
  obtain ⟨a, u⟩ := p
  unfold mSet
  by_cases hk : k = a
  ·subst hk
   rw [if_pos rfl]
   by_cases h : j = k <;> simp [mGet, h]
  ·rw [if_neg hk]
   unfold mGet at ih ⊢
   by_cases h : j = a
   ·subst h
    rw [if_neg (Ne.symm hk)]
    simp
   ·simp only [List.find?_cons, h, decide_false]
    exact ih
theorem mSet_new {es : List (α × Value)} {k : α} {v : Value} (h : mGet es k = none) : mSet es k v = es ++ [(k, v)] := by
 induction es with
 | nil => rfl
 | cons p r ih =>
  obtain ⟨a, u⟩ := p
  unfold mGet at h ih
  by_cases hk : k = a
  ·subst hk; simp at h
  ·simp only [List.find?_cons, hk, decide_false] at h
   unfold mSet
   rw [if_neg hk, ih h]; rfl
theorem findNow_ent {d : TypeDesc} {enc : α → Value} [hk : KeyK d enc] (k : α) : ∀ (es : List (α × Value)) (n i : Nat),
  Instr.findNow d (enc k) (mEnt enc n es) i = some ((es.findIdx? fun p => decide (k = p.1)).map fun j => (i + j, ((es[j]?).map (·.2)).getD undef))
 | [], _, _ => rfl
 | (a, u) :: r, n, i => by
  rw [mEnt, Instr.findNow, hk.same]
  by_cases h : k = a
  ·subst h; simp [List.findIdx?_cons]
  ·have := findNow_ent (d := d) (enc := enc) k r (n + 1) (i + 1)
   simp only [h, decide_false]
   rw [this]
   simp only [List.findIdx?_cons, h, decide_false, Bool.false_eq_true, if_false, Option.map_map]
   congr 1
   cases hf : List.findIdx? (fun p => decide (k = p.1)) r with
   | none => rfl
   | some j => simp [Nat.add_assoc, Nat.add_comm 1 j]
theorem mGet_idx (es : List (α × Value)) (k : α) : mGet es k = (es.findIdx? fun p => decide (k = p.1)).bind fun j => (es[j]?).map (·.2) := by
 induction es with
 | nil => rfl
 | cons p r ih =>
  obtain ⟨a, u⟩ := p
  unfold mGet at ih ⊢
  by_cases h : k = a
  ·subst h; simp [List.findIdx?_cons]
  ·simp only [List.find?_cons, h, decide_false, List.findIdx?_cons, Bool.false_eq_true, if_false]
   rw [ih]
   cases List.findIdx? (fun p => decide (k = p.1)) r <;> simp
theorem mEnt_append (enc : α → Value) : ∀ (n : Nat) (es : List (α × Value)) (k : α) (v : Value), mEnt enc n (es ++ [(k, v)]) = mEnt enc n es ++ [{ key := enc k, val := v, born := n + es.length }]
 | n, [], k, v => rfl
 | n, _ :: r, k, v => by simp [mEnt, mEnt_append enc (n + 1) r k v, Nat.add_assoc, Nat.add_comm 1]
theorem mEnt_modify (enc : α → Value) (k : α) (v : Value) : ∀ (n : Nat) (es : List (α × Value)) (j : Nat), (es.findIdx? fun p => decide (k = p.1)) = some j →
  (mEnt enc n es).modify j (fun e => { e with key := enc k, val := v }) = mEnt enc n (mSet es k v) ∧ ((mEnt enc n es)[j]?).map (·.key) = some (enc k) ∧ (mSet es k v).length = es.length
 | n, [], j, h => by cases h
 | n, (a, u) :: r, j, h => by
  rw [List.findIdx?_cons] at h
  by_cases hk : k = a
  ·subst hk
   simp at h
   subst h
   simp [mEnt, mSet]
  ·simp only [hk, decide_false, Bool.false_eq_true, if_false] at h
   cases hf : List.findIdx? (fun p => decide (k = p.1)) r with
   | none => rw [hf] at h; cases h
   | some i =>
    rw [hf] at h
    simp at h
    subst h
    obtain ⟨h1, h2, h3⟩ := mEnt_modify enc k v (n + 1) r i hf
    unfold mSet
    rw [if_neg hk]
    simp [mEnt, h1, h2, h3]
variable {P : Program} {n : Sz} {L : List (Nat × Value)} {w0 : World} {F0 : Heap} {K0 : List Nat} {F : Heap} {G : List Grp} {a : Act} {w : World} {ops : Array Oper} {Q : Exit → Act → World → Prop} {rest : List Oper} {o : Oper}
theorem run_findKey {d : TypeDesc} {enc : α → Value} [hk : KeyK d enc] {kt : TypeId} (h : P.underlying kt = some d) (w : World) (es : List (α × Value)) (k : α) :
  (Instr.findKey kt (enc k) (mEnt enc 0 es)).run P w = .ok ((es.findIdx? fun p => decide (k = p.1)).map fun j => (j, ((es[j]?).map (·.2)).getD undef)) w := by
 unfold Instr.findKey
 simp only [Sem.run_bind, run_underlying h, Result.andThen_ok, findNow_ent (d := d) k es 0 0, Nat.zero_add]
 rfl
theorem run_getMap {w : World} {b : Nat} {es : Array MapEntry} {c : Nat} (h : w.heap[b]? = some (.map es c)) : (getObj b).run P w = .ok (.map es c) w := by simp [getObj, Sem.run, h]
theorem run_lookupM {d : TypeDesc} {enc : α → Value} [hk : KeyK d enc] {t kt e : TypeId} {z : Value} {sz by_ : Nat} {b : Nat} (ht : Und P t (.map kt e)) (hd : P.underlying kt = some d) (hi : Inf P e z sz by_) {w : World} {es : List (α × Value)} (hb : w.heap[b]? = some (mObj enc es)) (k : α) (ok : Bool) :
  (Instr.lookup t (.map (some b)) (enc k) ok).run P w = .ok (if ok then .tuple #[(mGet es k).getD z, .bool (mGet es k).isSome] else (mGet es k).getD z) w := by
 unfold Instr.lookup
 have hg := run_getMap (P := P) hb
 have hc := hk.chk P w kt (mEnt enc 0 es).toArray.isEmpty k hd
 simp only [Sem.run_bind, run_underlying ht.h, Result.andThen_ok, hg, Sem.run_pure, hc, run_findKey (d := d) hd w es k]
 rw [mGet_idx]
 cases hf : List.findIdx? (fun p => decide (k = p.1)) es with
 | none => simp [run_zero hi]
 | some j =>
  have hj : j < es.length := (List.findIdx?_eq_some_iff_findIdx_eq.1 hf).1
  simp [List.getElem?_eq_getElem hj]
theorem sv_lookupF {d : TypeDesc} {enc : α → Value} [hk : KeyK d enc] {x y : Operand} {t kt e : TypeId} {z : Value} {sz by_ : Nat} {b : Nat} {es : List (α × Value)} {k : α} {ok : Bool} [ht : Und P t (.map kt e)] [hd : Und P kt d] [hi : Inf P e z sz by_]
  (S : St n L w0 F0 K0 F G a w) (ho : o.op = .lookup t x y ok) (hx : ev L x = some (.map (some b))) (hy : ev L y = some (enc k)) (hb : F b = some (mObj enc es)) : SV P o a w (if ok then .tuple #[(mGet es k).getD z, .bool (mGet es k).isSome] else (mGet es k).getD z) := by
 unfold SV execOp
 rw [ho]
 simp [S.fr.eval hx, S.fr.eval hy, run_lookupM (d := d) ht hd.h hi (S.tr.frz _ _ hb) k ok]
theorem wpl_makeMap {d : Nat} {t : TypeId} (enc : α → Value) (S : St n L w0 F0 K0 F G a w) (hg : o.guard = none) (hd : o.dst = some d) (ho : o.op = .makeMap t none) (hn : Nat.blt d n.sz = true)
  (k : ∀ b a' w', St n ((d, .map (some b)) :: L) w0 F0 K0 F ([(b, mObj enc [])] :: G) a' w' → wpList P ops Q rest a' w') : wpList P ops Q (o :: rest) a w := by
 refine wpList_plain hg fun K hK => ?_
 unfold Oper.wp execOp
 rw [ho]
 have hr : (Instr.makeMap t none).run P w = .ok (.map (some w.heap.size)) (w.alloc (mObj enc [])) := rfl
 simp only [Sem.run_bind, Option.map_none, hr, Result.andThen_ok, Sem.run_pure, Oper.upon_value, hd]
 exact hK _ _ (k _ _ _ (S.alloc _ hn _))
end
end Go.Wk
namespace Go.Un
open Go Go.Wk
set_option linter.unusedSimpArgs false
set_option linter.unusedVariables false
inductive Fo where
  | nil
  | cons (nm : List UInt8) (ar r : Fo)
  deriving DecidableEq
namespace Fo
def len : Fo → Nat
 | nil => 0
 | cons _ _ r => r.len + 1
def get? : Fo → Nat → Option (List UInt8 × Fo)
 | nil, _ => none
 | cons nm ar r, 0 => some (nm, ar)
 | cons nm ar r, k + 1 => r.get? k
def size : Fo → Nat
 | nil => 0
 | cons _ ar r => ar.size + r.size + 1
def drop (l : Fo) : Nat → Fo
 | 0 => l
 | k + 1 => match l.drop k with | nil => nil | cons _ _ r => r
theorem get_lt : ∀ {l : Fo} {k : Nat}, k < l.len → ∃ x, l.get? k = some x
 | cons nm ar r, 0, _ => ⟨_, rfl⟩
 | cons nm ar r, k + 1, h => get_lt (l := r) (by simpa [len] using h)
theorem lt_get : ∀ {l : Fo} {k : Nat} {x}, l.get? k = some x → k < l.len
 | cons nm ar r, 0, x, h => by simp [len]
 | cons nm ar r, k + 1, x, h => by have := lt_get (l := r) h; simp [len]; omega
theorem drop_step (nm : List UInt8) (ar r : Fo) : ∀ k, (cons nm ar r).drop (k + 1) = r.drop k
 | 0 => rfl
 | k + 1 => by
  show (match (cons nm ar r).drop (k + 1) with | nil => nil | cons _ _ r => r) = _
  rw [drop_step nm ar r k]; rfl
theorem drop_nil : ∀ k, nil.drop k = nil
 | 0 => rfl
 | k + 1 => by show (match nil.drop k with | nil => nil | cons _ _ r => r) = nil; rw [drop_nil k]
theorem drop_get : ∀ {l : Fo} {k : Nat} {x}, l.get? k = some x → l.drop k = .cons x.1 x.2 (l.drop (k + 1))
 | cons nm ar r, 0, x, h => by cases h; rfl
 | cons nm ar r, k + 1, x, h => by rw [drop_step, drop_step]; exact drop_get (l := r) h
theorem drop_len : ∀ {l : Fo} {k : Nat}, l.len ≤ k → l.drop k = .nil
 | nil, k, _ => drop_nil k
 | cons nm ar r, 0, h => by simp [len] at h
 | cons nm ar r, k + 1, h => by rw [drop_step]; exact drop_len (l := r) (by simpa [len] using h)
theorem len_size : ∀ l : Fo, l.len ≤ l.size
 | nil => Nat.le_refl _
 | cons _ ar r => by have := len_size r; simp only [len, size]; omega
theorem size_get : ∀ {l : Fo} {k : Nat} {x}, l.get? k = some x → x.2.size < l.size
 | cons nm ar r, 0, x, h => by cases h; simp [size]; omega
 | cons nm ar r, k + 1, x, h => by have := size_get (l := r) h; simp [size]; omega
end Fo
abbrev ptr (b : Nat) : Value := .pointer (some ⟨b, 0, none⟩)
def FoM (F : Heap) : Fo → Nat → Nat → Prop
 | .nil, _, _ => True
 | .cons nm ar r, b, off => Cel F b off (.string (bs nm)) ∧
   (∃ ao cap, Cel F b (off + 1) (.slice ao ar.len cap) ∧ (ar.len ≤ cap ∧ ar.len ≤ 9223372036854775807) ∧ (0 < ar.len → ∃ b' o', ao = some ⟨b', o', none⟩ ∧ FoM F ar b' o')) ∧ FoM F r b (off + 2)
def SlF (F : Heap) (v : Value) (l : Fo) : Prop := ∃ ao cap, v = .slice ao l.len cap ∧ (l.len ≤ cap ∧ l.len ≤ 9223372036854775807) ∧ (0 < l.len → ∃ b o, ao = some ⟨b, o, none⟩ ∧ FoM F l b o)
def TyC (F : Heap) (cs : List Value) (nm : List UInt8) (ar : Fo) : Prop := ∃ v, cs = [.string (bs nm), v] ∧ SlF F v ar
theorem FoM.mono {F F' : Heap} (hF : ∀ b o, F b = some o → F' b = some o) : ∀ {l : Fo} {b off : Nat}, FoM F l b off → FoM F' l b off
 | .nil, _, _, _ => trivial
 | .cons nm ar r, b, off, ⟨h1, ⟨ao, cap, h2, h3, h4⟩, h5⟩ => ⟨h1.mono hF, ⟨ao, cap, h2.mono hF, h3, fun h => by
   obtain ⟨b', o', e, h6⟩ := h4 h
   exact ⟨b', o', e, FoM.mono hF h6⟩⟩, FoM.mono hF h5⟩
theorem SlF.mono {F F' : Heap} (hF : ∀ b o, F b = some o → F' b = some o) {v : Value} {l : Fo} (h : SlF F v l) : SlF F' v l := by
 obtain ⟨ao, cap, h1, h2, h3⟩ := h
 exact ⟨ao, cap, h1, h2, fun h => by obtain ⟨b, o, e, h6⟩ := h3 h; exact ⟨b, o, e, h6.mono hF⟩⟩
theorem TyC.mono {F F' : Heap} (hF : ∀ b o, F b = some o → F' b = some o) {cs : List Value} {nm : List UInt8} {ar : Fo} (h : TyC F cs nm ar) : TyC F' cs nm ar := by
 obtain ⟨v, h1, h2⟩ := h; exact ⟨v, h1, h2.mono hF⟩
theorem SlF.nil (F : Heap) : SlF F (.slice none 0 0) .nil := ⟨none, 0, rfl, ⟨Nat.le_refl _, by decide⟩, fun h => absurd h (by decide)⟩
theorem FoM.at {F : Heap} : ∀ {l : Fo} {b off k : Nat} {x}, FoM F l b off → l.get? k = some x → ∃ cs, Cels F b (off + k * 2) cs ∧ cs.length = 2 ∧ TyC F cs x.1 x.2
 | .cons nm ar r, b, off, 0, x, ⟨h1, ⟨ao, cap, h2, h3, h4⟩, h5⟩, h => by
  cases h
  refine ⟨[.string (bs nm), .slice ao ar.len cap], fun j v hj => ?_, rfl, _, rfl, ao, cap, rfl, h3, h4⟩
  rcases j with - | j
  ·cases hj; simpa using h1
  rcases j with - | j
  ·cases hj; simpa using h2
  ·simp at hj
 | .cons nm ar r, b, off, k + 1, x, ⟨h1, h2, h5⟩, h => by
  obtain ⟨cs, h6, h7, h8⟩ := FoM.at (l := r) h5 h
  refine ⟨cs, ?_, h7, h8⟩
  rw [show off + (k + 1) * 2 = off + 2 + k * 2 by omega]
  exact h6
def FoC (F : Heap) : List Value → Fo → Prop
 | [], .nil => True
 | x :: v :: r, .cons nm ar l => x = .string (bs nm) ∧ SlF F v ar ∧ FoC F r l
 | _, _ => False
def Fo.app : Fo → Fo → Fo
 | .nil, m => m
 | .cons nm ar r, m => .cons nm ar (r.app m)
theorem FoC.app {F : Heap} : ∀ {xs ys : List Value} {l m : Fo}, FoC F xs l → FoC F ys m → FoC F (xs ++ ys) (l.app m)
 | [], ys, .nil, m, _, h => h
 | [], _, .cons _ _ _, _, h, _ => h.elim
 | [_], _, .nil, _, h, _ => h.elim
 | [_], _, .cons _ _ _, _, h, _ => h.elim
 | _ :: _ :: _, _, .nil, _, h, _ => h.elim
 | x :: v :: r, ys, .cons nm ar l, m, ⟨h1, h2, h3⟩, h => ⟨h1, h2, FoC.app h3 h⟩
theorem FoC.mono {F F' : Heap} (hF : ∀ b o, F b = some o → F' b = some o) : ∀ {xs : List Value} {l : Fo}, FoC F xs l → FoC F' xs l
 | [], .nil, _ => trivial
 | [], .cons _ _ _, h => h.elim
 | [_], .nil, h => h.elim
 | [_], .cons _ _ _, h => h.elim
 | _ :: _ :: _, .nil, h => h.elim
 | x :: v :: r, .cons nm ar l, ⟨h1, h2, h3⟩ => ⟨h1, h2.mono hF, FoC.mono hF h3⟩
theorem FoC.one {F : Heap} {nm : List UInt8} {v : Value} {ar : Fo} (h : SlF F v ar) : FoC F [.string (bs nm), v] (.cons nm ar .nil) := ⟨rfl, h, trivial⟩
structure Pr where
  na : List UInt8
  aa : Fo
  nb : List UInt8
  ab : Fo
  c : Bool
def PsM (F : Heap) (v : Value) (ps : List Pr) : Prop := ∃ ao cap, v = .slice ao ps.length cap ∧ (ps.length ≤ cap ∧ ps.length ≤ 9223372036854775807) ∧ (0 < ps.length → ∃ b o, ao = some ⟨b, o, none⟩ ∧ ∀ (k : Nat) (p : Pr), ps[k]? = some p → ∃ va vb, Cels F b (o + k * 5) [.string (bs p.na), va, .string (bs p.nb), vb, .bool p.c] ∧ SlF F va p.aa ∧ SlF F vb p.ab)
theorem PsM.mono {F F' : Heap} (hF : ∀ b o, F b = some o → F' b = some o) {v : Value} {ps : List Pr} (h : PsM F v ps) : PsM F' v ps := by
 obtain ⟨ao, cap, h1, h2, h3⟩ := h
 exact ⟨ao, cap, h1, h2, fun h => by
  obtain ⟨b, o, e, h6⟩ := h3 h
  exact ⟨b, o, e, fun k p hp => by obtain ⟨va, vb, h7, h8, h9⟩ := h6 k p hp; exact ⟨va, vb, Cels.mono hF h7, h8.mono hF, h9.mono hF⟩⟩⟩
end Go.Un
namespace Go.De
open Go Go.Wk Go.Un
set_option linter.unusedSimpArgs false
set_option linter.unusedVariables false
class Mon {α : Type} (R : Heap → α → List Value → Prop) : Prop where
  h : ∀ {F F' : Heap} {x : α} {cs : List Value}, (∀ b o, F b = some o → F' b = some o) → R F x cs → R F' x cs
def LiM {α : Type} (F : Heap) (sz : Nat) (R : Heap → α → List Value → Prop) (v : Value) (l : List α) : Prop :=
 ∃ ao cap, v = .slice ao l.length cap ∧ (l.length ≤ cap ∧ l.length ≤ 140737488355328) ∧ (0 < l.length → ∃ b o, ao = some ⟨b, o, none⟩ ∧ ∀ (k : Nat) (x : α), l[k]? = some x → ∃ cs, Cels F b (o + k * sz) cs ∧ cs.length = sz ∧ R F x cs)
theorem LiM.mono {α : Type} {F F' : Heap} {sz : Nat} {R : Heap → α → List Value → Prop} [hR : Mon R] (hF : ∀ b o, F b = some o → F' b = some o) {v : Value} {l : List α} (h : LiM F sz R v l) : LiM F' sz R v l := by
 obtain ⟨ao, cap, h1, h2, h3⟩ := h
 exact ⟨ao, cap, h1, h2, fun h => by
  obtain ⟨b, o, e, h6⟩ := h3 h
  exact ⟨b, o, e, fun k x hx => by obtain ⟨cs, h7, h8, h9⟩ := h6 k x hx; exact ⟨cs, Cels.mono hF h7, h8, hR.h hF h9⟩⟩⟩
theorem LiM.nil {α : Type} (F : Heap) (sz : Nat) (R : Heap → α → List Value → Prop) : LiM F sz R (.slice none 0 0) [] := ⟨none, 0, rfl, ⟨Nat.le_refl _, Nat.zero_le _⟩, fun h => absurd h (Nat.lt_irrefl _)⟩
theorem LiM.pos {α : Type} {F : Heap} {sz : Nat} {R : Heap → α → List Value → Prop} {ao : Option Addr} {l : List α} {k : Nat} (hpos : 0 < l.length → ∃ b o, ao = some ⟨b, o, none⟩ ∧ ∀ (k : Nat) (x : α), l[k]? = some x → ∃ cs, Cels F b (o + k * sz) cs ∧ cs.length = sz ∧ R F x cs) (hk : k < l.length) :
  ∃ b o, ao = some ⟨b, o, none⟩ ∧ ∃ x cs, l[k]? = some x ∧ Cels F b (o + k * sz) cs ∧ R F x cs := by
 obtain ⟨b, o, e, h⟩ := hpos (by omega)
 obtain ⟨cs, h1, h2, h3⟩ := h k _ (List.getElem?_eq_getElem hk)
 exact ⟨b, o, e, _, cs, List.getElem?_eq_getElem hk, h1, h3⟩
def LiC {α : Type} (F : Heap) (sz : Nat) (R : Heap → α → List Value → Prop) : List Value → List α → Prop
 | xs, [] => xs = []
 | xs, x :: l => ∃ cs r, xs = cs ++ r ∧ cs.length = sz ∧ R F x cs ∧ LiC F sz R r l
theorem LiC.mono {α : Type} {F F' : Heap} {sz : Nat} {R : Heap → α → List Value → Prop} [hR : Mon R] (hF : ∀ b o, F b = some o → F' b = some o) : ∀ {l : List α} {xs : List Value}, LiC F sz R xs l → LiC F' sz R xs l
 | [], _, h => h
 | x :: l, xs, ⟨cs, r, h1, h2, h3, h4⟩ => ⟨cs, r, h1, h2, hR.h hF h3, LiC.mono hF h4⟩
theorem LiC.app {α : Type} {F : Heap} {sz : Nat} {R : Heap → α → List Value → Prop} : ∀ {l m : List α} {xs ys : List Value}, LiC F sz R xs l → LiC F sz R ys m → LiC F sz R (xs ++ ys) (l ++ m)
 | [], m, xs, ys, h, h2 => by rw [show xs = [] from h]; exact h2
 | x :: l, m, xs, ys, ⟨cs, r, h1, h2, h3, h4⟩, h5 => ⟨cs, r ++ ys, by rw [h1, List.append_assoc], h2, h3, LiC.app h4 h5⟩
theorem LiC.one {α : Type} {F : Heap} {sz : Nat} {R : Heap → α → List Value → Prop} {x : α} {cs : List Value} (h1 : cs.length = sz) (h : R F x cs) : LiC F sz R cs [x] := ⟨cs, [], by rw [List.append_nil], h1, h, rfl⟩
theorem LiC.len {α : Type} {F : Heap} {sz : Nat} {R : Heap → α → List Value → Prop} : ∀ {l : List α} {xs : List Value}, LiC F sz R xs l → xs.length = l.length * sz
 | [], xs, h => by rw [show xs = [] from h]; simp
 | x :: l, xs, ⟨cs, r, h1, h2, h3, h4⟩ => by rw [h1, List.length_append, h2, LiC.len h4, List.length_cons, Nat.add_mul]; omega
theorem LiC.get {α : Type} {F : Heap} {sz : Nat} {R : Heap → α → List Value → Prop} : ∀ {l : List α} {xs : List Value} {k : Nat} {x : α}, LiC F sz R xs l → l[k]? = some x → ∃ cs, (∀ j u, cs[j]? = some u → xs[k * sz + j]? = some u) ∧ cs.length = sz ∧ R F x cs
 | y :: l, xs, 0, x, ⟨cs, r, h1, h2, h3, h4⟩, h => by
  cases h
  refine ⟨cs, fun j u hj => ?_, h2, h3⟩
  have := (List.getElem?_eq_some_iff.1 hj).1
  rw [h1, Nat.zero_mul, Nat.zero_add, List.getElem?_append_left this]; exact hj
 | y :: l, xs, k + 1, x, ⟨cs, r, h1, h2, h3, h4⟩, h => by
  obtain ⟨cs2, h5, h6, h7⟩ := LiC.get (k := k) h4 h
  refine ⟨cs2, fun j u hj => ?_, h6, h7⟩
  rw [h1, List.getElem?_append_right (by rw [h2, Nat.add_mul]; omega), h2, show (k + 1) * sz + j - sz = k * sz + j by rw [Nat.add_mul]; omega]
  exact h5 j u hj
theorem LiC.lim {α : Type} {F : Heap} {e sz q : Nat} {R : Heap → α → List Value → Prop} [hR : Mon R] {v : Value} {xs : List Value} {g : Grp} {l : List α} (hown : OwnS e sz v q xs g) (h : LiC F sz R xs l) (hq : q = l.length) (hF : ∀ b o, F b = some o → F.add g b = some o) (hm : q ≤ 140737488355328) : LiM (F.add g) sz R v l := by
 obtain ⟨ao, cap, rfl, h1, h2⟩ := hown.slC F
 subst hq
 refine ⟨ao, cap, rfl, ⟨h1, hm⟩, fun hp => ?_⟩
 obtain ⟨b, o, e, h3⟩ := h2 hp
 refine ⟨b, o, e, fun k x hx => ?_⟩
 obtain ⟨cs, h5, h6, h7⟩ := LiC.get h hx
 exact ⟨cs, fun j u hj => by rw [Nat.add_assoc]; exact h3 _ u (h5 j u hj), h6, hR.h hF h7⟩
theorem cels_app {F : Heap} {b off : Nat} {xs ys : List Value} (h1 : Cels F b off xs) (h2 : Cels F b (off + xs.length) ys) : Cels F b off (xs ++ ys) := by
 intro j v hv
 by_cases hj : j < xs.length
 ·rw [List.getElem?_append_left hj] at hv; exact h1 j v hv
 ·rw [List.getElem?_append_right (by omega)] at hv
  have := h2 _ v hv
  rw [show off + xs.length + (j - xs.length) = off + j by omega] at this
  exact this
theorem lic_of {α : Type} {F : Heap} {sz b : Nat} {R : Heap → α → List Value → Prop} : ∀ {l : List α} {o : Nat}, (∀ (k : Nat) (x : α), l[k]? = some x → ∃ cs, Cels F b (o + k * sz) cs ∧ cs.length = sz ∧ R F x cs) → ∃ xs, LiC F sz R xs l ∧ Cels F b o xs
 | [], o, _ => ⟨[], rfl, fun j u h => by simp at h⟩
 | x :: l, o, h => by
  obtain ⟨cs, h1, h2, h3⟩ := h 0 x rfl
  rw [Nat.zero_mul, Nat.add_zero] at h1
  obtain ⟨r, h4, h5⟩ := lic_of (l := l) (o := o + sz) fun k y hy => by
   obtain ⟨cs, h1, h2⟩ := h (k + 1) y hy
   rw [show o + (k + 1) * sz = o + sz + k * sz by rw [Nat.add_mul]; omega] at h1
   exact ⟨cs, h1, h2⟩
  exact ⟨cs ++ r, ⟨cs, r, rfl, h2, h3, h4⟩, cels_app h1 (by rw [h2]; exact h5)⟩
theorem LiM.flat {α : Type} {F : Heap} {sz : Nat} {R : Heap → α → List Value → Prop} {v : Value} {l : List α} (h : LiM F sz R v l) : ∃ ao cap xs, v = .slice ao l.length cap ∧ LiC F sz R xs l ∧ (0 < l.length → ∃ b o, ao = some ⟨b, o, none⟩ ∧ Cels F b o xs) := by
 obtain ⟨ao, cap, rfl, h2, h3⟩ := h
 by_cases hp : 0 < l.length
 ·obtain ⟨b, o, e, h4⟩ := h3 hp
  obtain ⟨xs, h5, h6⟩ := lic_of h4
  exact ⟨ao, cap, xs, rfl, h5, fun _ => ⟨b, o, e, h6⟩⟩
 ·have : l = [] := List.length_eq_zero_iff.1 (by omega)
  subst this
  exact ⟨ao, cap, [], rfl, rfl, fun h => absurd h hp⟩
theorem LiC.split {α : Type} {F : Heap} {sz : Nat} {R : Heap → α → List Value → Prop} : ∀ {l : List α} {xs : List Value} {i : Nat} {x : α}, LiC F sz R xs l → l[i]? = some x → ∃ xa cs xb, xs = xa ++ cs ++ xb ∧ xa.length = i * sz ∧ cs.length = sz ∧ R F x cs ∧ LiC F sz R xa (l.take i) ∧ LiC F sz R xb (l.drop (i + 1))
 | y :: l, xs, 0, x, ⟨cs, r, h1, h2, h3, h4⟩, h => by
  cases h
  exact ⟨[], cs, r, by rw [h1]; rfl, by simp, h2, h3, rfl, h4⟩
 | y :: l, xs, i + 1, x, ⟨cs, r, h1, h2, h3, h4⟩, h => by
  obtain ⟨xa, cs2, xb, h5, h6, h7, h8, h9, h10⟩ := LiC.split (i := i) h4 h
  exact ⟨cs ++ xa, cs2, xb, by rw [h1, h5]; simp [List.append_assoc], by rw [List.length_append, h2, h6, Nat.add_mul]; omega, h7, h8, ⟨cs, xa, rfl, h2, h3, h9⟩, h10⟩
class OneC {α : Type} (R : Heap → α → List Value → Prop) : Prop where
  h : ∀ {F : Heap} {x : α} {cs : List Value}, R F x cs → ∀ u ∈ cs, u.oneCell' = true
inductive Rose (α : Type) where
  | nil
  | cons (a : α) (L r : Rose α)
namespace Rose
variable {α : Type}
def len : Rose α → Nat
 | nil => 0
 | cons _ _ r => r.len + 1
def get? : Rose α → Nat → Option (α × Rose α)
 | nil, _ => none
 | cons a L r, 0 => some (a, L)
 | cons a L r, k + 1 => r.get? k
def size : Rose α → Nat
 | nil => 0
 | cons _ L r => L.size + r.size + 1
def drop (l : Rose α) : Nat → Rose α
 | 0 => l
 | k + 1 => match l.drop k with | nil => nil | cons _ _ r => r
theorem get_lt : ∀ {l : Rose α} {k : Nat}, k < l.len → ∃ x, l.get? k = some x
 | cons a L r, 0, _ => ⟨_, rfl⟩
 | cons a L r, k + 1, h => get_lt (l := r) (by simpa [len] using h)
theorem lt_get : ∀ {l : Rose α} {k : Nat} {x}, l.get? k = some x → k < l.len
 | cons a L r, 0, x, h => by simp [len]
 | cons a L r, k + 1, x, h => by have := lt_get (l := r) h; simp [len]; omega
theorem drop_step (a : α) (L r : Rose α) : ∀ k, (cons a L r).drop (k + 1) = r.drop k
 | 0 => rfl
 | k + 1 => by
  show (match (cons a L r).drop (k + 1) with | nil => nil | cons _ _ r => r) = _
  rw [drop_step a L r k]; rfl
theorem drop_nil : ∀ k, (nil : Rose α).drop k = nil
 | 0 => rfl
 | k + 1 => by show (match (nil : Rose α).drop k with | nil => nil | cons _ _ r => r) = nil; rw [drop_nil k]
theorem drop_get : ∀ {l : Rose α} {k : Nat} {x}, l.get? k = some x → l.drop k = .cons x.1 x.2 (l.drop (k + 1))
 | cons a L r, 0, x, h => by cases h; rfl
 | cons a L r, k + 1, x, h => by rw [drop_step, drop_step]; exact drop_get (l := r) h
theorem drop_len : ∀ {l : Rose α} {k : Nat}, l.len ≤ k → l.drop k = .nil
 | nil, k, _ => drop_nil k
 | cons a L r, 0, h => by simp [len] at h
 | cons a L r, k + 1, h => by rw [drop_step]; exact drop_len (l := r) (by simpa [len] using h)
theorem len_size : ∀ l : Rose α, l.len ≤ l.size
 | nil => Nat.le_refl _
 | cons _ L r => by have := len_size r; simp only [len, size]; omega
theorem size_get : ∀ {l : Rose α} {k : Nat} {x}, l.get? k = some x → x.2.size < l.size
 | cons a L r, 0, x, h => by cases h; simp [size]; omega
 | cons a L r, k + 1, x, h => by have := size_get (l := r) h; simp [size]; omega
end Rose
def TrM {α : Type} (F : Heap) (sz : Nat) (R : Heap → α → List Value → Prop) : Rose α → Nat → Nat → Prop
 | .nil, _, _ => True
 | .cons a L r, b, off => (∃ cs ao cap, R F a cs ∧ cs.length + 1 = sz ∧ Cels F b off (cs ++ [.slice ao L.len cap]) ∧ (L.len ≤ cap ∧ L.len ≤ 140737488355328) ∧ (0 < L.len → ∃ b' o', ao = some ⟨b', o', none⟩ ∧ TrM F sz R L b' o')) ∧ TrM F sz R r b (off + sz)
def TrS {α : Type} (F : Heap) (sz : Nat) (R : Heap → α → List Value → Prop) (v : Value) (l : Rose α) : Prop := ∃ ao cap, v = .slice ao l.len cap ∧ (l.len ≤ cap ∧ l.len ≤ 140737488355328) ∧ (0 < l.len → ∃ b o, ao = some ⟨b, o, none⟩ ∧ TrM F sz R l b o)
theorem TrM.mono {α : Type} {F F' : Heap} {sz : Nat} {R : Heap → α → List Value → Prop} [hR : Mon R] (hF : ∀ b o, F b = some o → F' b = some o) : ∀ {l : Rose α} {b off : Nat}, TrM F sz R l b off → TrM F' sz R l b off
 | .nil, _, _, _ => trivial
 | .cons a L r, b, off, ⟨⟨cs, ao, cap, h1, h2, h3, h4, h5⟩, h6⟩ => ⟨⟨cs, ao, cap, hR.h hF h1, h2, Cels.mono hF h3, h4, fun h => by
   obtain ⟨b', o', e, h7⟩ := h5 h
   exact ⟨b', o', e, TrM.mono hF h7⟩⟩, TrM.mono hF h6⟩
theorem TrS.mono {α : Type} {F F' : Heap} {sz : Nat} {R : Heap → α → List Value → Prop} [hR : Mon R] (hF : ∀ b o, F b = some o → F' b = some o) {v : Value} {l : Rose α} (h : TrS F sz R v l) : TrS F' sz R v l := by
 obtain ⟨ao, cap, h1, h2, h3⟩ := h
 exact ⟨ao, cap, h1, h2, fun h => by obtain ⟨b, o, e, h6⟩ := h3 h; exact ⟨b, o, e, TrM.mono hF h6⟩⟩
theorem TrS.nil {α : Type} (F : Heap) (sz : Nat) (R : Heap → α → List Value → Prop) : TrS F sz R (.slice none 0 0) .nil := ⟨none, 0, rfl, ⟨Nat.le_refl _, Nat.zero_le _⟩, fun h => absurd h (Nat.lt_irrefl _)⟩
theorem TrM.at {α : Type} {F : Heap} {sz : Nat} {R : Heap → α → List Value → Prop} : ∀ {l : Rose α} {b off k : Nat} {x}, TrM F sz R l b off → l.get? k = some x → ∃ cs v, Cels F b (off + k * sz) (cs ++ [v]) ∧ cs.length + 1 = sz ∧ R F x.1 cs ∧ TrS F sz R v x.2
 | .cons a L r, b, off, 0, x, ⟨⟨cs, ao, cap, h1, h2, h3, h4, h5⟩, h6⟩, h => by
  cases h
  exact ⟨cs, _, by rw [Nat.zero_mul, Nat.add_zero]; exact h3, h2, h1, ao, cap, rfl, h4, h5⟩
 | .cons a L r, b, off, k + 1, x, ⟨_, h6⟩, h => by
  obtain ⟨cs, v, h7, h8⟩ := TrM.at (l := r) h6 h
  refine ⟨cs, v, ?_, h8⟩
  rw [show off + (k + 1) * sz = off + sz + k * sz by rw [Nat.add_mul]; omega]
  exact h7
theorem TrM.pos {α : Type} {F : Heap} {sz : Nat} {R : Heap → α → List Value → Prop} {ao : Option Addr} {l : Rose α} {k : Nat} (hpos : 0 < l.len → ∃ b o, ao = some ⟨b, o, none⟩ ∧ TrM F sz R l b o) (hk : k < l.len) : ∃ b o, ao = some ⟨b, o, none⟩ ∧ ∃ x cs v, l.get? k = some x ∧ Cels F b (o + k * sz) (cs ++ [v]) ∧ R F x.1 cs ∧ TrS F sz R v x.2 := by
 obtain ⟨b, o, e, h⟩ := hpos (by omega)
 obtain ⟨x, hx⟩ := Rose.get_lt hk
 obtain ⟨cs, v, h1, h2, h3, h4⟩ := h.at hx
 exact ⟨b, o, e, x, cs, v, hx, h1, h3, h4⟩
structure VH where
  k : Nat
  n : Int
  s : List UInt8
def VhR (_ : Heap) (x : VH) (cs : List Value) : Prop := cs = [.int .u8 (x.k : Int), .int .i64 x.n, .string (bs x.s)] ∧ x.s.length ≤ 140737488355328
instance : Mon VhR := ⟨fun _ h => h⟩
abbrev Vf := Rose VH
structure EH where
  k : Nat
  l : Int
  c : Int
  nm : List UInt8
  v : VH
  vl : Vf
def EhR (F : Heap) (x : EH) (cs : List Value) : Prop := ∃ w, cs = [.int .u8 (x.k : Int), .int .i64 x.l, .int .i64 x.c, .string (bs x.nm), .int .u8 (x.v.k : Int), .int .i64 x.v.n, .string (bs x.v.s), w] ∧ TrS F 4 VhR w x.vl
instance : Mon EhR := ⟨fun hF ⟨w, h1, h2⟩ => ⟨w, h1, h2.mono hF⟩⟩
abbrev Ef := Rose EH
def StR (_ : Heap) (s : List UInt8) (cs : List Value) : Prop := cs = [.string (bs s)]
structure FD where
  nm : List UInt8
  tn : List UInt8
  ta : Fo
def FdR (F : Heap) (x : FD) (cs : List Value) : Prop := ∃ v, cs = [.string (bs x.nm), .string (bs x.tn), v] ∧ SlF F v x.ta
structure CD where
  nm : List UInt8
  fs : List FD
def CdR (F : Heap) (x : CD) (cs : List Value) : Prop := ∃ v, cs = [.string (bs x.nm), v] ∧ LiM F 3 FdR v x.fs
structure TD where
  l : Int
  c : Int
  pub : Bool
  nm : List UInt8
  ps : List (List UInt8)
  cs : List CD
def TdR (F : Heap) (x : TD) (cs : List Value) : Prop := ∃ v u, cs = [.int .i64 x.l, .int .i64 x.c, .bool x.pub, .string (bs x.nm), v, u] ∧ LiM F 1 StR v x.ps ∧ LiM F 2 CdR u x.cs
structure RD where
  l : Int
  c : Int
  pub : Bool
  inp : Bool
  nm : List UInt8
  fs : List FD
def RdR (F : Heap) (x : RD) (cs : List Value) : Prop := ∃ v, cs = [.int .i64 x.l, .int .i64 x.c, .bool x.pub, .bool x.inp, .string (bs x.nm), v] ∧ LiM F 3 FdR v x.fs
instance : Mon StR := ⟨fun _ h => h⟩
instance : Mon FdR := ⟨fun hF ⟨v, h1, h2⟩ => ⟨v, h1, h2.mono hF⟩⟩
instance : Mon CdR := ⟨fun hF ⟨v, h1, h2⟩ => ⟨v, h1, h2.mono hF⟩⟩
instance : Mon TdR := ⟨fun hF ⟨v, u, h1, h2, h3⟩ => ⟨v, u, h1, h2.mono hF, h3.mono hF⟩⟩
instance : Mon RdR := ⟨fun hF ⟨v, h1, h2⟩ => ⟨v, h1, h2.mono hF⟩⟩
structure LT where
  k : Nat
  l : Int
  c : Int
  rel : List UInt8
  args : Ef
structure RU where
  l : Int
  c : Int
  rel : List UInt8
  args : Ef
  aggs : List (List UInt8)
  body : List LT
structure NV where
  l : Int
  c : Int
  nm : List UInt8
  body : List LT
structure MD where
  nm : List UInt8
  ts : List TD
  rs : List RD
  ru : List RU
  nv : List NV
def MapM {α : Type} (F : Heap) (R : Heap → α → List Value → Prop) (key : α → List UInt8) : List (List UInt8 × Value) → List α → Prop
 | [], [] => True
 | (k, v) :: es, x :: l => k = key x ∧ (∃ cs, v = .agg ⟨cs⟩ ∧ R F x cs) ∧ MapM F R key es l
 | _, _ => False
theorem MapM.mono {α : Type} {F F' : Heap} {R : Heap → α → List Value → Prop} {key : α → List UInt8} [hR : Mon R] (hF : ∀ b o, F b = some o → F' b = some o) : ∀ {es : List (List UInt8 × Value)} {l : List α}, MapM F R key es l → MapM F' R key es l
 | [], [], _ => trivial
 | [], _ :: _, h => h.elim
 | _ :: _, [], h => h.elim
 | (k, v) :: es, x :: l, ⟨h1, ⟨cs, h2, h3⟩, h4⟩ => ⟨h1, ⟨cs, h2, hR.h hF h3⟩, MapM.mono hF h4⟩
theorem MapM.get {α : Type} {F : Heap} {R : Heap → α → List Value → Prop} {key : α → List UInt8} : ∀ {es : List (List UInt8 × Value)} {l : List α}, MapM F R key es l → ∀ s, (∃ x cs, l.find? (fun x => decide (s = key x)) = some x ∧ mGet es s = some (.agg ⟨cs⟩) ∧ R F x cs) ∨ (l.find? (fun x => decide (s = key x)) = none ∧ mGet es s = none)
 | [], [], _, s => .inr ⟨rfl, rfl⟩
 | [], _ :: _, h, _ => h.elim
 | _ :: _, [], h, _ => h.elim
 | (k, v) :: es, x :: l, ⟨h1, ⟨cs, h2, h3⟩, h4⟩, s => by
  subst h1; subst h2
  unfold mGet
  rw [List.find?_cons, List.find?_cons]
  by_cases e : s = key x
  ·left
   refine ⟨x, cs, ?_, ?_, h3⟩ <;> simp [e]
  ·have h5 := MapM.get h4 s
   unfold mGet at h5
   simpa [e] using h5
theorem MapM.app {α : Type} {F : Heap} {R : Heap → α → List Value → Prop} {key : α → List UInt8} : ∀ {es : List (List UInt8 × Value)} {l : List α} {x : α} {cs : List Value}, MapM F R key es l → R F x cs → MapM F R key (es ++ [(key x, .agg ⟨cs⟩)]) (l ++ [x])
 | [], [], x, cs, _, h => ⟨rfl, ⟨cs, rfl, h⟩, trivial⟩
 | [], _ :: _, _, _, h, _ => h.elim
 | _ :: _, [], _, _, h, _ => h.elim
 | (k, v) :: es, y :: l, x, cs, ⟨h1, h2, h4⟩, h => ⟨h1, h2, MapM.app h4 h⟩
theorem MapM.set {α : Type} {F : Heap} {R : Heap → α → List Value → Prop} {key : α → List UInt8} : ∀ {es : List (List UInt8 × Value)} {l : List α} {x : α} {cs : List Value}, MapM F R key es l → R F x cs → ∃ l', MapM F R key (mSet es (key x) (.agg ⟨cs⟩)) l' ∧ (key x ∉ l.map key → l' = l ++ [x])
 | [], [], x, cs, _, h => ⟨[x], ⟨rfl, ⟨cs, rfl, h⟩, trivial⟩, fun _ => rfl⟩
 | [], _ :: _, _, _, h, _ => h.elim
 | _ :: _, [], _, _, h, _ => h.elim
 | (k, v) :: es, y :: l, x, cs, ⟨h1, h2, h4⟩, h => by
  unfold mSet
  by_cases e : key x = k
  ·rw [if_pos e]
   exact ⟨x :: l, ⟨e.symm, ⟨cs, rfl, h⟩, h4⟩, fun hn => absurd (List.mem_map.2 ⟨y, List.mem_cons_self .., by rw [← h1, e]⟩) hn⟩
  ·rw [if_neg e]
   obtain ⟨l', h5, h6⟩ := MapM.set h4 h
   exact ⟨y :: l', ⟨h1, h2, h5⟩, fun hn => by rw [h6 fun hm => hn (List.mem_cons_of_mem _ hm)]; rfl⟩
def MapS {α : Type} (F : Heap) (R : Heap → α → List Value → Prop) (key : α → List UInt8) (b : Nat) (l : List α) : Prop := ∃ es, F b = some (mObj kS es) ∧ MapM F R key es l
theorem MapS.mono {α : Type} {F F' : Heap} {R : Heap → α → List Value → Prop} {key : α → List UInt8} [hR : Mon R] (hF : ∀ b o, F b = some o → F' b = some o) {b : Nat} {l : List α} (h : MapS F R key b l) : MapS F' R key b l := by
 obtain ⟨es, h1, h2⟩ := h
 exact ⟨es, hF _ _ h1, h2.mono hF⟩
structure KC where
  nm : List UInt8
  ty : List UInt8
  ps : List (List UInt8)
  pl : Int
  fs : List FD
def KcR (F : Heap) (x : KC) (cs : List Value) : Prop := ∃ v u, cs = [.string (bs x.ty), v, .int .i64 x.pl, u] ∧ LiM F 1 StR v x.ps ∧ LiM F 3 FdR u x.fs
instance : Mon KcR := ⟨fun hF ⟨v, u, h1, h2, h3⟩ => ⟨v, u, h1, h2.mono hF, h3.mono hF⟩⟩
end Go.De
namespace Go.De
open Go Go.Wk Go.Un
set_option linter.unusedSimpArgs false
set_option linter.unusedVariables false
abbrev Ty := List UInt8 × Fo
def idxOf (l : List (List UInt8)) (s : List UInt8) : Int := if s ∈ l then (l.idxOf s : Int) else -1
def parS (s : List UInt8) : Bool := decide (s.take 1 = [39])
def sBool : List UInt8 := [98, 111, 111, 108]
def sInt : List UInt8 := [105, 110, 116]
def sBig : List UInt8 := [98, 105, 103]
def sText : List UInt8 := [116, 101, 120, 116]
def sTuple : List UInt8 := [116, 117, 112, 108, 101]
def plainS (s : List UInt8) : Bool := decide (s = sBool) || decide (s = sInt) || decide (s = sBig) || decide (s = sText)
def putA (vs : List (List UInt8)) (L : Fo) (nm : List UInt8) : Option Ty := if parS nm = true ∧ 0 ≤ idxOf vs nm ∧ idxOf vs nm < L.len then L.get? (idxOf vs nm).toNat else none
def putL (vs : List (List UInt8)) (L : Fo) : Fo → Fo
 | .nil => .nil
 | .cons nm ar r => .cons ((putA vs L nm).getD (nm, putL vs L ar)).1 ((putA vs L nm).getD (nm, putL vs L ar)).2 (putL vs L r)
def putT (vs : List (List UInt8)) (L : Fo) (a : Ty) : Ty := (putA vs L a.1).getD (a.1, putL vs L a.2)
theorem putL_cons (vs : List (List UInt8)) (L : Fo) (nm : List UInt8) (ar r : Fo) : putL vs L (.cons nm ar r) = .cons (putT vs L (nm, ar)).1 (putT vs L (nm, ar)).2 (putL vs L r) := rfl
theorem putL_len (vs : List (List UInt8)) (L : Fo) : ∀ l : Fo, (putL vs L l).len = l.len
 | .nil => rfl
 | .cons nm ar r => by rw [putL_cons]; simp only [Fo.len, putL_len vs L r]
def Thin : Fo → Prop
 | .nil => True
 | .cons _ ar r => ar.len * 40 ≤ 140737488355328 ∧ Thin ar ∧ Thin r
theorem Thin.get : ∀ {l : Fo} {k : Nat} {x : Ty}, Thin l → l.get? k = some x → x.2.len * 40 ≤ 140737488355328 ∧ Thin x.2
 | .cons nm ar r, 0, x, ⟨h1, h2, _⟩, h => by cases h; exact ⟨h1, h2⟩
 | .cons nm ar r, k + 1, x, ⟨_, _, h3⟩, h => Thin.get h3 h
def ThinT (a : Ty) : Prop := a.2.len * 40 ≤ 140737488355328 ∧ Thin a.2
theorem putA_get {vs : List (List UInt8)} {L : Fo} {nm : List UInt8} {t : Ty} (h : putA vs L nm = some t) : ∃ k, L.get? k = some t := by
 unfold putA at h
 split at h
 ·exact ⟨_, h⟩
 ·cases h
theorem Thin.put {vs : List (List UInt8)} {L : Fo} (hL : Thin L) : ∀ {l : Fo}, Thin l → Thin (putL vs L l)
 | .nil, _ => trivial
 | .cons nm ar r, ⟨h1, h2, h3⟩ => by
  rw [putL_cons]
  have h4 : ThinT (putT vs L (nm, ar)) := by
   unfold putT
   cases hp : putA vs L nm with
   | none => exact ⟨by show (putL vs L ar).len * 40 ≤ _; rw [putL_len]; exact h1, Thin.put hL h2⟩
   | some t => obtain ⟨k, hk⟩ := putA_get hp; exact hL.get hk
  exact ⟨h4.1, h4.2, Thin.put hL h3⟩
theorem ThinT.put {vs : List (List UInt8)} {L : Fo} (hL : Thin L) {a : Ty} (h : ThinT a) : ThinT (putT vs L a) := by
 have := Thin.put (vs := vs) hL (l := .cons a.1 a.2 .nil) ⟨h.1, h.2, trivial⟩
 rw [putL_cons] at this
 exact ⟨this.1, this.2.1⟩
def depthL : Fo → Nat
 | .nil => 0
 | .cons nm ar r => max (depthL ar + 1) (depthL r)
def depthT (a : Ty) : Nat := depthL a.2 + 1
def anyF (p : Ty → Bool) : Fo → Bool
 | .nil => false
 | .cons nm ar r => p (nm, ar) || anyF p r
def wiL (p : Ty → Bool) : Fo → Bool
 | .nil => false
 | .cons nm ar r => (p (nm, ar) || wiL p ar) || wiL p r
def wiT (p : Ty → Bool) (a : Ty) : Bool := p a || wiL p a.2
def openT (a : Ty) : Bool := wiT (fun y => parS y.1) a
def findT (ts : List TD) (s : List UInt8) : Option TD := ts.find? fun x => decide (s = x.nm)
def declS (ts : List TD) (s : List UInt8) : Bool := (findT ts s).isSome
def parN (ts : List TD) (s : List UInt8) : Nat := match findT ts s with | some x => x.ps.length | none => 0
def countsT (ts : List TD) (a : Ty) : Bool := if plainS a.1 = true ∨ parS a.1 = true then decide (a.2.len = 0) else if a.1 = sTuple then decide (a.2.len ≠ 1) && decide (a.2.len ≤ 16) else decide (a.2.len = parN ts a.1)
def nameT (ts : List TD) (y : Ty) : Bool := !plainS y.1 && !parS y.1 && !decide (y.1 = sTuple) && !declS ts y.1
def growT (ts : List TD) (y : Ty) : Bool := declS ts y.1 && anyF (fun z => !parS z.1 && openT z) y.2
def useT (ts : List TD) (a : Ty) : Int := if 64 < depthT a then 65 else if wiT (nameT ts) a = true then 63 else if wiT (fun y => !countsT ts y) a = true then 70 else if wiT (growT ts) a = true then 72 else 0
def anyP (p : List FD → FD → Bool) : List FD → List FD → Bool
 | _, [] => false
 | pre, x :: r => p pre x || anyP p (pre ++ [x]) r
def twP (pre : List FD) (x : FD) : Bool := decide (x.nm ≠ []) && decide (x.nm ∈ pre.map FD.nm)
def twiceD (l : List FD) : Bool := anyP twP [] l
def fieldE (ts : List TD) (p : List UInt8 → Bool) (x : FD) : Int := if useT ts (x.tn, x.ta) ≠ 65 ∧ wiT (fun y => parS y.1 && !p y.1) (x.tn, x.ta) = true then 63 else useT ts (x.tn, x.ta)
def fieldsE (ts : List TD) (p : List UInt8 → Bool) : List FD → Int
 | [] => 0
 | x :: r => if fieldE ts p x ≠ 0 then fieldE ts p x else fieldsE ts p r
def findC (cs : List KC) (s : List UInt8) : Option KC := cs.find? fun x => decide (s = x.nm)
def hasL (k : List (List UInt8)) : Fo → Bool
 | .nil => true
 | .cons nm ar r => (if nm = sTuple then hasL k ar else decide (nm ∈ k) || parS nm) && hasL k r
def hasT (k : List (List UInt8)) (a : Ty) : Bool := if a.1 = sTuple then hasL k a.2 else decide (a.1 ∈ k) || parS a.1
def consOK (k : List (List UInt8)) (c : CD) : Bool := c.fs.all fun f => hasT k (f.tn, f.ta)
def tyOK (k : List (List UInt8)) (x : TD) : Bool := x.cs.any (consOK k)
def full0 : List (List UInt8) := [sBool, sInt, sBig, sText]
inductive Rch (l : List TD) : List (List UInt8) → Prop
  | base : Rch l full0
  | step {k : List (List UInt8)} {x : TD} (h : Rch l k) (hx : x ∈ l) (hn : x.nm ∉ k) (ho : tyOK k x = true) : Rch l (k ++ [x.nm])
def Closed (l : List TD) (k : List (List UInt8)) : Prop := ∀ x ∈ l, x.nm ∉ k → tyOK k x = false
def runK (l : List TD) : Nat → List (List UInt8) → List (List UInt8)
 | 0, k => k
 | n + 1, k => match l.find? fun x => !decide (x.nm ∈ k) && tyOK k x with
  | some x => runK l n (k ++ [x.nm])
  | none => k
theorem runK_rch {l : List TD} : ∀ (n : Nat) {k : List (List UInt8)}, Rch l k → Rch l (runK l n k)
 | 0, k, h => h
 | n + 1, k, h => by
  unfold runK
  cases hf : l.find? fun x => !decide (x.nm ∈ k) && tyOK k x with
  | none => exact h
  | some x =>
   have h1 := List.find?_some hf
   rw [Bool.and_eq_true, Bool.not_eq_true', decide_eq_false_iff_not] at h1
   exact runK_rch n (.step h (List.mem_of_find?_eq_some hf) h1.1 h1.2)
def fullK (l : List TD) : List (List UInt8) := runK l l.length full0
def fullE (l : List TD) : Int := if (l.all fun x => decide (x.nm ∈ fullK l)) = true then 0 else 5
theorem fullK_rch (l : List TD) : Rch l (fullK l) := runK_rch _ .base
def badT (tn : List (List UInt8)) (x : TD) : Bool := ((decide (x.nm ∈ tn) || plainS x.nm) || decide (x.nm = sTuple)) || parS x.nm
def consBad : List (List UInt8) → List CD → Bool
 | _, [] => false
 | cn, c :: r => (decide (c.nm ∈ cn) || twiceD c.fs) || consBad (cn ++ [c.nm]) r
def dupE : List (List UInt8) → List (List UInt8) → List TD → Bool
 | _, _, [] => false
 | tn, cn, x :: r => (badT tn x || consBad cn x.cs) || dupE (tn ++ [x.nm]) (cn ++ x.cs.map CD.nm) r
def consFE (ts : List TD) (ps : List (List UInt8)) : List CD → Int
 | [] => 0
 | c :: r => if fieldsE ts (fun s => decide (s ∈ ps)) c.fs ≠ 0 then fieldsE ts (fun s => decide (s ∈ ps)) c.fs else consFE ts ps r
def typesFE (ts : List TD) : List TD → Int
 | [] => 0
 | x :: r => if consFE ts x.ps x.cs ≠ 0 then consFE ts x.ps x.cs else typesFE ts r
def consFrom (x : TD) : Nat → List CD → List KC
 | _, [] => []
 | i, c :: r => ⟨c.nm, x.nm, x.ps, (i : Int), c.fs⟩ :: consFrom x (i + 1) r
def consOf (l : List TD) : List KC := l.flatMap fun x => consFrom x 0 x.cs
theorem consFrom_nm (x : TD) : ∀ (i : Nat) (l : List CD), (consFrom x i l).map KC.nm = l.map CD.nm
 | _, [] => rfl
 | i, c :: r => by show c.nm :: (consFrom x (i + 1) r).map KC.nm = _; rw [consFrom_nm x (i + 1) r]; rfl
def cnames (l : List TD) : List (List UInt8) := l.flatMap fun x => x.cs.map CD.nm
theorem consOf_nm : ∀ l : List TD, (consOf l).map KC.nm = cnames l
 | [] => rfl
 | x :: r => by
  unfold consOf cnames
  rw [List.flatMap_cons, List.flatMap_cons, List.map_append, consFrom_nm]
  congr 1
  exact consOf_nm r
def nameN (c : Nat) : Bool := decide (97 ≤ c ∧ c ≤ 122 ∨ 65 ≤ c ∧ c ≤ 90 ∨ 48 ≤ c ∧ c ≤ 57 ∨ c = 95)
def nameS (s : List UInt8) : Bool := decide (s ≠ [] ∧ s.length ≤ 32 ∧ 97 ≤ (s.getD 0 0).toNat ∧ (s.getD 0 0).toNat ≤ 122) && s.all fun c => nameN c.toNat
def digS : List UInt8 := [48, 49, 50, 51, 52, 53, 54, 55, 56, 57]
def numD (s : List UInt8) : List UInt8 := Lib.trimPrefix s [45]
def numOK (s : List UInt8) : Bool := !(decide (numD s = []) || decide (Lib.trimS (numD s) digS ≠ []) || decide (((numD s).getD 0 0).toNat = 48) && decide (s ≠ [48]))
def numN (s : List UInt8) : Int := if numOK s = true then (numD s).length else 0
def cutI (s : List UInt8) : Int := Lib.indexByte s 46
def cutA (s : List UInt8) : List UInt8 := if 0 ≤ cutI s then s.take (cutI s).toNat else s
def cutB (s : List UInt8) : List UInt8 := if 0 ≤ cutI s then s.drop ((cutI s).toNat + 1) else []
def cutC (s : List UInt8) : Bool := decide (0 ≤ cutI s)
def sTrue : List UInt8 := [116, 114, 117, 101]
def sFalse : List UInt8 := [102, 97, 108, 115, 101]
def formH (h : VH) (n : Nat) : Bool :=
 if h.k = 1 then decide ((h.n = 0 ∨ h.n = 1) ∧ h.s = [] ∧ n = 0)
 else if h.k = 2 then decide (h.s = [] ∧ n = 0)
 else if h.k = 3 then numOK h.s && decide (h.n = 0 ∧ n = 0)
 else if h.k = 4 then decide (h.n = 0 ∧ n = 0)
 else if h.k = 5 then decide (h.n = 0 ∧ h.s = [] ∧ n ≠ 1)
 else if h.k = 6 then decide (h.n = 0) && (nameS (cutA h.s) && ((cutC h.s && nameS (cutB h.s)) || (!cutC h.s && decide (h.s ≠ sTrue ∧ h.s ≠ sFalse))))
 else false
def fitsH (h : VH) (n : Nat) : Bool :=
 if h.k = 3 then decide (numN h.s ≤ 200) else if h.k = 4 then decide (h.s.length ≤ 4096) else if h.k = 5 then decide (n ≤ 16) else if h.k = 6 then decide (n ≤ 8) else true
def formL : Vf → Bool
 | .nil => true
 | .cons h L r => (formH h L.len && formL L) && formL r
def fitsL : Vf → Bool
 | .nil => true
 | .cons h L r => (fitsH h L.len && fitsL L) && fitsL r
theorem formL_cons (h : VH) (L r : Vf) : formL (.cons h L r) = ((formH h L.len && formL L) && formL r) := rfl
theorem fitsL_cons (h : VH) (L r : Vf) : fitsL (.cons h L r) = ((fitsH h L.len && fitsL L) && fitsL r) := rfl
def depV : Vf → Int → Int → Int
 | .nil, n, _ => n
 | .cons _ L r, n, m => if m ≤ n then n else depV r (max n (depV L 0 (m - 1) + 1)) m
theorem depV_cons (h : VH) (L r : Vf) (n m : Int) : depV (.cons h L r) n m = if m ≤ n then n else depV r (max n (depV L 0 (m - 1) + 1)) m := rfl
theorem depV_bd : ∀ (l : Vf) (n m : Int), 0 ≤ n → n ≤ depV l n m ∧ depV l n m ≤ n + l.size
 | .nil, n, m, h => ⟨Int.le_refl _, by show n ≤ n + _; omega⟩
 | .cons h L r, n, m, hn => by
  rw [depV_cons]
  split
  ·exact ⟨Int.le_refl _, by omega⟩
  ·have h1 := depV_bd L 0 (m - 1) (Int.le_refl _)
   have h2 := depV_bd r (max n (depV L 0 (m - 1) + 1)) m (by omega)
   have h3 : (Rose.cons h L r).size = L.size + r.size + 1 := rfl
   constructor <;> omega
theorem depV_max : ∀ (l : Vf) (n m : Int), 0 ≤ n → depV l n m ≤ max n (max m 0)
 | .nil, n, m, h => by show n ≤ _; omega
 | .cons h L r, n, m, hn => by
  rw [depV_cons]
  split
  ·omega
  ·have h1 := depV_max L 0 (m - 1) (Int.le_refl _)
   have h2 := depV_max r (max n (depV L 0 (m - 1) + 1)) m (by have := (depV_bd L 0 (m - 1) (Int.le_refl _)).1; omega)
   omega
def checkV (h : VH) (L : Vf) : Int := if 64 < depV L 0 65 + 1 then 65 else if (formH h L.len && formL L) = false then 4 else if (fitsH h L.len && fitsL L) = false then 40 else 0
def ShortV (b : Nat) : Vf → Prop
 | .nil => True
 | .cons h L r => h.s.length ≤ b ∧ ShortV b L ∧ ShortV b r
theorem ShortV.get {b : Nat} : ∀ {l : Vf} {k : Nat} {x : VH × Vf}, ShortV b l → l.get? k = some x → x.1.s.length ≤ b ∧ ShortV b x.2
 | .cons h L r, 0, x, ⟨h1, h2, _⟩, e => by cases e; exact ⟨h1, h2⟩
 | .cons h L r, k + 1, x, ⟨_, _, h3⟩, e => ShortV.get (l := r) h3 e
def tysOf : Fo → List Ty
 | .nil => []
 | .cons nm ar r => (nm, ar) :: tysOf r
end Go.De
