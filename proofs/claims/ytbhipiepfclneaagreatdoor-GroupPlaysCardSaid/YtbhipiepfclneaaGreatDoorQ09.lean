/- Walks. -/
import Derived.Test.YtbhipiepfclneaaGreatDoorQ07
import Derived.Lib.SlTrimSet
import Derived.Shelf.Strings.Prefix
import Derived.Lib.Bytealg
set_option linter.unusedVariables false
set_option linter.unusedSimpArgs false
namespace Go.Wk
open Go
set_option linter.unusedSectionVars false
class qfq (d : TypeDesc) {α : Type} [DecidableEq α] (enc : α → Value) : Prop where
  same : ∀ a b, Instr.sameNow d (enc a) (enc b) = some (decide (a = b))
  bits : ∀ a, Instr.sameBits 10000 (enc a) (enc a) = true
  chk : ∀ (P : Program) (w : World) (t : TypeId) (em : Bool) (a : α), P.underlying t = some d → (Instr.checkKey em 10000 t (enc a)).run P w = .ok () w
def kS (l : List UInt8) : Value := .string (bs l)
theorem qv8 (a b : List UInt8) : (bs a == bs b) = decide (a = b) := by
 show ((⟨a⟩ : Array UInt8) == ⟨b⟩) = _
 rw [Bool.eq_iff_iff]; simp
instance : qfq .string kS where
 same a b := by
  simp only [Instr.sameNow, kS, qv8]
 bits a := by simp [Instr.sameBits, kS, qv8]
 chk P w t em a h := by
  rw [Instr.checkKey]
  simp [run_underlying h, kS]
section
variable {α : Type} [DecidableEq α]
def qil (enc : α → Value) : Nat → List (α × Value) → List MapEntry
 | _, [] => []
 | n, (k, v) :: r => { key := enc k, val := v, born := n } :: qil enc (n + 1) r
def qhz (enc : α → Value) (es : List (α × Value)) : Obj := .map ⟨qil enc 0 es⟩ es.length
def q4g (es : List (α × Value)) (k : α) : Option Value := (es.find? fun p => decide (k = p.1)).map (·.2)
def qdm : List (α × Value) → α → Value → List (α × Value)
 | [], k, v => [(k, v)]
 | (a, u) :: r, k, v => if k = a then (a, v) :: r else (a, u) :: qdm r k v
theorem q75 {es : List (α × Value)} {k : α} {v : Value} (h : q4g es k = none) : qdm es k v = es ++ [(k, v)] := by
 induction es with
 | nil => rfl
 | cons p r ih =>
  obtain ⟨a, u⟩ := p
  unfold q4g at h ih
  by_cases hk : k = a
  ·subst hk; simp at h
  ·simp only [List.find?_cons, hk, decide_false] at h
   unfold qdm
   rw [if_neg hk, ih h]; rfl
theorem q9r {d : TypeDesc} {enc : α → Value} [hk : qfq d enc] (k : α) : ∀ (es : List (α × Value)) (n i : Nat),
  Instr.findNow d (enc k) (qil enc n es) i = some ((es.findIdx? fun p => decide (k = p.1)).map fun j => (i + j, ((es[j]?).map (·.2)).getD undef))
 | [], _, _ => rfl
 | (a, u) :: r, n, i => by
  rw [qil, Instr.findNow, hk.same]
  by_cases h : k = a
  ·subst h; simp [List.findIdx?_cons]
  ·have := q9r (d := d) (enc := enc) k r (n + 1) (i + 1)
   simp only [h, decide_false]
   rw [this]
   simp only [List.findIdx?_cons, h, decide_false, Bool.false_eq_true, if_false, Option.map_map]
   congr 1
   cases hf : List.findIdx? (fun p => decide (k = p.1)) r with
   | none => rfl
   | some j => simp [Nat.add_assoc, Nat.add_comm 1 j]
theorem q92 (es : List (α × Value)) (k : α) : q4g es k = (es.findIdx? fun p => decide (k = p.1)).bind fun j => (es[j]?).map (·.2) := by
 induction es with
 | nil => rfl
 | cons p r ih =>
  obtain ⟨a, u⟩ := p
  unfold q4g at ih ⊢
  by_cases h : k = a
  ·subst h; simp [List.findIdx?_cons]
  ·simp only [List.find?_cons, h, decide_false, List.findIdx?_cons, Bool.false_eq_true, if_false]
   rw [ih]
   cases List.findIdx? (fun p => decide (k = p.1)) r <;> simp
theorem q9e (enc : α → Value) : ∀ (n : Nat) (es : List (α × Value)) (k : α) (v : Value), qil enc n (es ++ [(k, v)]) = qil enc n es ++ [{ key := enc k, val := v, born := n + es.length }]
 | n, [], k, v => rfl
 | n, _ :: r, k, v => by simp [qil, q9e enc (n + 1) r k v, Nat.add_assoc, Nat.add_comm 1]
theorem q9n (enc : α → Value) (k : α) (v : Value) : ∀ (n : Nat) (es : List (α × Value)) (j : Nat), (es.findIdx? fun p => decide (k = p.1)) = some j →
  (qil enc n es).modify j (fun e => { e with key := enc k, val := v }) = qil enc n (qdm es k v) ∧ ((qil enc n es)[j]?).map (·.key) = some (enc k) ∧ (qdm es k v).length = es.length
 | n, [], j, h => by cases h
 | n, (a, u) :: r, j, h => by
  rw [List.findIdx?_cons] at h
  by_cases hk : k = a
  ·subst hk
   simp at h
   subst h
   simp [qil, qdm]
  ·simp only [hk, decide_false, Bool.false_eq_true, if_false] at h
   cases hf : List.findIdx? (fun p => decide (k = p.1)) r with
   | none => rw [hf] at h; cases h
   | some i =>
    rw [hf] at h
    simp at h
    subst h
    obtain ⟨h1, h2, h3⟩ := q9n enc k v (n + 1) r i hf
    unfold qdm
    rw [if_neg hk]
    simp [qil, h1, h2, h3]
variable {P : Program} {n : Sz} {L : List (Nat × Value)} {w0 : World} {F0 : q01} {K0 : List Nat} {F : q01} {G : List Grp} {a : Act} {w : World} {ops : Array Oper} {Q : Exit → Act → World → Prop} {rest : List Oper} {o : Oper}
theorem run_findKey {d : TypeDesc} {enc : α → Value} [hk : qfq d enc] {kt : TypeId} (h : P.underlying kt = some d) (w : World) (es : List (α × Value)) (k : α) :
  (Instr.findKey kt (enc k) (qil enc 0 es)).run P w = .ok ((es.findIdx? fun p => decide (k = p.1)).map fun j => (j, ((es[j]?).map (·.2)).getD undef)) w := by
 unfold Instr.findKey
 simp only [Sem.run_bind, run_underlying h, Result.andThen_ok, q9r (d := d) k es 0 0, Nat.zero_add]
 rfl
theorem q3j {w : World} {b : Nat} {es : Array MapEntry} {c : Nat} (h : w.heap[b]? = some (.map es c)) : (getObj b).run P w = .ok (.map es c) w := by simp [getObj, Sem.run, h]
theorem qh9 {d : TypeDesc} {enc : α → Value} [hk : qfq d enc] {t kt e : TypeId} {z : Value} {sz by_ : Nat} {b : Nat} (ht : Und P t (.map kt e)) (hd : P.underlying kt = some d) (hi : Inf P e z sz by_) {w : World} {es : List (α × Value)} (hb : w.heap[b]? = some (qhz enc es)) (k : α) (ok : Bool) :
  (Instr.lookup t (.map (some b)) (enc k) ok).run P w = .ok (if ok then .tuple #[(q4g es k).getD z, .bool (q4g es k).isSome] else (q4g es k).getD z) w := by
 unfold Instr.lookup
 have hg := q3j (P := P) hb
 have hc := hk.chk P w kt (qil enc 0 es).toArray.isEmpty k hd
 simp only [Sem.run_bind, run_underlying ht.h, Result.andThen_ok, hg, Sem.run_pure, hc, run_findKey (d := d) hd w es k]
 rw [q92]
 cases hf : List.findIdx? (fun p => decide (k = p.1)) es with
 | none => simp [q4q hi]
 | some j =>
  have hj : j < es.length := (List.findIdx?_eq_some_iff_findIdx_eq.1 hf).1
  simp [List.getElem?_eq_getElem hj]
theorem qb9 {d : TypeDesc} {enc : α → Value} [hk : qfq d enc] {x y : Operand} {t kt e : TypeId} {z : Value} {sz by_ : Nat} {b : Nat} {es : List (α × Value)} {k : α} {ok : Bool} [ht : Und P t (.map kt e)] [hd : Und P kt d] [hi : Inf P e z sz by_]
  (S : St n L w0 F0 K0 F G a w) (ho : o.op = .lookup t x y ok) (hx : ev L x = some (.map (some b))) (hy : ev L y = some (enc k)) (hb : F b = some (qhz enc es)) : SV P o a w (if ok then .tuple #[(q4g es k).getD z, .bool (q4g es k).isSome] else (q4g es k).getD z) := by
 unfold SV execOp
 rw [ho]
 simp [S.fr.eval hx, S.fr.eval hy, qh9 (d := d) ht hd.h hi (S.tr.frz _ _ hb) k ok]
theorem q6e {d : Nat} {t : TypeId} (enc : α → Value) (S : St n L w0 F0 K0 F G a w) (hg : o.guard = none) (hd : o.dst = some d) (ho : o.op = .makeMap t none) (hn : Nat.blt d n.sz = true)
  (k : ∀ b a' w', St n ((d, .map (some b)) :: L) w0 F0 K0 F ([(b, qhz enc [])] :: G) a' w' → wpList P ops Q rest a' w') : wpList P ops Q (o :: rest) a w := by
 refine wpList_plain hg fun K hK => ?_
 unfold Oper.wp execOp
 rw [ho]
 have hr : (Instr.makeMap t none).run P w = .ok (.map (some w.heap.size)) (w.alloc (qhz enc [])) := rfl
 simp only [Sem.run_bind, Option.map_none, hr, Result.andThen_ok, Sem.run_pure, Oper.upon_value, hd]
 exact hK _ _ (k _ _ _ (S.alloc _ hn _))
end
end Go.Wk
namespace Go.Un
open Go Go.Wk
inductive Fo where
  | nil
  | cons (nm : List UInt8) (ar r : Fo)
  deriving DecidableEq
namespace Fo
def len : Fo → Nat
 | nil => 0
 | cons _ _ r => r.len + 1
def get? : Fo → Nat → Option (List UInt8 × Fo)
 | nil, _ => none
 | cons nm ar r, 0 => some (nm, ar)
 | cons nm ar r, k + 1 => r.get? k
def size : Fo → Nat
 | nil => 0
 | cons _ ar r => ar.size + r.size + 1
def drop (l : Fo) : Nat → Fo
 | 0 => l
 | k + 1 => match l.drop k with | nil => nil | cons _ _ r => r
theorem get_lt : ∀ {l : Fo} {k : Nat}, k < l.len → ∃ x, l.get? k = some x
 | cons nm ar r, 0, _ => ⟨_, rfl⟩
 | cons nm ar r, k + 1, h => get_lt (l := r) (by simpa [len] using h)
theorem lt_get : ∀ {l : Fo} {k : Nat} {x}, l.get? k = some x → k < l.len
 | cons nm ar r, 0, x, h => by simp [len]
 | cons nm ar r, k + 1, x, h => by have := lt_get (l := r) h; simp [len]; omega
theorem drop_step (nm : List UInt8) (ar r : Fo) : ∀ k, (cons nm ar r).drop (k + 1) = r.drop k
 | 0 => rfl
 | k + 1 => by
  show (match (cons nm ar r).drop (k + 1) with | nil => nil | cons _ _ r => r) = _
  rw [drop_step nm ar r k]; rfl
theorem drop_nil : ∀ k, nil.drop k = nil
 | 0 => rfl
 | k + 1 => by show (match nil.drop k with | nil => nil | cons _ _ r => r) = nil; rw [drop_nil k]
theorem drop_get : ∀ {l : Fo} {k : Nat} {x}, l.get? k = some x → l.drop k = .cons x.1 x.2 (l.drop (k + 1))
 | cons nm ar r, 0, x, h => by cases h; rfl
 | cons nm ar r, k + 1, x, h => by rw [drop_step, drop_step]; exact drop_get (l := r) h
theorem drop_len : ∀ {l : Fo} {k : Nat}, l.len ≤ k → l.drop k = .nil
 | nil, k, _ => drop_nil k
 | cons nm ar r, 0, h => by simp [len] at h
 | cons nm ar r, k + 1, h => by rw [drop_step]; exact drop_len (l := r) (by simpa [len] using h)
theorem size_get : ∀ {l : Fo} {k : Nat} {x}, l.get? k = some x → x.2.size < l.size
 | cons nm ar r, 0, x, h => by cases h; simp [size]; omega
 | cons nm ar r, k + 1, x, h => by have := size_get (l := r) h; simp [size]; omega
end Fo
abbrev ptr (b : Nat) : Value := .pointer (some ⟨b, 0, none⟩)
def FoM (F : q01) : Fo → Nat → Nat → Prop
 | .nil, _, _ => True
 | .cons nm ar r, b, off => Cel F b off (.string (bs nm)) ∧
   (∃ ao cap, Cel F b (off + 1) (.slice ao ar.len cap) ∧ (ar.len ≤ cap ∧ ar.len ≤ 9223372036854775807) ∧ (0 < ar.len → ∃ b' o', ao = some ⟨b', o', none⟩ ∧ FoM F ar b' o')) ∧ FoM F r b (off + 2)
def SlF (F : q01) (v : Value) (l : Fo) : Prop := ∃ ao cap, v = .slice ao l.len cap ∧ (l.len ≤ cap ∧ l.len ≤ 9223372036854775807) ∧ (0 < l.len → ∃ b o, ao = some ⟨b, o, none⟩ ∧ FoM F l b o)
def TyC (F : q01) (cs : List Value) (nm : List UInt8) (ar : Fo) : Prop := ∃ v, cs = [.string (bs nm), v] ∧ SlF F v ar
theorem FoM.mono {F F' : q01} (hF : ∀ b o, F b = some o → F' b = some o) : ∀ {l : Fo} {b off : Nat}, FoM F l b off → FoM F' l b off
 | .nil, _, _, _ => trivial
 | .cons nm ar r, b, off, ⟨h1, ⟨ao, cap, h2, h3, h4⟩, h5⟩ => ⟨h1.mono hF, ⟨ao, cap, h2.mono hF, h3, fun h => by
   obtain ⟨b', o', e, h6⟩ := h4 h
   exact ⟨b', o', e, FoM.mono hF h6⟩⟩, FoM.mono hF h5⟩
theorem SlF.mono {F F' : q01} (hF : ∀ b o, F b = some o → F' b = some o) {v : Value} {l : Fo} (h : SlF F v l) : SlF F' v l := by
 obtain ⟨ao, cap, h1, h2, h3⟩ := h
 exact ⟨ao, cap, h1, h2, fun h => by obtain ⟨b, o, e, h6⟩ := h3 h; exact ⟨b, o, e, h6.mono hF⟩⟩
theorem TyC.mono {F F' : q01} (hF : ∀ b o, F b = some o → F' b = some o) {cs : List Value} {nm : List UInt8} {ar : Fo} (h : TyC F cs nm ar) : TyC F' cs nm ar := by
 obtain ⟨v, h1, h2⟩ := h; exact ⟨v, h1, h2.mono hF⟩
theorem SlF.nil (F : q01) : SlF F (.slice none 0 0) .nil := ⟨none, 0, rfl, ⟨Nat.le_refl _, by decide⟩, fun h => absurd h (by decide)⟩
theorem FoM.at {F : q01} : ∀ {l : Fo} {b off k : Nat} {x}, FoM F l b off → l.get? k = some x → ∃ cs, q2v F b (off + k * 2) cs ∧ cs.length = 2 ∧ TyC F cs x.1 x.2
 | .cons nm ar r, b, off, 0, x, ⟨h1, ⟨ao, cap, h2, h3, h4⟩, h5⟩, h => by
  cases h
  refine ⟨[.string (bs nm), .slice ao ar.len cap], fun j v hj => ?_, rfl, _, rfl, ao, cap, rfl, h3, h4⟩
  rcases j with - | j
  ·cases hj; simpa using h1
  rcases j with - | j
  ·cases hj; simpa using h2
  ·simp at hj
 | .cons nm ar r, b, off, k + 1, x, ⟨h1, h2, h5⟩, h => by
  obtain ⟨cs, h6, h7, h8⟩ := FoM.at (l := r) h5 h
  refine ⟨cs, ?_, h7, h8⟩
  rw [show off + (k + 1) * 2 = off + 2 + k * 2 by omega]
  exact h6
def FoC (F : q01) : List Value → Fo → Prop
 | [], .nil => True
 | x :: v :: r, .cons nm ar l => x = .string (bs nm) ∧ SlF F v ar ∧ FoC F r l
 | _, _ => False
def Fo.app : Fo → Fo → Fo
 | .nil, m => m
 | .cons nm ar r, m => .cons nm ar (r.app m)
theorem FoC.app {F : q01} : ∀ {xs ys : List Value} {l m : Fo}, FoC F xs l → FoC F ys m → FoC F (xs ++ ys) (l.app m)
 | [], ys, .nil, m, _, h => h
 | [], _, .cons _ _ _, _, h, _ => h.elim
 | [_], _, .nil, _, h, _ => h.elim
 | [_], _, .cons _ _ _, _, h, _ => h.elim
 | _ :: _ :: _, _, .nil, _, h, _ => h.elim
 | x :: v :: r, ys, .cons nm ar l, m, ⟨h1, h2, h3⟩, h => ⟨h1, h2, FoC.app h3 h⟩
theorem FoC.mono {F F' : q01} (hF : ∀ b o, F b = some o → F' b = some o) : ∀ {xs : List Value} {l : Fo}, FoC F xs l → FoC F' xs l
 | [], .nil, _ => trivial
 | [], .cons _ _ _, h => h.elim
 | [_], .nil, h => h.elim
 | [_], .cons _ _ _, h => h.elim
 | _ :: _ :: _, .nil, h => h.elim
 | x :: v :: r, .cons nm ar l, ⟨h1, h2, h3⟩ => ⟨h1, h2.mono hF, FoC.mono hF h3⟩
theorem FoC.one {F : q01} {nm : List UInt8} {v : Value} {ar : Fo} (h : SlF F v ar) : FoC F [.string (bs nm), v] (.cons nm ar .nil) := ⟨rfl, h, trivial⟩
structure Pr where
  na : List UInt8
  aa : Fo
  nb : List UInt8
  ab : Fo
  c : Bool
def PsM (F : q01) (v : Value) (ps : List Pr) : Prop := ∃ ao cap, v = .slice ao ps.length cap ∧ (ps.length ≤ cap ∧ ps.length ≤ 9223372036854775807) ∧ (0 < ps.length → ∃ b o, ao = some ⟨b, o, none⟩ ∧ ∀ (k : Nat) (p : Pr), ps[k]? = some p → ∃ va vb, q2v F b (o + k * 5) [.string (bs p.na), va, .string (bs p.nb), vb, .bool p.c] ∧ SlF F va p.aa ∧ SlF F vb p.ab)
theorem PsM.mono {F F' : q01} (hF : ∀ b o, F b = some o → F' b = some o) {v : Value} {ps : List Pr} (h : PsM F v ps) : PsM F' v ps := by
 obtain ⟨ao, cap, h1, h2, h3⟩ := h
 exact ⟨ao, cap, h1, h2, fun h => by
  obtain ⟨b, o, e, h6⟩ := h3 h
  exact ⟨b, o, e, fun k p hp => by obtain ⟨va, vb, h7, h8, h9⟩ := h6 k p hp; exact ⟨va, vb, q2v.mono hF h7, h8.mono hF, h9.mono hF⟩⟩⟩
def u8s (nm : List UInt8) (ar : Fo) : Bool := decide (1 < nm.length) && decide ((nm.getD 0 0).toNat = 39) && decide (ar.len = 0)
def qln : Fo → Int → Int → Bool × Int
 | .nil, _, n => (true, n)
 | .cons nm ar r, d, n =>
  let x := if n - 1 < 0 ∨ 64 < d ∨ nm = [] then (false, n - 1) else if (nm.getD 0 0).toNat = 39 then (u8s nm ar, n - 1) else qln ar (d + 1) (n - 1)
  if x.1 = true then qln r d x.2 else (false, x.2)
def u1k (nm : List UInt8) (ar : Fo) (d n : Int) : Bool × Int :=
 if n - 1 < 0 ∨ 64 < d ∨ nm = [] then (false, n - 1) else if (nm.getD 0 0).toNat = 39 then (u8s nm ar, n - 1) else qln ar (d + 1) (n - 1)
def may (nm : List UInt8) (ar : Fo) : Bool := (u1k nm ar 1 2048).1
theorem St.permI {n : Sz} {L : List (Nat × Value)} {w0 : World} {F0 : q01} {K0 : List Nat} {F : q01} {G : List Grp} {a : Act} {w : World} (S : St n L w0 F0 K0 F G a w) (m : Nat) (hm : G.length = m) (ix : List Nat) (h : (List.range m).Perm ix) : St n L w0 F0 K0 F (ix.map fun i => G.getD i []) a w := by
 refine ⟨S.fr, S.tr.perm ?_⟩
 have e : G = (List.range m).map fun i => G.getD i [] := by
  refine List.ext_getElem (by simp [hm]) fun i h1 h2 => ?_
  simp [List.getElem?_eq_getElem h1]
 conv => lhs; rw [e]
 exact (h.map _).flatten
theorem qad {e sz q : Nat} {v : Value} {xs : List Value} {g : Grp} (h : q0u e sz v q xs g) (hq : 0 < q) : ∃ b cap ex, v = .slice (some ⟨b, 0, none⟩) q cap ∧ g = [(b, .cells ⟨xs ++ ex⟩ e (0, 0))] ∧ q ≤ cap ∧ cap ≤ maxLen ∧ xs.length = q * sz ∧ (xs ++ ex).length = cap * sz := by
 have h0 := h.1
 rcases h.2 with ⟨_, h1, _⟩ | ⟨b, cap, cur, rfl, rfl, h1, h2, h3, h4⟩
 ·omega
 ·have e : xs ++ cur.toList.drop (q * sz) = cur.toList := by rw [← h4, List.take_append_drop]
  exact ⟨b, cap, cur.toList.drop (q * sz), rfl, by rw [e], h1, h2, h0, by rw [e]; simpa using h3⟩
theorem q96 {e sz q b cap : Nat} {xs ex : List Value} (h1 : xs.length = q * sz) (h2 : q ≤ cap) (h3 : cap ≤ maxLen) (h4 : (xs ++ ex).length = cap * sz) : q0u e sz (.slice (some ⟨b, 0, none⟩) q cap) q xs [(b, .cells ⟨xs ++ ex⟩ e (0, 0))] :=
 ⟨h1, .inr ⟨b, cap, ⟨xs ++ ex⟩, rfl, rfl, h2, h3, by simpa using h4, by simp [← h1]⟩⟩
end Go.Un
namespace Go.De
open Go Go.Wk Go.Un
class Mon {α : Type} (R : q01 → α → List Value → Prop) : Prop where
  h : ∀ {F F' : q01} {x : α} {cs : List Value}, (∀ b o, F b = some o → F' b = some o) → R F x cs → R F' x cs
def LiM {α : Type} (F : q01) (sz : Nat) (R : q01 → α → List Value → Prop) (v : Value) (l : List α) : Prop :=
 ∃ ao cap, v = .slice ao l.length cap ∧ (l.length ≤ cap ∧ l.length ≤ 140737488355328) ∧ (0 < l.length → ∃ b o, ao = some ⟨b, o, none⟩ ∧ ∀ (k : Nat) (x : α), l[k]? = some x → ∃ cs, q2v F b (o + k * sz) cs ∧ cs.length = sz ∧ R F x cs)
theorem LiM.mono {α : Type} {F F' : q01} {sz : Nat} {R : q01 → α → List Value → Prop} [hR : Mon R] (hF : ∀ b o, F b = some o → F' b = some o) {v : Value} {l : List α} (h : LiM F sz R v l) : LiM F' sz R v l := by
 obtain ⟨ao, cap, h1, h2, h3⟩ := h
 exact ⟨ao, cap, h1, h2, fun h => by
  obtain ⟨b, o, e, h6⟩ := h3 h
  exact ⟨b, o, e, fun k x hx => by obtain ⟨cs, h7, h8, h9⟩ := h6 k x hx; exact ⟨cs, q2v.mono hF h7, h8, hR.h hF h9⟩⟩⟩
theorem LiM.nil {α : Type} (F : q01) (sz : Nat) (R : q01 → α → List Value → Prop) : LiM F sz R (.slice none 0 0) [] := ⟨none, 0, rfl, ⟨Nat.le_refl _, Nat.zero_le _⟩, fun h => absurd h (Nat.lt_irrefl _)⟩
theorem LiM.pos {α : Type} {F : q01} {sz : Nat} {R : q01 → α → List Value → Prop} {ao : Option Addr} {l : List α} {k : Nat} (hpos : 0 < l.length → ∃ b o, ao = some ⟨b, o, none⟩ ∧ ∀ (k : Nat) (x : α), l[k]? = some x → ∃ cs, q2v F b (o + k * sz) cs ∧ cs.length = sz ∧ R F x cs) (hk : k < l.length) :
  ∃ b o, ao = some ⟨b, o, none⟩ ∧ ∃ x cs, l[k]? = some x ∧ q2v F b (o + k * sz) cs ∧ R F x cs := by
 obtain ⟨b, o, e, h⟩ := hpos (by omega)
 obtain ⟨cs, h1, h2, h3⟩ := h k _ (List.getElem?_eq_getElem hk)
 exact ⟨b, o, e, _, cs, List.getElem?_eq_getElem hk, h1, h3⟩
def LiC {α : Type} (F : q01) (sz : Nat) (R : q01 → α → List Value → Prop) : List Value → List α → Prop
 | xs, [] => xs = []
 | xs, x :: l => ∃ cs r, xs = cs ++ r ∧ cs.length = sz ∧ R F x cs ∧ LiC F sz R r l
theorem LiC.mono {α : Type} {F F' : q01} {sz : Nat} {R : q01 → α → List Value → Prop} [hR : Mon R] (hF : ∀ b o, F b = some o → F' b = some o) : ∀ {l : List α} {xs : List Value}, LiC F sz R xs l → LiC F' sz R xs l
 | [], _, h => h
 | x :: l, xs, ⟨cs, r, h1, h2, h3, h4⟩ => ⟨cs, r, h1, h2, hR.h hF h3, LiC.mono hF h4⟩
theorem LiC.app {α : Type} {F : q01} {sz : Nat} {R : q01 → α → List Value → Prop} : ∀ {l m : List α} {xs ys : List Value}, LiC F sz R xs l → LiC F sz R ys m → LiC F sz R (xs ++ ys) (l ++ m)
 | [], m, xs, ys, h, h2 => by rw [show xs = [] from h]; exact h2
 | x :: l, m, xs, ys, ⟨cs, r, h1, h2, h3, h4⟩, h5 => ⟨cs, r ++ ys, by rw [h1, qaB], h2, h3, LiC.app h4 h5⟩
theorem LiC.one {α : Type} {F : q01} {sz : Nat} {R : q01 → α → List Value → Prop} {x : α} {cs : List Value} (h1 : cs.length = sz) (h : R F x cs) : LiC F sz R cs [x] := ⟨cs, [], by rw [qaE], h1, h, rfl⟩
theorem LiC.len {α : Type} {F : q01} {sz : Nat} {R : q01 → α → List Value → Prop} : ∀ {l : List α} {xs : List Value}, LiC F sz R xs l → xs.length = l.length * sz
 | [], xs, h => by rw [show xs = [] from h]; simp
 | x :: l, xs, ⟨cs, r, h1, h2, h3, h4⟩ => by rw [h1, qaA, h2, LiC.len h4, qaC, Nat.add_mul]; omega
theorem LiC.get {α : Type} {F : q01} {sz : Nat} {R : q01 → α → List Value → Prop} : ∀ {l : List α} {xs : List Value} {k : Nat} {x : α}, LiC F sz R xs l → l[k]? = some x → ∃ cs, (∀ j u, cs[j]? = some u → xs[k * sz + j]? = some u) ∧ cs.length = sz ∧ R F x cs
 | y :: l, xs, 0, x, ⟨cs, r, h1, h2, h3, h4⟩, h => by
  cases h
  refine ⟨cs, fun j u hj => ?_, h2, h3⟩
  have := (List.getElem?_eq_some_iff.1 hj).1
  rw [h1, Nat.zero_mul, Nat.zero_add, List.getElem?_append_left this]; exact hj
 | y :: l, xs, k + 1, x, ⟨cs, r, h1, h2, h3, h4⟩, h => by
  obtain ⟨cs2, h5, h6, h7⟩ := LiC.get (k := k) h4 h
  refine ⟨cs2, fun j u hj => ?_, h6, h7⟩
  rw [h1, List.getElem?_append_right (by rw [h2, Nat.add_mul]; omega), h2, show (k + 1) * sz + j - sz = k * sz + j by rw [Nat.add_mul]; omega]
  exact h5 j u hj
theorem LiC.lim {α : Type} {F : q01} {e sz q : Nat} {R : q01 → α → List Value → Prop} [hR : Mon R] {v : Value} {xs : List Value} {g : Grp} {l : List α} (hown : q0u e sz v q xs g) (h : LiC F sz R xs l) (hq : q = l.length) (hF : ∀ b o, F b = some o → F.add g b = some o) (hm : q ≤ 140737488355328) : LiM (F.add g) sz R v l := by
 obtain ⟨ao, cap, rfl, h1, h2⟩ := hown.slC F
 subst hq
 refine ⟨ao, cap, rfl, ⟨h1, hm⟩, fun hp => ?_⟩
 obtain ⟨b, o, e, h3⟩ := h2 hp
 refine ⟨b, o, e, fun k x hx => ?_⟩
 obtain ⟨cs, h5, h6, h7⟩ := LiC.get h hx
 exact ⟨cs, fun j u hj => by rw [Nat.add_assoc]; exact h3 _ u (h5 j u hj), h6, hR.h hF h7⟩
theorem qrz {F : q01} {b off : Nat} {xs ys : List Value} (h1 : q2v F b off xs) (h2 : q2v F b (off + xs.length) ys) : q2v F b off (xs ++ ys) := by
 intro j v hv
 by_cases hj : j < xs.length
 ·rw [List.getElem?_append_left hj] at hv; exact h1 j v hv
 ·rw [List.getElem?_append_right (by omega)] at hv
  have := h2 _ v hv
  rw [show off + xs.length + (j - xs.length) = off + j by omega] at this
  exact this
theorem qus {α : Type} {F : q01} {sz b : Nat} {R : q01 → α → List Value → Prop} : ∀ {l : List α} {o : Nat}, (∀ (k : Nat) (x : α), l[k]? = some x → ∃ cs, q2v F b (o + k * sz) cs ∧ cs.length = sz ∧ R F x cs) → ∃ xs, LiC F sz R xs l ∧ q2v F b o xs
 | [], o, _ => ⟨[], rfl, fun j u h => by simp at h⟩
 | x :: l, o, h => by
  obtain ⟨cs, h1, h2, h3⟩ := h 0 x rfl
  rw [Nat.zero_mul, Nat.add_zero] at h1
  obtain ⟨r, h4, h5⟩ := qus (l := l) (o := o + sz) fun k y hy => by
   obtain ⟨cs, h1, h2⟩ := h (k + 1) y hy
   rw [show o + (k + 1) * sz = o + sz + k * sz by rw [Nat.add_mul]; omega] at h1
   exact ⟨cs, h1, h2⟩
  exact ⟨cs ++ r, ⟨cs, r, rfl, h2, h3, h4⟩, qrz h1 (by rw [h2]; exact h5)⟩
theorem LiM.flat {α : Type} {F : q01} {sz : Nat} {R : q01 → α → List Value → Prop} {v : Value} {l : List α} (h : LiM F sz R v l) : ∃ ao cap xs, v = .slice ao l.length cap ∧ LiC F sz R xs l ∧ (0 < l.length → ∃ b o, ao = some ⟨b, o, none⟩ ∧ q2v F b o xs) := by
 obtain ⟨ao, cap, rfl, h2, h3⟩ := h
 by_cases hp : 0 < l.length
 ·obtain ⟨b, o, e, h4⟩ := h3 hp
  obtain ⟨xs, h5, h6⟩ := qus h4
  exact ⟨ao, cap, xs, rfl, h5, fun _ => ⟨b, o, e, h6⟩⟩
 ·have : l = [] := List.length_eq_zero_iff.1 (by omega)
  subst this
  exact ⟨ao, cap, [], rfl, rfl, fun h => absurd h hp⟩
theorem LiC.split {α : Type} {F : q01} {sz : Nat} {R : q01 → α → List Value → Prop} : ∀ {l : List α} {xs : List Value} {i : Nat} {x : α}, LiC F sz R xs l → l[i]? = some x → ∃ xa cs xb, xs = xa ++ cs ++ xb ∧ xa.length = i * sz ∧ cs.length = sz ∧ R F x cs ∧ LiC F sz R xa (l.take i) ∧ LiC F sz R xb (l.drop (i + 1))
 | y :: l, xs, 0, x, ⟨cs, r, h1, h2, h3, h4⟩, h => by
  cases h
  exact ⟨[], cs, r, by rw [h1]; rfl, by simp, h2, h3, rfl, h4⟩
 | y :: l, xs, i + 1, x, ⟨cs, r, h1, h2, h3, h4⟩, h => by
  obtain ⟨xa, cs2, xb, h5, h6, h7, h8, h9, h10⟩ := LiC.split (i := i) h4 h
  exact ⟨cs ++ xa, cs2, xb, by rw [h1, h5]; simp [qaB], by rw [qaA, h2, h6, Nat.add_mul]; omega, h7, h8, ⟨cs, xa, rfl, h2, h3, h9⟩, h10⟩
theorem LiC.join {α : Type} {F : q01} {sz : Nat} {R : q01 → α → List Value → Prop} {l : List α} {i : Nat} {x : α} {xa cs xb : List Value} (hx : l[i]? = some x) (h1 : LiC F sz R xa (l.take i)) (h2 : cs.length = sz) (h3 : R F x cs) (h4 : LiC F sz R xb (l.drop (i + 1))) : LiC F sz R (xa ++ cs ++ xb) l := by
 have h5 := LiC.app (LiC.app h1 (LiC.one h2 h3)) h4
 obtain ⟨h6, h7⟩ := List.getElem?_eq_some_iff.1 hx
 have h8 : l.take i ++ [x] ++ l.drop (i + 1) = l := by
  rw [← h7, qaB, List.singleton_append, ← List.drop_eq_getElem_cons h6, List.take_append_drop]
 rw [h8] at h5
 exact h5
theorem set_mid {xa cs xb ex : List Value} {n j : Nat} (v : Value) (h : xa.length = n) (hj : j < cs.length) : (xa ++ cs ++ xb ++ ex).set (0 + n + j) v = xa ++ cs.set j v ++ xb ++ ex := by
 subst h
 rw [qaB, qaB, Nat.zero_add, List.set_append_right _ _ (by omega), Nat.add_sub_cancel_left, List.set_append_left _ _ hj]
 simp [qaB]
class OneC {α : Type} (R : q01 → α → List Value → Prop) : Prop where
  h : ∀ {F : q01} {x : α} {cs : List Value}, R F x cs → ∀ u ∈ cs, u.oneCell' = true
theorem LiC.one' {α : Type} {F : q01} {sz : Nat} {R : q01 → α → List Value → Prop} [hO : OneC R] : ∀ {l : List α} {xs : List Value}, LiC F sz R xs l → ∀ u ∈ xs, u.oneCell' = true
 | [], xs, h, u, hu => by rw [show xs = [] from h] at hu; cases hu
 | x :: l, xs, ⟨cs, r, h1, h2, h3, h4⟩, u, hu => by
  rw [h1] at hu
  exact (List.mem_append.1 hu).elim (hO.h h3 u) (LiC.one' h4 u)
inductive q1d (α : Type) where
  | nil
  | cons (a : α) (L r : q1d α)
namespace q1d
variable {α : Type}
def len : q1d α → Nat
 | nil => 0
 | cons _ _ r => r.len + 1
def get? : q1d α → Nat → Option (α × q1d α)
 | nil, _ => none
 | cons a L r, 0 => some (a, L)
 | cons a L r, k + 1 => r.get? k
def size : q1d α → Nat
 | nil => 0
 | cons _ L r => L.size + r.size + 1
def drop (l : q1d α) : Nat → q1d α
 | 0 => l
 | k + 1 => match l.drop k with | nil => nil | cons _ _ r => r
theorem get_lt : ∀ {l : q1d α} {k : Nat}, k < l.len → ∃ x, l.get? k = some x
 | cons a L r, 0, _ => ⟨_, rfl⟩
 | cons a L r, k + 1, h => get_lt (l := r) (by simpa [len] using h)
theorem lt_get : ∀ {l : q1d α} {k : Nat} {x}, l.get? k = some x → k < l.len
 | cons a L r, 0, x, h => by simp [len]
 | cons a L r, k + 1, x, h => by have := lt_get (l := r) h; simp [len]; omega
theorem drop_step (a : α) (L r : q1d α) : ∀ k, (cons a L r).drop (k + 1) = r.drop k
 | 0 => rfl
 | k + 1 => by
  show (match (cons a L r).drop (k + 1) with | nil => nil | cons _ _ r => r) = _
  rw [drop_step a L r k]; rfl
theorem drop_nil : ∀ k, (nil : q1d α).drop k = nil
 | 0 => rfl
 | k + 1 => by show (match (nil : q1d α).drop k with | nil => nil | cons _ _ r => r) = nil; rw [drop_nil k]
theorem drop_get : ∀ {l : q1d α} {k : Nat} {x}, l.get? k = some x → l.drop k = .cons x.1 x.2 (l.drop (k + 1))
 | cons a L r, 0, x, h => by cases h; rfl
 | cons a L r, k + 1, x, h => by rw [drop_step, drop_step]; exact drop_get (l := r) h
theorem drop_len : ∀ {l : q1d α} {k : Nat}, l.len ≤ k → l.drop k = .nil
 | nil, k, _ => drop_nil k
 | cons a L r, 0, h => by simp [len] at h
 | cons a L r, k + 1, h => by rw [drop_step]; exact drop_len (l := r) (by simpa [len] using h)
theorem size_get : ∀ {l : q1d α} {k : Nat} {x}, l.get? k = some x → x.2.size < l.size
 | cons a L r, 0, x, h => by cases h; simp [size]; omega
 | cons a L r, k + 1, x, h => by have := size_get (l := r) h; simp [size]; omega
end q1d
def TrM {α : Type} (F : q01) (sz : Nat) (R : q01 → α → List Value → Prop) : q1d α → Nat → Nat → Prop
 | .nil, _, _ => True
 | .cons a L r, b, off => (∃ cs ao cap, R F a cs ∧ cs.length + 1 = sz ∧ q2v F b off (cs ++ [.slice ao L.len cap]) ∧ (L.len ≤ cap ∧ L.len ≤ 140737488355328) ∧ (0 < L.len → ∃ b' o', ao = some ⟨b', o', none⟩ ∧ TrM F sz R L b' o')) ∧ TrM F sz R r b (off + sz)
def TrS {α : Type} (F : q01) (sz : Nat) (R : q01 → α → List Value → Prop) (v : Value) (l : q1d α) : Prop := ∃ ao cap, v = .slice ao l.len cap ∧ (l.len ≤ cap ∧ l.len ≤ 140737488355328) ∧ (0 < l.len → ∃ b o, ao = some ⟨b, o, none⟩ ∧ TrM F sz R l b o)
theorem TrM.mono {α : Type} {F F' : q01} {sz : Nat} {R : q01 → α → List Value → Prop} [hR : Mon R] (hF : ∀ b o, F b = some o → F' b = some o) : ∀ {l : q1d α} {b off : Nat}, TrM F sz R l b off → TrM F' sz R l b off
 | .nil, _, _, _ => trivial
 | .cons a L r, b, off, ⟨⟨cs, ao, cap, h1, h2, h3, h4, h5⟩, h6⟩ => ⟨⟨cs, ao, cap, hR.h hF h1, h2, q2v.mono hF h3, h4, fun h => by
   obtain ⟨b', o', e, h7⟩ := h5 h
   exact ⟨b', o', e, TrM.mono hF h7⟩⟩, TrM.mono hF h6⟩
theorem TrS.mono {α : Type} {F F' : q01} {sz : Nat} {R : q01 → α → List Value → Prop} [hR : Mon R] (hF : ∀ b o, F b = some o → F' b = some o) {v : Value} {l : q1d α} (h : TrS F sz R v l) : TrS F' sz R v l := by
 obtain ⟨ao, cap, h1, h2, h3⟩ := h
 exact ⟨ao, cap, h1, h2, fun h => by obtain ⟨b, o, e, h6⟩ := h3 h; exact ⟨b, o, e, TrM.mono hF h6⟩⟩
theorem TrS.nil {α : Type} (F : q01) (sz : Nat) (R : q01 → α → List Value → Prop) : TrS F sz R (.slice none 0 0) .nil := ⟨none, 0, rfl, ⟨Nat.le_refl _, Nat.zero_le _⟩, fun h => absurd h (Nat.lt_irrefl _)⟩
theorem TrM.at {α : Type} {F : q01} {sz : Nat} {R : q01 → α → List Value → Prop} : ∀ {l : q1d α} {b off k : Nat} {x}, TrM F sz R l b off → l.get? k = some x → ∃ cs v, q2v F b (off + k * sz) (cs ++ [v]) ∧ cs.length + 1 = sz ∧ R F x.1 cs ∧ TrS F sz R v x.2
 | .cons a L r, b, off, 0, x, ⟨⟨cs, ao, cap, h1, h2, h3, h4, h5⟩, h6⟩, h => by
  cases h
  exact ⟨cs, _, by rw [Nat.zero_mul, Nat.add_zero]; exact h3, h2, h1, ao, cap, rfl, h4, h5⟩
 | .cons a L r, b, off, k + 1, x, ⟨_, h6⟩, h => by
  obtain ⟨cs, v, h7, h8⟩ := TrM.at (l := r) h6 h
  refine ⟨cs, v, ?_, h8⟩
  rw [show off + (k + 1) * sz = off + sz + k * sz by rw [Nat.add_mul]; omega]
  exact h7
theorem TrM.pos {α : Type} {F : q01} {sz : Nat} {R : q01 → α → List Value → Prop} {ao : Option Addr} {l : q1d α} {k : Nat} (hpos : 0 < l.len → ∃ b o, ao = some ⟨b, o, none⟩ ∧ TrM F sz R l b o) (hk : k < l.len) : ∃ b o, ao = some ⟨b, o, none⟩ ∧ ∃ x cs v, l.get? k = some x ∧ q2v F b (o + k * sz) (cs ++ [v]) ∧ R F x.1 cs ∧ TrS F sz R v x.2 := by
 obtain ⟨b, o, e, h⟩ := hpos (by omega)
 obtain ⟨x, hx⟩ := q1d.get_lt hk
 obtain ⟨cs, v, h1, h2, h3, h4⟩ := h.at hx
 exact ⟨b, o, e, x, cs, v, hx, h1, h3, h4⟩
structure VH where
  k : Nat
  n : Int
  s : List UInt8
def VhR (_ : q01) (x : VH) (cs : List Value) : Prop := cs = [.int .u8 (x.k : Int), .int .i64 x.n, .string (bs x.s)] ∧ x.s.length ≤ 140737488355328
instance : Mon VhR := ⟨fun _ h => h⟩
abbrev Vf := q1d VH
structure EH where
  k : Nat
  l : Int
  c : Int
  nm : List UInt8
  v : VH
  vl : Vf
abbrev Ef := q1d EH
def StR (_ : q01) (s : List UInt8) (cs : List Value) : Prop := cs = [.string (bs s)]
structure FD where
  nm : List UInt8
  tn : List UInt8
  ta : Fo
structure CD where
  nm : List UInt8
  fs : List FD
structure TD where
  l : Int
  c : Int
  pub : Bool
  nm : List UInt8
  ps : List (List UInt8)
  cs : List CD
structure RD where
  l : Int
  c : Int
  pub : Bool
  inp : Bool
  nm : List UInt8
  fs : List FD
instance : Mon StR := ⟨fun _ h => h⟩
structure LT where
  k : Nat
  l : Int
  c : Int
  rel : List UInt8
  args : Ef
structure RU where
  l : Int
  c : Int
  rel : List UInt8
  args : Ef
  aggs : List (List UInt8)
  body : List LT
structure NV where
  l : Int
  c : Int
  nm : List UInt8
  body : List LT
structure MD where
  nm : List UInt8
  ts : List TD
  rs : List RD
  ru : List RU
  nv : List NV
theorem u4b {p : Value → Prop} {a : Value} {l : List Value} (ha : p a) (hl : ∀ u ∈ l, p u) : ∀ u ∈ a :: l, p u := fun u hu => by
 rcases List.mem_cons.1 hu with rfl | hu
 ·exact ha
 ·exact hl u hu
theorem u8p {p : Value → Prop} : ∀ u ∈ ([] : List Value), p u := fun u hu => by cases hu
instance : OneC StR := ⟨fun h => by rw [show _ = _ from h]; exact u4b rfl u8p⟩
def qc2 {α : Type} (F : q01) (R : q01 → α → List Value → Prop) (key : α → List UInt8) : List (List UInt8 × Value) → List α → Prop
 | [], [] => True
 | (k, v) :: es, x :: l => k = key x ∧ (∃ cs, v = .agg ⟨cs⟩ ∧ R F x cs) ∧ qc2 F R key es l
 | _, _ => False
theorem qc2.mono {α : Type} {F F' : q01} {R : q01 → α → List Value → Prop} {key : α → List UInt8} [hR : Mon R] (hF : ∀ b o, F b = some o → F' b = some o) : ∀ {es : List (List UInt8 × Value)} {l : List α}, qc2 F R key es l → qc2 F' R key es l
 | [], [], _ => trivial
 | [], _ :: _, h => h.elim
 | _ :: _, [], h => h.elim
 | (k, v) :: es, x :: l, ⟨h1, ⟨cs, h2, h3⟩, h4⟩ => ⟨h1, ⟨cs, h2, hR.h hF h3⟩, qc2.mono hF h4⟩
theorem qc2.get {α : Type} {F : q01} {R : q01 → α → List Value → Prop} {key : α → List UInt8} : ∀ {es : List (List UInt8 × Value)} {l : List α}, qc2 F R key es l → ∀ s, (∃ x cs, l.find? (fun x => decide (s = key x)) = some x ∧ q4g es s = some (.agg ⟨cs⟩) ∧ R F x cs) ∨ (l.find? (fun x => decide (s = key x)) = none ∧ q4g es s = none)
 | [], [], _, s => .inr ⟨rfl, rfl⟩
 | [], _ :: _, h, _ => h.elim
 | _ :: _, [], h, _ => h.elim
 | (k, v) :: es, x :: l, ⟨h1, ⟨cs, h2, h3⟩, h4⟩, s => by
  subst h1; subst h2
  unfold q4g
  rw [List.find?_cons, List.find?_cons]
  by_cases e : s = key x
  ·left
   refine ⟨x, cs, ?_, ?_, h3⟩ <;> simp [e]
  ·have h5 := qc2.get h4 s
   unfold q4g at h5
   simpa [e] using h5
theorem qc2.app {α : Type} {F : q01} {R : q01 → α → List Value → Prop} {key : α → List UInt8} : ∀ {es : List (List UInt8 × Value)} {l : List α} {x : α} {cs : List Value}, qc2 F R key es l → R F x cs → qc2 F R key (es ++ [(key x, .agg ⟨cs⟩)]) (l ++ [x])
 | [], [], x, cs, _, h => ⟨rfl, ⟨cs, rfl, h⟩, trivial⟩
 | [], _ :: _, _, _, h, _ => h.elim
 | _ :: _, [], _, _, h, _ => h.elim
 | (k, v) :: es, y :: l, x, cs, ⟨h1, h2, h4⟩, h => ⟨h1, h2, qc2.app h4 h⟩
theorem qc2.mem {α : Type} {F : q01} {R : q01 → α → List Value → Prop} {key : α → List UInt8} {es : List (List UInt8 × Value)} {l : List α} (h : qc2 F R key es l) (s : List UInt8) : (q4g es s).isSome = decide (s ∈ l.map key) := by
 rcases h.get s with ⟨x, cs, h1, h2, h3⟩ | ⟨h1, h2⟩
 ·rw [h2]
  have h4 := List.mem_of_find?_eq_some h1
  have h5 := List.find?_some h1
  exact (decide_eq_true (List.mem_map.2 ⟨x, h4, (of_decide_eq_true h5).symm⟩)).symm
 ·rw [h2]
  refine (decide_eq_false fun hm => ?_).symm
  obtain ⟨x, h4, h5⟩ := List.mem_map.1 hm
  have := List.find?_eq_none.1 h1 x h4
  exact this (decide_eq_true h5.symm)
theorem qc2.set {α : Type} {F : q01} {R : q01 → α → List Value → Prop} {key : α → List UInt8} : ∀ {es : List (List UInt8 × Value)} {l : List α} {x : α} {cs : List Value}, qc2 F R key es l → R F x cs → ∃ l', qc2 F R key (qdm es (key x) (.agg ⟨cs⟩)) l' ∧ (key x ∉ l.map key → l' = l ++ [x])
 | [], [], x, cs, _, h => ⟨[x], ⟨rfl, ⟨cs, rfl, h⟩, trivial⟩, fun _ => rfl⟩
 | [], _ :: _, _, _, h, _ => h.elim
 | _ :: _, [], _, _, h, _ => h.elim
 | (k, v) :: es, y :: l, x, cs, ⟨h1, h2, h4⟩, h => by
  unfold qdm
  by_cases e : key x = k
  ·rw [if_pos e]
   exact ⟨x :: l, ⟨e.symm, ⟨cs, rfl, h⟩, h4⟩, fun hn => absurd (List.mem_map.2 ⟨y, qaH .., by rw [← h1, e]⟩) hn⟩
  ·rw [if_neg e]
   obtain ⟨l', h5, h6⟩ := qc2.set h4 h
   exact ⟨y :: l', ⟨h1, h2, h5⟩, fun hn => by rw [h6 fun hm => hn (List.mem_cons_of_mem _ hm)]; rfl⟩
def u5p {α : Type} (F : q01) (R : q01 → α → List Value → Prop) (key : α → List UInt8) (b : Nat) (l : List α) : Prop := ∃ es, F b = some (qhz kS es) ∧ qc2 F R key es l
theorem u5p.mono {α : Type} {F F' : q01} {R : q01 → α → List Value → Prop} {key : α → List UInt8} [hR : Mon R] (hF : ∀ b o, F b = some o → F' b = some o) {b : Nat} {l : List α} (h : u5p F R key b l) : u5p F' R key b l := by
 obtain ⟨es, h1, h2⟩ := h
 exact ⟨es, hF _ _ h1, h2.mono hF⟩
structure KC where
  nm : List UInt8
  ty : List UInt8
  ps : List (List UInt8)
  pl : Int
  fs : List FD
end Go.De
namespace Go.De
open Go Go.Wk Go.Un
abbrev Ty := List UInt8 × Fo
def idxOf (l : List (List UInt8)) (s : List UInt8) : Int := if s ∈ l then (l.idxOf s : Int) else -1
def u5s (s : List UInt8) : Bool := decide (s.take 1 = [39])
def u58 : List UInt8 := [98, 111, 111, 108]
def uao : List UInt8 := [105, 110, 116]
def u9e : List UInt8 := [98, 105, 103]
def u52 : List UInt8 := [116, 101, 120, 116]
def qvy : List UInt8 := [116, 117, 112, 108, 101]
def qzo (vs : List (List UInt8)) (L : Fo) (nm : List UInt8) : Option Ty := if u5s nm = true ∧ 0 ≤ idxOf vs nm ∧ idxOf vs nm < L.len then L.get? (idxOf vs nm).toNat else none
def qsp (vs : List (List UInt8)) (L : Fo) : Fo → Fo
 | .nil => .nil
 | .cons nm ar r => .cons ((qzo vs L nm).getD (nm, qsp vs L ar)).1 ((qzo vs L nm).getD (nm, qsp vs L ar)).2 (qsp vs L r)
def u1o (vs : List (List UInt8)) (L : Fo) (a : Ty) : Ty := (qzo vs L a.1).getD (a.1, qsp vs L a.2)
theorem q9g (vs : List (List UInt8)) (L : Fo) (nm : List UInt8) (ar r : Fo) : qsp vs L (.cons nm ar r) = .cons (u1o vs L (nm, ar)).1 (u1o vs L (nm, ar)).2 (qsp vs L r) := rfl
theorem qii (vs : List (List UInt8)) (L : Fo) : ∀ l : Fo, (qsp vs L l).len = l.len
 | .nil => rfl
 | .cons nm ar r => by rw [q9g]; simp only [Fo.len, qii vs L r]
def qh3 : Fo → Prop
 | .nil => True
 | .cons _ ar r => ar.len * 40 ≤ 140737488355328 ∧ qh3 ar ∧ qh3 r
theorem qh3.get : ∀ {l : Fo} {k : Nat} {x : Ty}, qh3 l → l.get? k = some x → x.2.len * 40 ≤ 140737488355328 ∧ qh3 x.2
 | .cons nm ar r, 0, x, ⟨h1, h2, _⟩, h => by cases h; exact ⟨h1, h2⟩
 | .cons nm ar r, k + 1, x, ⟨_, _, h3⟩, h => qh3.get h3 h
def qse (a : Ty) : Prop := a.2.len * 40 ≤ 140737488355328 ∧ qh3 a.2
theorem qs4 {vs : List (List UInt8)} {L : Fo} {nm : List UInt8} {t : Ty} (h : qzo vs L nm = some t) : ∃ k, L.get? k = some t := by
 unfold qzo at h
 split at h
 ·exact ⟨_, h⟩
 ·cases h
theorem qh3.put {vs : List (List UInt8)} {L : Fo} (hL : qh3 L) : ∀ {l : Fo}, qh3 l → qh3 (qsp vs L l)
 | .nil, _ => trivial
 | .cons nm ar r, ⟨h1, h2, h3⟩ => by
  rw [q9g]
  have h4 : qse (u1o vs L (nm, ar)) := by
   unfold u1o
   cases hp : qzo vs L nm with
   | none => exact ⟨by show (qsp vs L ar).len * 40 ≤ _; rw [qii]; exact h1, qh3.put hL h2⟩
   | some t => obtain ⟨k, hk⟩ := qs4 hp; exact hL.get hk
  exact ⟨h4.1, h4.2, qh3.put hL h3⟩
theorem qse.put {vs : List (List UInt8)} {L : Fo} (hL : qh3 L) {a : Ty} (h : qse a) : qse (u1o vs L a) := by
 have := qh3.put (vs := vs) hL (l := .cons a.1 a.2 .nil) ⟨h.1, h.2, trivial⟩
 rw [q9g] at this
 exact ⟨this.1, this.2.1⟩
def strs (l : List (List UInt8)) : List Value := l.map fun s => Value.string (bs s)
def twP (pre : List FD) (x : FD) : Bool := decide (x.nm ≠ []) && decide (x.nm ∈ pre.map FD.nm)
def u5l (k : List (List UInt8)) : Fo → Bool
 | .nil => true
 | .cons nm ar r => (if nm = qvy then u5l k ar else decide (nm ∈ k) || u5s nm) && u5l k r
def u9t (k : List (List UInt8)) (a : Ty) : Bool := if a.1 = qvy then u5l k a.2 else decide (a.1 ∈ k) || u5s a.1
def u0n (k : List (List UInt8)) (c : CD) : Bool := c.fs.all fun f => u9t k (f.tn, f.ta)
def u7j (k : List (List UInt8)) (x : TD) : Bool := x.cs.any (u0n k)
def u5w : List (List UInt8) := [u58, uao, u9e, u52]
inductive Rch (l : List TD) : List (List UInt8) → Prop
  | base : Rch l u5w
  | step {k : List (List UInt8)} {x : TD} (h : Rch l k) (hx : x ∈ l) (hn : x.nm ∉ k) (ho : u7j k x = true) : Rch l (k ++ [x.nm])
def Closed (l : List TD) (k : List (List UInt8)) : Prop := ∀ x ∈ l, x.nm ∉ k → u7j k x = false
def qew (c : Nat) : Bool := decide (97 ≤ c ∧ c ≤ 122 ∨ 65 ≤ c ∧ c ≤ 90 ∨ 48 ≤ c ∧ c ≤ 57 ∨ c = 95)
def q3y (s : List UInt8) : Bool := decide (s ≠ [] ∧ s.length ≤ 32 ∧ 97 ≤ (s.getD 0 0).toNat ∧ (s.getD 0 0).toNat ≤ 122) && s.all fun c => qew c.toNat
def qfw : List UInt8 := [48, 49, 50, 51, 52, 53, 54, 55, 56, 57]
def q90 (s : List UInt8) : List UInt8 := Lib.trimPrefix s [45]
def q30 (s : List UInt8) : Bool := !(decide (q90 s = []) || decide (Lib.trimS (q90 s) qfw ≠ []) || decide (((q90 s).getD 0 0).toNat = 48) && decide (s ≠ [48]))
def qeq (s : List UInt8) : Int := if q30 s = true then (q90 s).length else 0
def q8w (s : List UInt8) : Int := Lib.indexByte s 46
def cutA (s : List UInt8) : List UInt8 := if 0 ≤ q8w s then s.take (q8w s).toNat else s
def cutB (s : List UInt8) : List UInt8 := if 0 ≤ q8w s then s.drop ((q8w s).toNat + 1) else []
def cutC (s : List UInt8) : Bool := decide (0 ≤ q8w s)
def q2d : List UInt8 := [116, 114, 117, 101]
def q1f : List UInt8 := [102, 97, 108, 115, 101]
def q16 (h : VH) (n : Nat) : Bool :=
 if h.k = 1 then decide ((h.n = 0 ∨ h.n = 1) ∧ h.s = [] ∧ n = 0)
 else if h.k = 2 then decide (h.s = [] ∧ n = 0)
 else if h.k = 3 then q30 h.s && decide (h.n = 0 ∧ n = 0)
 else if h.k = 4 then decide (h.n = 0 ∧ n = 0)
 else if h.k = 5 then decide (h.n = 0 ∧ h.s = [] ∧ n ≠ 1)
 else if h.k = 6 then decide (h.n = 0) && (q3y (cutA h.s) && ((cutC h.s && q3y (cutB h.s)) || (!cutC h.s && decide (h.s ≠ q2d ∧ h.s ≠ q1f))))
 else false
def q53 (h : VH) (n : Nat) : Bool :=
 if h.k = 3 then decide (qeq h.s ≤ 200) else if h.k = 4 then decide (h.s.length ≤ 4096) else if h.k = 5 then decide (n ≤ 16) else if h.k = 6 then decide (n ≤ 8) else true
def q29 : Vf → Bool
 | .nil => true
 | .cons h L r => (q16 h L.len && q29 L) && q29 r
def q60 : Vf → Bool
 | .nil => true
 | .cons h L r => (q53 h L.len && q60 L) && q60 r
theorem q24 (h : VH) (L r : Vf) : q29 (.cons h L r) = ((q16 h L.len && q29 L) && q29 r) := rfl
theorem q48 (h : VH) (L r : Vf) : q60 (.cons h L r) = ((q53 h L.len && q60 L) && q60 r) := rfl
def qao : Vf → Int → Int → Int
 | .nil, n, _ => n
 | .cons _ L r, n, m => if m ≤ n then n else qao r (max n (qao L 0 (m - 1) + 1)) m
theorem q45 (h : VH) (L r : Vf) (n m : Int) : qao (.cons h L r) n m = if m ≤ n then n else qao r (max n (qao L 0 (m - 1) + 1)) m := rfl
theorem q67 : ∀ (l : Vf) (n m : Int), 0 ≤ n → n ≤ qao l n m ∧ qao l n m ≤ n + l.size
 | .nil, n, m, h => ⟨Int.le_refl _, by show n ≤ n + _; omega⟩
 | .cons h L r, n, m, hn => by
  rw [q45]
  split
  ·exact ⟨Int.le_refl _, by omega⟩
  ·have h1 := q67 L 0 (m - 1) (Int.le_refl _)
   have h2 := q67 r (max n (qao L 0 (m - 1) + 1)) m (by omega)
   have h3 : (q1d.cons h L r).size = L.size + r.size + 1 := rfl
   constructor <;> omega
theorem q93 : ∀ (l : Vf) (n m : Int), 0 ≤ n → qao l n m ≤ max n (max m 0)
 | .nil, n, m, h => by show n ≤ _; omega
 | .cons h L r, n, m, hn => by
  rw [q45]
  split
  ·omega
  ·have h1 := q93 L 0 (m - 1) (Int.le_refl _)
   have h2 := q93 r (max n (qao L 0 (m - 1) + 1)) m (by have := (q67 L 0 (m - 1) (Int.le_refl _)).1; omega)
   omega
def q2e (h : VH) (L : Vf) : Int := if 64 < qao L 0 65 + 1 then 65 else if (q16 h L.len && q29 L) = false then 4 else if (q53 h L.len && q60 L) = false then 40 else 0
def qb3 (b : Nat) : Vf → Prop
 | .nil => True
 | .cons h L r => h.s.length ≤ b ∧ qb3 b L ∧ qb3 b r
theorem qb3.get {b : Nat} : ∀ {l : Vf} {k : Nat} {x : VH × Vf}, qb3 b l → l.get? k = some x → x.1.s.length ≤ b ∧ qb3 b x.2
 | .cons h L r, 0, x, ⟨h1, h2, _⟩, e => by cases e; exact ⟨h1, h2⟩
 | .cons h L r, k + 1, x, ⟨_, _, h3⟩, e => qb3.get (l := r) h3 e
