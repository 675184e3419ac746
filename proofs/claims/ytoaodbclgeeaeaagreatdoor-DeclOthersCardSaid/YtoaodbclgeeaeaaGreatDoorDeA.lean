/- What the declared types' functions say of types, in plain Lean: parameters, types put in their place. -/
import Derived.Test.YtoaodbclgeeaeaaGreatDoorDe
namespace Go.De
open Go Go.Wk Go.Un
set_option linter.unusedSimpArgs false
set_option linter.unusedVariables false

abbrev Ty := List UInt8 × Fo
def idxOf (l : List (List UInt8)) (s : List UInt8) : Int := if s ∈ l then (l.idxOf s : Int) else -1
/-- Is a name a parameter's? -/
def parS (s : List UInt8) : Bool := decide (s.take 1 = [39])
theorem parS_ref (s : List UInt8) : parS s = (decide (s ≠ []) && decide ((s.getD 0 0).toNat = 39)) := by
  cases s with
  | nil => rfl
  | cons x r =>
    unfold parS
    rw [Bool.eq_iff_iff]
    simp
    constructor
    · intro h; subst h; rfl
    · intro h; exact UInt8.toNat_inj.1 h
def sBool : List UInt8 := [98, 111, 111, 108]
def sInt : List UInt8 := [105, 110, 116]
def sBig : List UInt8 := [98, 105, 103]
def sText : List UInt8 := [116, 101, 120, 116]
def sTuple : List UInt8 := [116, 117, 112, 108, 101]
def plainS (s : List UInt8) : Bool := decide (s = sBool) || decide (s = sInt) || decide (s = sBig) || decide (s = sText)
/-- What is put in a name's place. -/
def putA (vs : List (List UInt8)) (L : Fo) (nm : List UInt8) : Option Ty := if parS nm = true ∧ 0 ≤ idxOf vs nm ∧ idxOf vs nm < L.len then L.get? (idxOf vs nm).toNat else none
def putL (vs : List (List UInt8)) (L : Fo) : Fo → Fo
  | .nil => .nil
  | .cons nm ar r => .cons ((putA vs L nm).getD (nm, putL vs L ar)).1 ((putA vs L nm).getD (nm, putL vs L ar)).2 (putL vs L r)
def putT (vs : List (List UInt8)) (L : Fo) (a : Ty) : Ty := (putA vs L a.1).getD (a.1, putL vs L a.2)
theorem putL_cons (vs : List (List UInt8)) (L : Fo) (nm : List UInt8) (ar r : Fo) : putL vs L (.cons nm ar r) = .cons (putT vs L (nm, ar)).1 (putT vs L (nm, ar)).2 (putL vs L r) := rfl
theorem putL_len (vs : List (List UInt8)) (L : Fo) : ∀ l : Fo, (putL vs L l).len = l.len
  | .nil => rfl
  | .cons nm ar r => by rw [putL_cons]; simp only [Fo.len, putL_len vs L r]
/-- No list of parts is too long for memory. -/
def Thin : Fo → Prop
  | .nil => True
  | .cons _ ar r => ar.len * 40 ≤ 140737488355328 ∧ Thin ar ∧ Thin r
theorem Thin.get : ∀ {l : Fo} {k : Nat} {x : Ty}, Thin l → l.get? k = some x → x.2.len * 40 ≤ 140737488355328 ∧ Thin x.2
  | .cons nm ar r, 0, x, ⟨h1, h2, _⟩, h => by cases h; exact ⟨h1, h2⟩
  | .cons nm ar r, k + 1, x, ⟨_, _, h3⟩, h => Thin.get h3 h
def ThinT (a : Ty) : Prop := a.2.len * 40 ≤ 140737488355328 ∧ Thin a.2
theorem putA_get {vs : List (List UInt8)} {L : Fo} {nm : List UInt8} {t : Ty} (h : putA vs L nm = some t) : ∃ k, L.get? k = some t := by
  unfold putA at h
  split at h
  · exact ⟨_, h⟩
  · cases h
theorem Thin.put {vs : List (List UInt8)} {L : Fo} (hL : Thin L) : ∀ {l : Fo}, Thin l → Thin (putL vs L l)
  | .nil, _ => trivial
  | .cons nm ar r, ⟨h1, h2, h3⟩ => by
    rw [putL_cons]
    have h4 : ThinT (putT vs L (nm, ar)) := by
      unfold putT
      cases hp : putA vs L nm with
      | none => exact ⟨by show (putL vs L ar).len * 40 ≤ _; rw [putL_len]; exact h1, Thin.put hL h2⟩
      | some t => obtain ⟨k, hk⟩ := putA_get hp; exact hL.get hk
    exact ⟨h4.1, h4.2, Thin.put hL h3⟩
theorem ThinT.put {vs : List (List UInt8)} {L : Fo} (hL : Thin L) {a : Ty} (h : ThinT a) : ThinT (putT vs L a) := by
  have := Thin.put (vs := vs) hL (l := .cons a.1 a.2 .nil) ⟨h.1, h.2, trivial⟩
  rw [putL_cons] at this
  exact ⟨this.1, this.2.1⟩
def depthL : Fo → Nat
  | .nil => 0
  | .cons nm ar r => max (depthL ar + 1) (depthL r)
def depthT (a : Ty) : Nat := depthL a.2 + 1
theorem depthL_le : ∀ l : Fo, depthL l ≤ l.size
  | .nil => Nat.le_refl _
  | .cons nm ar r => by have := depthL_le ar; have := depthL_le r; simp only [depthL, Fo.size]; omega
/-- Is something so of one of them? -/
def anyF (p : Ty → Bool) : Fo → Bool
  | .nil => false
  | .cons nm ar r => p (nm, ar) || anyF p r
theorem anyF_cons (p : Ty → Bool) (nm : List UInt8) (ar r : Fo) : anyF p (.cons nm ar r) = (p (nm, ar) || anyF p r) := rfl
/-- .. or of one within them? -/
def wiL (p : Ty → Bool) : Fo → Bool
  | .nil => false
  | .cons nm ar r => (p (nm, ar) || wiL p ar) || wiL p r
def wiT (p : Ty → Bool) (a : Ty) : Bool := p a || wiL p a.2
theorem anyF_wi (p : Ty → Bool) : ∀ l : Fo, anyF (wiT p) l = wiL p l
  | .nil => rfl
  | .cons nm ar r => by rw [anyF_cons, anyF_wi p r]; rfl
def openT (a : Ty) : Bool := wiT (fun y => parS y.1) a
def findT (ts : List TD) (s : List UInt8) : Option TD := ts.find? fun x => decide (s = x.nm)
def declS (ts : List TD) (s : List UInt8) : Bool := (findT ts s).isSome
def parN (ts : List TD) (s : List UInt8) : Nat := match findT ts s with | some x => x.ps.length | none => 0
def countsT (ts : List TD) (a : Ty) : Bool := if plainS a.1 = true ∨ parS a.1 = true then decide (a.2.len = 0) else if a.1 = sTuple then decide (a.2.len ≠ 1) && decide (a.2.len ≤ 16) else decide (a.2.len = parN ts a.1)
def nameT (ts : List TD) (y : Ty) : Bool := !plainS y.1 && !parS y.1 && !decide (y.1 = sTuple) && !declS ts y.1
def growT (ts : List TD) (y : Ty) : Bool := declS ts y.1 && anyF (fun z => !parS z.1 && openT z) y.2
/-- What is wrong with a type that is used. -/
def useT (ts : List TD) (a : Ty) : Int := if 64 < depthT a then 65 else if wiT (nameT ts) a = true then 63 else if wiT (fun y => !countsT ts y) a = true then 70 else if wiT (growT ts) a = true then 72 else 0
theorem fo_app_nil : ∀ l : Fo, l.app .nil = l
  | .nil => rfl
  | .cons nm ar r => by show Fo.cons nm ar (r.app .nil) = _; rw [fo_app_nil r]
theorem fo_app_assoc : ∀ (l m k : Fo), (l.app m).app k = l.app (m.app k)
  | .nil, m, k => rfl
  | .cons nm ar r, m, k => by show Fo.cons nm ar ((r.app m).app k) = Fo.cons nm ar (r.app (m.app k)); rw [fo_app_assoc r m k]
def strs (l : List (List UInt8)) : List Value := l.map fun s => Value.string (bs s)
theorem strs_len (l : List (List UInt8)) : (strs l).length = l.length := List.length_map _
theorem st_nil2 {n : Sz} {L : List (Nat × Value)} {w0 : World} {F0 : Heap} {K0 : List Nat} {F : Heap} {g : Grp} {G : List Grp} {a : Act} {w : World} (S : St n L w0 F0 K0 F (g :: G) a w) : St n L w0 F0 K0 F (g :: [] :: G) a w :=
  ⟨S.fr, S.tr.perm (by rw [List.flatten_cons, List.flatten_cons, List.flatten_cons, List.nil_append])⟩
theorem _root_.Go.Wk.St.rotG {n : Sz} {L : List (Nat × Value)} {w0 : World} {F0 : Heap} {K0 : List Nat} {F : Heap} {A B : List Grp} {a : Act} {w : World} (S : St n L w0 F0 K0 F (A ++ B) a w) : St n L w0 F0 K0 F (B ++ A) a w :=
  ⟨S.fr, S.tr.perm (by rw [List.flatten_append, List.flatten_append]; exact List.perm_append_comm)⟩
theorem ct_nil {P : Program} {F : Heap} {f : FuncId} {args : List Value} {G : List Grp} {Post : Heap → Value → Prop} (C : Ct P f args F G (fun F' _ v => Post F' v)) : Ct P f args F G (fun F' G' v => Post F' v ∧ G' = []) := fun w hw =>
  (C w hw).mono fun e w' ⟨v, F', G', he, ht, hp⟩ => ⟨v, F', [], he, ht.sub (List.nil_sublist _), hp, rfl⟩
end Go.De
