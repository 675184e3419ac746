/- Values: what may be, and what is of which type, in plain Lean. -/
import Derived.Test.YtoaodbclgeeaeaaGreatDoorDeS
import Derived.Lib.SlTrimSet
import Derived.Shelf.Strings.Prefix
import Derived.Lib.Bytealg
namespace Go.De
open Go Go.Wk Go.Un
set_option linter.unusedSimpArgs false
set_option linter.unusedVariables false

def nameN (c : Nat) : Bool := decide (97 ≤ c ∧ c ≤ 122 ∨ 65 ≤ c ∧ c ≤ 90 ∨ 48 ≤ c ∧ c ≤ 57 ∨ c = 95)
/-- Is a text a name? -/
def nameS (s : List UInt8) : Bool := decide (s ≠ [] ∧ s.length ≤ 32 ∧ 97 ≤ (s.getD 0 0).toNat ∧ (s.getD 0 0).toNat ≤ 122) && s.all fun c => nameN c.toNat
def digS : List UInt8 := [48, 49, 50, 51, 52, 53, 54, 55, 56, 57]
def numD (s : List UInt8) : List UInt8 := Lib.trimPrefix s [45]
def numOK (s : List UInt8) : Bool := !(decide (numD s = []) || decide (Lib.trimS (numD s) digS ≠ []) || decide (((numD s).getD 0 0).toNat = 48) && decide (s ≠ [48]))
def numN (s : List UInt8) : Int := if numOK s = true then (numD s).length else 0
/-- A text ahead of its first point, behind it, and whether there is one. -/
def cutI (s : List UInt8) : Int := Lib.indexByte s 46
def cutA (s : List UInt8) : List UInt8 := if 0 ≤ cutI s then s.take (cutI s).toNat else s
def cutB (s : List UInt8) : List UInt8 := if 0 ≤ cutI s then s.drop ((cutI s).toNat + 1) else []
def cutC (s : List UInt8) : Bool := decide (0 ≤ cutI s)
def sTrue : List UInt8 := [116, 114, 117, 101]
def sFalse : List UInt8 := [102, 97, 108, 115, 101]
def formH (h : VH) (n : Nat) : Bool :=
  if h.k = 1 then decide ((h.n = 0 ∨ h.n = 1) ∧ h.s = [] ∧ n = 0)
  else if h.k = 2 then decide (h.s = [] ∧ n = 0)
  else if h.k = 3 then numOK h.s && decide (h.n = 0 ∧ n = 0)
  else if h.k = 4 then decide (h.n = 0 ∧ n = 0)
  else if h.k = 5 then decide (h.n = 0 ∧ h.s = [] ∧ n ≠ 1)
  else if h.k = 6 then decide (h.n = 0) && (nameS (cutA h.s) && ((cutC h.s && nameS (cutB h.s)) || (!cutC h.s && decide (h.s ≠ sTrue ∧ h.s ≠ sFalse))))
  else false
def fitsH (h : VH) (n : Nat) : Bool :=
  if h.k = 3 then decide (numN h.s ≤ 200) else if h.k = 4 then decide (h.s.length ≤ 4096) else if h.k = 5 then decide (n ≤ 16) else if h.k = 6 then decide (n ≤ 8) else true
def formL : Vf → Bool
  | .nil => true
  | .cons h L r => (formH h L.len && formL L) && formL r
def fitsL : Vf → Bool
  | .nil => true
  | .cons h L r => (fitsH h L.len && fitsL L) && fitsL r
theorem formL_cons (h : VH) (L r : Vf) : formL (.cons h L r) = ((formH h L.len && formL L) && formL r) := rfl
theorem fitsL_cons (h : VH) (L r : Vf) : fitsL (.cons h L r) = ((fitsH h L.len && fitsL L) && fitsL r) := rfl
def depV : Vf → Int → Int → Int
  | .nil, n, _ => n
  | .cons _ L r, n, m => if m ≤ n then n else depV r (max n (depV L 0 (m - 1) + 1)) m
theorem depV_cons (h : VH) (L r : Vf) (n m : Int) : depV (.cons h L r) n m = if m ≤ n then n else depV r (max n (depV L 0 (m - 1) + 1)) m := rfl
theorem depV_bd : ∀ (l : Vf) (n m : Int), 0 ≤ n → n ≤ depV l n m ∧ depV l n m ≤ n + l.size
  | .nil, n, m, h => ⟨Int.le_refl _, by show n ≤ n + _; omega⟩
  | .cons h L r, n, m, hn => by
    rw [depV_cons]
    split
    · exact ⟨Int.le_refl _, by omega⟩
    · have h1 := depV_bd L 0 (m - 1) (Int.le_refl _)
      have h2 := depV_bd r (max n (depV L 0 (m - 1) + 1)) m (by omega)
      have h3 : (Rose.cons h L r).size = L.size + r.size + 1 := rfl
      constructor <;> omega
/-- May a value be? -/
def checkV (h : VH) (L : Vf) : Int := if 64 < depV L 0 65 + 1 then 65 else if (formH h L.len && formL L) = false then 4 else if (fitsH h L.len && fitsL L) = false then 40 else 0
/-- All texts in a value are short. -/
def ShortV (b : Nat) : Vf → Prop
  | .nil => True
  | .cons h L r => h.s.length ≤ b ∧ ShortV b L ∧ ShortV b r
theorem ShortV.get {b : Nat} : ∀ {l : Vf} {k : Nat} {x : VH × Vf}, ShortV b l → l.get? k = some x → x.1.s.length ≤ b ∧ ShortV b x.2
  | .cons h L r, 0, x, ⟨h1, h2, _⟩, e => by cases e; exact ⟨h1, h2⟩
  | .cons h L r, k + 1, x, ⟨_, _, h3⟩, e => ShortV.get (l := r) h3 e
/-! ### what is of which type -/
def tysOf : Fo → List Ty
  | .nil => []
  | .cons nm ar r => (nm, ar) :: tysOf r
def eq2 {α : Type} (p : VH → Vf → α → Bool) : Vf → List α → Bool
  | .nil, [] => true
  | .cons h L r, t :: ts => p h L t && eq2 p r ts
  | _, _ => false
theorem eq2_len {α : Type} (p : VH → Vf → α → Bool) : ∀ (l : Vf) (m : List α), l.len ≠ m.length → eq2 p l m = false
  | .nil, [], h => absurd rfl h
  | .nil, _ :: _, _ => rfl
  | .cons _ _ _, [], _ => rfl
  | .cons h L r, t :: ts, hl => by
    show (p h L t && eq2 p r ts) = false
    rw [eq2_len p r ts (by intro e; apply hl; simp only [Rose.len, List.length_cons]; omega), Bool.and_false]
def isAll (css : List KC) : Vf → List Ty → Bool
  | .nil, ts => decide (ts.length = 0)
  | .cons _ _ _, [] => false
  | .cons h L r, t :: ts => (if h.k = 1 then decide (t.1 = sBool) else if h.k = 2 then decide (t.1 = sInt) else if h.k = 3 then decide (t.1 = sBig) else if h.k = 4 then decide (t.1 = sText)
      else if h.k = 5 then decide (t.1 = sTuple) && isAll css L (tysOf t.2)
      else match findC css h.s with
        | none => false
        | some c => decide (c.ty = t.1) && isAll css L (c.fs.map fun f => putT c.ps t.2 (f.tn, f.ta))) && isAll css r ts
/-- Is a value that may be of a type? -/
def isT (css : List KC) (h : VH) (L : Vf) (t : Ty) : Bool := if h.k = 1 then decide (t.1 = sBool) else if h.k = 2 then decide (t.1 = sInt) else if h.k = 3 then decide (t.1 = sBig) else if h.k = 4 then decide (t.1 = sText)
      else if h.k = 5 then decide (t.1 = sTuple) && isAll css L (tysOf t.2)
      else match findC css h.s with
        | none => false
        | some c => decide (c.ty = t.1) && isAll css L (c.fs.map fun f => putT c.ps t.2 (f.tn, f.ta))
theorem isAll_cons (css : List KC) (h : VH) (L r : Vf) (t : Ty) (ts : List Ty) : isAll css (.cons h L r) (t :: ts) = (isT css h L t && isAll css r ts) := rfl
theorem isAll_eq (css : List KC) : ∀ (l : Vf) (ts : List Ty), isAll css l ts = eq2 (isT css) l ts
  | .nil, [] => rfl
  | .nil, _ :: _ => rfl
  | .cons _ _ _, [] => rfl
  | .cons h L r, t :: ts => by rw [isAll_cons, isAll_eq css r ts]; rfl
theorem eq2_map {α β : Type} (p : VH → Vf → β → Bool) (f : α → β) : ∀ (l : Vf) (m : List α), eq2 p l (m.map f) = eq2 (fun h L x => p h L (f x)) l m
  | .nil, [] => rfl
  | .nil, _ :: _ => rfl
  | .cons _ _ _, [] => rfl
  | .cons h L r, x :: m => by show (_ && eq2 p r (m.map f)) = (_ && eq2 _ r m); rw [eq2_map p f r m]
theorem tysOf_len : ∀ l : Fo, (tysOf l).length = l.len
  | .nil => rfl
  | .cons nm ar r => by show (tysOf r).length + 1 = r.len + 1; rw [tysOf_len r]
theorem tysOf_get : ∀ (l : Fo) (k : Nat), (tysOf l)[k]? = l.get? k
  | .nil, _ => rfl
  | .cons nm ar r, 0 => rfl
  | .cons nm ar r, k + 1 => by show (tysOf r)[k]? = r.get? k; exact tysOf_get r k
/-- Is a type used well, without parameters? -/
def wellT (ts : List TD) (t : Ty) : Bool := decide (useT ts t = 0) && !openT t
def isF (ts : List TD) (css : List KC) (h : VH) (L : Vf) (t : Ty) : Bool := wellT ts t && (decide (checkV h L = 0) && isT css h L t)
def rowE (ts : List TD) (css : List KC) (rs : List RD) (s : List UInt8) (l : Vf) : Int := match findR rs s with
  | none => 63
  | some r => if eq2 (fun h L (f : FD) => isF ts css h L (f.tn, f.ta)) l r.fs = false then 70 else 0
def menL (nm : List UInt8) : Fo → Bool
  | .nil => false
  | .cons n ar r => (decide (n = nm) || menL nm ar) || menL nm r
def menT (nm : List UInt8) (t : Ty) : Bool := decide (t.1 = nm) || menL nm t.2
def hldH (nm : List UInt8) (h : VH) : Bool := decide (h.k = 6) && decide (h.s = nm)
def hldL (nm : List UInt8) : Vf → Bool
  | .nil => false
  | .cons h L r => (hldH nm h || hldL nm L) || hldL nm r
def hldV (nm : List UInt8) (h : VH) (L : Vf) : Bool := hldH nm h || hldL nm L
theorem menL_cons (nm n : List UInt8) (ar r : Fo) : menL nm (.cons n ar r) = (menT nm (n, ar) || menL nm r) := rfl
theorem hldL_cons (nm : List UInt8) (h : VH) (L r : Vf) : hldL nm (.cons h L r) = (hldV nm h L || hldL nm r) := rfl
end Go.De
