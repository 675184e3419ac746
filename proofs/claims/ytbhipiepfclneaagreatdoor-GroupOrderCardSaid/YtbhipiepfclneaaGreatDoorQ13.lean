/- Walks. -/
import Derived.Test.YtbhipiepfclneaaGreatDoorQ12
import Derived.Lib.SlTrimSet
import Derived.Shelf.Strings.Prefix
import Derived.Lib.Bytealg
namespace Go.De
open Go Go.Wk Go.Un
set_option linter.unusedSimpArgs false
set_option linter.unusedVariables false
abbrev Ty := List UInt8 × Fo
def idxOf (l : List (List UInt8)) (s : List UInt8) : Int := if s ∈ l then (l.idxOf s : Int) else -1
def parS (s : List UInt8) : Bool := decide (s.take 1 = [39])
def sBool : List UInt8 := [98, 111, 111, 108]
def sInt : List UInt8 := [105, 110, 116]
def sBig : List UInt8 := [98, 105, 103]
def sText : List UInt8 := [116, 101, 120, 116]
def sTuple : List UInt8 := [116, 117, 112, 108, 101]
def putA (vs : List (List UInt8)) (L : Fo) (nm : List UInt8) : Option Ty := if parS nm = true ∧ 0 ≤ idxOf vs nm ∧ idxOf vs nm < L.len then L.get? (idxOf vs nm).toNat else none
def putL (vs : List (List UInt8)) (L : Fo) : Fo → Fo
 | .nil => .nil
 | .cons nm ar r => .cons ((putA vs L nm).getD (nm, putL vs L ar)).1 ((putA vs L nm).getD (nm, putL vs L ar)).2 (putL vs L r)
def putT (vs : List (List UInt8)) (L : Fo) (a : Ty) : Ty := (putA vs L a.1).getD (a.1, putL vs L a.2)
theorem putL_cons (vs : List (List UInt8)) (L : Fo) (nm : List UInt8) (ar r : Fo) : putL vs L (.cons nm ar r) = .cons (putT vs L (nm, ar)).1 (putT vs L (nm, ar)).2 (putL vs L r) := rfl
theorem putL_len (vs : List (List UInt8)) (L : Fo) : ∀ l : Fo, (putL vs L l).len = l.len
 | .nil => rfl
 | .cons nm ar r => by rw [putL_cons]; simp only [Fo.len, putL_len vs L r]
def Thin : Fo → Prop
 | .nil => True
 | .cons _ ar r => ar.len * 40 ≤ 140737488355328 ∧ Thin ar ∧ Thin r
theorem Thin.get : ∀ {l : Fo} {k : Nat} {x : Ty}, Thin l → l.get? k = some x → x.2.len * 40 ≤ 140737488355328 ∧ Thin x.2
 | .cons nm ar r, 0, x, ⟨h1, h2, _⟩, h => by cases h; exact ⟨h1, h2⟩
 | .cons nm ar r, k + 1, x, ⟨_, _, h3⟩, h => Thin.get h3 h
def ThinT (a : Ty) : Prop := a.2.len * 40 ≤ 140737488355328 ∧ Thin a.2
theorem putA_get {vs : List (List UInt8)} {L : Fo} {nm : List UInt8} {t : Ty} (h : putA vs L nm = some t) : ∃ k, L.get? k = some t := by
 unfold putA at h
 split at h
 ·exact ⟨_, h⟩
 ·cases h
theorem Thin.put {vs : List (List UInt8)} {L : Fo} (hL : Thin L) : ∀ {l : Fo}, Thin l → Thin (putL vs L l)
 | .nil, _ => trivial
 | .cons nm ar r, ⟨h1, h2, h3⟩ => by
  rw [putL_cons]
  have h4 : ThinT (putT vs L (nm, ar)) := by
   unfold putT
   cases hp : putA vs L nm with
   | none => exact ⟨by show (putL vs L ar).len * 40 ≤ _; rw [putL_len]; exact h1, Thin.put hL h2⟩
   | some t => obtain ⟨k, hk⟩ := putA_get hp; exact hL.get hk
  exact ⟨h4.1, h4.2, Thin.put hL h3⟩
theorem ThinT.put {vs : List (List UInt8)} {L : Fo} (hL : Thin L) {a : Ty} (h : ThinT a) : ThinT (putT vs L a) := by
 have := Thin.put (vs := vs) hL (l := .cons a.1 a.2 .nil) ⟨h.1, h.2, trivial⟩
 rw [putL_cons] at this
 exact ⟨this.1, this.2.1⟩
def strs (l : List (List UInt8)) : List Value := l.map fun s => Value.string (bs s)
def twP (pre : List FD) (x : FD) : Bool := decide (x.nm ≠ []) && decide (x.nm ∈ pre.map FD.nm)
def hasL (k : List (List UInt8)) : Fo → Bool
 | .nil => true
 | .cons nm ar r => (if nm = sTuple then hasL k ar else decide (nm ∈ k) || parS nm) && hasL k r
def hasT (k : List (List UInt8)) (a : Ty) : Bool := if a.1 = sTuple then hasL k a.2 else decide (a.1 ∈ k) || parS a.1
def consOK (k : List (List UInt8)) (c : CD) : Bool := c.fs.all fun f => hasT k (f.tn, f.ta)
def tyOK (k : List (List UInt8)) (x : TD) : Bool := x.cs.any (consOK k)
def full0 : List (List UInt8) := [sBool, sInt, sBig, sText]
inductive Rch (l : List TD) : List (List UInt8) → Prop
  | base : Rch l full0
  | step {k : List (List UInt8)} {x : TD} (h : Rch l k) (hx : x ∈ l) (hn : x.nm ∉ k) (ho : tyOK k x = true) : Rch l (k ++ [x.nm])
def Closed (l : List TD) (k : List (List UInt8)) : Prop := ∀ x ∈ l, x.nm ∉ k → tyOK k x = false
def nameN (c : Nat) : Bool := decide (97 ≤ c ∧ c ≤ 122 ∨ 65 ≤ c ∧ c ≤ 90 ∨ 48 ≤ c ∧ c ≤ 57 ∨ c = 95)
def nameS (s : List UInt8) : Bool := decide (s ≠ [] ∧ s.length ≤ 32 ∧ 97 ≤ (s.getD 0 0).toNat ∧ (s.getD 0 0).toNat ≤ 122) && s.all fun c => nameN c.toNat
def digS : List UInt8 := [48, 49, 50, 51, 52, 53, 54, 55, 56, 57]
def numD (s : List UInt8) : List UInt8 := Lib.trimPrefix s [45]
def numOK (s : List UInt8) : Bool := !(decide (numD s = []) || decide (Lib.trimS (numD s) digS ≠ []) || decide (((numD s).getD 0 0).toNat = 48) && decide (s ≠ [48]))
def numN (s : List UInt8) : Int := if numOK s = true then (numD s).length else 0
def cutI (s : List UInt8) : Int := Lib.indexByte s 46
def cutA (s : List UInt8) : List UInt8 := if 0 ≤ cutI s then s.take (cutI s).toNat else s
def cutB (s : List UInt8) : List UInt8 := if 0 ≤ cutI s then s.drop ((cutI s).toNat + 1) else []
def cutC (s : List UInt8) : Bool := decide (0 ≤ cutI s)
def sTrue : List UInt8 := [116, 114, 117, 101]
def sFalse : List UInt8 := [102, 97, 108, 115, 101]
def formH (h : VH) (n : Nat) : Bool :=
 if h.k = 1 then decide ((h.n = 0 ∨ h.n = 1) ∧ h.s = [] ∧ n = 0)
 else if h.k = 2 then decide (h.s = [] ∧ n = 0)
 else if h.k = 3 then numOK h.s && decide (h.n = 0 ∧ n = 0)
 else if h.k = 4 then decide (h.n = 0 ∧ n = 0)
 else if h.k = 5 then decide (h.n = 0 ∧ h.s = [] ∧ n ≠ 1)
 else if h.k = 6 then decide (h.n = 0) && (nameS (cutA h.s) && ((cutC h.s && nameS (cutB h.s)) || (!cutC h.s && decide (h.s ≠ sTrue ∧ h.s ≠ sFalse))))
 else false
def fitsH (h : VH) (n : Nat) : Bool :=
 if h.k = 3 then decide (numN h.s ≤ 200) else if h.k = 4 then decide (h.s.length ≤ 4096) else if h.k = 5 then decide (n ≤ 16) else if h.k = 6 then decide (n ≤ 8) else true
def formL : Vf → Bool
 | .nil => true
 | .cons h L r => (formH h L.len && formL L) && formL r
def fitsL : Vf → Bool
 | .nil => true
 | .cons h L r => (fitsH h L.len && fitsL L) && fitsL r
theorem formL_cons (h : VH) (L r : Vf) : formL (.cons h L r) = ((formH h L.len && formL L) && formL r) := rfl
theorem fitsL_cons (h : VH) (L r : Vf) : fitsL (.cons h L r) = ((fitsH h L.len && fitsL L) && fitsL r) := rfl
def depV : Vf → Int → Int → Int
 | .nil, n, _ => n
 | .cons _ L r, n, m => if m ≤ n then n else depV r (max n (depV L 0 (m - 1) + 1)) m
theorem depV_cons (h : VH) (L r : Vf) (n m : Int) : depV (.cons h L r) n m = if m ≤ n then n else depV r (max n (depV L 0 (m - 1) + 1)) m := rfl
theorem depV_bd : ∀ (l : Vf) (n m : Int), 0 ≤ n → n ≤ depV l n m ∧ depV l n m ≤ n + l.size
 | .nil, n, m, h => ⟨Int.le_refl _, by show n ≤ n + _; omega⟩
 | .cons h L r, n, m, hn => by
  rw [depV_cons]
  split
  ·exact ⟨Int.le_refl _, by omega⟩
  ·have h1 := depV_bd L 0 (m - 1) (Int.le_refl _)
   have h2 := depV_bd r (max n (depV L 0 (m - 1) + 1)) m (by omega)
   have h3 : (Rose.cons h L r).size = L.size + r.size + 1 := rfl
   constructor <;> omega
theorem depV_max : ∀ (l : Vf) (n m : Int), 0 ≤ n → depV l n m ≤ max n (max m 0)
 | .nil, n, m, h => by show n ≤ _; omega
 | .cons h L r, n, m, hn => by
  rw [depV_cons]
  split
  ·omega
  ·have h1 := depV_max L 0 (m - 1) (Int.le_refl _)
   have h2 := depV_max r (max n (depV L 0 (m - 1) + 1)) m (by have := (depV_bd L 0 (m - 1) (Int.le_refl _)).1; omega)
   omega
def checkV (h : VH) (L : Vf) : Int := if 64 < depV L 0 65 + 1 then 65 else if (formH h L.len && formL L) = false then 4 else if (fitsH h L.len && fitsL L) = false then 40 else 0
def ShortV (b : Nat) : Vf → Prop
 | .nil => True
 | .cons h L r => h.s.length ≤ b ∧ ShortV b L ∧ ShortV b r
theorem ShortV.get {b : Nat} : ∀ {l : Vf} {k : Nat} {x : VH × Vf}, ShortV b l → l.get? k = some x → x.1.s.length ≤ b ∧ ShortV b x.2
 | .cons h L r, 0, x, ⟨h1, h2, _⟩, e => by cases e; exact ⟨h1, h2⟩
 | .cons h L r, k + 1, x, ⟨_, _, h3⟩, e => ShortV.get (l := r) h3 e
end Go.De
