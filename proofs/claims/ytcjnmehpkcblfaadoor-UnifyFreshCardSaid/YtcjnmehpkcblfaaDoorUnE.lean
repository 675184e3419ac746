/- What stands in a class, resolved; how much of it may be told. -/
import Derived.Test.YtcjnmehpkcblfaaDoorUnD
namespace Go.Un
open Go Go.Wk
set_option linter.unusedSimpArgs false
set_option linter.unusedVariables false

/-- The types that stand in classes. -/
def ResL (nd : Nds) (A : Ab) : Fo → List Nat → Prop
  | .nil, js => js = []
  | .cons nm ar r, js => ∃ i is, js = i :: is ∧ ((A.st (A.rt i) < 0 ∧ nm = A.le (A.rt i) ∧ ar = .nil) ∨ (∃ ks, 0 ≤ A.st (A.rt i) ∧ nd[(A.st (A.rt i)).toNat]? = some (nm, ks) ∧ ResL nd A ar ks)) ∧ ResL nd A r is
def Res (nd : Nds) (A : Ab) (i : Nat) (nm : List UInt8) (ar : Fo) : Prop := (A.st (A.rt i) < 0 ∧ nm = A.le (A.rt i) ∧ ar = .nil) ∨ (∃ ks, 0 ≤ A.st (A.rt i) ∧ nd[(A.st (A.rt i)).toNat]? = some (nm, ks) ∧ ResL nd A ar ks)
theorem ResL.len {nd : Nds} {A : Ab} : ∀ {l : Fo} {js : List Nat}, ResL nd A l js → js.length = l.len
  | .nil, js, h => by rw [show js = [] from h]; rfl
  | .cons nm ar r, js, ⟨i, is, e, _, h⟩ => by rw [e]; simp [Fo.len, ResL.len h]
theorem ResL.get {nd : Nds} {A : Ab} : ∀ {l : Fo} {js : List Nat} {k : Nat} {x}, ResL nd A l js → l.get? k = some x → ∃ i, js[k]? = some i ∧ Res nd A i x.1 x.2
  | .cons nm ar r, js, 0, x, ⟨i, is, e, h1, h2⟩, hx => by cases hx; subst e; exact ⟨i, rfl, h1⟩
  | .cons nm ar r, js, k + 1, x, ⟨i, is, e, h1, h2⟩, hx => by
    subst e
    obtain ⟨j, h3, h4⟩ := ResL.get h2 hx
    exact ⟨j, by simpa using h3, h4⟩
theorem Fo.app_nil : ∀ l : Fo, l.app .nil = l
  | .nil => rfl
  | .cons nm ar r => by show Fo.cons nm ar (r.app .nil) = _; rw [Fo.app_nil r]
theorem Fo.app_assoc : ∀ l m n : Fo, (l.app m).app n = l.app (m.app n)
  | .nil, _, _ => rfl
  | .cons nm ar r, m, n => by show Fo.cons nm ar ((r.app m).app n) = .cons nm ar (r.app (m.app n)); rw [Fo.app_assoc r]
def wholeL : Fo → Int → Int → Bool × Int
  | .nil, _, n => (true, n)
  | .cons _ ar r, d, n =>
    let x := if n - 1 < 0 ∨ 64 < d then (false, n - 1) else wholeL ar (d + 1) (n - 1)
    if x.1 = true then wholeL r d x.2 else (false, x.2)
def wholeT (ar : Fo) (d n : Int) : Bool × Int := if n - 1 < 0 ∨ 64 < d then (false, n - 1) else wholeL ar (d + 1) (n - 1)
theorem wholeL_cons (nm : List UInt8) (ar r : Fo) (d n : Int) : wholeL (.cons nm ar r) d n = if (wholeT ar d n).1 = true then wholeL r d (wholeT ar d n).2 else (false, (wholeT ar d n).2) := by
  conv => lhs; unfold wholeL
  rfl
theorem wholeL_bd : ∀ (l : Fo) (d n : Int), (wholeL l d n).2 ≤ n ∧ (0 ≤ n → (wholeL l d n).1 = true → 0 ≤ (wholeL l d n).2)
  | .nil, _, n => ⟨Int.le_refl _, fun h _ => h⟩
  | .cons nm ar r, d, n => by
    have h1 : (wholeT ar d n).2 ≤ n ∧ ((wholeT ar d n).1 = true → 0 ≤ (wholeT ar d n).2) := by
      have := wholeL_bd ar (d + 1) (n - 1)
      unfold wholeT
      split
      · exact ⟨by show n - 1 ≤ n; omega, fun h => by cases h⟩
      · rename_i h
        have h5 : 0 ≤ n - 1 := by rcases Int.lt_or_le (n - 1) 0 with h9 | h9; exact absurd (.inl h9) h; exact h9
        exact ⟨by omega, this.2 h5⟩
    rw [wholeL_cons]
    split
    · rename_i h
      have h2 := wholeL_bd r d (wholeT ar d n).2
      exact ⟨by omega, fun _ h3 => h2.2 (h1.2 h) h3⟩
    · exact ⟨h1.1, fun _ h => by cases h⟩
theorem wholeT_le (ar : Fo) (d n : Int) : (wholeT ar d n).2 ≤ n - 1 := by
  have := (wholeL_bd ar (d + 1) (n - 1)).1
  unfold wholeT
  split
  · exact Int.le_refl _
  · exact this
theorem wholeT_pos {ar : Fo} {d n : Int} (h : (wholeT ar d n).1 = true) : 0 ≤ (wholeT ar d n).2 := by
  unfold wholeT at h ⊢
  split at h
  · cases h
  · rename_i h4
    rw [if_neg h4]
    have h5 : 0 ≤ n - 1 := by rcases Int.lt_or_le (n - 1) 0 with h9 | h9; exact absurd (.inl h9) h4; exact h9
    exact (wholeL_bd ar (d + 1) (n - 1)).2 h5 h
theorem wholeT_out {ar : Fo} {d n : Int} (h : n - 1 < 0 ∨ 64 < d) : wholeT ar d n = (false, n - 1) := if_pos h
theorem wholeT_in {ar : Fo} {d n : Int} (h : ¬ (n - 1 < 0 ∨ 64 < d)) : wholeT ar d n = wholeL ar (d + 1) (n - 1) := if_neg h
end Go.Un
