/- Roots of a forest of parents; halved paths. -/
import Derived.Test.YtcjnmehpkcblfaaDoorUn
namespace Go.Un
open Go Go.Wk
set_option linter.unusedSimpArgs false
set_option linter.unusedVariables false

/-- k steps up from i stands r, which is its own parent. -/
def RootN (pa : List Nat) : Nat → Nat → Nat → Prop
  | 0, i, r => i = r ∧ pa[i]? = some i
  | k + 1, i, r => ∃ j, pa[i]? = some j ∧ j ≠ i ∧ RootN pa k j r
theorem RootN.det {pa : List Nat} : ∀ {k k' i r r' : Nat}, RootN pa k i r → RootN pa k' i r' → k = k' ∧ r = r'
  | 0, 0, i, r, r', ⟨h1, _⟩, ⟨h2, _⟩ => ⟨rfl, h1.symm.trans h2⟩
  | 0, k' + 1, i, r, r', ⟨h1, h3⟩, ⟨j, h2, h4, _⟩ => by rw [h3] at h2; cases h2; exact absurd rfl h4
  | k + 1, 0, i, r, r', ⟨j, h2, h4, _⟩, ⟨h1, h3⟩ => by rw [h3] at h2; cases h2; exact absurd rfl h4
  | k + 1, k' + 1, i, r, r', ⟨j, h2, h4, h5⟩, ⟨j', h2', h4', h5'⟩ => by
    rw [h2] at h2'; cases h2'
    obtain ⟨h6, h7⟩ := RootN.det h5 h5'
    exact ⟨by omega, h7⟩
theorem RootN.root {pa : List Nat} : ∀ {k i r : Nat}, RootN pa k i r → pa[r]? = some r
  | 0, i, r, ⟨h1, h2⟩ => by subst h1; exact h2
  | k + 1, i, r, ⟨j, _, _, h⟩ => RootN.root h
theorem RootN.lt {pa : List Nat} {k i r : Nat} (h : RootN pa k i r) : i < pa.length := by
  cases k with
  | zero => exact (List.getElem?_eq_some_iff.1 h.2).1
  | succ k => obtain ⟨j, h1, _⟩ := h; exact (List.getElem?_eq_some_iff.1 h1).1
/-- The path from i is halved. -/
theorem halve {pa : List Nat} {i j g k r : Nat} (hi : pa[i]? = some j) (hj : pa[j]? = some g) (hr : RootN pa (k + 1) i r) : ∀ (m x r' : Nat), RootN pa m x r' → ∃ m', m' ≤ m ∧ RootN (pa.set i g) m' x r' := by
  have hil := (List.getElem?_eq_some_iff.1 hi).1
  intro m
  induction m using Nat.strongRecOn with
  | _ m ih =>
  intro x r' hx
  have hji : j ≠ i := by obtain ⟨j', h1, h2, _⟩ := hr; rw [hi] at h1; cases h1; exact h2
  by_cases hxi : x = i
  · subst hxi
    cases m with
    | zero => obtain ⟨h1, h2⟩ := hx; rw [hi] at h2; cases h2; exact absurd rfl hji
    | succ m =>
      obtain ⟨j', h1, h2, h3⟩ := hx
      rw [hi] at h1; cases h1
      cases m with
      | zero =>
        obtain ⟨h4, h5⟩ := h3
        rw [hj] at h5; cases h5
        refine ⟨1, Nat.le_refl _, _, by rw [List.getElem?_set_self hil], hji, h4, ?_⟩
        rw [List.getElem?_set_ne (Ne.symm hji)]; exact hj
      | succ m =>
        obtain ⟨g', h4, h5, h6⟩ := h3
        rw [hj] at h4; cases h4
        obtain ⟨m', h7, h8⟩ := ih m (by omega) _ _ h6
        have hgx : g ≠ x := fun e => by
          subst e
          have := (RootN.det h6 (k := m) (k' := m + 2) (r' := r') ⟨j, hi, hji, _, hj, h5, h6⟩).1
          omega
        exact ⟨m' + 1, by omega, _, by rw [List.getElem?_set_self hil], hgx, h8⟩
  · cases m with
    | zero =>
      obtain ⟨h1, h2⟩ := hx
      exact ⟨0, Nat.le_refl _, h1, by rw [List.getElem?_set_ne (Ne.symm hxi)]; exact h2⟩
    | succ m =>
      obtain ⟨y, h1, h2, h3⟩ := hx
      obtain ⟨m', h7, h8⟩ := ih m (by omega) _ _ h3
      exact ⟨m' + 1, by omega, y, by rw [List.getElem?_set_ne (Ne.symm hxi)]; exact h1, h2, h8⟩
def Pars (pa pa' : List Nat) : Prop := pa'.length = pa.length ∧ ∀ m x r, RootN pa m x r → ∃ m', m' ≤ m ∧ RootN pa' m' x r
theorem Pars.refl (pa : List Nat) : Pars pa pa := ⟨rfl, fun m x r h => ⟨m, Nat.le_refl _, h⟩⟩
theorem Pars.trans {a b c : List Nat} (h1 : Pars a b) (h2 : Pars b c) : Pars a c := ⟨h2.1.trans h1.1, fun m x r h => by
  obtain ⟨m', h3, h4⟩ := h1.2 m x r h
  obtain ⟨m2, h5, h6⟩ := h2.2 m' x r h4
  exact ⟨m2, by omega, h6⟩⟩
theorem find_step {pa : List Nat} {i j g k r : Nat} (hi : pa[i]? = some j) (hji : j ≠ i) (hr : RootN pa k i r) (hj : pa[j]? = some g) : ∃ m', m' < k ∧ RootN (pa.set i g) m' g r ∧ Pars pa (pa.set i g) := by
  cases k with
  | zero => obtain ⟨h1, h2⟩ := hr; rw [hi] at h2; cases h2; exact absurd rfl hji
  | succ k =>
    have hr0 := hr
    have hh := halve hi hj hr0
    obtain ⟨j', h1, _, h3⟩ := hr
    rw [hi] at h1; cases h1
    have hg : ∃ q, q ≤ k ∧ RootN pa q g r := by
      cases k with
      | zero => obtain ⟨h4, h5⟩ := h3; rw [hj] at h5; cases h5; exact ⟨0, Nat.le_refl _, h4, hj⟩
      | succ k => obtain ⟨g', h4, _, h6⟩ := h3; rw [hj] at h4; cases h4; exact ⟨k, by omega, h6⟩
    obtain ⟨q, hq, hg⟩ := hg
    obtain ⟨m', h7, h8⟩ := hh q g r hg
    exact ⟨m', by omega, h8, List.length_set .., hh⟩
end Go.Un
