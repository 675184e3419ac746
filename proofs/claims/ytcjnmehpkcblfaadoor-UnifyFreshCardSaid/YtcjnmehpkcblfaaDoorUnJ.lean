/- What the join of two classes is, in plain words: roots, stands, least names; runs of the list of what is to be joined. -/
import Derived.Test.YtcjnmehpkcblfaaDoorUnR
namespace Go.Un
open Go Go.Wk
set_option linter.unusedSimpArgs false
set_option linter.unusedVariables false

abbrev Nds := List (List UInt8 × List Nat)
structure Ab where
  rt : Nat → Nat
  st : Nat → Int
  le : Nat → List UInt8
def lesserS (s t : List UInt8) : List UInt8 := if s = [] ∨ (t ≠ [] ∧ Op.bytesLess t s = true) then t else s
def upd {α : Type} (f : Nat → α) (k : Nat) (v : α) : Nat → α := fun i => if i = k then v else f i
def Ab.merge (A : Ab) (x y : Nat) : Ab := ⟨fun i => if A.rt i = x then y else A.rt i, upd A.st y (max (A.st x) (A.st y)), upd A.le y (lesserS (A.le x) (A.le y))⟩
/-- The lists of a table say so. -/
structure AbR (n : Nat) (pa : List Nat) (st : List Int) (le : List (List UInt8)) (A : Ab) : Prop where
  pl : pa.length = n
  sl : st.length = n
  ll : le.length = n
  rt : ∀ i, i < n → ∃ k, RootN pa k i (A.rt i)
  st : ∀ i, i < n → st[i]? = some (A.st i)
  le : ∀ i, i < n → le[i]? = some (A.le i)
/-- Everything is within its range. -/
structure AbW (nd : Nds) (A : Ab) : Prop where
  rr : ∀ i, i < nd.length → A.rt i < nd.length ∧ A.rt (A.rt i) = A.rt i
  sv : ∀ i, i < nd.length → A.st i < nd.length
  ch : ∀ (u : Nat) (nm : List UInt8) (ks : List Nat), nd[u]? = some (nm, ks) → (∀ k ∈ ks, k < nd.length) ∧ ks.length ≤ 3000
inductive JRun (nd : Nds) : Ab → List (Nat × Nat) → Bool → Ab → Prop
  | done {A} : JRun nd A [] true A
  | same {A l a b r A'} (h : A.rt a = A.rt b) (h2 : JRun nd A l r A') : JRun nd A (l ++ [(a, b)]) r A'
  | clash {A l a b A' nm ks nm2 ks2} (h : A.rt a ≠ A.rt b) (hu0 : 0 ≤ A.st (A.rt a)) (hv0 : 0 ≤ A.st (A.rt b)) (hu : nd[(A.st (A.rt a)).toNat]? = some (nm, ks)) (hv : nd[(A.st (A.rt b)).toNat]? = some (nm2, ks2)) (hne : nm ≠ nm2 ∨ ks.length ≠ ks2.length) : JRun nd A (l ++ [(a, b)]) false A'
  | var {A l a b r A'} (h : A.rt a ≠ A.rt b) (hs : A.st (A.rt a) < 0 ∨ A.st (A.rt b) < 0) (h2 : JRun nd (A.merge (A.rt a) (A.rt b)) l r A') : JRun nd A (l ++ [(a, b)]) r A'
  | node {A l a b r A' nm ks ks2} (h : A.rt a ≠ A.rt b) (hu0 : 0 ≤ A.st (A.rt a)) (hv0 : 0 ≤ A.st (A.rt b)) (hu : nd[(A.st (A.rt a)).toNat]? = some (nm, ks)) (hv : nd[(A.st (A.rt b)).toNat]? = some (nm, ks2)) (hl : ks.length = ks2.length) (h2 : JRun nd (A.merge (A.rt a) (A.rt b)) (l ++ ks.zip ks2) r A') : JRun nd A (l ++ [(a, b)]) r A'
theorem AbR.find {n : Nat} {pa pa' : List Nat} {st : List Int} {le : List (List UInt8)} {A : Ab} (h : AbR n pa st le A) (hp : Pars pa pa') : AbR n pa' st le A :=
  ⟨hp.1.trans h.pl, h.sl, h.ll, fun i hi => by
    obtain ⟨k, hk⟩ := h.rt i hi
    obtain ⟨k', _, hk'⟩ := hp.2 _ _ _ hk
    exact ⟨k', hk'⟩, h.st, h.le⟩
/-- A root gets another root for its parent. -/
theorem union_root {pa : List Nat} {x y : Nat} (hx : pa[x]? = some x) (hy : pa[y]? = some y) (hxy : x ≠ y) : ∀ (k i r : Nat), RootN pa k i r → ∃ k', RootN (pa.set x y) k' i (if r = x then y else r)
  | 0, i, r, ⟨h1, h2⟩ => by
    subst h1
    have hxl := (List.getElem?_eq_some_iff.1 hx).1
    by_cases h : i = x
    · subst h
      rw [if_pos rfl]
      exact ⟨1, y, List.getElem?_set_self hxl, Ne.symm hxy, rfl, by rw [List.getElem?_set_ne hxy]; exact hy⟩
    · rw [if_neg h]
      exact ⟨0, rfl, by rw [List.getElem?_set_ne (Ne.symm h)]; exact h2⟩
  | k + 1, i, r, ⟨j, h1, h2, h3⟩ => by
    obtain ⟨k', h4⟩ := union_root hx hy hxy k j r h3
    have hix : i ≠ x := fun e => by subst e; rw [hx] at h1; cases h1; exact h2 rfl
    exact ⟨k' + 1, j, by rw [List.getElem?_set_ne (Ne.symm hix)]; exact h1, h2, h4⟩
theorem AbR.self {n : Nat} {pa : List Nat} {st : List Int} {le : List (List UInt8)} {A : Ab} (h : AbR n pa st le A) {i : Nat} (hi : i < n) : pa[A.rt i]? = some (A.rt i) := by
  obtain ⟨k, hk⟩ := h.rt i hi
  exact hk.root
theorem AbR.merge {n : Nat} {pa : List Nat} {st : List Int} {le : List (List UInt8)} {A : Ab} (h : AbR n pa st le A) {x y : Nat} (hx : x < n) (hy : y < n) (hrx : A.rt x = x) (hry : A.rt y = y) (hxy : x ≠ y) :
    AbR n (pa.set x y) (st.set y (max (A.st x) (A.st y))) (le.set y (lesserS (A.le x) (A.le y))) (A.merge x y) := by
  have h1 := h.self hx
  have h2 := h.self hy
  rw [hrx] at h1
  rw [hry] at h2
  refine ⟨by rw [List.length_set]; exact h.pl, by rw [List.length_set]; exact h.sl, by rw [List.length_set]; exact h.ll, fun i hi => ?_, fun i hi => ?_, fun i hi => ?_⟩
  · obtain ⟨k, hk⟩ := h.rt i hi
    exact union_root h1 h2 hxy _ _ _ hk
  · show _ = some (upd A.st y _ i)
    unfold upd
    by_cases e : i = y
    · subst e; rw [if_pos rfl, List.getElem?_set_self (by rw [h.sl]; exact hi)]
    · rw [if_neg e, List.getElem?_set_ne (Ne.symm e)]; exact h.st i hi
  · show _ = some (upd A.le y _ i)
    unfold upd
    by_cases e : i = y
    · subst e; rw [if_pos rfl, List.getElem?_set_self (by rw [h.ll]; exact hi)]
    · rw [if_neg e, List.getElem?_set_ne (Ne.symm e)]; exact h.le i hi
theorem AbW.merge {nd : Nds} {A : Ab} (h : AbW nd A) {x y : Nat} (hx : x < nd.length) (hy : y < nd.length) (hry : A.rt y = y) (hxy : x ≠ y) : AbW nd (A.merge x y) := by
  refine ⟨fun i hi => ?_, fun i hi => ?_, h.ch⟩
  · obtain ⟨h1, h2⟩ := h.rr i hi
    show (if A.rt i = x then y else A.rt i) < _ ∧ (if A.rt (if A.rt i = x then y else A.rt i) = x then y else A.rt (if A.rt i = x then y else A.rt i)) = (if A.rt i = x then y else A.rt i)
    by_cases e : A.rt i = x
    · simp only [if_pos e, hry]; exact ⟨hy, by rw [if_neg (Ne.symm hxy)]⟩
    · simp only [if_neg e, h2]; exact ⟨h1, trivial⟩
  · show upd A.st y _ i < _
    unfold upd
    split
    · have h1 := h.sv x hx
      have h2 := h.sv y hy
      omega
    · exact h.sv i hi
/-- How many roots there are. -/
def roots (A : Ab) (n : Nat) : Nat := ((List.range n).filter fun i => decide (A.rt i = i)).length
theorem filter_lt {p q : Nat → Bool} {x : Nat} : ∀ {l : List Nat}, (∀ i, q i = true → p i = true) → x ∈ l → p x = true → q x = false → (l.filter q).length < (l.filter p).length
  | [], _, h, _, _ => by cases h
  | a :: l, h, hx, hp, hq => by
    have hle : (l.filter q).length ≤ (l.filter p).length := by
      clear hx
      induction l with
      | nil => exact Nat.le_refl _
      | cons b l ih =>
        rw [List.filter_cons, List.filter_cons]
        by_cases hb : q b = true
        · rw [if_pos hb, if_pos (h b hb)]; simp; exact ih
        · rw [if_neg hb]
          split
          · simp; omega
          · exact ih
    rw [List.filter_cons, List.filter_cons]
    rcases List.mem_cons.1 hx with rfl | hx
    · rw [if_pos hp, if_neg (by rw [hq]; simp)]; simp; omega
    · have ih := filter_lt (l := l) h hx hp hq
      by_cases hb : q a = true
      · rw [if_pos hb, if_pos (h a hb)]; simp; exact ih
      · rw [if_neg hb]
        split
        · simp; omega
        · exact ih
theorem roots_merge {A : Ab} {n x y : Nat} (hx : x < n) (hrx : A.rt x = x) (hry : A.rt y = y) (hxy : x ≠ y) : roots (A.merge x y) n < roots A n := by
  refine filter_lt (x := x) (fun i hi => ?_) (List.mem_range.2 hx) (by simpa using hrx) ?_
  · have hi' : (if A.rt i = x then y else A.rt i) = i := of_decide_eq_true hi
    refine decide_eq_true ?_
    by_cases h : A.rt i = x
    · rw [if_pos h] at hi'; subst hi'; rw [hry] at h; exact absurd h.symm hxy
    · rw [if_neg h] at hi'; exact hi'
  · refine decide_eq_false ?_
    show ¬ (if A.rt x = x then y else A.rt x) = x
    rw [if_pos hrx]; exact Ne.symm hxy
theorem roots_le (A : Ab) (n : Nat) : roots A n ≤ n := by
  have := List.length_filter_le (fun i => decide (A.rt i = i)) (List.range n)
  simpa [roots] using this
end Go.Un
