/- Classes that come to an end; what is marked, on the way through them. -/
import Derived.Test.YtcjnmehpkcblfaaDoorUnJ
namespace Go.Un
open Go Go.Wk
set_option linter.unusedSimpArgs false
set_option linter.unusedVariables false

/-- What stands in the class comes to an end. -/
inductive Fine (nd : Nds) (A : Ab) : Nat → Prop
  | var {c} (h : A.st c < 0) : Fine nd A c
  | node {c nm ks} (h : 0 ≤ A.st c) (hk : nd[(A.st c).toNat]? = some (nm, ks)) (h2 : ∀ k ∈ ks, Fine nd A (A.rt k)) : Fine nd A c
def Ranked (nd : Nds) (A : Ab) (rk : Nat → Nat) : Prop := ∀ c nm ks, c < nd.length → A.rt c = c → 0 ≤ A.st c → nd[(A.st c).toNat]? = some (nm, ks) → ∀ k ∈ ks, rk (A.rt k) < rk c
def sget (l : List (Int × Int)) (c : Int) : Option Int := (l.find? fun p => decide (c = p.1)).map (·.2)
def sset : List (Int × Int) → Int → Int → List (Int × Int)
  | [], c, v => [(c, v)]
  | (a, u) :: r, c, v => if c = a then (a, v) :: r else (a, u) :: sset r c v
def stV (l : List (Int × Int)) : List (Int × Value) := l.map fun x => (x.1, Value.int .i64 x.2)
theorem sget_sset (l : List (Int × Int)) (k j v : Int) : sget (sset l k v) j = if j = k then some v else sget l j := by
  induction l with
  | nil => by_cases h : j = k <;> simp [sset, sget, h]
  | cons p r ih =>
    obtain ⟨a, u⟩ := p
    unfold sset
    by_cases hk : k = a
    · subst hk
      rw [if_pos rfl]
      by_cases h : j = k <;> simp [sget, h]
    · rw [if_neg hk]
      unfold sget at ih ⊢
      by_cases h : j = a
      · subst h
        rw [if_neg (Ne.symm hk)]
        simp
      · simp only [List.find?_cons, h, decide_false]
        exact ih
theorem stV_sset (l : List (Int × Int)) (k v : Int) : mSet (stV l) k (.int .i64 v) = stV (sset l k v) := by
  induction l with
  | nil => rfl
  | cons p r ih =>
    obtain ⟨a, u⟩ := p
    unfold stV at *
    rw [List.map_cons]
    unfold mSet sset
    by_cases h : k = a
    · rw [if_pos h, if_pos h]; rfl
    · rw [if_neg h, if_neg h, ih]; rfl
theorem sval (l : List (Int × Int)) (k : Int) : (mGet (stV l) k).getD (.int .i64 0) = .int .i64 ((sget l k).getD 0) := by
  have : mGet (stV l) k = (sget l k).map fun v => Value.int .i64 v := by
    induction l with
    | nil => rfl
    | cons p r ih =>
      obtain ⟨a, u⟩ := p
      unfold mGet sget stV at *
      by_cases h : k = a
      · simp [h]
      · simp only [List.map_cons, List.find?_cons, h, decide_false]; exact ih
  rw [this]
  cases sget l k <;> rfl
def unv (l : List (Int × Int)) (n : Nat) : Nat := ((List.range n).filter fun (c : Nat) => decide (sget l (c : Int) = none)).length
theorem filter_le {p q : Nat → Bool} : ∀ {l : List Nat}, (∀ i, q i = true → p i = true) → (l.filter q).length ≤ (l.filter p).length
  | [], _ => Nat.le_refl _
  | a :: l, h => by
    have ih := filter_le (l := l) h
    rw [List.filter_cons, List.filter_cons]
    by_cases hb : q a = true
    · rw [if_pos hb, if_pos (h a hb)]; simp; exact ih
    · rw [if_neg hb]
      split
      · simp; omega
      · exact ih
theorem unv_le {l l' : List (Int × Int)} {n : Nat} (h : ∀ c, sget l' c = none → sget l c = none) : unv l' n ≤ unv l n :=
  filter_le fun i hi => decide_eq_true (h _ (of_decide_eq_true hi))
theorem unv_lt {l l' : List (Int × Int)} {n c : Nat} (h : ∀ c, sget l' c = none → sget l c = none) (hc : c < n) (h1 : sget l (c : Int) = none) (h2 : sget l' (c : Int) ≠ none) : unv l' n < unv l n :=
  filter_lt (x := c) (fun i hi => decide_eq_true (h _ (of_decide_eq_true hi))) (List.mem_range.2 hc) (decide_eq_true h1) (decide_eq_false h2)
/-- What holds of the marks. -/
structure Mk (nd : Nds) (A : Ab) (l : List (Int × Int)) : Prop where
  v12 : ∀ c v, sget l c = some v → v = 1 ∨ v = 2
  fine : ∀ c : Nat, sget l (c : Int) = some 2 → Fine nd A c
/-- What is told when nothing is found. -/
structure TellM (nd : Nds) (A : Ab) (l l' : List (Int × Int)) : Prop where
  ok : Mk nd A l'
  one : ∀ c, sget l' c = some 1 ↔ sget l c = some 1
  more : ∀ c, sget l' c = none → sget l c = none
theorem TellM.refl {nd : Nds} {A : Ab} {l : List (Int × Int)} (h : Mk nd A l) : TellM nd A l l := ⟨h, fun _ => Iff.rfl, fun _ h => h⟩
theorem TellM.trans {nd : Nds} {A : Ab} {a b c : List (Int × Int)} (h1 : TellM nd A a b) (h2 : TellM nd A b c) : TellM nd A a c := ⟨h2.ok, fun x => (h2.one x).trans (h1.one x), fun x h => h1.more x (h2.more x h)⟩
/-- A class is marked 1. -/
theorem Mk.enter {nd : Nds} {A : Ab} {l : List (Int × Int)} (h : Mk nd A l) (c : Int) : Mk nd A (sset l c 1) :=
  ⟨fun x v hx => by
    rw [sget_sset] at hx
    split at hx
    · cases hx; exact .inl rfl
    · exact h.v12 x v hx, fun x hx => by
    rw [sget_sset] at hx
    split at hx
    · cases hx
    · exact h.fine x hx⟩
/-- It is marked 2, behind all its parts. -/
theorem TellM.leave {nd : Nds} {A : Ab} {l l' : List (Int × Int)} {c : Nat} (hc : sget l (c : Int) = none) (h : TellM nd A (sset l c 1) l') (hf : Fine nd A c) : TellM nd A l (sset l' c 2) :=
  ⟨⟨fun x v hx => by
    rw [sget_sset] at hx
    split at hx
    · cases hx; exact .inr rfl
    · exact h.ok.v12 x v hx, fun x hx => by
    rw [sget_sset] at hx
    split at hx
    · rename_i e
      have : x = c := by omega
      subst this; exact hf
    · exact h.ok.fine x hx⟩, fun x => by
    rw [sget_sset]
    by_cases e : x = (c : Int)
    · subst e
      rw [if_pos rfl, hc]
      exact ⟨(fun h => by cases h), (fun h => by cases h)⟩
    · rw [if_neg e, h.one, sget_sset, if_neg e], fun x hx => by
    rw [sget_sset] at hx
    split at hx
    · cases hx
    · rename_i e
      have := h.more x hx
      rw [sget_sset, if_neg e] at this; exact this⟩
end Go.Un
