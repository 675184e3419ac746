/- An argument that came in, opened into a list: a slice whose every element reads as 'cell x' leads to the cells of a list of such x; and what the steps' memory says of a world: 'Below'. -/
import Derived.Test.YtoaodbclgeeaeaaGreatDoorWk6
import Derived.OpenShut
import Derived.Below
import Derived.Carry
import Derived.SizedLaws
import Derived.Deep.Slices
import Derived.Deep.Strs
namespace Go.Wk
open Go Go.ChangeShapes Go.WideShapes
set_option linter.unusedSimpArgs false
set_option linter.unusedVariables false

def heapOf (w : World) : Heap := fun b => w.heap[b]?
theorem at_heapOf (w : World) : At w (heapOf w) [] := ⟨fun _ _ h => h, fun p h => by simp at h, by simp [keys]⟩
theorem below_of {W W' : World} {F' : Heap} {G' : List Grp} (h : Tr W (heapOf W) [] W' F' G') : Go.RowKit.Below W.heap.size W W' :=
  ⟨h.os, h.tape, h.output, h.size, fun k hk => h.old k hk (by simp)⟩
theorem cel_of {W : World} {a : Addr} {v : Value} (h : W.cell? a = some v) : a.spot = none ∧ Cel (heapOf W) a.block a.off v := by
  refine ⟨World.cell?_spot h, ?_⟩
  unfold World.cell? at h
  split at h
  · rename_i c e f hc
    split at h
    · cases h
    · exact ⟨c, e, f, hc, h⟩
  · cases h

theorem add_none (b off n : Nat) : (⟨b, off, none⟩ : Addr).add n = ⟨b, off + n, none⟩ := by
  unfold Addr.add; split
  · rename_i h; subst h; rfl
  · rfl

theorem Cels.append {F : Heap} {b off : Nat} {xs ys : List Value} (h1 : Cels F b off xs) (h2 : Cels F b (off + xs.length) ys) : Cels F b off (xs ++ ys) := by
  intro j v hv
  by_cases hj : j < xs.length
  · rw [List.getElem?_append_left hj] at hv; exact h1 j v hv
  · rw [List.getElem?_append_right (by omega)] at hv
    have := h2 _ v hv
    rw [show off + xs.length + (j - xs.length) = off + j by omega] at this
    exact this
theorem cels_flat {α : Type} {cell : α → List Value} {sz : Nat} (hlen : ∀ x, (cell x).length = sz) {F : Heap} {b : Nat} : ∀ (l : List α) (off : Nat), (∀ i x, l[i]? = some x → Cels F b (off + i * sz) (cell x)) → Cels F b off (l.flatMap cell)
  | [], _, _ => fun _ _ h => by simp at h
  | x :: r, off, h => by
    rw [List.flatMap_cons]
    refine Cels.append (by have := h 0 x rfl; simpa using this) ?_
    rw [hlen]
    refine cels_flat hlen r _ fun i y hy => ?_
    have := h (i + 1) y hy
    rw [show off + sz + i * sz = off + (i + 1) * sz by rw [Nat.add_mul]; omega]
    exact this

theorem weightsAll_mem {H : Type} {P : Program} {e : TypeId} {d : DataW H} : ∀ {ds : List (DataW H)}, d ∈ ds → ∀ n ∈ d.weights P e, n ∈ DataW.weightsAll P e ds
  | x :: r, h, n, hn => by
    simp only [DataW.weightsAll, List.mem_append]
    rcases List.mem_cons.1 h with rfl | h
    · exact Or.inl hn
    · exact Or.inr (weightsAll_mem h n hn)

theorem open_list {α : Type} [Inhabited α] {H : Type} {enc : TypeId × Value → H} {P : Program} {w : World} {spare : Nat → Bool} {held : Bool} {t e : TypeId} (cell : α → List Value) {sz : Nat} (good : α → Prop)
    (ht : P.underlying t = some (.slice e)) (hc : P.cellsOf e = sz) (h0 : 0 < sz) (hlen : ∀ x, (cell x).length = sz)
    (hel : ∀ n cs d p, DataW.trod enc P w 0 spare held n e cs = some (d, p) → (d.weights P e).all (· ≤ reachBytes) = true → ∃ x, cs = cell x ∧ good x)
    {a : Option Addr} {len cap : Nat} {d : DataW H} {p : List MemPlace} (h : DataW.Trod enc P w 0 spare held t (.slice a len cap) d p) (hw : (d.weights P t).all (· ≤ reachBytes) = true) :
    ∃ l : List α, l.length = len ∧ len ≤ maxLen ∧ (∀ x ∈ l, good x) ∧ SlC (heapOf w) (.slice a len cap) len (l.flatMap cell) := by
  obtain ⟨fuel, hf⟩ := h
  rcases Go.Deep.open_slice ht hf with ⟨hcs, _⟩ | ⟨x, l, c, m, n, D, Pl, hcs, -, hl, hm, hmm, hx, hi⟩
  · simp [Value.cells] at hcs
    obtain ⟨rfl, rfl, rfl⟩ := hcs
    exact ⟨[], rfl, Nat.zero_le _, by simp, none, 0, rfl, Nat.le_refl _, fun h => absurd h (by omega)⟩
  · simp [Value.cells] at hcs
    obtain ⟨rfl, rfl, rfl⟩ := hcs
    obtain ⟨hd, -⟩ := Prod.mk.inj hx
    have hlm : len ≤ m := by rw [hmm]; split <;> omega
    have hch : ∀ i, i < len → ∃ y, (∀ j v, (cell y)[j]? = some v → w.cell? ((x.add (i * sz)).add j) = some v) ∧ good y := fun i hi' => by
      obtain ⟨cs, h1, h2⟩ := hi i (by omega)
      rw [hc] at h1
      obtain ⟨y, rfl, hy⟩ := hel _ _ _ _ h2 (by
        rw [List.all_eq_true]
        intro q hq
        refine List.all_eq_true.1 hw q ?_
        rw [hd]
        simp only [DataW.weights, ht, List.mem_cons, List.mem_append]
        exact Or.inr (Or.inl (weightsAll_mem (List.mem_map.2 ⟨i, List.mem_range.2 hi', rfl⟩) q hq)))
      refine ⟨y, fun j v hj => ?_, hy⟩
      obtain ⟨_, _, h3⟩ := World.cells?_some h1
      have hj2 := (List.getElem?_eq_some_iff.1 hj).1
      rw [hlen] at hj2
      exact (h3 j hj2).trans hj
    obtain ⟨X, hX⟩ := Go.Deep.choose_lt hch
    have hget : ∀ i y, ((List.range len).map X)[i]? = some y → i < len ∧ y = X i := fun i y hy => by
      have := (List.getElem?_eq_some_iff.1 hy).1
      simp only [List.length_map, List.length_range] at this
      rw [List.getElem?_map, List.getElem?_range this] at hy
      exact ⟨this, by simpa using hy.symm⟩
    refine ⟨(List.range len).map X, by simp, Nat.le_trans hl hm, fun y hy => ?_, some x, cap, rfl, hl, fun hk => ?_⟩
    · obtain ⟨i, hi1, rfl⟩ := List.mem_map.1 hy
      exact (hX i (List.mem_range.1 hi1)).2
    · obtain ⟨b, off, spot⟩ := x
      have hsp : spot = none := by
        have hp : 0 < (cell (X 0)).length := by rw [hlen]; exact h0
        have := (hX 0 hk).1 0 _ (List.getElem?_eq_getElem hp)
        simpa [Addr.add] using World.cell?_spot this
      subst hsp
      refine ⟨b, off, rfl, cels_flat hlen _ _ fun i y hy => ?_⟩
      obtain ⟨hi1, rfl⟩ := hget i y hy
      intro j v hv
      have := (cel_of ((hX i hi1).1 j v hv)).2
      rw [add_none, add_none] at this
      exact this
end Go.Wk
