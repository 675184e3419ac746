/- The frame of the unify chapter: types and pairs that came in, opened. -/
import Derived.Test.YtcjnmehpkcblfaaDoorUn
import Derived.Test.YtcjnmehpkcblfaaDoorTy
import Derived.Test.YtcjnmehpkcblfaaDoorRows
import Derived.Test.YtcjnmehpkcblfaaDoorOpen
import Derived.WalkKit
import Derived.ProofKit
import Derived.OpenShut
import Derived.ShutString
import Derived.ChangeOld
import Derived.Below
import Derived.SizedLaws
import Derived.Test.YtcjnmehpkcblfaaDoorUfO
namespace Go.Proofs.YtcjnmehpkcblfaaDoor
open Go Go.Wk Go.Un Go.ChangeShapes Go.WideShapes Go.ChangeAt Go.RowKit
set_option linter.unusedSimpArgs false
set_option linter.unusedVariables false

theorem open_listS {α : Type} [Inhabited α] {H : Type} {enc : TypeId × Value → H} {P : Program} {w : World} {spare : Nat → Bool} {held : Bool} {t e : TypeId} (cell : α → List Value) {sz : Nat} (good : α → Prop)
    (ht : P.underlying t = some (.slice e)) (hc : P.cellsOf e = sz) (h0 : 0 < sz) (hlen : ∀ x, (cell x).length = sz)
    {cs0 : List Value} {d : DataW H} {p : List MemPlace} {fuel : Nat} (h : DataW.trod enc P w 0 spare held fuel t cs0 = some (d, p))
    (hel : ∀ n cs d' p, DataW.trod enc P w 0 spare held n e cs = some (d', p) → SizeOf.sizeOf d' < SizeOf.sizeOf d → ∃ x, cs = cell x ∧ good x) :
    ∃ (a : Option Addr) (len cap : Nat) (l : List α), cs0 = [.slice a len cap] ∧ l.length = len ∧ len ≤ maxLen ∧ (∀ x ∈ l, good x) ∧ SlC (heapOf w) (.slice a len cap) len (l.flatMap cell) := by
  rcases Go.Deep.open_slice ht h with ⟨rfl, _⟩ | ⟨x, len, cap, m, n, D, Pl, rfl, -, hl, hm, hmm, hx, hi⟩
  · exact ⟨none, 0, 0, [], rfl, rfl, Nat.zero_le _, by simp, none, 0, rfl, Nat.le_refl _, fun h => absurd h (by omega)⟩
  · obtain ⟨hd, -⟩ := Prod.mk.inj hx
    have hlm : len ≤ m := by rw [hmm]; split <;> omega
    have hch : ∀ i, i < len → ∃ y, (∀ j v, (cell y)[j]? = some v → w.cell? ((x.add (i * sz)).add j) = some v) ∧ good y := fun i hi' => by
      obtain ⟨cs, h1, h2⟩ := hi i (by omega)
      rw [hc] at h1
      obtain ⟨y, rfl, hy⟩ := hel _ _ _ _ h2 (by
        rw [hd]
        have := List.sizeOf_lt_of_mem (List.mem_map.2 ⟨i, List.mem_range.2 hi', rfl⟩ : D i ∈ (List.range len).map D)
        simp only [DataW.slice.sizeOf_spec]
        omega)
      refine ⟨y, fun j v hj => ?_, hy⟩
      obtain ⟨_, _, h3⟩ := World.cells?_some h1
      have hj2 := (List.getElem?_eq_some_iff.1 hj).1
      rw [hlen] at hj2
      exact (h3 j hj2).trans hj
    obtain ⟨X, hX⟩ := Go.Deep.choose_lt hch
    have hget : ∀ i y, ((List.range len).map X)[i]? = some y → i < len ∧ y = X i := fun i y hy => by
      have := (List.getElem?_eq_some_iff.1 hy).1
      simp only [List.length_map, List.length_range] at this
      rw [List.getElem?_map, List.getElem?_range this] at hy
      exact ⟨this, by simpa using hy.symm⟩
    refine ⟨some x, len, cap, (List.range len).map X, rfl, by simp, Nat.le_trans hl hm, fun y hy => ?_, some x, cap, rfl, hl, fun hk => ?_⟩
    · obtain ⟨i, hi1, rfl⟩ := List.mem_map.1 hy
      exact (hX i (List.mem_range.1 hi1)).2
    · obtain ⟨b, off, spot⟩ := x
      have hsp : spot = none := by
        have hp : 0 < (cell (X 0)).length := by rw [hlen]; exact h0
        have := (hX 0 hk).1 0 _ (List.getElem?_eq_getElem hp)
        simpa [Addr.add] using World.cell?_spot this
      subst hsp
      refine ⟨b, off, rfl, cels_flat hlen _ _ fun i y hy => ?_⟩
      obtain ⟨hi1, rfl⟩ := hget i y hy
      intro j v hv
      have := (cel_of ((hX i hi1).1 j v hv)).2
      rw [add_none, add_none] at this
      exact this
def tyCell (x : List UInt8 × Value) : List Value := [.string (bs x.1), x.2]
theorem foc_of {F : Heap} : ∀ {l : List (List UInt8 × Value)}, (∀ x ∈ l, ∃ ar, SlF F x.2 ar) → ∃ fo : Fo, fo.len = l.length ∧ FoC F (l.flatMap tyCell) fo
  | [], _ => ⟨.nil, rfl, trivial⟩
  | x :: l, h => by
    obtain ⟨ar, har⟩ := h x (List.mem_cons_self ..)
    obtain ⟨fo, h1, h2⟩ := foc_of fun y hy => h y (List.mem_cons_of_mem _ hy)
    exact ⟨.cons x.1 ar fo, by simp [Fo.len, h1], rfl, har, h2⟩
instance : Inhabited (List UInt8 × Value) := ⟨([], .bool false)⟩
theorem slf_of {F : Heap} {a : Option Addr} {len cap : Nat} {l : List (List UInt8 × Value)} (hl : l.length = len) (hm : len ≤ maxLen) (hg : ∀ x ∈ l, ∃ ar, SlF F x.2 ar) (h : SlC F (.slice a len cap) len (l.flatMap tyCell)) : ∃ fo, SlF F (.slice a len cap) fo := by
  obtain ⟨fo, h1, h2⟩ := foc_of hg
  obtain ⟨ao, cp, e, h3, h4⟩ := h
  simp only [Value.slice.injEq] at e
  obtain ⟨rfl, -, rfl⟩ := e
  refine ⟨fo, a, cap, by rw [h1, hl], ⟨by omega, ?_⟩, fun hp => ?_⟩
  · have : maxLen ≤ 9223372036854775807 := by decide
    omega
  · obtain ⟨b, o, h5, h6⟩ := h4 (by omega)
    exact ⟨b, o, h5, h2.fom h6⟩
theorem c32 : Tryd.prog.cellsOf 36 = 2 := by kernel_rfl
theorem c25 : Tryd.prog.cellsOf 22 = 1 := by kernel_rfl
theorem c9 : Tryd.prog.cellsOf 9 = 1 := by kernel_rfl
theorem c4 : Tryd.prog.cellsOf 4 = 1 := by kernel_rfl
theorem open_ty {H : Type} {enc : TypeId × Value → H} {w : World} {spare : Nat → Bool} {held : Bool} : ∀ (m : Nat) (n : Nat) (cs : List Value) (d : DataW H) (p : List MemPlace), SizeOf.sizeOf d < m → DataW.trod enc Tryd.prog w 0 spare held n 36 cs = some (d, p) → ∃ x : List UInt8 × Value, cs = tyCell x ∧ ∃ ar, SlF (heapOf w) x.2 ar := by
  intro m
  induction m with
  | zero => intro n cs d p hd; omega
  | succ m ih =>
  intro n cs d p hd h
  obtain ⟨y0, y1, n1, hx, hl, g0, g1⟩ := trod_struct2 Tryd.underlying36 h
  rw [c32] at hl
  obtain ⟨rfl, -⟩ := Prod.mk.inj hx
  obtain ⟨s, e0, -, -⟩ := DataW.trod_string Tryd.underlying9 g0
  obtain ⟨d1, p1⟩ := y1
  obtain ⟨a, len, cap, l, e1, h1, h2, h3, h4⟩ := open_listS tyCell (fun x => ∃ ar, SlF (heapOf w) x.2 ar) Tryd.underlying22 c32 (by decide) (fun _ => rfl) g1 (fun n cs d' p' hh hs => ih n cs d' p' (by
    simp only [DataW.agg.sizeOf_spec, List.cons.sizeOf_spec, List.nil.sizeOf_spec] at hd
    omega) hh)
  match cs, hl with
  | [x0, x1], _ =>
    simp only [c9, c25, List.drop_zero, List.drop_succ_cons, List.take_succ_cons, List.take_zero, List.cons.injEq, and_true] at e0 e1
    subst e0; subst e1
    exact ⟨(s.data.toList, _), rfl, slf_of h1 h2 h3 h4⟩
/-- A list of types came in. -/
theorem open_types {H : Type} {enc : TypeId × Value → H} {w : World} {spare : Nat → Bool} {held : Bool} {a0 : Option Addr} {l0 c0 : Nat} {d : DataW H} {p : List MemPlace} (h : DataW.Trod enc Tryd.prog w 0 spare held 22 (.slice a0 l0 c0) d p) : ∃ l, SlF (heapOf w) (.slice a0 l0 c0) l := by
  obtain ⟨fuel, hf⟩ := h
  obtain ⟨a, len, cap, l, e1, h1, h2, h3, h4⟩ := open_listS tyCell (fun x => ∃ ar, SlF (heapOf w) x.2 ar) Tryd.underlying22 c32 (by decide) (fun _ => rfl) hf (fun n cs d' p' hh hs => open_ty _ n cs d' p' (Nat.lt_succ_self _) hh)
  simp [Value.cells] at e1
  obtain ⟨rfl, rfl, rfl⟩ := e1
  exact slf_of h1 h2 h3 h4
theorem open_listT {α : Type} [Inhabited α] {H : Type} {enc : TypeId × Value → H} {P : Program} {w : World} {spare : Nat → Bool} {held : Bool} {t e : TypeId} (cell : α → List Value) {sz : Nat} (good : α → Prop)
    (ht : P.underlying t = some (.slice e)) (hc : P.cellsOf e = sz) (h0 : 0 < sz) (hlen : ∀ x, (cell x).length = sz)
    {cs0 : List Value} {d : DataW H} {p : List MemPlace} {fuel : Nat} (h : DataW.trod enc P w 0 spare held fuel t cs0 = some (d, p)) (hw : (d.weights P t).all (· ≤ reachBytes) = true)
    (hel : ∀ n cs d' p, DataW.trod enc P w 0 spare held n e cs = some (d', p) → SizeOf.sizeOf d' < SizeOf.sizeOf d → (d'.weights P e).all (· ≤ reachBytes) = true → ∃ x, cs = cell x ∧ good x) :
    ∃ (a : Option Addr) (len cap : Nat) (l : List α), cs0 = [.slice a len cap] ∧ l.length = len ∧ len ≤ maxLen ∧ (∀ x ∈ l, good x) ∧ SlC (heapOf w) (.slice a len cap) len (l.flatMap cell) ∧ len * P.bytesOf e ≤ reachBytes := by
  rcases Go.Deep.open_slice ht h with ⟨rfl, _⟩ | ⟨x, len, cap, m, n, D, Pl, rfl, -, hl, hm, hmm, hx, hi⟩
  · exact ⟨none, 0, 0, [], rfl, rfl, Nat.zero_le _, by simp, ⟨none, 0, rfl, Nat.le_refl _, fun h => absurd h (by omega)⟩, by rw [Nat.zero_mul]; exact Nat.zero_le _⟩
  · obtain ⟨hd, -⟩ := Prod.mk.inj hx
    have hlm : len ≤ m := by rw [hmm]; split <;> omega
    have hwe : ∀ q, q ∈ (len + (m - len)) * P.bytesOf e :: (DataW.weightsAll P e ((List.range len).map D) ++ DataW.weightsAll P e ((List.range (m - len)).map fun j => D (len + j))) → q ≤ reachBytes := fun q hq => by
      have h1 := List.all_eq_true.1 hw q (by rw [hd]; simp only [DataW.weights, ht, List.length_map, List.length_range]; exact hq)
      simpa using h1
    have hch : ∀ i, i < len → ∃ y, (∀ j v, (cell y)[j]? = some v → w.cell? ((x.add (i * sz)).add j) = some v) ∧ good y := fun i hi' => by
      obtain ⟨cs, h1, h2⟩ := hi i (by omega)
      rw [hc] at h1
      obtain ⟨y, rfl, hy⟩ := hel _ _ _ _ h2 (by
        rw [hd]
        have := List.sizeOf_lt_of_mem (List.mem_map.2 ⟨i, List.mem_range.2 hi', rfl⟩ : D i ∈ (List.range len).map D)
        simp only [DataW.slice.sizeOf_spec]
        omega) (by
        rw [List.all_eq_true]
        intro q hq
        have := hwe q (List.mem_cons_of_mem _ (List.mem_append_left _ (weightsAll_mem (List.mem_map.2 ⟨i, List.mem_range.2 hi', rfl⟩) q hq)))
        simpa using this)
      refine ⟨y, fun j v hj => ?_, hy⟩
      obtain ⟨_, _, h3⟩ := World.cells?_some h1
      have hj2 := (List.getElem?_eq_some_iff.1 hj).1
      rw [hlen] at hj2
      exact (h3 j hj2).trans hj
    obtain ⟨X, hX⟩ := Go.Deep.choose_lt hch
    have hget : ∀ i y, ((List.range len).map X)[i]? = some y → i < len ∧ y = X i := fun i y hy => by
      have := (List.getElem?_eq_some_iff.1 hy).1
      simp only [List.length_map, List.length_range] at this
      rw [List.getElem?_map, List.getElem?_range this] at hy
      exact ⟨this, by simpa using hy.symm⟩
    refine ⟨some x, len, cap, (List.range len).map X, rfl, by simp, Nat.le_trans hl hm, fun y hy => ?_, ⟨some x, cap, rfl, hl, fun hk => ?_⟩, ?_⟩
    · obtain ⟨i, hi1, rfl⟩ := List.mem_map.1 hy
      exact (hX i (List.mem_range.1 hi1)).2
    · obtain ⟨b, off, spot⟩ := x
      have hsp : spot = none := by
        have hp : 0 < (cell (X 0)).length := by rw [hlen]; exact h0
        have := (hX 0 hk).1 0 _ (List.getElem?_eq_getElem hp)
        simpa [Addr.add] using World.cell?_spot this
      subst hsp
      refine ⟨b, off, rfl, cels_flat hlen _ _ fun i y hy => ?_⟩
      obtain ⟨hi1, rfl⟩ := hget i y hy
      intro j v hv
      have := (cel_of ((hX i hi1).1 j v hv)).2
      rw [add_none, add_none] at this
      exact this
    · have h1 := hwe _ (List.mem_cons_self ..)
      exact Nat.le_trans (Nat.mul_le_mul_right _ (by omega)) h1
def GoodT (F : Heap) (x : List UInt8 × Value) : Prop := ∃ ar, SlF F x.2 ar ∧ ar.len * 40 ≤ 140737488355328 ∧ Thin ar
theorem focT_of {F : Heap} : ∀ {l : List (List UInt8 × Value)}, (∀ x ∈ l, GoodT F x) → ∃ fo : Fo, fo.len = l.length ∧ FoC F (l.flatMap tyCell) fo ∧ Thin fo
  | [], _ => ⟨.nil, rfl, trivial, trivial⟩
  | x :: l, h => by
    obtain ⟨ar, har, h40, hth⟩ := h x (List.mem_cons_self ..)
    obtain ⟨fo, h1, h2, h3⟩ := focT_of fun y hy => h y (List.mem_cons_of_mem _ hy)
    exact ⟨.cons x.1 ar fo, by simp [Fo.len, h1], ⟨rfl, har, h2⟩, h40, hth, h3⟩
theorem b32 : Tryd.prog.bytesOf 36 = 40 := by kernel_rfl
theorem slfT_of {F : Heap} {a : Option Addr} {len cap : Nat} {l : List (List UInt8 × Value)} (hl : l.length = len) (hm : len ≤ maxLen) (hg : ∀ x ∈ l, GoodT F x) (h : SlC F (.slice a len cap) len (l.flatMap tyCell)) (hb : len * 40 ≤ reachBytes) : ∃ fo, SlF F (.slice a len cap) fo ∧ fo.len * 40 ≤ 140737488355328 ∧ Thin fo := by
  obtain ⟨fo, h1, h2, h3⟩ := focT_of hg
  obtain ⟨ao, cp, e, h5, h4⟩ := h
  simp only [Value.slice.injEq] at e
  obtain ⟨rfl, -, rfl⟩ := e
  have hr : reachBytes ≤ 140737488355328 := by decide
  refine ⟨fo, ⟨a, cap, by rw [h1, hl], ⟨by omega, ?_⟩, fun hp => ?_⟩, by rw [h1, hl]; omega, h3⟩
  · have : maxLen ≤ 9223372036854775807 := by decide
    omega
  · obtain ⟨b, o, h5, h6⟩ := h4 (by omega)
    exact ⟨b, o, h5, h2.fom h6⟩
theorem open_tyT {H : Type} {enc : TypeId × Value → H} {w : World} {spare : Nat → Bool} {held : Bool} : ∀ (m : Nat) (n : Nat) (cs : List Value) (d : DataW H) (p : List MemPlace), SizeOf.sizeOf d < m → DataW.trod enc Tryd.prog w 0 spare held n 36 cs = some (d, p) → (d.weights Tryd.prog 36).all (· ≤ reachBytes) = true → ∃ x : List UInt8 × Value, cs = tyCell x ∧ GoodT (heapOf w) x := by
  intro m
  induction m with
  | zero => intro n cs d p hd; omega
  | succ m ih =>
  intro n cs d p hd h hw
  obtain ⟨y0, y1, n1, hx, hl, g0, g1⟩ := trod_struct2 Tryd.underlying36 h
  rw [c32] at hl
  obtain ⟨rfl, -⟩ := Prod.mk.inj hx
  obtain ⟨s, e0, -, -⟩ := DataW.trod_string Tryd.underlying9 g0
  obtain ⟨d1, p1⟩ := y1
  have hw1 : (d1.weights Tryd.prog 22).all (· ≤ reachBytes) = true := by
    rw [List.all_eq_true] at hw ⊢
    intro q hq
    refine hw q ?_
    simp only [DataW.weights, Tryd.underlying36, DataW.weightsEach, List.map_cons, List.map_nil, List.mem_append]
    exact .inr (.inl hq)
  obtain ⟨a, len, cap, l, e1, h1, h2, h3, h4, h5⟩ := open_listT tyCell (GoodT (heapOf w)) Tryd.underlying22 c32 (by decide) (fun _ => rfl) g1 hw1 (fun n cs d' p' hh hs hw' => ih n cs d' p' (by
    simp only [DataW.agg.sizeOf_spec, List.cons.sizeOf_spec, List.nil.sizeOf_spec] at hd
    omega) hh hw')
  rw [b32] at h5
  match cs, hl with
  | [x0, x1], _ =>
    simp only [c9, c25, List.drop_zero, List.drop_succ_cons, List.take_succ_cons, List.take_zero, List.cons.injEq, and_true] at e0 e1
    subst e0; subst e1
    exact ⟨(s.data.toList, _), rfl, slfT_of h1 h2 h3 h4 h5⟩
/-- A list of types came in. -/
theorem open_typesT {H : Type} {enc : TypeId × Value → H} {w : World} {spare : Nat → Bool} {held : Bool} {a0 : Option Addr} {l0 c0 : Nat} {d : DataW H} {p : List MemPlace} (h : DataW.Trod enc Tryd.prog w 0 spare held 22 (.slice a0 l0 c0) d p) (hw : (d.weights Tryd.prog 22).all (· ≤ reachBytes) = true) : ∃ l, SlF (heapOf w) (.slice a0 l0 c0) l ∧ Thin l := by
  obtain ⟨fuel, hf⟩ := h
  obtain ⟨a, len, cap, l, e1, h1, h2, h3, h4, h5⟩ := open_listT tyCell (GoodT (heapOf w)) Tryd.underlying22 c32 (by decide) (fun _ => rfl) hf hw (fun n cs d' p' hh _ hw' => open_tyT _ n cs d' p' (Nat.lt_succ_self _) hh hw')
  rw [b32] at h5
  simp [Value.cells] at e1
  obtain ⟨rfl, rfl, rfl⟩ := e1
  obtain ⟨fo, h6, _, h7⟩ := slfT_of h1 h2 h3 h4 h5
  exact ⟨fo, h6, h7⟩
end Go.Proofs.YtcjnmehpkcblfaaDoor
