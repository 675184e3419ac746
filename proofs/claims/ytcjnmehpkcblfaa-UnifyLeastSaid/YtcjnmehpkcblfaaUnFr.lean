/- The frame of the unify chapter: types and pairs that came in, opened. -/
import Derived.Test.YtcjnmehpkcblfaaUn
import Derived.Test.YtcjnmehpkcblfaaTy
import Derived.Test.YtcjnmehpkcblfaaRows
import Derived.Test.YtcjnmehpkcblfaaOpen
import Derived.WalkKit
import Derived.ProofKit
import Derived.OpenShut
import Derived.ShutString
import Derived.ChangeOld
import Derived.Below
import Derived.SizedLaws
namespace Go.Proofs.Ytcjnmehpkcblfaa
open Go Go.Wk Go.Un Go.ChangeShapes Go.WideShapes Go.ChangeAt Go.RowKit
set_option linter.unusedSimpArgs false
set_option linter.unusedVariables false

theorem open_listS {α : Type} [Inhabited α] {H : Type} {enc : TypeId × Value → H} {P : Program} {w : World} {spare : Nat → Bool} {held : Bool} {t e : TypeId} (cell : α → List Value) {sz : Nat} (good : α → Prop)
    (ht : P.underlying t = some (.slice e)) (hc : P.cellsOf e = sz) (h0 : 0 < sz) (hlen : ∀ x, (cell x).length = sz)
    {cs0 : List Value} {d : DataW H} {p : List MemPlace} {fuel : Nat} (h : DataW.trod enc P w 0 spare held fuel t cs0 = some (d, p))
    (hel : ∀ n cs d' p, DataW.trod enc P w 0 spare held n e cs = some (d', p) → SizeOf.sizeOf d' < SizeOf.sizeOf d → ∃ x, cs = cell x ∧ good x) :
    ∃ (a : Option Addr) (len cap : Nat) (l : List α), cs0 = [.slice a len cap] ∧ l.length = len ∧ len ≤ maxLen ∧ (∀ x ∈ l, good x) ∧ SlC (heapOf w) (.slice a len cap) len (l.flatMap cell) := by
  rcases Go.Deep.open_slice ht h with ⟨rfl, _⟩ | ⟨x, len, cap, m, n, D, Pl, rfl, -, hl, hm, hmm, hx, hi⟩
  · exact ⟨none, 0, 0, [], rfl, rfl, Nat.zero_le _, by simp, none, 0, rfl, Nat.le_refl _, fun h => absurd h (by omega)⟩
  · obtain ⟨hd, -⟩ := Prod.mk.inj hx
    have hlm : len ≤ m := by rw [hmm]; split <;> omega
    have hch : ∀ i, i < len → ∃ y, (∀ j v, (cell y)[j]? = some v → w.cell? ((x.add (i * sz)).add j) = some v) ∧ good y := fun i hi' => by
      obtain ⟨cs, h1, h2⟩ := hi i (by omega)
      rw [hc] at h1
      obtain ⟨y, rfl, hy⟩ := hel _ _ _ _ h2 (by
        rw [hd]
        have := List.sizeOf_lt_of_mem (List.mem_map.2 ⟨i, List.mem_range.2 hi', rfl⟩ : D i ∈ (List.range len).map D)
        simp only [DataW.slice.sizeOf_spec]
        omega)
      refine ⟨y, fun j v hj => ?_, hy⟩
      obtain ⟨_, _, h3⟩ := World.cells?_some h1
      have hj2 := (List.getElem?_eq_some_iff.1 hj).1
      rw [hlen] at hj2
      exact (h3 j hj2).trans hj
    obtain ⟨X, hX⟩ := Go.Deep.choose_lt hch
    have hget : ∀ i y, ((List.range len).map X)[i]? = some y → i < len ∧ y = X i := fun i y hy => by
      have := (List.getElem?_eq_some_iff.1 hy).1
      simp only [List.length_map, List.length_range] at this
      rw [List.getElem?_map, List.getElem?_range this] at hy
      exact ⟨this, by simpa using hy.symm⟩
    refine ⟨some x, len, cap, (List.range len).map X, rfl, by simp, Nat.le_trans hl hm, fun y hy => ?_, some x, cap, rfl, hl, fun hk => ?_⟩
    · obtain ⟨i, hi1, rfl⟩ := List.mem_map.1 hy
      exact (hX i (List.mem_range.1 hi1)).2
    · obtain ⟨b, off, spot⟩ := x
      have hsp : spot = none := by
        have hp : 0 < (cell (X 0)).length := by rw [hlen]; exact h0
        have := (hX 0 hk).1 0 _ (List.getElem?_eq_getElem hp)
        simpa [Addr.add] using World.cell?_spot this
      subst hsp
      refine ⟨b, off, rfl, cels_flat hlen _ _ fun i y hy => ?_⟩
      obtain ⟨hi1, rfl⟩ := hget i y hy
      intro j v hv
      have := (cel_of ((hX i hi1).1 j v hv)).2
      rw [add_none, add_none] at this
      exact this
def tyCell (x : List UInt8 × Value) : List Value := [.string (bs x.1), x.2]
theorem foc_of {F : Heap} : ∀ {l : List (List UInt8 × Value)}, (∀ x ∈ l, ∃ ar, SlF F x.2 ar) → ∃ fo : Fo, fo.len = l.length ∧ FoC F (l.flatMap tyCell) fo
  | [], _ => ⟨.nil, rfl, trivial⟩
  | x :: l, h => by
    obtain ⟨ar, har⟩ := h x (List.mem_cons_self ..)
    obtain ⟨fo, h1, h2⟩ := foc_of fun y hy => h y (List.mem_cons_of_mem _ hy)
    exact ⟨.cons x.1 ar fo, by simp [Fo.len, h1], rfl, har, h2⟩
instance : Inhabited (List UInt8 × Value) := ⟨([], .bool false)⟩
theorem slf_of {F : Heap} {a : Option Addr} {len cap : Nat} {l : List (List UInt8 × Value)} (hl : l.length = len) (hm : len ≤ maxLen) (hg : ∀ x ∈ l, ∃ ar, SlF F x.2 ar) (h : SlC F (.slice a len cap) len (l.flatMap tyCell)) : ∃ fo, SlF F (.slice a len cap) fo := by
  obtain ⟨fo, h1, h2⟩ := foc_of hg
  obtain ⟨ao, cp, e, h3, h4⟩ := h
  simp only [Value.slice.injEq] at e
  obtain ⟨rfl, -, rfl⟩ := e
  refine ⟨fo, a, cap, by rw [h1, hl], ⟨by omega, ?_⟩, fun hp => ?_⟩
  · have : maxLen ≤ 9223372036854775807 := by decide
    omega
  · obtain ⟨b, o, h5, h6⟩ := h4 (by omega)
    exact ⟨b, o, h5, h2.fom h6⟩
theorem c32 : Try.prog.cellsOf 32 = 2 := by kernel_rfl
theorem c25 : Try.prog.cellsOf 25 = 1 := by kernel_rfl
theorem c9 : Try.prog.cellsOf 9 = 1 := by kernel_rfl
theorem c4 : Try.prog.cellsOf 4 = 1 := by kernel_rfl
theorem c34 : Try.prog.cellsOf 34 = 5 := by kernel_rfl
theorem open_ty {H : Type} {enc : TypeId × Value → H} {w : World} {spare : Nat → Bool} {held : Bool} : ∀ (m : Nat) (n : Nat) (cs : List Value) (d : DataW H) (p : List MemPlace), SizeOf.sizeOf d < m → DataW.trod enc Try.prog w 0 spare held n 32 cs = some (d, p) → ∃ x : List UInt8 × Value, cs = tyCell x ∧ ∃ ar, SlF (heapOf w) x.2 ar := by
  intro m
  induction m with
  | zero => intro n cs d p hd; omega
  | succ m ih =>
  intro n cs d p hd h
  obtain ⟨y0, y1, n1, hx, hl, g0, g1⟩ := trod_struct2 Try.underlying32 h
  rw [c32] at hl
  obtain ⟨rfl, -⟩ := Prod.mk.inj hx
  obtain ⟨s, e0, -, -⟩ := DataW.trod_string Try.underlying9 g0
  obtain ⟨d1, p1⟩ := y1
  obtain ⟨a, len, cap, l, e1, h1, h2, h3, h4⟩ := open_listS tyCell (fun x => ∃ ar, SlF (heapOf w) x.2 ar) Try.underlying25 c32 (by decide) (fun _ => rfl) g1 (fun n cs d' p' hh hs => ih n cs d' p' (by
    simp only [DataW.agg.sizeOf_spec, List.cons.sizeOf_spec, List.nil.sizeOf_spec] at hd
    omega) hh)
  match cs, hl with
  | [x0, x1], _ =>
    simp only [c9, c25, List.drop_zero, List.drop_succ_cons, List.take_succ_cons, List.take_zero, List.cons.injEq, and_true] at e0 e1
    subst e0; subst e1
    exact ⟨(s.data.toList, _), rfl, slf_of h1 h2 h3 h4⟩
/-- A list of types came in. -/
theorem open_types {H : Type} {enc : TypeId × Value → H} {w : World} {spare : Nat → Bool} {held : Bool} {a0 : Option Addr} {l0 c0 : Nat} {d : DataW H} {p : List MemPlace} (h : DataW.Trod enc Try.prog w 0 spare held 25 (.slice a0 l0 c0) d p) : ∃ l, SlF (heapOf w) (.slice a0 l0 c0) l := by
  obtain ⟨fuel, hf⟩ := h
  obtain ⟨a, len, cap, l, e1, h1, h2, h3, h4⟩ := open_listS tyCell (fun x => ∃ ar, SlF (heapOf w) x.2 ar) Try.underlying25 c32 (by decide) (fun _ => rfl) hf (fun n cs d' p' hh hs => open_ty _ n cs d' p' (Nat.lt_succ_self _) hh)
  simp [Value.cells] at e1
  obtain ⟨rfl, rfl, rfl⟩ := e1
  exact slf_of h1 h2 h3 h4
structure Pc where
  na : List UInt8
  va : Value
  nb : List UInt8
  vb : Value
  c : Bool
instance : Inhabited Pc := ⟨⟨[], .bool false, [], .bool false, false⟩⟩
def pcCell (x : Pc) : List Value := [.string (bs x.na), x.va, .string (bs x.nb), x.vb, .bool x.c]
theorem open_pair {H : Type} {enc : TypeId × Value → H} {w : World} {spare : Nat → Bool} {held : Bool} (n : Nat) (cs : List Value) (d : DataW H) (p : List MemPlace) (h : DataW.trod enc Try.prog w 0 spare held n 34 cs = some (d, p)) : ∃ x : Pc, cs = pcCell x ∧ (∃ aa, SlF (heapOf w) x.va aa) ∧ ∃ ab, SlF (heapOf w) x.vb ab := by
  obtain ⟨⟨d0, p0⟩, ⟨d1, p1⟩, y2, n1, hx, hl, g0, g1, g2⟩ := Go.Deep.trod_struct3 Try.underlying34 h
  rw [c34] at hl
  obtain ⟨x0, e0, hx0⟩ := open_ty _ _ _ _ _ (Nat.lt_succ_self _) g0
  obtain ⟨x1, e1, hx1⟩ := open_ty _ _ _ _ _ (Nat.lt_succ_self _) g1
  obtain ⟨b, e2, -⟩ := DataW.trod_bool Try.underlying4 g2
  match cs, hl with
  | [z0, z1, z2, z3, z4], _ =>
    simp only [c32, c4, tyCell, List.drop_zero, List.drop_succ_cons, List.take_succ_cons, List.take_zero, List.cons.injEq, and_true] at e0 e1 e2
    obtain ⟨rfl, rfl⟩ := e0
    obtain ⟨rfl, rfl⟩ := e1
    subst e2
    exact ⟨⟨x0.1, x0.2, x1.1, x1.2, b⟩, rfl, hx0, hx1⟩
theorem flat_at {α : Type} {cell : α → List Value} {sz : Nat} (hlen : ∀ x, (cell x).length = sz) : ∀ {l : List α} {k : Nat} {x : α} {j : Nat} {u : Value}, l[k]? = some x → (cell x)[j]? = some u → (l.flatMap cell)[k * sz + j]? = some u
  | y :: l, 0, x, j, u, hk, hj => by
    cases hk
    rw [List.flatMap_cons, Nat.zero_mul, Nat.zero_add, List.getElem?_append_left (List.getElem?_eq_some_iff.1 hj).1]; exact hj
  | y :: l, k + 1, x, j, u, hk, hj => by
    rw [List.flatMap_cons, List.getElem?_append_right (by rw [hlen, Nat.add_mul]; omega), hlen, show (k + 1) * sz + j - sz = k * sz + j by rw [Nat.add_mul]; omega]
    exact flat_at hlen (by simpa using hk) hj
theorem prs_of {F : Heap} : ∀ {l : List Pc}, (∀ x ∈ l, (∃ aa, SlF F x.va aa) ∧ ∃ ab, SlF F x.vb ab) → ∃ ps : List Pr, ps.length = l.length ∧ ∀ (k : Nat) (p : Pr), ps[k]? = some p → ∃ x, l[k]? = some x ∧ p.na = x.na ∧ p.nb = x.nb ∧ p.c = x.c ∧ SlF F x.va p.aa ∧ SlF F x.vb p.ab
  | [], _ => ⟨[], rfl, fun k p h => by simp at h⟩
  | x :: l, h => by
    obtain ⟨⟨aa, haa⟩, ab, hab⟩ := h x (List.mem_cons_self ..)
    obtain ⟨ps, h1, h2⟩ := prs_of fun y hy => h y (List.mem_cons_of_mem _ hy)
    refine ⟨⟨x.na, aa, x.nb, ab, x.c⟩ :: ps, by simp [h1], fun k p hk => ?_⟩
    rcases k with - | k
    · cases hk; exact ⟨x, rfl, rfl, rfl, rfl, haa, hab⟩
    · obtain ⟨y, h3, h4⟩ := h2 k p (by simpa using hk)
      exact ⟨y, by simpa using h3, h4⟩
/-- A list of pairs came in. -/
theorem open_pairs {H : Type} {enc : TypeId × Value → H} {w : World} {spare : Nat → Bool} {held : Bool} {a0 : Option Addr} {l0 c0 : Nat} {d : DataW H} {p : List MemPlace} (h : DataW.Trod enc Try.prog w 0 spare held 22 (.slice a0 l0 c0) d p) : ∃ ps, PsM (heapOf w) (.slice a0 l0 c0) ps := by
  obtain ⟨fuel, hf⟩ := h
  obtain ⟨a, len, cap, l, e1, h1, h2, h3, h4⟩ := open_listS pcCell (fun x => (∃ aa, SlF (heapOf w) x.va aa) ∧ ∃ ab, SlF (heapOf w) x.vb ab) Try.underlying22 c34 (by decide) (fun _ => rfl) hf (fun n cs d' p' hh _ => open_pair n cs d' p' hh)
  simp [Value.cells] at e1
  obtain ⟨rfl, rfl, rfl⟩ := e1
  obtain ⟨ps, h5, h6⟩ := prs_of h3
  obtain ⟨ao, cp, e, h7, h8⟩ := h4
  simp only [Value.slice.injEq] at e
  obtain ⟨rfl, -, rfl⟩ := e
  refine ⟨ps, a0, c0, by rw [h5, h1], ⟨by omega, ?_⟩, fun hp => ?_⟩
  · have : maxLen ≤ 9223372036854775807 := by decide
    omega
  · obtain ⟨b, o, h9, h10⟩ := h8 (by omega)
    refine ⟨b, o, h9, fun k q hq => ?_⟩
    obtain ⟨x, hx, e1, e2, e3, h11, h12⟩ := h6 k q hq
    refine ⟨x.va, x.vb, fun j u hj => ?_, h11, h12⟩
    rw [Nat.add_assoc]
    refine h10 _ _ (flat_at (cell := pcCell) (fun _ => rfl) hx ?_)
    rw [e1, e2, e3] at hj; exact hj
end Go.Proofs.Ytcjnmehpkcblfaa
