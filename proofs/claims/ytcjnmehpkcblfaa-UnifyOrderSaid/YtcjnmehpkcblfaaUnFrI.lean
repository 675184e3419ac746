/- Whole numbers that came in, opened. -/
import Derived.Test.YtcjnmehpkcblfaaUnFr
import Derived.Test.YtcjnmehpkcblfaaUnT
namespace Go.Proofs.Ytcjnmehpkcblfaa
open Go Go.Wk Go.Un Go.ChangeShapes Go.WideShapes Go.ChangeAt Go.RowKit
set_option linter.unusedSimpArgs false
set_option linter.unusedVariables false

theorem open_ints {H : Type} {enc : TypeId × Value → H} {w : World} {spare : Nat → Bool} {held : Bool} {a0 : Option Addr} {l0 c0 : Nat} {d : DataW H} {p : List MemPlace} (h : DataW.Trod enc Try.prog w 0 spare held 39 (.slice a0 l0 c0) d p) : ∃ l : List Int, SlC (heapOf w) (.slice a0 l0 c0) l.length (intsI l) := by
  obtain ⟨fuel, hf⟩ := h
  obtain ⟨a, len, cap, l, e1, h1, h2, h3, h4⟩ := open_listS (fun n : Int => [Value.int .i64 n]) (fun _ => True) Try.underlying39 (show Try.prog.cellsOf 3 = 1 by kernel_rfl) (by decide) (fun _ => rfl) hf (fun n cs d' p' hh _ => by
    obtain ⟨i, e, -, -⟩ := DataW.trod_int Try.underlying3 hh
    exact ⟨i, e, trivial⟩)
  simp [Value.cells] at e1
  obtain ⟨rfl, rfl, rfl⟩ := e1
  refine ⟨l, ?_⟩
  rw [h1]
  have e : ∀ l : List Int, intsI l = l.flatMap fun n : Int => [Value.int .i64 n] := fun l => by
    unfold intsI
    induction l with
    | nil => rfl
    | cons x l ih => rw [List.map_cons, List.flatMap_cons, ih]; rfl
  rw [e]; exact h4
end Go.Proofs.Ytcjnmehpkcblfaa
