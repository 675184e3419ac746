/- What the frames of the laws share that read strconv's errors, too. -/
import Derived.Test.YtmmpbpfdnpgklaaDoorFrame
import Derived.Test.YtmmpbpfdnpgklaaDoorInt3
namespace Go.Proofs.YtmmpbpfdnpgklaaDoor
open Go Go.Wk Go.ChangeShapes Go.WideShapes Go.ChangeAt Go.RowKit
set_option linter.unusedSimpArgs false
set_option linter.unusedVariables false
open Go.ChangeMaps (open_string shut_string)

theorem gErr : Tryd.prog.globalNamed "strconv.ErrRange" = some 1 := by kernel_rfl
theorem tErr : (Tryd.prog.globals[1]?).map (·.type) = some 60 := by kernel_rfl
theorem iface_cells {H : Type} {enc : TypeId × Value → H} {w : World} {base : Nat} {sp : Nat → Bool} {held : Bool} {fuel : Nat} {t : TypeId} {ms : Array (String × TypeId)} {cs : List Value} {x : DataW H × List MemPlace}
    (ht : Tryd.prog.underlying t = some (.interface ms)) (h : DataW.trod enc Tryd.prog w base sp held fuel t cs = some x) : cs = [.nilIface] ∨ ∃ u v, cs = [.iface u v] := by
  cases fuel with
  | zero => simp [DataW.trod] at h
  | succ fuel =>
    unfold DataW.trod at h
    rw [ht] at h
    split at h <;> first | (rename_i h1; simp only [Option.some.injEq, reduceCtorEq] at h1; done) | (left; rfl) | (right; exact ⟨_, _, rfl⟩) | (simp at *; done)
def laidB : List (String × DataW Unit) := [("math/bits.deBruijn32tab", Rows.laid_math_bits_deBruijn32tab), ("math/bits.deBruijn64tab", Rows.laid_math_bits_deBruijn64tab), ("internal/strconv.uint64pow10", Rows.laid_internal_strconv_uint64pow10), ("strconv.ErrRange", Rows.laid_strconv_ErrRange), ("strconv.ErrSyntax", Rows.laid_strconv_ErrSyntax)]
theorem tab_of_laidB {W : World} (h : laidMetH Tryd.prog laidB W) : TabF (heapOf W) ∧ ErrF (heapOf W) := by
  rw [MakeChecks.laidMetH_plain _ _ _ (by kernel_rfl)] at h
  obtain ⟨ps, ⟨g0, t0, cs0, f0, p0, q0, _, _, _, _, ⟨g1, t1, cs1, f1, p1, q1, _, _, _, _, ⟨g2, t2, cs2, f2, p2, q2, hg2, ht2, hv2, hd2, ⟨g3, t3, cs3, f3, p3, q3, hg3, ht3, hv3, hd3, _, _⟩, _⟩, _⟩, _⟩, _, _⟩ := h
  obtain rfl := Option.some.inj (gPow.symm.trans hg2)
  obtain rfl := Option.some.inj (tPow.symm.trans ht2)
  obtain rfl := Option.some.inj (gErr.symm.trans hg3)
  obtain rfl := Option.some.inj (tErr.symm.trans ht3)
  refine ⟨tabF_of ?_, ?_⟩
  · unfold Lib.TabIs
    rw [hv2, ← Lib.cells_of_tab Tryd.underlying123 Tryd.underlying95 cU64 cPow (by rw [← powData]; exact hd2)]
  · have hc := iface_cells Tryd.underlying60 hd3
    unfold World.var? at hv3
    rw [gErr] at hv3
    simp only [Option.bind_some] at hv3
    cases hb : W.heap[1]? with
    | none => rw [hb] at hv3; cases hv3
    | some o =>
      rw [hb] at hv3
      cases o with
      | cells c e fz =>
        simp only [Option.some.injEq] at hv3
        subst hv3
        rcases hc with hc | ⟨u, v, hc⟩
        · exact ⟨.nilIface, ⟨c, e, fz, hb, by obtain ⟨l⟩ := c; simp only at hc; subst hc; rfl⟩, Or.inl rfl⟩
        · exact ⟨.iface u v, ⟨c, e, fz, hb, by obtain ⟨l⟩ := c; simp only at hc; subst hc; rfl⟩, Or.inr ⟨u, v, rfl⟩⟩
      | _ => cases hv3
theorem doorB (os : Os) (args : Array Value) : laidMetH Tryd.prog laidB ((World.doorLaid Tryd.prog 62 os).forCall (fun _ _ => 0) ⟨#[], args, []⟩).memory :=
  laidMetH_of_parts3 (fuel := 8) (laidMet_of_run' 8 (by kernel_rfl) (by kernel_rfl)) (by kernel_rfl) (by kernel_rfl)
end Go.Proofs.YtmmpbpfdnpgklaaDoor
