/- Walks. -/
import Derived.Test.YtgefmjghdijbfaaGreatDoorQ19
import Derived.Test.YtgefmjghdijbfaaGreatDoorQ26
import Derived.Test.YtgefmjghdijbfaaGreatDoorRows
import Derived.Test.YtgefmjghdijbfaaGreatDoorCards
import Derived.Test.YtgefmjghdijbfaaGreatDoorTie
import Derived.WalkKit
import Derived.ProofKit
import Derived.LaidMore
import Derived.LaidHandle
import Derived.Lay
import Derived.OpenShut
import Derived.ShutString
import Derived.Stop.Joined
import Derived.ChangeOld
import Derived.Below
import Derived.SizedLaws
import Derived.SevenTiedAt
namespace Go.Proofs.YtgefmjghdijbfaaGreatDoor
open Go Go.Wk Go.Un Go.De Go.ChangeShapes Go.WideShapes Go.ChangeAt Go.RowKit
set_option linter.unusedSimpArgs false
set_option linter.unusedVariables false
theorem ownK : ownKnob Tryz.prog.godebug = none := by kernel_rfl
theorem laidOut : laidOutB Tryz.prog = true := by kernel_rfl
theorem gPow : Tryz.prog.globalNamed "internal/strconv.uint64pow10" = some 2 := by kernel_rfl
theorem tPow : (Tryz.prog.globals[2]?).map (·.type) = some 303 := by kernel_rfl
theorem cPow : Tryz.prog.cellsOf 303 = 20 := by kernel_rfl
theorem cU64 : Tryz.prog.cellsOf 186 = 1 := by kernel_rfl
theorem powData : (Rows.laid_internal_strconv_uint64pow10 : DataW Unit) = Lib.tabData .u64 Lib.pow10Tab := rfl
theorem gErrR : Tryz.prog.globalNamed "strconv.ErrRange" = some 6 := by kernel_rfl
theorem tErrR : (Tryz.prog.globals[6]?).map (·.type) = some 119 := by kernel_rfl
theorem tabF_of {W : World} (h : Lib.TabIs Tryz.prog W "internal/strconv.uint64pow10" .u64 Lib.pow10Tab) : TabF (heapOf W) := by
 intro w hw
 unfold Lib.TabIs World.var? at *
 cases hg : Tryz.prog.globalNamed "internal/strconv.uint64pow10" with
 | none => rw [hg] at h; cases h
 | some g =>
  rw [hg] at h
  simp only [Option.bind_some] at h ⊢
  cases hb : W.heap[g]? with
  | none => rw [hb] at h; cases h
  | some o => rw [hw g o hb]; rw [hb] at h; exact h
theorem iface_cells {H : Type} {enc : TypeId × Value → H} {w : World} {base : Nat} {sp : Nat → Bool} {held : Bool} {fuel : Nat} {t : TypeId} {ms : Array (String × TypeId)} {cs : List Value} {x : DataW H × List MemPlace}
  (ht : Tryz.prog.underlying t = some (.interface ms)) (h : DataW.trod enc Tryz.prog w base sp held fuel t cs = some x) : cs = [.nilIface] ∨ ∃ u v, cs = [.iface u v] := by
 cases fuel with
 | zero => simp [DataW.trod] at h
 | succ fuel =>
  unfold DataW.trod at h
  rw [ht] at h
  split at h <;> first | (rename_i h1; simp only [Option.some.injEq, reduceCtorEq] at h1; done) | (left; rfl) | (right; exact ⟨_, _, rfl⟩) | (simp at *; done)
def laidD : List (String × DataW Unit) := [("math/bits.deBruijn32tab", Rows.laid_math_bits_deBruijn32tab), ("math/bits.deBruijn64tab", Rows.laid_math_bits_deBruijn64tab), ("internal/strconv.uint64pow10", Rows.laid_internal_strconv_uint64pow10), ("unicode/utf8.acceptRanges", Rows.laid_unicode_utf8_acceptRanges), ("strconv.ErrRange", Rows.laid_strconv_ErrRange), ("strconv.ErrSyntax", Rows.laid_strconv_ErrSyntax), ("unicode/utf8.first", Rows.laid_unicode_utf8_first)]
def laidA : List (String × DataW Unit) := [("math/bits.deBruijn32tab", Rows.laid_math_bits_deBruijn32tab), ("math/bits.deBruijn64tab", Rows.laid_math_bits_deBruijn64tab), ("internal/strconv.uint64pow10", Rows.laid_internal_strconv_uint64pow10), ("unicode/utf8.acceptRanges", Rows.laid_unicode_utf8_acceptRanges), ("errors.errorType", Rows.laid_errors_errorType), ("strconv.ErrRange", Rows.laid_strconv_ErrRange), ("strconv.ErrSyntax", Rows.laid_strconv_ErrSyntax), ("unicode/utf8.first", Rows.laid_unicode_utf8_first)]
theorem gErr : Tryz.prog.globalNamed "errors.errorType" = some 0 := by kernel_rfl
theorem rtErr : (Tryz.prog.cutTypes.find? (·.1 == "internal/reflectlite.rtype")).map (·.2) = some 208 := by kernel_rfl
theorem oneErr : ((List.range Tryz.prog.types.size).filter fun t => Tryz.prog.rowNamed t [101, 114, 114, 111, 114]) = [119] := by kernel_rfl
theorem vars_of {W : World} (h : laidMetH Tryz.prog laidA W) : EnK (heapOf W) := by
 have h' : laidMet Tryz.prog laidD W ∧ handlesMet Tryz.prog [("errors.errorType", Rows.laid_errors_errorType)] W := h
 have hTE : TabF (heapOf W) ∧ ErrF (heapOf W) := by
  obtain ⟨ps, ⟨g0, t0, cs0, f0, p0, q0, _, _, _, _, ⟨g1, t1, cs1, f1, p1, q1, _, _, _, _, ⟨g2, t2, cs2, f2, p2, q2, hg2, ht2, hv2, hd2, ⟨g4, t4, cs4, f4, p4, q4, _, _, _, _, ⟨g3, t3, cs3, f3, p3, q3, hg3, ht3, hv3, hd3, _, _⟩, _⟩, _⟩, _⟩, _⟩, _, _⟩ := h'.1
  obtain rfl := Option.some.inj (gPow.symm.trans hg2)
  obtain rfl := Option.some.inj (tPow.symm.trans ht2)
  obtain rfl := Option.some.inj (gErrR.symm.trans hg3)
  obtain rfl := Option.some.inj (tErrR.symm.trans ht3)
  refine ⟨tabF_of ?_, ?_⟩
  ·unfold Lib.TabIs
   rw [hv2, ← Lib.cells_of_tab Tryz.underlying303 Tryz.underlying186 cU64 cPow (by rw [← powData]; exact hd2)]
  ·have hc := iface_cells Tryz.underlying119 hd3
   unfold World.var? at hv3
   rw [gErrR] at hv3
   simp only [Option.bind_some] at hv3
   cases hb : W.heap[6]? with
   | none => rw [hb] at hv3; cases hv3
   | some o =>
    rw [hb] at hv3
    cases o with
    | cells c e fz =>
     simp only [Option.some.injEq] at hv3
     subst hv3
     rcases hc with hc | ⟨u, v, hc⟩
     ·exact ⟨.nilIface, ⟨c, e, fz, hb, by obtain ⟨l⟩ := c; simp only at hc; subst hc; rfl⟩, Or.inl rfl⟩
     ·exact ⟨.iface u v, ⟨c, e, fz, hb, by obtain ⟨l⟩ := c; simp only at hc; subst hc; rfl⟩, Or.inr ⟨u, v, rfl⟩⟩
    | _ => cases hv3
 refine ⟨hTE.1, hTE.2, ?_⟩
 ·obtain ⟨name, u, ty, e1, e2, e3, e4, e5⟩ := h'.2 _ (List.mem_singleton.2 rfl)
  have en : name = [101, 114, 114, 111, 114] := (Option.some.inj e1).symm
  subst en
  obtain rfl := Option.some.inj (rtErr.symm.trans e2)
  have hm : ty ∈ (List.range Tryz.prog.types.size).filter fun t => Tryz.prog.rowNamed t [101, 114, 114, 111, 114] := List.mem_filter.2 ⟨List.mem_range.2 e3, e4⟩
  rw [oneErr] at hm
  obtain rfl := List.mem_singleton.1 hm
  have hh : typeHandle Tryz.prog 119 = hd 119 := by kernel_rfl
  rw [hh] at e5
  have h6 : W.cell? ⟨0, 0, none⟩ = some (.iface 208 (.agg #[hd 119])) := by simpa using World.var?_cell gErr e5 0
  exact (cel_of h6).2
noncomputable def startW (os : Os) : World := (World.doorLaid Tryz.prog 400 os).layVars Tryz.prog laidD
theorem startW_os (os : Os) : (startW os).os = os := (World.layVars_os _ _ _).trans rfl
theorem laidD_met (os : Os) : laidMet Tryz.prog laidD (startW os) :=
 laidMet_layVars (w0 := World.doorLaid Tryz.prog 400 os) (laidD.map (·.1)) [] (by kernel_rfl) (by kernel_rfl) (by kernel_rfl) LaidIn.none
theorem doorA (os : Os) (args : Array Value) : laidMetH Tryz.prog laidA ((startW os).forCall (fun _ _ => 0) ⟨#[], args, []⟩).memory :=
 laidMetH_of_parts3 (fuel := 8) ((laidD_met os).of_heap (by simp [World.memory, World.forCall, Input.heap])) (by kernel_rfl) (by kernel_rfl)
end Go.Proofs.YtgefmjghdijbfaaGreatDoor
