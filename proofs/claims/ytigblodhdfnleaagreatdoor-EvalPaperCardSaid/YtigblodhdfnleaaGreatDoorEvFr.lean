/- An argument that came in, opened into a list: a slice whose every element reads as 'cell x' leads to the cells of a list of such x; and what the steps' memory says of a world: 'Below'. What the frames of Eval's laws share: the variables that lie in memory when a call begins. -/
import Derived.Test.YtigblodhdfnleaaGreatDoorDig
import Derived.OpenShut
import Derived.Below
import Derived.Carry
import Derived.SizedLaws
import Derived.Deep.Slices
import Derived.Deep.Strs
import Derived.Test.YtigblodhdfnleaaGreatDoorEvS
import Derived.Test.YtigblodhdfnleaaGreatDoorRows
import Derived.Test.YtigblodhdfnleaaGreatDoorCards
import Derived.Test.YtigblodhdfnleaaGreatDoorTie
import Derived.WalkKit
import Derived.ProofKit
import Derived.LaidMore
import Derived.LaidHandle
import Derived.Lay
import Derived.ShutString
import Derived.Stop.Joined
import Derived.ChangeOld
import Derived.SevenTiedAt
namespace Go.Wk
open Go Go.ChangeShapes Go.WideShapes
set_option linter.unusedSimpArgs false
set_option linter.unusedVariables false

def heapOf (w : World) : Heap := fun b => w.heap[b]?
theorem at_heapOf (w : World) : At w (heapOf w) [] := ⟨fun _ _ h => h, fun p h => by simp at h, by simp [keys]⟩
theorem below_of {W W' : World} {F' : Heap} {G' : List Grp} (h : Tr W (heapOf W) [] W' F' G') : Go.RowKit.Below W.heap.size W W' :=
  ⟨h.os, h.tape, h.output, h.size, fun k hk => h.old k hk (by simp)⟩

theorem add_none (b off n : Nat) : (⟨b, off, none⟩ : Addr).add n = ⟨b, off + n, none⟩ := by
  unfold Addr.add; split
  · rename_i h; subst h; rfl
  · rfl

theorem Cels.append {F : Heap} {b off : Nat} {xs ys : List Value} (h1 : Cels F b off xs) (h2 : Cels F b (off + xs.length) ys) : Cels F b off (xs ++ ys) := by
  intro j v hv
  by_cases hj : j < xs.length
  · rw [List.getElem?_append_left hj] at hv; exact h1 j v hv
  · rw [List.getElem?_append_right (by omega)] at hv
    have := h2 _ v hv
    rw [show off + xs.length + (j - xs.length) = off + j by omega] at this
    exact this


end Go.Wk
namespace Go.Proofs.YtigblodhdfnleaaGreatDoor
open Go Go.Wk Go.ChangeShapes Go.WideShapes Go.ChangeAt Go.RowKit
set_option linter.unusedSimpArgs false
set_option linter.unusedVariables false

theorem ownK : ownKnob Tryz.prog.godebug = none := by kernel_rfl
theorem gPow : Tryz.prog.globalNamed "internal/strconv.uint64pow10" = some 1 := by kernel_rfl
theorem tPow : (Tryz.prog.globals[1]?).map (·.type) = some 207 := by kernel_rfl
theorem cPow : Tryz.prog.cellsOf 207 = 20 := by kernel_rfl
theorem cU64 : Tryz.prog.cellsOf 99 = 1 := by kernel_rfl
theorem powData : (Rows.laid_internal_strconv_uint64pow10 : DataW Unit) = Lib.tabData .u64 Lib.pow10Tab := rfl
theorem gErr : Tryz.prog.globalNamed "strconv.ErrRange" = some 5 := by kernel_rfl
theorem tErr : (Tryz.prog.globals[5]?).map (·.type) = some 139 := by kernel_rfl
theorem tabF_of {W : World} (h : Lib.TabIs Tryz.prog W "internal/strconv.uint64pow10" .u64 Lib.pow10Tab) : TabF (heapOf W) := by
  intro w hw
  unfold Lib.TabIs World.var? at *
  cases hg : Tryz.prog.globalNamed "internal/strconv.uint64pow10" with
  | none => rw [hg] at h; cases h
  | some g =>
    rw [hg] at h
    simp only [Option.bind_some] at h ⊢
    cases hb : W.heap[g]? with
    | none => rw [hb] at h; cases h
    | some o => rw [hw g o hb]; rw [hb] at h; exact h
theorem iface_cells {H : Type} {enc : TypeId × Value → H} {w : World} {base : Nat} {sp : Nat → Bool} {held : Bool} {fuel : Nat} {t : TypeId} {ms : Array (String × TypeId)} {cs : List Value} {x : DataW H × List MemPlace}
    (ht : Tryz.prog.underlying t = some (.interface ms)) (h : DataW.trod enc Tryz.prog w base sp held fuel t cs = some x) : cs = [.nilIface] ∨ ∃ u v, cs = [.iface u v] := by
  cases fuel with
  | zero => simp [DataW.trod] at h
  | succ fuel =>
    unfold DataW.trod at h
    rw [ht] at h
    split at h <;> first | (rename_i h1; simp only [Option.some.injEq, reduceCtorEq] at h1; done) | (left; rfl) | (right; exact ⟨_, _, rfl⟩) | (simp at *; done)
def laidE : List (String × DataW Unit) := [("math/bits.deBruijn32tab", Rows.laid_math_bits_deBruijn32tab), ("math/bits.deBruijn64tab", Rows.laid_math_bits_deBruijn64tab), ("internal/strconv.uint64pow10", Rows.laid_internal_strconv_uint64pow10), ("unicode/utf8.acceptRanges", Rows.laid_unicode_utf8_acceptRanges), ("strconv.ErrRange", Rows.laid_strconv_ErrRange), ("strconv.ErrSyntax", Rows.laid_strconv_ErrSyntax), ("unicode/utf8.first", Rows.laid_unicode_utf8_first)]
theorem tab_of_laidE {W : World} (h : laidMetH Tryz.prog laidE W) : TabF (heapOf W) ∧ ErrF (heapOf W) := by
  rw [MakeChecks.laidMetH_plain _ _ _ (by kernel_rfl)] at h
  obtain ⟨ps, ⟨g0, t0, cs0, f0, p0, q0, _, _, _, _, ⟨g1, t1, cs1, f1, p1, q1, _, _, _, _, ⟨g2, t2, cs2, f2, p2, q2, hg2, ht2, hv2, hd2, ⟨g4, t4, cs4, f4, p4, q4, _, _, _, _, ⟨g3, t3, cs3, f3, p3, q3, hg3, ht3, hv3, hd3, _, _⟩, _⟩, _⟩, _⟩, _⟩, _, _⟩ := h
  obtain rfl := Option.some.inj (gPow.symm.trans hg2)
  obtain rfl := Option.some.inj (tPow.symm.trans ht2)
  obtain rfl := Option.some.inj (gErr.symm.trans hg3)
  obtain rfl := Option.some.inj (tErr.symm.trans ht3)
  refine ⟨tabF_of ?_, ?_⟩
  · unfold Lib.TabIs
    rw [hv2, ← Lib.cells_of_tab Tryz.underlying207 Tryz.underlying99 cU64 cPow (by rw [← powData]; exact hd2)]
  · have hc := iface_cells Tryz.underlying139 hd3
    unfold World.var? at hv3
    rw [gErr] at hv3
    simp only [Option.bind_some] at hv3
    cases hb : W.heap[5]? with
    | none => rw [hb] at hv3; cases hv3
    | some o =>
      rw [hb] at hv3
      cases o with
      | cells c e fz =>
        simp only [Option.some.injEq] at hv3
        subst hv3
        rcases hc with hc | ⟨u, v, hc⟩
        · exact ⟨.nilIface, ⟨c, e, fz, hb, by obtain ⟨l⟩ := c; simp only at hc; subst hc; rfl⟩, Or.inl rfl⟩
        · exact ⟨.iface u v, ⟨c, e, fz, hb, by obtain ⟨l⟩ := c; simp only at hc; subst hc; rfl⟩, Or.inr ⟨u, v, rfl⟩⟩
      | _ => cases hv3
/-- A world that meets the condition: all seven laid. -/
noncomputable def startW (os : Os) : World := World.laidAll Tryz.prog os laidE
theorem startW_os (os : Os) : (startW os).os = os := World.laidAll_os _ _ _
theorem doorE (os : Os) (args : Array Value) : laidMetH Tryz.prog laidE ((startW os).forCall (fun _ _ => 0) ⟨#[], args, []⟩).memory :=
  laidMetH_of_parts3 (fuel := 8) (laidMet_laidAll (laid := laidE) args (by kernel_rfl) (by kernel_rfl)) (by kernel_rfl) (by kernel_rfl)
end Go.Proofs.YtigblodhdfnleaaGreatDoor
