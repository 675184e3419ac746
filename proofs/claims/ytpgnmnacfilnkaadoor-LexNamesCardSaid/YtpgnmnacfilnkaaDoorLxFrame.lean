/- What the frames of the lexer's laws share: the table of blanks that lies in memory when a call begins. -/
import Derived.Test.YtpgnmnacfilnkaaDoorLxB
import Derived.Test.YtpgnmnacfilnkaaDoorOpen
import Derived.Test.YtpgnmnacfilnkaaDoorRows
import Derived.Test.YtpgnmnacfilnkaaDoorCards
import Derived.Test.YtpgnmnacfilnkaaDoorTie
import Derived.WalkKit
import Derived.ProofKit
import Derived.LaidMore
import Derived.OpenShut
import Derived.ShutString
import Derived.Stop.Joined
import Derived.ChangeOld
import Derived.Below
import Derived.SizedLaws
import Derived.SevenTiedAt
namespace Go.Proofs.YtpgnmnacfilnkaaDoor
open Go Go.Wk Go.ChangeShapes Go.WideShapes Go.ChangeAt Go.RowKit
set_option linter.unusedSimpArgs false
set_option linter.unusedVariables false
open Go.ChangeMaps (open_string shut_string)

theorem ownK : ownKnob Tryd.prog.godebug = none := by kernel_rfl
theorem laidOut : laidOutB Tryd.prog = true := by kernel_rfl
theorem gSp : Tryd.prog.globalNamed "strings.asciiSpace" = some 0 := by kernel_rfl
theorem tSp : (Tryd.prog.globals[0]?).map (·.type) = some 81 := by kernel_rfl
theorem cSp : Tryd.prog.cellsOf 81 = 256 := by kernel_rfl
theorem cU8 : Tryd.prog.cellsOf 5 = 1 := by kernel_rfl
theorem spData : (Rows.laid_strings_asciiSpace : DataW Unit) = Lib.tabData .u8 Lib.asciiSpaceTab := by kernel_rfl
def laidL : List (String × DataW Unit) := [("unicode.White_Space", Rows.laid_unicode_White_Space), ("strings.asciiSpace", Rows.laid_strings_asciiSpace)]
theorem spF_of {W : World} (h : Lib.TabIs Tryd.prog W "strings.asciiSpace" .u8 Lib.asciiSpaceTab) : SpF (heapOf W) := by
  intro w hw
  unfold Lib.TabIs World.var? at *
  cases hg : Tryd.prog.globalNamed "strings.asciiSpace" with
  | none => rw [hg] at h; cases h
  | some g =>
    rw [hg] at h
    simp only [Option.bind_some] at h ⊢
    cases hb : W.heap[g]? with
    | none => rw [hb] at h; cases h
    | some o => rw [hw g o hb]; rw [hb] at h; exact h
theorem sp_of_laidL {W : World} (h : laidMetH Tryd.prog laidL W) : SpF (heapOf W) := by
  rw [MakeChecks.laidMetH_plain _ _ _ (by kernel_rfl)] at h
  obtain ⟨ps, ⟨g0, t0, cs0, f0, p0, q0, _, _, _, _, ⟨g1, t1, cs1, f1, p1, q1, hg1, ht1, hv1, hd1, _, _⟩, _⟩, _, _⟩ := h
  obtain rfl := Option.some.inj (gSp.symm.trans hg1)
  obtain rfl := Option.some.inj (tSp.symm.trans ht1)
  refine spF_of ?_
  unfold Lib.TabIs
  rw [hv1, ← Lib.cells_of_tab Tryd.underlying81 Tryd.underlying5 cU8 cSp (by rw [← spData]; exact hd1)]
/-- The door's own heap meets the condition. -/
theorem doorL (os : Os) (args : Array Value) : laidMetH Tryd.prog laidL ((World.doorLaid Tryd.prog 33 os).forCall (fun _ _ => 0) ⟨#[], args, []⟩).memory :=
  laidMetH_of_parts3 (fuel := 8) (laidMet_of_run' 8 (by kernel_rfl) (by kernel_rfl)) (by kernel_rfl) (by kernel_rfl)
end Go.Proofs.YtpgnmnacfilnkaaDoor
