/- Walks. -/
import Derived.Test.YthnafdbebniapaaGreatDoorCoverNamesACard
import Derived.Test.YthnafdbebniapaaGreatDoorCoverNamesCCard
namespace Go.Proofs.YthnafdbebniapaaGreatDoor
open Go Go.Wk Go.Un Go.De Go.ChangeShapes Go.WideShapes Go.ChangeAt Go.RowKit
set_option linter.unusedSimpArgs false
set_option linter.unusedVariables false
theorem coverNamesRow_holds : Rows.CoverNamesSaid :=
 OpenClaim.holds_of_wide 6 Tryz.f6 rfl rfl rfl rfl rfl rfl rfl ⟨rfl, rfl, rfl, rfl, rfl⟩ rfl rfl rfl rfl rfl (by kernel_rfl) Tryz.func6 coverNamesClosed
  (of_decide_eq_true (by kernel_rfl)) (by unfold Func.isWrapper; first | (rw [if_pos (by decide +kernel)]; kernel_rfl) | (rw [if_neg (by decide +kernel)]; exact ⟨rfl, rfl⟩))
  (fun os started H enc _ => coverNamesLifted os started H enc)
theorem coverNames_holds : Rows.CoverNamesCardSaid :=
 Claim7.holds_tied_plain_at .later [] Rows.coverNamesCard.laidKinds true Rows.coverNamesCard.stood.harness true
  coverNamesRow_holds (fun _ h => by cases h) (by kernel_rfl) (fun _ h => by cases h) coverNames_row_tie rfl ⟨rfl, rfl⟩ (by kernel_rfl) rfl
  (fun f fn hf hfn => by
   obtain rfl : f = 6 := Option.some.inj ((show Tryz.prog.funcNamed "corollary/corollarylaw12.CoverNames" = some 6 by kernel_rfl).symm.trans hf) |>.symm
   obtain rfl : fn = Tryz.f6 := (Option.some.inj (Tryz.func6.symm.trans hfn)).symm
   exact ⟨by kernel_rfl, fun j t ht => by
    rw [Tryz.params6] at ht
    have hm : t ∈ [] := by simpa using Array.mem_of_getElem? ht
    have hall : ([].all fun u => !Tryz.prog.wantsStandIn u) = true := by kernel_rfl
    exact (show Tryz.prog.wantsStandIn t = false by simpa using List.all_eq_true.1 hall t hm)⟩)
  (by kernel_rfl)
#print axioms coverNames_holds
end Go.Proofs.YthnafdbebniapaaGreatDoor
