/- Walks. -/
import Derived.Test.YthnafdbebniapaaGreatDoorCoverFitsACard
import Derived.Test.YthnafdbebniapaaGreatDoorCoverFitsCCard
namespace Go.Proofs.YthnafdbebniapaaGreatDoor
open Go Go.Wk Go.Un Go.De Go.ChangeShapes Go.WideShapes Go.ChangeAt Go.RowKit
set_option linter.unusedSimpArgs false
set_option linter.unusedVariables false
theorem coverFitsRow_holds : Rows.CoverFitsSaid :=
 OpenClaim.holds_of_wide 4 Tryz.f4 rfl rfl rfl rfl rfl rfl rfl ⟨rfl, rfl, rfl, rfl, rfl⟩ rfl rfl rfl rfl rfl (by kernel_rfl) Tryz.func4 coverFitsClosed
  (of_decide_eq_true (by kernel_rfl)) (by unfold Func.isWrapper; first | (rw [if_pos (by decide +kernel)]; kernel_rfl) | (rw [if_neg (by decide +kernel)]; exact ⟨rfl, rfl⟩))
  (fun os started H enc _ => coverFitsLifted os started H enc)
theorem coverFits_holds : Rows.CoverFitsCardSaid :=
 Claim7.holds_tied_plain_at .later [] Rows.coverFitsCard.laidKinds true Rows.coverFitsCard.stood.harness true
  coverFitsRow_holds (fun _ h => by cases h) (by kernel_rfl) (fun _ h => by cases h) coverFits_row_tie rfl ⟨rfl, rfl⟩ (by kernel_rfl) rfl
  (fun f fn hf hfn => by
   obtain rfl : f = 4 := Option.some.inj ((show Tryz.prog.funcNamed "corollary/corollarylaw12.CoverFits" = some 4 by kernel_rfl).symm.trans hf) |>.symm
   obtain rfl : fn = Tryz.f4 := (Option.some.inj (Tryz.func4.symm.trans hfn)).symm
   exact ⟨by kernel_rfl, fun j t ht => by
    rw [Tryz.params4] at ht
    have hm : t ∈ [46, 29, 49] := by simpa using Array.mem_of_getElem? ht
    have hall : ([46, 29, 49].all fun u => !Tryz.prog.wantsStandIn u) = true := by kernel_rfl
    exact (show Tryz.prog.wantsStandIn t = false by simpa using List.all_eq_true.1 hall t hm)⟩)
  (by kernel_rfl)
#print axioms coverFits_holds
end Go.Proofs.YthnafdbebniapaaGreatDoor
