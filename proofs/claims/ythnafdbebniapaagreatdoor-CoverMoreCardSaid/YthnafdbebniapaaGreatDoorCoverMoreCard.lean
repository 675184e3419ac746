/- Walks. -/
import Derived.Test.YthnafdbebniapaaGreatDoorCoverMoreACard
import Derived.Test.YthnafdbebniapaaGreatDoorCoverMoreCCard
namespace Go.Proofs.YthnafdbebniapaaGreatDoor
open Go Go.Wk Go.Un Go.De Go.ChangeShapes Go.WideShapes Go.ChangeAt Go.RowKit
set_option linter.unusedSimpArgs false
set_option linter.unusedVariables false
theorem coverMoreRow_holds : Rows.CoverMoreSaid :=
  OpenClaim.holds_of_wide 8 Tryz.f8 rfl rfl rfl rfl rfl rfl rfl ⟨rfl, rfl, rfl, rfl, rfl⟩ rfl rfl rfl rfl rfl (by kernel_rfl) Tryz.func8 coverMoreClosed
    (of_decide_eq_true (by kernel_rfl)) (by unfold Func.isWrapper; first | (rw [if_pos (by decide +kernel)]; kernel_rfl) | (rw [if_neg (by decide +kernel)]; exact ⟨rfl, rfl⟩))
    (fun os started H enc _ => coverMoreLifted os started H enc)
theorem coverMore_holds : Rows.CoverMoreCardSaid :=
  Claim7.holds_tied_plain_at .later [] Rows.coverMoreCard.laidKinds true Rows.coverMoreCard.stood.harness true
    coverMoreRow_holds (fun _ h => by cases h) (by kernel_rfl) (fun _ h => by cases h) coverMore_row_tie rfl ⟨rfl, rfl⟩ (by kernel_rfl) rfl
    (fun f fn hf hfn => by
      obtain rfl : f = 8 := Option.some.inj ((show Tryz.prog.funcNamed "corollary/corollarylaw12.CoverMore" = some 8 by kernel_rfl).symm.trans hf) |>.symm
      obtain rfl : fn = Tryz.f8 := (Option.some.inj (Tryz.func8.symm.trans hfn)).symm
      exact ⟨by kernel_rfl, fun j t ht => by
        rw [Tryz.params8] at ht
        have hm : t ∈ [46, 47, 79] := by simpa using Array.mem_of_getElem? ht
        have hall : ([46, 47, 79].all fun u => !Tryz.prog.wantsStandIn u) = true := by kernel_rfl
        exact (show Tryz.prog.wantsStandIn t = false by simpa using List.all_eq_true.1 hall t hm)⟩)
    (by kernel_rfl)
#print axioms coverMore_holds
end Go.Proofs.YthnafdbebniapaaGreatDoor
