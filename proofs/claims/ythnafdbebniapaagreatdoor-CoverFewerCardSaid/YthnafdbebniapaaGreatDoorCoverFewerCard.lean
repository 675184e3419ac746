/- Walks. -/
import Derived.Test.YthnafdbebniapaaGreatDoorCoverFewerACard
import Derived.Test.YthnafdbebniapaaGreatDoorCoverFewerCCard
namespace Go.Proofs.YthnafdbebniapaaGreatDoor
open Go Go.Wk Go.Un Go.De Go.ChangeShapes Go.WideShapes Go.ChangeAt Go.RowKit
set_option linter.unusedSimpArgs false
set_option linter.unusedVariables false
theorem coverFewerRow_holds : Rows.CoverFewerSaid :=
  OpenClaim.holds_of_wide 7 Tryz.f7 rfl rfl rfl rfl rfl rfl rfl ⟨rfl, rfl, rfl, rfl, rfl⟩ rfl rfl rfl rfl rfl (by kernel_rfl) Tryz.func7 coverFewerClosed
    (of_decide_eq_true (by kernel_rfl)) (by unfold Func.isWrapper; first | (rw [if_pos (by decide +kernel)]; kernel_rfl) | (rw [if_neg (by decide +kernel)]; exact ⟨rfl, rfl⟩))
    (fun os started H enc _ => coverFewerLifted os started H enc)
theorem coverFewer_holds : Rows.CoverFewerCardSaid :=
  Claim7.holds_tied_plain_at .later [] Rows.coverFewerCard.laidKinds true Rows.coverFewerCard.stood.harness true
    coverFewerRow_holds (fun _ h => by cases h) (by kernel_rfl) (fun _ h => by cases h) coverFewer_row_tie rfl ⟨rfl, rfl⟩ (by kernel_rfl) rfl
    (fun f fn hf hfn => by
      obtain rfl : f = 7 := Option.some.inj ((show Tryz.prog.funcNamed "corollary/corollarylaw12.CoverFewer" = some 7 by kernel_rfl).symm.trans hf) |>.symm
      obtain rfl : fn = Tryz.f7 := (Option.some.inj (Tryz.func7.symm.trans hfn)).symm
      exact ⟨by kernel_rfl, fun j t ht => by
        rw [Tryz.params7] at ht
        have hm : t ∈ [46, 47, 79] := by simpa using Array.mem_of_getElem? ht
        have hall : ([46, 47, 79].all fun u => !Tryz.prog.wantsStandIn u) = true := by kernel_rfl
        exact (show Tryz.prog.wantsStandIn t = false by simpa using List.all_eq_true.1 hall t hm)⟩)
    (by kernel_rfl)
#print axioms coverFewer_holds
end Go.Proofs.YthnafdbebniapaaGreatDoor
