/- Walks. -/
import Derived.Test.YtgefmjghdijbfaaGreatDoorEvalNamesACard
import Derived.Test.YtgefmjghdijbfaaGreatDoorEvalNamesCCard
namespace Go.Proofs.YtgefmjghdijbfaaGreatDoor
open Go Go.Wk Go.Un Go.De Go.ChangeShapes Go.WideShapes Go.ChangeAt Go.RowKit
set_option linter.unusedSimpArgs false
set_option linter.unusedVariables false
theorem evalNamesRow_holds : Rows.EvalNamesSaid :=
 OpenClaim.holds_of_wide 4 Tryz.f4 rfl rfl rfl rfl rfl rfl rfl ⟨rfl, rfl, rfl, rfl, rfl⟩ rfl rfl rfl rfl rfl (by kernel_rfl) Tryz.func4 evalNamesClosed
  (of_decide_eq_true (by kernel_rfl)) (by unfold Func.isWrapper; first | (rw [if_pos (by decide +kernel)]; kernel_rfl) | (rw [if_neg (by decide +kernel)]; exact ⟨rfl, rfl⟩))
  (fun os started H enc _ => evalNamesLifted os started H enc)
theorem evalNames_holds : Rows.EvalNamesCardSaid :=
 Claim7.holds_tied_plain_at .later [] Rows.evalNamesCard.laidKinds true Rows.evalNamesCard.stood.harness true
  evalNamesRow_holds (fun _ h => by cases h) (by kernel_rfl) (fun _ h => by cases h) evalNames_row_tie rfl ⟨rfl, rfl⟩ (by kernel_rfl) rfl
  (fun f fn hf hfn => by
   obtain rfl : f = 4 := Option.some.inj ((show Tryz.prog.funcNamed "corollary/corollarylaw13.EvalNames" = some 4 by kernel_rfl).symm.trans hf) |>.symm
   obtain rfl : fn = Tryz.f4 := (Option.some.inj (Tryz.func4.symm.trans hfn)).symm
   exact ⟨by kernel_rfl, fun j t ht => by
    rw [Tryz.params4] at ht
    have hm : t ∈ [] := by simpa using Array.mem_of_getElem? ht
    have hall : ([].all fun u => !Tryz.prog.wantsStandIn u) = true := by kernel_rfl
    exact (show Tryz.prog.wantsStandIn t = false by simpa using List.all_eq_true.1 hall t hm)⟩)
  (by kernel_rfl)
#print axioms evalNames_holds
end Go.Proofs.YtgefmjghdijbfaaGreatDoor
