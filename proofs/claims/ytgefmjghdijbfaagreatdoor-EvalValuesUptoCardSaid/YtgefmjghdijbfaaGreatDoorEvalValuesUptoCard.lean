/- Walks. -/
import Derived.Test.YtgefmjghdijbfaaGreatDoorEvalValuesUptoACard
import Derived.Test.YtgefmjghdijbfaaGreatDoorEvalValuesUptoCCard
namespace Go.Proofs.YtgefmjghdijbfaaGreatDoor
open Go Go.Wk Go.Un Go.De Go.ChangeShapes Go.WideShapes Go.ChangeAt Go.RowKit
set_option linter.unusedSimpArgs false
set_option linter.unusedVariables false
theorem evalValuesRow_holds : Rows.EvalValuesUptoSaid :=
 OpenClaim.holds_of_cond 3 Tryz.f3 rfl rfl rfl rfl rfl rfl rfl ⟨rfl, rfl, rfl, rfl, rfl⟩ rfl rfl rfl rfl rfl (by kernel_rfl) Tryz.func3 evalValuesClosed
  (of_decide_eq_true (by kernel_rfl)) (by unfold Func.isWrapper; first | (rw [if_pos (by decide +kernel)]; kernel_rfl) | (rw [if_neg (by decide +kernel)]; exact ⟨rfl, rfl⟩))
  (fun os started H enc _ F => by rw [OpenClaim.pre_eq_preRow]; exact evalValuesLifted os started H enc F)
theorem evalValues_holds : Rows.EvalValuesUptoCardSaid :=
 Claim7.holds_tied_plain_at .later [] _ _ _ _ evalValuesRow_holds (fun _ h => by cases h) (by kernel_rfl) (fun _ h => by cases h) evalValuesUpto_row_tie rfl ⟨rfl, rfl⟩ (by kernel_rfl) rfl
  (fun f fn hf hfn => by
   obtain rfl : f = 3 := Option.some.inj ((show Tryz.prog.funcNamed "corollary/corollarylaw13.EvalValues" = some 3 by kernel_rfl).symm.trans hf) |>.symm
   obtain rfl : fn = Tryz.f3 := (Option.some.inj (Tryz.func3.symm.trans hfn)).symm
   exact ⟨by kernel_rfl, fun j t ht => by
    rw [Tryz.params3] at ht
    have hm : t ∈ [28, 36, 37] := by simpa using Array.mem_of_getElem? ht
    have hall : ([28, 36, 37].all fun u => !Tryz.prog.wantsStandIn u) = true := by kernel_rfl
    exact (show Tryz.prog.wantsStandIn t = false by simpa using List.all_eq_true.1 hall t hm)⟩)
  (by kernel_rfl)
#print axioms evalValues_holds
end Go.Proofs.YtgefmjghdijbfaaGreatDoor
