/- Walks. -/
import Derived.Test.YtbhipiepfclneaaGreatDoorGroupPlaysACard
import Derived.Test.YtbhipiepfclneaaGreatDoorGroupPlaysCCard
namespace Go.Proofs.YtbhipiepfclneaaGreatDoor
open Go Go.Wk Go.Un Go.De Go.ChangeShapes Go.WideShapes Go.ChangeAt Go.RowKit
set_option linter.unusedSimpArgs false
set_option linter.unusedVariables false
theorem groupPlaysRow_holds : Rows.GroupPlaysSaid :=
 OpenClaim.holds_of_wide 5 Tryz.f5 rfl rfl rfl rfl rfl rfl rfl ⟨rfl, rfl, rfl, rfl, rfl⟩ rfl rfl rfl rfl rfl (by kernel_rfl) Tryz.func5 groupPlaysClosed
  (of_decide_eq_true (by kernel_rfl)) (by unfold Func.isWrapper; first | (rw [if_pos (by decide +kernel)]; kernel_rfl) | (rw [if_neg (by decide +kernel)]; exact ⟨rfl, rfl⟩))
  (fun os started H enc _ => groupPlaysLifted os started H enc)
theorem groupPlays_holds : Rows.GroupPlaysCardSaid :=
 Claim7.holds_tied_plain_at .later [] Rows.groupPlaysCard.laidKinds true Rows.groupPlaysCard.stood.harness true
  groupPlaysRow_holds (fun _ h => by cases h) (by kernel_rfl) (fun _ h => by cases h) groupPlays_row_tie rfl ⟨rfl, rfl⟩ (by kernel_rfl) rfl
  (fun f fn hf hfn => by
   obtain rfl : f = 5 := Option.some.inj ((show Tryz.prog.funcNamed "corollary/corollarylaw22.GroupPlays" = some 5 by kernel_rfl).symm.trans hf) |>.symm
   obtain rfl : fn = Tryz.f5 := (Option.some.inj (Tryz.func5.symm.trans hfn)).symm
   exact ⟨by kernel_rfl, fun j t ht => by
    rw [Tryz.params5] at ht
    have hm : t ∈ [22, 23] := by simpa using Array.mem_of_getElem? ht
    have hall : ([22, 23].all fun u => !Tryz.prog.wantsStandIn u) = true := by kernel_rfl
    exact (show Tryz.prog.wantsStandIn t = false by simpa using List.all_eq_true.1 hall t hm)⟩)
  (by kernel_rfl)
#print axioms groupPlays_holds
end Go.Proofs.YtbhipiepfclneaaGreatDoor
