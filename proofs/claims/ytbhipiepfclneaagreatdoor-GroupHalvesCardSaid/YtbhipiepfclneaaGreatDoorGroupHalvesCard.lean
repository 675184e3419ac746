/- Walks. -/
import Derived.Test.YtbhipiepfclneaaGreatDoorGroupHalvesACard
import Derived.Test.YtbhipiepfclneaaGreatDoorGroupHalvesCCard
namespace Go.Proofs.YtbhipiepfclneaaGreatDoor
open Go Go.Wk Go.Un Go.De Go.ChangeShapes Go.WideShapes Go.ChangeAt Go.RowKit
set_option linter.unusedSimpArgs false
set_option linter.unusedVariables false
theorem groupHalvesRow_holds : Rows.GroupHalvesSaid :=
 OpenClaim.holds_of_wide 4 Tryz.f4 rfl rfl rfl rfl rfl rfl rfl ⟨rfl, rfl, rfl, rfl, rfl⟩ rfl rfl rfl rfl rfl (by kernel_rfl) Tryz.func4 groupHalvesClosed
  (of_decide_eq_true (by kernel_rfl)) (by unfold Func.isWrapper; first | (rw [if_pos (by decide +kernel)]; kernel_rfl) | (rw [if_neg (by decide +kernel)]; exact ⟨rfl, rfl⟩))
  (fun os started H enc _ => groupHalvesLifted os started H enc)
theorem groupHalves_holds : Rows.GroupHalvesCardSaid :=
 Claim7.holds_tied_plain_at .later [] Rows.groupHalvesCard.laidKinds true Rows.groupHalvesCard.stood.harness true
  groupHalvesRow_holds (fun _ h => by cases h) (by kernel_rfl) (fun _ h => by cases h) groupHalves_row_tie rfl ⟨rfl, rfl⟩ (by kernel_rfl) rfl
  (fun f fn hf hfn => by
   obtain rfl : f = 4 := Option.some.inj ((show Tryz.prog.funcNamed "corollary/corollarylaw22.GroupHalves" = some 4 by kernel_rfl).symm.trans hf) |>.symm
   obtain rfl : fn = Tryz.f4 := (Option.some.inj (Tryz.func4.symm.trans hfn)).symm
   exact ⟨by kernel_rfl, fun j t ht => by
    rw [Tryz.params4] at ht
    have hm : t ∈ [42, 42] := by simpa using Array.mem_of_getElem? ht
    have hall : ([42, 42].all fun u => !Tryz.prog.wantsStandIn u) = true := by kernel_rfl
    exact (show Tryz.prog.wantsStandIn t = false by simpa using List.all_eq_true.1 hall t hm)⟩)
  (by kernel_rfl)
#print axioms groupHalves_holds
end Go.Proofs.YtbhipiepfclneaaGreatDoor
