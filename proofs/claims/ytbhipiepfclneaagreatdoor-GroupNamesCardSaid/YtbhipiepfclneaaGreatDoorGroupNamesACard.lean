/- Walks. -/
import Derived.Test.YtbhipiepfclneaaGreatDoorQ18
import Derived.Test.YtbhipiepfclneaaGreatDoorQ17
import Derived.Test.YtbhipiepfclneaaGreatDoorQ16
import Derived.Test.YtbhipiepfclneaaGreatDoorQ11
import Derived.Test.YtbhipiepfclneaaGreatDoorQ09
import Derived.Test.YtbhipiepfclneaaGreatDoorQ06
import Derived.Test.YtbhipiepfclneaaGreatDoorQ05
import Derived.Test.YtbhipiepfclneaaGreatDoorQ04
import Derived.Test.YtbhipiepfclneaaGreatDoorQ03
import Derived.Test.YtbhipiepfclneaaGreatDoorQ02
import Derived.Test.YtbhipiepfclneaaGreatDoorQ01
import Derived.Test.YtbhipiepfclneaaGreatDoorKGroupNamesTy
import Derived.Test.YtbhipiepfclneaaGreatDoorQ10
import Derived.Test.YtbhipiepfclneaaGreatDoorQ07
import Derived.Test.YtbhipiepfclneaaGreatDoorQShelf
import Derived.Test.YtbhipiepfclneaaGreatDoorQ14
import Derived.Test.YtbhipiepfclneaaGreatDoorQ12
import Derived.Test.YtbhipiepfclneaaGreatDoorQ15
import Derived.Test.YtbhipiepfclneaaGreatDoorQ13
import Derived.Test.YtbhipiepfclneaaGreatDoorKGroupNames01
set_option maxRecDepth 100000
namespace Go.Proofs.YtbhipiepfclneaaGreatDoor
open Go Go.Wk Go.Un Go.De Go.ChangeShapes Go.WideShapes Go.ChangeAt Go.RowKit
set_option linter.unusedSimpArgs false
set_option linter.unusedVariables false
open Go.ChangeMaps (open_string shut_string)
theorem groupNamesLifted (os : Os) (started : os.Started) (H : Type) (enc : TypeId × Value → H) :
  ReturnsInHanded {} Tryz.checked os 6 .any (fun w args => (Rows.groupNamesSpec.pre enc Tryz.prog Tryz.f6 [] false w args ∧ laidMetH Tryz.prog laidA w) ∧ sizedMet enc Tryz.prog Tryz.f6 (OpenSpec.ofChange Rows.groupNamesSpec) false w args)
   (Rows.groupNamesSpec.post enc Tryz.prog Tryz.f6 false true false false) := by
 refine returnsInHanded_of_change_and (C := Tryz.checked) (X := fun w _ => laidMetH Tryz.prog laidA w) (fun _ _ _ hh h => h.of_heap hh) ownK started (by kernel_rfl) Tryz.func6
  (ChangeSpec.witness_shaped (enc := enc) (C := Tryz.checked) (os := os) (X := fun w _ => laidMetH Tryz.prog laidA w) false (startW os) #[] 8 (startW_os os) (World.shaped_of_RefB (by kernel_rfl) (by kernel_rfl)) (by kernel_rfl) (by kernel_rfl) (by kernel_rfl) (doorA os _)) ?_
 intro W base args ds gs before hval0 hW _ hsz hL _
 have hval : ∀ (j : Nat) t v, Tryz.f6.params[j]? = some t → args[j]? = some v → Value.okWide Tryz.prog W .any base t v := hval0
 have hW' := hW
 obtain ⟨p, q, hA0, hV, rfl, hfz, hnd⟩ := hW
 have hA : DataW.TrodAll enc Tryz.prog W 0 (fun _ => true) true Tryz.f6.params.toList args.toList ds p := hA0
 have hsz' : (DataW.weightsEach Tryz.prog (Tryz.f6.params.toList ++ _) (ds ++ gs)).all (· ≤ reachBytes) = true := hsz
 rw [Tryz.params6] at hA hval hsz'
 obtain ⟨hargs, rfl, rfl⟩ := trodAll_nil hA
 obtain rfl : args = #[] := by cases args; simp_all
 obtain ⟨rfl, rfl⟩ := trodVars_none hV
 have hT := vars_of hL
 refine (gNamesCt (heapOf W) hT.1 hT.2  W (at_heapOf W)).mono fun e W' ⟨u, F', G', he, htr, hu⟩ => ?_
 subst he; subst hu
 have bel := below_of htr
 exact ⟨_, rfl, _, _, _, [], _, [], hW', trodAll_mk1 (shut_bool Tryz.underlying4 _), trodAll_mk0, rfl, bel.frame _, fun h => by cases h⟩
end Go.Proofs.YtbhipiepfclneaaGreatDoor
