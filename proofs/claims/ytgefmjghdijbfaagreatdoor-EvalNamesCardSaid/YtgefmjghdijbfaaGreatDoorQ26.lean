/- Walks. -/
import Derived.Test.YtgefmjghdijbfaaGreatDoorQ25
import Derived.Test.YtgefmjghdijbfaaGreatDoorQ11
import Derived.Test.YtgefmjghdijbfaaGreatDoorQ09
import Derived.Test.YtgefmjghdijbfaaGreatDoorQ12
import Derived.Test.YtgefmjghdijbfaaGreatDoorQTy
import Derived.Test.YtgefmjghdijbfaaGreatDoorQ14
import Derived.Test.YtgefmjghdijbfaaGreatDoorQ19
import Derived.ScopeJumps
import Derived.WalkKit
import Derived.LaidEql
import Derived.Stop.Asserts
import Derived.RowKitTokens
import Derived.Test.YtgefmjghdijbfaaGreatDoorQ04
import Derived.OpenShut
import Derived.Below
import Derived.Carry
import Derived.SizedLaws
import Derived.Deep.Slices
import Derived.Deep.Strs
set_option maxHeartbeats 64000000
set_option maxRecDepth 20000
namespace Go.Proofs.YtgefmjghdijbfaaGreatDoor
open Go Go.Wk Go.Un Go.De Go.Num
set_option linter.unusedSimpArgs false
set_option linter.unusedVariables false
attribute [local irreducible] Go.wpList Go.Code.wp Go.wpStill Go.Wk.wpPre Go.bodyPost Go.Calls Go.Wk.Ct Go.Wk.OwnS Go.Wk.wpG Go.Wk.wpM
theorem GE_lit {v : Vv} (g : GV v) : GE (litX v).1 (litX v).2 := ⟨g, ⟨Nat.zero_le _, Nat.zero_le _⟩, trivial⟩
theorem GE_call2 {s : List UInt8} {x y : Ex} (hs : s.length ≤ 140737488355328) (g : GE x.1 x.2) (g2 : GE y.1 y.2) : GE (callX2 s x y).1 (callX2 s x y).2 := ⟨GV_z, ⟨show 2 ≤ 3000 by decide, hs⟩, g, g2, trivial⟩
theorem GE_num {n : Int} (h : in64 n) : GE (litX (intV n)).1 (litX (intV n)).2 := GE_lit (GV_leaf h (by decide))
theorem GE_text {s : List UInt8} (h : s.length ≤ 200000) : GE (litX (textV s)).1 (litX (textV s)).2 := GE_lit (GV_leaf (by decide) h)
theorem GE_huge {s : List UInt8} (h : s.length ≤ 200000) : GE (litX (bigV s)).1 (litX (bigV s)).2 := GE_lit (GV_leaf (by decide) h)
theorem GE_truth (b : Bool) : GE (litX (boolV b)).1 (litX (boolV b)).2 := GE_lit (GV_bool b)
def xDiv : Ex := callX2 [47] (litX (intV 1)) (litX (intV 0))
theorem gDiv : GE xDiv.1 xDiv.2 := GE_call2 (by decide) (GE_num (by decide)) (GE_num (by decide))
theorem w1 : comesB (callX2 [47] (litX (intV 7)) (litX (intV (-2)))) (intV (-3)) 0 = true := by decide +kernel
theorem w2 : comesB (callX2 [37] (litX (intV 7)) (litX (intV (-2)))) (intV 1) 0 = true := by decide +kernel
theorem w3 : comesB xDiv zV 81 = true := by decide +kernel
theorem w4 : comesB (callX2 [42] (litX (bigV [51])) (litX (bigV [52]))) (bigV [49, 50]) 0 = true := by decide +kernel
theorem w5 : comesB (callX2 [43, 43] (litX (textV [97])) (litX (textV [98]))) (textV [97, 98]) 0 = true := by decide +kernel
theorem w6 : comesB (callX2 [97, 110, 100] (litX (boolV false)) (callX2 [61, 61] xDiv (litX (intV 1)))) (boolV false) 0 = true := by decide +kernel
theorem worksCt (F : Heap) (hT : TabF F) (hE : ErrF F) : Ct Tryz.prog 5 [] F [] (fun _ _ u => u = .bool true) := by
 have m : ∀ b o, F b = some o → F b = some o := fun _ _ h => h
 refine Ct.enter Tryz.func5 rfl Tryz.ntmps5 rfl fun w0 a S => ?_
 (revert S a; refine go 5 ?_; intro Z hZ a S)
 (refine wcF S (lnumCt F _) ?_; clear S a; intro v2 F2 a w hv hF2 S; obtain ⟨c2, rfl, -, r2⟩ := hv; obtain ⟨xa2, xb2, he2, -, -⟩ := vac_slc (ror_vac r2); subst he2; replace m := fun b o h => hF2 b o (m b o h))
 (refine wcF S (llitCt F2 _ _ r2) ?_; clear S a; intro v3 F3 a w hv hF3 S; obtain ⟨c3, rfl, -, r3⟩ := hv; obtain ⟨xa3, xb3, xc3, xd3, xe3, he3, -, -⟩ := exc_slc (ror_exc r3); subst he3; replace m := fun b o h => hF3 b o (m b o h))
 (refine wcF S (lnumCt F3 _) ?_; clear S a; intro v4 F4 a w hv hF4 S; obtain ⟨c4, rfl, -, r4⟩ := hv; obtain ⟨xa4, xb4, he4, -, -⟩ := vac_slc (ror_vac r4); subst he4; replace m := fun b o h => hF4 b o (m b o h))
 (refine wcF S (llitCt F4 _ _ r4) ?_; clear S a; intro v5 F5 a w hv hF5 S; obtain ⟨c5, rfl, -, r5⟩ := hv; obtain ⟨xa5, xb5, xc5, xd5, xe5, he5, -, -⟩ := exc_slc (ror_exc r5); subst he5; replace m := fun b o h => hF5 b o (m b o h))
 (refine wpl_buildSlice S rfl rfl rfl rfl rfl rfl (by rfl) (by simp [Value.cells, splice]) rfl (by rfl) (by rfl) ?_; clear S a; intro b6 a w hown S; have S' := frz1 S; clear S; obtain ⟨F6, hF6, hb6, S⟩ := S'; have r6 := trs_lim (lim_of (l := ([(litX (intV 1)), (litX (intV 0))] : List Ex)) hb6 (LiC.app (l := ([(litX (intV 1))] : List Ex)) (LiC.one (sz := 9) rfl (Mon.h (fun b o h => hF6 _ _ (hF5 _ _ (hF4 _ _ h))) r3)) (LiC.one (sz := 9) rfl (Mon.h (fun b o h => hF6 _ _ h) r5))) (show 2 ≤ _ by decide)); replace m := fun b o h => hF6 b o (m b o h))
 (refine wcF S (lcallCt F6 [47] (.cons (litX (intV 1)).1 (litX (intV 1)).2 (.cons (litX (intV 0)).1 (litX (intV 0)).2 .nil)) _ r6) ?_; clear S a; intro v7 F7 a w hv hF7 S; obtain ⟨c7, rfl, -, r7⟩ := hv; obtain ⟨xa7, xb7, xc7, xd7, xe7, he7, -, -⟩ := exc_slc (ror_exc r7); subst he7; replace m := fun b o h => hF7 b o (m b o h))
 (refine wpl_alloc S rfl rfl rfl rfl ?_; clear S a; intro b1 a w S)
 (refine wso S rfl rfl ?_; clear S; intro w S)
 (revert S a; revert hZ Z; refine go 2 ?_; intro a S)
 (refine wp_seq_k ?_; intro Z hZ)
 (have m2 : ∀ b o, F7 b = some o → F7 b = some o := fun _ _ h => h)
 (refine wpc_mixM [8, 17, 18, 19, 20, 22, 23, 32, 33, 42, 43, 46, 55] [19, 46] [] (.one 0 (.one 1 (.one 2 (.one 3 (.one 4 (.one 5 (.one 6 (.one 7 (.one 8 (.one 9 (.one 10 (.one 11 (.one 12 (.one 13 (.one 14 (.one 15 (.one 16 (.one 17 (.one 18 (.one 19 (.one 20 (.one 21 (.one 22 (.one 23 (.one 24 (.one 25 (.one 26 (.one 27 (.one 28 (.one 29 (.one 30 (.one 31 (.one 32 (.one 33 (.one 34 (.one 35 (.one 36 (.one 37 (.one 38 (.one 39 (.one 40 (.one 41 (.one 42 (.one 43 (.one 46 (.one 44 (.one 45 (.one 47 (.one 48 (.one 49 (.one 50 (.one 51 (.one 52 (.one 53 (.one 54 (.one 55 (.one 56 .nil))))))))))))))))))))))))))))))))))))))))))))))))))))))))) [b1] S mixed (by kernel_rfl) ?_; clear S; intro w S)
 refine wpm_eff rfl rfl (kwg S fun b o h => by exact m2 _ _ h) ?_
 (refine wcF S (lnumCt F7 _) ?_; clear S a; intro v8 F8 a w hv hF8 S; obtain ⟨c8, rfl, -, r8⟩ := hv; obtain ⟨xa8, xb8, he8, -, -⟩ := vac_slc (ror_vac r8); subst he8; replace m := fun b o h => hF8 b o (m b o h); replace m2 := fun b o h => hF8 b o (m2 b o h))
 refine wpList_nil ?_
 refine wpm_eff rfl rfl (kwg S fun b o h => by exact m2 _ _ h) ?_
 (refine wcF S (llitCt F8 _ _ r8) ?_; clear S a; intro v9 F9 a w hv hF9 S; obtain ⟨c9, rfl, -, r9⟩ := hv; obtain ⟨xa9, xb9, xc9, xd9, xe9, he9, -, -⟩ := exc_slc (ror_exc r9); subst he9; replace m := fun b o h => hF9 b o (m b o h); replace m2 := fun b o h => hF9 b o (m2 b o h))
 refine wpList_nil ?_
 refine wpm_eff rfl rfl (kwg S fun b o h => by exact m2 _ _ h) ?_
 (refine wcF S (lnumCt F9 _) ?_; clear S a; intro v10 F10 a w hv hF10 S; obtain ⟨c10, rfl, -, r10⟩ := hv; obtain ⟨xa10, xb10, he10, -, -⟩ := vac_slc (ror_vac r10); subst he10; replace m := fun b o h => hF10 b o (m b o h); replace m2 := fun b o h => hF10 b o (m2 b o h))
 refine wpList_nil ?_
 refine wpm_eff rfl rfl (kwg S fun b o h => by exact m2 _ _ h) ?_
 (refine wcF S (llitCt F10 _ _ r10) ?_; clear S a; intro v11 F11 a w hv hF11 S; obtain ⟨c11, rfl, -, r11⟩ := hv; obtain ⟨xa11, xb11, xc11, xd11, xe11, he11, -, -⟩ := exc_slc (ror_exc r11); subst he11; replace m := fun b o h => hF11 b o (m b o h); replace m2 := fun b o h => hF11 b o (m2 b o h))
 refine wpList_nil ?_
 refine wpm_eff rfl rfl (kwg S fun b o h => by exact m2 _ _ h) ?_
 (refine wpl_buildSlice S rfl rfl rfl rfl rfl rfl (by rfl) (by simp [Value.cells, splice]) rfl (by rfl) (by rfl) ?_; clear S a; intro b12 a w hown S; have S' := frz1 S; clear S; obtain ⟨F12, hF12, hb12, S⟩ := S'; have r12 := trs_lim (lim_of (l := ([(litX (intV 7)), (litX (intV (-2)))] : List Ex)) hb12 (LiC.app (l := ([(litX (intV 7))] : List Ex)) (LiC.one (sz := 9) rfl (Mon.h (fun b o h => hF12 _ _ (hF11 _ _ (hF10 _ _ h))) r9)) (LiC.one (sz := 9) rfl (Mon.h (fun b o h => hF12 _ _ h) r11))) (show 2 ≤ _ by decide)); replace m := fun b o h => hF12 b o (m b o h); replace m2 := fun b o h => hF12 b o (m2 b o h))
 refine wpList_nil ?_
 refine wpm_eff rfl rfl (kwg S fun b o h => by exact m2 _ _ h) ?_
 (refine wcF S (lcallCt F12 [47] (.cons (litX (intV 7)).1 (litX (intV 7)).2 (.cons (litX (intV (-2))).1 (litX (intV (-2))).2 .nil)) _ r12) ?_; clear S a; intro v13 F13 a w hv hF13 S; obtain ⟨c13, rfl, -, r13⟩ := hv; obtain ⟨xa13, xb13, xc13, xd13, xe13, he13, -, -⟩ := exc_slc (ror_exc r13); subst he13; replace m := fun b o h => hF13 b o (m b o h); replace m2 := fun b o h => hF13 b o (m2 b o h))
 refine wpList_nil ?_
 refine wpm_eff rfl rfl (kwg S fun b o h => by exact m2 _ _ h) ?_
 (refine wcF S (lnumCt F13 _) ?_; clear S a; intro v14 F14 a w hv hF14 S; obtain ⟨c14, rfl, -, r14⟩ := hv; obtain ⟨xa14, xb14, he14, -, -⟩ := vac_slc (ror_vac r14); subst he14; replace m := fun b o h => hF14 b o (m b o h); replace m2 := fun b o h => hF14 b o (m2 b o h))
 refine wpList_nil ?_
 refine wpm_eff rfl rfl (kwg S fun b o h => by exact m2 _ _ h) ?_
 (refine wc0 S (comesCt F14 (hT.mono m) (hE.mono m) (callX2 [47] (litX (intV 7)) (litX (intV (-2)))) _ (Mon.h (fun b o h => hF14 _ _ h) r13) (GE_call2 (by decide) (GE_num (by decide)) (GE_num (by decide))) (intV (-3)) _ r14 0) ?_; clear S a; intro v a w hv S; subst hv)
 (rw [w1] at S)
 (revert S a; refine go 2 ?_; intro a S)
 refine wpm_eff rfl rfl (kwg S fun b o h => by exact m2 _ _ h) ?_
 refine wpl_take S rfl rfl rfl ?_
 (refine wcF S (lnumCt F14 _) ?_; clear S a; intro v17 F17 a w hv hF17 S; obtain ⟨c17, rfl, -, r17⟩ := hv; obtain ⟨xa17, xb17, he17, -, -⟩ := vac_slc (ror_vac r17); subst he17; replace m := fun b o h => hF17 b o (m b o h); replace m2 := fun b o h => hF17 b o (m2 b o h))
 refine wpList_nil ?_
 refine wpm_eff rfl rfl (kwg S fun b o h => by exact m2 _ _ h) ?_
 refine wpl_take S rfl rfl rfl ?_
 (refine wcF S (llitCt F17 _ _ r17) ?_; clear S a; intro v18 F18 a w hv hF18 S; obtain ⟨c18, rfl, -, r18⟩ := hv; obtain ⟨xa18, xb18, xc18, xd18, xe18, he18, -, -⟩ := exc_slc (ror_exc r18); subst he18; replace m := fun b o h => hF18 b o (m b o h); replace m2 := fun b o h => hF18 b o (m2 b o h))
 refine wpList_nil ?_
 refine wpm_eff rfl rfl (kwg S fun b o h => by exact m2 _ _ h) ?_
 refine wpl_take S rfl rfl rfl ?_
 (refine wcF S (lnumCt F18 _) ?_; clear S a; intro v19 F19 a w hv hF19 S; obtain ⟨c19, rfl, -, r19⟩ := hv; obtain ⟨xa19, xb19, he19, -, -⟩ := vac_slc (ror_vac r19); subst he19; replace m := fun b o h => hF19 b o (m b o h); replace m2 := fun b o h => hF19 b o (m2 b o h))
 refine wpList_nil ?_
 refine wpm_eff rfl rfl (kwg S fun b o h => by exact m2 _ _ h) ?_
 refine wpl_take S rfl rfl rfl ?_
 (refine wcF S (llitCt F19 _ _ r19) ?_; clear S a; intro v20 F20 a w hv hF20 S; obtain ⟨c20, rfl, -, r20⟩ := hv; obtain ⟨xa20, xb20, xc20, xd20, xe20, he20, -, -⟩ := exc_slc (ror_exc r20); subst he20; replace m := fun b o h => hF20 b o (m b o h); replace m2 := fun b o h => hF20 b o (m2 b o h))
 refine wpList_nil ?_
 refine wpm_eff rfl rfl (kwg S fun b o h => by exact m2 _ _ h) ?_
 refine wpl_take S rfl rfl rfl ?_
 (refine wpl_buildSlice S rfl rfl rfl rfl rfl rfl (by rfl) (by simp [Value.cells, splice]) rfl (by rfl) (by rfl) ?_; clear S a; intro b21 a w hown S; have S' := frz1 S; clear S; obtain ⟨F21, hF21, hb21, S⟩ := S'; have r21 := trs_lim (lim_of (l := ([(litX (intV 7)), (litX (intV (-2)))] : List Ex)) hb21 (LiC.app (l := ([(litX (intV 7))] : List Ex)) (LiC.one (sz := 9) rfl (Mon.h (fun b o h => hF21 _ _ (hF20 _ _ (hF19 _ _ h))) r18)) (LiC.one (sz := 9) rfl (Mon.h (fun b o h => hF21 _ _ h) r20))) (show 2 ≤ _ by decide)); replace m := fun b o h => hF21 b o (m b o h); replace m2 := fun b o h => hF21 b o (m2 b o h))
 refine wpList_nil ?_
 refine wpm_eff rfl rfl (kwg S fun b o h => by exact m2 _ _ h) ?_
 refine wpl_take S rfl rfl rfl ?_
 (refine wcF S (lcallCt F21 [37] (.cons (litX (intV 7)).1 (litX (intV 7)).2 (.cons (litX (intV (-2))).1 (litX (intV (-2))).2 .nil)) _ r21) ?_; clear S a; intro v22 F22 a w hv hF22 S; obtain ⟨c22, rfl, -, r22⟩ := hv; obtain ⟨xa22, xb22, xc22, xd22, xe22, he22, -, -⟩ := exc_slc (ror_exc r22); subst he22; replace m := fun b o h => hF22 b o (m b o h); replace m2 := fun b o h => hF22 b o (m2 b o h))
 refine wpList_nil ?_
 refine wpm_eff rfl rfl (kwg S fun b o h => by exact m2 _ _ h) ?_
 refine wpl_take S rfl rfl rfl ?_
 (refine wcF S (lnumCt F22 _) ?_; clear S a; intro v23 F23 a w hv hF23 S; obtain ⟨c23, rfl, -, r23⟩ := hv; obtain ⟨xa23, xb23, he23, -, -⟩ := vac_slc (ror_vac r23); subst he23; replace m := fun b o h => hF23 b o (m b o h); replace m2 := fun b o h => hF23 b o (m2 b o h))
 refine wpList_nil ?_
 refine wpm_eff rfl rfl (kwg S fun b o h => by exact m2 _ _ h) ?_
 refine wpl_take S rfl rfl rfl ?_
 (refine wc0 S (comesCt F23 (hT.mono m) (hE.mono m) (callX2 [37] (litX (intV 7)) (litX (intV (-2)))) _ (Mon.h (fun b o h => hF23 _ _ h) r22) (GE_call2 (by decide) (GE_num (by decide)) (GE_num (by decide))) (intV 1) _ r23 0) ?_; clear S a; intro v a w hv S; subst hv)
 (rw [w2] at S)
 (revert S a; refine go 5 ?_; intro a S)
 refine wpm_eff rfl rfl (kwg S fun b o h => by exact m2 _ _ h) ?_
 refine wpl_take S rfl rfl rfl ?_
 (refine wc0 S (comesCt F23 (hT.mono m) (hE.mono m) xDiv _ (Mon.h (fun b o h => hF23 _ _ (hF22 _ _ (hF21 _ _ (hF20 _ _ (hF19 _ _ (hF18 _ _ (hF17 _ _ (hF14 _ _ (hF13 _ _ (hF12 _ _ (hF11 _ _ (hF10 _ _ (hF9 _ _ (hF8 _ _ h)))))))))))))) r7) gDiv zV _ (ror_leaf _ 0 0 [] (by decide)) 81) ?_; clear S a; intro v a w hv S; subst hv)
 (rw [w3] at S)
 (revert S a; refine go 3 ?_; intro a S)
 refine wpm_eff rfl rfl (kwg S fun b o h => by exact m2 _ _ h) ?_
 refine wpl_take S rfl rfl rfl ?_
 (refine wcF S (lhugeCt F23 [51] (by decide)) ?_; clear S a; intro v32 F32 a w hv hF32 S; obtain ⟨c32, rfl, -, r32⟩ := hv; obtain ⟨xa32, xb32, he32, -, -⟩ := vac_slc (ror_vac r32); subst he32; replace m := fun b o h => hF32 b o (m b o h); replace m2 := fun b o h => hF32 b o (m2 b o h))
 refine wpList_nil ?_
 refine wpm_eff rfl rfl (kwg S fun b o h => by exact m2 _ _ h) ?_
 refine wpl_take S rfl rfl rfl ?_
 (refine wcF S (llitCt F32 _ _ r32) ?_; clear S a; intro v33 F33 a w hv hF33 S; obtain ⟨c33, rfl, -, r33⟩ := hv; obtain ⟨xa33, xb33, xc33, xd33, xe33, he33, -, -⟩ := exc_slc (ror_exc r33); subst he33; replace m := fun b o h => hF33 b o (m b o h); replace m2 := fun b o h => hF33 b o (m2 b o h))
 refine wpList_nil ?_
 refine wpm_eff rfl rfl (kwg S fun b o h => by exact m2 _ _ h) ?_
 refine wpl_take S rfl rfl rfl ?_
 (refine wcF S (lhugeCt F33 [52] (by decide)) ?_; clear S a; intro v34 F34 a w hv hF34 S; obtain ⟨c34, rfl, -, r34⟩ := hv; obtain ⟨xa34, xb34, he34, -, -⟩ := vac_slc (ror_vac r34); subst he34; replace m := fun b o h => hF34 b o (m b o h); replace m2 := fun b o h => hF34 b o (m2 b o h))
 refine wpList_nil ?_
 refine wpm_eff rfl rfl (kwg S fun b o h => by exact m2 _ _ h) ?_
 refine wpl_take S rfl rfl rfl ?_
 (refine wcF S (llitCt F34 _ _ r34) ?_; clear S a; intro v35 F35 a w hv hF35 S; obtain ⟨c35, rfl, -, r35⟩ := hv; obtain ⟨xa35, xb35, xc35, xd35, xe35, he35, -, -⟩ := exc_slc (ror_exc r35); subst he35; replace m := fun b o h => hF35 b o (m b o h); replace m2 := fun b o h => hF35 b o (m2 b o h))
 refine wpList_nil ?_
 refine wpm_eff rfl rfl (kwg S fun b o h => by exact m2 _ _ h) ?_
 refine wpl_take S rfl rfl rfl ?_
 (refine wpl_buildSlice S rfl rfl rfl rfl rfl rfl (by rfl) (by simp [Value.cells, splice]) rfl (by rfl) (by rfl) ?_; clear S a; intro b36 a w hown S; have S' := frz1 S; clear S; obtain ⟨F36, hF36, hb36, S⟩ := S'; have r36 := trs_lim (lim_of (l := ([(litX (bigV [51])), (litX (bigV [52]))] : List Ex)) hb36 (LiC.app (l := ([(litX (bigV [51]))] : List Ex)) (LiC.one (sz := 9) rfl (Mon.h (fun b o h => hF36 _ _ (hF35 _ _ (hF34 _ _ h))) r33)) (LiC.one (sz := 9) rfl (Mon.h (fun b o h => hF36 _ _ h) r35))) (show 2 ≤ _ by decide)); replace m := fun b o h => hF36 b o (m b o h); replace m2 := fun b o h => hF36 b o (m2 b o h))
 refine wpList_nil ?_
 refine wpm_eff rfl rfl (kwg S fun b o h => by exact m2 _ _ h) ?_
 refine wpl_take S rfl rfl rfl ?_
 (refine wcF S (lcallCt F36 [42] (.cons (litX (bigV [51])).1 (litX (bigV [51])).2 (.cons (litX (bigV [52])).1 (litX (bigV [52])).2 .nil)) _ r36) ?_; clear S a; intro v37 F37 a w hv hF37 S; obtain ⟨c37, rfl, -, r37⟩ := hv; obtain ⟨xa37, xb37, xc37, xd37, xe37, he37, -, -⟩ := exc_slc (ror_exc r37); subst he37; replace m := fun b o h => hF37 b o (m b o h); replace m2 := fun b o h => hF37 b o (m2 b o h))
 refine wpList_nil ?_
 refine wpm_eff rfl rfl (kwg S fun b o h => by exact m2 _ _ h) ?_
 refine wpl_take S rfl rfl rfl ?_
 (refine wcF S (lhugeCt F37 [49, 50] (by decide)) ?_; clear S a; intro v38 F38 a w hv hF38 S; obtain ⟨c38, rfl, -, r38⟩ := hv; obtain ⟨xa38, xb38, he38, -, -⟩ := vac_slc (ror_vac r38); subst he38; replace m := fun b o h => hF38 b o (m b o h); replace m2 := fun b o h => hF38 b o (m2 b o h))
 refine wpList_nil ?_
 refine wpm_eff rfl rfl (kwg S fun b o h => by exact m2 _ _ h) ?_
 refine wpl_take S rfl rfl rfl ?_
 (refine wc0 S (comesCt F38 (hT.mono m) (hE.mono m) (callX2 [42] (litX (bigV [51])) (litX (bigV [52]))) _ (Mon.h (fun b o h => hF38 _ _ h) r37) (GE_call2 (by decide) (GE_huge (by decide)) (GE_huge (by decide))) (bigV [49, 50]) _ r38 0) ?_; clear S a; intro v a w hv S; subst hv)
 (rw [w4] at S)
 (revert S a; refine go 3 ?_; intro a S)
 refine wpm_eff rfl rfl (kwg S fun b o h => by exact m2 _ _ h) ?_
 refine wpl_take S rfl rfl rfl ?_
 (refine wcF S (ltextCt F38 [97] (by decide)) ?_; clear S a; intro v42 F42 a w hv hF42 S; obtain ⟨c42, rfl, -, r42⟩ := hv; obtain ⟨xa42, xb42, he42, -, -⟩ := vac_slc (ror_vac r42); subst he42; replace m := fun b o h => hF42 b o (m b o h); replace m2 := fun b o h => hF42 b o (m2 b o h))
 refine wpList_nil ?_
 refine wpm_eff rfl rfl (kwg S fun b o h => by exact m2 _ _ h) ?_
 refine wpl_take S rfl rfl rfl ?_
 (refine wcF S (llitCt F42 _ _ r42) ?_; clear S a; intro v43 F43 a w hv hF43 S; obtain ⟨c43, rfl, -, r43⟩ := hv; obtain ⟨xa43, xb43, xc43, xd43, xe43, he43, -, -⟩ := exc_slc (ror_exc r43); subst he43; replace m := fun b o h => hF43 b o (m b o h); replace m2 := fun b o h => hF43 b o (m2 b o h))
 refine wpList_nil ?_
 refine wpm_eff rfl rfl (kwg S fun b o h => by exact m2 _ _ h) ?_
 refine wpl_take S rfl rfl rfl ?_
 (refine wcF S (ltextCt F43 [98] (by decide)) ?_; clear S a; intro v44 F44 a w hv hF44 S; obtain ⟨c44, rfl, -, r44⟩ := hv; obtain ⟨xa44, xb44, he44, -, -⟩ := vac_slc (ror_vac r44); subst he44; replace m := fun b o h => hF44 b o (m b o h); replace m2 := fun b o h => hF44 b o (m2 b o h))
 refine wpList_nil ?_
 refine wpm_eff rfl rfl (kwg S fun b o h => by exact m2 _ _ h) ?_
 refine wpl_take S rfl rfl rfl ?_
 (refine wcF S (llitCt F44 _ _ r44) ?_; clear S a; intro v45 F45 a w hv hF45 S; obtain ⟨c45, rfl, -, r45⟩ := hv; obtain ⟨xa45, xb45, xc45, xd45, xe45, he45, -, -⟩ := exc_slc (ror_exc r45); subst he45; replace m := fun b o h => hF45 b o (m b o h); replace m2 := fun b o h => hF45 b o (m2 b o h))
 refine wpList_nil ?_
 refine wpm_eff rfl rfl (kwg S fun b o h => by exact m2 _ _ h) ?_
 refine wpl_take S rfl rfl rfl ?_
 (refine wpl_buildSlice S rfl rfl rfl rfl rfl rfl (by rfl) (by simp [Value.cells, splice]) rfl (by rfl) (by rfl) ?_; clear S a; intro b46 a w hown S; have S' := frz1 S; clear S; obtain ⟨F46, hF46, hb46, S⟩ := S'; have r46 := trs_lim (lim_of (l := ([(litX (textV [97])), (litX (textV [98]))] : List Ex)) hb46 (LiC.app (l := ([(litX (textV [97]))] : List Ex)) (LiC.one (sz := 9) rfl (Mon.h (fun b o h => hF46 _ _ (hF45 _ _ (hF44 _ _ h))) r43)) (LiC.one (sz := 9) rfl (Mon.h (fun b o h => hF46 _ _ h) r45))) (show 2 ≤ _ by decide)); replace m := fun b o h => hF46 b o (m b o h); replace m2 := fun b o h => hF46 b o (m2 b o h))
 refine wpList_nil ?_
 refine wpm_eff rfl rfl (kwg S fun b o h => by exact m2 _ _ h) ?_
 refine wpl_take S rfl rfl rfl ?_
 (refine wcF S (lcallCt F46 [43, 43] (.cons (litX (textV [97])).1 (litX (textV [97])).2 (.cons (litX (textV [98])).1 (litX (textV [98])).2 .nil)) _ r46) ?_; clear S a; intro v47 F47 a w hv hF47 S; obtain ⟨c47, rfl, -, r47⟩ := hv; obtain ⟨xa47, xb47, xc47, xd47, xe47, he47, -, -⟩ := exc_slc (ror_exc r47); subst he47; replace m := fun b o h => hF47 b o (m b o h); replace m2 := fun b o h => hF47 b o (m2 b o h))
 refine wpList_nil ?_
 refine wpm_eff rfl rfl (kwg S fun b o h => by exact m2 _ _ h) ?_
 refine wpl_take S rfl rfl rfl ?_
 (refine wcF S (ltextCt F47 [97, 98] (by decide)) ?_; clear S a; intro v48 F48 a w hv hF48 S; obtain ⟨c48, rfl, -, r48⟩ := hv; obtain ⟨xa48, xb48, he48, -, -⟩ := vac_slc (ror_vac r48); subst he48; replace m := fun b o h => hF48 b o (m b o h); replace m2 := fun b o h => hF48 b o (m2 b o h))
 refine wpList_nil ?_
 refine wpm_eff rfl rfl (kwg S fun b o h => by exact m2 _ _ h) ?_
 refine wpl_take S rfl rfl rfl ?_
 (refine wc0 S (comesCt F48 (hT.mono m) (hE.mono m) (callX2 [43, 43] (litX (textV [97])) (litX (textV [98]))) _ (Mon.h (fun b o h => hF48 _ _ h) r47) (GE_call2 (by decide) (GE_text (by decide)) (GE_text (by decide))) (textV [97, 98]) _ r48 0) ?_; clear S a; intro v a w hv S; subst hv)
 (rw [w5] at S)
 (revert S a; refine go 4 ?_; intro a S)
 refine wpm_eff rfl rfl (kwg S fun b o h => by exact m2 _ _ h) ?_
 refine wpl_take S rfl rfl rfl ?_
 (refine wcF S (ltruthCt F48 _) ?_; clear S a; intro v52 F52 a w hv hF52 S; obtain ⟨c52, rfl, -, r52⟩ := hv; obtain ⟨xa52, xb52, he52, -, -⟩ := vac_slc (ror_vac r52); subst he52; replace m := fun b o h => hF52 b o (m b o h); replace m2 := fun b o h => hF52 b o (m2 b o h))
 refine wpList_nil ?_
 refine wpm_eff rfl rfl (kwg S fun b o h => by exact m2 _ _ h) ?_
 refine wpl_take S rfl rfl rfl ?_
 (refine wcF S (llitCt F52 _ _ r52) ?_; clear S a; intro v53 F53 a w hv hF53 S; obtain ⟨c53, rfl, -, r53⟩ := hv; obtain ⟨xa53, xb53, xc53, xd53, xe53, he53, -, -⟩ := exc_slc (ror_exc r53); subst he53; replace m := fun b o h => hF53 b o (m b o h); replace m2 := fun b o h => hF53 b o (m2 b o h))
 refine wpList_nil ?_
 refine wpm_eff rfl rfl (kwg S fun b o h => by exact m2 _ _ h) ?_
 refine wpl_take S rfl rfl rfl ?_
 (refine wcF S (lnumCt F53 _) ?_; clear S a; intro v55 F55 a w hv hF55 S; obtain ⟨c55, rfl, -, r55⟩ := hv; obtain ⟨xa55, xb55, he55, -, -⟩ := vac_slc (ror_vac r55); subst he55; replace m := fun b o h => hF55 b o (m b o h); replace m2 := fun b o h => hF55 b o (m2 b o h))
 refine wpList_nil ?_
 refine wpm_eff rfl rfl (kwg S fun b o h => by exact m2 _ _ h) ?_
 refine wpl_take S rfl rfl rfl ?_
 (refine wcF S (llitCt F55 _ _ r55) ?_; clear S a; intro v56 F56 a w hv hF56 S; obtain ⟨c56, rfl, -, r56⟩ := hv; obtain ⟨xa56, xb56, xc56, xd56, xe56, he56, -, -⟩ := exc_slc (ror_exc r56); subst he56; replace m := fun b o h => hF56 b o (m b o h); replace m2 := fun b o h => hF56 b o (m2 b o h))
 refine wpList_nil ?_
 refine wpm_eff rfl rfl (kwg S fun b o h => by exact m2 _ _ h) ?_
 refine wpl_take S rfl rfl rfl ?_
 (refine wpl_buildSlice S rfl rfl rfl rfl rfl rfl (by rfl) (by simp [Value.cells, splice]) rfl (by rfl) (by rfl) ?_; clear S a; intro b57 a w hown S; have S' := frz1 S; clear S; obtain ⟨F57, hF57, hb57, S⟩ := S'; have r57 := trs_lim (lim_of (l := ([xDiv, (litX (intV 1))] : List Ex)) hb57 (LiC.app (l := ([xDiv] : List Ex)) (LiC.one (sz := 9) rfl (Mon.h (fun b o h => hF57 _ _ (hF56 _ _ (hF55 _ _ (hF53 _ _ (hF52 _ _ (hF48 _ _ (hF47 _ _ (hF46 _ _ (hF45 _ _ (hF44 _ _ (hF43 _ _ (hF42 _ _ (hF38 _ _ (hF37 _ _ (hF36 _ _ (hF35 _ _ (hF34 _ _ (hF33 _ _ (hF32 _ _ (hF23 _ _ (hF22 _ _ (hF21 _ _ (hF20 _ _ (hF19 _ _ (hF18 _ _ (hF17 _ _ (hF14 _ _ (hF13 _ _ (hF12 _ _ (hF11 _ _ (hF10 _ _ (hF9 _ _ (hF8 _ _ h))))))))))))))))))))))))))))))))) r7)) (LiC.one (sz := 9) rfl (Mon.h (fun b o h => hF57 _ _ h) r56))) (show 2 ≤ _ by decide)); replace m := fun b o h => hF57 b o (m b o h); replace m2 := fun b o h => hF57 b o (m2 b o h))
 refine wpList_nil ?_
 refine wpm_eff rfl rfl (kwg S fun b o h => by exact m2 _ _ h) ?_
 refine wpl_take S rfl rfl rfl ?_
 (refine wcF S (lcallCt F57 [61, 61] (.cons xDiv.1 xDiv.2 (.cons (litX (intV 1)).1 (litX (intV 1)).2 .nil)) _ r57) ?_; clear S a; intro v58 F58 a w hv hF58 S; obtain ⟨c58, rfl, -, r58⟩ := hv; obtain ⟨xa58, xb58, xc58, xd58, xe58, he58, -, -⟩ := exc_slc (ror_exc r58); subst he58; replace m := fun b o h => hF58 b o (m b o h); replace m2 := fun b o h => hF58 b o (m2 b o h))
 refine wpList_nil ?_
 refine wpm_eff rfl rfl (kwg S fun b o h => by exact m2 _ _ h) ?_
 refine wpl_take S rfl rfl rfl ?_
 (refine wpl_buildSlice S rfl rfl rfl rfl rfl rfl (by rfl) (by simp [Value.cells, splice]) rfl (by rfl) (by rfl) ?_; clear S a; intro b59 a w hown S; have S' := frz1 S; clear S; obtain ⟨F59, hF59, hb59, S⟩ := S'; have r59 := trs_lim (lim_of (l := ([(litX (boolV false)), (callX2 [61, 61] xDiv (litX (intV 1)))] : List Ex)) hb59 (LiC.app (l := ([(litX (boolV false))] : List Ex)) (LiC.one (sz := 9) rfl (Mon.h (fun b o h => hF59 _ _ (hF58 _ _ (hF57 _ _ (hF56 _ _ (hF55 _ _ h))))) r53)) (LiC.one (sz := 9) rfl (Mon.h (fun b o h => hF59 _ _ h) r58))) (show 2 ≤ _ by decide)); replace m := fun b o h => hF59 b o (m b o h); replace m2 := fun b o h => hF59 b o (m2 b o h))
 refine wpList_nil ?_
 refine wpm_eff rfl rfl (kwg S fun b o h => by exact m2 _ _ h) ?_
 refine wpl_take S rfl rfl rfl ?_
 (refine wcF S (lcallCt F59 [97, 110, 100] (.cons (litX (boolV false)).1 (litX (boolV false)).2 (.cons (callX2 [61, 61] xDiv (litX (intV 1))).1 (callX2 [61, 61] xDiv (litX (intV 1))).2 .nil)) _ r59) ?_; clear S a; intro v60 F60 a w hv hF60 S; obtain ⟨c60, rfl, -, r60⟩ := hv; obtain ⟨xa60, xb60, xc60, xd60, xe60, he60, -, -⟩ := exc_slc (ror_exc r60); subst he60; replace m := fun b o h => hF60 b o (m b o h); replace m2 := fun b o h => hF60 b o (m2 b o h))
 refine wpList_nil ?_
 refine wpm_eff rfl rfl (kwg S fun b o h => by exact m2 _ _ h) ?_
 refine wpl_take S rfl rfl rfl ?_
 (refine wcF S (ltruthCt F60 _) ?_; clear S a; intro v61 F61 a w hv hF61 S; obtain ⟨c61, rfl, -, r61⟩ := hv; obtain ⟨xa61, xb61, he61, -, -⟩ := vac_slc (ror_vac r61); subst he61; replace m := fun b o h => hF61 b o (m b o h); replace m2 := fun b o h => hF61 b o (m2 b o h))
 refine wpList_nil ?_
 refine wpm_eff rfl rfl (kwg S fun b o h => by exact m2 _ _ h) ?_
 refine wpl_take S rfl rfl rfl ?_
 (refine wc0 S (comesCt F61 (hT.mono m) (hE.mono m) (callX2 [97, 110, 100] (litX (boolV false)) (callX2 [61, 61] xDiv (litX (intV 1)))) _ (Mon.h (fun b o h => hF61 _ _ h) r60) (GE_call2 (by decide) (GE_truth _) (GE_call2 (by decide) gDiv (GE_num (by decide)))) (boolV false) _ r61 0) ?_; clear S a; intro v a w hv S; subst hv)
 (rw [w6] at S)
 (revert S a; refine go 2 ?_; intro a S)
 refine wpm_eff rfl rfl (kwg S fun b o h => by exact m2 _ _ h) ?_
 (revert S a; refine go 2 ?_; intro a S)
 (refine wpm_nil (kwg S fun b o h => by exact m2 _ _ h) (hZ _ _ ?_); clear hZ Z)
 refine wp_ret (fr1 S Tryz.results5 ?_)
 rfl
def Pr (r : Ex × Ex) : Prop := GE r.1.1 r.1.2 ∧ GE r.2.1 r.2.2 ∧ ((evalO [] [] r.1.1 r.1.2).1 = 0 → (evalO [] [] r.2.1 r.2.2).1 = 0 → (evalO [] [] r.1.1 r.1.2).2 = (evalO [] [] r.2.1 r.2.2).2)
end Go.Proofs.YtgefmjghdijbfaaGreatDoor
namespace Go.Wk
open Go
set_option linter.unusedVariables false
set_option linter.unusedSimpArgs false
structure PM where
  p : Value → Heap → Prop
  mono : ∀ v F F', (∀ b o, F b = some o → F' b = some o) → p v F → p v F'
end Go.Wk
namespace Go.Proofs.YtgefmjghdijbfaaGreatDoor
open Go Go.Wk Go.Un Go.De Go.RowKit Go.Extern.Stop Go.Stop Go.Extern Go.Num
set_option linter.unusedSimpArgs false
set_option linter.unusedVariables false
attribute [local irreducible] Go.wpList Go.Code.wp Go.wpStill Go.Wk.wpPre Go.bodyPost Go.Calls Go.Wk.Ct Go.Wk.OwnS Go.Wk.wpG Go.Wk.wpM
theorem FoM.pos {F : Heap} {ao : Option Addr} {l : Fo} {k : Nat} (hpos : 0 < l.len → ∃ b o, ao = some ⟨b, o, none⟩ ∧ FoM F l b o) (hk : k < l.len) : ∃ b o, ao = some ⟨b, o, none⟩ ∧ ∃ x v, l.get? k = some x ∧ Cels F b (o + k * 2) [.string (bs x.1), v] ∧ SlF F v x.2 := by
 obtain ⟨b, o, e, h⟩ := hpos (by omega)
 obtain ⟨x, hx⟩ := Fo.get_lt hk
 obtain ⟨cs, h1, h2, v, rfl, h3⟩ := h.at hx
 exact ⟨b, o, e, x, v, hx, h1, h3⟩
section
variable {P : Program} {n : Sz} {L : List (Nat × Value)} {w0 : World} {F0 : Heap} {K0 : List Nat} {F : Heap} {G : List Grp} {a : Act} {w : World} {o : Oper}
theorem sv_addW {x y : Operand} {p q : Int} {t yt : TypeId} (S : St n L w0 F0 K0 F G a w) (ho : o.op = .binOp .add t x y yt) (hx : ev L x = some (.int .i64 p)) (hy : ev L y = some (.int .i64 q)) : SV P o a w (.int .i64 (IntKind.i64.wrap (p + q))) :=
 run_intOp S ho hx hy (by simp [binOp, Op.intArith])
theorem sv_subW {x y : Operand} {p q : Int} {t yt : TypeId} (S : St n L w0 F0 K0 F G a w) (ho : o.op = .binOp .sub t x y yt) (hx : ev L x = some (.int .i64 p)) (hy : ev L y = some (.int .i64 q)) : SV P o a w (.int .i64 (IntKind.i64.wrap (p - q))) :=
 run_intOp S ho hx hy (by simp [binOp, Op.intArith])
end
def CbT (F : Heap) (fid : FuncId) (fi ca : List Value) (p : Ty → Bool) : Prop := ∀ (F' : Heap) (x : Ty) (cs : List Value), (∀ b o, F b = some o → F' b = some o) → TyC F' cs x.1 x.2 → Ct Tryz.prog fid (fi ++ [.agg ⟨cs⟩] ++ ca) F' [] (fun _ _ u => u = .bool (p x))
theorem CbT.mono {F F' : Heap} {fid : FuncId} {fi ca : List Value} {p : Ty → Bool} (h : CbT F fid fi ca p) (hF : ∀ b o, F b = some o → F' b = some o) : CbT F' fid fi ca p := fun F2 x cs h2 => h F2 x cs fun b o hb => h2 _ _ (hF _ _ hb)
structure TyS (F : Heap) (tb m1 : Nat) (ts : List TD) : Prop where
  c : Cel F tb 0 (.map (some m1))
  m : MapS F TdR TD.nm m1 ts
theorem TyS.mono {F F' : Heap} {tb m1 : Nat} {ts : List TD} (hF : ∀ b o, F b = some o → F' b = some o) (h : TyS F tb m1 ts) : TyS F' tb m1 ts := ⟨h.c.mono hF, h.m.mono hF⟩
def FThin (l : List FD) : Prop := ∀ x ∈ l, x.ta.len * 40 ≤ 140737488355328 ∧ Thin x.ta
def CntE (es : List (List UInt8 × Value)) (k : List (List UInt8)) : Prop := ∀ nm, (mGet es nm).getD (.int .i64 0) = .int .i64 ((k.count nm : Nat) : Int)
theorem CntE.set {es : List (List UInt8 × Value)} {k : List (List UInt8)} (h : CntE es k) (nm : List UInt8) : CntE (mSet es nm (.int .i64 ((k.count nm + 1 : Nat) : Int))) (k ++ [nm]) := fun x => by
 rw [List.count_append, List.count_singleton]
 by_cases e : nm = x
 ·subst e
  rw [mGet_set, if_pos rfl]
  simp
 ·rw [mGet_set, if_neg (fun h2 => e h2.symm), h x]
  have : (nm == x) = false := by simpa using e
  rw [this]; simp
structure TabS (F : Heap) (tb m1 m2 m3 : Nat) (ts : List TD) (css : List KC) (rs : List RD) : Prop where
  c : Cels F tb 0 [.map (some m1), .map (some m2), .map (some m3)]
  t : MapS F TdR TD.nm m1 ts
  k : MapS F KcR KC.nm m2 css
  r : MapS F RdR RD.nm m3 rs
theorem TabS.mono {F F' : Heap} {tb m1 m2 m3 : Nat} {ts : List TD} {css : List KC} {rs : List RD} (hF : ∀ b o, F b = some o → F' b = some o) (h : TabS F tb m1 m2 m3 ts css rs) : TabS F' tb m1 m2 m3 ts css rs := ⟨Cels.mono hF h.c, h.t.mono hF, h.k.mono hF, h.r.mono hF⟩
theorem TabS.ty {F : Heap} {tb m1 m2 m3 : Nat} {ts : List TD} {css : List KC} {rs : List RD} (h : TabS F tb m1 m2 m3 ts css rs) : TyS F tb m1 ts := ⟨h.c 0 _ rfl, h.t⟩
def zKC : KC := ⟨[], [], [], 0, []⟩
structure HasM (F : Heap) (b6 b5 mb : Nat) (es : List (List UInt8 × Value)) (k : List (List UInt8)) : Prop where
  c6 : Cel F b6 0 (.func (.func 176) ⟨[]⟩ ⟨[.pointer (some ⟨b6, 0, none⟩), .pointer (some ⟨b5, 0, none⟩)]⟩)
  c5 : Cel F b5 0 (.map (some mb))
  m : F mb = some (mObj kS es)
  e : CntE es k
theorem HasM.mono {F F' : Heap} {b6 b5 mb : Nat} {es : List (List UInt8 × Value)} {k : List (List UInt8)} (hF : ∀ b o, F b = some o → F' b = some o) (h : HasM F b6 b5 mb es k) : HasM F' b6 b5 mb es k := ⟨h.c6.mono hF, h.c5.mono hF, hF _ _ h.m, h.e⟩
abbrev hd (t : Nat) : Value := .pointer (some ⟨9, t, none⟩)
def ErrT (F : Heap) : Prop := Cel F 0 0 (.iface 208 (.agg #[hd 119]))
def nX (n : Int) : Ex := litX (intV n)
def hX (s : List UInt8) : Ex := litX (bigV s)
def tX (s : List UInt8) : Ex := litX (textV s)
def topX : Ex := nX 9223372036854775807
def lowX : Ex := nX (-9223372036854775808)
def longX : Ex := tX (List.replicate 2048 0)
structure ExT where
  x : Ex
  v : Vv
  e : Int
def ok (x : Ex) (v : Vv) : ExT := ⟨x, v, 0⟩
structure EnK (F : Heap) : Prop where
  T : TabF F
  E : ErrF F
  M : ErrT F
theorem EnK.mono {F F' : Heap} (h : EnK F) (hF : ∀ b o, F b = some o → F' b = some o) : EnK F' := ⟨h.T.mono hF, h.E.mono hF, h.M.mono hF⟩
def KSz (css : List KC) : Prop := ∀ c ∈ css, c.ps.length ≤ 1000000 ∧ c.fs.length ≤ 1000000 ∧ FThin c.fs
theorem KSz.of {css : List KC} {s : List UInt8} {x : KC} (hK : KSz css) (h : findC css s = some x ∨ findC css s = none ∧ x = zKC) : x.ps.length ≤ 1000000 ∧ x.fs.length ≤ 1000000 ∧ FThin x.fs := by
 rcases h with h | ⟨-, rfl⟩
 ·exact hK x (List.mem_of_find?_eq_some h)
 ·exact ⟨Nat.zero_le _, Nat.zero_le _, fun y hy => by cases hy⟩
def enPC : List UInt8 := [112, 46, 99]
def enFs : List FD := [FD.mk [120] [105, 110, 116] .nil, FD.mk [] [105, 110, 116] .nil]
def enCD : CD := ⟨enPC, enFs⟩
def enTD : TD := ⟨0, 0, false, [112], [], [enCD]⟩
structure EnW (F : Heap) (tb m1 m2 m3 : Nat) : Prop where
  T : TabF F
  E : ErrF F
  B : TabS F tb m1 m2 m3 [enTD] (consOf [enTD]) []
theorem EnW.mono {F F' : Heap} {tb m1 m2 m3 : Nat} (h : EnW F tb m1 m2 m3) (hF : ∀ b o, F b = some o → F' b = some o) : EnW F' tb m1 m2 m3 := ⟨h.T.mono hF, h.E.mono hF, h.B.mono hF⟩
structure EnT (F : Heap) (b1 b2 b3 b4 : Nat) : Prop where
  K : EnK F
  f1 : ∃ cs, Cels F b1 0 cs ∧ ReR F topX cs
  f2 : ∃ cs, Cels F b2 0 cs ∧ ReR F lowX cs
  f3 : ∃ cs, Cels F b3 0 cs ∧ ReR F (nX 1) cs
  f4 : ∃ cs, Cels F b4 0 cs ∧ ReR F longX cs
theorem en_f {F F' : Heap} {b : Nat} {x : Ex} (hF : ∀ b o, F b = some o → F' b = some o) (h : ∃ cs, Cels F b 0 cs ∧ ReR F x cs) : ∃ cs, Cels F' b 0 cs ∧ ReR F' x cs := by
 obtain ⟨cs, h1, h2⟩ := h
 exact ⟨cs, h1.mono hF, Mon.h hF h2⟩
theorem EnT.mono {F F' : Heap} {b1 b2 b3 b4 : Nat} (h : EnT F b1 b2 b3 b4) (hF : ∀ b o, F b = some o → F' b = some o) : EnT F' b1 b2 b3 b4 := ⟨h.K.mono hF, en_f hF h.f1, en_f hF h.f2, en_f hF h.f3, en_f hF h.f4⟩
end Go.Proofs.YtgefmjghdijbfaaGreatDoor
namespace Go.Wk
open Go Go.ChangeShapes Go.WideShapes
set_option linter.unusedSimpArgs false
set_option linter.unusedVariables false
def heapOf (w : World) : Heap := fun b => w.heap[b]?
theorem cel_of {W : World} {a : Addr} {v : Value} (h : W.cell? a = some v) : a.spot = none ∧ Cel (heapOf W) a.block a.off v := by
 refine ⟨World.cell?_spot h, ?_⟩
 unfold World.cell? at h
 split at h
 ·rename_i c e f hc
  split at h
  ·cases h
  ·exact ⟨c, e, f, hc, h⟩
 ·cases h
theorem add_none (b off n : Nat) : (⟨b, off, none⟩ : Addr).add n = ⟨b, off + n, none⟩ := by
 unfold Addr.add; split
 ·rename_i h; subst h; rfl
 ·rfl
theorem Cels.append {F : Heap} {b off : Nat} {xs ys : List Value} (h1 : Cels F b off xs) (h2 : Cels F b (off + xs.length) ys) : Cels F b off (xs ++ ys) := by
 intro j v hv
 by_cases hj : j < xs.length
 ·rw [List.getElem?_append_left hj] at hv; exact h1 j v hv
 ·rw [List.getElem?_append_right (by omega)] at hv
  have := h2 _ v hv
  rw [show off + xs.length + (j - xs.length) = off + j by omega] at this
  exact this
end Go.Wk
