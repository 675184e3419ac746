/- The walk of works: the examples. EvalPaper's twelve pairs, in plain Lean. An argument that came in, opened into a list: a slice whose every element reads as 'cell x' leads to the cells of a list of such x; and what the steps' memory says of a world: 'Below'. What the frames of Eval's laws share: the variables that lie in memory when a call begins. The plain law of EvalUnseen: what stands where it is not looked at changes nothing; nor does a binding of a name that stands nowhere. Walks: the law's own counting: size, parts, large; and what it says, in plain Lean. -/
import Derived.Test.YtigblodhdfnleaaGreatDoorEvO
import Derived.Test.YtigblodhdfnleaaGreatDoorWk7
import Derived.OpenShut
import Derived.Below
import Derived.Carry
import Derived.SizedLaws
import Derived.Deep.Slices
import Derived.Deep.Strs
import Derived.Test.YtigblodhdfnleaaGreatDoorRows
import Derived.Test.YtigblodhdfnleaaGreatDoorCards
import Derived.Test.YtigblodhdfnleaaGreatDoorTie
import Derived.WalkKit
import Derived.ProofKit
import Derived.LaidMore
import Derived.LaidHandle
import Derived.Lay
import Derived.ShutString
import Derived.Stop.Joined
import Derived.ChangeOld
import Derived.SevenTiedAt
import Derived.Test.YtigblodhdfnleaaGreatDoorEv
import Derived.Test.YtigblodhdfnleaaGreatDoorWk17
namespace Go.Proofs.YtigblodhdfnleaaGreatDoor
open Go Go.Wk Go.Un Go.De Go.Num
set_option linter.unusedSimpArgs false
set_option linter.unusedVariables false
attribute [local irreducible] Go.wpList Go.Code.wp Go.wpStill Go.Wk.wpPre Go.bodyPost Go.Calls Go.Wk.Ct Go.Wk.OwnS
attribute [local irreducible] Go.Wk.wpG Go.Wk.wpM

theorem GE_lit {v : Vv} (g : GV v) : GE (litX v).1 (litX v).2 := ⟨g, ⟨Nat.zero_le _, Nat.zero_le _⟩, trivial⟩
theorem GE_call2 {s : List UInt8} {x y : Ex} (hs : s.length ≤ 140737488355328) (g : GE x.1 x.2) (g2 : GE y.1 y.2) : GE (callX2 s x y).1 (callX2 s x y).2 := ⟨GV_z, ⟨show 2 ≤ 3000 by decide, hs⟩, g, g2, trivial⟩
theorem GE_num {n : Int} (h : in64 n) : GE (litX (intV n)).1 (litX (intV n)).2 := GE_lit (GV_leaf h (by decide))
theorem GE_text {s : List UInt8} (h : s.length ≤ 200000) : GE (litX (textV s)).1 (litX (textV s)).2 := GE_lit (GV_leaf (by decide) h)
theorem GE_huge {s : List UInt8} (h : s.length ≤ 200000) : GE (litX (bigV s)).1 (litX (bigV s)).2 := GE_lit (GV_leaf (by decide) h)
theorem GE_truth (b : Bool) : GE (litX (boolV b)).1 (litX (boolV b)).2 := GE_lit (GV_bool b)
def xDiv : Ex := callX2 [47] (litX (intV 1)) (litX (intV 0))
theorem gDiv : GE xDiv.1 xDiv.2 := GE_call2 (by decide) (GE_num (by decide)) (GE_num (by decide))
theorem w1 : comesB (callX2 [47] (litX (intV 7)) (litX (intV (-2)))) (intV (-3)) 0 = true := by decide +kernel
theorem w2 : comesB (callX2 [37] (litX (intV 7)) (litX (intV (-2)))) (intV 1) 0 = true := by decide +kernel
theorem w3 : comesB xDiv zV 81 = true := by decide +kernel
theorem w4 : comesB (callX2 [42] (litX (bigV [51])) (litX (bigV [52]))) (bigV [49, 50]) 0 = true := by decide +kernel
theorem w5 : comesB (callX2 [43, 43] (litX (textV [97])) (litX (textV [98]))) (textV [97, 98]) 0 = true := by decide +kernel
theorem w6 : comesB (callX2 [97, 110, 100] (litX (boolV false)) (callX2 [61, 61] xDiv (litX (intV 1)))) (boolV false) 0 = true := by decide +kernel
set_option maxRecDepth 20000 in
set_option maxHeartbeats 64000000 in
theorem worksCt (F : Heap) (hT : TabF F) (hE : ErrF F) : Ct Tryz.prog 5 [] F [] (fun _ _ u => u = .bool true) := by
  have m : ∀ b o, F b = some o → F b = some o := fun _ _ h => h
  refine Ct.enter Tryz.func5 rfl Tryz.ntmps5 rfl fun w0 a S => ?_
  (revert S a; refine go01 5 ?_; intro Z hZ a S)
  (refine wpl_callF S rfl rfl rfl rfl rfl rfl (lnumCt F _) rfl ?_; clear S a; intro v2 F2 a w hv hF2 S; obtain ⟨c2, rfl, -, r2⟩ := hv; obtain ⟨xa2, xb2, he2, -, -⟩ := vac_slc (ror_vac r2); subst he2; replace m := fun b o h => hF2 b o (m b o h))
  (refine wpl_callF S rfl rfl rfl rfl rfl rfl (llitCt F2 _ _ r2) rfl ?_; clear S a; intro v3 F3 a w hv hF3 S; obtain ⟨c3, rfl, -, r3⟩ := hv; obtain ⟨xa3, xb3, xc3, xd3, xe3, he3, -, -⟩ := exc_slc (ror_exc r3); subst he3; replace m := fun b o h => hF3 b o (m b o h))
  (refine wpl_callF S rfl rfl rfl rfl rfl rfl (lnumCt F3 _) rfl ?_; clear S a; intro v4 F4 a w hv hF4 S; obtain ⟨c4, rfl, -, r4⟩ := hv; obtain ⟨xa4, xb4, he4, -, -⟩ := vac_slc (ror_vac r4); subst he4; replace m := fun b o h => hF4 b o (m b o h))
  (refine wpl_callF S rfl rfl rfl rfl rfl rfl (llitCt F4 _ _ r4) rfl ?_; clear S a; intro v5 F5 a w hv hF5 S; obtain ⟨c5, rfl, -, r5⟩ := hv; obtain ⟨xa5, xb5, xc5, xd5, xe5, he5, -, -⟩ := exc_slc (ror_exc r5); subst he5; replace m := fun b o h => hF5 b o (m b o h))
  (refine wpl_buildSlice S rfl rfl rfl rfl rfl rfl (by rfl) (by simp [Value.cells, splice]) rfl (by rfl) (by rfl) ?_; clear S a; intro b6 a w hown S; have S' := frz1 S; clear S; obtain ⟨F6, hF6, hb6, S⟩ := S'; have r6 := trs_lim (lim_of (l := ([(litX (intV 1)), (litX (intV 0))] : List Ex)) hb6 (LiC.app (l := ([(litX (intV 1))] : List Ex)) (LiC.one (sz := 9) rfl (Mon.h (fun b o h => hF6 _ _ (hF5 _ _ (hF4 _ _ h))) r3)) (LiC.one (sz := 9) rfl (Mon.h (fun b o h => hF6 _ _ h) r5))) (show 2 ≤ _ by decide)); replace m := fun b o h => hF6 b o (m b o h))
  (refine wpl_callF S rfl rfl rfl rfl rfl rfl (lcallCt F6 [47] (.cons (litX (intV 1)).1 (litX (intV 1)).2 (.cons (litX (intV 0)).1 (litX (intV 0)).2 .nil)) _ r6) rfl ?_; clear S a; intro v7 F7 a w hv hF7 S; obtain ⟨c7, rfl, -, r7⟩ := hv; obtain ⟨xa7, xb7, xc7, xd7, xe7, he7, -, -⟩ := exc_slc (ror_exc r7); subst he7; replace m := fun b o h => hF7 b o (m b o h))
  (refine wpl_alloc S rfl rfl rfl rfl ?_; clear S a; intro b1 a w S)
  (refine wpl_storeO S rfl rfl rfl rfl rfl (by rfl) (by simp [Value.cells, Value.oneCell', splice]) (by rfl) ?_; clear S; intro w S)
  (refine wpList_nil (hZ _ _ ?_); clear hZ Z; refine wp_seq_k fun Z hZ => ?_)
  (have m2 : ∀ b o, F7 b = some o → F7 b = some o := fun _ _ h => h)
  (refine wpc_mixM [8, 17, 18, 19, 20, 22, 23, 32, 33, 42, 43, 46, 55] [19, 46] [] (.one 0 (.one 1 (.one 2 (.one 3 (.one 4 (.one 5 (.one 6 (.one 7 (.one 8 (.one 9 (.one 10 (.one 11 (.one 12 (.one 13 (.one 14 (.one 15 (.one 16 (.one 17 (.one 18 (.one 19 (.one 20 (.one 21 (.one 22 (.one 23 (.one 24 (.one 25 (.one 26 (.one 27 (.one 28 (.one 29 (.one 30 (.one 31 (.one 32 (.one 33 (.one 34 (.one 35 (.one 36 (.one 37 (.one 38 (.one 39 (.one 40 (.one 41 (.one 42 (.one 43 (.one 46 (.one 44 (.one 45 (.one 47 (.one 48 (.one 49 (.one 50 (.one 51 (.one 52 (.one 53 (.one 54 (.one 55 (.one 56 .nil))))))))))))))))))))))))))))))))))))))))))))))))))))))))) [b1] S mixed (by kernel_rfl) ?_; clear S; intro w S)
  refine wpm_eff rfl rfl (kwg S fun b o h => by exact m2 _ _ h) ?_
  (refine wpl_callF S rfl rfl rfl rfl rfl rfl (lnumCt F7 _) rfl ?_; clear S a; intro v8 F8 a w hv hF8 S; obtain ⟨c8, rfl, -, r8⟩ := hv; obtain ⟨xa8, xb8, he8, -, -⟩ := vac_slc (ror_vac r8); subst he8; replace m := fun b o h => hF8 b o (m b o h); replace m2 := fun b o h => hF8 b o (m2 b o h))
  refine wpList_nil ?_
  refine wpm_eff rfl rfl (kwg S fun b o h => by exact m2 _ _ h) ?_
  (refine wpl_callF S rfl rfl rfl rfl rfl rfl (llitCt F8 _ _ r8) rfl ?_; clear S a; intro v9 F9 a w hv hF9 S; obtain ⟨c9, rfl, -, r9⟩ := hv; obtain ⟨xa9, xb9, xc9, xd9, xe9, he9, -, -⟩ := exc_slc (ror_exc r9); subst he9; replace m := fun b o h => hF9 b o (m b o h); replace m2 := fun b o h => hF9 b o (m2 b o h))
  refine wpList_nil ?_
  refine wpm_eff rfl rfl (kwg S fun b o h => by exact m2 _ _ h) ?_
  (refine wpl_callF S rfl rfl rfl rfl rfl rfl (lnumCt F9 _) rfl ?_; clear S a; intro v10 F10 a w hv hF10 S; obtain ⟨c10, rfl, -, r10⟩ := hv; obtain ⟨xa10, xb10, he10, -, -⟩ := vac_slc (ror_vac r10); subst he10; replace m := fun b o h => hF10 b o (m b o h); replace m2 := fun b o h => hF10 b o (m2 b o h))
  refine wpList_nil ?_
  refine wpm_eff rfl rfl (kwg S fun b o h => by exact m2 _ _ h) ?_
  (refine wpl_callF S rfl rfl rfl rfl rfl rfl (llitCt F10 _ _ r10) rfl ?_; clear S a; intro v11 F11 a w hv hF11 S; obtain ⟨c11, rfl, -, r11⟩ := hv; obtain ⟨xa11, xb11, xc11, xd11, xe11, he11, -, -⟩ := exc_slc (ror_exc r11); subst he11; replace m := fun b o h => hF11 b o (m b o h); replace m2 := fun b o h => hF11 b o (m2 b o h))
  refine wpList_nil ?_
  refine wpm_eff rfl rfl (kwg S fun b o h => by exact m2 _ _ h) ?_
  (refine wpl_buildSlice S rfl rfl rfl rfl rfl rfl (by rfl) (by simp [Value.cells, splice]) rfl (by rfl) (by rfl) ?_; clear S a; intro b12 a w hown S; have S' := frz1 S; clear S; obtain ⟨F12, hF12, hb12, S⟩ := S'; have r12 := trs_lim (lim_of (l := ([(litX (intV 7)), (litX (intV (-2)))] : List Ex)) hb12 (LiC.app (l := ([(litX (intV 7))] : List Ex)) (LiC.one (sz := 9) rfl (Mon.h (fun b o h => hF12 _ _ (hF11 _ _ (hF10 _ _ h))) r9)) (LiC.one (sz := 9) rfl (Mon.h (fun b o h => hF12 _ _ h) r11))) (show 2 ≤ _ by decide)); replace m := fun b o h => hF12 b o (m b o h); replace m2 := fun b o h => hF12 b o (m2 b o h))
  refine wpList_nil ?_
  refine wpm_eff rfl rfl (kwg S fun b o h => by exact m2 _ _ h) ?_
  (refine wpl_callF S rfl rfl rfl rfl rfl rfl (lcallCt F12 [47] (.cons (litX (intV 7)).1 (litX (intV 7)).2 (.cons (litX (intV (-2))).1 (litX (intV (-2))).2 .nil)) _ r12) rfl ?_; clear S a; intro v13 F13 a w hv hF13 S; obtain ⟨c13, rfl, -, r13⟩ := hv; obtain ⟨xa13, xb13, xc13, xd13, xe13, he13, -, -⟩ := exc_slc (ror_exc r13); subst he13; replace m := fun b o h => hF13 b o (m b o h); replace m2 := fun b o h => hF13 b o (m2 b o h))
  refine wpList_nil ?_
  refine wpm_eff rfl rfl (kwg S fun b o h => by exact m2 _ _ h) ?_
  (refine wpl_callF S rfl rfl rfl rfl rfl rfl (lnumCt F13 _) rfl ?_; clear S a; intro v14 F14 a w hv hF14 S; obtain ⟨c14, rfl, -, r14⟩ := hv; obtain ⟨xa14, xb14, he14, -, -⟩ := vac_slc (ror_vac r14); subst he14; replace m := fun b o h => hF14 b o (m b o h); replace m2 := fun b o h => hF14 b o (m2 b o h))
  refine wpList_nil ?_
  refine wpm_eff rfl rfl (kwg S fun b o h => by exact m2 _ _ h) ?_
  (refine wpl_call0 S rfl rfl rfl rfl rfl rfl (comesCt F14 (hT.mono m) (hE.mono m) (callX2 [47] (litX (intV 7)) (litX (intV (-2)))) _ (Mon.h (fun b o h => hF14 _ _ h) r13) (GE_call2 (by decide) (GE_num (by decide)) (GE_num (by decide))) (intV (-3)) _ r14 0) rfl ?_; clear S a; intro v a w hv S; subst hv)
  (rw [w1] at S)
  refine wpList_nil ?_
  (refine wpm_p S rfl rfl rfl (want_none _ rfl) rfl rfl ?_; clear S a; intro a S)
  refine wpm_eff rfl rfl (kwg S fun b o h => by exact m2 _ _ h) ?_
  refine wpl_take S rfl rfl rfl ?_
  (refine wpl_callF S rfl rfl rfl rfl rfl rfl (lnumCt F14 _) rfl ?_; clear S a; intro v17 F17 a w hv hF17 S; obtain ⟨c17, rfl, -, r17⟩ := hv; obtain ⟨xa17, xb17, he17, -, -⟩ := vac_slc (ror_vac r17); subst he17; replace m := fun b o h => hF17 b o (m b o h); replace m2 := fun b o h => hF17 b o (m2 b o h))
  refine wpList_nil ?_
  refine wpm_eff rfl rfl (kwg S fun b o h => by exact m2 _ _ h) ?_
  refine wpl_take S rfl rfl rfl ?_
  (refine wpl_callF S rfl rfl rfl rfl rfl rfl (llitCt F17 _ _ r17) rfl ?_; clear S a; intro v18 F18 a w hv hF18 S; obtain ⟨c18, rfl, -, r18⟩ := hv; obtain ⟨xa18, xb18, xc18, xd18, xe18, he18, -, -⟩ := exc_slc (ror_exc r18); subst he18; replace m := fun b o h => hF18 b o (m b o h); replace m2 := fun b o h => hF18 b o (m2 b o h))
  refine wpList_nil ?_
  refine wpm_eff rfl rfl (kwg S fun b o h => by exact m2 _ _ h) ?_
  refine wpl_take S rfl rfl rfl ?_
  (refine wpl_callF S rfl rfl rfl rfl rfl rfl (lnumCt F18 _) rfl ?_; clear S a; intro v19 F19 a w hv hF19 S; obtain ⟨c19, rfl, -, r19⟩ := hv; obtain ⟨xa19, xb19, he19, -, -⟩ := vac_slc (ror_vac r19); subst he19; replace m := fun b o h => hF19 b o (m b o h); replace m2 := fun b o h => hF19 b o (m2 b o h))
  refine wpList_nil ?_
  refine wpm_eff rfl rfl (kwg S fun b o h => by exact m2 _ _ h) ?_
  refine wpl_take S rfl rfl rfl ?_
  (refine wpl_callF S rfl rfl rfl rfl rfl rfl (llitCt F19 _ _ r19) rfl ?_; clear S a; intro v20 F20 a w hv hF20 S; obtain ⟨c20, rfl, -, r20⟩ := hv; obtain ⟨xa20, xb20, xc20, xd20, xe20, he20, -, -⟩ := exc_slc (ror_exc r20); subst he20; replace m := fun b o h => hF20 b o (m b o h); replace m2 := fun b o h => hF20 b o (m2 b o h))
  refine wpList_nil ?_
  refine wpm_eff rfl rfl (kwg S fun b o h => by exact m2 _ _ h) ?_
  refine wpl_take S rfl rfl rfl ?_
  (refine wpl_buildSlice S rfl rfl rfl rfl rfl rfl (by rfl) (by simp [Value.cells, splice]) rfl (by rfl) (by rfl) ?_; clear S a; intro b21 a w hown S; have S' := frz1 S; clear S; obtain ⟨F21, hF21, hb21, S⟩ := S'; have r21 := trs_lim (lim_of (l := ([(litX (intV 7)), (litX (intV (-2)))] : List Ex)) hb21 (LiC.app (l := ([(litX (intV 7))] : List Ex)) (LiC.one (sz := 9) rfl (Mon.h (fun b o h => hF21 _ _ (hF20 _ _ (hF19 _ _ h))) r18)) (LiC.one (sz := 9) rfl (Mon.h (fun b o h => hF21 _ _ h) r20))) (show 2 ≤ _ by decide)); replace m := fun b o h => hF21 b o (m b o h); replace m2 := fun b o h => hF21 b o (m2 b o h))
  refine wpList_nil ?_
  refine wpm_eff rfl rfl (kwg S fun b o h => by exact m2 _ _ h) ?_
  refine wpl_take S rfl rfl rfl ?_
  (refine wpl_callF S rfl rfl rfl rfl rfl rfl (lcallCt F21 [37] (.cons (litX (intV 7)).1 (litX (intV 7)).2 (.cons (litX (intV (-2))).1 (litX (intV (-2))).2 .nil)) _ r21) rfl ?_; clear S a; intro v22 F22 a w hv hF22 S; obtain ⟨c22, rfl, -, r22⟩ := hv; obtain ⟨xa22, xb22, xc22, xd22, xe22, he22, -, -⟩ := exc_slc (ror_exc r22); subst he22; replace m := fun b o h => hF22 b o (m b o h); replace m2 := fun b o h => hF22 b o (m2 b o h))
  refine wpList_nil ?_
  refine wpm_eff rfl rfl (kwg S fun b o h => by exact m2 _ _ h) ?_
  refine wpl_take S rfl rfl rfl ?_
  (refine wpl_callF S rfl rfl rfl rfl rfl rfl (lnumCt F22 _) rfl ?_; clear S a; intro v23 F23 a w hv hF23 S; obtain ⟨c23, rfl, -, r23⟩ := hv; obtain ⟨xa23, xb23, he23, -, -⟩ := vac_slc (ror_vac r23); subst he23; replace m := fun b o h => hF23 b o (m b o h); replace m2 := fun b o h => hF23 b o (m2 b o h))
  refine wpList_nil ?_
  refine wpm_eff rfl rfl (kwg S fun b o h => by exact m2 _ _ h) ?_
  refine wpl_take S rfl rfl rfl ?_
  (refine wpl_call0 S rfl rfl rfl rfl rfl rfl (comesCt F23 (hT.mono m) (hE.mono m) (callX2 [37] (litX (intV 7)) (litX (intV (-2)))) _ (Mon.h (fun b o h => hF23 _ _ h) r22) (GE_call2 (by decide) (GE_num (by decide)) (GE_num (by decide))) (intV 1) _ r23 0) rfl ?_; clear S a; intro v a w hv S; subst hv)
  (rw [w2] at S)
  refine wpList_nil ?_
  iterate 2 (refine wpm_p S rfl rfl rfl (want_none _ rfl) rfl rfl ?_; clear S a; intro a S)
  (refine wpm_o b1 S rfl rfl rfl (want_yes S rfl rfl rfl) rfl rfl ?_; clear S a; intro a S)
  (refine wpm_b S rfl rfl rfl (want_yes S rfl rfl rfl) rfl rfl ?_; clear S a; intro a S)
  refine wpm_eff rfl rfl (kwg S fun b o h => by exact m2 _ _ h) ?_
  refine wpl_take S rfl rfl rfl ?_
  (refine wpl_call0 S rfl rfl rfl rfl rfl rfl (comesCt F23 (hT.mono m) (hE.mono m) xDiv _ (Mon.h (fun b o h => hF23 _ _ (hF22 _ _ (hF21 _ _ (hF20 _ _ (hF19 _ _ (hF18 _ _ (hF17 _ _ (hF14 _ _ (hF13 _ _ (hF12 _ _ (hF11 _ _ (hF10 _ _ (hF9 _ _ (hF8 _ _ h)))))))))))))) r7) gDiv zV _ (ror_leaf _ 0 0 [] (by decide)) 81) rfl ?_; clear S a; intro v a w hv S; subst hv)
  (rw [w3] at S)
  refine wpList_nil ?_
  iterate 2 (refine wpm_p S rfl rfl rfl (want_none _ rfl) rfl rfl ?_; clear S a; intro a S)
  refine wpm_eff rfl rfl (kwg S fun b o h => by exact m2 _ _ h) ?_
  refine wpl_take S rfl rfl rfl ?_
  (refine wpl_callF S rfl rfl rfl rfl rfl rfl (lhugeCt F23 _ (by decide)) rfl ?_; clear S a; intro v32 F32 a w hv hF32 S; obtain ⟨c32, rfl, -, r32⟩ := hv; obtain ⟨xa32, xb32, he32, -, -⟩ := vac_slc (ror_vac r32); subst he32; replace m := fun b o h => hF32 b o (m b o h); replace m2 := fun b o h => hF32 b o (m2 b o h))
  refine wpList_nil ?_
  refine wpm_eff rfl rfl (kwg S fun b o h => by exact m2 _ _ h) ?_
  refine wpl_take S rfl rfl rfl ?_
  (refine wpl_callF S rfl rfl rfl rfl rfl rfl (llitCt F32 _ _ r32) rfl ?_; clear S a; intro v33 F33 a w hv hF33 S; obtain ⟨c33, rfl, -, r33⟩ := hv; obtain ⟨xa33, xb33, xc33, xd33, xe33, he33, -, -⟩ := exc_slc (ror_exc r33); subst he33; replace m := fun b o h => hF33 b o (m b o h); replace m2 := fun b o h => hF33 b o (m2 b o h))
  refine wpList_nil ?_
  refine wpm_eff rfl rfl (kwg S fun b o h => by exact m2 _ _ h) ?_
  refine wpl_take S rfl rfl rfl ?_
  (refine wpl_callF S rfl rfl rfl rfl rfl rfl (lhugeCt F33 _ (by decide)) rfl ?_; clear S a; intro v34 F34 a w hv hF34 S; obtain ⟨c34, rfl, -, r34⟩ := hv; obtain ⟨xa34, xb34, he34, -, -⟩ := vac_slc (ror_vac r34); subst he34; replace m := fun b o h => hF34 b o (m b o h); replace m2 := fun b o h => hF34 b o (m2 b o h))
  refine wpList_nil ?_
  refine wpm_eff rfl rfl (kwg S fun b o h => by exact m2 _ _ h) ?_
  refine wpl_take S rfl rfl rfl ?_
  (refine wpl_callF S rfl rfl rfl rfl rfl rfl (llitCt F34 _ _ r34) rfl ?_; clear S a; intro v35 F35 a w hv hF35 S; obtain ⟨c35, rfl, -, r35⟩ := hv; obtain ⟨xa35, xb35, xc35, xd35, xe35, he35, -, -⟩ := exc_slc (ror_exc r35); subst he35; replace m := fun b o h => hF35 b o (m b o h); replace m2 := fun b o h => hF35 b o (m2 b o h))
  refine wpList_nil ?_
  refine wpm_eff rfl rfl (kwg S fun b o h => by exact m2 _ _ h) ?_
  refine wpl_take S rfl rfl rfl ?_
  (refine wpl_buildSlice S rfl rfl rfl rfl rfl rfl (by rfl) (by simp [Value.cells, splice]) rfl (by rfl) (by rfl) ?_; clear S a; intro b36 a w hown S; have S' := frz1 S; clear S; obtain ⟨F36, hF36, hb36, S⟩ := S'; have r36 := trs_lim (lim_of (l := ([(litX (bigV [51])), (litX (bigV [52]))] : List Ex)) hb36 (LiC.app (l := ([(litX (bigV [51]))] : List Ex)) (LiC.one (sz := 9) rfl (Mon.h (fun b o h => hF36 _ _ (hF35 _ _ (hF34 _ _ h))) r33)) (LiC.one (sz := 9) rfl (Mon.h (fun b o h => hF36 _ _ h) r35))) (show 2 ≤ _ by decide)); replace m := fun b o h => hF36 b o (m b o h); replace m2 := fun b o h => hF36 b o (m2 b o h))
  refine wpList_nil ?_
  refine wpm_eff rfl rfl (kwg S fun b o h => by exact m2 _ _ h) ?_
  refine wpl_take S rfl rfl rfl ?_
  (refine wpl_callF S rfl rfl rfl rfl rfl rfl (lcallCt F36 [42] (.cons (litX (bigV [51])).1 (litX (bigV [51])).2 (.cons (litX (bigV [52])).1 (litX (bigV [52])).2 .nil)) _ r36) rfl ?_; clear S a; intro v37 F37 a w hv hF37 S; obtain ⟨c37, rfl, -, r37⟩ := hv; obtain ⟨xa37, xb37, xc37, xd37, xe37, he37, -, -⟩ := exc_slc (ror_exc r37); subst he37; replace m := fun b o h => hF37 b o (m b o h); replace m2 := fun b o h => hF37 b o (m2 b o h))
  refine wpList_nil ?_
  refine wpm_eff rfl rfl (kwg S fun b o h => by exact m2 _ _ h) ?_
  refine wpl_take S rfl rfl rfl ?_
  (refine wpl_callF S rfl rfl rfl rfl rfl rfl (lhugeCt F37 _ (by decide)) rfl ?_; clear S a; intro v38 F38 a w hv hF38 S; obtain ⟨c38, rfl, -, r38⟩ := hv; obtain ⟨xa38, xb38, he38, -, -⟩ := vac_slc (ror_vac r38); subst he38; replace m := fun b o h => hF38 b o (m b o h); replace m2 := fun b o h => hF38 b o (m2 b o h))
  refine wpList_nil ?_
  refine wpm_eff rfl rfl (kwg S fun b o h => by exact m2 _ _ h) ?_
  refine wpl_take S rfl rfl rfl ?_
  (refine wpl_call0 S rfl rfl rfl rfl rfl rfl (comesCt F38 (hT.mono m) (hE.mono m) (callX2 [42] (litX (bigV [51])) (litX (bigV [52]))) _ (Mon.h (fun b o h => hF38 _ _ h) r37) (GE_call2 (by decide) (GE_huge (by decide)) (GE_huge (by decide))) (bigV [49, 50]) _ r38 0) rfl ?_; clear S a; intro v a w hv S; subst hv)
  (rw [w4] at S)
  refine wpList_nil ?_
  iterate 2 (refine wpm_p S rfl rfl rfl (want_none _ rfl) rfl rfl ?_; clear S a; intro a S)
  refine wpm_eff rfl rfl (kwg S fun b o h => by exact m2 _ _ h) ?_
  refine wpl_take S rfl rfl rfl ?_
  (refine wpl_callF S rfl rfl rfl rfl rfl rfl (ltextCt F38 _ (by decide)) rfl ?_; clear S a; intro v42 F42 a w hv hF42 S; obtain ⟨c42, rfl, -, r42⟩ := hv; obtain ⟨xa42, xb42, he42, -, -⟩ := vac_slc (ror_vac r42); subst he42; replace m := fun b o h => hF42 b o (m b o h); replace m2 := fun b o h => hF42 b o (m2 b o h))
  refine wpList_nil ?_
  refine wpm_eff rfl rfl (kwg S fun b o h => by exact m2 _ _ h) ?_
  refine wpl_take S rfl rfl rfl ?_
  (refine wpl_callF S rfl rfl rfl rfl rfl rfl (llitCt F42 _ _ r42) rfl ?_; clear S a; intro v43 F43 a w hv hF43 S; obtain ⟨c43, rfl, -, r43⟩ := hv; obtain ⟨xa43, xb43, xc43, xd43, xe43, he43, -, -⟩ := exc_slc (ror_exc r43); subst he43; replace m := fun b o h => hF43 b o (m b o h); replace m2 := fun b o h => hF43 b o (m2 b o h))
  refine wpList_nil ?_
  refine wpm_eff rfl rfl (kwg S fun b o h => by exact m2 _ _ h) ?_
  refine wpl_take S rfl rfl rfl ?_
  (refine wpl_callF S rfl rfl rfl rfl rfl rfl (ltextCt F43 _ (by decide)) rfl ?_; clear S a; intro v44 F44 a w hv hF44 S; obtain ⟨c44, rfl, -, r44⟩ := hv; obtain ⟨xa44, xb44, he44, -, -⟩ := vac_slc (ror_vac r44); subst he44; replace m := fun b o h => hF44 b o (m b o h); replace m2 := fun b o h => hF44 b o (m2 b o h))
  refine wpList_nil ?_
  refine wpm_eff rfl rfl (kwg S fun b o h => by exact m2 _ _ h) ?_
  refine wpl_take S rfl rfl rfl ?_
  (refine wpl_callF S rfl rfl rfl rfl rfl rfl (llitCt F44 _ _ r44) rfl ?_; clear S a; intro v45 F45 a w hv hF45 S; obtain ⟨c45, rfl, -, r45⟩ := hv; obtain ⟨xa45, xb45, xc45, xd45, xe45, he45, -, -⟩ := exc_slc (ror_exc r45); subst he45; replace m := fun b o h => hF45 b o (m b o h); replace m2 := fun b o h => hF45 b o (m2 b o h))
  refine wpList_nil ?_
  refine wpm_eff rfl rfl (kwg S fun b o h => by exact m2 _ _ h) ?_
  refine wpl_take S rfl rfl rfl ?_
  (refine wpl_buildSlice S rfl rfl rfl rfl rfl rfl (by rfl) (by simp [Value.cells, splice]) rfl (by rfl) (by rfl) ?_; clear S a; intro b46 a w hown S; have S' := frz1 S; clear S; obtain ⟨F46, hF46, hb46, S⟩ := S'; have r46 := trs_lim (lim_of (l := ([(litX (textV [97])), (litX (textV [98]))] : List Ex)) hb46 (LiC.app (l := ([(litX (textV [97]))] : List Ex)) (LiC.one (sz := 9) rfl (Mon.h (fun b o h => hF46 _ _ (hF45 _ _ (hF44 _ _ h))) r43)) (LiC.one (sz := 9) rfl (Mon.h (fun b o h => hF46 _ _ h) r45))) (show 2 ≤ _ by decide)); replace m := fun b o h => hF46 b o (m b o h); replace m2 := fun b o h => hF46 b o (m2 b o h))
  refine wpList_nil ?_
  refine wpm_eff rfl rfl (kwg S fun b o h => by exact m2 _ _ h) ?_
  refine wpl_take S rfl rfl rfl ?_
  (refine wpl_callF S rfl rfl rfl rfl rfl rfl (lcallCt F46 [43, 43] (.cons (litX (textV [97])).1 (litX (textV [97])).2 (.cons (litX (textV [98])).1 (litX (textV [98])).2 .nil)) _ r46) rfl ?_; clear S a; intro v47 F47 a w hv hF47 S; obtain ⟨c47, rfl, -, r47⟩ := hv; obtain ⟨xa47, xb47, xc47, xd47, xe47, he47, -, -⟩ := exc_slc (ror_exc r47); subst he47; replace m := fun b o h => hF47 b o (m b o h); replace m2 := fun b o h => hF47 b o (m2 b o h))
  refine wpList_nil ?_
  refine wpm_eff rfl rfl (kwg S fun b o h => by exact m2 _ _ h) ?_
  refine wpl_take S rfl rfl rfl ?_
  (refine wpl_callF S rfl rfl rfl rfl rfl rfl (ltextCt F47 _ (by decide)) rfl ?_; clear S a; intro v48 F48 a w hv hF48 S; obtain ⟨c48, rfl, -, r48⟩ := hv; obtain ⟨xa48, xb48, he48, -, -⟩ := vac_slc (ror_vac r48); subst he48; replace m := fun b o h => hF48 b o (m b o h); replace m2 := fun b o h => hF48 b o (m2 b o h))
  refine wpList_nil ?_
  refine wpm_eff rfl rfl (kwg S fun b o h => by exact m2 _ _ h) ?_
  refine wpl_take S rfl rfl rfl ?_
  (refine wpl_call0 S rfl rfl rfl rfl rfl rfl (comesCt F48 (hT.mono m) (hE.mono m) (callX2 [43, 43] (litX (textV [97])) (litX (textV [98]))) _ (Mon.h (fun b o h => hF48 _ _ h) r47) (GE_call2 (by decide) (GE_text (by decide)) (GE_text (by decide))) (textV [97, 98]) _ r48 0) rfl ?_; clear S a; intro v a w hv S; subst hv)
  (rw [w5] at S)
  refine wpList_nil ?_
  iterate 2 (refine wpm_p S rfl rfl rfl (want_none _ rfl) rfl rfl ?_; clear S a; intro a S)
  (refine wpm_o b1 S rfl rfl rfl (want_yes S rfl rfl rfl) rfl rfl ?_; clear S a; intro a S)
  refine wpm_eff rfl rfl (kwg S fun b o h => by exact m2 _ _ h) ?_
  refine wpl_take S rfl rfl rfl ?_
  (refine wpl_callF S rfl rfl rfl rfl rfl rfl (ltruthCt F48 _) rfl ?_; clear S a; intro v52 F52 a w hv hF52 S; obtain ⟨c52, rfl, -, r52⟩ := hv; obtain ⟨xa52, xb52, he52, -, -⟩ := vac_slc (ror_vac r52); subst he52; replace m := fun b o h => hF52 b o (m b o h); replace m2 := fun b o h => hF52 b o (m2 b o h))
  refine wpList_nil ?_
  refine wpm_eff rfl rfl (kwg S fun b o h => by exact m2 _ _ h) ?_
  refine wpl_take S rfl rfl rfl ?_
  (refine wpl_callF S rfl rfl rfl rfl rfl rfl (llitCt F52 _ _ r52) rfl ?_; clear S a; intro v53 F53 a w hv hF53 S; obtain ⟨c53, rfl, -, r53⟩ := hv; obtain ⟨xa53, xb53, xc53, xd53, xe53, he53, -, -⟩ := exc_slc (ror_exc r53); subst he53; replace m := fun b o h => hF53 b o (m b o h); replace m2 := fun b o h => hF53 b o (m2 b o h))
  refine wpList_nil ?_
  refine wpm_eff rfl rfl (kwg S fun b o h => by exact m2 _ _ h) ?_
  refine wpl_take S rfl rfl rfl ?_
  (refine wpl_callF S rfl rfl rfl rfl rfl rfl (lnumCt F53 _) rfl ?_; clear S a; intro v55 F55 a w hv hF55 S; obtain ⟨c55, rfl, -, r55⟩ := hv; obtain ⟨xa55, xb55, he55, -, -⟩ := vac_slc (ror_vac r55); subst he55; replace m := fun b o h => hF55 b o (m b o h); replace m2 := fun b o h => hF55 b o (m2 b o h))
  refine wpList_nil ?_
  refine wpm_eff rfl rfl (kwg S fun b o h => by exact m2 _ _ h) ?_
  refine wpl_take S rfl rfl rfl ?_
  (refine wpl_callF S rfl rfl rfl rfl rfl rfl (llitCt F55 _ _ r55) rfl ?_; clear S a; intro v56 F56 a w hv hF56 S; obtain ⟨c56, rfl, -, r56⟩ := hv; obtain ⟨xa56, xb56, xc56, xd56, xe56, he56, -, -⟩ := exc_slc (ror_exc r56); subst he56; replace m := fun b o h => hF56 b o (m b o h); replace m2 := fun b o h => hF56 b o (m2 b o h))
  refine wpList_nil ?_
  refine wpm_eff rfl rfl (kwg S fun b o h => by exact m2 _ _ h) ?_
  refine wpl_take S rfl rfl rfl ?_
  (refine wpl_buildSlice S rfl rfl rfl rfl rfl rfl (by rfl) (by simp [Value.cells, splice]) rfl (by rfl) (by rfl) ?_; clear S a; intro b57 a w hown S; have S' := frz1 S; clear S; obtain ⟨F57, hF57, hb57, S⟩ := S'; have r57 := trs_lim (lim_of (l := ([xDiv, (litX (intV 1))] : List Ex)) hb57 (LiC.app (l := ([xDiv] : List Ex)) (LiC.one (sz := 9) rfl (Mon.h (fun b o h => hF57 _ _ (hF56 _ _ (hF55 _ _ (hF53 _ _ (hF52 _ _ (hF48 _ _ (hF47 _ _ (hF46 _ _ (hF45 _ _ (hF44 _ _ (hF43 _ _ (hF42 _ _ (hF38 _ _ (hF37 _ _ (hF36 _ _ (hF35 _ _ (hF34 _ _ (hF33 _ _ (hF32 _ _ (hF23 _ _ (hF22 _ _ (hF21 _ _ (hF20 _ _ (hF19 _ _ (hF18 _ _ (hF17 _ _ (hF14 _ _ (hF13 _ _ (hF12 _ _ (hF11 _ _ (hF10 _ _ (hF9 _ _ (hF8 _ _ h))))))))))))))))))))))))))))))))) r7)) (LiC.one (sz := 9) rfl (Mon.h (fun b o h => hF57 _ _ h) r56))) (show 2 ≤ _ by decide)); replace m := fun b o h => hF57 b o (m b o h); replace m2 := fun b o h => hF57 b o (m2 b o h))
  refine wpList_nil ?_
  refine wpm_eff rfl rfl (kwg S fun b o h => by exact m2 _ _ h) ?_
  refine wpl_take S rfl rfl rfl ?_
  (refine wpl_callF S rfl rfl rfl rfl rfl rfl (lcallCt F57 [61, 61] (.cons xDiv.1 xDiv.2 (.cons (litX (intV 1)).1 (litX (intV 1)).2 .nil)) _ r57) rfl ?_; clear S a; intro v58 F58 a w hv hF58 S; obtain ⟨c58, rfl, -, r58⟩ := hv; obtain ⟨xa58, xb58, xc58, xd58, xe58, he58, -, -⟩ := exc_slc (ror_exc r58); subst he58; replace m := fun b o h => hF58 b o (m b o h); replace m2 := fun b o h => hF58 b o (m2 b o h))
  refine wpList_nil ?_
  refine wpm_eff rfl rfl (kwg S fun b o h => by exact m2 _ _ h) ?_
  refine wpl_take S rfl rfl rfl ?_
  (refine wpl_buildSlice S rfl rfl rfl rfl rfl rfl (by rfl) (by simp [Value.cells, splice]) rfl (by rfl) (by rfl) ?_; clear S a; intro b59 a w hown S; have S' := frz1 S; clear S; obtain ⟨F59, hF59, hb59, S⟩ := S'; have r59 := trs_lim (lim_of (l := ([(litX (boolV false)), (callX2 [61, 61] xDiv (litX (intV 1)))] : List Ex)) hb59 (LiC.app (l := ([(litX (boolV false))] : List Ex)) (LiC.one (sz := 9) rfl (Mon.h (fun b o h => hF59 _ _ (hF58 _ _ (hF57 _ _ (hF56 _ _ (hF55 _ _ h))))) r53)) (LiC.one (sz := 9) rfl (Mon.h (fun b o h => hF59 _ _ h) r58))) (show 2 ≤ _ by decide)); replace m := fun b o h => hF59 b o (m b o h); replace m2 := fun b o h => hF59 b o (m2 b o h))
  refine wpList_nil ?_
  refine wpm_eff rfl rfl (kwg S fun b o h => by exact m2 _ _ h) ?_
  refine wpl_take S rfl rfl rfl ?_
  (refine wpl_callF S rfl rfl rfl rfl rfl rfl (lcallCt F59 [97, 110, 100] (.cons (litX (boolV false)).1 (litX (boolV false)).2 (.cons (callX2 [61, 61] xDiv (litX (intV 1))).1 (callX2 [61, 61] xDiv (litX (intV 1))).2 .nil)) _ r59) rfl ?_; clear S a; intro v60 F60 a w hv hF60 S; obtain ⟨c60, rfl, -, r60⟩ := hv; obtain ⟨xa60, xb60, xc60, xd60, xe60, he60, -, -⟩ := exc_slc (ror_exc r60); subst he60; replace m := fun b o h => hF60 b o (m b o h); replace m2 := fun b o h => hF60 b o (m2 b o h))
  refine wpList_nil ?_
  refine wpm_eff rfl rfl (kwg S fun b o h => by exact m2 _ _ h) ?_
  refine wpl_take S rfl rfl rfl ?_
  (refine wpl_callF S rfl rfl rfl rfl rfl rfl (ltruthCt F60 _) rfl ?_; clear S a; intro v61 F61 a w hv hF61 S; obtain ⟨c61, rfl, -, r61⟩ := hv; obtain ⟨xa61, xb61, he61, -, -⟩ := vac_slc (ror_vac r61); subst he61; replace m := fun b o h => hF61 b o (m b o h); replace m2 := fun b o h => hF61 b o (m2 b o h))
  refine wpList_nil ?_
  refine wpm_eff rfl rfl (kwg S fun b o h => by exact m2 _ _ h) ?_
  refine wpl_take S rfl rfl rfl ?_
  (refine wpl_call0 S rfl rfl rfl rfl rfl rfl (comesCt F61 (hT.mono m) (hE.mono m) (callX2 [97, 110, 100] (litX (boolV false)) (callX2 [61, 61] xDiv (litX (intV 1)))) _ (Mon.h (fun b o h => hF61 _ _ h) r60) (GE_call2 (by decide) (GE_truth _) (GE_call2 (by decide) gDiv (GE_num (by decide)))) (boolV false) _ r61 0) rfl ?_; clear S a; intro v a w hv S; subst hv)
  (rw [w6] at S)
  refine wpList_nil ?_
  (refine wpm_p S rfl rfl rfl (want_none _ rfl) rfl rfl ?_; clear S a; intro a S)
  refine wpm_eff rfl rfl (kwg S fun b o h => by exact m2 _ _ h) ?_
  (revert S a; refine go00 2 ?_; intro a S)
  (refine wpm_nil (kwg S fun b o h => by exact m2 _ _ h) (hZ _ _ ?_); clear hZ Z)
  refine wp_ret (fin_ret S (results1 Tryz.results5 (RV.tmp S rfl)) ?_)
  rfl
end Go.Proofs.YtigblodhdfnleaaGreatDoor
namespace Go.Proofs.YtigblodhdfnleaaGreatDoor
open Go Go.Wk Go.Un Go.De Go.Num
set_option linter.unusedSimpArgs false
set_option linter.unusedVariables false

abbrev exl (x : Ex) (c1 : Option Addr) (n1 d1 : Nat) (c2 : Option Addr) (d2 : Nat) : List Value := [.int .u8 (x.1.k : Int), .int .i64 x.1.l, .int .i64 x.1.c, .string (bs x.1.nm), .int .u8 (x.1.v.k : Int), .int .i64 x.1.v.n, .string (bs x.1.v.s), .slice c1 n1 d1, .slice c2 x.2.len d2]
theorem GE_if {x y z : Ex} (g : GE x.1 x.2) (g2 : GE y.1 y.2) (g3 : GE z.1 z.2) : GE (ifX x y z).1 (ifX x y z).2 := ⟨GV_z, ⟨show 3 ≤ 3000 by decide, Nat.zero_le _⟩, g, g2, g3, trivial⟩
/-- Both are in bounds, and come to the same, where nothing fails. -/
def Pr (r : Ex × Ex) : Prop := GE r.1.1 r.1.2 ∧ GE r.2.1 r.2.2 ∧ ((evalO [] [] r.1.1 r.1.2).1 = 0 → (evalO [] [] r.2.1 r.2.2).1 = 0 → (evalO [] [] r.1.1 r.1.2).2 = (evalO [] [] r.2.1 r.2.2).2)
/-! ints and bigs -/
def x1 (k : Nat) (a b : Int) : Ex := callX1 sBig (callX2 (opn k) (litX (intV a)) (litX (intV b)))
def x2 (k : Nat) (a b : Int) : Ex := callX2 (opn k) (callX1 sBig (litX (intV a))) (callX1 sBig (litX (intV b)))
def x3 (k : Nat) (a b : Int) : Ex := callX1 sInt (x2 k a b)
end Go.Proofs.YtigblodhdfnleaaGreatDoor
namespace Go.Wk
open Go Go.ChangeShapes Go.WideShapes
set_option linter.unusedSimpArgs false
set_option linter.unusedVariables false

def heapOf (w : World) : Heap := fun b => w.heap[b]?
theorem at_heapOf (w : World) : At w (heapOf w) [] := ⟨fun _ _ h => h, fun p h => by simp at h, by simp [keys]⟩
theorem below_of {W W' : World} {F' : Heap} {G' : List Grp} (h : Tr W (heapOf W) [] W' F' G') : Go.RowKit.Below W.heap.size W W' :=
  ⟨h.os, h.tape, h.output, h.size, fun k hk => h.old k hk (by simp)⟩
theorem cel_of {W : World} {a : Addr} {v : Value} (h : W.cell? a = some v) : a.spot = none ∧ Cel (heapOf W) a.block a.off v := by
  refine ⟨World.cell?_spot h, ?_⟩
  unfold World.cell? at h
  split at h
  · rename_i c e f hc
    split at h
    · cases h
    · exact ⟨c, e, f, hc, h⟩
  · cases h

theorem add_none (b off n : Nat) : (⟨b, off, none⟩ : Addr).add n = ⟨b, off + n, none⟩ := by
  unfold Addr.add; split
  · rename_i h; subst h; rfl
  · rfl

theorem Cels.append {F : Heap} {b off : Nat} {xs ys : List Value} (h1 : Cels F b off xs) (h2 : Cels F b (off + xs.length) ys) : Cels F b off (xs ++ ys) := by
  intro j v hv
  by_cases hj : j < xs.length
  · rw [List.getElem?_append_left hj] at hv; exact h1 j v hv
  · rw [List.getElem?_append_right (by omega)] at hv
    have := h2 _ v hv
    rw [show off + xs.length + (j - xs.length) = off + j by omega] at this
    exact this
theorem cels_flat {α : Type} {cell : α → List Value} {sz : Nat} (hlen : ∀ x, (cell x).length = sz) {F : Heap} {b : Nat} : ∀ (l : List α) (off : Nat), (∀ i x, l[i]? = some x → Cels F b (off + i * sz) (cell x)) → Cels F b off (l.flatMap cell)
  | [], _, _ => fun _ _ h => by simp at h
  | x :: r, off, h => by
    rw [List.flatMap_cons]
    refine Cels.append (by have := h 0 x rfl; simpa using this) ?_
    rw [hlen]
    refine cels_flat hlen r _ fun i y hy => ?_
    have := h (i + 1) y hy
    rw [show off + sz + i * sz = off + (i + 1) * sz by rw [Nat.add_mul]; omega]
    exact this


end Go.Wk
namespace Go.Proofs.YtigblodhdfnleaaGreatDoor
open Go Go.Wk Go.ChangeShapes Go.WideShapes Go.ChangeAt Go.RowKit
set_option linter.unusedSimpArgs false
set_option linter.unusedVariables false

theorem ownK : ownKnob Tryz.prog.godebug = none := by kernel_rfl
theorem laidOut : laidOutB Tryz.prog = true := by kernel_rfl
theorem gPow : Tryz.prog.globalNamed "internal/strconv.uint64pow10" = some 1 := by kernel_rfl
theorem tPow : (Tryz.prog.globals[1]?).map (·.type) = some 207 := by kernel_rfl
theorem cPow : Tryz.prog.cellsOf 207 = 20 := by kernel_rfl
theorem cU64 : Tryz.prog.cellsOf 99 = 1 := by kernel_rfl
theorem powData : (Rows.laid_internal_strconv_uint64pow10 : DataW Unit) = Lib.tabData .u64 Lib.pow10Tab := rfl
theorem gErr : Tryz.prog.globalNamed "strconv.ErrRange" = some 5 := by kernel_rfl
theorem tErr : (Tryz.prog.globals[5]?).map (·.type) = some 139 := by kernel_rfl
theorem tabF_of {W : World} (h : Lib.TabIs Tryz.prog W "internal/strconv.uint64pow10" .u64 Lib.pow10Tab) : TabF (heapOf W) := by
  intro w hw
  unfold Lib.TabIs World.var? at *
  cases hg : Tryz.prog.globalNamed "internal/strconv.uint64pow10" with
  | none => rw [hg] at h; cases h
  | some g =>
    rw [hg] at h
    simp only [Option.bind_some] at h ⊢
    cases hb : W.heap[g]? with
    | none => rw [hb] at h; cases h
    | some o => rw [hw g o hb]; rw [hb] at h; exact h
theorem iface_cells {H : Type} {enc : TypeId × Value → H} {w : World} {base : Nat} {sp : Nat → Bool} {held : Bool} {fuel : Nat} {t : TypeId} {ms : Array (String × TypeId)} {cs : List Value} {x : DataW H × List MemPlace}
    (ht : Tryz.prog.underlying t = some (.interface ms)) (h : DataW.trod enc Tryz.prog w base sp held fuel t cs = some x) : cs = [.nilIface] ∨ ∃ u v, cs = [.iface u v] := by
  cases fuel with
  | zero => simp [DataW.trod] at h
  | succ fuel =>
    unfold DataW.trod at h
    rw [ht] at h
    split at h <;> first | (rename_i h1; simp only [Option.some.injEq, reduceCtorEq] at h1; done) | (left; rfl) | (right; exact ⟨_, _, rfl⟩) | (simp at *; done)
def laidE : List (String × DataW Unit) := [("math/bits.deBruijn32tab", Rows.laid_math_bits_deBruijn32tab), ("math/bits.deBruijn64tab", Rows.laid_math_bits_deBruijn64tab), ("internal/strconv.uint64pow10", Rows.laid_internal_strconv_uint64pow10), ("unicode/utf8.acceptRanges", Rows.laid_unicode_utf8_acceptRanges), ("strconv.ErrRange", Rows.laid_strconv_ErrRange), ("strconv.ErrSyntax", Rows.laid_strconv_ErrSyntax), ("unicode/utf8.first", Rows.laid_unicode_utf8_first)]
theorem tab_of_laidE {W : World} (h : laidMetH Tryz.prog laidE W) : TabF (heapOf W) ∧ ErrF (heapOf W) := by
  rw [MakeChecks.laidMetH_plain _ _ _ (by kernel_rfl)] at h
  obtain ⟨ps, ⟨g0, t0, cs0, f0, p0, q0, _, _, _, _, ⟨g1, t1, cs1, f1, p1, q1, _, _, _, _, ⟨g2, t2, cs2, f2, p2, q2, hg2, ht2, hv2, hd2, ⟨g4, t4, cs4, f4, p4, q4, _, _, _, _, ⟨g3, t3, cs3, f3, p3, q3, hg3, ht3, hv3, hd3, _, _⟩, _⟩, _⟩, _⟩, _⟩, _, _⟩ := h
  obtain rfl := Option.some.inj (gPow.symm.trans hg2)
  obtain rfl := Option.some.inj (tPow.symm.trans ht2)
  obtain rfl := Option.some.inj (gErr.symm.trans hg3)
  obtain rfl := Option.some.inj (tErr.symm.trans ht3)
  refine ⟨tabF_of ?_, ?_⟩
  · unfold Lib.TabIs
    rw [hv2, ← Lib.cells_of_tab Tryz.underlying207 Tryz.underlying99 cU64 cPow (by rw [← powData]; exact hd2)]
  · have hc := iface_cells Tryz.underlying139 hd3
    unfold World.var? at hv3
    rw [gErr] at hv3
    simp only [Option.bind_some] at hv3
    cases hb : W.heap[5]? with
    | none => rw [hb] at hv3; cases hv3
    | some o =>
      rw [hb] at hv3
      cases o with
      | cells c e fz =>
        simp only [Option.some.injEq] at hv3
        subst hv3
        rcases hc with hc | ⟨u, v, hc⟩
        · exact ⟨.nilIface, ⟨c, e, fz, hb, by obtain ⟨l⟩ := c; simp only at hc; subst hc; rfl⟩, Or.inl rfl⟩
        · exact ⟨.iface u v, ⟨c, e, fz, hb, by obtain ⟨l⟩ := c; simp only at hc; subst hc; rfl⟩, Or.inr ⟨u, v, rfl⟩⟩
      | _ => cases hv3
/-- A world that meets the condition: all seven laid. -/
noncomputable def startW (os : Os) : World := World.laidAll Tryz.prog os laidE
theorem startW_os (os : Os) : (startW os).os = os := World.laidAll_os _ _ _
theorem doorE (os : Os) (args : Array Value) : laidMetH Tryz.prog laidE ((startW os).forCall (fun _ _ => 0) ⟨#[], args, []⟩).memory :=
  laidMetH_of_parts3 (fuel := 8) (laidMet_laidAll (laid := laidE) args (by kernel_rfl) (by kernel_rfl)) (by kernel_rfl) (by kernel_rfl)
end Go.Proofs.YtigblodhdfnleaaGreatDoor
namespace Go.Proofs.YtigblodhdfnleaaGreatDoor
open Go Go.Wk Go.Un Go.De Go.Num
set_option linter.unusedSimpArgs false
set_option linter.unusedVariables false

theorem deepL_mono : ∀ (L : Ef) (d : Int), deepL L (d + 1) = false → deepL L d = false
  | .nil, _, _ => rfl
  | .cons h L r, d, hd => by
    unfold deepL at hd ⊢
    simp only [Bool.or_eq_false_iff, decide_eq_false_iff_not] at hd ⊢
    exact ⟨⟨by omega, deepL_mono L (d + 1) hd.1.2⟩, deepL_mono r d hd.2⟩
theorem deepE_mono {L : Ef} {d : Int} (hd : deepE L (d + 1) = false) : deepE L d = false := by
  unfold deepE at hd ⊢
  simp only [Bool.or_eq_false_iff, decide_eq_false_iff_not] at hd ⊢
  exact ⟨by omega, deepL_mono L (d + 1) hd.2⟩
/-- The names of variables. -/
def namesL : Ef → List (List UInt8)
  | .nil => []
  | .cons h L r => (if h.k = 2 then [h.nm] else namesL L) ++ namesL r
def namesE (h : EH) (L : Ef) : List (List UInt8) := if h.k = 2 then [h.nm] else namesL L
theorem evK_var {cs : List KC} {vs : List Bd} {h : EH} {l m : List Ans} (hk : h.k = 2) : evK cs vs h l = evK cs vs h m := by
  unfold evK
  rw [if_neg (by omega), if_pos hk, if_neg (by omega), if_pos hk]
theorem evK_more {cs : List KC} {vs : List Bd} {x : Bd} {h : EH} {l : List Ans} (hk : h.k = 2 → x.1 ≠ h.nm) : evK cs (x :: vs) h l = evK cs vs h l := by
  by_cases h1 : h.k = 1
  · unfold evK; rw [if_pos h1, if_pos h1]
  by_cases h2 : h.k = 2
  · unfold evK
    rw [if_neg h1, if_pos h2, if_neg h1, if_pos h2]
    have : findB (x :: vs) h.nm = findB vs h.nm := by
      unfold findB
      rw [List.find?_cons, decide_eq_false (hk h2)]
    rw [this]
  · unfold evK
    rw [if_neg h1, if_neg h2, if_neg h1, if_neg h2]
theorem evL_more {cs : List KC} {vs : List Bd} {x : Bd} : ∀ {L : Ef}, x.1 ∉ namesL L → evL cs (x :: vs) L = evL cs vs L
  | .nil, _ => rfl
  | .cons h L r, hn => by
    unfold namesL at hn
    rw [List.mem_append, not_or] at hn
    show evK cs (x :: vs) h (evL cs (x :: vs) L) :: evL cs (x :: vs) r = evK cs vs h (evL cs vs L) :: evL cs vs r
    rw [evL_more hn.2]
    congr 1
    by_cases hk : h.k = 2
    · have h1 := hn.1
      rw [if_pos hk, List.mem_singleton] at h1
      rw [evK_more fun _ => h1, evK_var hk]
    · have h1 := hn.1
      rw [if_neg hk] at h1
      rw [evL_more h1, evK_more fun h9 => absurd h9 hk]
theorem evE_more {cs : List KC} {vs : List Bd} {x : Bd} {h : EH} {L : Ef} (hn : x.1 ∉ namesE h L) : evE cs (x :: vs) h L = evE cs vs h L := by
  have := evL_more (cs := cs) (vs := vs) (x := x) (L := .cons h L .nil) (by unfold namesL; rw [show namesL .nil = [] from rfl, List.append_nil]; exact hn)
  exact (List.cons.inj this).1
theorem eval_more {cs : List KC} {vs : List Bd} {x : Bd} {h : EH} {L : Ef} (hm : mayV x.2 = true) (hn : x.1 ∉ namesE h L) : evalO cs (x :: vs) h L = evalO cs vs h L := by
  unfold evalO
  rw [List.all_cons, hm, Bool.true_and, evE_more hn]
def litE2 (b : Bool) : EH := ⟨1, 0, 0, [], (boolV b).1, .nil⟩
def ifE : EH := ⟨8, 0, 0, [], ⟨0, 0, []⟩, .nil⟩
theorem form_lit (b : Bool) : formE (litE2 b) .nil = true := by cases b <;> decide +kernel
theorem formEL_cons (h : EH) (L r : Ef) : formEL (.cons h L r) = (formE h L && formEL r) := rfl
theorem deepL_cons (h : EH) (L r : Ef) (d : Int) : deepL (.cons h L r) d = (deepE L d || deepL r d) := rfl
theorem if_form {h h2 h3 : EH} {L L2 L3 : Ef} : formE ifE (.cons h L (.cons h2 L2 (.cons h3 L3 .nil))) = (formE h L && (formE h2 L2 && formE h3 L3)) := by
  show (true && formEL (.cons h L (.cons h2 L2 (.cons h3 L3 .nil)))) = _
  rw [formEL_cons, formEL_cons, formEL_cons, show formEL .nil = true from rfl, Bool.and_true, Bool.true_and]
theorem if_deep {h h2 h3 : EH} {L L2 L3 : Ef} : deepE (.cons h L (.cons h2 L2 (.cons h3 L3 .nil))) 1 = (deepE L 2 || (deepE L2 2 || deepE L3 2)) := by
  show (false || deepL (.cons h L (.cons h2 L2 (.cons h3 L3 .nil))) 2) = _
  rw [deepL_cons, deepL_cons, deepL_cons, show deepL .nil 2 = false from rfl, Bool.or_false, Bool.false_or]
theorem if_ev (cs : List KC) (vs : List Bd) (b : Bool) (h2 h3 : EH) (L2 L3 : Ef) : evE cs vs ifE (.cons (litE2 b) .nil (.cons h2 L2 (.cons h3 L3 .nil))) = if b = true then evE cs vs h2 L2 else evE cs vs h3 L3 := by
  have e : evL cs vs (.cons (litE2 b) .nil (.cons h2 L2 (.cons h3 L3 .nil))) = [yesA (boolV b), evE cs vs h2 L2, evE cs vs h3 L3] := rfl
  unfold evE evK
  rw [show evL cs vs (.cons (litE2 b) .nil (.cons h2 L2 (.cons h3 L3 .nil))) = [yesA (boolV b), evE cs vs h2 L2, evE cs vs h3 L3] from rfl]
  cases b <;> rfl
theorem if_evT (cs : List KC) (vs : List Bd) (h2 h3 : EH) (L2 L3 : Ef) : evE cs vs ifE (.cons (litE2 true) .nil (.cons h2 L2 (.cons h3 L3 .nil))) = evE cs vs h2 L2 := by rw [if_ev, if_pos rfl]
theorem if_evF (cs : List KC) (vs : List Bd) (h2 h3 : EH) (L2 L3 : Ef) : evE cs vs ifE (.cons (litE2 false) .nil (.cons h2 L2 (.cons h3 L3 .nil))) = evE cs vs h3 L3 := by rw [if_ev, if_neg Bool.false_ne_true]
/-- The law's last part. -/
theorem unseen {cs : List KC} {vs : List Bd} {h h2 : EH} {L L2 : Ef} :
    evalO cs vs ifE (.cons (litE2 true) .nil (.cons h L (.cons h2 L2 .nil))) = evalO cs vs ifE (.cons (litE2 false) .nil (.cons h2 L2 (.cons h L .nil))) ∧
    ((evalO cs vs ifE (.cons (litE2 true) .nil (.cons h L (.cons h2 L2 .nil)))).1 ≠ 4 → (evalO cs vs ifE (.cons (litE2 true) .nil (.cons h L (.cons h2 L2 .nil)))).1 ≠ 65 →
      evalO cs vs ifE (.cons (litE2 true) .nil (.cons h L (.cons h2 L2 .nil))) = evalO cs vs h L) := by
  have e0 : deepE (.nil : Ef) 2 = false := by decide
  unfold evalO
  rw [if_deep, if_deep, if_form, if_form, form_lit, form_lit, if_evT, if_evF, e0, Bool.false_or, Bool.false_or, Bool.true_and, Bool.true_and, Bool.or_comm (deepE L2 2), Bool.and_comm (formE h2 L2)]
  refine ⟨rfl, fun h4 h65 => ?_⟩
  by_cases hd : (deepE L 2 || deepE L2 2) = true
  · rw [if_pos hd] at h65; exact absurd rfl h65
  rw [if_neg hd] at h4 h65 ⊢
  by_cases hf : (formE h L && formE h2 L2) = false
  · rw [if_pos hf] at h4; exact absurd rfl h4
  rw [if_neg hf] at h4 h65 ⊢
  have hd1 : deepE L 1 = false := by
    rw [Bool.not_eq_true, Bool.or_eq_false_iff] at hd
    exact deepE_mono hd.1
  have hf1 : formE h L = true := by
    rw [Bool.not_eq_false, Bool.and_eq_true] at hf
    exact hf.1
  rw [if_neg (show ¬ deepE L 1 = true by rw [hd1]; decide), if_neg (show ¬ formE h L = false by rw [hf1]; decide)]
end Go.Proofs.YtigblodhdfnleaaGreatDoor
namespace Go.Proofs.YtigblodhdfnleaaGreatDoor
open Go Go.Wk Go.Un Go.De Go.Num
set_option linter.unusedSimpArgs false
set_option linter.unusedVariables false
attribute [local irreducible] Go.wpList Go.Code.wp Go.wpStill Go.Wk.wpPre Go.bodyPost Go.Calls Go.Wk.Ct Go.Wk.OwnS
attribute [local irreducible] Go.Wk.wpG Go.Wk.wpM

/-! ### plain -/
/-- What came in: ints are ints, texts no longer than a text may be. -/
def NV : Vf → Prop
  | .nil => True
  | .cons h L r => (in64 h.n ∧ h.s.length ≤ 140737488355328) ∧ NV L ∧ NV r
def NVv (x : Vv) : Prop := (in64 x.1.n ∧ x.1.s.length ≤ 140737488355328) ∧ NV x.2
theorem NV.get : ∀ {l : Vf} {k : Nat} {x : Vv}, NV l → l.get? k = some x → NVv x
  | .cons h L r, 0, x, ⟨h1, h2, _⟩, e => by cases e; exact ⟨h1, h2⟩
  | .cons h L r, k + 1, x, ⟨_, _, h3⟩, e => NV.get (l := r) h3 e
theorem dpR_get : ∀ {l : Vf} {k : Nat} {x : Vv}, l.get? k = some x → dpR x.2 + 1 ≤ dpR l
  | .cons h L r, 0, x, e => by cases e; simp only [dpR]; omega
  | .cons h L r, k + 1, x, e => by have := dpR_get (l := r) e; simp only [dpR]; omega
def szF : Nat → Vf → Nat
  | n, .nil => n
  | n, .cons h L r => if n < 3000 then szF (n + szF (1 + h.s.length / 64) L) r else n
def szV (x : Vv) : Nat := szF (1 + x.1.s.length / 64) x.2
theorem szF_big {n : Nat} {l : Vf} (h : 3000 ≤ n) : szF n l = n := by
  cases l with
  | nil => rfl
  | cons h L r => unfold szF; rw [if_neg (by omega)]
theorem szF_drop {n k : Nat} {l : Vf} {x : Vv} (h : l.get? k = some x) (hn : n < 3000) : szF n (l.drop k) = szF (n + szV x) (l.drop (k + 1)) := by
  rw [Rose.drop_get h]
  show (if n < 3000 then _ else _) = _
  rw [if_pos hn]; rfl
theorem szF_end {n k : Nat} {l : Vf} (h : l.len ≤ k ∨ 3000 ≤ n) : szF n (l.drop k) = n := by
  rcases h with h | h
  · rw [Rose.drop_len h]; rfl
  · exact szF_big h
theorem szF_bd : ∀ (l : Vf) (n : Nat), NV l → (szF n l : Int) ≤ max (n : Int) (4398046514104 + 3000 * dpR l)
  | .nil, n, _ => by show (n : Int) ≤ _; omega
  | .cons h L r, n, ⟨⟨_, h1⟩, h2, h3⟩ => by
    unfold szF
    have hL := dpR_nn L
    have hr := dpR_nn r
    by_cases hn : n < 3000
    · rw [if_pos hn]
      have a := szF_bd r (n + szF (1 + h.s.length / 64) L) h3
      have b := szF_bd L (1 + h.s.length / 64) h2
      simp only [dpR]
      omega
    · rw [if_neg hn]; omega
theorem szV_bd {x : Vv} (h : NVv x) (hd : dpR x.2 ≤ 2000000) : szV x ≤ 4611686018427387904 := by
  have := szF_bd x.2 (1 + x.1.s.length / 64) h.2
  have := h.1.2
  unfold szV
  omega
theorem szF_ge : ∀ (l : Vf) (n : Nat), n ≤ szF n l
  | .nil, n => Nat.le_refl _
  | .cons h L r, n => by
    unfold szF
    split
    · have := szF_ge r (n + szF (1 + h.s.length / 64) L); omega
    · exact Nat.le_refl _
def szT : Vf → Nat
  | .nil => 0
  | .cons h L r => (1 + h.s.length / 64 + szT L) + szT r
theorem szF_tot : ∀ (l : Vf) (n : Nat), szF n l < 3000 → n + szT l = szF n l
  | .nil, n, _ => rfl
  | .cons h L r, n, hs => by
    unfold szF at hs ⊢
    by_cases hn : n < 3000
    · rw [if_pos hn] at hs ⊢
      have a := szF_ge r (n + szF (1 + h.s.length / 64) L)
      have b := szF_tot L (1 + h.s.length / 64) (by omega)
      have c := szF_tot r _ hs
      simp only [szT]
      omega
    · rw [if_neg hn] at hs; omega
theorem szT_GVl : ∀ {l : Vf}, szT l < 1500 → NV l → GVl l ∧ l.size ≤ szT l
  | .nil, _, _ => ⟨trivial, Nat.zero_le _⟩
  | .cons h L r, hs, ⟨⟨h1, _⟩, h2, h3⟩ => by
    simp only [szT] at hs
    obtain ⟨a, b⟩ := szT_GVl (l := L) (by omega) h2
    obtain ⟨c, d⟩ := szT_GVl (l := r) (by omega) h3
    exact ⟨⟨⟨h1, by omega⟩, a, c⟩, by simp only [szT, Rose.size]; omega⟩
theorem szV_GV {x : Vv} (hs : szV x < 1500) (h : NVv x) : GV x := by
  unfold szV at hs
  have a := szF_tot _ _ (show szF (1 + x.1.s.length / 64) x.2 < 3000 by omega)
  obtain ⟨b, c⟩ := szT_GVl (l := x.2) (by omega) h.2
  exact ⟨⟨h.1.1, by omega⟩, b, by omega⟩
/-! expressions -/
def dpE : Ef → Int
  | .nil => 0
  | .cons _ L r => max (dpE L + 1) (dpE r)
theorem dpE_nn : ∀ l : Ef, 0 ≤ dpE l
  | .nil => Int.le_refl _
  | .cons _ L r => by have := dpE_nn L; have := dpE_nn r; simp only [dpE]; omega
def NH (h : EH) : Prop := NVv (h.v, h.vl) ∧ dpR h.vl ≤ 2000000 ∧ h.nm.length ≤ 140737488355328
def NE : Ef → Prop
  | .nil => True
  | .cons h L r => NH h ∧ NE L ∧ NE r
def NEe (x : Ex) : Prop := NH x.1 ∧ NE x.2
theorem NE.get : ∀ {l : Ef} {k : Nat} {x : Ex}, NE l → l.get? k = some x → NEe x
  | .cons h L r, 0, x, ⟨h1, h2, _⟩, e => by cases e; exact ⟨h1, h2⟩
  | .cons h L r, k + 1, x, ⟨_, _, h3⟩, e => NE.get (l := r) h3 e
theorem dpE_get : ∀ {l : Ef} {k : Nat} {x : Ex}, l.get? k = some x → dpE x.2 + 1 ≤ dpE l
  | .cons h L r, 0, x, e => by cases e; simp only [dpE]; omega
  | .cons h L r, k + 1, x, e => by have := dpE_get (l := r) e; simp only [dpE]; omega
def ptF : Nat → Ef → Nat
  | n, .nil => n
  | n, .cons h L r => if n < 3000 then ptF (n + ptF (1 + szV (h.v, h.vl)) L) r else n
def ptE (x : Ex) : Nat := ptF (1 + szV (x.1.v, x.1.vl)) x.2
theorem ptF_big {n : Nat} {l : Ef} (h : 3000 ≤ n) : ptF n l = n := by
  cases l with
  | nil => rfl
  | cons h L r => unfold ptF; rw [if_neg (by omega)]
theorem ptF_drop {n k : Nat} {l : Ef} {x : Ex} (h : l.get? k = some x) (hn : n < 3000) : ptF n (l.drop k) = ptF (n + ptE x) (l.drop (k + 1)) := by
  rw [Rose.drop_get h]
  show (if n < 3000 then _ else _) = _
  rw [if_pos hn]; rfl
theorem ptF_end {n k : Nat} {l : Ef} (h : l.len ≤ k ∨ 3000 ≤ n) : ptF n (l.drop k) = n := by
  rcases h with h | h
  · rw [Rose.drop_len h]; rfl
  · exact ptF_big h
theorem ptF_bd : ∀ (l : Ef) (n : Nat), NE l → (ptF n l : Int) ≤ max (n : Int) (4611686018427390905 + 3000 * dpE l)
  | .nil, n, _ => by show (n : Int) ≤ _; omega
  | .cons h L r, n, ⟨h1, h2, h3⟩ => by
    unfold ptF
    have hL := dpE_nn L
    have hr := dpE_nn r
    by_cases hn : n < 3000
    · rw [if_pos hn]
      have a := ptF_bd r (n + ptF (1 + szV (h.v, h.vl)) L) h3
      have b := ptF_bd L (1 + szV (h.v, h.vl)) h2
      have c := szV_bd h1.1 h1.2.1
      simp only [dpE]
      omega
    · rw [if_neg hn]; omega
theorem ptE_bd {x : Ex} (h : NEe x) (hd : dpE x.2 ≤ 2000000) : ptE x ≤ 6917529027641081856 := by
  have := ptF_bd x.2 (1 + szV (x.1.v, x.1.vl)) h.2
  have := szV_bd h.1.1 h.1.2.1
  unfold ptE
  omega
theorem ptF_ge : ∀ (l : Ef) (n : Nat), n ≤ ptF n l
  | .nil, n => Nat.le_refl _
  | .cons h L r, n => by
    unfold ptF
    split
    · have := ptF_ge r (n + ptF (1 + szV (h.v, h.vl)) L); omega
    · exact Nat.le_refl _
theorem ptF_GE : ∀ {l : Ef} {n : Nat}, ptF n l < 1500 → NE l → GEl l ∧ l.len + n ≤ ptF n l
  | .nil, n, _, _ => ⟨trivial, by show 0 + n ≤ n; omega⟩
  | .cons h L r, n, hs, ⟨h1, h2, h3⟩ => by
    unfold ptF at hs ⊢
    by_cases hn : n < 3000
    · rw [if_pos hn] at hs ⊢
      have a := ptF_ge r (n + ptF (1 + szV (h.v, h.vl)) L)
      have d := ptF_ge L (1 + szV (h.v, h.vl))
      obtain ⟨b, b2⟩ := ptF_GE (l := L) (n := 1 + szV (h.v, h.vl)) (by omega) h2
      obtain ⟨c, c2⟩ := ptF_GE (l := r) hs h3
      exact ⟨⟨⟨szV_GV (by omega) h1.1, ⟨by omega, h1.2.2⟩, b⟩, c⟩, by simp only [Rose.len]; omega⟩
    · rw [if_neg hn] at hs; omega
theorem ptE_GE {x : Ex} (hs : ptE x < 1500) (h : NEe x) : GE x.1 x.2 := by
  unfold ptE at hs
  have d := ptF_ge x.2 (1 + szV (x.1.v, x.1.vl))
  obtain ⟨a, b⟩ := ptF_GE hs h.2
  exact ⟨szV_GV (by omega) h.1.1, ⟨by omega, h.1.2.2⟩, a⟩
def NB (vs : List Bd) : Prop := ∀ x ∈ vs, NVv x.2 ∧ dpR x.2.2 ≤ 2000000
def lgF : Nat → List Bd → Nat
  | n, [] => n
  | n, x :: r => if n < 3000 then lgF (n + szV x.2) r else n
def lgO (x : Ex) (vs : List Bd) : Nat := lgF (ptE x) vs
theorem lgF_drop {n k : Nat} {l : List Bd} {x : Bd} (h : l[k]? = some x) (hn : n < 3000) : lgF n (l.drop k) = lgF (n + szV x.2) (l.drop (k + 1)) := by
  rw [drop_at h]
  show (if n < 3000 then _ else _) = _
  rw [if_pos hn]
theorem lgF_end {n k : Nat} {l : List Bd} (h : l.length ≤ k ∨ 3000 ≤ n) : lgF n (l.drop k) = n := by
  rcases h with h | h
  · rw [List.drop_eq_nil_of_le h]; rfl
  · cases l.drop k with
    | nil => rfl
    | cons x r => show (if n < 3000 then _ else _) = _; rw [if_neg (by omega)]
theorem lgF_ge : ∀ (l : List Bd) (n : Nat), n ≤ lgF n l
  | [], n => Nat.le_refl _
  | x :: r, n => by
    unfold lgF
    split
    · have := lgF_ge r (n + szV x.2); omega
    · exact Nat.le_refl _
theorem lgF_GVB : ∀ {l : List Bd} {n : Nat}, lgF n l < 1500 → NB l → GVB l
  | [], n, _, _ => fun x hx => by cases hx
  | y :: r, n, hs, hb => by
    unfold lgF at hs
    by_cases hn : n < 3000
    · rw [if_pos hn] at hs
      have a := lgF_ge r (n + szV y.2)
      have ih := lgF_GVB hs fun x hx => hb x (List.mem_cons_of_mem _ hx)
      intro x hx
      rcases List.mem_cons.1 hx with rfl | hx
      · exact szV_GV (by omega) (hb _ (List.mem_cons_self ..)).1
      · exact ih x hx
    · rw [if_neg hn] at hs; omega
theorem lgO_ok {x : Ex} {vs : List Bd} (hs : lgO x vs < 1500) (hx : NEe x) (hv : NB vs) : GE x.1 x.2 ∧ GVB vs := by
  unfold lgO at hs
  have := lgF_ge vs (ptE x)
  exact ⟨ptE_GE (by omega) hx, lgF_GVB hs hv⟩
/-! ### the walks -/
set_option maxHeartbeats 8000000 in
theorem lsizeCt : ∀ (n : Nat) (F : Heap) (x : Vv) (cs : List Value), x.2.size < n → NVv x → dpR x.2 ≤ 2000000 → VaC F cs x.1 x.2 → Ct Tryz.prog 29 [.agg ⟨cs⟩] F [] (fun _ _ u => u = .int .i64 (szV x : Int)) := by
  intro n
  induction n with
  | zero => intro F x cs hn; omega
  | succ n ih =>
  intro F x cs hn hN hd hV
  obtain ⟨⟨xk, xn, xs⟩, xl⟩ := x
  obtain ⟨v1, rfl, ⟨ao, cap, rfl, hcap, hpos⟩, hs1⟩ := hV
  dsimp only at *
  refine Ct.enter Tryz.func29 rfl Tryz.ntmps29 rfl fun w0 a S => ?_
  refine wp_sr fun Z hZ => ?_
  (refine wpl_box S rfl rfl rfl rfl rfl ?_; clear S a; intro b1 a w S)
  (revert S a; revert hZ Z; refine go11 7 ?_; intro Z hZ a S)
  (refine wpl_v S rfl rfl rfl (sv_quo S rfl rfl rfl (by first | omega | (simp only [List.length_append, List.length_cons, List.length_nil]; omega))) ?_; clear S a; intro a S)
  (revert S a; refine go00 1 ?_; intro a S)
  (rw [show ((1 : Int) + (xs.length : Int) / 64) = ((1 + xs.length / 64 : Nat) : Int) by omega] at S)
  (revert S a; revert hZ Z; refine go11 9 ?_; intro Z hZ a S)
  refine wpc_loop (fun m a w' => ∃ (k p : Nat), m = xl.len - k ∧ k ≤ xl.len ∧ szF p (xl.drop k) = szF (1 + xs.length / 64) xl ∧ St 30 [(1, ptr b1), (3, .int .i64 (p : Int)), (4, .int .i64 (k : Int))] w0 F [] F [[(b1, .cells ⟨[.int .u8 (xk : Int), .int .i64 xn, .string (bs xs), .slice ao xl.len cap]⟩ 26 (0, 0))]] a w') ?_ ?_
  · (refine ⟨xl.len, 0, 1 + xs.length / 64, by omega, Nat.zero_le _, rfl, ?_⟩; refine S.keep ?_; repeat (first | exact trivial | refine ⟨rfl, ?_⟩))
  (clear S; rintro m a w ⟨k, p, rfl, hkl, hfp, S⟩)
  (revert S a; refine go02 8 ?_; intro Z hZ Z hZ a S)
  refine wpl_guard S rfl rfl rfl rfl rfl ?_ ?_
  · (clear S; intro h S; (try simp only [tq] at h))
    (revert S a; revert hZ Z; refine go10 6 ?_; intro a S)
    refine wpc_split S rfl (fun h => ?_) (fun h => ?_)
    · (skip; (try simp only [tq] at h))
      (revert S a; revert hZ Z; refine go11 4 ?_; intro Z hZ a S)
      (obtain ⟨b8, o8, hao, x, cs1, v1, hx, hc1, hw9, hT1⟩ := TrM.pos hpos (k := k) (by omega); rw [hao] at S; have hxs := Rose.size_get hx; have hNx := hN.2.get hx; have hdx := dpR_get hx; have hbx := szV_bd hNx (by omega); have hT1c := hT1; obtain ⟨a91, c91, rfl, -⟩ := hT1c; have hw9c := hw9.1; subst hw9c; (simp only [List.cons_append, List.nil_append] at hc1))
      (revert S a; refine go00 7 ?_; intro a S)
      (refine wpl_call0 S rfl rfl rfl rfl rfl rfl (ih F x _ (by omega) hNx (by omega) ⟨_, rfl, hT1, hw9.2⟩) rfl ?_; clear S a; intro v a w hv S; subst hv)
      (revert S a; revert hZ Z; refine go10 9 ?_; intro a S)
      change ∃ m', _ ∧ _
      (rw [← hao] at S; refine ⟨xl.len - (k + 1), by omega, k + 1, p + szV x, rfl, by omega, ?_, ?_⟩; rotate_left 1; (refine S.keep ?_; repeat (first | exact trivial | refine ⟨rfl, ?_⟩)); rw [← szF_drop hx (by omega)]; exact hfp)
    (skip; (try simp only [tq] at h))
    (refine wp_exit ?_; conv => whnf)
    clear hZ Z
    (revert S a; revert hZ Z; refine go10 6 ?_; intro a S)
    refine wp_ret (fin_ret S (results1 Tryz.results29 (RV.tmp S rfl)) ?_)
    (show _ = Value.int .i64 ((szF (1 + xs.length / 64) xl : Nat) : Int); rw [← hfp, szF_end (by omega)])
  (intro h; clear S a; intro a S; (try simp only [tq] at h))
  (revert S a; revert hZ Z; refine go10 4 ?_; intro a S)
  refine wpc_false S rfl ?_
  (refine wp_exit ?_; conv => whnf)
  clear hZ Z
  (revert S a; revert hZ Z; refine go10 6 ?_; intro a S)
  refine wp_ret (fin_ret S (results1 Tryz.results29 (RV.tmp S rfl)) ?_)
  (show _ = Value.int .i64 ((szF (1 + xs.length / 64) xl : Nat) : Int); rw [← hfp, szF_end (by omega)])
end Go.Proofs.YtigblodhdfnleaaGreatDoor
