/- The walk of works: the examples. EvalPaper's twelve pairs, in plain Lean. Regions that draw their order and whose operations only make things, each out of what it waits for: what is known of each of them is known behind the region, in whichever order they came. Nothing here knows the program. What is known of records and lists that a region makes (printed by mkFa.py). -/
import Derived.Test.YtigblodhdfnleaaGreatDoorEvO
import Derived.Test.YtigblodhdfnleaaGreatDoorUn
import Derived.Test.YtigblodhdfnleaaGreatDoorFz
namespace Go.Proofs.YtigblodhdfnleaaGreatDoor
open Go Go.Wk Go.Un Go.De Go.Num
set_option linter.unusedSimpArgs false
set_option linter.unusedVariables false
attribute [local irreducible] Go.wpList Go.Code.wp Go.wpStill Go.Wk.wpPre Go.bodyPost Go.Calls Go.Wk.Ct Go.Wk.OwnS
attribute [local irreducible] Go.Wk.wpG Go.Wk.wpM

theorem GE_lit {v : Vv} (g : GV v) : GE (litX v).1 (litX v).2 := ⟨g, ⟨Nat.zero_le _, Nat.zero_le _⟩, trivial⟩
theorem GE_call1 {s : List UInt8} {x : Ex} (hs : s.length ≤ 140737488355328) (g : GE x.1 x.2) : GE (callX1 s x).1 (callX1 s x).2 := ⟨GV_z, ⟨show 1 ≤ 3000 by decide, hs⟩, g, trivial⟩
theorem GE_call2 {s : List UInt8} {x y : Ex} (hs : s.length ≤ 140737488355328) (g : GE x.1 x.2) (g2 : GE y.1 y.2) : GE (callX2 s x y).1 (callX2 s x y).2 := ⟨GV_z, ⟨show 2 ≤ 3000 by decide, hs⟩, g, g2, trivial⟩
theorem GE_num {n : Int} (h : in64 n) : GE (litX (intV n)).1 (litX (intV n)).2 := GE_lit (GV_leaf h (by decide))
theorem GE_text {s : List UInt8} (h : s.length ≤ 200000) : GE (litX (textV s)).1 (litX (textV s)).2 := GE_lit (GV_leaf (by decide) h)
theorem GE_huge {s : List UInt8} (h : s.length ≤ 200000) : GE (litX (bigV s)).1 (litX (bigV s)).2 := GE_lit (GV_leaf (by decide) h)
theorem GE_truth (b : Bool) : GE (litX (boolV b)).1 (litX (boolV b)).2 := GE_lit (GV_bool b)
def xDiv : Ex := callX2 [47] (litX (intV 1)) (litX (intV 0))
theorem gDiv : GE xDiv.1 xDiv.2 := GE_call2 (by decide) (GE_num (by decide)) (GE_num (by decide))
theorem w1 : comesB (callX2 [47] (litX (intV 7)) (litX (intV (-2)))) (intV (-3)) 0 = true := by decide +kernel
theorem w2 : comesB (callX2 [37] (litX (intV 7)) (litX (intV (-2)))) (intV 1) 0 = true := by decide +kernel
theorem w3 : comesB xDiv zV 81 = true := by decide +kernel
theorem w4 : comesB (callX2 [42] (litX (bigV [51])) (litX (bigV [52]))) (bigV [49, 50]) 0 = true := by decide +kernel
theorem w5 : comesB (callX2 [43, 43] (litX (textV [97])) (litX (textV [98]))) (textV [97, 98]) 0 = true := by decide +kernel
theorem w6 : comesB (callX2 [97, 110, 100] (litX (boolV false)) (callX2 [61, 61] xDiv (litX (intV 1)))) (boolV false) 0 = true := by decide +kernel
set_option maxRecDepth 20000 in
set_option maxHeartbeats 64000000 in
theorem worksCt (F : Heap) (hT : TabF F) (hE : ErrF F) : Ct Tryz.prog 5 [] F [] (fun _ _ u => u = .bool true) := by
  have m : ∀ b o, F b = some o → F b = some o := fun _ _ h => h
  refine Ct.enter Tryz.func5 rfl Tryz.ntmps5 rfl fun w0 a S => ?_
  refine wp_sr fun Kq1 hKq1 => ?_
  (refine wpl_p S rfl rfl rfl ?_; clear S a; intro a S)
  (refine wpList_nil (hKq1 _ _ (wp_sr fun Kq2 hKq2 => ?_)); try clear hKq1 Kq1)
  (refine wpl_callF S rfl rfl rfl rfl rfl rfl (lnumCt F _) rfl ?_; clear S a; intro v2 F2 a w hv hF2 S; obtain ⟨c2, rfl, -, r2⟩ := hv; obtain ⟨xa2, xb2, he2, -, -⟩ := vac_slc (ror_vac r2); subst he2; replace m := fun b o h => hF2 b o (m b o h))
  (refine wpl_callF S rfl rfl rfl rfl rfl rfl (llitCt F2 _ _ r2) rfl ?_; clear S a; intro v3 F3 a w hv hF3 S; obtain ⟨c3, rfl, -, r3⟩ := hv; obtain ⟨xa3, xb3, xc3, xd3, xe3, he3, -, -⟩ := exc_slc (ror_exc r3); subst he3; replace m := fun b o h => hF3 b o (m b o h))
  (refine wpl_callF S rfl rfl rfl rfl rfl rfl (lnumCt F3 _) rfl ?_; clear S a; intro v4 F4 a w hv hF4 S; obtain ⟨c4, rfl, -, r4⟩ := hv; obtain ⟨xa4, xb4, he4, -, -⟩ := vac_slc (ror_vac r4); subst he4; replace m := fun b o h => hF4 b o (m b o h))
  (refine wpl_callF S rfl rfl rfl rfl rfl rfl (llitCt F4 _ _ r4) rfl ?_; clear S a; intro v5 F5 a w hv hF5 S; obtain ⟨c5, rfl, -, r5⟩ := hv; obtain ⟨xa5, xb5, xc5, xd5, xe5, he5, -, -⟩ := exc_slc (ror_exc r5); subst he5; replace m := fun b o h => hF5 b o (m b o h))
  (refine wpl_buildSlice S rfl rfl rfl rfl rfl rfl (by rfl) (by simp [Value.cells, splice]) rfl (by rfl) (by rfl) ?_; clear S a; intro b6 a w hown S; have S' := frz1 S; clear S; obtain ⟨F6, hF6, hb6, S⟩ := S'; have r6 := trs_lim (lim_of (l := ([(litX (intV 1)), (litX (intV 0))] : List Ex)) hb6 (LiC.app (l := ([(litX (intV 1))] : List Ex)) (LiC.one (sz := 9) rfl (Mon.h (fun b o h => hF6 _ _ (hF5 _ _ (hF4 _ _ h))) r3)) (LiC.one (sz := 9) rfl (Mon.h (fun b o h => hF6 _ _ h) r5))) (show 2 ≤ _ by decide)); replace m := fun b o h => hF6 b o (m b o h))
  (refine wpl_callF S rfl rfl rfl rfl rfl rfl (lcallCt F6 [47] (.cons (litX (intV 1)).1 (litX (intV 1)).2 (.cons (litX (intV 0)).1 (litX (intV 0)).2 .nil)) _ r6) rfl ?_; clear S a; intro v7 F7 a w hv hF7 S; obtain ⟨c7, rfl, -, r7⟩ := hv; obtain ⟨xa7, xb7, xc7, xd7, xe7, he7, -, -⟩ := exc_slc (ror_exc r7); subst he7; replace m := fun b o h => hF7 b o (m b o h))
  (refine wpl_alloc S rfl rfl rfl rfl ?_; clear S a; intro b1 a w S)
  (refine wpl_storeO S rfl rfl rfl rfl rfl (by rfl) (by simp [Value.cells, Value.oneCell', splice]) (by rfl) ?_; clear S; intro w S)
  (refine wpList_nil (hKq2 _ _ (wp_seq_k fun Kq3 hKq3 => ?_)); try clear hKq2 Kq2)
  (have m2 : ∀ b o, F7 b = some o → F7 b = some o := fun _ _ h => h)
  (refine wpc_mixM [8, 17, 18, 19, 20, 22, 23, 32, 33, 42, 43, 46, 55] [19, 46] [] (.one 0 (.one 1 (.one 2 (.one 3 (.one 4 (.one 5 (.one 6 (.one 7 (.one 8 (.one 9 (.one 10 (.one 11 (.one 12 (.one 13 (.one 14 (.one 15 (.one 16 (.one 17 (.one 18 (.one 19 (.one 20 (.one 21 (.one 22 (.one 23 (.one 24 (.one 25 (.one 26 (.one 27 (.one 28 (.one 29 (.one 30 (.one 31 (.one 32 (.one 33 (.one 34 (.one 35 (.one 36 (.one 37 (.one 38 (.one 39 (.one 40 (.one 41 (.one 42 (.one 43 (.one 46 (.one 44 (.one 45 (.one 47 (.one 48 (.one 49 (.one 50 (.one 51 (.one 52 (.one 53 (.one 54 (.one 55 (.one 56 .nil))))))))))))))))))))))))))))))))))))))))))))))))))))))))) [b1] S mixed (by kernel_rfl) ?_; clear S; intro w S)
  refine wpm_eff rfl rfl (kwg S fun b o h => by exact m2 _ _ h) ?_
  (refine wpl_callF S rfl rfl rfl rfl rfl rfl (lnumCt F7 _) rfl ?_; clear S a; intro v8 F8 a w hv hF8 S; obtain ⟨c8, rfl, -, r8⟩ := hv; obtain ⟨xa8, xb8, he8, -, -⟩ := vac_slc (ror_vac r8); subst he8; replace m := fun b o h => hF8 b o (m b o h); replace m2 := fun b o h => hF8 b o (m2 b o h))
  refine wpList_nil ?_
  refine wpm_eff rfl rfl (kwg S fun b o h => by exact m2 _ _ h) ?_
  (refine wpl_callF S rfl rfl rfl rfl rfl rfl (llitCt F8 _ _ r8) rfl ?_; clear S a; intro v9 F9 a w hv hF9 S; obtain ⟨c9, rfl, -, r9⟩ := hv; obtain ⟨xa9, xb9, xc9, xd9, xe9, he9, -, -⟩ := exc_slc (ror_exc r9); subst he9; replace m := fun b o h => hF9 b o (m b o h); replace m2 := fun b o h => hF9 b o (m2 b o h))
  refine wpList_nil ?_
  refine wpm_eff rfl rfl (kwg S fun b o h => by exact m2 _ _ h) ?_
  (refine wpl_callF S rfl rfl rfl rfl rfl rfl (lnumCt F9 _) rfl ?_; clear S a; intro v10 F10 a w hv hF10 S; obtain ⟨c10, rfl, -, r10⟩ := hv; obtain ⟨xa10, xb10, he10, -, -⟩ := vac_slc (ror_vac r10); subst he10; replace m := fun b o h => hF10 b o (m b o h); replace m2 := fun b o h => hF10 b o (m2 b o h))
  refine wpList_nil ?_
  refine wpm_eff rfl rfl (kwg S fun b o h => by exact m2 _ _ h) ?_
  (refine wpl_callF S rfl rfl rfl rfl rfl rfl (llitCt F10 _ _ r10) rfl ?_; clear S a; intro v11 F11 a w hv hF11 S; obtain ⟨c11, rfl, -, r11⟩ := hv; obtain ⟨xa11, xb11, xc11, xd11, xe11, he11, -, -⟩ := exc_slc (ror_exc r11); subst he11; replace m := fun b o h => hF11 b o (m b o h); replace m2 := fun b o h => hF11 b o (m2 b o h))
  refine wpList_nil ?_
  refine wpm_eff rfl rfl (kwg S fun b o h => by exact m2 _ _ h) ?_
  (refine wpl_buildSlice S rfl rfl rfl rfl rfl rfl (by rfl) (by simp [Value.cells, splice]) rfl (by rfl) (by rfl) ?_; clear S a; intro b12 a w hown S; have S' := frz1 S; clear S; obtain ⟨F12, hF12, hb12, S⟩ := S'; have r12 := trs_lim (lim_of (l := ([(litX (intV 7)), (litX (intV (-2)))] : List Ex)) hb12 (LiC.app (l := ([(litX (intV 7))] : List Ex)) (LiC.one (sz := 9) rfl (Mon.h (fun b o h => hF12 _ _ (hF11 _ _ (hF10 _ _ h))) r9)) (LiC.one (sz := 9) rfl (Mon.h (fun b o h => hF12 _ _ h) r11))) (show 2 ≤ _ by decide)); replace m := fun b o h => hF12 b o (m b o h); replace m2 := fun b o h => hF12 b o (m2 b o h))
  refine wpList_nil ?_
  refine wpm_eff rfl rfl (kwg S fun b o h => by exact m2 _ _ h) ?_
  (refine wpl_callF S rfl rfl rfl rfl rfl rfl (lcallCt F12 [47] (.cons (litX (intV 7)).1 (litX (intV 7)).2 (.cons (litX (intV (-2))).1 (litX (intV (-2))).2 .nil)) _ r12) rfl ?_; clear S a; intro v13 F13 a w hv hF13 S; obtain ⟨c13, rfl, -, r13⟩ := hv; obtain ⟨xa13, xb13, xc13, xd13, xe13, he13, -, -⟩ := exc_slc (ror_exc r13); subst he13; replace m := fun b o h => hF13 b o (m b o h); replace m2 := fun b o h => hF13 b o (m2 b o h))
  refine wpList_nil ?_
  refine wpm_eff rfl rfl (kwg S fun b o h => by exact m2 _ _ h) ?_
  (refine wpl_callF S rfl rfl rfl rfl rfl rfl (lnumCt F13 _) rfl ?_; clear S a; intro v14 F14 a w hv hF14 S; obtain ⟨c14, rfl, -, r14⟩ := hv; obtain ⟨xa14, xb14, he14, -, -⟩ := vac_slc (ror_vac r14); subst he14; replace m := fun b o h => hF14 b o (m b o h); replace m2 := fun b o h => hF14 b o (m2 b o h))
  refine wpList_nil ?_
  refine wpm_eff rfl rfl (kwg S fun b o h => by exact m2 _ _ h) ?_
  (refine wpl_call0 S rfl rfl rfl rfl rfl rfl (comesCt F14 (hT.mono m) (hE.mono m) (callX2 [47] (litX (intV 7)) (litX (intV (-2)))) _ (Mon.h (fun b o h => hF14 _ _ h) r13) (GE_call2 (by decide) (GE_num (by decide)) (GE_num (by decide))) (intV (-3)) _ r14 0) rfl ?_; clear S a; intro v a w hv S; subst hv)
  (rw [w1] at S)
  refine wpList_nil ?_
  (refine wpm_p S rfl rfl rfl (want_none _ rfl) rfl rfl ?_; clear S a; intro a S)
  refine wpm_eff rfl rfl (kwg S fun b o h => by exact m2 _ _ h) ?_
  refine wpl_take S rfl rfl rfl ?_
  (refine wpl_callF S rfl rfl rfl rfl rfl rfl (lnumCt F14 _) rfl ?_; clear S a; intro v17 F17 a w hv hF17 S; obtain ⟨c17, rfl, -, r17⟩ := hv; obtain ⟨xa17, xb17, he17, -, -⟩ := vac_slc (ror_vac r17); subst he17; replace m := fun b o h => hF17 b o (m b o h); replace m2 := fun b o h => hF17 b o (m2 b o h))
  refine wpList_nil ?_
  refine wpm_eff rfl rfl (kwg S fun b o h => by exact m2 _ _ h) ?_
  refine wpl_take S rfl rfl rfl ?_
  (refine wpl_callF S rfl rfl rfl rfl rfl rfl (llitCt F17 _ _ r17) rfl ?_; clear S a; intro v18 F18 a w hv hF18 S; obtain ⟨c18, rfl, -, r18⟩ := hv; obtain ⟨xa18, xb18, xc18, xd18, xe18, he18, -, -⟩ := exc_slc (ror_exc r18); subst he18; replace m := fun b o h => hF18 b o (m b o h); replace m2 := fun b o h => hF18 b o (m2 b o h))
  refine wpList_nil ?_
  refine wpm_eff rfl rfl (kwg S fun b o h => by exact m2 _ _ h) ?_
  refine wpl_take S rfl rfl rfl ?_
  (refine wpl_callF S rfl rfl rfl rfl rfl rfl (lnumCt F18 _) rfl ?_; clear S a; intro v19 F19 a w hv hF19 S; obtain ⟨c19, rfl, -, r19⟩ := hv; obtain ⟨xa19, xb19, he19, -, -⟩ := vac_slc (ror_vac r19); subst he19; replace m := fun b o h => hF19 b o (m b o h); replace m2 := fun b o h => hF19 b o (m2 b o h))
  refine wpList_nil ?_
  refine wpm_eff rfl rfl (kwg S fun b o h => by exact m2 _ _ h) ?_
  refine wpl_take S rfl rfl rfl ?_
  (refine wpl_callF S rfl rfl rfl rfl rfl rfl (llitCt F19 _ _ r19) rfl ?_; clear S a; intro v20 F20 a w hv hF20 S; obtain ⟨c20, rfl, -, r20⟩ := hv; obtain ⟨xa20, xb20, xc20, xd20, xe20, he20, -, -⟩ := exc_slc (ror_exc r20); subst he20; replace m := fun b o h => hF20 b o (m b o h); replace m2 := fun b o h => hF20 b o (m2 b o h))
  refine wpList_nil ?_
  refine wpm_eff rfl rfl (kwg S fun b o h => by exact m2 _ _ h) ?_
  refine wpl_take S rfl rfl rfl ?_
  (refine wpl_buildSlice S rfl rfl rfl rfl rfl rfl (by rfl) (by simp [Value.cells, splice]) rfl (by rfl) (by rfl) ?_; clear S a; intro b21 a w hown S; have S' := frz1 S; clear S; obtain ⟨F21, hF21, hb21, S⟩ := S'; have r21 := trs_lim (lim_of (l := ([(litX (intV 7)), (litX (intV (-2)))] : List Ex)) hb21 (LiC.app (l := ([(litX (intV 7))] : List Ex)) (LiC.one (sz := 9) rfl (Mon.h (fun b o h => hF21 _ _ (hF20 _ _ (hF19 _ _ h))) r18)) (LiC.one (sz := 9) rfl (Mon.h (fun b o h => hF21 _ _ h) r20))) (show 2 ≤ _ by decide)); replace m := fun b o h => hF21 b o (m b o h); replace m2 := fun b o h => hF21 b o (m2 b o h))
  refine wpList_nil ?_
  refine wpm_eff rfl rfl (kwg S fun b o h => by exact m2 _ _ h) ?_
  refine wpl_take S rfl rfl rfl ?_
  (refine wpl_callF S rfl rfl rfl rfl rfl rfl (lcallCt F21 [37] (.cons (litX (intV 7)).1 (litX (intV 7)).2 (.cons (litX (intV (-2))).1 (litX (intV (-2))).2 .nil)) _ r21) rfl ?_; clear S a; intro v22 F22 a w hv hF22 S; obtain ⟨c22, rfl, -, r22⟩ := hv; obtain ⟨xa22, xb22, xc22, xd22, xe22, he22, -, -⟩ := exc_slc (ror_exc r22); subst he22; replace m := fun b o h => hF22 b o (m b o h); replace m2 := fun b o h => hF22 b o (m2 b o h))
  refine wpList_nil ?_
  refine wpm_eff rfl rfl (kwg S fun b o h => by exact m2 _ _ h) ?_
  refine wpl_take S rfl rfl rfl ?_
  (refine wpl_callF S rfl rfl rfl rfl rfl rfl (lnumCt F22 _) rfl ?_; clear S a; intro v23 F23 a w hv hF23 S; obtain ⟨c23, rfl, -, r23⟩ := hv; obtain ⟨xa23, xb23, he23, -, -⟩ := vac_slc (ror_vac r23); subst he23; replace m := fun b o h => hF23 b o (m b o h); replace m2 := fun b o h => hF23 b o (m2 b o h))
  refine wpList_nil ?_
  refine wpm_eff rfl rfl (kwg S fun b o h => by exact m2 _ _ h) ?_
  refine wpl_take S rfl rfl rfl ?_
  (refine wpl_call0 S rfl rfl rfl rfl rfl rfl (comesCt F23 (hT.mono m) (hE.mono m) (callX2 [37] (litX (intV 7)) (litX (intV (-2)))) _ (Mon.h (fun b o h => hF23 _ _ h) r22) (GE_call2 (by decide) (GE_num (by decide)) (GE_num (by decide))) (intV 1) _ r23 0) rfl ?_; clear S a; intro v a w hv S; subst hv)
  (rw [w2] at S)
  refine wpList_nil ?_
  iterate 2 (refine wpm_p S rfl rfl rfl (want_none _ rfl) rfl rfl ?_; clear S a; intro a S)
  (refine wpm_o b1 S rfl rfl rfl (want_yes S rfl rfl rfl) rfl rfl ?_; clear S a; intro a S)
  (refine wpm_b S rfl rfl rfl (want_yes S rfl rfl rfl) rfl rfl ?_; clear S a; intro a S)
  refine wpm_eff rfl rfl (kwg S fun b o h => by exact m2 _ _ h) ?_
  refine wpl_take S rfl rfl rfl ?_
  (refine wpl_call0 S rfl rfl rfl rfl rfl rfl (comesCt F23 (hT.mono m) (hE.mono m) xDiv _ (Mon.h (fun b o h => hF23 _ _ (hF22 _ _ (hF21 _ _ (hF20 _ _ (hF19 _ _ (hF18 _ _ (hF17 _ _ (hF14 _ _ (hF13 _ _ (hF12 _ _ (hF11 _ _ (hF10 _ _ (hF9 _ _ (hF8 _ _ h)))))))))))))) r7) gDiv zV _ (ror_leaf _ 0 0 [] (by decide)) 81) rfl ?_; clear S a; intro v a w hv S; subst hv)
  (rw [w3] at S)
  refine wpList_nil ?_
  iterate 2 (refine wpm_p S rfl rfl rfl (want_none _ rfl) rfl rfl ?_; clear S a; intro a S)
  refine wpm_eff rfl rfl (kwg S fun b o h => by exact m2 _ _ h) ?_
  refine wpl_take S rfl rfl rfl ?_
  (refine wpl_callF S rfl rfl rfl rfl rfl rfl (lhugeCt F23 _ (by decide)) rfl ?_; clear S a; intro v32 F32 a w hv hF32 S; obtain ⟨c32, rfl, -, r32⟩ := hv; obtain ⟨xa32, xb32, he32, -, -⟩ := vac_slc (ror_vac r32); subst he32; replace m := fun b o h => hF32 b o (m b o h); replace m2 := fun b o h => hF32 b o (m2 b o h))
  refine wpList_nil ?_
  refine wpm_eff rfl rfl (kwg S fun b o h => by exact m2 _ _ h) ?_
  refine wpl_take S rfl rfl rfl ?_
  (refine wpl_callF S rfl rfl rfl rfl rfl rfl (llitCt F32 _ _ r32) rfl ?_; clear S a; intro v33 F33 a w hv hF33 S; obtain ⟨c33, rfl, -, r33⟩ := hv; obtain ⟨xa33, xb33, xc33, xd33, xe33, he33, -, -⟩ := exc_slc (ror_exc r33); subst he33; replace m := fun b o h => hF33 b o (m b o h); replace m2 := fun b o h => hF33 b o (m2 b o h))
  refine wpList_nil ?_
  refine wpm_eff rfl rfl (kwg S fun b o h => by exact m2 _ _ h) ?_
  refine wpl_take S rfl rfl rfl ?_
  (refine wpl_callF S rfl rfl rfl rfl rfl rfl (lhugeCt F33 _ (by decide)) rfl ?_; clear S a; intro v34 F34 a w hv hF34 S; obtain ⟨c34, rfl, -, r34⟩ := hv; obtain ⟨xa34, xb34, he34, -, -⟩ := vac_slc (ror_vac r34); subst he34; replace m := fun b o h => hF34 b o (m b o h); replace m2 := fun b o h => hF34 b o (m2 b o h))
  refine wpList_nil ?_
  refine wpm_eff rfl rfl (kwg S fun b o h => by exact m2 _ _ h) ?_
  refine wpl_take S rfl rfl rfl ?_
  (refine wpl_callF S rfl rfl rfl rfl rfl rfl (llitCt F34 _ _ r34) rfl ?_; clear S a; intro v35 F35 a w hv hF35 S; obtain ⟨c35, rfl, -, r35⟩ := hv; obtain ⟨xa35, xb35, xc35, xd35, xe35, he35, -, -⟩ := exc_slc (ror_exc r35); subst he35; replace m := fun b o h => hF35 b o (m b o h); replace m2 := fun b o h => hF35 b o (m2 b o h))
  refine wpList_nil ?_
  refine wpm_eff rfl rfl (kwg S fun b o h => by exact m2 _ _ h) ?_
  refine wpl_take S rfl rfl rfl ?_
  (refine wpl_buildSlice S rfl rfl rfl rfl rfl rfl (by rfl) (by simp [Value.cells, splice]) rfl (by rfl) (by rfl) ?_; clear S a; intro b36 a w hown S; have S' := frz1 S; clear S; obtain ⟨F36, hF36, hb36, S⟩ := S'; have r36 := trs_lim (lim_of (l := ([(litX (bigV [51])), (litX (bigV [52]))] : List Ex)) hb36 (LiC.app (l := ([(litX (bigV [51]))] : List Ex)) (LiC.one (sz := 9) rfl (Mon.h (fun b o h => hF36 _ _ (hF35 _ _ (hF34 _ _ h))) r33)) (LiC.one (sz := 9) rfl (Mon.h (fun b o h => hF36 _ _ h) r35))) (show 2 ≤ _ by decide)); replace m := fun b o h => hF36 b o (m b o h); replace m2 := fun b o h => hF36 b o (m2 b o h))
  refine wpList_nil ?_
  refine wpm_eff rfl rfl (kwg S fun b o h => by exact m2 _ _ h) ?_
  refine wpl_take S rfl rfl rfl ?_
  (refine wpl_callF S rfl rfl rfl rfl rfl rfl (lcallCt F36 [42] (.cons (litX (bigV [51])).1 (litX (bigV [51])).2 (.cons (litX (bigV [52])).1 (litX (bigV [52])).2 .nil)) _ r36) rfl ?_; clear S a; intro v37 F37 a w hv hF37 S; obtain ⟨c37, rfl, -, r37⟩ := hv; obtain ⟨xa37, xb37, xc37, xd37, xe37, he37, -, -⟩ := exc_slc (ror_exc r37); subst he37; replace m := fun b o h => hF37 b o (m b o h); replace m2 := fun b o h => hF37 b o (m2 b o h))
  refine wpList_nil ?_
  refine wpm_eff rfl rfl (kwg S fun b o h => by exact m2 _ _ h) ?_
  refine wpl_take S rfl rfl rfl ?_
  (refine wpl_callF S rfl rfl rfl rfl rfl rfl (lhugeCt F37 _ (by decide)) rfl ?_; clear S a; intro v38 F38 a w hv hF38 S; obtain ⟨c38, rfl, -, r38⟩ := hv; obtain ⟨xa38, xb38, he38, -, -⟩ := vac_slc (ror_vac r38); subst he38; replace m := fun b o h => hF38 b o (m b o h); replace m2 := fun b o h => hF38 b o (m2 b o h))
  refine wpList_nil ?_
  refine wpm_eff rfl rfl (kwg S fun b o h => by exact m2 _ _ h) ?_
  refine wpl_take S rfl rfl rfl ?_
  (refine wpl_call0 S rfl rfl rfl rfl rfl rfl (comesCt F38 (hT.mono m) (hE.mono m) (callX2 [42] (litX (bigV [51])) (litX (bigV [52]))) _ (Mon.h (fun b o h => hF38 _ _ h) r37) (GE_call2 (by decide) (GE_huge (by decide)) (GE_huge (by decide))) (bigV [49, 50]) _ r38 0) rfl ?_; clear S a; intro v a w hv S; subst hv)
  (rw [w4] at S)
  refine wpList_nil ?_
  iterate 2 (refine wpm_p S rfl rfl rfl (want_none _ rfl) rfl rfl ?_; clear S a; intro a S)
  refine wpm_eff rfl rfl (kwg S fun b o h => by exact m2 _ _ h) ?_
  refine wpl_take S rfl rfl rfl ?_
  (refine wpl_callF S rfl rfl rfl rfl rfl rfl (ltextCt F38 _ (by decide)) rfl ?_; clear S a; intro v42 F42 a w hv hF42 S; obtain ⟨c42, rfl, -, r42⟩ := hv; obtain ⟨xa42, xb42, he42, -, -⟩ := vac_slc (ror_vac r42); subst he42; replace m := fun b o h => hF42 b o (m b o h); replace m2 := fun b o h => hF42 b o (m2 b o h))
  refine wpList_nil ?_
  refine wpm_eff rfl rfl (kwg S fun b o h => by exact m2 _ _ h) ?_
  refine wpl_take S rfl rfl rfl ?_
  (refine wpl_callF S rfl rfl rfl rfl rfl rfl (llitCt F42 _ _ r42) rfl ?_; clear S a; intro v43 F43 a w hv hF43 S; obtain ⟨c43, rfl, -, r43⟩ := hv; obtain ⟨xa43, xb43, xc43, xd43, xe43, he43, -, -⟩ := exc_slc (ror_exc r43); subst he43; replace m := fun b o h => hF43 b o (m b o h); replace m2 := fun b o h => hF43 b o (m2 b o h))
  refine wpList_nil ?_
  refine wpm_eff rfl rfl (kwg S fun b o h => by exact m2 _ _ h) ?_
  refine wpl_take S rfl rfl rfl ?_
  (refine wpl_callF S rfl rfl rfl rfl rfl rfl (ltextCt F43 _ (by decide)) rfl ?_; clear S a; intro v44 F44 a w hv hF44 S; obtain ⟨c44, rfl, -, r44⟩ := hv; obtain ⟨xa44, xb44, he44, -, -⟩ := vac_slc (ror_vac r44); subst he44; replace m := fun b o h => hF44 b o (m b o h); replace m2 := fun b o h => hF44 b o (m2 b o h))
  refine wpList_nil ?_
  refine wpm_eff rfl rfl (kwg S fun b o h => by exact m2 _ _ h) ?_
  refine wpl_take S rfl rfl rfl ?_
  (refine wpl_callF S rfl rfl rfl rfl rfl rfl (llitCt F44 _ _ r44) rfl ?_; clear S a; intro v45 F45 a w hv hF45 S; obtain ⟨c45, rfl, -, r45⟩ := hv; obtain ⟨xa45, xb45, xc45, xd45, xe45, he45, -, -⟩ := exc_slc (ror_exc r45); subst he45; replace m := fun b o h => hF45 b o (m b o h); replace m2 := fun b o h => hF45 b o (m2 b o h))
  refine wpList_nil ?_
  refine wpm_eff rfl rfl (kwg S fun b o h => by exact m2 _ _ h) ?_
  refine wpl_take S rfl rfl rfl ?_
  (refine wpl_buildSlice S rfl rfl rfl rfl rfl rfl (by rfl) (by simp [Value.cells, splice]) rfl (by rfl) (by rfl) ?_; clear S a; intro b46 a w hown S; have S' := frz1 S; clear S; obtain ⟨F46, hF46, hb46, S⟩ := S'; have r46 := trs_lim (lim_of (l := ([(litX (textV [97])), (litX (textV [98]))] : List Ex)) hb46 (LiC.app (l := ([(litX (textV [97]))] : List Ex)) (LiC.one (sz := 9) rfl (Mon.h (fun b o h => hF46 _ _ (hF45 _ _ (hF44 _ _ h))) r43)) (LiC.one (sz := 9) rfl (Mon.h (fun b o h => hF46 _ _ h) r45))) (show 2 ≤ _ by decide)); replace m := fun b o h => hF46 b o (m b o h); replace m2 := fun b o h => hF46 b o (m2 b o h))
  refine wpList_nil ?_
  refine wpm_eff rfl rfl (kwg S fun b o h => by exact m2 _ _ h) ?_
  refine wpl_take S rfl rfl rfl ?_
  (refine wpl_callF S rfl rfl rfl rfl rfl rfl (lcallCt F46 [43, 43] (.cons (litX (textV [97])).1 (litX (textV [97])).2 (.cons (litX (textV [98])).1 (litX (textV [98])).2 .nil)) _ r46) rfl ?_; clear S a; intro v47 F47 a w hv hF47 S; obtain ⟨c47, rfl, -, r47⟩ := hv; obtain ⟨xa47, xb47, xc47, xd47, xe47, he47, -, -⟩ := exc_slc (ror_exc r47); subst he47; replace m := fun b o h => hF47 b o (m b o h); replace m2 := fun b o h => hF47 b o (m2 b o h))
  refine wpList_nil ?_
  refine wpm_eff rfl rfl (kwg S fun b o h => by exact m2 _ _ h) ?_
  refine wpl_take S rfl rfl rfl ?_
  (refine wpl_callF S rfl rfl rfl rfl rfl rfl (ltextCt F47 _ (by decide)) rfl ?_; clear S a; intro v48 F48 a w hv hF48 S; obtain ⟨c48, rfl, -, r48⟩ := hv; obtain ⟨xa48, xb48, he48, -, -⟩ := vac_slc (ror_vac r48); subst he48; replace m := fun b o h => hF48 b o (m b o h); replace m2 := fun b o h => hF48 b o (m2 b o h))
  refine wpList_nil ?_
  refine wpm_eff rfl rfl (kwg S fun b o h => by exact m2 _ _ h) ?_
  refine wpl_take S rfl rfl rfl ?_
  (refine wpl_call0 S rfl rfl rfl rfl rfl rfl (comesCt F48 (hT.mono m) (hE.mono m) (callX2 [43, 43] (litX (textV [97])) (litX (textV [98]))) _ (Mon.h (fun b o h => hF48 _ _ h) r47) (GE_call2 (by decide) (GE_text (by decide)) (GE_text (by decide))) (textV [97, 98]) _ r48 0) rfl ?_; clear S a; intro v a w hv S; subst hv)
  (rw [w5] at S)
  refine wpList_nil ?_
  iterate 2 (refine wpm_p S rfl rfl rfl (want_none _ rfl) rfl rfl ?_; clear S a; intro a S)
  (refine wpm_o b1 S rfl rfl rfl (want_yes S rfl rfl rfl) rfl rfl ?_; clear S a; intro a S)
  refine wpm_eff rfl rfl (kwg S fun b o h => by exact m2 _ _ h) ?_
  refine wpl_take S rfl rfl rfl ?_
  (refine wpl_callF S rfl rfl rfl rfl rfl rfl (ltruthCt F48 _) rfl ?_; clear S a; intro v52 F52 a w hv hF52 S; obtain ⟨c52, rfl, -, r52⟩ := hv; obtain ⟨xa52, xb52, he52, -, -⟩ := vac_slc (ror_vac r52); subst he52; replace m := fun b o h => hF52 b o (m b o h); replace m2 := fun b o h => hF52 b o (m2 b o h))
  refine wpList_nil ?_
  refine wpm_eff rfl rfl (kwg S fun b o h => by exact m2 _ _ h) ?_
  refine wpl_take S rfl rfl rfl ?_
  (refine wpl_callF S rfl rfl rfl rfl rfl rfl (llitCt F52 _ _ r52) rfl ?_; clear S a; intro v53 F53 a w hv hF53 S; obtain ⟨c53, rfl, -, r53⟩ := hv; obtain ⟨xa53, xb53, xc53, xd53, xe53, he53, -, -⟩ := exc_slc (ror_exc r53); subst he53; replace m := fun b o h => hF53 b o (m b o h); replace m2 := fun b o h => hF53 b o (m2 b o h))
  refine wpList_nil ?_
  refine wpm_eff rfl rfl (kwg S fun b o h => by exact m2 _ _ h) ?_
  refine wpl_take S rfl rfl rfl ?_
  (refine wpl_callF S rfl rfl rfl rfl rfl rfl (lnumCt F53 _) rfl ?_; clear S a; intro v55 F55 a w hv hF55 S; obtain ⟨c55, rfl, -, r55⟩ := hv; obtain ⟨xa55, xb55, he55, -, -⟩ := vac_slc (ror_vac r55); subst he55; replace m := fun b o h => hF55 b o (m b o h); replace m2 := fun b o h => hF55 b o (m2 b o h))
  refine wpList_nil ?_
  refine wpm_eff rfl rfl (kwg S fun b o h => by exact m2 _ _ h) ?_
  refine wpl_take S rfl rfl rfl ?_
  (refine wpl_callF S rfl rfl rfl rfl rfl rfl (llitCt F55 _ _ r55) rfl ?_; clear S a; intro v56 F56 a w hv hF56 S; obtain ⟨c56, rfl, -, r56⟩ := hv; obtain ⟨xa56, xb56, xc56, xd56, xe56, he56, -, -⟩ := exc_slc (ror_exc r56); subst he56; replace m := fun b o h => hF56 b o (m b o h); replace m2 := fun b o h => hF56 b o (m2 b o h))
  refine wpList_nil ?_
  refine wpm_eff rfl rfl (kwg S fun b o h => by exact m2 _ _ h) ?_
  refine wpl_take S rfl rfl rfl ?_
  (refine wpl_buildSlice S rfl rfl rfl rfl rfl rfl (by rfl) (by simp [Value.cells, splice]) rfl (by rfl) (by rfl) ?_; clear S a; intro b57 a w hown S; have S' := frz1 S; clear S; obtain ⟨F57, hF57, hb57, S⟩ := S'; have r57 := trs_lim (lim_of (l := ([xDiv, (litX (intV 1))] : List Ex)) hb57 (LiC.app (l := ([xDiv] : List Ex)) (LiC.one (sz := 9) rfl (Mon.h (fun b o h => hF57 _ _ (hF56 _ _ (hF55 _ _ (hF53 _ _ (hF52 _ _ (hF48 _ _ (hF47 _ _ (hF46 _ _ (hF45 _ _ (hF44 _ _ (hF43 _ _ (hF42 _ _ (hF38 _ _ (hF37 _ _ (hF36 _ _ (hF35 _ _ (hF34 _ _ (hF33 _ _ (hF32 _ _ (hF23 _ _ (hF22 _ _ (hF21 _ _ (hF20 _ _ (hF19 _ _ (hF18 _ _ (hF17 _ _ (hF14 _ _ (hF13 _ _ (hF12 _ _ (hF11 _ _ (hF10 _ _ (hF9 _ _ (hF8 _ _ h))))))))))))))))))))))))))))))))) r7)) (LiC.one (sz := 9) rfl (Mon.h (fun b o h => hF57 _ _ h) r56))) (show 2 ≤ _ by decide)); replace m := fun b o h => hF57 b o (m b o h); replace m2 := fun b o h => hF57 b o (m2 b o h))
  refine wpList_nil ?_
  refine wpm_eff rfl rfl (kwg S fun b o h => by exact m2 _ _ h) ?_
  refine wpl_take S rfl rfl rfl ?_
  (refine wpl_callF S rfl rfl rfl rfl rfl rfl (lcallCt F57 [61, 61] (.cons xDiv.1 xDiv.2 (.cons (litX (intV 1)).1 (litX (intV 1)).2 .nil)) _ r57) rfl ?_; clear S a; intro v58 F58 a w hv hF58 S; obtain ⟨c58, rfl, -, r58⟩ := hv; obtain ⟨xa58, xb58, xc58, xd58, xe58, he58, -, -⟩ := exc_slc (ror_exc r58); subst he58; replace m := fun b o h => hF58 b o (m b o h); replace m2 := fun b o h => hF58 b o (m2 b o h))
  refine wpList_nil ?_
  refine wpm_eff rfl rfl (kwg S fun b o h => by exact m2 _ _ h) ?_
  refine wpl_take S rfl rfl rfl ?_
  (refine wpl_buildSlice S rfl rfl rfl rfl rfl rfl (by rfl) (by simp [Value.cells, splice]) rfl (by rfl) (by rfl) ?_; clear S a; intro b59 a w hown S; have S' := frz1 S; clear S; obtain ⟨F59, hF59, hb59, S⟩ := S'; have r59 := trs_lim (lim_of (l := ([(litX (boolV false)), (callX2 [61, 61] xDiv (litX (intV 1)))] : List Ex)) hb59 (LiC.app (l := ([(litX (boolV false))] : List Ex)) (LiC.one (sz := 9) rfl (Mon.h (fun b o h => hF59 _ _ (hF58 _ _ (hF57 _ _ (hF56 _ _ (hF55 _ _ h))))) r53)) (LiC.one (sz := 9) rfl (Mon.h (fun b o h => hF59 _ _ h) r58))) (show 2 ≤ _ by decide)); replace m := fun b o h => hF59 b o (m b o h); replace m2 := fun b o h => hF59 b o (m2 b o h))
  refine wpList_nil ?_
  refine wpm_eff rfl rfl (kwg S fun b o h => by exact m2 _ _ h) ?_
  refine wpl_take S rfl rfl rfl ?_
  (refine wpl_callF S rfl rfl rfl rfl rfl rfl (lcallCt F59 [97, 110, 100] (.cons (litX (boolV false)).1 (litX (boolV false)).2 (.cons (callX2 [61, 61] xDiv (litX (intV 1))).1 (callX2 [61, 61] xDiv (litX (intV 1))).2 .nil)) _ r59) rfl ?_; clear S a; intro v60 F60 a w hv hF60 S; obtain ⟨c60, rfl, -, r60⟩ := hv; obtain ⟨xa60, xb60, xc60, xd60, xe60, he60, -, -⟩ := exc_slc (ror_exc r60); subst he60; replace m := fun b o h => hF60 b o (m b o h); replace m2 := fun b o h => hF60 b o (m2 b o h))
  refine wpList_nil ?_
  refine wpm_eff rfl rfl (kwg S fun b o h => by exact m2 _ _ h) ?_
  refine wpl_take S rfl rfl rfl ?_
  (refine wpl_callF S rfl rfl rfl rfl rfl rfl (ltruthCt F60 _) rfl ?_; clear S a; intro v61 F61 a w hv hF61 S; obtain ⟨c61, rfl, -, r61⟩ := hv; obtain ⟨xa61, xb61, he61, -, -⟩ := vac_slc (ror_vac r61); subst he61; replace m := fun b o h => hF61 b o (m b o h); replace m2 := fun b o h => hF61 b o (m2 b o h))
  refine wpList_nil ?_
  refine wpm_eff rfl rfl (kwg S fun b o h => by exact m2 _ _ h) ?_
  refine wpl_take S rfl rfl rfl ?_
  (refine wpl_call0 S rfl rfl rfl rfl rfl rfl (comesCt F61 (hT.mono m) (hE.mono m) (callX2 [97, 110, 100] (litX (boolV false)) (callX2 [61, 61] xDiv (litX (intV 1)))) _ (Mon.h (fun b o h => hF61 _ _ h) r60) (GE_call2 (by decide) (GE_truth _) (GE_call2 (by decide) gDiv (GE_num (by decide)))) (boolV false) _ r61 0) rfl ?_; clear S a; intro v a w hv S; subst hv)
  (rw [w6] at S)
  refine wpList_nil ?_
  (refine wpm_p S rfl rfl rfl (want_none _ rfl) rfl rfl ?_; clear S a; intro a S)
  refine wpm_eff rfl rfl (kwg S fun b o h => by exact m2 _ _ h) ?_
  (refine wpl_p S rfl rfl rfl ?_; clear S a; intro a S)
  refine wpList_nil ?_
  (refine wpm_nil (kwg S fun b o h => by exact m2 _ _ h) (hKq3 _ _ ?_); try clear hKq3 Kq3)
  exact wp_ret (fin_ret S (results1 Tryz.results5 (RV.tmp S rfl)) rfl)
end Go.Proofs.YtigblodhdfnleaaGreatDoor
namespace Go.Proofs.YtigblodhdfnleaaGreatDoor
open Go Go.Wk Go.Un Go.De Go.Num
set_option linter.unusedSimpArgs false
set_option linter.unusedVariables false

theorem GE_if {x y z : Ex} (g : GE x.1 x.2) (g2 : GE y.1 y.2) (g3 : GE z.1 z.2) : GE (ifX x y z).1 (ifX x y z).2 := ⟨GV_z, ⟨show 3 ≤ 3000 by decide, Nat.zero_le _⟩, g, g2, g3, trivial⟩
def Okx (x : Ex) : Prop := GE x.1 x.2 ∧ Fm x
theorem okN {a : Int} (h : in64 a) : Okx (litX (intV a)) := ⟨GE_num h, fm_lit rfl⟩
theorem okB (p : Bool) : Okx (litX (boolV p)) := ⟨GE_truth p, fm_lit (by cases p <;> rfl)⟩
theorem okT {s : List UInt8} (h : s.length ≤ 4096) : Okx (litX (textV s)) := ⟨GE_text (Nat.le_trans h (by decide)), fm_lit (by
  have h2 : (fitsH (⟨4, 0, s⟩ : VH) 0 && fitsL .nil) = true := by rw [show fitsH (⟨4, 0, s⟩ : VH) 0 = decide (s.length ≤ 4096) from rfl, decide_eq_true h]; rfl
  show (if (64 : Int) < 0 + 1 then (65 : Int) else if (formH (⟨4, 0, s⟩ : VH) 0 && formL .nil) = false then 4 else if (fitsH (⟨4, 0, s⟩ : VH) 0 && fitsL .nil) = false then 40 else 0) = 0
  rw [h2]; rfl)⟩
theorem ok1 {s : List UInt8} {x : Ex} (hs : (s ∈ ones ∧ s.length ≤ 140737488355328)) (h : Okx x) : Okx (callX1 s x) := ⟨GE_call1 hs.2 h.1, fm_call1 hs.1 h.2⟩
theorem ok2 {s : List UInt8} {x y : Ex} (hs : ((((op2 s).isSome || decide (s = sAnd)) || decide (s = sOr)) = true ∧ s.length ≤ 140737488355328)) (h : Okx x) (h2 : Okx y) : Okx (callX2 s x y) := ⟨GE_call2 hs.2 h.1 h2.1, fm_call2 hs.1 h.2 h2.2⟩
theorem okIf {x y z : Ex} (h : Okx x) (h2 : Okx y) (h3 : Okx z) : Okx (ifX x y z) := ⟨GE_if h.1 h2.1 h3.1, fm_if h.2 h2.2 h3.2⟩
/-- Both are in bounds, and come to the same, where nothing fails. -/
def Pr (r : Ex × Ex) : Prop := GE r.1.1 r.1.2 ∧ GE r.2.1 r.2.2 ∧ ((evalO [] [] r.1.1 r.1.2).1 = 0 → (evalO [] [] r.2.1 r.2.2).1 = 0 → (evalO [] [] r.1.1 r.1.2).2 = (evalO [] [] r.2.1 r.2.2).2)
theorem pr_of {x y : Ex} (hx : Okx x) (hy : Okx y) (dx : deepE x.2 1 = false) (dy : deepE y.2 1 = false) (h : (evX x).1 = 0 → (evX y).1 = 0 → (evX x).2 = (evX y).2) : Pr (x, y) :=
  ⟨hx.1, hy.1, by rw [show evalO [] [] (x, y).1.1 (x, y).1.2 = evX x from eval_ok hx.2 dx, show evalO [] [] (x, y).2.1 (x, y).2.2 = evX y from eval_ok hy.2 dy]; exact h⟩
theorem pr_k {x y : Ex} (hx : Okx x) (hy : Okx y) (dx : deepE x.2 1 = false) (dy : deepE y.2 1 = false) (h : ∃ z w, K (evX x) z ∧ K (evX y) w ∧ z = w) : Pr (x, y) :=
  pr_of hx hy dx dy fun h1 h2 => by obtain ⟨z, w, h3, h4, h5⟩ := h; exact K.same h3 h4 h5 h1 h2
theorem pr_e {x y : Ex} (hx : Okx x) (hy : Okx y) (dx : deepE x.2 1 = false) (dy : deepE y.2 1 = false) (h : evX x = evX y) : Pr (x, y) :=
  pr_of hx hy dx dy fun _ _ => by rw [h]
def pairsL (a b c : Int) (s t : List UInt8) (p q : Bool) : List (Ex × Ex) :=
  let x := litX (intV a); let y := litX (intV b); let z := litX (intV c); let u := litX (boolV p); let v := litX (boolV q); let k := litX (textV s); let l := litX (textV t)
  [(callX2 [43] x y, callX2 [43] y x), (callX2 [42] x y, callX2 [42] y x), (callX2 [42] x (callX2 [43] y z), callX2 [43] (callX2 [42] x y) (callX2 [42] x z)),
   (callX2 [45] x y, callX1 sNeg (callX2 [45] y x)), (callX2 [43] (callX2 [42] (callX2 [47] x y) y) (callX2 [37] x y), x),
   (callX1 sNot (callX2 sAnd u v), callX2 sOr (callX1 sNot u) (callX1 sNot v)), (callX2 [60] x y, callX2 [62] y x), (callX2 [60, 61] x y, callX1 sNot (callX2 [62] x y)),
   (callX2 [33, 61] k l, callX1 sNot (callX2 [61, 61] k l)), (callX1 sLen (callX2 [43, 43] k l), callX2 [43] (callX1 sLen k) (callX1 sLen l)),
   (callX2 [43, 43] k (callX2 [43, 43] l k), callX2 [43, 43] (callX2 [43, 43] k l) k), (ifX u x y, ifX (callX1 sNot u) y x)]
theorem pairs_ok {a b c : Int} {s t : List UInt8} {p q : Bool} (ha : in64 a) (hb : in64 b) (hc : in64 c) (hs : s.length ≤ 4096) (ht : t.length ≤ 4096) {k : Nat} {r : Ex × Ex} (hr : (pairsL a b c s t p q)[k]? = some r) : Pr r := by
  have x := okN ha
  have y := okN hb
  have z := okN hc
  have u := okB p
  have v := okB q
  have ks := okT hs
  have l := okT ht
  have hm := List.mem_of_getElem? hr
  simp only [pairsL, List.mem_cons, List.not_mem_nil, or_false] at hm
  rcases hm with rfl | rfl | rfl | rfl | rfl | rfl | rfl | rfl | rfl | rfl | rfl | rfl
  · exact pr_k (ok2 (by decide) x y) (ok2 (by decide) y x) rfl rfl (pair1 ha hb)
  · exact pr_k (ok2 (by decide) x y) (ok2 (by decide) y x) rfl rfl (pair2 ha hb)
  · exact pr_k (ok2 (by decide) x (ok2 (by decide) y z)) (ok2 (by decide) (ok2 (by decide) x y) (ok2 (by decide) x z)) rfl rfl (pair3 ha hb hc)
  · exact pr_k (ok2 (by decide) x y) (ok1 (by decide) (ok2 (by decide) y x)) rfl rfl (pair4 ha hb)
  · exact pr_k (ok2 (by decide) (ok2 (by decide) (ok2 (by decide) x y) y) (ok2 (by decide) x y)) x rfl rfl ⟨a, a, pair5 ha hb, K.lit ha, rfl⟩
  · exact pr_e (ok1 (by decide) (ok2 (by decide) u v)) (ok2 (by decide) (ok1 (by decide) u) (ok1 (by decide) v)) rfl rfl (pair6 p q)
  · exact pr_e (ok2 (by decide) x y) (ok2 (by decide) y x) rfl rfl (pair7 a b)
  · exact pr_e (ok2 (by decide) x y) (ok1 (by decide) (ok2 (by decide) x y)) rfl rfl (pair8 a b)
  · exact pr_e (ok2 (by decide) ks l) (ok1 (by decide) (ok2 (by decide) ks l)) rfl rfl (pair9 _ _)
  · exact pr_k (ok1 (by decide) (ok2 (by decide) ks l)) (ok2 (by decide) (ok1 (by decide) ks) (ok1 (by decide) l)) rfl rfl (pair10 (by omega) (by omega))
  · exact pr_of (ok2 (by decide) ks (ok2 (by decide) l ks)) (ok2 (by decide) (ok2 (by decide) ks l) ks) rfl rfl fun h1 h2 => by rw [(pair11 s t).1 h1, (pair11 s t).2 h2]
  · exact pr_e (okIf u x y) (okIf (ok1 (by decide) u) y x) rfl rfl (pair12 p _ _)
/-! ints and bigs -/
def x1 (k : Nat) (a b : Int) : Ex := callX1 sBig (callX2 (opn k) (litX (intV a)) (litX (intV b)))
def x2 (k : Nat) (a b : Int) : Ex := callX2 (opn k) (callX1 sBig (litX (intV a))) (callX1 sBig (litX (intV b)))
def x3 (k : Nat) (a b : Int) : Ex := callX1 sInt (x2 k a b)
theorem opn_ok {k : Nat} (hk : k ≤ 4) : (((op2 (opn k)).isSome || decide (opn k = sAnd)) || decide (opn k = sOr)) = true ∧ (opn k).length ≤ 140737488355328 := by
  match k, hk with
  | 0, _ => decide
  | 1, _ => decide
  | 2, _ => decide
  | 3, _ => decide
  | 4, _ => decide
theorem ok_x1 {k : Nat} (hk : k ≤ 4) {a b : Int} (ha : in64 a) (hb : in64 b) : Okx (x1 k a b) := ok1 (by decide) (ok2 (opn_ok hk) (okN ha) (okN hb))
theorem ok_x2 {k : Nat} (hk : k ≤ 4) {a b : Int} (ha : in64 a) (hb : in64 b) : Okx (x2 k a b) := ok2 (opn_ok hk) (ok1 (by decide) (okN ha)) (ok1 (by decide) (okN hb))
theorem ok_x3 {k : Nat} (hk : k ≤ 4) {a b : Int} (ha : in64 a) (hb : in64 b) : Okx (x3 k a b) := ok1 (by decide) (ok_x2 hk ha hb)
theorem paper_eval {k : Nat} (hk : k ≤ 4) {a b : Int} (ha : in64 a) (hb : in64 b) {x y z : Ans} (hx : x = evalO [] [] (x1 k a b).1 (x1 k a b).2) (hy : y = evalO [] [] (x2 k a b).1 (x2 k a b).2) (hz : z = evalO [] [] (x3 k a b).1 (x3 k a b).2) :
    (x.1 = 0 → y.1 = 0 ∧ x.2 = y.2) ∧ (x.1 = 81 → y.1 = 81) ∧ (x.1 = 80 → z.1 = 80) ∧ (x.1 = 0 ∨ x.1 = 81 ∨ x.1 = 80) := by
  refine paper1 hk ha hb (hx.trans (eval_ok (ok_x1 hk ha hb).2 ?_)) (hy.trans (eval_ok (ok_x2 hk ha hb).2 ?_)) (hz.trans (eval_ok (ok_x3 hk ha hb).2 ?_)) <;> rfl
theorem opn_at {k : Nat} {x : List UInt8} (h : ([[43], [45], [42], [47], [37]] : List (List UInt8))[k]? = some x) : x = opn k := by
  match k, h with
  | 0, h => exact (Option.some.inj h).symm
  | 1, h => exact (Option.some.inj h).symm
  | 2, h => exact (Option.some.inj h).symm
  | 3, h => exact (Option.some.inj h).symm
  | 4, h => exact (Option.some.inj h).symm
  | k + 5, h => simp at h
end Go.Proofs.YtigblodhdfnleaaGreatDoor
namespace Go.Wk
open Go
set_option linter.unusedVariables false
set_option linter.unusedSimpArgs false

/-- What is known of a value, and stays so as memory grows. -/
structure PM where
  p : Value → Heap → Prop
  mono : ∀ v F F', (∀ b o, F b = some o → F' b = some o) → p v F → p v F'
instance : Inhabited PM := ⟨⟨fun _ _ => True, fun _ _ _ _ h => h⟩⟩
def PM.is (v : Value) : PM := ⟨fun u _ => u = v, fun _ _ _ _ h => h⟩

section
variable {P : Program} {ops : Array Oper} {Q : Exit → Act → World → Prop} {n : Sz} {w0 : World} {F0 F1 : Heap} {K0 : List Nat} {a : Act} {w : World}

theorem stepM_put {i : Nat} {K : Act → World → Prop} {o : Oper} (ho : ops[i]? = some o) (hK : ∀ a' w', K a' w' → a'.defers = a.defers) (h : stepM P ops i K a w) : stepM P ops i (fun a' w' => (∃ v, a' = a.put o.dst v) ∧ K a' w') a w := by
  obtain ⟨o', ho', h⟩ := h
  obtain rfl : o' = o := Option.some.inj (ho'.symm.trans ho)
  refine ⟨o', ho', ?_⟩
  split
  · rename_i hw
    rw [if_pos hw] at h
    unfold Oper.wp at *
    generalize (execOp a.eval o').run P w = r at *
    unfold Oper.upon at *
    split at h
    · exact ⟨⟨_, rfl⟩, h⟩
    · exact ⟨⟨_, rfl⟩, h⟩
    · have := hK _ _ h
      exfalso
      cases hd : o'.dst <;> rw [hd] at this <;> simp [Act.put] at this
    · refine Calls.mono h fun e w'' he => ?_
      cases e with
      | returned v => exact ⟨⟨_, rfl⟩, he⟩
      | panicked c => exact he.elim
      | outgrown => exact he
    · exact Rows.mono h fun v w'' he => ⟨⟨_, rfl⟩, he⟩
    · exact h.elim
    · exact h.elim
  · rename_i hw
    rw [if_neg hw] at h
    exact ⟨⟨_, rfl⟩, h⟩
theorem kp0 {L : List (Nat × Value)} : subL L [] := trivial
theorem kp {L r : List (Nat × Value)} {t : Nat} {v : Value} (e : look L t = some v) (h : subL L r) : subL L ((t, v) :: r) := ⟨e, h⟩
/-- What is known of the j-th operation. -/
def FactAt (dl : List Nat) (pl : List PM) (L : List (Nat × Value)) (F : Heap) (j : Nat) : Prop := ∃ v, look L (dl.getD j 0) = some v ∧ (pl.getD j default).p v F
def DepF (dl : List Nat) (pl : List PM) (L : List (Nat × Value)) (F : Heap) : List Edge → Prop
  | [] => True
  | e :: r => (Region.binds .any e = true → FactAt dl pl L F e.on) ∧ DepF dl pl L F r
theorem depF_of {dl : List Nat} {pl : List PM} {L : List (Nat × Value)} {F : Heap} : ∀ {es : List Edge}, (∀ e ∈ es, Region.binds .any e = true → FactAt dl pl L F e.on) → DepF dl pl L F es
  | [], _ => trivial
  | e :: r, h => ⟨h e (List.mem_cons_self ..), depF_of fun x hx => h x (List.mem_cons_of_mem _ hx)⟩
/-- One operation's duty. -/
def Duty (P : Program) (ops : Array Oper) (n : Sz) (w0 : World) (F0 : Heap) (K0 : List Nat) (L0 : List (Nat × Value)) (F1 : Heap) (dl : List Nat) (pl : List PM) (i : Nat) (o : Oper) : Prop :=
  ∀ L F a w, (∀ b o, F1 b = some o → F b = some o) → (∀ t v, look L0 t = some v → look L t = some v) → St n L w0 F0 K0 F [] a w → DepF dl pl L F o.after.toList →
    stepM P ops i (fun a' w' => ∃ v F', (∀ b o, F b = some o → F' b = some o) ∧ St n [(dl.getD i 0, v)] w0 F0 K0 F' [] a' w' ∧ (pl.getD i default).p v F') a w
def Duties (P : Program) (ops : Array Oper) (n : Sz) (w0 : World) (F0 : Heap) (K0 : List Nat) (L0 : List (Nat × Value)) (F1 : Heap) (dl : List Nat) (pl : List PM) : Nat → List Oper → Prop
  | _, [] => True
  | i, o :: r => Duty P ops n w0 F0 K0 L0 F1 dl pl i o ∧ Duties P ops n w0 F0 K0 L0 F1 dl pl (i + 1) r
theorem duties_at {L0 : List (Nat × Value)} {dl : List Nat} {pl : List PM} {l : List Oper} : ∀ {k i : Nat} {o : Oper}, Duties P ops n w0 F0 K0 L0 F1 dl pl k l → l[i]? = some o → Duty P ops n w0 F0 K0 L0 F1 dl pl (k + i) o := by
  induction l with
  | nil => intro k i o _ e; rw [List.getElem?_nil] at e; cases e
  | cons x r ih =>
    intro k i o h e
    cases i with
    | zero =>
      rw [List.getElem?_cons_zero] at e
      obtain rfl := Option.some.inj e
      exact h.1
    | succ i =>
      rw [List.getElem?_cons_succ] at e
      have := ih (i := i) h.2 e
      rwa [Nat.add_assoc, Nat.add_comm 1 i] at this
/-- The region's form: no guards that are asked here; each operation waits for earlier ones alone, and fills a slot of its own. -/
def factsB (L0 : List (Nat × Value)) (dl : List Nat) (l : List Oper) : Bool :=
  decide (l.map (·.dst) = dl.map some) && decide dl.Nodup && L0.all (fun p => !dl.contains p.1) &&
    ((List.range l.length).all fun i => match l[i]? with | some o => o.after.toList.all fun e => Nat.blt e.on i | none => true)
def Know (n : Sz) (w0 : World) (F0 : Heap) (K0 : List Nat) (L0 : List (Nat × Value)) (F1 : Heap) (dl : List Nat) (pl : List PM) (listed : Array Bool) (a : Act) (w : World) : Prop :=
  ∃ L F, (∀ b o, F1 b = some o → F b = some o) ∧ (∀ t v, look L0 t = some v → look L t = some v) ∧ St n L w0 F0 K0 F [] a w ∧ ∀ i, listed.getD i false = true → FactAt dl pl L F i
theorem count_set {l : Array Bool} {i : Nat} (h : l.getD i true = false) : (l.setIfInBounds i true).toList.count false + 1 = l.toList.count false := by
  have hi : i < l.size := by
    rw [Array.getD_eq_getD_getElem?] at h
    cases hx : l[i]? with
    | none => rw [hx] at h; cases h
    | some b => exact (Array.getElem?_eq_some_iff.1 hx).1
  have hv : l.toList[i]'(by simpa using hi) = false := by
    rw [Array.getD_eq_getD_getElem?, Array.getElem?_eq_getElem hi] at h
    simpa using h
  rw [Array.toList_setIfInBounds, List.count_set (by simpa using hi), hv]
  have : 0 < l.toList.count false := List.count_pos_iff.2 (by rw [← hv]; exact List.getElem_mem _)
  simp only [beq_self_eq_true, if_true, Bool.true_eq_false, beq_iff_eq, if_false]
  omega
theorem wpAny_facts {l : List Oper} {L0 : List (Nat × Value)} {dl : List Nat} {pl : List PM} (hB : factsB L0 dl l = true) (hD : Duties P l.toArray n w0 F0 K0 L0 F1 dl pl 0 l)
    (hend : ∀ L F a w, (∀ b o, F1 b = some o → F b = some o) → (∀ t v, look L0 t = some v → look L t = some v) → St n L w0 F0 K0 F [] a w → (∀ i, i < l.length → FactAt dl pl L F i) → Q .normal a w) :
    ∀ (fuel : Nat) (listed : Array Bool) (a : Act) (w : World), listed.size = l.length → listed.toList.count false = fuel → Know n w0 F0 K0 L0 F1 dl pl listed a w → wpAny P .any l.toArray (Qn Q) fuel listed a w := by
  simp only [factsB, Bool.and_eq_true, decide_eq_true_eq] at hB
  obtain ⟨⟨⟨hdst, hnd⟩, hL0⟩, hac⟩ := hB
  have hlen : l.length = dl.length := by have := congrArg List.length hdst; simpa using this
  have hd : ∀ i o, l[i]? = some o → o.dst = some (dl.getD i 0) := fun i o ho => by
    have h1 := congrArg (fun x => x[i]?) hdst
    simp only [List.getElem?_map, ho, Option.map_some] at h1
    have hi : i < dl.length := by rw [← hlen]; exact (List.getElem?_eq_some_iff.1 ho).1
    rw [List.getElem?_eq_getElem hi, Option.map_some] at h1
    rw [List.getD_eq_getElem?_getD, List.getElem?_eq_getElem hi]
    exact Option.some.inj h1
  have hall : ∀ listed : Array Bool, listed.size = l.length → Region.ready .any l.toArray listed = [] → ∀ i, i < l.length → listed.getD i false = true := fun listed hsz hr => by
    intro i
    induction i using Nat.strongRecOn with
    | _ i ih =>
    intro hi
    cases hx : listed.getD i false with
    | true => rfl
    | false =>
      exfalso
      have hmem : i ∈ Region.ready .any l.toArray listed := by
        refine mem_ready.2 ⟨?_, l[i], by simp [hi], fun e he _ => ?_⟩
        · rw [Array.getD_eq_getD_getElem?, Array.getElem?_eq_getElem (by omega)] at hx ⊢; exact hx
        · have h9 := List.all_eq_true.1 hac i (List.mem_range.2 hi)
          rw [List.getElem?_eq_getElem hi] at h9
          have h10 := List.all_eq_true.1 h9 e (by simpa using he)
          rw [Nat.blt_eq] at h10
          exact ih e.on h10 (by omega)
      rw [hr] at hmem; cases hmem
  have hfin : ∀ (listed : Array Bool) (a : Act) (w : World), listed.size = l.length → Know n w0 F0 K0 L0 F1 dl pl listed a w → Region.ready .any l.toArray listed = [] → Q .normal a w := fun listed a w hsz ⟨L, F, h1, h2, h3, h4⟩ hr =>
    hend L F a w h1 h2 h3 fun i hi => h4 i (hall listed hsz hr i hi)
  intro fuel
  induction fuel with
  | zero =>
    intro listed a w hsz hc hk
    have hr : Region.ready .any l.toArray listed = [] := by
      rw [List.eq_nil_iff_forall_not_mem]
      intro i hi
      have h1 := (mem_ready.1 hi).1
      have := count_set h1
      omega
    exact ⟨hr, hfin listed a w hsz hk hr⟩
  | succ fuel ih =>
    intro listed a w hsz hc hk
    refine ⟨hfin listed a w hsz hk, fun i hi => ?_⟩
    obtain ⟨hun, o, ho, hdeps⟩ := mem_ready.1 hi
    have ho' : l[i]? = some o := by simpa using ho
    have hdo := hd i o ho'
    obtain ⟨L, F, h1, h2, S, h4⟩ := hk
    have hduty := duties_at hD ho'
    rw [Nat.zero_add] at hduty
    have hst := hduty L F a w h1 h2 S (depF_of fun e he hb => h4 _ (hdeps e (by simpa using he) hb))
    have hst2 := stepM_put ho (fun a' w' ⟨v, F', _, S', _⟩ => S'.fr.df.trans S.fr.df.symm) hst
    refine wpOp_stepM hst2 fun a' w' ⟨⟨u, hu⟩, v, F', hF', S', hp⟩ => ih _ a' w' (by simpa using hsz) (by have := count_set hun; omega) ?_
    have hdn : dl.getD i 0 < n.sz := by
      have h9 := S'.fr.get (dl.getD i 0) v (by simp [look_cons])
      have := (Array.getElem?_eq_some_iff.1 h9).1
      rw [S'.fr.size] at this; exact this
    have huv : u = v := by
      have h9 := S'.fr.get (dl.getD i 0) v (by simp [look_cons])
      have hda : dl.getD i 0 < a.tmps.size := by rw [S.fr.size]; exact hdn
      rw [hu, hdo] at h9
      simp only [Act.put, Array.getElem?_setIfInBounds, if_true, hda] at h9
      exact Option.some.inj h9
    subst huv
    have hi2 : i < dl.length := by rw [← hlen]; exact (List.getElem?_eq_some_iff.1 ho').1
    have hdi : dl.getD i 0 ∈ dl := by rw [List.getD_eq_getElem?_getD, List.getElem?_eq_getElem hi2]; exact List.getElem_mem _
    refine ⟨(dl.getD i 0, u) :: L, F', fun b o h => hF' _ _ (h1 _ _ h), fun t v ht => ?_, ⟨by rw [hu, hdo]; exact S.fr.put u (by rw [Nat.blt_eq]; exact hdn), S'.tr⟩, fun j hj => ?_⟩
    · rw [look_cons, if_neg]
      · exact h2 t v ht
      · intro e
        have := List.all_eq_true.1 hL0 _ (look_mem ht)
        rw [Bool.not_eq_true', ← e, List.contains_eq_mem, decide_eq_false_iff_not] at this
        exact this hdi
    · by_cases hji : j = i
      · subst hji; exact ⟨u, by rw [look_cons, if_pos rfl], hp⟩
      · have hj' : listed.getD j false = true := by rw [getD_set_ne' (Ne.symm hji)] at hj; exact hj
        obtain ⟨v2, e2, hp2⟩ := h4 j hj'
        have hj2 : j < dl.length := by
          rw [← hlen, ← hsz]
          rw [Array.getD_eq_getD_getElem?] at hj'
          cases hx : listed[j]? with
          | none => rw [hx] at hj'; cases hj'
          | some b => exact (Array.getElem?_eq_some_iff.1 hx).1
        refine ⟨v2, ?_, (pl.getD j default).mono _ _ _ hF' hp2⟩
        rw [look_cons, if_neg]
        · exact e2
        · intro e
          rw [List.getD_eq_getElem?_getD, List.getD_eq_getElem?_getD, List.getElem?_eq_getElem hi2, List.getElem?_eq_getElem hj2, Option.getD_some, Option.getD_some] at e
          have h8 := List.pairwise_iff_getElem.1 hnd
          rcases Nat.lt_or_gt_of_ne hji with h7 | h7
          · exact h8 j i hj2 hi2 h7 e.symm
          · exact h8 i j hi2 hj2 h7 e
/-- Behind such a region all is known. -/
theorem wpc_facts {id : Nat} {l : List Oper} {L0 : List (Nat × Value)} (dl : List Nat) (pl : List PM) (S : St n L0 w0 F0 K0 F1 [] a w) (hm : P.follows .mixedOrders = true) (hB : factsB L0 dl l = true)
    (hD : Duties P l.toArray n w0 F0 K0 L0 F1 dl pl 0 l)
    (hend : ∀ L F a w, (∀ b o, F1 b = some o → F b = some o) → (∀ t v, look L0 t = some v → look L t = some v) → St n L w0 F0 K0 F [] a w → (∀ i, i < l.length → FactAt dl pl L F i) → Q .normal a w) : (Code.region id l.toArray true).wp P Q a w := by
  refine wp_mono (Q := Qn Q) (wp_region_any hm (wpAny_facts hB hD hend _ _ _ _ (by simp) ?_ ⟨L0, F1, fun _ _ h => h, fun _ _ h => h, ⟨S.fr, S.tr.drew⟩, fun i hi => ?_⟩)) fun e a w h => ?_
  · rw [List.size_toArray, Array.toList_replicate, List.count_replicate_self]
  · rw [getD_replicate_false] at hi; cases hi
  · cases e <;> first | exact h | exact h.elim
end
section
variable {P : Program} {ops : Array Oper} {Q : Exit → Act → World → Prop} {n : Sz} {L : List (Nat × Value)} {w0 : World} {F0 : Heap} {K0 : List Nat} {F : Heap} {G : List Grp} {a : Act} {w : World} {rest : List Oper} {o : Oper}
end
end Go.Wk
namespace Go.Proofs.YtigblodhdfnleaaGreatDoor
open Go Go.Wk Go.Un Go.De
set_option linter.unusedSimpArgs false
set_option linter.unusedVariables false

def pRec {α : Type} (n : Nat) (R : Heap → α → List Value → Prop) [hR : Mon R] (x : α) : PM := ⟨fun v F => ∃ cs, v = .agg ⟨cs⟩ ∧ cs.length = n ∧ R F x cs, fun v F F' h ⟨cs, e, hn, hr⟩ => ⟨cs, e, hn, hR.h h hr⟩⟩
def pLim {α : Type} (sz : Nat) (R : Heap → α → List Value → Prop) [hR : Mon R] (l : List α) : PM := ⟨fun v F => LiM F sz R v l, fun v F F' h hv => hv.mono h⟩
def pTrs {α : Type} (sz : Nat) (R : Heap → α → List Value → Prop) [hR : Mon R] (l : Rose α) : PM := ⟨fun v F => TrS F sz R v l, fun v F F' h hv => hv.mono h⟩
section
variable {P : Program} {ops : Array Oper} {n : Sz} {w0 : World} {F0 F1 : Heap} {K0 : List Nat} {L0 : List (Nat × Value)} {dl : List Nat} {pl : List PM} {i : Nat} {o : Oper} {d sz by_ : Nat} {z : Value}
theorem look_top {L : List (Nat × Value)} {v : Value} : Wk.look ((d, v) :: L) d = some v := by unfold Wk.look; simp
/-- A record that is read. -/
theorem dy_load {t b : Nat} {ty : TypeId} {cs : List Value} {α : Type} {R : Heap → α → List Value → Prop} [hM : Mon R] {x : α} [Ag P ty] [Inf P ty z sz by_] (hc : Cels F1 b 0 cs) (hR : R F1 x cs) (hi : ops[i]? = some o := by rfl) (hg : o.guard = none := by rfl) (hd : o.dst = some d := by rfl) (hn : Nat.blt d n.sz = true := by rfl)
    (ho : o.op = .load ty (.tmp t) := by rfl) (hl : Wk.look L0 t = some (ptr b) := by rfl) (hd2 : dl.getD i 0 = d := by rfl) (hp : pl.getD i default = pRec sz R x := by rfl) (hs : cs.length = sz := by rfl) : Duty P ops n w0 F0 K0 L0 F1 dl pl i o := by
  intro L F a w hF hL S _
  refine stepM_of hi ?_
  refine wpl_v S hg hd hn (sv_loadAF S ho (hL t _ hl) (Cels.mono hF hc) hs) fun a' S3 => ?_
  refine wpList_nil ⟨.agg ⟨cs⟩, F, fun _ _ h => h, S3.keep ?_, ?_⟩
  · rw [hd2]; exact ⟨look_top, trivial⟩
  · rw [hp]; exact ⟨cs, rfl, hs, hM.h hF hR⟩
theorem depF_at {L : List (Nat × Value)} {F : Heap} {j : Nat} : ∀ {es : List Edge}, DepF dl pl L F es → (es.any fun e => Nat.beq e.on j && Region.binds .any e) = true → FactAt dl pl L F j
  | [], _, h => by cases h
  | e :: r, hd, h => by
    rw [List.any_cons, Bool.or_eq_true, Bool.and_eq_true] at h
    rcases h with ⟨h1, h2⟩ | h
    · have := hd.1 h2
      rwa [Nat.eq_of_beq_eq_true h1] at this
    · exact depF_at hd.2 h
/-- A slice of 1 trees that is made. -/
theorem dy_sl1 {ty e : TypeId} {parts : Array (Nat × Operand)} {α : Type} {R : Heap → α → List Value → Prop} [hM : Mon R] {x1 : α × Rose α} [Und P ty (.slice e)] [Inf P e z sz by_] (j1 : Nat) (hi : ops[i]? = some o := by rfl) (hg : o.guard = none := by rfl) (hd : o.dst = some d := by rfl) (hn : Nat.blt d n.sz = true := by rfl)
    (ho : o.op = .buildSlice ty 1 parts := by rfl) (hq : unidx 0 parts.toList = some [.tmp (dl.getD j1 0)] := by rfl) (h1 : (o.after.toList.any fun e => Nat.beq e.on j1 && Region.binds .any e) = true := by rfl) (f1 : pl.getD j1 default = pRec sz (RoR sz R) x1 := by rfl) (hz : z.cells.toList.length = sz := by rfl) (hb : Nat.ble (1 * sz) 16777216 = true := by rfl) (hsz : Nat.blt 0 sz = true := by rfl) (hd2 : dl.getD i 0 = d := by rfl) (hp : pl.getD i default = pTrs sz R (.cons x1.1 x1.2 .nil) := by rfl) : Duty P ops n w0 F0 K0 L0 F1 dl pl i o := by
  intro L F a w hF hL S hdep
  refine stepM_of hi ?_
  obtain ⟨v1, e1, p1⟩ := depF_at hdep h1
  rw [f1] at p1
  obtain ⟨c1, rfl, hn1, hR1⟩ := p1
  refine wpl_buildSlice S hg hd hn ho hq (vs := [.agg ⟨c1⟩]) (by simp only [evs, ev, e1]) hz (by simp only [List.mem_cons, List.not_mem_nil, or_false, forall_eq_or_imp, forall_eq, Value.cells]; exact hn1) rfl hb hsz fun b a' w' hown S => ?_
  simp only [Value.cells, List.flatMap_cons, List.flatMap_nil, List.append_nil] at S
  obtain ⟨F', hle, hbl, S⟩ := frz1 S
  refine wpList_nil ⟨.slice (some ⟨b, 0, none⟩) 1 1, F', hle, S.keep ⟨by rw [hd2]; exact look_top, trivial⟩, ?_⟩
  rw [hp]
  exact trs_lim (lim_of (l := ([x1] : List (α × Rose α))) hbl (LiC.one hn1 (Mon.h hle hR1)) (show 1 ≤ _ by decide))
/-- A slice of 2 trees that is made. -/
theorem dy_sl2 {ty e : TypeId} {parts : Array (Nat × Operand)} {α : Type} {R : Heap → α → List Value → Prop} [hM : Mon R] {x1 x2 : α × Rose α} [Und P ty (.slice e)] [Inf P e z sz by_] (j1 j2 : Nat) (hi : ops[i]? = some o := by rfl) (hg : o.guard = none := by rfl) (hd : o.dst = some d := by rfl) (hn : Nat.blt d n.sz = true := by rfl)
    (ho : o.op = .buildSlice ty 2 parts := by rfl) (hq : unidx 0 parts.toList = some [.tmp (dl.getD j1 0), .tmp (dl.getD j2 0)] := by rfl) (h1 : (o.after.toList.any fun e => Nat.beq e.on j1 && Region.binds .any e) = true := by rfl) (h2 : (o.after.toList.any fun e => Nat.beq e.on j2 && Region.binds .any e) = true := by rfl) (f1 : pl.getD j1 default = pRec sz (RoR sz R) x1 := by rfl) (f2 : pl.getD j2 default = pRec sz (RoR sz R) x2 := by rfl) (hz : z.cells.toList.length = sz := by rfl) (hb : Nat.ble (2 * sz) 16777216 = true := by rfl) (hsz : Nat.blt 0 sz = true := by rfl) (hd2 : dl.getD i 0 = d := by rfl) (hp : pl.getD i default = pTrs sz R (.cons x1.1 x1.2 (.cons x2.1 x2.2 .nil)) := by rfl) : Duty P ops n w0 F0 K0 L0 F1 dl pl i o := by
  intro L F a w hF hL S hdep
  refine stepM_of hi ?_
  obtain ⟨v1, e1, p1⟩ := depF_at hdep h1
  rw [f1] at p1
  obtain ⟨c1, rfl, hn1, hR1⟩ := p1
  obtain ⟨v2, e2, p2⟩ := depF_at hdep h2
  rw [f2] at p2
  obtain ⟨c2, rfl, hn2, hR2⟩ := p2
  refine wpl_buildSlice S hg hd hn ho hq (vs := [.agg ⟨c1⟩, .agg ⟨c2⟩]) (by simp only [evs, ev, e1, e2]) hz (by simp only [List.mem_cons, List.not_mem_nil, or_false, forall_eq_or_imp, forall_eq, Value.cells]; exact ⟨hn1, hn2⟩) rfl hb hsz fun b a' w' hown S => ?_
  simp only [Value.cells, List.flatMap_cons, List.flatMap_nil, List.append_nil] at S
  obtain ⟨F', hle, hbl, S⟩ := frz1 S
  refine wpList_nil ⟨.slice (some ⟨b, 0, none⟩) 2 2, F', hle, S.keep ⟨by rw [hd2]; exact look_top, trivial⟩, ?_⟩
  rw [hp]
  exact trs_lim (lim_of (l := ([x1, x2] : List (α × Rose α))) hbl (LiC.app (l := [x1]) (LiC.one hn1 (Mon.h hle hR1)) (LiC.one hn2 (Mon.h hle hR2))) (show 2 ≤ _ by decide))
/-- A slice of 3 trees that is made. -/
theorem dy_sl3 {ty e : TypeId} {parts : Array (Nat × Operand)} {α : Type} {R : Heap → α → List Value → Prop} [hM : Mon R] {x1 x2 x3 : α × Rose α} [Und P ty (.slice e)] [Inf P e z sz by_] (j1 j2 j3 : Nat) (hi : ops[i]? = some o := by rfl) (hg : o.guard = none := by rfl) (hd : o.dst = some d := by rfl) (hn : Nat.blt d n.sz = true := by rfl)
    (ho : o.op = .buildSlice ty 3 parts := by rfl) (hq : unidx 0 parts.toList = some [.tmp (dl.getD j1 0), .tmp (dl.getD j2 0), .tmp (dl.getD j3 0)] := by rfl) (h1 : (o.after.toList.any fun e => Nat.beq e.on j1 && Region.binds .any e) = true := by rfl) (h2 : (o.after.toList.any fun e => Nat.beq e.on j2 && Region.binds .any e) = true := by rfl) (h3 : (o.after.toList.any fun e => Nat.beq e.on j3 && Region.binds .any e) = true := by rfl) (f1 : pl.getD j1 default = pRec sz (RoR sz R) x1 := by rfl) (f2 : pl.getD j2 default = pRec sz (RoR sz R) x2 := by rfl) (f3 : pl.getD j3 default = pRec sz (RoR sz R) x3 := by rfl) (hz : z.cells.toList.length = sz := by rfl) (hb : Nat.ble (3 * sz) 16777216 = true := by rfl) (hsz : Nat.blt 0 sz = true := by rfl) (hd2 : dl.getD i 0 = d := by rfl) (hp : pl.getD i default = pTrs sz R (.cons x1.1 x1.2 (.cons x2.1 x2.2 (.cons x3.1 x3.2 .nil))) := by rfl) : Duty P ops n w0 F0 K0 L0 F1 dl pl i o := by
  intro L F a w hF hL S hdep
  refine stepM_of hi ?_
  obtain ⟨v1, e1, p1⟩ := depF_at hdep h1
  rw [f1] at p1
  obtain ⟨c1, rfl, hn1, hR1⟩ := p1
  obtain ⟨v2, e2, p2⟩ := depF_at hdep h2
  rw [f2] at p2
  obtain ⟨c2, rfl, hn2, hR2⟩ := p2
  obtain ⟨v3, e3, p3⟩ := depF_at hdep h3
  rw [f3] at p3
  obtain ⟨c3, rfl, hn3, hR3⟩ := p3
  refine wpl_buildSlice S hg hd hn ho hq (vs := [.agg ⟨c1⟩, .agg ⟨c2⟩, .agg ⟨c3⟩]) (by simp only [evs, ev, e1, e2, e3]) hz (by simp only [List.mem_cons, List.not_mem_nil, or_false, forall_eq_or_imp, forall_eq, Value.cells]; exact ⟨hn1, hn2, hn3⟩) rfl hb hsz fun b a' w' hown S => ?_
  simp only [Value.cells, List.flatMap_cons, List.flatMap_nil, List.append_nil] at S
  obtain ⟨F', hle, hbl, S⟩ := frz1 S
  refine wpList_nil ⟨.slice (some ⟨b, 0, none⟩) 3 3, F', hle, S.keep ⟨by rw [hd2]; exact look_top, trivial⟩, ?_⟩
  rw [hp]
  exact trs_lim (lim_of (l := ([x1, x2, x3] : List (α × Rose α))) hbl (LiC.app (l := [x1]) (LiC.one hn1 (Mon.h hle hR1)) (LiC.app (l := [x2]) (LiC.one hn2 (Mon.h hle hR2)) (LiC.one hn3 (Mon.h hle hR3)))) (show 3 ≤ _ by decide))
end
end Go.Proofs.YtigblodhdfnleaaGreatDoor
