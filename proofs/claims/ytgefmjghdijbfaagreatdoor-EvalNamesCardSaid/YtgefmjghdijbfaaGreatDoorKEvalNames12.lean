/- Walks. -/
import Derived.Test.YtgefmjghdijbfaaGreatDoorKEvalNames11
import Derived.Test.YtgefmjghdijbfaaGreatDoorKEvalNames10
import Derived.Test.YtgefmjghdijbfaaGreatDoorQ26
import Derived.Test.YtgefmjghdijbfaaGreatDoorQ19
import Derived.Test.YtgefmjghdijbfaaGreatDoorQ17
import Derived.Test.YtgefmjghdijbfaaGreatDoorQ16
import Derived.Test.YtgefmjghdijbfaaGreatDoorQ15
import Derived.Test.YtgefmjghdijbfaaGreatDoorQ11
import Derived.Test.YtgefmjghdijbfaaGreatDoorQ09
import Derived.Test.YtgefmjghdijbfaaGreatDoorQ06
import Derived.Test.YtgefmjghdijbfaaGreatDoorQ05
import Derived.Test.YtgefmjghdijbfaaGreatDoorKEvalNames01
import Derived.Test.YtgefmjghdijbfaaGreatDoorKEvalNamesTy
import Derived.Test.YtgefmjghdijbfaaGreatDoorQ10
import Derived.Test.YtgefmjghdijbfaaGreatDoorQShelf
import Derived.Test.YtgefmjghdijbfaaGreatDoorKEvalNames09
set_option maxHeartbeats 64000000
set_option maxRecDepth 20000
namespace Go.Proofs.YtgefmjghdijbfaaGreatDoor
open Go Go.Wk Go.Un Go.De Go.Num
set_option linter.unusedSimpArgs false
set_option linter.unusedVariables false
attribute [local irreducible] Go.wpList Go.Code.wp Go.wpStill Go.Wk.wpPre Go.bodyPost Go.Calls Go.Wk.Ct Go.Wk.OwnS Go.Wk.wpG Go.Wk.wpM
def enCss : List KC := consOf [enTD]
theorem en_take : takeE ⟨[], [enTD], [], [], []⟩ = 0 := by kernel_rfl
theorem en_msz : MSz ⟨[], [enTD], [], [], []⟩ := by
 refine ⟨fun x hx => ?_, fun x hx => (by cases hx), by decide, by decide⟩
 rw [List.mem_singleton.1 hx]
 refine ⟨by decide, by decide, fun c hc => ?_⟩
 rw [show c = enCD from List.mem_singleton.1 hc]
 refine ⟨fun f hf => ?_, by decide⟩
 have : f = FD.mk [120] [105, 110, 116] .nil ∨ f = FD.mk [] [105, 110, 116] .nil := by simpa [enCD, enFs] using hf
 rcases this with rfl | rfl <;> exact Nat.zero_le _
theorem en_ksz : KSz (consOf [enTD]) := fun c hc => by
 have : c = ⟨enPC, [112], [], 0, enFs⟩ := List.mem_singleton.1 hc
 subst this
 exact ⟨by decide, by decide, fun x hx => by
  have : x = FD.mk [120] [105, 110, 116] .nil ∨ x = FD.mk [] [105, 110, 116] .nil := by simpa [enFs] using hx
  rcases this with rfl | rfl <;> exact ⟨by decide, trivial⟩⟩
theorem enConsCt {F : Heap} {tb m1 m2 m3 : Nat} (K : EnW F tb m1 m2 m3) (F' : Heap) (nm : List UInt8) (hF : ∀ b o, F b = some o → F' b = some o) : Ct Tryz.prog 126 [.pointer (some ⟨tb, 0, none⟩), .string (bs nm)] F' [] (fun F2 _ u => ConsR F2 u (findC enCss nm)) := by
 refine (consMCt F' tb m1 m2 m3 _ _ _ (K.B.mono hF) en_ksz nm).mono fun F2 G' u ⟨x, a1, n1, c1, a4, c4, e, h1, h2, h3⟩ => ?_
 subst e
 refine ⟨_, _, _, _, _, _, _, _, rfl, fun y hy => ?_⟩
 rcases h1 with h1 | ⟨h1, -⟩
 ·rw [show findC enCss nm = some x from h1] at hy; cases hy; exact h3
 ·rw [show findC enCss nm = none from h1] at hy; cases hy
theorem enEvT (F : Heap) {tb m1 m2 m3 : Nat} (K : EnW F tb m1 m2 m3) (x : Ex) (cs : List Value) (hX : ReR F x cs) (hg : GE x.1 x.2) (vs : List Bd) (vv : Value) (hvs : LiM F 5 BdR vv vs) (hGB : GVB vs) {A : Ans} (hA : evalO enCss vs x.1 x.2 = A) : Ct Tryz.prog 8 [.pointer (some ⟨tb, 0, none⟩), .agg ⟨cs⟩, vv] F [] (fun F' _ u => AnsR F' u A) := by
 subst hA
 exact evalCt F K.T K.E (some ⟨tb, 0, none⟩) enCss (fun F' nm hF => enConsCt K F' nm hF) vs vv hvs hGB x.1 x.2 cs (ror_exc hX) hg
def enC : Ex := kX 5 enPC (roseOf [nX 1, nX 2])
def enFd (s : List UInt8) : Ex := kX 7 s (roseOf [enC])
def enMk : Ex := kX 5 enPC (roseOf [nX 1])
def enFx : Ex := kX 7 [120] (roseOf [vX [88]])
theorem enC_ge : GE enC.1 enC.2 := geB_ok (by kernel_rfl)
theorem enA1 : evalO enCss [] enC.1 enC.2 = yesA (⟨6, 0, enPC⟩, roseOf [intV 1, intV 2]) := by kernel_rfl
theorem enA2 : evalO enCss [] (enFd [120]).1 (enFd [120]).2 = yesA (intV 1) := by kernel_rfl
theorem enA3 : evalO enCss [] (enFd [121]).1 (enFd [121]).2 = noA 70 := by kernel_rfl
theorem enA4 : evalO enCss [] (enFd []).1 (enFd []).2 = noA 70 := by kernel_rfl
theorem enA5 : evalO enCss [] enMk.1 enMk.2 = noA 70 := by kernel_rfl
theorem enA6 : evalO enCss [([88], (⟨6, 0, enPC⟩, .nil))] enFx.1 enFx.2 = noA 70 := by kernel_rfl
theorem en_tk {F : Heap} {b c : Nat} (h : TrS F 9 EhR (.slice (some ⟨b, 0, none⟩) 2 c) (roseOf [nX 1, nX 2])) : TrS F 9 EhR (.slice (some ⟨b, 0, none⟩) 1 c) (roseOf [nX 1]) := by
 obtain ⟨ao, cap, e, ⟨h1, h2⟩, h3⟩ := h
 have hc : c = cap := by cases e; rfl
 subst hc
 obtain rfl : ao = some ⟨b, 0, none⟩ := by cases e; rfl
 clear e
 obtain ⟨b', o', e2, h4, -⟩ := h3 (by decide)
 exact ⟨_, _, rfl, ⟨Nat.le_trans (show 1 ≤ 2 by decide) h1, show 1 ≤ 140737488355328 by decide⟩, fun _ => ⟨b', o', e2, h4, trivial⟩⟩
theorem enRecordsCt (F : Heap) (K0 : EnK F) : Ct Tryz.prog 21 [] F [] (fun _ _ u => u = .bool true) := by
 refine Ct.enter Tryz.func21 rfl Tryz.ntmps21 rfl fun w0 a S => ?_
 (revert S a; refine go 9 ?_; intro Z hZ a S)
 (refine wpl_buildSlice S rfl rfl rfl rfl rfl rfl (by rfl) (by simp [Value.cells, splice]) rfl (by rfl) (by rfl) ?_; clear S a; intro b22 a w hown S; have S' := frz1 S; clear S; obtain ⟨F22, hF22, hb22, S⟩ := S'; have r22 : LiM F22 3 FdR (.slice (some ⟨b22, 0, none⟩) 2 2) enFs := lim_of (l := enFs) hb22 (LiC.app (l := [FD.mk [120] sInt .nil]) (LiC.one (sz := 3) rfl ⟨_, rfl, SlF.nil _⟩) (LiC.one (sz := 3) rfl ⟨_, rfl, SlF.nil _⟩)) (by decide); replace K0 := K0.mono hF22)
 (revert S a; refine go 1 ?_; intro a S)
 (refine wpl_buildSlice S rfl rfl rfl rfl rfl rfl (by rfl) (by simp [Value.cells, splice]) rfl (by rfl) (by rfl) ?_; clear S a; intro b24 a w hown S; have S' := frz1 S; clear S; obtain ⟨F24, hF24, hb24, S⟩ := S'; have r24 : LiM F24 2 CdR (.slice (some ⟨b24, 0, none⟩) 1 1) [enCD] := lim_of (l := [enCD]) hb24 (LiC.one (sz := 2) rfl ⟨_, rfl, r22.mono hF24⟩) (by decide); replace K0 := K0.mono hF24)
 (revert S a; refine go 1 ?_; intro a S)
 (refine wpl_buildSlice S rfl rfl rfl rfl rfl rfl (by rfl) (by simp [Value.cells, splice]) rfl (by rfl) (by rfl) ?_; clear S a; intro b26 a w hown S; have S' := frz1 S; clear S; obtain ⟨F26, hF26, hb26, S⟩ := S'; have r26 : LiM F26 6 TdR (.slice (some ⟨b26, 0, none⟩) 1 1) [enTD] := lim_of (l := [enTD]) hb26 (LiC.one (sz := 6) rfl ⟨_, _, rfl, LiM.nil _ _ _, r24.mono hF26⟩) (by decide); replace K0 := K0.mono hF26)
 (revert S a; refine go 1 ?_; intro a S)
 (refine wpl_alloc S rfl rfl rfl rfl ?_; clear S a; intro b1 a w S)
 (refine wso S rfl rfl ?_; clear S; intro w S)
 (revert S a; revert hZ Z; refine go 4 ?_; intro Z hZ a S)
 (refine wcF S (newCt F26 K0.M ⟨[], [enTD], [], [], []⟩ _ ⟨none, 0, 0, _, _, _, _, rfl, r26, LiM.nil _ _ _, LiM.nil _ _ _, LiM.nil _ _ _⟩ en_msz) ?_; clear S a; intro v30 F30 a w hv hF30 S; obtain ⟨tb, m1, m2, m3, rfl, hTb⟩ := hv.1 en_take; have K : EnW F30 tb m1 m2 m3 := ⟨K0.T.mono hF30, K0.E.mono hF30, hTb⟩; clear hTb hv)
 (revert S a; refine go 4 ?_; intro a S)
 (refine wpl_alloc S rfl rfl rfl rfl ?_; clear S a; intro b3 a w S)
 (revert S a; refine go 1 ?_; intro a S)
 (refine wso S rfl rfl ?_; clear S; intro w S)
 (revert S a; revert hZ Z; refine go 6 ?_; intro Z hZ Z hZ a S)
 (refine wv S (sv_lit (c := false) (sv_pure S rfl) (by rfl)) ?_; clear S a; intro a S)
 (revert S a; revert hZ Z; refine go 2 ?_; intro a S)
 refine wpc_false S rfl ?_
 (revert S a; revert hZ Z; refine go 3 ?_; intro Z hZ a S)
 (refine wcF S (lnumCt F30 _) ?_; clear S a; intro v36 F36 a w hv hF36 S; obtain ⟨c36, rfl, -, r36⟩ := hv; obtain ⟨xa36, xb36, he36, -, -⟩ := vac_slc (ror_vac r36); subst he36; replace K := K.mono hF36)
 (refine wcF S (llitCt F36 _ _ r36) ?_; clear S a; intro v37 F37 a w hv hF37 S; obtain ⟨c37, rfl, -, r37⟩ := hv; obtain ⟨xa37, xb37, xc37, xd37, xe37, he37, -, -⟩ := exc_slc (ror_exc r37); subst he37; replace K := K.mono hF37)
 (refine wcF S (lnumCt F37 _) ?_; clear S a; intro v38 F38 a w hv hF38 S; obtain ⟨c38, rfl, -, r38⟩ := hv; obtain ⟨xa38, xb38, he38, -, -⟩ := vac_slc (ror_vac r38); subst he38; replace K := K.mono hF38)
 (refine wcF S (llitCt F38 _ _ r38) ?_; clear S a; intro v39 F39 a w hv hF39 S; obtain ⟨c39, rfl, -, r39⟩ := hv; obtain ⟨xa39, xb39, xc39, xd39, xe39, he39, -, -⟩ := exc_slc (ror_exc r39); subst he39; replace K := K.mono hF39)
 (refine wpl_buildSlice S rfl rfl rfl rfl rfl rfl (by rfl) (by simp [Value.cells, splice]) rfl (by rfl) (by rfl) ?_; clear S a; intro b40 a w hown S; have S' := frz1 S; clear S; obtain ⟨F40, hF40, hb40, S⟩ := S'; have r40 := trs_lim (lim_of (l := ([(litX (intV 1)), (litX (intV 2))] : List Ex)) hb40 (LiC.app (l := ([(litX (intV 1))] : List Ex)) (LiC.one (sz := 9) rfl (Mon.h (fun b o h => hF40 _ _ (hF39 _ _ (hF38 _ _ h))) r37)) (LiC.one (sz := 9) rfl (Mon.h (fun b o h => hF40 _ _ h) r39))) (show 2 ≤ _ by decide)); replace K := K.mono hF40)
 (revert S a; refine go 1 ?_; intro a S)
 (refine wpl_alloc S rfl rfl rfl rfl ?_; clear S a; intro b5 a w S)
 (refine wso S rfl rfl ?_; clear S; intro w S)
 (revert S a; revert hZ Z; refine go 2 ?_; intro a S)
 (refine wp_seq_k ?_; intro Z hZ)
 (replace S := St.pullB b5 S; have S' := frz1 S; clear S; obtain ⟨E5, hE5, hb5, S⟩ := S'; replace K := K.mono hE5; have c5 := cels_of hb5; have R5 : ReR E5 enC _ := ⟨[_, _, _, _, _, _, _, _], _, rfl, rfl, ⟨_, rfl, TrS.nil _ _ _⟩, r40.mono hE5⟩)
 (revert S a; refine go 2 ?_; intro a S)
 (refine wv S (sv_loadAF S rfl rfl c5 rfl) ?_; clear S a; intro a S)
 (refine wcF S (enEvT E5 K enC _ R5 enC_ge [] _ (LiM.nil _ _ _) (fun z hz => by cases hz) enA1) ?_; clear S a; intro v45 F45 a w hv hF45 S; obtain ⟨c45, rfl, q45⟩ := hv; obtain ⟨xa45, xb45, he45, -, -⟩ := vac_slc q45; subst he45; replace K := K.mono hF45)
 (revert S a; refine go 3 ?_; intro a S)
 (refine wpl_alloc S rfl rfl rfl rfl ?_; clear S a; intro b6 a w S)
 (refine wso S rfl rfl ?_; clear S; intro w S)
 (revert S a; revert hZ Z; refine go 5 ?_; intro Z hZ a S)
 (refine wv S (sv_loadAF S rfl rfl (Cels.mono (fun b o h => hF45 _ _ h) c5) rfl) ?_; clear S a; intro a S)
 (refine wpl_buildSlice S rfl rfl rfl rfl rfl rfl (by rfl) (by simp [Value.cells, splice]) rfl (by rfl) (by rfl) ?_; clear S a; intro b51 a w hown S; have S' := frz1 S; clear S; obtain ⟨F51, hF51, hb51, S⟩ := S'; have r51 := trs_lim (lim_of (l := ([enC] : List Ex)) hb51 (LiC.one (sz := 9) rfl (Mon.h (fun b o h => hF51 _ _ (h)) (Mon.h (fun b o h => hF45 _ _ h) R5))) (show 1 ≤ _ by decide)); replace K := K.mono hF51)
 (revert S a; refine go 1 ?_; intro a S)
 (refine wcF S (enEvT F51 K (enFd [120]) _ ⟨[_, _, _, _, _, _, _, _], _, rfl, rfl, ⟨_, rfl, TrS.nil _ _ _⟩, r51⟩ (geB_ok (by kernel_rfl)) [] _ (LiM.nil _ _ _) (fun z hz => by cases hz) enA2) ?_; clear S a; intro v53 F53 a w hv hF53 S; obtain ⟨c53, rfl, q53⟩ := hv; obtain ⟨xa53, xb53, he53, -, -⟩ := vac_slc q53; subst he53; replace K := K.mono hF53)
 (revert S a; refine go 3 ?_; intro a S)
 (refine wpl_alloc S rfl rfl rfl rfl ?_; clear S a; intro b8 a w S)
 (refine wso S rfl rfl ?_; clear S; intro w S)
 (revert S a; revert hZ Z; refine go 5 ?_; intro Z hZ a S)
 (refine wv S (sv_loadAF S rfl rfl (Cels.mono (fun b o h => hF53 _ _ (hF51 _ _ (hF45 _ _ h))) c5) rfl) ?_; clear S a; intro a S)
 (refine wpl_buildSlice S rfl rfl rfl rfl rfl rfl (by rfl) (by simp [Value.cells, splice]) rfl (by rfl) (by rfl) ?_; clear S a; intro b59 a w hown S; have S' := frz1 S; clear S; obtain ⟨F59, hF59, hb59, S⟩ := S'; have r59 := trs_lim (lim_of (l := ([enC] : List Ex)) hb59 (LiC.one (sz := 9) rfl (Mon.h (fun b o h => hF59 _ _ (h)) (Mon.h (fun b o h => hF53 _ _ (hF51 _ _ (hF45 _ _ h))) R5))) (show 1 ≤ _ by decide)); replace K := K.mono hF59)
 (revert S a; refine go 1 ?_; intro a S)
 (refine wcF S (enEvT F59 K (enFd [121]) _ ⟨[_, _, _, _, _, _, _, _], _, rfl, rfl, ⟨_, rfl, TrS.nil _ _ _⟩, r59⟩ (geB_ok (by kernel_rfl)) [] _ (LiM.nil _ _ _) (fun z hz => by cases hz) enA3) ?_; clear S a; intro v61 F61 a w hv hF61 S; obtain ⟨c61, rfl, q61⟩ := hv; obtain ⟨xa61, xb61, he61, -, -⟩ := vac_slc q61; subst he61; replace K := K.mono hF61)
 (revert S a; refine go 3 ?_; intro a S)
 (refine wpl_alloc S rfl rfl rfl rfl ?_; clear S a; intro b10 a w S)
 (refine wso S rfl rfl ?_; clear S; intro w S)
 (revert S a; revert hZ Z; refine go 5 ?_; intro Z hZ a S)
 (refine wv S (sv_loadAF S rfl rfl (Cels.mono (fun b o h => hF61 _ _ (hF59 _ _ (hF53 _ _ (hF51 _ _ (hF45 _ _ h))))) c5) rfl) ?_; clear S a; intro a S)
 (refine wpl_buildSlice S rfl rfl rfl rfl rfl rfl (by rfl) (by simp [Value.cells, splice]) rfl (by rfl) (by rfl) ?_; clear S a; intro b67 a w hown S; have S' := frz1 S; clear S; obtain ⟨F67, hF67, hb67, S⟩ := S'; have r67 := trs_lim (lim_of (l := ([enC] : List Ex)) hb67 (LiC.one (sz := 9) rfl (Mon.h (fun b o h => hF67 _ _ (h)) (Mon.h (fun b o h => hF61 _ _ (hF59 _ _ (hF53 _ _ (hF51 _ _ (hF45 _ _ h))))) R5))) (show 1 ≤ _ by decide)); replace K := K.mono hF67)
 (revert S a; refine go 1 ?_; intro a S)
 (refine wcF S (enEvT F67 K (enFd []) _ ⟨[_, _, _, _, _, _, _, _], _, rfl, rfl, ⟨_, rfl, TrS.nil _ _ _⟩, r67⟩ (geB_ok (by kernel_rfl)) [] _ (LiM.nil _ _ _) (fun z hz => by cases hz) enA4) ?_; clear S a; intro v69 F69 a w hv hF69 S; obtain ⟨c69, rfl, q69⟩ := hv; obtain ⟨xa69, xb69, he69, -, -⟩ := vac_slc q69; subst he69; replace K := K.mono hF69)
 (revert S a; refine go 3 ?_; intro a S)
 (refine wpl_alloc S rfl rfl rfl rfl ?_; clear S a; intro b12 a w S)
 (refine wso S rfl rfl ?_; clear S; intro w S)
 (revert S a; revert hZ Z; refine go 6 ?_; intro Z hZ a S)
 (refine wv S (sv_loadF S rfl rfl ((Cels.mono (fun b o h => hF69 _ _ (hF67 _ _ (hF61 _ _ (hF59 _ _ (hF53 _ _ (hF51 _ _ (hF45 _ _ h))))))) c5) 8 _ rfl)) ?_; clear S a; intro a S)
 (refine wv S (sv_sliceSl_h S rfl rfl rfl (i := 1) (by decide)) ?_; clear S a; intro a S)
 (revert S a; refine go 1 ?_; intro a S)
 (refine wcF S (enEvT F69 K enMk _ ⟨[_, _, _, _, _, _, _, _], _, rfl, rfl, ⟨_, rfl, TrS.nil _ _ _⟩, en_tk (c := 2) (r40.mono (fun b o h => hF69 _ _ (hF67 _ _ (hF61 _ _ (hF59 _ _ (hF53 _ _ (hF51 _ _ (hF45 _ _ (hE5 _ _ h)))))))))⟩ (geB_ok (by kernel_rfl)) [] _ (LiM.nil _ _ _) (fun z hz => by cases hz) enA5) ?_; clear S a; intro v78 F78 a w hv hF78 S; obtain ⟨c78, rfl, q78⟩ := hv; obtain ⟨xa78, xb78, he78, -, -⟩ := vac_slc q78; subst he78; replace K := K.mono hF78)
 (revert S a; refine go 3 ?_; intro a S)
 (refine wpl_alloc S rfl rfl rfl rfl ?_; clear S a; intro b14 a w S)
 (refine wso S rfl rfl ?_; clear S; intro w S)
 (revert S a; revert hZ Z; refine go 6 ?_; intro Z hZ a S)
 (refine wpl_buildSlice S rfl rfl rfl rfl rfl rfl (by rfl) (by simp [Value.cells, splice]) rfl (by rfl) (by rfl) ?_; clear S a; intro b84 a w hown S; have S' := frz1 S; clear S; obtain ⟨F84, hF84, hb84, S⟩ := S'; have r84 := trs_lim (lim_of (l := ([vX [88]] : List Ex)) hb84 (LiC.one (sz := 9) rfl (vX_ror F84 [88])) (show 1 ≤ _ by decide)); replace K := K.mono hF84)
 (revert S a; refine go 3 ?_; intro a S)
 (refine wpl_buildSlice S rfl rfl rfl rfl rfl rfl (by rfl) (by simp [Value.cells, splice]) rfl (by rfl) (by rfl) ?_; clear S a; intro b88 a w hown S; have S' := frz1 S; clear S; obtain ⟨F88, hF88, hb88, S⟩ := S'; have r88 : LiM F88 5 BdR (.slice (some ⟨b88, 0, none⟩) 1 1) [([88], (⟨6, 0, enPC⟩, .nil))] := lim_of (l := ([([88], (⟨6, 0, enPC⟩, .nil))] : List Bd)) hb88 (LiC.one (sz := 5) rfl ⟨_, rfl, ror_vac (ror_leaf _ 6 0 enPC (by decide))⟩) (show 1 ≤ _ by decide); replace K := K.mono hF88)
 (refine wcF S (enEvT F88 K (enFx) _ ⟨[_, _, _, _, _, _, _, _], _, rfl, rfl, ⟨_, rfl, TrS.nil _ _ _⟩, r84.mono hF88⟩ (geB_ok (by kernel_rfl)) [([88], (⟨6, 0, enPC⟩, .nil))] _ r88 (fun z hz => by rw [List.mem_singleton.1 hz]; exact gvB_ok rfl) enA6) ?_; clear S a; intro v89 F89 a w hv hF89 S; obtain ⟨c89, rfl, q89⟩ := hv; obtain ⟨xa89, xb89, he89, -, -⟩ := vac_slc q89; subst he89; replace K := K.mono hF89)
 (revert S a; refine go 3 ?_; intro a S)
 (refine wpl_alloc S rfl rfl rfl rfl ?_; clear S a; intro b16 a w S)
 (refine wso S rfl rfl ?_; clear S; intro w S)
 (revert S a; revert hZ Z; refine go 3 ?_; intro a S)
 (refine wp_seq_k ?_; intro Z hZ)
 (replace S := St.pullB b6 S; have S' := frz1 S; clear S; obtain ⟨E6, hE6, hb6, S⟩ := S'; replace K := K.mono hE6; replace S := St.pullB b8 S; have S' := frz1 S; clear S; obtain ⟨E8, hE8, hb8, S⟩ := S'; replace K := K.mono hE8; have g6 : Cels E6 b6 0 [.int .u8 6, .int .i64 0, .string (bs enPC), .slice xa45 2 xb45] := cels_of hb6; replace g6 := Cels.mono hE8 g6; have g8 : Cels E8 b8 0 [.int .u8 2, .int .i64 1, .string (bs []), .slice xa53 0 xb53] := cels_of hb8; have V6 := ror_vac (Mon.h (fun b o h => hE8 _ _ (hE6 _ _ (hF89 _ _ (hF88 _ _ (hF84 _ _ (hF78 _ _ (hF69 _ _ (hF67 _ _ (hF61 _ _ (hF59 _ _ (hF53 _ _ (hF51 _ _ h)))))))))))) (vac_ror q45)); have V8 := ror_vac (Mon.h (fun b o h => hE8 _ _ (hE6 _ _ (hF89 _ _ (hF88 _ _ (hF84 _ _ (hF78 _ _ (hF69 _ _ (hF67 _ _ (hF61 _ _ (hF59 _ _ h)))))))))) (vac_ror q53)))
 (refine wpc_mixM [0, 1, 2, 3, 7, 9, 10, 11, 12, 13, 14, 15, 18, 19, 20, 21, 22, 23, 24, 25, 26, 27, 28, 29, 30, 31, 32, 33, 34] [3, 15] [] (.one 0 (.one 1 (.one 2 (.one 3 (.one 4 (.one 5 (.one 6 (.one 7 (.one 8 (.one 9 (.one 10 (.one 11 (.one 12 (.one 13 (.one 14 (.one 15 (.one 16 (.one 17 (.one 18 (.one 19 (.one 20 (.one 21 (.one 22 (.one 23 (.one 24 (.one 25 (.one 26 (.one 27 (.one 28 (.one 29 (.one 30 (.one 31 (.one 32 (.one 33 (.one 34 (.one 35 .nil)))))))))))))))))))))))))))))))))))) [] S mixed (by kernel_rfl) ?_; clear S; intro w S)
 (revert S a; refine go 1 ?_; intro a S)
 iterate 2 (refine wpm_v S rfl rfl rfl (want_none _ rfl) rfl rfl (fun w' S => sv_lit (c := true) (sv_pure S rfl) (by rfl)) ?_; clear S a; intro a S)
 (refine wlF S rfl (fun w' S => sv_loadAF S rfl rfl g6 rfl) ?_; clear S a; intro a S)
 (revert S a; refine go 2 ?_; intro a S)
 (refine wcF S (lnumCt E8 _) ?_; clear S a; intro v96 F96 a w hv hF96 S; obtain ⟨c96, rfl, -, r96⟩ := hv; obtain ⟨xa96, xb96, he96, -, -⟩ := vac_slc (ror_vac r96); subst he96; replace K := K.mono hF96; replace V6 := ror_vac (Mon.h hF96 (vac_ror V6)); replace V8 := ror_vac (Mon.h hF96 (vac_ror V8)))
 (revert S a; refine go 3 ?_; intro a S)
 (refine wcF S (lnumCt F96 _) ?_; clear S a; intro v97 F97 a w hv hF97 S; obtain ⟨c97, rfl, -, r97⟩ := hv; obtain ⟨xa97, xb97, he97, -, -⟩ := vac_slc (ror_vac r97); subst he97; replace K := K.mono hF97; replace V6 := ror_vac (Mon.h hF97 (vac_ror V6)); replace V8 := ror_vac (Mon.h hF97 (vac_ror V8)))
 (revert S a; refine go 3 ?_; intro a S)
 (refine wpl_buildSlice S rfl rfl rfl rfl rfl rfl (by rfl) (by simp [Value.cells, splice]) rfl (by rfl) (by rfl) ?_; clear S a; intro b98 a w hown S; have S' := frz1 S; clear S; obtain ⟨F98, hF98, hb98, S⟩ := S'; have r98 := trs_lim (lim_of (l := ([intV 1, intV 2] : List Vv)) hb98 (LiC.app (l := ([intV 1] : List Vv)) (LiC.one (sz := 4) rfl (Mon.h (fun b o h => hF98 _ _ (hF97 _ _ h)) r96)) (LiC.one (sz := 4) rfl (Mon.h (fun b o h => hF98 _ _ h) r97))) (show 2 ≤ _ by decide)); replace K := K.mono hF98; replace V6 := ror_vac (Mon.h hF98 (vac_ror V6)); replace V8 := ror_vac (Mon.h hF98 (vac_ror V8)))
 (revert S a; refine go 4 ?_; intro a S)
 (refine wc0 S (sameCt 100 F98 (⟨6, 0, enPC⟩, roseOf [intV 1, intV 2]) (⟨6, 0, enPC⟩, roseOf [intV 1, intV 2]) _ _ (by decide) V6 ⟨_, rfl, r98, by decide⟩) ?_; clear S a; intro v100 a w hv S; subst hv)
 refine wpList_nil ?_
 iterate 2 (refine wpm_v S rfl rfl rfl (want_none _ rfl) rfl rfl (fun w' S => sv_lit (c := true) (sv_pure S rfl) (by rfl)) ?_; clear S a; intro a S)
 (revert S a; refine go 1 ?_; intro a S)
 (refine wpm_v S rfl rfl rfl (want_yes S rfl rfl rfl) rfl rfl (fun w' S => sv_lit (c := true) (sv_pure S rfl) (by rfl)) ?_; clear S a; intro a S)
 iterate 2 (refine wpm_v S rfl rfl rfl (want_none _ rfl) rfl rfl (fun w' S => sv_lit (c := true) (sv_pure S rfl) (by rfl)) ?_; clear S a; intro a S)
 (refine wlF S rfl (fun w' S => sv_loadAF S rfl rfl g8 rfl) ?_; clear S a; intro a S)
 (revert S a; refine go 2 ?_; intro a S)
 (refine wcF S (lnumCt F98 _) ?_; clear S a; intro v108 F108 a w hv hF108 S; obtain ⟨c108, rfl, -, r108⟩ := hv; obtain ⟨xa108, xb108, he108, -, -⟩ := vac_slc (ror_vac r108); subst he108; replace K := K.mono hF108; replace V6 := ror_vac (Mon.h hF108 (vac_ror V6)); replace V8 := ror_vac (Mon.h hF108 (vac_ror V8)))
 (revert S a; refine go 3 ?_; intro a S)
 (refine wc0 S (sameCt 100 F108 (intV 1) (intV 1) _ _ (by decide) V8 (ror_vac r108)) ?_; clear S a; intro v109 a w hv S; subst hv)
 refine wpList_nil ?_
 iterate 2 (refine wpm_v S rfl rfl rfl (want_none _ rfl) rfl rfl (fun w' S => sv_lit (c := true) (sv_pure S rfl) (by rfl)) ?_; clear S a; intro a S)
 (revert S a; refine go 1 ?_; intro a S)
 (refine wpm_v S rfl rfl rfl (want_yes S rfl rfl rfl) rfl rfl (fun w' S => sv_lit (c := true) (sv_pure S rfl) (by rfl)) ?_; clear S a; intro a S)
 iterate 2 (refine wpm_v S rfl rfl rfl (want_none _ rfl) rfl rfl (fun w' S => sv_lit (c := true) (sv_pure S rfl) (by rfl)) ?_; clear S a; intro a S)
 (revert S a; refine go 1 ?_; intro a S)
 (refine wpm_v S rfl rfl rfl (want_yes S rfl rfl rfl) rfl rfl (fun w' S => sv_lit (c := true) (sv_pure S rfl) (by rfl)) ?_; clear S a; intro a S)
 iterate 2 (refine wpm_v S rfl rfl rfl (want_none _ rfl) rfl rfl (fun w' S => sv_lit (c := true) (sv_pure S rfl) (by rfl)) ?_; clear S a; intro a S)
 (revert S a; refine go 1 ?_; intro a S)
 (refine wpm_v S rfl rfl rfl (want_yes S rfl rfl rfl) rfl rfl (fun w' S => sv_lit (c := true) (sv_pure S rfl) (by rfl)) ?_; clear S a; intro a S)
 iterate 2 (refine wpm_v S rfl rfl rfl (want_none _ rfl) rfl rfl (fun w' S => sv_lit (c := true) (sv_pure S rfl) (by rfl)) ?_; clear S a; intro a S)
 (revert S a; refine go 1 ?_; intro a S)
 (refine wpm_v S rfl rfl rfl (want_yes S rfl rfl rfl) rfl rfl (fun w' S => sv_lit (c := true) (sv_pure S rfl) (by rfl)) ?_; clear S a; intro a S)
 (refine wpm_v S rfl rfl rfl (want_none _ rfl) rfl rfl (fun w' S => sv_lit (c := true) (sv_pure S rfl) (by rfl)) ?_; clear S a; intro a S)
 (revert S a; revert hZ Z; refine go 5 ?_; intro a S)
 refine wp_ret (fr1 S Tryz.results21 ?_)
 rfl
end Go.Proofs.YtgefmjghdijbfaaGreatDoor
