/- Walks. -/
import Derived.Test.YtgefmjghdijbfaaGreatDoorKEvalNames12
set_option maxHeartbeats 64000000
set_option maxRecDepth 1000000
namespace Go.Proofs.YtgefmjghdijbfaaGreatDoor
open Go Go.Wk Go.Un Go.De Go.Num
set_option linter.unusedSimpArgs false
set_option linter.unusedVariables false
attribute [local irreducible] Go.wpList Go.Code.wp Go.wpStill Go.Wk.wpPre Go.bodyPost Go.Calls Go.Wk.Ct Go.Wk.OwnS Go.Wk.wpG Go.Wk.wpM
theorem enEv0 (F : Heap) (K : EnK F) (x : Ex) (cs : List Value) (hX : ReR F x cs) (hg : GE x.1 x.2) (vs : List Bd) (vv : Value) (hvs : LiM F 5 BdR vv vs) (hGB : GVB vs) {A : Ans} (hA : evalO [] vs x.1 x.2 = A) : Ct Tryz.prog 8 [.pointer none, .agg ⟨cs⟩, vv] F [] (fun F' _ u => AnsR F' u A) := by
 subst hA
 exact evalCt F K.T K.E none [] (fun F' nm _ => cons0Ct F' nm) vs vv hvs hGB x.1 x.2 cs (ror_exc hX) hg
section
variable {n : Sz} {L : List (Nat × Value)} {w0 : World} {F0 : Heap} {K0 : List Nat} {F : Heap} {g h : Grp} {R : List Grp} {a : Act} {w : World}
theorem stOne (S : St n L w0 F0 K0 F (g :: R) a w) : St n L w0 F0 K0 F [g] a w := ⟨S.fr, S.tr.sub (by simp only [List.flatten_cons, List.flatten_nil, List.append_nil]; exact List.sublist_append_left _ _)⟩
theorem stTwo (S : St n L w0 F0 K0 F (g :: h :: R) a w) : St n L w0 F0 K0 F [g, h] a w := ⟨S.fr, S.tr.sub (by simp only [List.flatten_cons, List.flatten_nil, List.append_nil]; rw [← List.append_assoc]; exact List.sublist_append_left _ _)⟩
end
def dV : Nat → Vv
 | 0 => (⟨5, 0, []⟩, .nil)
 | n + 1 => (⟨5, 0, []⟩, roseOf [dV n, intV 1])
def nE : Nat → Ex
 | 0 => nX 1
 | n + 1 => callX1 sNeg (nE n)
theorem dv_step {F : Heap} {i b c : Nat} (h : 1 ≤ i) (hT : TrS F 4 VhR (.slice (some ⟨b, 0, none⟩) 2 c) (roseOf [dV (i - 1), intV 1])) : RvR F (dV (i + 1 - 1)) [.int .u8 5, .int .i64 0, .string (bs []), .slice (some ⟨b, 0, none⟩) 2 c] := by
 obtain ⟨j, rfl⟩ : ∃ j, i = j + 1 := ⟨i - 1, by omega⟩
 exact ⟨[_, _, _], _, rfl, rfl, ⟨rfl, show 0 ≤ 140737488355328 by decide⟩, hT⟩
theorem ne_step {F : Heap} {i : Nat} {cs : List Value} (h : 1 ≤ i) (hR : ReR F (callX1 sNeg (nE (i - 1))) cs) : ReR F (nE (i + 1 - 1)) cs := by
 obtain ⟨j, rfl⟩ : ∃ j, i = j + 1 := ⟨i - 1, by omega⟩
 exact hR
theorem gvb_of {vs : List Bd} (h : (vs.all fun x => gvB x.2) = true) : GVB vs := fun x hx => gvB_ok (List.all_eq_true.1 h x hx)
theorem enG1 : GVB [([88], dV 63), ([88], intV 1)] := gvb_of (by kernel_rfl)
theorem enG2 : GVB [([88], dV 63)] := gvb_of (by kernel_rfl)
theorem enG3 : GVB [([88], intV 1), ([89], zV)] := gvb_of (by kernel_rfl)
theorem enG63 : GE (nE 63).1 (nE 63).2 := geB_ok (by kernel_rfl)
theorem enD1 : evalO [] [([88], dV 63), ([88], intV 1)] (vX [88]).1 (vX [88]).2 = yesA (dV 63) := by kernel_rfl
theorem enD2 : evalO [] [([88], dV 63)] (tupX [vX [88], vX [88]]).1 (tupX [vX [88], vX [88]]).2 = noA 80 := by kernel_rfl
theorem enD3 : evalO [] [([88], intV 1), ([89], zV)] (vX [88]).1 (vX [88]).2 = noA 4 := by kernel_rfl
theorem enD4 : evalO [] [] (nE 63).1 (nE 63).2 = yesA (intV (-1)) := by kernel_rfl
theorem enD5 : evalO [] [] (nE 64).1 (nE 64).2 = noA 65 := by kernel_rfl
theorem enD6 : truthO (evalO [] [] (callX2 [60] (nX 1) (nX 2)).1 (callX2 [60] (nX 1) (nX 2)).2) = (true, 0) := by kernel_rfl
theorem enD7 : truthO (evalO [] [] (nX 1).1 (nX 1).2) = (false, 70) := by kernel_rfl
theorem enS1 : sameV (dV 63) (dV 63) = true := sameV_iff.2 rfl
theorem zzEnD0 {p : Prop} (h : p := by (replace S := stOne (St.pullB b5 S); refine ⟨_, (fun b o h => hF61 _ _ (hF60 _ _ (hF57 _ _ (hF52 _ _ (hF51 _ _ (hF47 _ _ h)))))), K, ?_⟩; (refine S.keep ?_; exact zk))) : p := h
theorem zzEnD1 {p : Prop} (h : p := by (replace S := stOne (St.pullB b5 S); refine ⟨_, b5, xa41, xb41, (fun b o h => hF41 _ _ (hF40 _ _ (hF38 _ _ (hE4 _ _ h)))), K, (Cels.mono (fun b o h => hF41 _ _ (hF40 _ _ (hF38 _ _ h))) c4), q41, ?_⟩; (refine S.keep ?_; exact zk))) : p := h
theorem enDeepsCt (F : Heap) (K : EnK F) : Ct Tryz.prog 22 [] F [] (fun _ _ u => u = .bool true) := by
  refine Ct.enter Tryz.func22 rfl Tryz.ntmps22 rfl fun w0 a S => ?_
  (revert S a; refine go 6 ?_; intro Z hZ a S)
  (refine wpl_alloc S rfl rfl rfl rfl ?_; clear S a; intro b1 a w S)
  (refine wso S rfl rfl ?_; clear S; intro w S)
  (revert S a; revert hZ Z; refine go 3 ?_; intro Z hZ a S)
  (refine wcF S (lnumCt F _) ?_; clear S a; intro v20 F20 a w hv hF20 S; obtain ⟨c20, rfl, -, r20⟩ := hv; obtain ⟨xa20, xb20, he20, -, -⟩ := vac_slc (ror_vac r20); subst he20; replace K := K.mono hF20)
  (refine wcF S (llitCt F20 _ _ r20) ?_; clear S a; intro v21 F21 a w hv hF21 S; obtain ⟨c21, rfl, -, r21⟩ := hv; obtain ⟨xa21, xb21, xc21, xd21, xe21, he21, -, -⟩ := exc_slc (ror_exc r21); subst he21; replace K := K.mono hF21)
  (refine wpl_alloc S rfl rfl rfl rfl ?_; clear S a; intro b2 a w S)
  (refine wso S rfl rfl ?_; clear S; intro w S)
  (revert S a; revert hZ Z; refine go 8 ?_; intro Z hZ a S)
  refine wpc_loop (fun m a w' => ∃ (i : Nat) (G3 : Heap) (c1 c2 : List Value), m = 64 - i ∧ 1 ≤ i ∧ i ≤ 64 ∧ EnK G3 ∧ RvR G3 (dV (i - 1)) c1 ∧ ReR G3 (nE (i - 1)) c2 ∧ St 131 [(1, ptr b1), (2, ptr b2), (3, .int .i64 (i : Int))] w0 F [] G3 [[(b1, .cells ⟨c1⟩ 33 (0, 0))], [(b2, .cells ⟨c2⟩ 36 (0, 0))]] a w') ?_ ?_
  · (refine ⟨63, 1, F21, _, _, rfl, Nat.le_refl _, by decide, K, ror_leaf _ 5 0 [] (by decide), r21, ?_⟩; replace S := St.pullB b2 S; replace S := St.pullB b1 S; (refine S.keep ?_; exact zk))
  (clear S; rintro m a w ⟨i, G3, c1, c2, rfl, hi1, hi, K, rv, re, S⟩; obtain ⟨xa1, xb1, he1, -, -⟩ := vac_slc (ror_vac rv); subst he1; obtain ⟨ya1, ya2, ya3, ya4, ya5, he2, -, -⟩ := exc_slc (ror_exc re); subst he2)
  (revert S a; refine go 6 ?_; intro Z hZ a S)
  refine wpc_sp S rfl ?_ ?_ <;> intro h
  · (revert S a; revert hZ Z; refine go 4 ?_; intro Z hZ a S)
    (refine wp_seq_k ?_; intro Z hZ)
    (refine wpc_mixM [0, 3] [0] [4] (.one 0 (.one 1 (.one 2 (.one 3 (.one 4 .nil))))) [b1] S mixed (by kernel_rfl) ?_; clear S; intro w S)
    (revert S a; refine go 2 ?_; intro a S)
    (refine wcF S (lnumCt G3 _) ?_; clear S a; intro v27 F27 a w hv hF27 S; obtain ⟨c27, rfl, -, r27⟩ := hv; obtain ⟨xa27, xb27, he27, -, -⟩ := vac_slc (ror_vac r27); subst he27; replace K := K.mono hF27)
    (revert S a; refine go 2 ?_; intro a S)
    (refine wpl_buildSlice S rfl rfl rfl rfl rfl rfl (by rfl) (by simp [Value.cells, splice]) rfl (by rfl) (by rfl) ?_; clear S a; intro b28 a w hown S; have S' := frz1 S; clear S; obtain ⟨F28, hF28, hb28, S⟩ := S'; have r28 := trs_lim (lim_of (l := ([dV (i - 1), intV 1] : List Vv)) hb28 (LiC.app (l := ([dV (i - 1)] : List Vv)) (LiC.one (sz := 4) rfl (Mon.h (fun b o h => hF28 _ _ (hF27 _ _ h)) rv)) (LiC.one (sz := 4) rfl (Mon.h hF28 r27))) (show 2 ≤ _ by decide)); replace K := K.mono hF28)
    (revert S a; refine go 3 ?_; intro a S)
    (refine wso S rfl rfl ?_; clear S; intro w S)
    refine wpList_nil ?_
    refine wpm_nil (fun h => absurd h (by decide)) ?_
    (revert S a; revert hZ Z; refine go 3 ?_; intro a S)
    (refine wpl_buildSlice S rfl rfl rfl rfl rfl rfl (by rfl) (by simp [Value.cells, splice]) rfl (by rfl) (by rfl) ?_; clear S a; intro b31 a w hown S; have S' := frz1 S; clear S; obtain ⟨F31, hF31, hb31, S⟩ := S'; have r31 := trs_lim (lim_of (l := ([nE (i - 1)] : List Ex)) hb31 (LiC.one (sz := 9) rfl (Mon.h (fun b o h => hF31 _ _ (hF28 _ _ (hF27 _ _ h))) re)) (show 1 ≤ _ by decide)); replace K := K.mono hF31)
    (refine wcF S (lcallCt F31 sNeg (.cons (nE (i - 1)).1 (nE (i - 1)).2 .nil) _ r31) ?_; clear S a; intro v32 F32 a w hv hF32 S; obtain ⟨c32, rfl, -, r32⟩ := hv; obtain ⟨xa32, xb32, xc32, xd32, xe32, he32, -, -⟩ := exc_slc (ror_exc r32); subst he32; replace K := K.mono hF32)
    (refine wso S rfl rfl ?_; clear S; intro w S)
    (revert S a; revert hZ Z; refine go 7 ?_; intro a S)
    change ∃ m', _ ∧ _
    (replace S := St.pullB b2 S; replace S := St.pullB b1 S; refine ⟨64 - (i + 1), by omega, i + 1, F32, _, _, rfl, by omega, by omega, K, dv_step hi1 (r28.mono (fun b o h => hF32 _ _ (hF31 _ _ h))), ne_step hi1 r32, ?_⟩; (refine S.keep ?_; exact zk))
  (refine wp_exit ?_; conv => whnf)
  clear hZ Z
  (refine hZ _ _ ?_; clear hZ Z)
  (refine wp_seq_k ?_; intro Z hZ)
  (obtain rfl : i = 64 := (by omega); replace S := St.pullB b1 S; have S' := frz1 S; clear S; obtain ⟨E1, hE1, hb1, S⟩ := S'; replace K := K.mono hE1; replace S := St.pullB b2 S; have S' := frz1 S; clear S; obtain ⟨E2, hE2, hb2, S⟩ := S'; replace K := K.mono hE2; have c1 : Cels E2 b1 0 [.int .u8 5, .int .i64 0, .string (bs []), .slice xa1 2 xb1] := Cels.mono hE2 (cels_of hb1); have c2 := cels_of hb2; have hz : ∀ b o, G3 b = some o → E2 b = some o := (fun b o h => hE2 _ _ (hE1 _ _ h)); replace rv : RvR E2 (dV 63) _ := Mon.h hz rv; replace re : ReR E2 (nE 63) _ := Mon.h hz re)
  (revert S a; refine go 2 ?_; intro a S)
  (refine wpl_alloc S rfl rfl rfl rfl ?_; clear S a; intro b4 a w S)
  (refine wso S rfl rfl ?_; clear S; intro w S)
  (revert S a; revert hZ Z; refine go 2 ?_; intro a S)
  (refine wp_seq_k ?_; intro Z hZ)
  replace hZ : ∀ (a' : Act) (w' : World), (∃ (D9 : Heap) (b5 : Nat) (xa41 : Option Addr) (xb41 : Nat), (∀ b o, E2 b = some o → D9 b = some o) ∧ EnK D9 ∧ Cels D9 b4 0 (vXc [88]) ∧ VaC D9 [.int .u8 5, .int .i64 0, .string (bs []), .slice xa41 2 xb41] (dV 63).1 (dV 63).2 ∧ St 131 [(1, ptr b1), (2, ptr b2), (4, ptr b4), (5, ptr b5), (6, .int .i64 0)] w0 F [] D9 [[(b5, .cells ⟨[.int .u8 5, .int .i64 0, .string (bs []), .slice xa41 2 xb41]⟩ 33 (0, 0))]] a' w') → Z a' w' := (by
   (intro a w hM; refine hZ _ _ ?_; clear hZ Z; clear S; obtain ⟨D9, b5, xa41, xb41, hD9, K, c4, q41, S⟩ := hM)
   refine wp_sr fun Z hZ => ?_
   iterate 2 (refine wv S (sv_loadAF S rfl rfl c4 rfl) ?_; clear S a; intro a S)
   (refine wpl_buildSlice S rfl rfl rfl rfl rfl rfl (by rfl) (by simp [Value.cells, splice]) rfl (by rfl) (by rfl) ?_; clear S a; intro b47 a w hown S; have S' := frz1 S; clear S; obtain ⟨F47, hF47, hb47, S⟩ := S'; have r47 := trs_lim (lim_of (l := ([vX [88], vX [88]] : List Ex)) hb47 (LiC.app (l := ([vX [88]] : List Ex)) (LiC.one (sz := 9) rfl (vX_ror F47 [88])) (LiC.one (sz := 9) rfl (vX_ror F47 [88]))) (show 2 ≤ _ by decide)); replace K := K.mono hF47)
   (revert S a; refine go 1 ?_; intro a S)
   (refine wv S (sv_loadAF S rfl rfl (Cels.mono (fun b o h => hF47 _ _ (hD9 _ _ h)) c1) rfl) ?_; clear S a; intro a S)
   (revert S a; refine go 1 ?_; intro a S)
   (refine wpl_buildSlice S rfl rfl rfl rfl rfl rfl (by rfl) (by simp [Value.cells, splice]) rfl (by rfl) (by rfl) ?_; clear S a; intro b51 a w hown S; have S' := frz1 S; clear S; obtain ⟨F51, hF51, hb51, S⟩ := S'; have r51 : LiM F51 5 BdR (.slice (some ⟨b51, 0, none⟩) 1 1) [([88], dV 63)] := lim_of (l := ([([88], dV 63)] : List Bd)) hb51 (LiC.one (sz := 5) rfl ⟨_, rfl, ror_vac (Mon.h (fun b o h => hF51 _ _ (hF47 _ _ (hD9 _ _ h))) rv)⟩) (show 1 ≤ _ by decide); replace K := K.mono hF51)
   (refine wcF S (enEv0 F51 K (tupX [vX [88], vX [88]]) _ ⟨[_, _, _, _, _, _, _, _], _, rfl, rfl, ⟨_, rfl, TrS.nil _ _ _⟩, r47.mono hF51⟩ (geB_ok (by kernel_rfl)) [([88], dV 63)] _ r51 enG2 enD2) ?_; clear S a; intro v52 F52 a w hv hF52 S; obtain ⟨c52, rfl, q52⟩ := hv; obtain ⟨xa52, xb52, he52, -, -⟩ := vac_slc q52; subst he52; replace K := K.mono hF52)
   (revert S a; refine go 3 ?_; intro a S)
   (refine wpl_alloc S rfl rfl rfl rfl ?_; clear S a; intro b7 a w S)
   (refine wso S rfl rfl ?_; clear S; intro w S)
   (revert S a; revert hZ Z; refine go 3 ?_; intro a S)
   (refine wp_seq_k ?_; intro Z hZ)
   replace hZ : ∀ (a' : Act) (w' : World), (∃ (D11 : Heap), (∀ b o, D9 b = some o → D11 b = some o) ∧ EnK D11 ∧ St 131 [(1, ptr b1), (2, ptr b2), (4, ptr b4), (5, ptr b5), (6, .int .i64 0), (8, .int .i64 80), (10, .int .i64 4)] w0 F [] D11 [[(b5, .cells ⟨[.int .u8 5, .int .i64 0, .string (bs []), .slice xa41 2 xb41]⟩ 33 (0, 0))]] a' w') → Z a' w' := (by
    (intro a w hM; refine hZ _ _ ?_; clear hZ Z; clear S; obtain ⟨D11, hD11, K, S⟩ := hM)
    refine wp_sr fun Z hZ => ?_
    (refine wv S (sv_loadAF S rfl rfl (Cels.mono (fun b o h => hD11 _ _ (hD9 _ _ h)) c2) rfl) ?_; clear S a; intro a S)
    (refine wcF S (enEv0 D11 K (nE 63) _ (Mon.h (fun b o h => hD11 _ _ (hD9 _ _ h)) re) enG63 [] _ (LiM.nil _ _ _) (fun z hz => by cases hz) enD4) ?_; clear S a; intro v66 F66 a w hv hF66 S; obtain ⟨c66, rfl, q66⟩ := hv; obtain ⟨xa66, xb66, he66, -, -⟩ := vac_slc q66; subst he66; replace K := K.mono hF66)
    (revert S a; refine go 3 ?_; intro a S)
    (refine wpl_alloc S rfl rfl rfl rfl ?_; clear S a; intro b11 a w S)
    (refine wso S rfl rfl ?_; clear S; intro w S)
    (revert S a; revert hZ Z; refine go 4 ?_; intro Z hZ a S)
    (refine wv S (sv_loadAF S rfl rfl (Cels.mono (fun b o h => hF66 _ _ (hD11 _ _ (hD9 _ _ h))) c2) rfl) ?_; clear S a; intro a S)
    (refine wpl_buildSlice S rfl rfl rfl rfl rfl rfl (by rfl) (by simp [Value.cells, splice]) rfl (by rfl) (by rfl) ?_; clear S a; intro b71 a w hown S; have S' := frz1 S; clear S; obtain ⟨F71, hF71, hb71, S⟩ := S'; have r71 := trs_lim (lim_of (l := ([nE 63] : List Ex)) hb71 (LiC.one (sz := 9) rfl (Mon.h (fun b o h => hF71 _ _ (h)) (Mon.h (fun b o h => hF66 _ _ (hD11 _ _ (hD9 _ _ h))) re))) (show 1 ≤ _ by decide)); replace K := K.mono hF71)
    (refine wcF S (lcallCt F71 sNeg (.cons (nE 63).1 (nE 63).2 .nil) _ r71) ?_; clear S a; intro v72 F72 a w hv hF72 S; obtain ⟨c72, rfl, -, r72⟩ := hv; obtain ⟨xa72, xb72, xc72, xd72, xe72, he72, -, -⟩ := exc_slc (ror_exc r72); subst he72; replace K := K.mono hF72)
    (refine wcF S (enEv0 F72 K (nE 64) _ r72 (geB_ok (by kernel_rfl)) [] _ (LiM.nil _ _ _) (fun z hz => by cases hz) enD5) ?_; clear S a; intro v73 F73 a w hv hF73 S; obtain ⟨c73, rfl, q73⟩ := hv; obtain ⟨xa73, xb73, he73, -, -⟩ := vac_slc q73; subst he73; replace K := K.mono hF73)
    (revert S a; refine go 3 ?_; intro a S)
    (refine wpl_alloc S rfl rfl rfl rfl ?_; clear S a; intro b13 a w S)
    (refine wso S rfl rfl ?_; clear S; intro w S)
    (revert S a; revert hZ Z; refine go 4 ?_; intro Z hZ a S)
    (refine wcF S (lnumCt F73 _) ?_; clear S a; intro v77 F77 a w hv hF77 S; obtain ⟨c77, rfl, -, r77⟩ := hv; obtain ⟨xa77, xb77, he77, -, -⟩ := vac_slc (ror_vac r77); subst he77; replace K := K.mono hF77)
    (refine wcF S (llitCt F77 _ _ r77) ?_; clear S a; intro v78 F78 a w hv hF78 S; obtain ⟨c78, rfl, -, r78⟩ := hv; obtain ⟨xa78, xb78, xc78, xd78, xe78, he78, -, -⟩ := exc_slc (ror_exc r78); subst he78; replace K := K.mono hF78)
    (refine wcF S (lnumCt F78 _) ?_; clear S a; intro v79 F79 a w hv hF79 S; obtain ⟨c79, rfl, -, r79⟩ := hv; obtain ⟨xa79, xb79, he79, -, -⟩ := vac_slc (ror_vac r79); subst he79; replace K := K.mono hF79)
    (refine wcF S (llitCt F79 _ _ r79) ?_; clear S a; intro v80 F80 a w hv hF80 S; obtain ⟨c80, rfl, -, r80⟩ := hv; obtain ⟨xa80, xb80, xc80, xd80, xe80, he80, -, -⟩ := exc_slc (ror_exc r80); subst he80; replace K := K.mono hF80)
    (refine wpl_buildSlice S rfl rfl rfl rfl rfl rfl (by rfl) (by simp [Value.cells, splice]) rfl (by rfl) (by rfl) ?_; clear S a; intro b81 a w hown S; have S' := frz1 S; clear S; obtain ⟨F81, hF81, hb81, S⟩ := S'; have r81 := trs_lim (lim_of (l := ([(litX (intV 1)), (litX (intV 2))] : List Ex)) hb81 (LiC.app (l := ([(litX (intV 1))] : List Ex)) (LiC.one (sz := 9) rfl (Mon.h (fun b o h => hF81 _ _ (hF80 _ _ (hF79 _ _ h))) r78)) (LiC.one (sz := 9) rfl (Mon.h (fun b o h => hF81 _ _ h) r80))) (show 2 ≤ _ by decide)); replace K := K.mono hF81)
    (refine wcF S (lcallCt F81 [60] (.cons (litX (intV 1)).1 (litX (intV 1)).2 (.cons (litX (intV 2)).1 (litX (intV 2)).2 .nil)) _ r81) ?_; clear S a; intro v82 F82 a w hv hF82 S; obtain ⟨c82, rfl, -, r82⟩ := hv; obtain ⟨xa82, xb82, xc82, xd82, xe82, he82, -, -⟩ := exc_slc (ror_exc r82); subst he82; replace K := K.mono hF82)
    (refine wc0 S (enHoldsCt F82 K.T K.E (callX2 [60] (nX 1) (nX 2)) _ r82 (geB_ok (by kernel_rfl))) ?_; clear S a; intro v83 a w hv S; subst hv; rw [enD6] at S)
    (revert S a; revert hZ Z; refine go 8 ?_; intro Z hZ a S)
    (refine wcF S (lnumCt F82 _) ?_; clear S a; intro v87 F87 a w hv hF87 S; obtain ⟨c87, rfl, -, r87⟩ := hv; obtain ⟨xa87, xb87, he87, -, -⟩ := vac_slc (ror_vac r87); subst he87; replace K := K.mono hF87)
    (refine wcF S (llitCt F87 _ _ r87) ?_; clear S a; intro v88 F88 a w hv hF88 S; obtain ⟨c88, rfl, -, r88⟩ := hv; obtain ⟨xa88, xb88, xc88, xd88, xe88, he88, -, -⟩ := exc_slc (ror_exc r88); subst he88; replace K := K.mono hF88)
    (refine wc0 S (enHoldsCt F88 K.T K.E (nX 1) _ r88 (geB_ok (by kernel_rfl))) ?_; clear S a; intro v89 a w hv S; subst hv; rw [enD7] at S)
    (revert S a; revert hZ Z; refine go 7 ?_; intro a S)
    (refine wp_seq_k ?_; intro Z hZ)
    (replace S := St.pullB b5 S; have S' := frz1 S; clear S; obtain ⟨E5, hE5, hb5, S⟩ := S'; replace K := K.mono hE5; replace S := St.pullB b11 S; have S' := frz1 S; clear S; obtain ⟨E11, hE11, hb11, S⟩ := S'; replace K := K.mono hE11; have g5 : Cels E11 b5 0 [.int .u8 5, .int .i64 0, .string (bs []), .slice xa41 2 xb41] := Cels.mono hE11 (cels_of hb5); have g11 : Cels E11 b11 0 [.int .u8 2, .int .i64 (-1), .string (bs []), .slice xa66 0 xb66] := cels_of hb11; have V5 := ror_vac (Mon.h (fun b o h => hE11 _ _ (hE5 _ _ (hF88 _ _ (hF87 _ _ (hF82 _ _ (hF81 _ _ (hF80 _ _ (hF79 _ _ (hF78 _ _ (hF77 _ _ (hF73 _ _ (hF72 _ _ (hF71 _ _ (hF66 _ _ (hD11 _ _ h))))))))))))))) (vac_ror q41)); have V11 := ror_vac (Mon.h (fun b o h => hE11 _ _ (hE5 _ _ (hF88 _ _ (hF87 _ _ (hF82 _ _ (hF81 _ _ (hF80 _ _ (hF79 _ _ (hF78 _ _ (hF77 _ _ (hF73 _ _ (hF72 _ _ (hF71 _ _ h))))))))))))) (vac_ror q66)); have V1 := ror_vac (Mon.h (fun b o h => hE11 _ _ (hE5 _ _ (hF88 _ _ (hF87 _ _ (hF82 _ _ (hF81 _ _ (hF80 _ _ (hF79 _ _ (hF78 _ _ (hF77 _ _ (hF73 _ _ (hF72 _ _ (hF71 _ _ (hF66 _ _ (hD11 _ _ (hD9 _ _ h)))))))))))))))) rv); have g1 := Cels.mono (fun b o h => hE11 _ _ (hE5 _ _ (hF88 _ _ (hF87 _ _ (hF82 _ _ (hF81 _ _ (hF80 _ _ (hF79 _ _ (hF78 _ _ (hF77 _ _ (hF73 _ _ (hF72 _ _ (hF71 _ _ (hF66 _ _ (hD11 _ _ (hD9 _ _ h)))))))))))))))) c1)
    (refine wpc_mixM [0, 1, 2, 3, 4, 6, 7, 8, 9, 10, 11, 12, 13, 14, 15, 16, 17, 18, 19, 20, 23, 24, 25, 26, 27, 28, 29, 30, 31, 32, 33, 34, 35, 36, 37, 38] [3, 4, 20] [] (.one 0 (.one 1 (.one 2 (.one 3 (.one 4 (.one 5 (.one 6 (.one 7 (.one 8 (.one 9 (.one 10 (.one 11 (.one 12 (.one 13 (.one 14 (.one 15 (.one 16 (.one 17 (.one 18 (.one 19 (.one 20 (.one 21 (.one 22 (.one 23 (.one 24 (.one 25 (.one 26 (.one 27 (.one 28 (.one 29 (.one 30 (.one 31 (.one 32 (.one 33 (.one 34 (.one 35 (.one 36 (.one 37 (.one 38 (.one 39 .nil)))))))))))))))))))))))))))))))))))))))) [] S mixed (by kernel_rfl) ?_; clear S; intro w S)
    (revert S a; refine go 1 ?_; intro a S)
    iterate 2 (refine wpm_v S rfl rfl rfl (want_none _ rfl) rfl rfl (fun w' S => sv_lit (c := true) (sv_pure S rfl) (by rfl)) ?_; clear S a; intro a S)
    (refine wlF S rfl (fun w' S => sv_loadAF S rfl rfl g5 rfl) ?_; clear S a; intro a S)
    (refine wlF S rfl (fun w' S => sv_loadAF S rfl rfl g1 rfl) ?_; clear S a; intro a S)
    (revert S a; refine go 2 ?_; intro a S)
    (refine wc0 S (sameCt 300 E11 (dV 63) (dV 63) _ _ (by decide) V5 V1) ?_; clear S a; intro v97 a w hv S; subst hv; rw [enS1] at S)
    refine wpList_nil ?_
    iterate 2 (refine wpm_v S rfl rfl rfl (want_none _ rfl) rfl rfl (fun w' S => sv_lit (c := true) (sv_pure S rfl) (by rfl)) ?_; clear S a; intro a S)
    (revert S a; refine go 1 ?_; intro a S)
    (refine wpm_v S rfl rfl rfl (want_yes S rfl rfl rfl) rfl rfl (fun w' S => sv_lit (c := true) (sv_pure S rfl) (by rfl)) ?_; clear S a; intro a S)
    iterate 2 (refine wpm_v S rfl rfl rfl (want_none _ rfl) rfl rfl (fun w' S => sv_lit (c := true) (sv_pure S rfl) (by rfl)) ?_; clear S a; intro a S)
    (revert S a; refine go 1 ?_; intro a S)
    (refine wpm_v S rfl rfl rfl (want_yes S rfl rfl rfl) rfl rfl (fun w' S => sv_lit (c := true) (sv_pure S rfl) (by rfl)) ?_; clear S a; intro a S)
    iterate 2 (refine wpm_v S rfl rfl rfl (want_none _ rfl) rfl rfl (fun w' S => sv_lit (c := true) (sv_pure S rfl) (by rfl)) ?_; clear S a; intro a S)
    (revert S a; refine go 1 ?_; intro a S)
    (refine wpm_v S rfl rfl rfl (want_yes S rfl rfl rfl) rfl rfl (fun w' S => sv_lit (c := true) (sv_pure S rfl) (by rfl)) ?_; clear S a; intro a S)
    iterate 2 (refine wpm_v S rfl rfl rfl (want_none _ rfl) rfl rfl (fun w' S => sv_lit (c := true) (sv_pure S rfl) (by rfl)) ?_; clear S a; intro a S)
    (refine wlF S rfl (fun w' S => sv_loadAF S rfl rfl g11 rfl) ?_; clear S a; intro a S)
    (revert S a; refine go 2 ?_; intro a S)
    (refine wcF S (lnumCt E11 _) ?_; clear S a; intro v113 F113 a w hv hF113 S; obtain ⟨c113, rfl, -, r113⟩ := hv; obtain ⟨xa113, xb113, he113, -, -⟩ := vac_slc (ror_vac r113); subst he113; replace K := K.mono hF113)
    (revert S a; refine go 3 ?_; intro a S)
    (refine wc0 S (sameCt 100 F113 (intV (-1)) (intV (-1)) _ _ (by decide) (ror_vac (Mon.h hF113 (vac_ror V11))) (ror_vac r113)) ?_; clear S a; intro v114 a w hv S; subst hv)
    refine wpList_nil ?_
    iterate 2 (refine wpm_v S rfl rfl rfl (want_none _ rfl) rfl rfl (fun w' S => sv_lit (c := true) (sv_pure S rfl) (by rfl)) ?_; clear S a; intro a S)
    (revert S a; refine go 1 ?_; intro a S)
    (refine wpm_v S rfl rfl rfl (want_yes S rfl rfl rfl) rfl rfl (fun w' S => sv_lit (c := true) (sv_pure S rfl) (by rfl)) ?_; clear S a; intro a S)
    iterate 2 (refine wpm_v S rfl rfl rfl (want_none _ rfl) rfl rfl (fun w' S => sv_lit (c := true) (sv_pure S rfl) (by rfl)) ?_; clear S a; intro a S)
    (refine wpm_v S rfl rfl rfl (want_yes S rfl rfl rfl) rfl rfl (fun w' S => sv_lit (c := true) (sv_pure S rfl) (by rfl)) ?_; clear S a; intro a S)
    iterate 2 (refine wpm_v S rfl rfl rfl (want_none _ rfl) rfl rfl (fun w' S => sv_lit (c := true) (sv_pure S rfl) (by rfl)) ?_; clear S a; intro a S)
    (revert S a; refine go 1 ?_; intro a S)
    (refine wpm_v S rfl rfl rfl (want_yes S rfl rfl rfl) rfl rfl (fun w' S => sv_lit (c := true) (sv_pure S rfl) (by rfl)) ?_; clear S a; intro a S)
    iterate 2 (refine wpm_v S rfl rfl rfl (want_none _ rfl) rfl rfl (fun w' S => sv_lit (c := true) (sv_pure S rfl) (by rfl)) ?_; clear S a; intro a S)
    (revert S a; refine go 1 ?_; intro a S)
    (refine wpm_v S rfl rfl rfl (want_yes S rfl rfl rfl) rfl rfl (fun w' S => sv_lit (c := true) (sv_pure S rfl) (by rfl)) ?_; clear S a; intro a S)
    (refine wpm_v S rfl rfl rfl (want_none _ rfl) rfl rfl (fun w' S => sv_lit (c := true) (sv_pure S rfl) (by rfl)) ?_; clear S a; intro a S)
    (revert S a; revert hZ Z; refine go 5 ?_; intro a S)
    refine wp_ret (fr1 S Tryz.results22 ?_)
    rfl)
   (refine wpc_mixM [0, 2, 3, 6, 7, 8] [0] [] (.one 0 (.one 3 (.two 1 9 (.one 2 (.two 4 9 (.two 5 9 (.one 6 (.one 7 (.one 8 (.one 9 (.one 10 (.one 11 .nil)))))) (.one 5 (.one 6 (.one 7 (.one 8 (.one 10 (.one 11 .nil))))))) (.one 4 (.one 5 (.one 6 (.one 7 (.one 8 (.one 10 (.one 11 .nil))))))))) (.one 1 (.one 2 (.one 4 (.one 5 (.one 6 (.one 7 (.one 8 (.one 10 (.one 11 .nil)))))))))))) [] S mixed (by kernel_rfl) ?_; clear S; intro w S)
   (refine wlF S rfl (fun w' S => sv_loadAF S rfl rfl (Cels.mono (fun b o h => hF52 _ _ (hF51 _ _ (hF47 _ _ h))) c4) rfl) ?_; clear S a; intro a S)
   (revert S a; refine go 1 ?_; intro a S)
   refine wpm_two rfl rfl (kwa S) ?_ ?_
   · skip
     (refine wcF S (lnumCt F52 _) ?_; clear S a; intro v57 F57 a w hv hF57 S; obtain ⟨c57, rfl, -, r57⟩ := hv; obtain ⟨xa57, xb57, he57, -, -⟩ := vac_slc (ror_vac r57); subst he57; replace K := K.mono hF57)
     (revert S a; refine go 2 ?_; intro a S)
     refine wpm_two rfl rfl (kwa S) ?_ ?_
     · skip
       (refine wpl_buildSlice S rfl rfl rfl rfl rfl rfl (by rfl) (by simp [Value.cells, splice]) rfl (by rfl) (by rfl) ?_; clear S a; intro b60 a w hown S; have S' := frz1 S; clear S; obtain ⟨F60, hF60, hb60, S⟩ := S'; have r60 : LiM F60 5 BdR (.slice (some ⟨b60, 0, none⟩) 2 2) [([88], intV 1), ([89], zV)] := lim_of (l := ([([88], intV 1), ([89], zV)] : List Bd)) hb60 (LiC.app (l := ([([88], intV 1)] : List Bd)) (LiC.one (sz := 5) rfl ⟨_, rfl, ror_vac (Mon.h (fun b o h => hF60 _ _ h) r57)⟩) (LiC.one (sz := 5) rfl ⟨_, rfl, ror_vac (ror_leaf _ 0 0 [] (by decide))⟩)) (show 2 ≤ _ by decide); replace K := K.mono hF60)
       refine wpList_nil ?_
       refine wpm_two rfl rfl (kwa S) ?_ ?_
       · skip
         (refine wcF S (enEv0 F60 K (vX [88]) _ (vX_ror _ _) (geB_ok (by kernel_rfl)) [([88], intV 1), ([89], zV)] _ r60 enG3 enD3) ?_; clear S a; intro v61 F61 a w hv hF61 S; obtain ⟨c61, rfl, q61⟩ := hv; obtain ⟨xa61, xb61, he61, -, -⟩ := vac_slc q61; subst he61; replace K := K.mono hF61)
         (revert S a; refine go 5 ?_; intro a S)
         (refine wpl_alloc S rfl rfl rfl rfl ?_; clear S a; intro b9 a w S)
         (revert S a; refine go 2 ?_; intro a S)
         (refine wso S rfl rfl ?_; clear S; intro w S)
         (revert S a; refine go 5 ?_; intro a S)
         (refine hZ _ _ ?_)
         exact zzEnD0
       skip
       (refine wpl_alloc S rfl rfl rfl rfl ?_; clear S a; intro b9 a w S)
       (revert S a; refine go 2 ?_; intro a S)
       (refine wcF S (enEv0 F60 K (vX [88]) _ (vX_ror _ _) (geB_ok (by kernel_rfl)) [([88], intV 1), ([89], zV)] _ r60 enG3 enD3) ?_; clear S a; intro v61 F61 a w hv hF61 S; obtain ⟨c61, rfl, q61⟩ := hv; obtain ⟨xa61, xb61, he61, -, -⟩ := vac_slc q61; subst he61; replace K := K.mono hF61)
       (revert S a; refine go 5 ?_; intro a S)
       (refine wso S rfl rfl ?_; clear S; intro w S)
       (revert S a; refine go 5 ?_; intro a S)
       (refine hZ _ _ ?_)
       exact zzEnD0
     skip
     (refine wpl_alloc S rfl rfl rfl rfl ?_; clear S a; intro b9 a w S)
     (revert S a; refine go 2 ?_; intro a S)
     (refine wpl_buildSlice S rfl rfl rfl rfl rfl rfl (by rfl) (by simp [Value.cells, splice]) rfl (by rfl) (by rfl) ?_; clear S a; intro b60 a w hown S; have S' := frz1 S; clear S; obtain ⟨F60, hF60, hb60, S⟩ := S'; have r60 : LiM F60 5 BdR (.slice (some ⟨b60, 0, none⟩) 2 2) [([88], intV 1), ([89], zV)] := lim_of (l := ([([88], intV 1), ([89], zV)] : List Bd)) hb60 (LiC.app (l := ([([88], intV 1)] : List Bd)) (LiC.one (sz := 5) rfl ⟨_, rfl, ror_vac (Mon.h (fun b o h => hF60 _ _ h) r57)⟩) (LiC.one (sz := 5) rfl ⟨_, rfl, ror_vac (ror_leaf _ 0 0 [] (by decide))⟩)) (show 2 ≤ _ by decide); replace K := K.mono hF60)
     (revert S a; refine go 2 ?_; intro a S)
     (refine wcF S (enEv0 F60 K (vX [88]) _ (vX_ror _ _) (geB_ok (by kernel_rfl)) [([88], intV 1), ([89], zV)] _ r60 enG3 enD3) ?_; clear S a; intro v61 F61 a w hv hF61 S; obtain ⟨c61, rfl, q61⟩ := hv; obtain ⟨xa61, xb61, he61, -, -⟩ := vac_slc q61; subst he61; replace K := K.mono hF61)
     (revert S a; refine go 5 ?_; intro a S)
     (refine wso S rfl rfl ?_; clear S; intro w S)
     (revert S a; refine go 5 ?_; intro a S)
     (refine hZ _ _ ?_)
     exact zzEnD0
   skip
   (refine wpl_alloc S rfl rfl rfl rfl ?_; clear S a; intro b9 a w S)
   (revert S a; refine go 2 ?_; intro a S)
   (refine wcF S (lnumCt F52 _) ?_; clear S a; intro v57 F57 a w hv hF57 S; obtain ⟨c57, rfl, -, r57⟩ := hv; obtain ⟨xa57, xb57, he57, -, -⟩ := vac_slc (ror_vac r57); subst he57; replace K := K.mono hF57)
   (revert S a; refine go 3 ?_; intro a S)
   (refine wpl_buildSlice S rfl rfl rfl rfl rfl rfl (by rfl) (by simp [Value.cells, splice]) rfl (by rfl) (by rfl) ?_; clear S a; intro b60 a w hown S; have S' := frz1 S; clear S; obtain ⟨F60, hF60, hb60, S⟩ := S'; have r60 : LiM F60 5 BdR (.slice (some ⟨b60, 0, none⟩) 2 2) [([88], intV 1), ([89], zV)] := lim_of (l := ([([88], intV 1), ([89], zV)] : List Bd)) hb60 (LiC.app (l := ([([88], intV 1)] : List Bd)) (LiC.one (sz := 5) rfl ⟨_, rfl, ror_vac (Mon.h (fun b o h => hF60 _ _ h) r57)⟩) (LiC.one (sz := 5) rfl ⟨_, rfl, ror_vac (ror_leaf _ 0 0 [] (by decide))⟩)) (show 2 ≤ _ by decide); replace K := K.mono hF60)
   (revert S a; refine go 2 ?_; intro a S)
   (refine wcF S (enEv0 F60 K (vX [88]) _ (vX_ror _ _) (geB_ok (by kernel_rfl)) [([88], intV 1), ([89], zV)] _ r60 enG3 enD3) ?_; clear S a; intro v61 F61 a w hv hF61 S; obtain ⟨c61, rfl, q61⟩ := hv; obtain ⟨xa61, xb61, he61, -, -⟩ := vac_slc q61; subst he61; replace K := K.mono hF61)
   (revert S a; refine go 5 ?_; intro a S)
   (refine wso S rfl rfl ?_; clear S; intro w S)
   (revert S a; refine go 5 ?_; intro a S)
   (refine hZ _ _ ?_)
   (replace S := stOne (St.pullB b5 S); refine ⟨_, (fun b o h => hF61 _ _ (hF60 _ _ (hF57 _ _ (hF52 _ _ (hF51 _ _ (hF47 _ _ h)))))), K, ?_⟩; (refine S.keep ?_; exact zk)))
  (replace S := St.pullB b4 S; have S' := frz1 S; clear S; obtain ⟨E4, hE4, hb4, S⟩ := S'; replace K := K.mono hE4; have c4 : Cels E4 b4 0 (vXc [88]) := cels_of hb4)
  (refine wpc_mixM [0, 1, 2, 4, 7, 8, 9] [0, 1] [] (.one 0 (.one 1 (.one 2 (.two 3 10 (.one 4 (.two 5 10 (.two 6 10 (.one 7 (.one 8 (.one 9 (.one 10 (.one 11 (.one 12 .nil)))))) (.one 6 (.one 7 (.one 8 (.one 9 (.one 11 (.one 12 .nil))))))) (.one 5 (.one 6 (.one 7 (.one 8 (.one 9 (.one 11 (.one 12 .nil))))))))) (.one 3 (.one 4 (.one 5 (.one 6 (.one 7 (.one 8 (.one 9 (.one 11 (.one 12 .nil))))))))))))) [] S mixed (by kernel_rfl) ?_; clear S; intro w S)
  (refine wlF S rfl (fun w' S => sv_loadAF S rfl rfl c4 rfl) ?_; clear S a; intro a S)
  (refine wlF S rfl (fun w' S => sv_loadAF S rfl rfl (Cels.mono (fun b o h => hE4 _ _ h) c1) rfl) ?_; clear S a; intro a S)
  (revert S a; refine go 1 ?_; intro a S)
  refine wpm_two rfl rfl (kwa S) ?_ ?_
  · skip
    (refine wcF S (lnumCt E4 _) ?_; clear S a; intro v38 F38 a w hv hF38 S; obtain ⟨c38, rfl, -, r38⟩ := hv; obtain ⟨xa38, xb38, he38, -, -⟩ := vac_slc (ror_vac r38); subst he38; replace K := K.mono hF38)
    (revert S a; refine go 2 ?_; intro a S)
    refine wpm_two rfl rfl (kwa S) ?_ ?_
    · skip
      (refine wpl_buildSlice S rfl rfl rfl rfl rfl rfl (by rfl) (by simp [Value.cells, splice]) rfl (by rfl) (by rfl) ?_; clear S a; intro b40 a w hown S; have S' := frz1 S; clear S; obtain ⟨F40, hF40, hb40, S⟩ := S'; have r40 : LiM F40 5 BdR (.slice (some ⟨b40, 0, none⟩) 2 2) [([88], dV 63), ([88], intV 1)] := lim_of (l := ([([88], dV 63), ([88], intV 1)] : List Bd)) hb40 (LiC.app (l := ([([88], dV 63)] : List Bd)) (LiC.one (sz := 5) rfl ⟨_, rfl, ror_vac (Mon.h (fun b o h => hF40 _ _ (hF38 _ _ (hE4 _ _ h))) rv)⟩) (LiC.one (sz := 5) rfl ⟨_, rfl, ror_vac (Mon.h (fun b o h => hF40 _ _ h) r38)⟩)) (show 2 ≤ _ by decide); replace K := K.mono hF40)
      refine wpList_nil ?_
      refine wpm_two rfl rfl (kwa S) ?_ ?_
      · skip
        (refine wcF S (enEv0 F40 K (vX [88]) _ (vX_ror _ _) (geB_ok (by kernel_rfl)) [([88], dV 63), ([88], intV 1)] _ r40 enG1 enD1) ?_; clear S a; intro v41 F41 a w hv hF41 S; obtain ⟨c41, rfl, q41⟩ := hv; obtain ⟨xa41, xb41, he41, -, -⟩ := vac_slc q41; subst he41; replace K := K.mono hF41)
        (revert S a; refine go 5 ?_; intro a S)
        (refine wpl_alloc S rfl rfl rfl rfl ?_; clear S a; intro b5 a w S)
        (revert S a; refine go 2 ?_; intro a S)
        (refine wso S rfl rfl ?_; clear S; intro w S)
        (revert S a; refine go 5 ?_; intro a S)
        (refine hZ _ _ ?_)
        exact zzEnD1
      skip
      (refine wpl_alloc S rfl rfl rfl rfl ?_; clear S a; intro b5 a w S)
      (revert S a; refine go 2 ?_; intro a S)
      (refine wcF S (enEv0 F40 K (vX [88]) _ (vX_ror _ _) (geB_ok (by kernel_rfl)) [([88], dV 63), ([88], intV 1)] _ r40 enG1 enD1) ?_; clear S a; intro v41 F41 a w hv hF41 S; obtain ⟨c41, rfl, q41⟩ := hv; obtain ⟨xa41, xb41, he41, -, -⟩ := vac_slc q41; subst he41; replace K := K.mono hF41)
      (revert S a; refine go 5 ?_; intro a S)
      (refine wso S rfl rfl ?_; clear S; intro w S)
      (revert S a; refine go 5 ?_; intro a S)
      (refine hZ _ _ ?_)
      exact zzEnD1
    skip
    (refine wpl_alloc S rfl rfl rfl rfl ?_; clear S a; intro b5 a w S)
    (revert S a; refine go 2 ?_; intro a S)
    (refine wpl_buildSlice S rfl rfl rfl rfl rfl rfl (by rfl) (by simp [Value.cells, splice]) rfl (by rfl) (by rfl) ?_; clear S a; intro b40 a w hown S; have S' := frz1 S; clear S; obtain ⟨F40, hF40, hb40, S⟩ := S'; have r40 : LiM F40 5 BdR (.slice (some ⟨b40, 0, none⟩) 2 2) [([88], dV 63), ([88], intV 1)] := lim_of (l := ([([88], dV 63), ([88], intV 1)] : List Bd)) hb40 (LiC.app (l := ([([88], dV 63)] : List Bd)) (LiC.one (sz := 5) rfl ⟨_, rfl, ror_vac (Mon.h (fun b o h => hF40 _ _ (hF38 _ _ (hE4 _ _ h))) rv)⟩) (LiC.one (sz := 5) rfl ⟨_, rfl, ror_vac (Mon.h (fun b o h => hF40 _ _ h) r38)⟩)) (show 2 ≤ _ by decide); replace K := K.mono hF40)
    (revert S a; refine go 2 ?_; intro a S)
    (refine wcF S (enEv0 F40 K (vX [88]) _ (vX_ror _ _) (geB_ok (by kernel_rfl)) [([88], dV 63), ([88], intV 1)] _ r40 enG1 enD1) ?_; clear S a; intro v41 F41 a w hv hF41 S; obtain ⟨c41, rfl, q41⟩ := hv; obtain ⟨xa41, xb41, he41, -, -⟩ := vac_slc q41; subst he41; replace K := K.mono hF41)
    (revert S a; refine go 5 ?_; intro a S)
    (refine wso S rfl rfl ?_; clear S; intro w S)
    (revert S a; refine go 5 ?_; intro a S)
    (refine hZ _ _ ?_)
    exact zzEnD1
  skip
  (refine wpl_alloc S rfl rfl rfl rfl ?_; clear S a; intro b5 a w S)
  (revert S a; refine go 2 ?_; intro a S)
  (refine wcF S (lnumCt E4 _) ?_; clear S a; intro v38 F38 a w hv hF38 S; obtain ⟨c38, rfl, -, r38⟩ := hv; obtain ⟨xa38, xb38, he38, -, -⟩ := vac_slc (ror_vac r38); subst he38; replace K := K.mono hF38)
  (revert S a; refine go 3 ?_; intro a S)
  (refine wpl_buildSlice S rfl rfl rfl rfl rfl rfl (by rfl) (by simp [Value.cells, splice]) rfl (by rfl) (by rfl) ?_; clear S a; intro b40 a w hown S; have S' := frz1 S; clear S; obtain ⟨F40, hF40, hb40, S⟩ := S'; have r40 : LiM F40 5 BdR (.slice (some ⟨b40, 0, none⟩) 2 2) [([88], dV 63), ([88], intV 1)] := lim_of (l := ([([88], dV 63), ([88], intV 1)] : List Bd)) hb40 (LiC.app (l := ([([88], dV 63)] : List Bd)) (LiC.one (sz := 5) rfl ⟨_, rfl, ror_vac (Mon.h (fun b o h => hF40 _ _ (hF38 _ _ (hE4 _ _ h))) rv)⟩) (LiC.one (sz := 5) rfl ⟨_, rfl, ror_vac (Mon.h (fun b o h => hF40 _ _ h) r38)⟩)) (show 2 ≤ _ by decide); replace K := K.mono hF40)
  (revert S a; refine go 2 ?_; intro a S)
  (refine wcF S (enEv0 F40 K (vX [88]) _ (vX_ror _ _) (geB_ok (by kernel_rfl)) [([88], dV 63), ([88], intV 1)] _ r40 enG1 enD1) ?_; clear S a; intro v41 F41 a w hv hF41 S; obtain ⟨c41, rfl, q41⟩ := hv; obtain ⟨xa41, xb41, he41, -, -⟩ := vac_slc q41; subst he41; replace K := K.mono hF41)
  (revert S a; refine go 5 ?_; intro a S)
  (refine wso S rfl rfl ?_; clear S; intro w S)
  (revert S a; refine go 5 ?_; intro a S)
  (refine hZ _ _ ?_)
  exact zzEnD1
def rowW (l : List Vv) : Vv := (⟨5, 0, []⟩, roseOf l)
def onesW (n : Nat) : Vv := rowW (List.replicate n (intV 1))
def tW : Vv := onesW 15
def uW : Vv := rowW (List.replicate 15 tW)
def lW : List Vv := List.replicate 8 uW ++ List.replicate 6 tW
def bigW (n : Nat) : Vv := rowW (lW ++ [onesW 16, onesW n])
def xW : Vv := bigW 4
def yW : Vv := bigW 5
def bothW : Vv := rowW [xW, yW]
theorem enGW : GVB [([88], xW), ([89], yW)] := gvb_of (by kernel_rfl)
theorem enW1 : evalO [] [([88], xW), ([89], yW)] (tupX [vX [88], vX [89]]).1 (tupX [vX [88], vX [89]]).2 = yesA bothW := by kernel_rfl
theorem enW2 : evalO [] [([88], xW), ([89], yW)] (tupX [vX [89], vX [89]]).1 (tupX [vX [89], vX [89]]).2 = noA 80 := by kernel_rfl
theorem bothW_sz : bothW.2.size < 5000 := by decide +kernel
theorem enS2 : sameV bothW bothW = true := sameV_iff.2 rfl
end Go.Proofs.YtgefmjghdijbfaaGreatDoor
