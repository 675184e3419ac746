/- Walks. -/
import Derived.Test.YthnafdbebniapaaGreatDoorQ39
import Derived.Test.YthnafdbebniapaaGreatDoorQ38
import Derived.Test.YthnafdbebniapaaGreatDoorKCoverBound02
import Derived.Test.YthnafdbebniapaaGreatDoorQ36
import Derived.Test.YthnafdbebniapaaGreatDoorQ35
import Derived.Test.YthnafdbebniapaaGreatDoorQ34
import Derived.Test.YthnafdbebniapaaGreatDoorQ13
import Derived.Test.YthnafdbebniapaaGreatDoorQ12
import Derived.Test.YthnafdbebniapaaGreatDoorQ11
import Derived.Test.YthnafdbebniapaaGreatDoorQ10
import Derived.Test.YthnafdbebniapaaGreatDoorQ09
import Derived.Test.YthnafdbebniapaaGreatDoorQ08
import Derived.Test.YthnafdbebniapaaGreatDoorQ06
import Derived.Test.YthnafdbebniapaaGreatDoorQ05
import Derived.Test.YthnafdbebniapaaGreatDoorQ04
import Derived.Test.YthnafdbebniapaaGreatDoorQ03
import Derived.Test.YthnafdbebniapaaGreatDoorQ02
import Derived.Test.YthnafdbebniapaaGreatDoorKCoverBound01
import Derived.Test.YthnafdbebniapaaGreatDoorKCoverBoundTy
import Derived.Test.YthnafdbebniapaaGreatDoorQ20
import Derived.Test.YthnafdbebniapaaGreatDoorQ17
import Derived.Test.YthnafdbebniapaaGreatDoorQ31
import Derived.Test.YthnafdbebniapaaGreatDoorQ30
import Derived.Test.YthnafdbebniapaaGreatDoorQ29
import Derived.Test.YthnafdbebniapaaGreatDoorQ28
import Derived.Test.YthnafdbebniapaaGreatDoorQ27
import Derived.Test.YthnafdbebniapaaGreatDoorQ19
import Derived.Test.YthnafdbebniapaaGreatDoorQ18
import Derived.Test.YthnafdbebniapaaGreatDoorQShelf
import Derived.Test.YthnafdbebniapaaGreatDoorQ22
import Derived.Test.YthnafdbebniapaaGreatDoorQ16
import Derived.Test.YthnafdbebniapaaGreatDoorQ15
import Derived.Test.YthnafdbebniapaaGreatDoorQ14
import Derived.Test.YthnafdbebniapaaGreatDoorQ26
import Derived.Test.YthnafdbebniapaaGreatDoorQ21
import Derived.Test.YthnafdbebniapaaGreatDoorQ25
import Derived.Test.YthnafdbebniapaaGreatDoorQ24
import Derived.Test.YthnafdbebniapaaGreatDoorQ23
import Derived.Test.YthnafdbebniapaaGreatDoorQ37
import Derived.Test.YthnafdbebniapaaGreatDoorQ33
import Derived.Test.YthnafdbebniapaaGreatDoorQ32
set_option maxHeartbeats 16000000
set_option maxRecDepth 20000
namespace Go.Proofs.YthnafdbebniapaaGreatDoor
open Go Go.Wk Go.Un Go.De Go.Cv
set_option linter.unusedSimpArgs false
set_option linter.unusedVariables false
attribute [local irreducible] Go.wpList Go.Code.wp Go.wpStill Go.Wk.wpPre Go.bodyPost Go.Calls Go.Wk.Ct Go.Wk.OwnS
attribute [local irreducible] Go.Wk.wpG Go.Wk.wpM
theorem rownCt : ∀ (n : Nat) (F : Heap) (l : Vf) (v : Value), l.size < n → l.len * 56 ≤ 140737488355328 → ThV l → TrS F 4 VhR v l → Ct Tryz.prog 33 [v] F [] (fun F' _ u => TrS F' 4 VhR u l) := by
  intro n
  induction n with
  | zero => intro F l v hn; omega
  | succ n ih =>
  intro F l v hn h56 hth hv
  obtain ⟨ao, cap, rfl, hcap, hpos⟩ := hv
  refine Ct.enter Tryz.func33 rfl Tryz.ntmps33 rfl fun w0 a S => ?_
  (revert S a; refine go01 14 ?_; intro Z hZ a S)
  refine wpc_loop (fun m a w' => ∃ (i : Nat) (v : Value) (g : Grp) (xs : List Value) (F3 : Heap), m = l.len - i ∧ i ≤ l.len ∧ (∀ b o, F b = some o → F3 b = some o) ∧ OwnS 26 4 v i xs g ∧ LiC F3 4 (RoR 4 VhR) xs ((kids l).take i) ∧ St 25 [(0, .slice ao l.len cap), (3, v), (4, .int .i64 (i : Int))] w0 F [] F3 (g :: []) a w') ?_ ?_
  · (replace S := S.nilg; refine ⟨l.len, 0, .slice none 0 0, [], [], F, by omega, Nat.zero_le _, fun _ _ h => h, OwnS.nil _ _, rfl, ?_⟩; refine S.keep ?_; exact zk)
  (clear S; rintro m a w ⟨i, v, g, xs, F3, rfl, hil, hF3, hown, hfc, S⟩)
  (revert S a; refine go01 8 ?_; intro Z hZ a S)
  refine wpc_sp S rfl ?_ ?_ <;> intro h
  · (revert S a; revert hZ Z; refine go11 4 ?_; intro Z hZ a S)
    (refine wp_seq_k ?_; intro Z hZ)
    (obtain ⟨b8, o8, hao, x, cs1, v1, hx, hc1, hw9, hT1⟩ := TrM.pos hpos (k := i) (by omega); rw [hao] at S; replace hc1 := Cels.mono hF3 hc1; replace hT1 := hT1.mono hF3; have hxs := Rose.size_get hx; obtain ⟨hx56, hxth⟩ := hth.get hx; have hT1c := hT1; obtain ⟨a91, c91, rfl, -⟩ := hT1c; have hw9c := hw9.1; subst hw9c; (simp only [List.cons_append, List.nil_append] at hc1))
    (revert S a; refine go00 5 ?_; intro a S)
    (refine wpl_alloc S rfl rfl rfl rfl ?_; clear S a; intro b5 a w S)
    (refine wpl_storeO S rfl rfl rfl rfl rfl (by rfl) (by simp [Value.cells, Value.oneCell', splice]) (by rfl) ?_; clear S; intro w S)
    (revert S a; revert hZ Z; refine go11 5 ?_; intro Z hZ a S)
    (refine wpl_callF S rfl rfl rfl rfl rfl rfl (ih F3 x.2 _ (by omega) hx56 hxth hT1) rfl ?_; clear S a; intro u9 F4 a w hv9 hF4 S; have hv9c := hv9; obtain ⟨a4, c4, rfl, -⟩ := hv9c)
    (revert S a; refine go00 1 ?_; intro a S)
    (refine wpl_store1 S rfl rfl rfl rfl rfl rfl (by first | (simp; done) | (simp [Value.cells]; done) | exact Nat.le_of_ble_eq_true rfl) ?_; clear S; intro w S)
    (revert S a; revert hZ Z; refine go10 2 ?_; intro a S)
    (obtain ⟨aoK, capK, rfl, -⟩ := hown.at)
    (revert S a; refine go00 3 ?_; intro a S)
    (refine wpl_append S rfl rfl rfl rfl rfl rfl rfl rfl rfl rfl rfl (fun _ => rfl) hown (by rfl) (by simp [Value.cells, splice, splice]) (by simp [Value.cells, Value.oneCell', splice, splice]) rfl (by rfl) (by rfl) rfl (by omega) (by omega) ?_; clear hown S a; intro v u g a w hown S)
    (revert S a; revert hZ Z; refine go10 8 ?_; intro a S)
    change ∃ m', _ ∧ _
    (rw [← hao] at S; replace S := St.pullB b5 S; replace S := S.drop1; refine ⟨l.len - (i + 1), by omega, i + 1, _, _, _, F4, rfl, by omega, fun b o h => hF4 _ _ (hF3 _ _ h), hown, ?_, ?_⟩; rotate_left 1; (refine S.keep ?_; exact zk); (show LiC F4 4 (RoR 4 VhR) (xs ++ ([.int .u8 (x.1.k : Int), .int .i64 x.1.n, .string (bs x.1.s), .slice a4 x.2.len c4] : List Value)) _; rw [List.take_add_one, kids_get, hx]; exact LiC.app (hfc.mono hF4) (LiC.one rfl ⟨[_, _, _], _, rfl, rfl, hw9, hv9⟩)))
  (refine wp_exit ?_; conv => whnf)
  clear hZ Z
  (revert S a; revert hZ Z; refine go10 6 ?_; intro a S)
  refine wp_ret ?_
  (have hii : i = l.len := (by omega); have hle := add_le (G1 := []) S; replace S := St.freeze (G1 := []) S; (simp only [List.nil_append] at S hle))
  refine fin_ret S (results1 Tryz.results33 (RV.tmp S rfl)) ?_
  (rw [List.take_of_length_le (by rw [kids_len]; omega)] at hfc; exact trs_kids (LiC.lim hown hfc (by rw [kids_len]; omega) hle (by omega)))
theorem trv_one {F : Heap} {v : Value} {x : Vv} (h : TrS F 4 VhR v (.cons x.1 x.2 .nil)) : ∃ b o cap a1 c1, v = .slice (some ⟨b, o, none⟩) 1 cap ∧ Cels F b (o + 0 * 4) [.int .u8 (x.1.k : Int), .int .i64 x.1.n, .string (bs x.1.s), .slice a1 x.2.len c1] ∧ VaC F [.int .u8 (x.1.k : Int), .int .i64 x.1.n, .string (bs x.1.s), .slice a1 x.2.len c1] x.1 x.2 := by
  obtain ⟨ao, cap, rfl, -, hpos⟩ := h
  obtain ⟨b, o, rfl, y, cs, u, hy, hc, ⟨rfl, hs⟩, hT⟩ := TrM.pos hpos (k := 0) (show 0 < 1 by decide)
  cases hy
  have hTc := hT
  obtain ⟨a1, c1, rfl, -⟩ := hTc
  exact ⟨b, o, cap, a1, c1, rfl, hc, _, rfl, hT, hs⟩
theorem zzLtG0 {p : Prop} (h : p := by (have hii : i = vs.length := (by omega); rw [List.take_of_length_le (by omega)] at hfc; rw [hii] at hown; exact ⟨_, _, rfl, hown, hfc⟩)) : p := h
theorem givenCt (F : Heap) (vs : List Bd) (vv : Value) (hn : vs.length ≤ 1000000) (hz : ∀ x ∈ vs, x.2.2.len * 56 ≤ 140737488355328 ∧ ThV x.2.2) (hv : LiM F 5 BvR vv vs) : Ct Tryz.prog 12 [vv] F [] (fun F' G' u => ∃ g xs, G' = [g] ∧ OwnS 44 5 u vs.length xs g ∧ LiC F' 5 BvR xs vs) := by
 obtain ⟨ao, cap, rfl, hcap, hpos⟩ := hv
 refine Ct.enter Tryz.func12 rfl Tryz.ntmps12 rfl fun w0 a S => ?_
 (revert S a; refine go01 14 ?_; intro Z hZ a S)
 refine wpc_loop (fun m a w' => ∃ (i : Nat) (v : Value) (g : Grp) (xs : List Value) (F3 : Heap), m = vs.length - i ∧ i ≤ vs.length ∧ (∀ b o, F b = some o → F3 b = some o) ∧ OwnS 44 5 v i xs g ∧ LiC F3 5 BvR xs (vs.take i) ∧ St 30 [(0, .slice ao vs.length cap), (3, v), (4, .int .i64 (i : Int))] w0 F [] F3 (g :: []) a w') ?_ ?_
 ·(replace S := S.nilg; refine ⟨vs.length, 0, .slice none 0 0, [], [], F, by omega, Nat.zero_le _, fun _ _ h => h, OwnS.nil _ _, rfl, ?_⟩; refine S.keep ?_; exact zk)
 (clear S; rintro m a w ⟨i, v, g, xs, F3, rfl, hil, hF3, hown, hfc, S⟩)
 (revert S a; refine go01 8 ?_; intro Z hZ a S)
 refine wpc_sp S rfl ?_ ?_ <;> intro h
 ·(revert S a; revert hZ Z; refine go11 4 ?_; intro Z hZ a S)
  (obtain ⟨b8, o8, hao, x, cs1, hx, hc1, a91, c91, rfl, hVx⟩ := LiM.pos hpos (k := i) (by omega); rw [hao] at S; replace hc1 := Cels.mono hF3 hc1; replace hVx := hVx.mono hF3; have hzx := hz x (List.mem_of_getElem? hx); have hc2 := Cels.drop hc1 1; obtain ⟨aoK, capK, rfl, -⟩ := hown.at)
  (refine wpc_mixM [0, 1, 2, 3, 4, 5, 6, 7, 8, 9, 10, 13, 15] [5, 10] [] (.one 0 (.one 1 (.one 2 (.one 3 (.one 4 (.one 5 (.one 6 (.one 7 (.one 8 (.one 9 (.one 10 (.one 11 (.one 12 (.one 13 (.one 14 (.one 15 (.one 16 (.one 17 (.one 18 .nil))))))))))))))))))) [] S mixed (by kernel_rfl) ?_; clear S; intro w S)
  iterate 3 (refine wpm_p S rfl rfl rfl (want_none _ rfl) rfl rfl ?_; clear S a; intro a S)
  (refine wpm_i S rfl rfl rfl (want_none _ rfl) rfl rfl ?_; clear S a; intro a S)
  (refine wpm_f S rfl rfl rfl (want_none _ rfl) rfl rfl ?_; clear S a; intro a S)
  (refine wpm_lateF S rfl rfl rfl (want_none _ rfl) rfl rfl (fun w' S => sv_loadF S rfl rfl (hc1 0 _ rfl)) ?_; clear S a; intro a S)
  iterate 2 (refine wpm_p S rfl rfl rfl (want_none _ rfl) rfl rfl ?_; clear S a; intro a S)
  (refine wpm_i S rfl rfl rfl (want_none _ rfl) rfl rfl ?_; clear S a; intro a S)
  (refine wpm_f S rfl rfl rfl (want_none _ rfl) rfl rfl ?_; clear S a; intro a S)
  (refine wpm_lateF S rfl rfl rfl (want_none _ rfl) rfl rfl (fun w' S => sv_loadAF S rfl rfl hc2 (by rfl)) ?_; clear S a; intro a S)
  refine wpm_eff rfl rfl (kwa S) ?_
  (refine wpl_buildSlice S rfl rfl rfl rfl rfl rfl (by rfl) (by simp [Value.cells, splice]) rfl (by rfl) (by rfl) ?_; clear S a; intro b22 a w hown2 S; have S' := frz1 S; clear S; obtain ⟨F22, hF22, hb22, S⟩ := S'; have k22 : TrS F22 4 VhR (.slice (some ⟨b22, 0, none⟩) 1 1) (.cons x.2.1 x.2.2 .nil) := trs_lim (lim_of (l := ([x.2] : List Vv)) hb22 (LiC.one rfl (Mon.h hF22 (vac_ror hVx))) (show 1 ≤ _ by decide)))
  refine wpList_nil ?_
  refine wpm_eff rfl rfl (kwa S) ?_
  (refine wpl_callF S rfl rfl rfl rfl rfl rfl (rownCt (x.2.2.size + 2) F22 (.cons x.2.1 x.2.2 .nil) _ (by simp only [Rose.size]; omega) (by show 1 * 56 ≤ _; omega) ⟨hzx.1, hzx.2, trivial⟩ k22) rfl ?_; clear S a; intro u9 F23 a w hv9 hF23 S; obtain ⟨be, oe, ce, ae, ne, rfl, hce, hVe⟩ := trv_one hv9)
  refine wpList_nil ?_
  (refine wpm_i S rfl rfl rfl (want_none _ rfl) rfl rfl ?_; clear S a; intro a S)
  refine wpm_eff rfl rfl (kwa S) ?_
  (refine wpl_v S rfl rfl rfl (sv_loadAF S rfl rfl hce (by rfl)) ?_; clear S a; intro a S)
  refine wpList_nil ?_
  (refine wpm_b S rfl rfl rfl (want_none _ rfl) rfl rfl ?_; clear S a; intro a S)
  refine wpm_eff rfl rfl (kwa S) ?_
  (refine wpl_buildSlice S rfl rfl rfl rfl rfl rfl (by rfl) (by simp [Value.cells, splice, splice]) rfl (by rfl) (by rfl) ?_; clear S a; intro b27 a w hown2 S)
  refine wpList_nil ?_
  refine wpm_eff rfl rfl (kwa S) ?_
  (refine wpl_appendOwn S rfl rfl rfl rfl rfl rfl hown hown2 (by rfl) (by simp [Value.cells, Value.oneCell', splice, splice]) (by omega) (by omega) ?_; clear hown S a; intro v g a w hown S)
  refine wpList_nil ?_
  refine wpm_eff rfl rfl (kwa S) ?_
  (revert S a; refine go00 2 ?_; intro a S)
  refine wpm_nil (kwa S) ?_
  (revert S a; revert hZ Z; refine go10 6 ?_; intro a S)
  change ∃ m', _ ∧ _
  (rw [← hao] at S; refine ⟨vs.length - (i + 1), by omega, i + 1, _, _, _, F23, rfl, by omega, fun b o h => hF23 _ _ (hF22 _ _ (hF3 _ _ h)), hown, ?_, ?_⟩; rotate_left 1; (refine S.keep ?_; exact zk); (rw [List.take_add_one, hx]; exact LiC.app ((hfc.mono hF22).mono hF23) (LiC.one rfl ⟨_, _, rfl, hVe⟩)))
 (refine wp_exit ?_; conv => whnf)
 clear hZ Z
 (revert S a; revert hZ Z; refine go10 6 ?_; intro a S)
 refine wp_ret (fr1 S Tryz.results12 ?_)
 exact zzLtG0
theorem backCt (F : Heap) (vs : List Bd) (vv : Value) (hn : vs.length ≤ 2000000000) (hv : LiM F 5 BvR vv vs) : Ct Tryz.prog 16 [vv] F [] (fun F' G' u => ∃ g xs, G' = [g] ∧ OwnS 34 5 u vs.length xs g ∧ LiC F' 5 BvR xs vs) := by
 obtain ⟨ao, cap, rfl, hcap, hpos⟩ := hv
 refine Ct.enter Tryz.func16 rfl Tryz.ntmps16 rfl fun w0 a S => ?_
 (revert S a; refine go01 14 ?_; intro Z hZ a S)
 refine wpc_loop (fun m a w' => ∃ (i : Nat) (v : Value) (g : Grp) (xs : List Value), m = vs.length - i ∧ i ≤ vs.length ∧ OwnS 34 5 v i xs g ∧ LiC F 5 BvR xs (vs.take i) ∧ St 26 [(0, .slice ao vs.length cap), (3, v), (4, .int .i64 (i : Int))] w0 F [] F (g :: []) a w') ?_ ?_
 ·(replace S := S.nilg; refine ⟨vs.length, 0, .slice none 0 0, [], [], by omega, Nat.zero_le _, OwnS.nil _ _, rfl, ?_⟩; refine S.keep ?_; exact zk)
 (clear S; rintro m a w ⟨i, v, g, xs, rfl, hil, hown, hfc, S⟩)
 (revert S a; refine go01 8 ?_; intro Z hZ a S)
 refine wpc_sp S rfl ?_ ?_ <;> intro h
 ·(revert S a; revert hZ Z; refine go11 4 ?_; intro Z hZ a S)
  (obtain ⟨b8, o8, hao, x, cs1, hx, hc1, a91, c91, rfl, hVx⟩ := LiM.pos hpos (k := i) (by omega); rw [hao] at S; have hc2 := Cels.drop hc1 1; obtain ⟨aoK, capK, rfl, -⟩ := hown.at)
  (refine wpc_mixM [0, 1, 2, 3, 4, 5, 6, 7, 8, 9, 10, 11] [5, 10] [] (.one 0 (.one 1 (.one 2 (.one 3 (.one 4 (.one 5 (.one 6 (.one 7 (.one 8 (.one 9 (.one 10 (.one 11 (.one 12 (.one 13 (.one 14 .nil))))))))))))))) [] S mixed (by kernel_rfl) ?_; clear S; intro w S)
  iterate 3 (refine wpm_p S rfl rfl rfl (want_none _ rfl) rfl rfl ?_; clear S a; intro a S)
  (refine wpm_i S rfl rfl rfl (want_none _ rfl) rfl rfl ?_; clear S a; intro a S)
  (refine wpm_f S rfl rfl rfl (want_none _ rfl) rfl rfl ?_; clear S a; intro a S)
  (refine wpm_lateF S rfl rfl rfl (want_none _ rfl) rfl rfl (fun w' S => sv_loadF S rfl rfl (hc1 0 _ rfl)) ?_; clear S a; intro a S)
  iterate 2 (refine wpm_p S rfl rfl rfl (want_none _ rfl) rfl rfl ?_; clear S a; intro a S)
  (refine wpm_i S rfl rfl rfl (want_none _ rfl) rfl rfl ?_; clear S a; intro a S)
  (refine wpm_f S rfl rfl rfl (want_none _ rfl) rfl rfl ?_; clear S a; intro a S)
  (refine wpm_lateF S rfl rfl rfl (want_none _ rfl) rfl rfl (fun w' S => sv_loadAF S rfl rfl hc2 (by rfl)) ?_; clear S a; intro a S)
  (refine wpm_b S rfl rfl rfl (want_none _ rfl) rfl rfl ?_; clear S a; intro a S)
  refine wpm_eff rfl rfl (kwa S) ?_
  (refine wpl_buildSlice S rfl rfl rfl rfl rfl rfl (by rfl) (by simp [Value.cells, splice, splice]) rfl (by rfl) (by rfl) ?_; clear S a; intro b23 a w hown2 S)
  refine wpList_nil ?_
  refine wpm_eff rfl rfl (kwa S) ?_
  (refine wpl_appendOwn S rfl rfl rfl rfl rfl rfl hown hown2 (by rfl) (by simp [Value.cells, Value.oneCell', splice, splice]) (by omega) (by omega) ?_; clear hown S a; intro v g a w hown S)
  refine wpList_nil ?_
  refine wpm_eff rfl rfl (kwa S) ?_
  (revert S a; refine go00 2 ?_; intro a S)
  refine wpm_nil (kwa S) ?_
  (revert S a; revert hZ Z; refine go10 6 ?_; intro a S)
  change ∃ m', _ ∧ _
  (rw [← hao] at S; refine ⟨vs.length - (i + 1), by omega, i + 1, _, _, _, rfl, by omega, hown, ?_, ?_⟩; rotate_left 1; (refine S.keep ?_; exact zk); (rw [List.take_add_one, hx]; exact LiC.app hfc (LiC.one rfl ⟨_, _, rfl, hVx⟩)))
 (refine wp_exit ?_; conv => whnf)
 clear hZ Z
 (revert S a; revert hZ Z; refine go10 6 ?_; intro a S)
 refine wp_ret (fr1 S Tryz.results16 ?_)
 exact zzLtG0
theorem sameV_self (x : Vv) : sameV x x = true := sameV_iff.2 rfl
theorem pu_1 {h : EH} {L : Ef} {v : Vv} {l : List Bd} (e : puE h L v l = true) (h1 : h.k = 1) : sameV (h.v, h.vl) v = true := by
  unfold puE puH at e; rw [if_neg (by omega), if_pos h1] at e; exact e
theorem pu_2 {h : EH} {L : Ef} {v : Vv} {l : List Bd} (e : puE h L v l = true) (h2 : h.k = 2) : ∃ b, findB l h.nm = some b ∧ sameV b.2 v = true := by
  unfold puE puH at e
  rw [if_neg (by omega), if_neg (by omega), if_pos h2] at e
  cases hf : findB l h.nm with
  | none => rw [hf] at e; cases e
  | some b => rw [hf] at e; exact ⟨b, rfl, e⟩
theorem pu_go {h : EH} {L : Ef} {v : Vv} {l : List Bd} (e : puE h L v l = true) (h1 : h.k ≠ 1) (h2 : h.k ≠ 2) (h3 : h.k ≠ 3) : (h.k = 4 → v.1.k = 5) ∧ (h.k = 5 → v.1.k = 6 ∧ v.1.s = h.nm) ∧ L.len = v.2.len ∧ puL l L v.2 = true := by
  unfold puE puH at e
  rw [if_neg h3, if_neg h1, if_neg h2] at e
  split at e
  · cases e
  · rename_i hc
    refine ⟨fun h4 => ?_, fun h5 => ⟨?_, ?_⟩, ?_, e⟩
    · exact Classical.byContradiction fun h9 => hc (.inl ⟨h4, h9⟩)
    · exact Classical.byContradiction fun h9 => hc (.inr (.inl ⟨h5, .inl h9⟩))
    · exact Classical.byContradiction fun h9 => hc (.inr (.inl ⟨h5, .inr h9⟩))
    · exact Classical.byContradiction fun h9 => hc (.inr (.inr h9))
theorem pu_at {l : List Bd} {L : Ef} {V : Vf} {i : Nat} {x : EH × Ef} {y : Vv} (e : puL l (L.drop i) (V.drop i) = true) (hx : L.get? i = some x) (hy : V.get? i = some y) : puE x.1 x.2 y l = true ∧ puL l (L.drop (i + 1)) (V.drop (i + 1)) = true := by
  rw [Rose.drop_get hx, Rose.drop_get hy] at e
  exact (Bool.and_eq_true _ _).mp e
theorem vac_tr {F : Heap} {h : VH} {L : Vf} {v : Value} (hV : VaC F [.int .u8 (h.k : Int), .int .i64 h.n, .string (bs h.s), v] h L) : TrS F 4 VhR v L ∧ h.s.length ≤ 140737488355328 := by
  obtain ⟨u, e, h1, h2⟩ := hV
  obtain rfl : v = u := by simpa using e
  exact ⟨h1, h2⟩
theorem sameBsCt (F : Heap) (l : List Bd) (v u : Value) (hv : LiM F 5 BvR v l) (hu : LiM F 5 BvR u l) : Ct Tryz.prog 15 [v, u] F [] (fun _ _ u => u = .bool true) := by
 obtain ⟨ao, cap, rfl, hcap, hpos⟩ := hv
 obtain ⟨ao2, cap2, rfl, hcap2, hpos2⟩ := hu
 refine Ct.enter Tryz.func15 rfl Tryz.ntmps15 rfl fun w0 a S => ?_
 (revert S a; refine go02 10 ?_; intro Z hZ Z hZ a S)
 (refine wpl_v S rfl rfl rfl (sv_lit (c := false) (sv_pure S rfl) (by simp)) ?_; clear S a; intro a S)
 (refine wpList_nil (hZ _ _ ?_); clear hZ Z)
 refine wpc_false S rfl ?_
 (revert S a; revert hZ Z; refine go11 8 ?_; intro Z hZ a S)
 refine wpc_loop (fun m a w' => ∃ (k : Nat), m = l.length - k ∧ k ≤ l.length ∧ St 42 [(0, .slice ao l.length cap), (1, .slice ao2 l.length cap2), (5, .int .i64 (k : Int))] w0 F [] F [] a w') ?_ ?_
 ·(refine ⟨l.length, 0, by omega, Nat.zero_le _, ?_⟩; refine S.keep ?_; exact zk)
 (clear S; rintro m a w ⟨k, rfl, hkl, S⟩)
 (revert S a; refine go01 8 ?_; intro Z hZ a S)
 refine wpc_sp S rfl ?_ ?_ <;> intro h
 ·(revert S a; revert hZ Z; refine go11 4 ?_; intro Z hZ a S)
  (refine wp_seq_k ?_; intro Z hZ)
  (obtain ⟨b8, o8, hao, x, cs1, hx, hc1, a91, c91, rfl, hVx⟩ := LiM.pos hpos (k := k) (by omega); obtain ⟨b9, o9, hao2, y, cs2, hy, hd1, a92, c92, rfl, hVy⟩ := LiM.pos hpos2 (k := k) (by omega); obtain rfl : x = y := Option.some.inj (hx.symm.trans hy); rw [hao, hao2] at S; have hc2 := Cels.drop hc1 1; have hd2 := Cels.drop hd1 1)
  (refine wpc_mixM [0, 1, 2, 3, 4, 5, 6, 7, 8, 9, 10, 11, 12, 13, 14, 15, 16, 17, 18, 19, 20, 21, 23, 24] [4, 9, 16, 21] [] (.one 0 (.one 1 (.one 2 (.one 3 (.one 4 (.one 5 (.one 6 (.one 7 (.one 8 (.one 9 (.one 10 (.one 11 (.one 12 (.one 13 (.one 14 (.one 15 (.one 16 (.one 17 (.one 18 (.one 19 (.one 20 (.one 21 (.one 22 (.one 23 (.one 24 .nil))))))))))))))))))))))))) [] S mixed (by kernel_rfl) ?_; clear S; intro w S)
  iterate 2 (refine wpm_p S rfl rfl rfl (want_none _ rfl) rfl rfl ?_; clear S a; intro a S)
  (refine wpm_i S rfl rfl rfl (want_none _ rfl) rfl rfl ?_; clear S a; intro a S)
  (refine wpm_f S rfl rfl rfl (want_none _ rfl) rfl rfl ?_; clear S a; intro a S)
  (refine wpm_lateF S rfl rfl rfl (want_none _ rfl) rfl rfl (fun w' S => sv_loadF S rfl rfl (hc1 0 _ rfl)) ?_; clear S a; intro a S)
  iterate 2 (refine wpm_p S rfl rfl rfl (want_none _ rfl) rfl rfl ?_; clear S a; intro a S)
  (refine wpm_i S rfl rfl rfl (want_none _ rfl) rfl rfl ?_; clear S a; intro a S)
  (refine wpm_f S rfl rfl rfl (want_none _ rfl) rfl rfl ?_; clear S a; intro a S)
  (refine wpm_lateF S rfl rfl rfl (want_none _ rfl) rfl rfl (fun w' S => sv_loadF S rfl rfl (hd1 0 _ rfl)) ?_; clear S a; intro a S)
  (refine wpm_v S rfl rfl rfl (want_none _ rfl) rfl rfl (fun w' S => sv_lit (c := false) (sv_pure S rfl) (by simp)) ?_; clear S a; intro a S)
  (refine wpm_p S rfl rfl rfl (want_none _ rfl) rfl rfl ?_; clear S a; intro a S)
  iterate 2 (refine wpm_p S rfl rfl rfl (want_yes S rfl rfl rfl) rfl rfl ?_; clear S a; intro a S)
  (refine wpm_i S rfl rfl rfl (want_yes S rfl rfl rfl) rfl rfl ?_; clear S a; intro a S)
  (refine wpm_f S rfl rfl rfl (want_yes S rfl rfl rfl) rfl rfl ?_; clear S a; intro a S)
  (refine wpm_lateF S rfl rfl rfl (want_yes S rfl rfl rfl) rfl rfl (fun w' S => sv_loadAF S rfl rfl hc2 (by rfl)) ?_; clear S a; intro a S)
  iterate 2 (refine wpm_p S rfl rfl rfl (want_yes S rfl rfl rfl) rfl rfl ?_; clear S a; intro a S)
  (refine wpm_i S rfl rfl rfl (want_yes S rfl rfl rfl) rfl rfl ?_; clear S a; intro a S)
  (refine wpm_f S rfl rfl rfl (want_yes S rfl rfl rfl) rfl rfl ?_; clear S a; intro a S)
  (refine wpm_lateF S rfl rfl rfl (want_yes S rfl rfl rfl) rfl rfl (fun w' S => sv_loadAF S rfl rfl hd2 (by rfl)) ?_; clear S a; intro a S)
  refine wpm_eff rfl rfl (kwa S) ?_
  refine wpl_take S rfl rfl rfl ?_
  (refine wpl_call0 S rfl rfl rfl rfl rfl rfl (sameCt (x.2.2.size + 1) F x.2 x.2 _ _ (Nat.lt_succ_self _) hVx hVy) rfl ?_; clear S a; intro v39 a w hv S; rw [sameV_self] at hv; subst hv)
  skip
  refine wpList_nil ?_
  (refine wpm_p S rfl rfl rfl (want_yes S rfl rfl rfl) rfl rfl ?_; clear S a; intro a S)
  (refine wpm_p S rfl rfl rfl (want_none _ rfl) rfl rfl ?_; clear S a; intro a S)
  (refine wpm_nil (kwa S) (hZ _ _ ?_); clear hZ Z)
  refine wpc_false S rfl ?_
  (revert S a; revert hZ Z; refine go10 7 ?_; intro a S)
  change ∃ m', _ ∧ _
  (rw [← hao, ← hao2] at S; refine ⟨l.length - (k + 1), by omega, k + 1, rfl, by omega, ?_⟩; refine S.keep ?_; exact zk)
 (refine wp_exit ?_; conv => whnf)
 clear hZ Z
 (revert S a; revert hZ Z; refine go10 5 ?_; intro a S)
 refine wp_ret (fr1 S Tryz.results15 ?_)
 rfl
def LpD (m : Nat) : Prop := ∀ (F : Heap) (eh : EH) (xl : Ef) (cs : List Value) (vh : VH) (VL : Vf) (cs2 : List Value) (v0 : Value) (k0 : List Bd), xl.size < m → PxC F cs eh xl → BndH eh → BndL xl → VaC F cs2 vh VL → LiM F 5 BvR v0 k0 → puE eh xl (vh, VL) k0 = true →
  Ct Tryz.prog 22 [.agg ⟨cs⟩, .agg ⟨cs2⟩, v0] F [] (fun _ _ u => u = .bool true)
theorem zzLtH0 {p : Prop} (h : p := by (first | rfl | (exfalso; obtain ⟨bb, hb1, -⟩ := pu_2 hpu (by omega); rw [hfi, List.drop_of_length_le (by omega)] at hb1; cases hb1) | (exfalso; clear S; omega) | trace_state)) : p := h
theorem lputCt : ∀ m, LpD m := by
  intro m
  induction m with
  | zero => intro F eh xl cs vh VL cs2 v0 k0 hm; omega
  | succ m ih =>
  intro F eh xl cs vh VL cs2 v0 k0 hm hX hb hbl hV hl0 hpu
  obtain ⟨aw, nw, cw, ao, cap, rfl, hT2, hT3⟩ := hX
  obtain ⟨_, _, e9, hcap, hpos⟩ := hT3
  cases e9
  have hVc := hV
  obtain ⟨av, cv, rfl, hTV, hsv⟩ := vac_sl hVc
  have hP : VaC F [.int .u8 (eh.v.k : Int), .int .i64 eh.v.n, .string (bs eh.v.s), .slice aw nw cw] eh.v eh.vl := ⟨_, rfl, hT2, hb.2⟩
  obtain ⟨_, _, e9, hcapV, hposV⟩ := hTV
  cases e9
  obtain ⟨a0, c0, rfl, hcap0, hpos0⟩ := id hl0
  refine Ct.enter Tryz.func22 rfl Tryz.ntmps22 rfl fun w0 a S => ?_
  refine wp_sr fun Z hZ => ?_
  (refine wpl_box S rfl rfl rfl rfl rfl ?_; clear S a; intro b3 a w S)
  (refine wpl_box S rfl rfl rfl rfl rfl ?_; clear S a; intro b4 a w S)
  (revert S a; revert hZ Z; refine go11 15 ?_; intro Z hZ a S)
  refine wpc_sp S rfl ?_ ?_ <;> intro h
  · (revert S a; refine go00 4 ?_; intro a S)
    refine wp_ret (fr1 S Tryz.results22 ?_)
    exact zzLtH0
  (revert S a; refine go00 5 ?_; intro a S)
  refine wpc_sp S rfl ?_ ?_ <;> intro h
  · (revert S a; refine go01 4 ?_; intro Z hZ a S)
    (refine wpl_call0 S rfl rfl rfl rfl rfl rfl (sameCt (eh.vl.size + 1) F (eh.v, eh.vl) (vh, VL) _ _ (Nat.lt_succ_self _) hP hV) rfl ?_; clear S a; intro v18 a w hv S; rw [pu_1 hpu (by omega)] at hv; subst hv)
    (revert S a; revert hZ Z; refine go10 3 ?_; intro a S)
    refine wp_ret (fr1 S Tryz.results22 ?_)
    exact zzLtH0
  (revert S a; refine go00 5 ?_; intro a S)
  refine wpc_sp S rfl ?_ ?_ <;> intro h
  · (revert S a; refine go01 6 ?_; intro Z hZ a S)
    refine wpc_loop (fun m a w' => ∃ (i : Nat), m = k0.length - i ∧ i ≤ k0.length ∧ findB k0 eh.nm = findB (k0.drop i) eh.nm ∧ St 96 [(2, .slice a0 k0.length c0), (3, ptr b3), (4, ptr b4), (7, .int .i64 i)] w0 F [] F [[(b4, .cells ⟨[.int .u8 (vh.k : Int), .int .i64 vh.n, .string (bs vh.s), .slice av VL.len cv]⟩ 26 (0, 0))], [(b3, .cells ⟨[.int .u8 (eh.k : Int), .int .i64 eh.l, .int .i64 eh.c, .string (bs eh.nm), .int .u8 (eh.v.k : Int), .int .i64 eh.v.n, .string (bs eh.v.s), .slice aw nw cw, .slice ao xl.len cap]⟩ 29 (0, 0))]] a w') ?_ ?_
    · (refine ⟨k0.length, 0, by omega, Nat.zero_le _, rfl, ?_⟩; refine S.keep ?_; exact zk)
    (clear S; rintro m a w ⟨i, rfl, hil, hfi, S⟩)
    (revert S a; refine go01 8 ?_; intro Z hZ a S)
    refine wpc_sp S rfl ?_ ?_ <;> intro h
    · (revert S a; revert hZ Z; refine go11 4 ?_; intro Z hZ a S)
      (refine wp_seq_k ?_; intro Z hZ)
      (obtain ⟨b8, o8, hao, x, cs1, hx, hc1, a91, c91, rfl, hVx⟩ := LiM.pos hpos0 (k := i) (by omega); rw [hao] at S; have hc2 := Cels.drop hc1 1)
      (refine wpc_mixM [0, 1, 2, 3, 4, 5, 6, 7] [4, 6] [] (.one 0 (.one 1 (.one 2 (.one 3 (.one 4 (.one 5 (.one 6 (.one 7 .nil)))))))) [b3] S mixed (by kernel_rfl) ?_; clear S; intro w S)
      iterate 2 (refine wpm_p S rfl rfl rfl (want_none _ rfl) rfl rfl ?_; clear S a; intro a S)
      (refine wpm_i S rfl rfl rfl (want_none _ rfl) rfl rfl ?_; clear S a; intro a S)
      (refine wpm_f S rfl rfl rfl (want_none _ rfl) rfl rfl ?_; clear S a; intro a S)
      (refine wpm_lateF S rfl rfl rfl (want_none _ rfl) rfl rfl (fun w' S => sv_loadF S rfl rfl (hc1 0 _ rfl)) ?_; clear S a; intro a S)
      (refine wpm_f S rfl rfl rfl (want_none _ rfl) rfl rfl ?_; clear S a; intro a S)
      (refine wpm_o b3 S rfl rfl rfl (want_none _ rfl) rfl rfl ?_; clear S a; intro a S)
      (refine wpm_p S rfl rfl rfl (want_none _ rfl) rfl rfl ?_; clear S a; intro a S)
      (refine wpm_nil (kwa S) (hZ _ _ ?_); clear hZ Z)
      refine wpc_sp S rfl ?_ ?_ <;> intro h
      · (refine wp_seq_k ?_; intro Z hZ)
        (refine wpc_mixM [0, 1, 2, 3, 4, 5] [4, 5] [] (.one 0 (.one 1 (.one 2 (.one 3 (.one 4 (.one 5 (.one 6 (.one 7 .nil)))))))) [b4] S mixed (by kernel_rfl) ?_; clear S; intro w S)
        iterate 2 (refine wpm_p S rfl rfl rfl (want_none _ rfl) rfl rfl ?_; clear S a; intro a S)
        (refine wpm_i S rfl rfl rfl (want_none _ rfl) rfl rfl ?_; clear S a; intro a S)
        (refine wpm_f S rfl rfl rfl (want_none _ rfl) rfl rfl ?_; clear S a; intro a S)
        (refine wpm_lateF S rfl rfl rfl (want_none _ rfl) rfl rfl (fun w' S => sv_loadAF S rfl rfl hc2 (by rfl)) ?_; clear S a; intro a S)
        (refine wpm_o b4 S rfl rfl rfl (want_none _ rfl) rfl rfl ?_; clear S a; intro a S)
        refine wpm_eff rfl rfl (kwa S) ?_
        (have hsx : sameV x.2 (vh, VL) = true := (by obtain ⟨bb, hb1, hb2⟩ := pu_2 hpu (by omega); rw [hfi, find_from hx, if_pos (by assumption)] at hb1; cases hb1; exact hb2); refine wpl_call0 S rfl rfl rfl rfl rfl rfl (sameCt (x.2.2.size + 1) F x.2 (vh, VL) _ _ (Nat.lt_succ_self _) hVx hV) rfl ?_; clear S a; intro v41 a w hv S; rw [hsx] at hv; subst hv)
        refine wpList_nil ?_
        refine wpm_eff rfl rfl (kwa S) ?_
        (revert S a; refine go00 2 ?_; intro a S)
        (refine wpm_nil (kwa S) (hZ _ _ ?_); clear hZ Z)
        refine wp_ret (fr1 S Tryz.results22 ?_)
        exact zzLtH0
      (revert S a; revert hZ Z; refine go10 7 ?_; intro a S)
      change ∃ m', _ ∧ _
      (rw [← hao] at S; refine ⟨k0.length - (i + 1), by omega, i + 1, rfl, by omega, by rw [hfi, find_from hx, if_neg (by simpa using (by assumption : ¬ x.1 = eh.nm))], ?_⟩; refine S.keep ?_; exact zk)
    (refine wp_exit ?_; conv => whnf)
    clear hZ Z
    (revert S a; revert hZ Z; refine go10 5 ?_; intro a S)
    refine wp_ret (fr1 S Tryz.results22 ?_)
    exact zzLtH0
  (revert S a; revert hZ Z; refine go11 3 ?_; intro Z hZ a S)
  (refine wp_seq_k ?_; intro Z hZ)
  replace hZ : ∀ (a' : Act) (w' : World), (xl.len = VL.len ∧ puL k0 xl VL = true ∧ St 96 [(2, .slice a0 k0.length c0), (3, ptr b3), (4, ptr b4), (75, .bool false)] w0 F [] F [[(b4, .cells ⟨[.int .u8 (vh.k : Int), .int .i64 vh.n, .string (bs vh.s), .slice av VL.len cv]⟩ 26 (0, 0))], [(b3, .cells ⟨[.int .u8 (eh.k : Int), .int .i64 eh.l, .int .i64 eh.c, .string (bs eh.nm), .int .u8 (eh.v.k : Int), .int .i64 eh.v.n, .string (bs eh.v.s), .slice aw nw cw, .slice ao xl.len cap]⟩ 29 (0, 0))]] a' w') → Z a' w' := (by
   (intro a w hM; refine hZ _ _ ?_; clear hZ Z; clear S; obtain ⟨hlen, hpl, S⟩ := hM)
   refine wpc_false S rfl ?_
   (revert S a; revert hZ Z; refine go11 8 ?_; intro Z hZ a S)
   refine wpc_loop (fun m a w' => ∃ (i : Nat), m = xl.len - i ∧ i ≤ xl.len ∧ puL k0 (xl.drop i) (VL.drop i) = true ∧ St 96 [(2, .slice a0 k0.length c0), (3, ptr b3), (4, ptr b4), (8, .int .i64 i)] w0 F [] F [[(b4, .cells ⟨[.int .u8 (vh.k : Int), .int .i64 vh.n, .string (bs vh.s), .slice av VL.len cv]⟩ 26 (0, 0))], [(b3, .cells ⟨[.int .u8 (eh.k : Int), .int .i64 eh.l, .int .i64 eh.c, .string (bs eh.nm), .int .u8 (eh.v.k : Int), .int .i64 eh.v.n, .string (bs eh.v.s), .slice aw nw cw, .slice ao xl.len cap]⟩ 29 (0, 0))]] a w') ?_ ?_
   · (refine ⟨xl.len, 0, by omega, Nat.zero_le _, hpl, ?_⟩; refine S.keep ?_; exact zk)
   (clear S; rintro m a w ⟨i, rfl, hil, hpi, S⟩)
   (revert S a; refine go01 9 ?_; intro Z hZ a S)
   refine wpc_sp S rfl ?_ ?_ <;> intro h
   · (revert S a; revert hZ Z; refine go11 4 ?_; intro Z hZ a S)
     (refine wp_seq_k ?_; intro Z hZ)
     (obtain ⟨b8, o8, hao, x, cs1, u1, hx, hc1, hw9, hT1⟩ := TrM.pos hpos (k := i) (by omega); obtain ⟨b7, o7, hav, y, cs2, u2, hy, hd1, hw8, hT2y⟩ := TrM.pos hposV (k := i) (by omega); rw [hao, hav] at S; obtain ⟨rfl, hsl⟩ := hw8; have hVy : VaC F _ y.1 y.2 := ⟨u2, rfl, hT2y, hsl⟩; have hTc := hT2y; obtain ⟨a93, c93, rfl, -⟩ := hTc; (simp only [List.cons_append, List.nil_append] at hd1); have hXx := pxc_of hw9 hT1; have hXc := hXx; obtain ⟨a91, n91, c91, a92, c92, exx, -, -⟩ := hXc; rw [exx] at hc1 hXx; have hbx := hbl.get hx; have hxs := Rose.size_get hx; have hpx := pu_at hpi hx hy)
     (refine wpc_mixM [0, 1, 2, 3, 4, 5, 6, 7, 8, 9, 10, 12] [1, 4, 6, 9] [] (.one 0 (.one 1 (.one 2 (.one 3 (.one 4 (.one 5 (.one 6 (.one 7 (.one 8 (.one 9 (.one 10 (.one 11 (.one 12 .nil))))))))))))) [b3, b4] S mixed (by kernel_rfl) ?_; clear S; intro w S)
     (refine wpm_f S rfl rfl rfl (want_none _ rfl) rfl rfl ?_; clear S a; intro a S)
     (refine wpm_o b3 S rfl rfl rfl (want_none _ rfl) rfl rfl ?_; clear S a; intro a S)
     (refine wpm_p S rfl rfl rfl (want_none _ rfl) rfl rfl ?_; clear S a; intro a S)
     (refine wpm_i S rfl rfl rfl (want_none _ rfl) rfl rfl ?_; clear S a; intro a S)
     first | (refine wpm_lateF S rfl rfl rfl (want_none _ rfl) rfl rfl (fun w' S => sv_loadF S rfl rfl (by assumption)) ?_; clear S a; intro a S) | (refine wpm_lateF S rfl rfl rfl (want_none _ rfl) rfl rfl (fun w' S => sv_loadAF S rfl rfl (by assumption) (by rfl)) ?_; clear S a; intro a S)
     (refine wpm_f S rfl rfl rfl (want_none _ rfl) rfl rfl ?_; clear S a; intro a S)
     (refine wpm_o b4 S rfl rfl rfl (want_none _ rfl) rfl rfl ?_; clear S a; intro a S)
     (refine wpm_p S rfl rfl rfl (want_none _ rfl) rfl rfl ?_; clear S a; intro a S)
     (refine wpm_i S rfl rfl rfl (want_none _ rfl) rfl rfl ?_; clear S a; intro a S)
     first | (refine wpm_lateF S rfl rfl rfl (want_none _ rfl) rfl rfl (fun w' S => sv_loadF S rfl rfl (by assumption)) ?_; clear S a; intro a S) | (refine wpm_lateF S rfl rfl rfl (want_none _ rfl) rfl rfl (fun w' S => sv_loadAF S rfl rfl (by assumption) (by rfl)) ?_; clear S a; intro a S)
     (refine wpm_p S rfl rfl rfl (want_none _ rfl) rfl rfl ?_; clear S a; intro a S)
     refine wpm_eff rfl rfl (kwa S) ?_
     (refine wpl_call0 S rfl rfl rfl rfl rfl rfl (ih F x.1 x.2 _ y.1 y.2 _ _ k0 (by omega) hXx hbx.1 hbx.2 hVy hl0 hpx.1) rfl ?_; clear S a; intro v94 a w hv S; subst hv)
     skip
     refine wpList_nil ?_
     (refine wpm_p S rfl rfl rfl (want_none _ rfl) rfl rfl ?_; clear S a; intro a S)
     (refine wpm_nil (kwa S) (hZ _ _ ?_); clear hZ Z)
     refine wpc_false S rfl ?_
     (revert S a; revert hZ Z; refine go10 7 ?_; intro a S)
     change ∃ m', _ ∧ _
     (rw [← hao, ← hav] at S; refine ⟨xl.len - (i + 1), by omega, i + 1, rfl, by omega, hpx.2, ?_⟩; refine S.keep ?_; exact zk)
   (refine wp_exit ?_; conv => whnf)
   clear hZ Z
   (revert S a; revert hZ Z; refine go10 5 ?_; intro a S)
   refine wp_ret (fr1 S Tryz.results22 ?_)
   (first | rfl | (exfalso; obtain ⟨bb, hb1, -⟩ := pu_2 hpu (by omega); rw [hfi, List.drop_of_length_le (by omega)] at hb1; cases hb1) | (exfalso; clear S; omega) | trace_state))
  (have hgo := pu_go hpu (by omega) (by omega) (by omega); dsimp only at hgo; have hlen : xl.len = VL.len := hgo.2.2.1)
  (revert S a; refine go00 5 ?_; intro a S)
  refine wpl_guard S rfl rfl rfl rfl rfl ?_ ?_
  · (clear S; intro h S; (try simp only [tq] at h))
    (revert S a; refine go00 4 ?_; intro a S)
    (refine wpl_v S rfl rfl rfl (sv_lit (c := false) (sv_pure S rfl) (by rw [bne_eq_false_iff_eq]; have := hgo.1 (by omega); omega)) ?_; clear S a; intro a S)
    (revert S a; refine go00 7 ?_; intro a S)
    (refine wpl_v S rfl rfl rfl (sv_lit (c := false) (sv_pure S rfl) (by rw [beq_eq_false_iff_ne]; omega)) ?_; clear S a; intro a S)
    (revert S a; refine go00 6 ?_; intro a S)
    iterate 5 (refine wpl_skipU S rfl rfl rfl rfl rfl ?_; clear S a; intro a S)
    (revert S a; refine go00 18 ?_; intro a S)
    (refine wpl_v S rfl rfl rfl (sv_lit (c := false) (sv_pure S rfl) (by rw [bne_eq_false_iff_eq]; omega)) ?_; clear S a; intro a S)
    (revert S a; refine go00 2 ?_; intro a S)
    (refine hZ _ _ ?_)
    (refine ⟨hlen, hgo.2.2.2, ?_⟩; refine S.keep ?_; exact zk)
  (intro h; clear S a; intro a S; (try simp only [tq] at h))
  (revert S a; refine go00 12 ?_; intro a S)
  refine wpl_guard S rfl rfl rfl rfl rfl ?_ ?_
  · (clear S; intro h S; (try simp only [tq] at h))
    (revert S a; refine go00 4 ?_; intro a S)
    (refine wpl_v S rfl rfl rfl (sv_lit (c := false) (sv_pure S rfl) (by rw [bne_eq_false_iff_eq]; have := (hgo.2.1 (by omega)).1; omega)) ?_; clear S a; intro a S)
    (revert S a; refine go00 11 ?_; intro a S)
    (refine wpl_v S rfl rfl rfl (sv_lit (c := false) (sv_pure S rfl) (by rw [(hgo.2.1 (by omega)).2]; simp)) ?_; clear S a; intro a S)
    (revert S a; refine go00 19 ?_; intro a S)
    (refine wpl_v S rfl rfl rfl (sv_lit (c := false) (sv_pure S rfl) (by rw [bne_eq_false_iff_eq]; omega)) ?_; clear S a; intro a S)
    (revert S a; refine go00 2 ?_; intro a S)
    (refine hZ _ _ ?_)
    (refine ⟨hlen, hgo.2.2.2, ?_⟩; refine S.keep ?_; exact zk)
  (intro h; clear S a; intro a S; (try simp only [tq] at h))
  (revert S a; refine go00 3 ?_; intro a S)
  iterate 5 (refine wpl_skipU S rfl rfl rfl rfl rfl ?_; clear S a; intro a S)
  (revert S a; refine go00 18 ?_; intro a S)
  (refine wpl_v S rfl rfl rfl (sv_lit (c := false) (sv_pure S rfl) (by rw [bne_eq_false_iff_eq]; omega)) ?_; clear S a; intro a S)
  (revert S a; refine go00 2 ?_; intro a S)
  (refine hZ _ _ ?_)
  (refine ⟨hlen, hgo.2.2.2, ?_⟩; refine S.keep ?_; exact zk)
end Go.Proofs.YthnafdbebniapaaGreatDoor
