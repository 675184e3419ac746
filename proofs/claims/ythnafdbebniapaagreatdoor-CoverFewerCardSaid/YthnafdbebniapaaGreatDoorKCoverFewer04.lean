/- Walks. -/
import Derived.Test.YthnafdbebniapaaGreatDoorKCoverFewer03
set_option maxHeartbeats 32000000
set_option maxRecDepth 20000
namespace Go.Proofs.YthnafdbebniapaaGreatDoor
open Go Go.Wk Go.Un Go.De Go.Cv
set_option linter.unusedSimpArgs false
set_option linter.unusedVariables false
attribute [local irreducible] Go.wpList Go.Code.wp Go.wpStill Go.Wk.wpPre Go.bodyPost Go.Calls Go.Wk.Ct Go.Wk.OwnS
attribute [local irreducible] Go.Wk.wpG Go.Wk.wpM
theorem zzLtF0 {p : Prop} (h : p := by (first | rfl | exact congrArg Value.bool (beq_self_eq_true _) | exact congrArg Value.bool (by rw [hz0, hv1]; exact beq_self_eq_true _) | trace_state)) : p := h
theorem zzLtF1 {p : Prop} (h : p := by (first | (have hb : usuC ts (tysOf xs) (rows.take k) r = false := (by assumption); (try rw [← hao9] at S); (try rw [← hao] at S); refine ⟨rows.length - (k + 1), by omega, k + 1, j + 1, v, ys, g, rfl, by omega, ?_, by rw [few_at hx2, hb]; simpa using hown, by rw [few_at hx2, hb]; simpa using hys, ?_⟩; rotate_left 1; (refine S.keep ?_; exact zk); rw [usl_at hx2, hb, List.length_append, hj]; rfl) | (have hb : usuC ts (tysOf xs) (rows.take k) r = true := (by assumption); have hys2 := hys.app (LiC.one (R := RwR) rfl ⟨_, rfl, hu1⟩); (try rw [← hao9] at S); (try rw [← hao] at S); refine ⟨rows.length - (k + 1), by omega, k + 1, j, _, _, _, rfl, by omega, ?_, by rw [few_at hx2, hb, if_pos rfl, List.length_append]; exact hown, by rw [few_at hx2, hb, if_pos rfl]; exact hys2, ?_⟩; rotate_left 1; (refine S.keep ?_; exact zk); rw [usl_at hx2, hb, if_pos rfl, List.append_nil, hj]) | trace_state)) : p := h
theorem fewerCt (F : Heap) (hM : MaxF F) (hT : TabF F) (hE : ErrT F) (ts : List TD) (v v1 v2 : Value) (xs : Fo) (rows : List Ef) (hL : LiM F 6 TdR v ts) (h1 : SlF F v1 xs) (h2 : LiM F 1 RwR v2 rows) (hB : RowsB rows) :
    Ct Tryz.prog 7 [v, v1, v2] F [] (fun _ _ u => u = .bool true) := by
 obtain ⟨a0, c0, rfl, -, -⟩ := id hL
 obtain ⟨a1, c1, rfl, -, -⟩ := id h1
 obtain ⟨a2, c2, rfl, h2c, -⟩ := id h2
 refine Ct.enter Tryz.func7 rfl Tryz.ntmps7 rfl fun w0 a S => ?_
 (revert S a; refine go02 9 ?_; intro Z hZ Z hZ a S)
 (refine wpl_call0 S rfl rfl rfl rfl rfl rfl (lfitsCt F ts _ _ _ xs rows hL h1 h2) rfl ?_; clear S a; intro v22 a w hv S; obtain ⟨b22, rfl, hf22⟩ := hv)
 (revert S a; refine go00 2 ?_; intro a S)
 refine wpl_guard S rfl rfl rfl rfl rfl ?_ ?_
 ·(clear S; intro h S; (try simp only [tq] at h))
  (refine wpl_call0 S rfl rfl rfl rfl rfl rfl (awakeCt F hM hT hE) rfl ?_; clear S a; intro v25 a w hv S; subst hv)
  refine wpl_take S rfl rfl rfl ?_
  (refine wpl_v S rfl rfl rfl (sv_lit (c := false) (sv_pure S rfl) (by rfl)) ?_; clear S a; intro a S)
  (revert S a; revert hZ Z; refine go10 3 ?_; intro a S)
  refine wpc_false S rfl ?_
  refine wp_skip ?_
  (refine hZ _ _ ?_; clear hZ Z)
  (refine wp_seq_k ?_; intro Z hZ)
  (have hFt : FtB ts xs rows := hf22 (by simp_all))
  (revert S a; refine go00 2 ?_; intro a S)
  (refine wpl_callF S rfl rfl rfl rfl rfl rfl (tableCt F hE ts _ hL hFt.t) rfl ?_; clear S a; intro v31 F1 a w hv hF1 S; obtain ⟨p1, p2, rfl, hok⟩ := hv)
  (revert S a; revert hZ Z; refine go11 15 ?_; intro Z hZ a S)
  refine wpc_sp S rfl ?_ ?_ <;> intro h
  ·(revert S a; refine go00 4 ?_; intro a S)
   refine wp_ret (fr1 S Tryz.results7 ?_)
   exact zzLtF0
  refine wp_skip ?_
  (refine hZ _ _ ?_; clear hZ Z)
  (refine wp_seq_k ?_; intro Z hZ)
  (obtain ⟨tb, tp, rfl, rfl, hC, -, hTk⟩ := hok (by simp_all); have h1a := h1.mono hF1; have h2a := h2.mono hF1; have hx := hFt.x; have hxl := Fo.len_size xs; have hq1 : SlF F1 (.slice a1 xs.len c1) (foOf (tysOf xs)) := (by rw [fo_tys]; exact h1a); have hl29 := fo_len_30 hx; have hrl := totR_len rows; have hr2 := Nat.le_of_lt hFt.r)
  (revert S a; refine go00 4 ?_; intro a S)
  (refine wpl_callNew S rfl rfl rfl rfl rfl rfl (uselessCt F1 (hM.mono hF1) (hT.mono hF1) tb ts hC hFt.t.tsz _ _ (tysOf xs) rows (ckb_of hx (by omega) hB) hq1 h2a (fun h => uru_usl hFt.t hTk hx hr2 hB h)) rfl ?_; clear S a; intro v41 G9 a w hv S; obtain ⟨F2, ao9, cap9, l9, hle2, rfl, hl9, hp9, h63, S2⟩ := us_S S hv; clear S hv; have S := S2; clear S2; replace hC := hC.mono hle2; replace h2a := h2a.mono hle2; replace hq1 := hq1.mono hle2; replace hle2 : ∀ b o, F b = some o → F2 b = some o := (fun b o h => hle2 _ _ (hF1 _ _ h)))
  (revert S a; revert hZ Z; refine go11 11 ?_; intro Z hZ a S)
  (refine wpl_call0 S rfl rfl rfl rfl rfl rfl (coversCt F2 (hM.mono hle2) (hT.mono hle2) tb ts hC hFt.t.tsz _ _ (tysOf xs) rows (ckb_of hx (by omega) hB) hq1 h2a (fun h => uru_cov hFt.t hTk hx hr2 hB h)) rfl ?_; clear S a; intro v48 a w hv S; unfold CoQ at hv; subst hv)
  (revert S a; revert hZ Z; refine go12 12 ?_; intro Z hZ Z hZ a S)
  refine wpl_guard S rfl rfl rfl rfl rfl ?_ ?_
  ·(clear S; intro h S; (try simp only [tq] at h))
   (revert S a; revert hZ Z; refine go10 6 ?_; intro a S)
   refine wpc_sp S rfl ?_ ?_ <;> intro h
   ·(revert S a; refine go00 7 ?_; intro a S)
    refine wp_ret (fr1 S Tryz.results7 ?_)
    exact zzLtF0
   refine wp_skip ?_
   (refine hZ _ _ ?_; clear hZ Z)
   (refine wp_seq_k ?_; intro Z hZ)
   (have hz0 : chkE ts (tysOf xs) rows = 0 := (by simp_all); replace hl9 := hl9 hz0; obtain ⟨x1, x2, ex, -, h2p⟩ := id h2a; cases ex)
   (revert S a; revert hZ Z; refine go11 14 ?_; intro Z hZ a S)
   refine wpc_loop (fun m a w' => ∃ (k j : Nat) (v : Value) (ys : List Value) (g : Grp), m = rows.length - k ∧ k ≤ rows.length ∧ j = (uslC ts (tysOf xs) (rows.take k)).length ∧ OwnS 27 1 v (fewC ts (tysOf xs) (rows.take k)).length ys g ∧ LiC F2 1 RwR ys (fewC ts (tysOf xs) (rows.take k)) ∧ St 123 [(1, .slice a1 xs.len c1), (2, .slice a2 rows.length c2), (7, .pointer (some ⟨tb, 0, none⟩)), (10, .slice ao9 l9.length cap9), (12, .bool (decide (chkE ts (tysOf xs) rows = 0) && covC ts (tysOf xs) rows)), (14, v), (15, .int .i64 j), (16, .int .i64 k)] w0 F [] F2 [g] a w') ?_ ?_
   ·(replace S := S.nilg; refine ⟨rows.length, 0, 0, .slice none 0 0, [], [], by omega, Nat.zero_le _, rfl, OwnS.nil _ _, rfl, ?_⟩; refine S.keep ?_; exact zk)
   (clear S; rintro m a w ⟨k, j, v, ys, g, rfl, hkl, hj, hown, hys, S⟩)
   (revert S a; refine go01 8 ?_; intro Z hZ a S)
   refine wpc_sp S rfl ?_ ?_ <;> intro h
   ·(revert S a; revert hZ Z; refine go11 4 ?_; intro Z hZ a S)
    (refine wp_seq_k ?_; intro Z hZ)
    (obtain ⟨b8, o8, hao, r, cs1, hx2, hcr, ⟨u1, rfl, hu1⟩⟩ := LiM.pos h2p (k := k) (by omega); replace hcr : Cel F2 b8 (o8 + k * 1) _ := hcr 0 _ rfl; obtain ⟨ar, cr, rfl⟩ := trs_slc hu1; have hfwl := (few_len (ts := ts) (xs := tysOf xs) (rows.take k) []).1; rw [List.length_take] at hfwl; have hfwl2 : (fewC ts (tysOf xs) (rows.take k)).length ≤ k := (by unfold fewC; omega); obtain ⟨hs1, hs2⟩ := usl_step (ts := ts) (xs := tysOf xs) hx2; rw [← hl9, ← hj] at hs1 hs2)
    (revert S a; refine go00 6 ?_; intro a S)
    refine wpl_guard S rfl rfl rfl rfl rfl ?_ ?_
    ·(clear S; intro h S; (try simp only [tq] at h))
     (obtain ⟨b9, o9, hao9, hc9⟩ := hp9 (by omega); obtain ⟨m9, hm9⟩ : ∃ m, l9[j]? = some m := ⟨_, List.getElem?_eq_getElem (by omega)⟩; have hcl : Cel F2 b9 (o9 + j * 1) (.int .i64 (m9 : Int)) := (by have h := hc9 j (.int .i64 (m9 : Int)) (by unfold ints; rw [List.getElem?_map, hm9]; rfl); rwa [Nat.mul_one]); rw [hao9] at S; refine wpl_p S rfl rfl rfl ?_; clear S a; intro a S)
     (revert S a; refine go00 5 ?_; intro a S)
     (refine wpl_v S rfl rfl rfl (sv_loadF S rfl rfl hcl) ?_; clear S a; intro a S)
     (revert S a; revert hZ Z; refine go10 7 ?_; intro a S)
     refine wpc_sp S rfl ?_ ?_ <;> intro h
     ·(have hb : usuC ts (tysOf xs) (rows.take k) r = false := Bool.eq_false_iff.2 fun hu => hs1 hu m9 hm9 (by omega))
      (revert S a; revert hZ Z; refine go10 11 ?_; intro a S)
      change ∃ m', _ ∧ _
      exact zzLtF1
     (have hb : usuC ts (tysOf xs) (rows.take k) r = true := (by cases hu : usuC ts (tysOf xs) (rows.take k) r with | true => rfl | false => (have h5 := hs2 hu; have h6 := (List.getElem?_eq_some_iff.1 h5).1; first | (exfalso; omega) | (rw [hm9] at h5; cases h5; exfalso; omega))); rw [hao] at S)
     (revert S a; refine go00 5 ?_; intro a S)
     (refine wpl_v S rfl rfl rfl (sv_loadF S rfl rfl hcr) ?_; clear S a; intro a S)
     (refine wpl_append S rfl rfl rfl rfl rfl rfl rfl rfl rfl rfl rfl (fun _ => rfl) hown (by rfl) (by simp [Value.cells, splice, splice]) (by simp [Value.cells, Value.oneCell', splice, splice]) rfl (by rfl) (by rfl) rfl (by omega) (by omega) ?_; clear hown S a; intro v u g a w hown S)
     (revert S a; revert hZ Z; refine go10 8 ?_; intro a S)
     change ∃ m', _ ∧ _
     exact zzLtF1
    (intro h; clear S a; intro a S; (try simp only [tq] at h))
    (revert S a; revert hZ Z; refine go10 8 ?_; intro a S)
    refine wpc_false S rfl ?_
    (have hb : usuC ts (tysOf xs) (rows.take k) r = true := (by cases hu : usuC ts (tysOf xs) (rows.take k) r with | true => rfl | false => (have h5 := hs2 hu; have h6 := (List.getElem?_eq_some_iff.1 h5).1; first | (exfalso; omega) | (rw [hm9] at h5; cases h5; exfalso; omega))); rw [hao] at S)
    (revert S a; refine go00 5 ?_; intro a S)
    (refine wpl_v S rfl rfl rfl (sv_loadF S rfl rfl hcr) ?_; clear S a; intro a S)
    (refine wpl_append S rfl rfl rfl rfl rfl rfl rfl rfl rfl rfl rfl (fun _ => rfl) hown (by rfl) (by simp [Value.cells, splice, splice]) (by simp [Value.cells, Value.oneCell', splice, splice]) rfl (by rfl) (by rfl) rfl (by omega) (by omega) ?_; clear hown S a; intro v u g a w hown S)
    (revert S a; revert hZ Z; refine go10 8 ?_; intro a S)
    change ∃ m', _ ∧ _
    exact zzLtF1
   (refine wp_exit ?_; conv => whnf)
   clear hZ Z
   (refine hZ _ _ ?_; clear hZ Z)
   (refine wp_seq_k ?_; intro Z hZ)
   (have hk : k = rows.length := (by omega); subst hk; rw [List.take_length] at hown hys hj; have hlf := few_len (ts := ts) (xs := tysOf xs) rows []; have hlf2 : (fewC ts (tysOf xs) rows).length ≤ rows.length := hlf.1; have hlf3 : totR (fewC ts (tysOf xs) rows) ≤ 200 := Nat.le_trans hlf.2 hr2; have hle3 := add_le (G1 := []) (G2 := []) S; have h3 : LiM _ 1 RwR v (fewC ts (tysOf xs) rows) := LiC.lim hown hys rfl hle3 (by omega); replace S := St.freeze (G1 := []) (G2 := []) S; generalize hF3 : Heap.add F2 _ = F3 at *; clear hF3; have hle4 : ∀ b o, F b = some o → F3 b = some o := (fun b o h => hle3 _ _ (hle2 _ _ h)); have hz1 := chk_few hz0; obtain ⟨hu1, hv1⟩ := few_end hTk hz0; have hjl : j = l9.length := (by rw [hj, hl9]); obtain ⟨af, cf, rfl, -, -⟩ := id h3)
   (revert S a; refine go00 4 ?_; intro a S)
   (refine wpl_callNew S rfl rfl rfl rfl rfl rfl (uselessCt F3 (hM.mono hle4) (hT.mono hle4) tb ts (hC.mono hle3) hFt.t.tsz _ _ (tysOf xs) (fewC ts (tysOf xs) rows) (ckb_of hx (by omega) (rowsB_few hB)) (hq1.mono hle3) h3 (fun h => uru_usl hFt.t hTk hx hlf3 (rowsB_few hB) h)) rfl ?_; clear S a; intro v91 G9 a w hv S; rw [hz1] at hv; obtain ⟨F4, ao8, cap8, l8, hle5, rfl, hl8, -, -, S2⟩ := us_S S hv; clear S hv; have S := S2; clear S2; have hl0 : l8 = [] := (hl8 rfl).trans hu1; subst hl0)
   (revert S a; revert hZ Z; refine go11 11 ?_; intro Z hZ a S)
   (refine wpl_call0 S rfl rfl rfl rfl rfl rfl (coversCt F4 (hM.mono (fun b o h => hle5 _ _ (hle4 _ _ h))) (hT.mono (fun b o h => hle5 _ _ (hle4 _ _ h))) tb ts ((hC.mono hle3).mono hle5) hFt.t.tsz _ _ (tysOf xs) (fewC ts (tysOf xs) rows) (ckb_of hx (by omega) (rowsB_few hB)) ((hq1.mono hle3).mono hle5) (h3.mono hle5) (fun h => uru_cov hFt.t hTk hx hlf3 (rowsB_few hB) h)) rfl ?_; clear S a; intro v98 a w hv S; unfold CoQ at hv; rw [hz1] at hv; subst hv)
   (revert S a; revert hZ Z; refine go11 11 ?_; intro Z hZ a S)
   (refine wpl_v S rfl rfl rfl (sv_lit (c := true) (sv_pure S rfl) (by exact decide_eq_true (by omega))) ?_; clear S a; intro a S)
   (revert S a; refine go00 4 ?_; intro a S)
   (refine wpl_v S rfl rfl rfl (sv_lit (c := true) (sv_pure S rfl) (by rfl)) ?_; clear S a; intro a S)
   (revert S a; refine go00 5 ?_; intro a S)
   (refine wpl_v S rfl rfl rfl (sv_lit (c := true) (sv_pure S rfl) (by rfl)) ?_; clear S a; intro a S)
   (revert S a; refine go00 7 ?_; intro a S)
   (refine wpl_v S rfl rfl rfl (sv_lit (c := true) (sv_pure S rfl) (by rfl)) ?_; clear S a; intro a S)
   (revert S a; revert hZ Z; refine go10 12 ?_; intro a S)
   refine wp_ret (fr1 S Tryz.results7 ?_)
   exact zzLtF0
  (intro h; clear S a; intro a S; (try simp only [tq] at h))
  (revert S a; revert hZ Z; refine go10 4 ?_; intro a S)
  refine wpc_true S rfl ?_
  (revert S a; refine go00 7 ?_; intro a S)
  refine wp_ret (fr1 S Tryz.results7 ?_)
  exact zzLtF0
 (intro h; clear S a; intro a S; (try simp only [tq] at h))
 (revert S a; revert hZ Z; refine go10 4 ?_; intro a S)
 refine wpc_true S rfl ?_
 refine wp_sr fun Z hZ => ?_
 (refine wpl_call0 S rfl rfl rfl rfl rfl rfl (awakeCt F hM hT hE) rfl ?_; clear S a; intro v28 a w hv S; subst hv)
 (revert S a; revert hZ Z; refine go10 3 ?_; intro a S)
 refine wp_ret (fr1 S Tryz.results7 ?_)
 exact zzLtF0
end Go.Proofs.YthnafdbebniapaaGreatDoor
