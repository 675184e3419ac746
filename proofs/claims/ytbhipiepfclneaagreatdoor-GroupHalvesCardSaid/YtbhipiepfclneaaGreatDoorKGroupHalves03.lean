/- Walks. -/
import Derived.Test.YtbhipiepfclneaaGreatDoorKGroupHalves02
set_option maxHeartbeats 64000000
set_option maxRecDepth 20000
namespace Go.Proofs.YtbhipiepfclneaaGreatDoor
open Go Go.Wk Go.Un Go.De Go.Num
set_option linter.unusedSimpArgs false
set_option linter.unusedVariables false
attribute [local irreducible] Go.wpList Go.Code.wp Go.wpStill Go.Wk.wpPre Go.bodyPost Go.Calls Go.Wk.Ct Go.Wk.OwnS Go.Wk.wpG Go.Wk.wpM
theorem zzGu0 {p : Prop} (h : p := by (first | (have hkk : k < l.length := (by omega); refine ⟨n, ba, va, ga, gb, hl n (List.mem_of_getElem? hx), by rw [List.getElem?_append_left hkk]; exact hx, hvx_a hl hI hkk hx, ?_⟩; rw [← hao] at S; (refine S.keep ?_; exact zk)) | (have hkk : ¬ k < l.length := (by omega); refine ⟨n, bb, vb, gb, ga, hm n (List.mem_of_getElem? hx), by rw [List.getElem?_append_right (by omega)]; exact hx, hvx_b hm hI hkk hx, ?_⟩; rw [← hao] at S; replace S := stp S pm_s; (refine S.keep ?_; exact zk)) | trace_state)) : p := h
theorem gHalvesCt (F : Heap) (hq : TabF F) (he : ErrF F) (v0 v1 : Value) (l m : List Int) (hL : LiM F 1 IntR v0 l) (hM : LiM F 1 IntR v1 m) (hl : ∀ n ∈ l, i64 n) (hm : ∀ n ∈ m, i64 n) :
    Ct Tryz.prog 4 [v0, v1] F [] (fun _ _ u => u = .bool true) := by
  have hLc := hL
  have hMc := hM
  obtain ⟨ao, cap, rfl, hcap, hpos⟩ := hLc
  obtain ⟨ao2, cap2, rfl, hcap2, hpos2⟩ := hMc
  refine Ct.enter Tryz.func4 rfl Tryz.ntmps4 rfl fun w0 a S => ?_
  (revert S a; refine go 10 ?_; intro Z hZ Z hZ a S)
  refine wgd S ?_ ?_
  · (clear S; intro h S)
    (revert S a; refine go 7 ?_; intro a S)
    refine wgd S ?_ ?_
    · (clear S; intro h S)
      (revert S a; refine go 7 ?_; intro a S)
      refine wgd S ?_ ?_
      · (clear S; intro h S)
        (revert S a; refine go 7 ?_; intro a S)
        refine wgd S ?_ ?_
        · (clear S; intro h S)
          (refine wc0 S (gAwakeCt F hq he) ?_; clear S a; intro v45 a w hv S; subst hv)
          refine wpl_take S rfl rfl rfl ?_
          (refine wv S (sv_lit (c := false) (sv_pure S rfl) (by rfl)) ?_; clear S a; intro a S)
          (revert S a; revert hZ Z; refine go 3 ?_; intro a S)
          refine wpc_false S rfl ?_
          (revert S a; revert hZ Z; refine go 3 ?_; intro Z hZ a S)
          (refine wpl_buildSlice S rfl rfl rfl rfl rfl rfl (by rfl) (by simp [Value.cells, splice, splice]) rfl (by rfl) (by rfl) ?_; clear S a; intro b49 a w hown S)
          (revert S a; revert hZ Z; refine go 3 ?_; intro a S)
          (refine wp_seq_k ?_; intro Z hZ)
          (have S' := frz1 S; clear S; obtain ⟨F1, hF1, hb49, S⟩ := S'; have hA := lim_of hb49 (strs_lic F1 agH) (by decide))
          (revert S a; refine go 2 ?_; intro a S)
          (refine wpl_gNew S rfl rfl rfl rfl rfl rfl (newGCt F1 _ agH hA (by decide)) (by kernel_rfl) rfl ?_; clear S a; intro ba va ga F2 a w hOba hLba hF52 S; replace hA := hA.mono hF52)
          (revert S a; revert hZ Z; refine go 9 ?_; intro Z hZ a S)
          (refine wpl_gNew S rfl rfl rfl rfl rfl rfl (newGCt F2 _ agH hA (by decide)) (by kernel_rfl) rfl ?_; clear S a; intro bb vb gb F3 a w hObb hLbb hF57 S; replace hA := hA.mono hF57; replace hOba := hOba.mono hF57; replace hLba := hLba.mono hF57)
          (revert S a; revert hZ Z; refine go 9 ?_; intro Z hZ a S)
          (refine wpl_gNew S rfl rfl rfl rfl rfl rfl (newGCt F3 _ agH hA (by decide)) (by kernel_rfl) rfl ?_; clear S a; intro bc vc gc F4 a w hObc hLbc hF62 S; replace hA := hA.mono hF62; replace hOba := hOba.mono hF62; replace hLba := hLba.mono hF62; replace hObb := hObb.mono hF62; replace hLbb := hLbb.mono hF62; have hm4 : ∀ b o, F b = some o → F4 b = some o := (fun b o h => hF62 _ _ (hF57 _ _ (hF52 _ _ (hF1 _ _ h)))); have hl0 : l ≠ [] := (fun e => by subst e; simp at *); have hm0 : m ≠ [] := (fun e => by subst e; simp at *); have hI : HvI l m _ _ F4 0 ba bb bc va vb vc ga gb gc := ⟨hq.mono hm4, he.mono hm4, hL.mono hm4, hM.mono hm4, hLba, hLbb, hLbc, hOba, (by rw [Nat.zero_sub]; exact hObb), hObc⟩; clear hA)
          (revert S a; revert hZ Z; refine go 13 ?_; intro Z hZ a S)
          refine wpc_loop (fun q a w' => ∃ (k : Nat) (F2 : Heap) (ga gb gc : Grp), q = l.length + m.length - k ∧ k ≤ l.length + m.length ∧ (∀ b o, F b = some o → F2 b = some o) ∧ HvI l m (.slice ao l.length cap) (.slice ao2 m.length cap2) F2 k ba bb bc va vb vc ga gb gc ∧ St 199 [(0, .slice ao l.length cap), (1, .slice ao2 m.length cap2), (6, ptr ba), (8, ptr bb), (10, ptr bc), (12, .int .i64 k)] w0 F [] F2 [ga, gb, gc] a w') ?_ ?_
          · (refine ⟨l.length + m.length, 0, F4, ga, gb, gc, by omega, Nat.zero_le _, hm4, hI, ?_⟩; replace S := stp S pm_r; (refine S.keep ?_; exact zk))
          (clear S hI; rintro q a w ⟨k, F5, ga, gb, gc, rfl, hk, hm5, hI, S⟩)
          (revert S a; refine go 11 ?_; intro Z hZ a S)
          refine wpc_sp S rfl ?_ ?_ <;> intro h
          · (revert S a; revert hZ Z; refine go 10 ?_; intro Z hZ a S)
            (refine wp_seq_k ?_; intro Z hZ)
            replace hZ : ∀ (a' : Act) (w' : World), (∃ (n : Int) (bX : Nat) (vX : Value) (gX gY : Grp), i64 n ∧ (l ++ m)[k]? = some n ∧ HvX l m F5 k n ba bb va vb bX vX gX gY ∧ St 199 [(0, .slice ao l.length cap), (1, .slice ao2 m.length cap2), (6, ptr ba), (8, ptr bb), (10, ptr bc), (12, .int .i64 k), (13, ptr bX), (14, .int .i64 n)] w0 F [] F5 [gX, gY, gc] a' w') → Z a' w' := (by
             (intro a w hM; refine hZ _ _ ?_; clear hZ Z; clear S; obtain ⟨n, bX, vX, gX, gY, hn, hx, hX, S⟩ := hM)
             (revert S a; refine go 2 ?_; intro Z hZ a S)
             (refine wc0 S (bigOfCt n F5 hI.T hn.1 hn.2) ?_; clear S a; intro v a w hv S; subst hv)
             (revert S a; refine go 1 ?_; intro a S)
             (refine wpl_alloc S rfl rfl rfl rfl ?_; clear S a; intro b15 a w S)
             (refine wso S rfl rfl ?_; clear S; intro w S)
             (revert S a; revert hZ Z; refine go 5 ?_; intro Z hZ a S)
             (refine wpl_buildSlice S rfl rfl rfl rfl rfl rfl (by rfl) (by simp [Value.cells, splice, splice]) rfl (by rfl) (by rfl) ?_; clear S a; intro b96 a w hown S)
             (revert S a; revert hZ Z; refine go 3 ?_; intro a S)
             (refine wp_seq_k ?_; intro Z hZ)
             (have S' := frz1 S; clear S; obtain ⟨F6, hF6, hb96, S⟩ := S'; have S' := frz1 S; clear S; obtain ⟨F7, hF7, hb15, S⟩ := S'; have hm7 : ∀ b o, F5 b = some o → F7 b = some o := (fun b o h => hF7 _ _ (hF6 _ _ h)); have hc15 : Cels F7 b15 0 (vcl (bigH n)) := cels_of hb15; have hW := row_lit (l := [hN (k : Int)]) (hF7 _ _ hb96) rfl (way_sl k) (show 1 ≤ 140737488355328 by decide); have hkx : k < l.length + m.length := (by omega))
             (revert S a; refine go 3 ?_; intro a S)
             iterate 4 (refine wv S (sv_loadAF S rfl rfl (vs := vcl (bigH n)) hc15 rfl) ?_; clear S a; intro a S)
             (refine wpl_buildSlice S rfl rfl rfl rfl rfl rfl (by rfl) (by simp [Value.cells, splice, splice]) rfl (by rfl) (by rfl) ?_; clear S a; intro b103 a w hown S)
             (have S' := frz1 S; clear S; obtain ⟨F8, hF8, hb103, S⟩ := S'; have hm8 : ∀ b o, F5 b = some o → F8 b = some o := (fun b o h => hF8 _ _ (hm7 _ _ h)); replace hW := hW.mono hF8; have hR := row_lit (l := [bigH n, bigH n, bigH n, bigH n]) hb103 rfl (bigs_sl n) (show 4 ≤ 140737488355328 by decide); obtain ⟨k0, ns, hk0, hns, hXO, hXA, hnx⟩ := hX; have had := hv_add (l := ns) (k := k0) hn (by omega); rw [hk0] at had; refine wpl_gg S rfl rfl rfl rfl rfl rfl (hXO.mono hm8) (fun gv h1 h2 => (addGCt F8 (hI.T.mono hm8) bX vX gv gX agH _ h1 (hXA.mono hm8) h2 (ginv_ws hns (by omega)) .nil (wayR k) (argR n) _ _ _ (TrS.nil _ _ _) hW hR bnil (way_b (by omega)) (arg_b hn)).mono (fun _ _ _ h => ⟨by rw [h.1, had.1], by have h9 := h.2; rw [had.2] at h9; exact h9⟩)) rfl (by exact List.Perm.refl _) ?_; clear S a; intro gX2 F9 a w hO9 hF9 S; have hm9 : ∀ b o, F5 b = some o → F9 b = some o := (fun b o h => hF9 _ _ (hm8 _ _ h)); obtain ⟨ga2, gb2, hpm, hA9, hB9⟩ := hnx F9 gX2 hm9 hO9; replace S := stp S (pm_2 hpm); replace hc15 : Cels F9 b15 0 (vcl (bigH n)) := (fun j v hj => ((hc15 j v hj).mono hF8).mono hF9); replace hW := hW.mono hF9)
             iterate 2 (refine wv S (sv_lit (c := false) (sv_pure S rfl) (by rfl)) ?_; clear S a; intro a S)
             (revert S a; refine go 5 ?_; intro a S)
             (refine wv S (sv_loadAF S rfl rfl (vs := vcl (bigH n)) hc15 rfl) ?_; clear S a; intro a S)
             refine wpl_take S rfl rfl rfl ?_
             (refine wv S (sv_loadAF S rfl rfl (vs := vcl (bigH n)) hc15 rfl) ?_; clear S a; intro a S)
             refine wpl_take S rfl rfl rfl ?_
             (refine wv S (sv_loadAF S rfl rfl (vs := vcl (bigH n)) hc15 rfl) ?_; clear S a; intro a S)
             refine wpl_take S rfl rfl rfl ?_
             (refine wv S (sv_loadAF S rfl rfl (vs := vcl (bigH n)) hc15 rfl) ?_; clear S a; intro a S)
             refine wpl_take S rfl rfl rfl ?_
             (refine wpl_buildSlice S rfl rfl rfl rfl rfl rfl (by rfl) (by simp [Value.cells, splice, splice]) rfl (by rfl) (by rfl) ?_; clear S a; intro b113 a w hown S)
             refine wpl_take S rfl rfl rfl ?_
             (have S' := frz1 S; clear S; obtain ⟨F10, hF10, hb113, S⟩ := S'; have hm10 : ∀ b o, F5 b = some o → F10 b = some o := (fun b o h => hF10 _ _ (hm9 _ _ h)); replace hW := hW.mono hF10; have hR := row_lit (l := [bigH n, bigH n, bigH n, bigH n]) hb113 rfl (bigs_sl n) (show 4 ≤ 140737488355328 by decide); have hlm : ∀ n ∈ (l ++ m).take k, i64 n := (fun n h => (List.mem_append.1 (List.mem_of_mem_take h)).elim (hl n) (hm n)); have hlk : ((l ++ m).take k).length = k := (by rw [List.length_take, List.length_append]; omega); have had := hv_add (l := (l ++ m).take k) (k := 0) hn (by omega); rw [hlk, Nat.zero_add, ← take_snoc hx] at had; refine wpl_gg S rfl rfl rfl rfl rfl rfl (hI.c.mono hm10) (fun gv h1 h2 => (addGCt F10 (hI.T.mono hm10) bc vc gv gc agH _ h1 (hI.C.mono hm10) h2 (ginv_ws hlm (by omega)) .nil (wayR k) (argR n) _ _ _ (TrS.nil _ _ _) hW hR bnil (way_b (by omega)) (arg_b hn)).mono (fun _ _ _ h => ⟨by rw [h.1, had.1], by have h9 := h.2; rw [had.2] at h9; exact h9⟩)) rfl pm_c ?_; clear S a; intro gc2 F11 a w hO11 hF11 S; have hm11 : ∀ b o, F9 b = some o → F11 b = some o := (fun b o h => hF11 _ _ (hF10 _ _ h)); have hmm : ∀ b o, F5 b = some o → F11 b = some o := (fun b o h => hm11 _ _ (hm9 _ _ h)); have hI2 : HvI l m _ _ F11 (k + 1) ba bb bc va vb vc ga2 gb2 gc2 := ⟨hI.T.mono hmm, hI.E.mono hmm, hI.L.mono hmm, hI.M.mono hmm, hI.A.mono hmm, hI.B.mono hmm, hI.C.mono hmm, hA9.mono hm11, hB9.mono hm11, hO11⟩; replace S := stp S pm_b)
             refine wpl_take S rfl rfl rfl ?_
             iterate 2 (refine wv S (sv_lit (c := false) (sv_pure S rfl) (by rfl)) ?_; clear S a; intro a S)
             (revert S a; revert hZ Z; refine go 2 ?_; intro a S)
             refine wpc_false S rfl ?_
             (revert S a; revert hZ Z; refine go 7 ?_; intro a S)
             change ∃ m', _ ∧ _
             (refine ⟨l.length + m.length - (k + 1), by omega, k + 1, F11, ga2, gb2, gc2, rfl, by omega, fun b o h => hmm _ _ (hm5 _ _ h), hI2, ?_⟩; (refine S.keep ?_; exact zk)))
            (revert S a; refine go 7 ?_; intro a S)
            refine wpc_sp S rfl ?_ ?_ <;> intro h
            · (obtain ⟨b8, o8, hao, n, cs1, hx, hcc, hR1⟩ := LiM.pos (F := F5) (R := IntR) (by obtain ⟨_, _, e9, -, h9⟩ := id hI.L; cases e9; exact h9) (k := k) (by omega); obtain rfl : cs1 = _ := hR1; have hc1 : Cel F5 b8 (o8 + k * 1) (.int .i64 n) := hcc 0 _ rfl; rw [hao] at S)
              (revert S a; refine go 4 ?_; intro a S)
              (refine wv S (sv_loadF S rfl rfl hc1) ?_; clear S a; intro a S)
              (revert S a; refine go 2 ?_; intro a S)
              (refine hZ _ _ ?_)
              exact zzGu0
            (obtain ⟨b8, o8, hao, n, cs1, hx, hcc, hR1⟩ := LiM.pos (F := F5) (R := IntR) (by obtain ⟨_, _, e9, -, h9⟩ := id hI.M; cases e9; exact h9) (k := k - l.length) (by omega); obtain rfl : cs1 = _ := hR1; have hc1 : Cel F5 b8 (o8 + (k - l.length) * 1) (.int .i64 n) := hcc 0 _ rfl; rw [hao] at S)
            (refine wpc_mixM [0, 1, 2, 3, 4, 5, 6, 7] [7] [] (.one 0 (.one 1 (.one 2 (.one 3 (.one 4 (.one 5 (.one 6 (.one 7 (.one 8 (.one 9 .nil)))))))))) [] S mixed (by kernel_rfl) ?_; clear S; intro w S)
            (revert S a; refine go 5 ?_; intro a S)
            first | (refine wpm_v S rfl rfl rfl (want_none _ rfl) rfl rfl (fun w' S => sv_subN S rfl rfl rfl (by omega)) ?_; clear S a; intro a S) | (refine wpm_v S rfl rfl rfl (want_none _ rfl) rfl rfl (fun w' S => sv_sub S rfl rfl rfl (by omega)) ?_; clear S a; intro a S)
            (revert S a; refine go 1 ?_; intro a S)
            (refine wlF S rfl (fun w' S => sv_loadF S rfl rfl hc1) ?_; clear S a; intro a S)
            (revert S a; refine go 7 ?_; intro a S)
            (refine hZ _ _ ?_)
            exact zzGu0
          (refine wp_exit ?_; conv => whnf)
          clear hZ Z
          (refine hZ _ _ ?_; clear hZ Z)
          (refine wp_seq_k ?_; intro Z hZ)
          (obtain rfl : k = l.length + m.length := (by omega); have hOa := hI.a; have hOb := hI.b; have hOc := hI.c; rw [List.take_of_length_le (by omega)] at hOa; rw [List.take_of_length_le (by omega)] at hOb; rw [List.take_of_length_le (by rw [List.length_append]; exact Nat.le_refl _)] at hOc; have hlm : ∀ n ∈ l ++ m, i64 n := (fun n h => (List.mem_append.1 h).elim (hl n) (hm n)); have hlm0 : l ++ m ≠ [] := (by simp [hl0]); have hll : (l ++ m).length = l.length + m.length := List.length_append; obtain ⟨p1, hp1, ep1⟩ := mm_leaf (sg := -1) (.inr rfl) hl hl0; obtain ⟨q1, hq1, eq1⟩ := mm_leaf (sg := 1) (.inl rfl) hl hl0; obtain ⟨p2, hp2, ep2⟩ := mm_leaf (sg := -1) (.inr rfl) hm hm0; obtain ⟨q2, hq2, eq2⟩ := mm_leaf (sg := 1) (.inl rfl) hm hm0; obtain ⟨p3, hp3, ep3⟩ := mm_leaf (sg := -1) (.inr rfl) hlm hlm0; obtain ⟨q3, hq3, eq3⟩ := mm_leaf (sg := 1) (.inl rfl) hlm hlm0; have bp := mm_both (sg := -1) (.inr rfl) hl hm hl0 hm0; have bq := mm_both (sg := 1) (.inl rfl) hl hm hl0 hm0; rw [ep1, ep2, ep3] at bp; rw [eq1, eq2, eq3] at bq; obtain ⟨za, ra⟩ := row_hv 0 hl hl0 (by omega) ep1 eq1; obtain ⟨zb, rb⟩ := row_hv l.length hm hm0 (by omega) ep2 eq2; obtain ⟨zc, rc⟩ := row_hv 0 hlm hlm0 (by omega) ep3 eq3)
          (revert S a; refine go 2 ?_; intro a S)
          (refine wpl_gRow (r := rowH l p1 q1) S rfl rfl rfl rfl rfl rfl hOa (fun gv h1 h2 => rowGCt F5 hI.T hI.E ba va gv ga agH _ h1 hI.A (by decide) (by decide) h2 (ginv_ws hl (by omega)) (ways_len (by rw [ws_len]; omega)) .nil _ (TrS.nil _ _ _) bnil) rfl (by exact List.Perm.refl _) rfl (grp_at (ws_ne hl0)) za ra ?_; clear S a; intro v119 F12 a w hr1 hF12 S; replace hI := hI.mono hF12; replace hOb := hOb.mono hF12; replace hOc := hOc.mono hF12)
          (revert S a; revert hZ Z; refine go 9 ?_; intro Z hZ a S)
          (refine wpl_gRow (r := rowH m p2 q2) S rfl rfl rfl rfl rfl rfl hOb (fun gv h1 h2 => rowGCt F12 hI.T hI.E bb vb gv gb agH _ h1 hI.B (by decide) (by decide) h2 (ginv_ws hm (by omega)) (ways_len (by rw [ws_len]; omega)) .nil _ (TrS.nil _ _ _) bnil) rfl pm_s rfl (grp_at (ws_ne hm0)) zb rb ?_; clear S a; intro v124 F13 a w hr2 hF13 S; replace hI := hI.mono hF13; replace hOc := hOc.mono hF13; replace hr1 := hr1.mono hF13)
          (revert S a; revert hZ Z; refine go 9 ?_; intro Z hZ a S)
          (refine wpl_gRow (r := rowH (l ++ m) p3 q3) S rfl rfl rfl rfl rfl rfl hOc (fun gv h1 h2 => rowGCt F13 hI.T hI.E bc vc gv gc agH _ h1 hI.C (by decide) (by decide) h2 (ginv_ws hlm (by omega)) (ways_len (by rw [ws_len]; omega)) .nil _ (TrS.nil _ _ _) bnil) rfl pm_c rfl (grp_at (ws_ne hlm0)) zc rc ?_; clear S a; intro v129 F14 a w hr3 hF14 S; replace hI := hI.mono hF14; replace hr1 := hr1.mono hF14; replace hr2 := hr2.mono hF14; replace S := S.drop1.drop1.drop1)
          (revert S a; revert hZ Z; refine go 8 ?_; intro Z hZ a S)
          (refine wp_seq_k ?_; intro Z hZ)
          (obtain ⟨bx, ox, kx, rfl, x0, x1, ⟨ax2, cx2, x2, rx2⟩, ⟨ax3, cx3, x3, rx3⟩⟩ := row4 hr1; obtain ⟨ay0, cy0, x0, -⟩ := x0; obtain ⟨ay1, cy1, x1, -⟩ := x1; obtain ⟨by_, oy, ky, rfl, y0, y1, ⟨ay2, cy2, y2, ry2⟩, ⟨ay3, cy3, y3, ry3⟩⟩ := row4 hr2; obtain ⟨az0, cz0, y0, -⟩ := y0; obtain ⟨az1, cz1, y1, -⟩ := y1)
          (revert S a; refine go 2 ?_; intro a S)
          (refine wv S (sv_lit (c := false) (sv_pure S rfl) (by rfl)) ?_; clear S a; intro a S)
          (revert S a; refine go 4 ?_; intro a S)
          iterate 2 (refine wv S (sv_lit (c := false) (sv_pure S rfl) (by rfl)) ?_; clear S a; intro a S)
          (revert S a; refine go 4 ?_; intro a S)
          iterate 2 (refine wv S (sv_lit (c := false) (sv_pure S rfl) (by rfl)) ?_; clear S a; intro a S)
          (revert S a; revert hZ Z; refine go 2 ?_; intro a S)
          refine wpc_false S rfl ?_
          (revert S a; revert hZ Z; refine go 2 ?_; intro a S)
          (refine wp_seq_k ?_; intro Z hZ)
          (refine wpc_mixM [0, 1, 2, 3, 4, 5, 6, 7, 9, 10, 11] [3, 7] [] (.one 0 (.one 1 (.one 2 (.one 3 (.one 4 (.one 5 (.one 6 (.one 7 (.one 8 (.one 9 (.one 10 (.one 11 (.one 12 (.one 13 .nil)))))))))))))) [] S mixed (by kernel_rfl) ?_; clear S; intro w S)
          (revert S a; refine go 3 ?_; intro a S)
          (refine wlF S rfl (fun w' S => sv_loadF S rfl rfl (x1 2 _ rfl)) ?_; clear S a; intro a S)
          (revert S a; refine go 3 ?_; intro a S)
          (refine wlF S rfl (fun w' S => sv_loadF S rfl rfl (y1 2 _ rfl)) ?_; clear S a; intro a S)
          refine wpm_eff rfl rfl (kwa S) ?_
          (refine wc0 S (add0Ct _ _ F14 hI.T (Nat.le_trans (showZ_len _) (by decide)) (Nat.le_trans (showZ_len _) (by decide))) ?_; clear S a; intro v151 a w hv S; obtain rfl : v151 = .tuple ⟨[.string (bs (showZ (l ++ m).sum).1), .int .i64 0]⟩ := (by rw [hv, add_sum hl hm (by omega)]; rfl))
          (revert S a; revert hZ Z; refine go 12 ?_; intro a S)
          (refine wp_seq_k ?_; intro Z hZ)
          replace hZ : ∀ (a' : Act) (w' : World), (∃ (b24 b25 : Nat), St 199 [(17, .slice (some ⟨bx, ox, none⟩) 4 kx), (19, .slice (some ⟨by_, oy, none⟩) 4 ky), (21, v129), (18, .int .i64 0), (23, .string (bs (showZ (l ++ m).sum).1)), (24, ptr b24), (25, ptr b25)] w0 F [] F14 [[(b24, .cells ⟨vcs (bigN p1) ax2 cx2⟩ 45 (0, 0))], [(b25, .cells ⟨vcs (bigN q1) ax3 cx3⟩ 45 (0, 0))]] a' w') → Z a' w' := (by
           (intro a w hM; refine hZ _ _ ?_; clear hZ Z; clear S; obtain ⟨b24, b25, S⟩ := hM)
           (refine wp_seq_k ?_; intro Z hZ)
           replace hZ : ∀ (a' : Act) (w' : World), (∃ (am : Option Addr) (cm : Nat), RoR 4 VhR F14 (bigN p3) (vcs (bigN p3) am cm) ∧ St 199 [(17, .slice (some ⟨bx, ox, none⟩) 4 kx), (19, .slice (some ⟨by_, oy, none⟩) 4 ky), (21, v129), (18, .int .i64 0), (23, .string (bs (showZ (l ++ m).sum).1)), (24, ptr b24), (25, ptr b25)] w0 F [] F14 [[(b24, .cells ⟨vcs (bigN p3) am cm⟩ 45 (0, 0))], [(b25, .cells ⟨vcs (bigN q1) ax3 cx3⟩ 45 (0, 0))]] a' w') → Z a' w' := (by
            (intro a w hM; refine hZ _ _ ?_; clear hZ Z; clear S; obtain ⟨am, cm, rm, S⟩ := hM)
            (refine wp_seq_k ?_; intro Z hZ)
            replace hZ : ∀ (a' : Act) (w' : World), (∃ (ao9 : Option Addr) (co9 : Nat), RoR 4 VhR F14 (bigN q3) (vcs (bigN q3) ao9 co9) ∧ St 199 [(17, .slice (some ⟨bx, ox, none⟩) 4 kx), (19, .slice (some ⟨by_, oy, none⟩) 4 ky), (21, v129), (18, .int .i64 0), (23, .string (bs (showZ (l ++ m).sum).1)), (24, ptr b24), (25, ptr b25)] w0 F [] F14 [[(b24, .cells ⟨vcs (bigN p3) am cm⟩ 45 (0, 0))], [(b25, .cells ⟨vcs (bigN q3) ao9 co9⟩ 45 (0, 0))]] a' w') → Z a' w' := (by
             (intro a w hM; refine hZ _ _ ?_; clear hZ Z; clear S; obtain ⟨ao9, co9, rq, S⟩ := hM)
             (refine wp_seq_k ?_; intro Z hZ)
             (have S' := frz1 S; clear S; obtain ⟨F15, hF15, hb24, S⟩ := S'; have S' := frz1 S; clear S; obtain ⟨F16, hF16, hb25, S⟩ := S'; have hm16 : ∀ b o, F14 b = some o → F16 b = some o := (fun b o h => hF16 _ _ (hF15 _ _ h)); have hc24 := cels_of (hF16 _ _ hb24); have hc25 := cels_of hb25; replace x0 := x0.mono hm16; replace y0 := y0.mono hm16; replace hr3 := hr3.mono hm16; replace rm := Mon.h hm16 rm; replace rq := Mon.h hm16 rq)
             (refine wpc_mixM [0, 1, 2, 3, 4, 5, 6, 7, 8, 9, 10, 11, 12, 13, 14, 15, 16, 17, 20] [7, 11, 16, 17] [] (.one 0 (.one 1 (.one 2 (.one 3 (.one 4 (.one 5 (.one 6 (.one 7 (.one 8 (.one 9 (.one 10 (.one 11 (.one 12 (.one 13 (.one 14 (.one 15 (.one 16 (.one 17 (.one 18 (.one 19 (.one 20 (.one 21 .nil)))))))))))))))))))))) [] S mixed (by kernel_rfl) ?_; clear S; intro w S)
             (revert S a; refine go 1 ?_; intro a S)
             iterate 2 (refine wpm_v S rfl rfl rfl (want_none _ rfl) rfl rfl (fun w' S => sv_lit (c := true) (sv_pure S rfl) (by rfl)) ?_; clear S a; intro a S)
             (revert S a; refine go 4 ?_; intro a S)
             (refine wlF S rfl (fun w' S => sv_loadF S rfl rfl (x0 1 _ rfl)) ?_; clear S a; intro a S)
             (revert S a; refine go 3 ?_; intro a S)
             (refine wlF S rfl (fun w' S => sv_loadF S rfl rfl (y0 1 _ rfl)) ?_; clear S a; intro a S)
             (revert S a; refine go 4 ?_; intro a S)
             (refine wlF S rfl (fun w' S => sv_loadAF S rfl rfl hc24 rfl) ?_; clear S a; intro a S)
             (refine wlF S rfl (fun w' S => sv_loadAF S rfl rfl hc25 rfl) ?_; clear S a; intro a S)
             (revert S a; refine go 2 ?_; intro a S)
             (refine wpl_buildSlice S rfl rfl rfl rfl rfl rfl (by rfl) (by simp [Value.cells, splice, splice]) rfl (by rfl) (by rfl) ?_; clear S a; intro b196 a w hown S)
             (revert S a; refine go 3 ?_; intro a S)
             (have S' := frz1 S; clear S; obtain ⟨F17, hF17, hb196, S⟩ := S'; have hz := last4 hb196 rfl (Mon.h hF17 rm) (Mon.h hF17 rq); have hsz : (rowH (l ++ m) p3 q3).size ≤ 1000 := (show 4 ≤ 1000 by decide); unfold rowH at hr3 hsz; rw [hll, Int.natCast_add] at hr3 hsz; refine wc0 S (sameRowCt (sameCt 1000) F17 _ _ _ _ hsz (hr3.mono hF17) hz) ?_; clear S a; intro v197 a w hv S; rw [rowH_self] at hv; subst hv)
             refine wpList_nil ?_
             (refine wpm_v S rfl rfl rfl (want_none _ rfl) rfl rfl (fun w' S => sv_lit (c := true) (sv_pure S rfl) (by rfl)) ?_; clear S a; intro a S)
             (revert S a; revert hZ Z; refine go 5 ?_; intro a S)
             refine wp_ret (fr1 S Tryz.results4 ?_)
             first | rfl | trace_state)
            (refine wp_seq_k ?_; intro Z hZ)
            (refine wpc_mixM [0, 1, 2, 3, 5] [2, 3] [] (.one 0 (.one 1 (.one 2 (.one 3 (.one 4 (.one 5 .nil)))))) [b25] S mixed (by kernel_rfl) ?_; clear S; intro w S)
            (revert S a; refine go 2 ?_; intro a S)
            (refine wlF S rfl (fun w' S => sv_loadAF S rfl rfl y3 rfl) ?_; clear S a; intro a S)
            (revert S a; refine go 2 ?_; intro a S)
            (refine wc0 S (cmpUCt F14 (bigN q2) (bigN q1) _ _ (ror_vac ry3) (ror_vac rx3)) ?_; clear S a; intro v173 a w hv S; subst hv)
            (revert S a; revert hZ Z; refine go 4 ?_; intro a S)
            refine wpc_sp S rfl ?_ ?_ <;> intro h
            · (revert S a; refine go 3 ?_; intro a S)
              (refine wv S (sv_loadAF S rfl rfl y3 rfl) ?_; clear S a; intro a S)
              (refine wso S rfl rfl ?_; clear S; intro w S)
              refine wpList_nil ?_
              (refine hZ _ _ ?_)
              (replace S := St.pullB b25 S; replace S := St.pullB b24 S; first | (rw [if_pos (by omega)] at bq; rw [bq]; refine ⟨ay3, cy3, ry3, ?_⟩; (refine S.keep ?_; exact zk)) | (rw [if_neg (by omega)] at bq; rw [bq]; refine ⟨ax3, cx3, rx3, ?_⟩; (refine S.keep ?_; exact zk)) | trace_state)
            refine wp_skip ?_
            (refine hZ _ _ ?_)
            (replace S := St.pullB b25 S; replace S := St.pullB b24 S; first | (rw [if_pos (by omega)] at bq; rw [bq]; refine ⟨ay3, cy3, ry3, ?_⟩; (refine S.keep ?_; exact zk)) | (rw [if_neg (by omega)] at bq; rw [bq]; refine ⟨ax3, cx3, rx3, ?_⟩; (refine S.keep ?_; exact zk)) | trace_state))
           (refine wp_seq_k ?_; intro Z hZ)
           (refine wpc_mixM [0, 1, 2, 3, 5] [2, 3] [] (.one 0 (.one 1 (.one 2 (.one 3 (.one 4 (.one 5 .nil)))))) [b24] S mixed (by kernel_rfl) ?_; clear S; intro w S)
           (revert S a; refine go 2 ?_; intro a S)
           (refine wlF S rfl (fun w' S => sv_loadAF S rfl rfl y2 rfl) ?_; clear S a; intro a S)
           (revert S a; refine go 2 ?_; intro a S)
           (refine wc0 S (cmpUCt F14 (bigN p2) (bigN p1) _ _ (ror_vac ry2) (ror_vac rx2)) ?_; clear S a; intro v164 a w hv S; subst hv)
           (revert S a; revert hZ Z; refine go 4 ?_; intro a S)
           refine wpc_sp S rfl ?_ ?_ <;> intro h
           · (revert S a; refine go 3 ?_; intro a S)
             (refine wv S (sv_loadAF S rfl rfl y2 rfl) ?_; clear S a; intro a S)
             (refine wso S rfl rfl ?_; clear S; intro w S)
             refine wpList_nil ?_
             (refine hZ _ _ ?_)
             (replace S := St.pullB b25 S; replace S := St.pullB b24 S; first | (rw [if_pos (by omega)] at bp; rw [bp]; refine ⟨ay2, cy2, ry2, ?_⟩; (refine S.keep ?_; exact zk)) | (rw [if_neg (by omega)] at bp; rw [bp]; refine ⟨ax2, cx2, rx2, ?_⟩; (refine S.keep ?_; exact zk)) | trace_state)
           refine wp_skip ?_
           (refine hZ _ _ ?_)
           (replace S := St.pullB b25 S; replace S := St.pullB b24 S; first | (rw [if_pos (by omega)] at bp; rw [bp]; refine ⟨ay2, cy2, ry2, ?_⟩; (refine S.keep ?_; exact zk)) | (rw [if_neg (by omega)] at bp; rw [bp]; refine ⟨ax2, cx2, rx2, ?_⟩; (refine S.keep ?_; exact zk)) | trace_state))
          (refine wpc_mixM [0, 1, 2, 3, 4, 5] [2, 5] [] (.one 0 (.one 1 (.one 2 (.one 3 (.one 4 (.one 5 (.two 6 7 (.one 7 (.one 8 (.one 9 .nil))) (.one 6 (.one 8 (.one 9 .nil)))))))))) [] S mixed (by kernel_rfl) ?_; clear S; intro w S)
          (revert S a; refine go 2 ?_; intro a S)
          (refine wlF S rfl (fun w' S => sv_loadAF S rfl rfl x2 rfl) ?_; clear S a; intro a S)
          (revert S a; refine go 2 ?_; intro a S)
          (refine wlF S rfl (fun w' S => sv_loadAF S rfl rfl x3 rfl) ?_; clear S a; intro a S)
          refine wpm_two rfl rfl (kwa S) ?_ ?_
          · skip
            (refine wpl_alloc S rfl rfl rfl rfl ?_; clear S a; intro b24 a w S)
            (revert S a; refine go 2 ?_; intro a S)
            (refine wpl_alloc S rfl rfl rfl rfl ?_; clear S a; intro b25 a w S)
            (revert S a; refine go 2 ?_; intro a S)
            (refine wso S rfl rfl ?_; clear S; intro w S)
            (revert S a; refine go 2 ?_; intro a S)
            (refine wso S rfl rfl ?_; clear S; intro w S)
            (revert S a; refine go 2 ?_; intro a S)
            (refine hZ _ _ ?_)
            (replace S := St.pullB b25 S; replace S := St.pullB b24 S; refine ⟨b24, b25, ?_⟩; (refine S.keep ?_; exact zk))
          skip
          (refine wpl_alloc S rfl rfl rfl rfl ?_; clear S a; intro b25 a w S)
          (revert S a; refine go 2 ?_; intro a S)
          (refine wpl_alloc S rfl rfl rfl rfl ?_; clear S a; intro b24 a w S)
          (revert S a; refine go 2 ?_; intro a S)
          (refine wso S rfl rfl ?_; clear S; intro w S)
          (revert S a; refine go 2 ?_; intro a S)
          (refine wso S rfl rfl ?_; clear S; intro w S)
          (revert S a; refine go 2 ?_; intro a S)
          (refine hZ _ _ ?_)
          (replace S := St.pullB b25 S; replace S := St.pullB b24 S; refine ⟨b24, b25, ?_⟩; (refine S.keep ?_; exact zk))
        (clear S a; intro h a S)
        (revert S a; revert hZ Z; refine go 4 ?_; intro a S)
        refine wpc_true S rfl ?_
        refine wp_sr fun Z hZ => ?_
        (refine wc0 S (gAwakeCt F hq he) ?_; clear S a; intro v48 a w hv S; subst hv)
        (revert S a; revert hZ Z; refine go 3 ?_; intro a S)
        refine wp_ret (fr1 S Tryz.results4 ?_)
        first | rfl | trace_state
      (clear S a; intro h a S)
      (revert S a; revert hZ Z; refine go 9 ?_; intro a S)
      refine wpc_true S rfl ?_
      refine wp_sr fun Z hZ => ?_
      (refine wc0 S (gAwakeCt F hq he) ?_; clear S a; intro v48 a w hv S; subst hv)
      (revert S a; revert hZ Z; refine go 3 ?_; intro a S)
      refine wp_ret (fr1 S Tryz.results4 ?_)
      first | rfl | trace_state
    (clear S a; intro h a S)
    (revert S a; revert hZ Z; refine go 14 ?_; intro a S)
    refine wpc_true S rfl ?_
    refine wp_sr fun Z hZ => ?_
    (refine wc0 S (gAwakeCt F hq he) ?_; clear S a; intro v48 a w hv S; subst hv)
    (revert S a; revert hZ Z; refine go 3 ?_; intro a S)
    refine wp_ret (fr1 S Tryz.results4 ?_)
    first | rfl | trace_state
  (clear S a; intro h a S)
  (revert S a; revert hZ Z; refine go 19 ?_; intro a S)
  refine wpc_true S rfl ?_
  refine wp_sr fun Z hZ => ?_
  (refine wc0 S (gAwakeCt F hq he) ?_; clear S a; intro v48 a w hv S; subst hv)
  (revert S a; revert hZ Z; refine go 3 ?_; intro a S)
  refine wp_ret (fr1 S Tryz.results4 ?_)
  first | rfl | trace_state
end Go.Proofs.YtbhipiepfclneaaGreatDoor
