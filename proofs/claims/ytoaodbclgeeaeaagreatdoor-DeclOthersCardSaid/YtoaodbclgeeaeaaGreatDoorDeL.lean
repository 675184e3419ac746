/- Walks: body, rule. -/
import Derived.Test.YtoaodbclgeeaeaaGreatDoorDeK
namespace Go.Proofs.YtoaodbclgeeaeaaGreatDoor
open Go Go.Wk Go.Un Go.De
set_option linter.unusedSimpArgs false
set_option linter.unusedVariables false
attribute [local irreducible] Go.wpList Go.Code.wp Go.wpStill Go.Wk.wpPre Go.bodyPost Go.Calls Go.Wk.Ct Go.Wk.OwnS
attribute [local irreducible] Go.Wk.wpG Go.Wk.wpM

theorem bodyE_cons (css : List KC) (rs : List RD) (x : LT) (r : List LT) : bodyE css rs (x :: r) = if litE rs x ≠ 0 then litE rs x else if exprsE css x.args ≠ 0 then exprsE css x.args else bodyE css rs r := rfl
set_option maxRecDepth 20000 in
set_option maxHeartbeats 16000000 in
theorem bodyCt (F : Heap) (tb m1 m2 m3 : Nat) (ts : List TD) (css : List KC) (rs : List RD) (hT : TabS F tb m1 m2 m3 ts css rs) (l : List LT) (v : Value) (h : LiM F 5 LtR v l) :
    Ct Tryz.prog 55 [.pointer (some ⟨tb, 0, none⟩), v] F [] (fun _ _ u => ErrV (bodyE css rs l) u) := by
  obtain ⟨ao, cap, rfl, hcap, hpos⟩ := h
  have hcc : Cel F tb 2 (.map (some m3)) := hT.c 2 _ rfl
  obtain ⟨es, hes, hm⟩ := hT.r
  refine Ct.enter Tryz.func55 rfl Tryz.ntmps55 rfl fun w0 a S => ?_
  refine wp_sr fun Kq1 hKq1 => ?_
  (refine wpl_p S ?_; clear S a; intro a S)
  (refine wpList_nil (hKq1 _ _ (wp_seq_k fun Kq2 hKq2 => ?_)); try clear hKq1 Kq1)
  refine wp_sr fun Kq3 hKq3 => ?_
  (refine wpl_p S ?_; clear S a; intro a S)
  (refine wpl_n S ?_; clear S a; intro a S)
  (refine wpl_p S ?_; clear S a; intro a S)
  (refine wpList_nil (hKq3 _ _ ?_); try clear hKq3 Kq3)
  refine wp_block ?_
  refine wpc_loop (fun m a w' => ∃ (k : Nat), m = l.length - k ∧ k ≤ l.length ∧ bodyE css rs l = bodyE css rs (l.drop k) ∧ St 61 [(0, ptr tb), (10, .slice ao l.length cap), (11, .int .i64 l.length), (12, .int .i64 k)] w0 F [] F [] a w') ?_ ?_
  · (refine ⟨l.length, 0, by omega, Nat.zero_le _, rfl, ?_⟩; refine S.keep ?_; repeat (first | exact trivial | refine ⟨rfl, ?_⟩))
  (clear S; rintro m a w ⟨k, rfl, hkl, hfe, S⟩)
  refine wp_sr fun Kq4 hKq4 => ?_
  (refine wpl_p S ?_; clear S a; intro a S)
  (refine wpList_nil (hKq4 _ _ (wp_seq_k fun Kq5 hKq5 => ?_)); try clear hKq4 Kq4)
  refine wpc_split S rfl (fun h => ?_) (fun h => ?_)
  · (skip; (try simp only [tq] at h))
    refine wp_skip ?_
    (refine hKq5 _ _ ?_; try (clear hKq5 Kq5))
    (refine wp_seq_k ?_; intro Kq6 hKq6)
    refine wp_block ?_
    (refine wp_seq_k ?_; intro Kq7 hKq7)
    (obtain ⟨b8, o8, hao, x, cs1, hx, hc1, ⟨v1, rfl, hT1⟩⟩ := LiM.pos hpos (k := k) (by omega); rw [hao] at S; have hT1c := hT1; obtain ⟨a91, c91, rfl, -⟩ := hT1c)
    refine wp_region_lit ?_
    (refine wpl_i S ?_; clear S a; intro a S)
    (refine wpl_l S ?_; clear S a; intro a S)
    (refine wpl_al S ?_; clear S a; intro b6 a w S)
    (refine wpl_storeO S rfl rfl rfl rfl rfl (by rfl) (by simp [Value.cells, Value.oneCell', splice]) (by rfl) ?_; clear S; intro w S)
    (refine wpList_nil (hKq7 _ _ (wp_seq_k fun Kq8 hKq8 => ?_)); try clear hKq7 Kq7)
    refine wp_sr fun Kq9 hKq9 => ?_
    (refine wpl_f S ?_; clear S a; intro a S)
    (refine wpl_l S ?_; clear S a; intro a S)
    iterate 2 (refine wpl_p S ?_; clear S a; intro a S)
    refine wpl_guard S rfl rfl rfl rfl rfl ?_ ?_
    · (intro h S'; clear S; have S := S'; clear S'; (try simp only [tq] at h))
      (refine wpl_f S ?_; clear S a; intro a S)
      refine wpl_take S rfl rfl rfl ?_
      (refine wpl_l S ?_; clear S a; intro a S)
      refine wpl_take S rfl rfl rfl ?_
      iterate 2 (refine wpl_p S ?_; clear S a; intro a S)
      (refine wpList_nil (hKq9 _ _ ?_); try clear hKq9 Kq9)
      refine wpc_split S rfl (fun h => ?_) (fun h => ?_)
      · (skip; (try simp only [tq] at h))
        (refine wp_seq_k ?_; intro Kq10 hKq10)
        (refine wpc_mixM [0, 1, 2, 3, 4, 5, 6, 7, 8, 9] [3, 5, 6] [] (.one 0 (.one 1 (.one 2 (.one 3 (.one 4 (.one 5 (.one 6 (.one 7 (.one 8 (.one 9 (.one 10 (.one 11 (.one 12 .nil))))))))))))) [b6] S mixed (by kernel_rfl) ?_; clear S; intro w S)
        (refine wpm_p S ?_; clear S a; intro a S)
        (refine wpm_s S ?_; clear S a; intro a S)
        (refine wpm_f S ?_; clear S a; intro a S)
        (refine wpm_lateF S rfl rfl rfl (want_none _ rfl) rfl rfl (fun w' S => sv_loadF S rfl rfl hcc) ?_; clear S a; intro a S)
        (refine wpm_f S ?_; clear S a; intro a S)
        (refine wpm_o b6 S ?_; clear S a; intro a S)
        (refine wpm_lateF S rfl rfl rfl (want_none _ rfl) rfl rfl (fun w' S => sv_lookupF (enc := kS) S rfl rfl rfl hes) ?_; clear S a; intro a S)
        (obtain ⟨y, ac, cc, hgd, hfs, hy, his⟩ := get_rd hm x.rel; rw [if_pos rfl, hgd, his] at S)
        iterate 3 (refine wpm_p S ?_; clear S a; intro a S)
        refine wpm_eff rfl rfl (kwa S) ?_
        (refine wpl_al S ?_; clear S a; intro b7 a w S)
        refine wpList_nil ?_
        refine wpm_eff rfl rfl (kwa S) ?_
        (refine wpl_storeO S rfl rfl rfl rfl rfl (by rfl) (by simp [Value.cells, Value.oneCell', splice]) (by rfl) ?_; clear S; intro w S)
        refine wpList_nil ?_
        refine wpm_eff rfl rfl (kwa S) ?_
        (refine wpl_p S ?_; clear S a; intro a S)
        refine wpList_nil ?_
        (refine wpm_nil (kwa S) (hKq10 _ _ ?_); try clear hKq10 Kq10)
        refine wp_block ?_
        refine wp_sr fun Kq11 hKq11 => ?_
        iterate 3 (refine wpl_p S ?_; clear S a; intro a S)
        (refine wpList_nil (hKq11 _ _ ?_); try clear hKq11 Kq11)
        refine wpc_split S rfl (fun h => ?_) (fun h => ?_)
        · (skip; (try simp only [tq] at h))
          refine wp_sr fun Kq12 hKq12 => ?_
          (refine wpl_f S ?_; clear S a; intro a S)
          (refine wpl_l S ?_; clear S a; intro a S)
          (refine wpl_b S ?_; clear S a; intro a S)
          (refine wpl_s S ?_; clear S a; intro a S)
          (refine wpl_p S ?_; clear S a; intro a S)
          (refine wpList_nil (hKq12 _ _ ?_); try clear hKq12 Kq12)
          refine wp_ret (fin_ret S (results1 Tryz.results55 (RV.tmp S rfl)) ?_)
          (first | (have hz : bodyE css rs l = 0 := (by rw [hfe, List.drop_eq_nil_of_le (by omega)]; rfl); rw [hz]; exact errV_0) | (have h9 := hz1; have hne : exprsE css x.args ≠ 0 := (by first | assumption | simpa using h); have e9 : bodyE css rs l = exprsE css x.args := (by rw [hfe, drop_at hx, bodyE_cons, if_neg (fun h => h hz1), if_pos hne]); rw [e9]; exact hv) | (have hz1 : litE rs x = 63 := litE_none (by omega) (none_of (by assumption)); have e9 : bodyE css rs l = 63 := (by rw [hfe, drop_at hx, bodyE_cons, hz1]; rfl); rw [e9]; exact errV_of (by decide)) | (have hz1 : litE rs x = 70 := (by rw [litE_some (by omega) (some_of hy (by assumption)), if_pos (by omega)]); have e9 : bodyE css rs l = 70 := (by rw [hfe, drop_at hx, bodyE_cons, hz1]; rfl); rw [e9]; exact errV_of (by decide)) | trace_state)
        (skip; (try simp only [tq] at h))
        refine wp_sr fun Kq12 hKq12 => ?_
        (refine wpl_f S ?_; clear S a; intro a S)
        (refine wpl_l S ?_; clear S a; intro a S)
        (refine wpl_n S ?_; clear S a; intro a S)
        (refine wpl_f S ?_; clear S a; intro a S)
        (refine wpl_l S ?_; clear S a; intro a S)
        (refine wpl_n S ?_; clear S a; intro a S)
        iterate 2 (refine wpl_p S ?_; clear S a; intro a S)
        (refine wpList_nil (hKq12 _ _ ?_); try clear hKq12 Kq12)
        refine wpc_split S rfl (fun h => ?_) (fun h => ?_)
        · (skip; (try simp only [tq] at h))
          refine wp_sr fun Kq13 hKq13 => ?_
          (refine wpl_f S ?_; clear S a; intro a S)
          (refine wpl_l S ?_; clear S a; intro a S)
          (refine wpl_b S ?_; clear S a; intro a S)
          (refine wpl_s S ?_; clear S a; intro a S)
          (refine wpl_p S ?_; clear S a; intro a S)
          (refine wpList_nil (hKq13 _ _ ?_); try clear hKq13 Kq13)
          refine wp_ret (fin_ret S (results1 Tryz.results55 (RV.tmp S rfl)) ?_)
          (first | (have hz : bodyE css rs l = 0 := (by rw [hfe, List.drop_eq_nil_of_le (by omega)]; rfl); rw [hz]; exact errV_0) | (have h9 := hz1; have hne : exprsE css x.args ≠ 0 := (by first | assumption | simpa using h); have e9 : bodyE css rs l = exprsE css x.args := (by rw [hfe, drop_at hx, bodyE_cons, if_neg (fun h => h hz1), if_pos hne]); rw [e9]; exact hv) | (have hz1 : litE rs x = 63 := litE_none (by omega) (none_of (by assumption)); have e9 : bodyE css rs l = 63 := (by rw [hfe, drop_at hx, bodyE_cons, hz1]; rfl); rw [e9]; exact errV_of (by decide)) | (have hz1 : litE rs x = 70 := (by rw [litE_some (by omega) (some_of hy (by assumption)), if_pos (by omega)]); have e9 : bodyE css rs l = 70 := (by rw [hfe, drop_at hx, bodyE_cons, hz1]; rfl); rw [e9]; exact errV_of (by decide)) | trace_state)
        (skip; (try simp only [tq] at h))
        refine wp_skip ?_
        (refine hKq8 _ _ ?_; try (clear hKq8 Kq8))
        (refine wp_seq_k ?_; intro Kq13 hKq13)
        (have hz1 : litE rs x = 0 := (by first | (exact litE_no (by omega)) | (rw [litE_some (by omega) (some_of hy (by assumption)), if_neg (by omega)])))
        refine wp_region_lit ?_
        (refine wpl_p S ?_; clear S a; intro a S)
        (refine wpl_f S ?_; clear S a; intro a S)
        (refine wpl_l S ?_; clear S a; intro a S)
        (refine wpl_c0 S (exprsCt F tb m1 m2 m3 ts css rs hT x.args.size x.args _ (Nat.le_refl _) hT1) ?_; clear S a; intro v9 a w hv S)
        (refine wpl_p S ?_; clear S a; intro a S)
        (refine wpList_nil (hKq13 _ _ (wp_sr fun Kq14 hKq14 => ?_)); try clear hKq13 Kq13)
        (refine wpl_p S ?_; clear S a; intro a S)
        (refine wpl_v S rfl rfl rfl (sv_neErr S rfl rfl hv) ?_; clear S a; intro a S)
        (refine wpList_nil (hKq14 _ _ ?_); try clear hKq14 Kq14)
        refine wpc_split S rfl (fun h => ?_) (fun h => ?_)
        · (skip; (try simp only [tq] at h))
          refine wp_sr fun Kq15 hKq15 => ?_
          iterate 2 (refine wpl_p S ?_; clear S a; intro a S)
          (refine wpList_nil (hKq15 _ _ ?_); try clear hKq15 Kq15)
          refine wp_ret (fin_ret S (results1 Tryz.results55 (RV.tmp S rfl)) ?_)
          (first | (have hz : bodyE css rs l = 0 := (by rw [hfe, List.drop_eq_nil_of_le (by omega)]; rfl); rw [hz]; exact errV_0) | (have h9 := hz1; have hne : exprsE css x.args ≠ 0 := (by first | assumption | simpa using h); have e9 : bodyE css rs l = exprsE css x.args := (by rw [hfe, drop_at hx, bodyE_cons, if_neg (fun h => h hz1), if_pos hne]); rw [e9]; exact hv) | (have hz1 : litE rs x = 63 := litE_none (by omega) (none_of (by assumption)); have e9 : bodyE css rs l = 63 := (by rw [hfe, drop_at hx, bodyE_cons, hz1]; rfl); rw [e9]; exact errV_of (by decide)) | (have hz1 : litE rs x = 70 := (by rw [litE_some (by omega) (some_of hy (by assumption)), if_pos (by omega)]); have e9 : bodyE css rs l = 70 := (by rw [hfe, drop_at hx, bodyE_cons, hz1]; rfl); rw [e9]; exact errV_of (by decide)) | trace_state)
        (skip; (try simp only [tq] at h))
        refine wp_skip ?_
        (refine hKq6 _ _ ?_; try (clear hKq6 Kq6))
        refine wp_region_lit ?_
        (refine wpl_a S ?_; clear S a; intro a S)
        (refine wpl_p S ?_; clear S a; intro a S)
        refine wpList_nil ?_
        change ∃ m', _ ∧ _
        (rw [← hao] at S; (first | (replace S := S.drop1.drop1) | (replace S := S.drop1)); have hz2 : exprsE css x.args = 0 := (by first | assumption | omega | (simp_all; done)); refine ⟨l.length - (k + 1), by omega, k + 1, rfl, by omega, by rw [hfe, drop_at hx, bodyE_cons, if_neg (fun h => h hz1), if_neg (fun h => h hz2)], ?_⟩; refine S.keep ?_; repeat (first | exact trivial | refine ⟨rfl, ?_⟩))
      (skip; (try simp only [tq] at h))
      refine wp_skip ?_
      (refine hKq8 _ _ ?_; try (clear hKq8 Kq8))
      (refine wp_seq_k ?_; intro Kq10 hKq10)
      (have hz1 : litE rs x = 0 := (by first | (exact litE_no (by omega)) | (rw [litE_some (by omega) (some_of hy (by assumption)), if_neg (by omega)])))
      refine wp_region_lit ?_
      (refine wpl_p S ?_; clear S a; intro a S)
      (refine wpl_f S ?_; clear S a; intro a S)
      (refine wpl_l S ?_; clear S a; intro a S)
      (refine wpl_c0 S (exprsCt F tb m1 m2 m3 ts css rs hT x.args.size x.args _ (Nat.le_refl _) hT1) ?_; clear S a; intro v9 a w hv S)
      (refine wpl_p S ?_; clear S a; intro a S)
      (refine wpList_nil (hKq10 _ _ (wp_sr fun Kq11 hKq11 => ?_)); try clear hKq10 Kq10)
      (refine wpl_p S ?_; clear S a; intro a S)
      (refine wpl_v S rfl rfl rfl (sv_neErr S rfl rfl hv) ?_; clear S a; intro a S)
      (refine wpList_nil (hKq11 _ _ ?_); try clear hKq11 Kq11)
      refine wpc_split S rfl (fun h => ?_) (fun h => ?_)
      · (skip; (try simp only [tq] at h))
        refine wp_sr fun Kq12 hKq12 => ?_
        iterate 2 (refine wpl_p S ?_; clear S a; intro a S)
        (refine wpList_nil (hKq12 _ _ ?_); try clear hKq12 Kq12)
        refine wp_ret (fin_ret S (results1 Tryz.results55 (RV.tmp S rfl)) ?_)
        (first | (have hz : bodyE css rs l = 0 := (by rw [hfe, List.drop_eq_nil_of_le (by omega)]; rfl); rw [hz]; exact errV_0) | (have h9 := hz1; have hne : exprsE css x.args ≠ 0 := (by first | assumption | simpa using h); have e9 : bodyE css rs l = exprsE css x.args := (by rw [hfe, drop_at hx, bodyE_cons, if_neg (fun h => h hz1), if_pos hne]); rw [e9]; exact hv) | (have hz1 : litE rs x = 63 := litE_none (by omega) (none_of (by assumption)); have e9 : bodyE css rs l = 63 := (by rw [hfe, drop_at hx, bodyE_cons, hz1]; rfl); rw [e9]; exact errV_of (by decide)) | (have hz1 : litE rs x = 70 := (by rw [litE_some (by omega) (some_of hy (by assumption)), if_pos (by omega)]); have e9 : bodyE css rs l = 70 := (by rw [hfe, drop_at hx, bodyE_cons, hz1]; rfl); rw [e9]; exact errV_of (by decide)) | trace_state)
      (skip; (try simp only [tq] at h))
      refine wp_skip ?_
      (refine hKq6 _ _ ?_; try (clear hKq6 Kq6))
      refine wp_region_lit ?_
      (refine wpl_a S ?_; clear S a; intro a S)
      (refine wpl_p S ?_; clear S a; intro a S)
      refine wpList_nil ?_
      change ∃ m', _ ∧ _
      (rw [← hao] at S; (first | (replace S := S.drop1.drop1) | (replace S := S.drop1)); have hz2 : exprsE css x.args = 0 := (by first | assumption | omega | (simp_all; done)); refine ⟨l.length - (k + 1), by omega, k + 1, rfl, by omega, by rw [hfe, drop_at hx, bodyE_cons, if_neg (fun h => h hz1), if_neg (fun h => h hz2)], ?_⟩; refine S.keep ?_; repeat (first | exact trivial | refine ⟨rfl, ?_⟩))
    (intro h; clear S a; intro a S; (try simp only [tq] at h))
    iterate 2 (refine wpl_k S ?_; clear S a; intro a S)
    (refine wpl_p S ?_; clear S a; intro a S)
    (refine wpList_nil (hKq9 _ _ ?_); try clear hKq9 Kq9)
    refine wpc_true S rfl ?_
    (refine wp_seq_k ?_; intro Kq10 hKq10)
    (refine wpc_mixM [0, 1, 2, 3, 4, 5, 6, 7, 8, 9] [3, 5, 6] [] (.one 0 (.one 1 (.one 2 (.one 3 (.one 4 (.one 5 (.one 6 (.one 7 (.one 8 (.one 9 (.one 10 (.one 11 (.one 12 .nil))))))))))))) [b6] S mixed (by kernel_rfl) ?_; clear S; intro w S)
    (refine wpm_p S ?_; clear S a; intro a S)
    (refine wpm_s S ?_; clear S a; intro a S)
    (refine wpm_f S ?_; clear S a; intro a S)
    (refine wpm_lateF S rfl rfl rfl (want_none _ rfl) rfl rfl (fun w' S => sv_loadF S rfl rfl hcc) ?_; clear S a; intro a S)
    (refine wpm_f S ?_; clear S a; intro a S)
    (refine wpm_o b6 S ?_; clear S a; intro a S)
    (refine wpm_lateF S rfl rfl rfl (want_none _ rfl) rfl rfl (fun w' S => sv_lookupF (enc := kS) S rfl rfl rfl hes) ?_; clear S a; intro a S)
    (obtain ⟨y, ac, cc, hgd, hfs, hy, his⟩ := get_rd hm x.rel; rw [if_pos rfl, hgd, his] at S)
    iterate 3 (refine wpm_p S ?_; clear S a; intro a S)
    refine wpm_eff rfl rfl (kwa S) ?_
    (refine wpl_al S ?_; clear S a; intro b7 a w S)
    refine wpList_nil ?_
    refine wpm_eff rfl rfl (kwa S) ?_
    (refine wpl_storeO S rfl rfl rfl rfl rfl (by rfl) (by simp [Value.cells, Value.oneCell', splice]) (by rfl) ?_; clear S; intro w S)
    refine wpList_nil ?_
    refine wpm_eff rfl rfl (kwa S) ?_
    (refine wpl_p S ?_; clear S a; intro a S)
    refine wpList_nil ?_
    (refine wpm_nil (kwa S) (hKq10 _ _ ?_); try clear hKq10 Kq10)
    refine wp_block ?_
    refine wp_sr fun Kq11 hKq11 => ?_
    iterate 3 (refine wpl_p S ?_; clear S a; intro a S)
    (refine wpList_nil (hKq11 _ _ ?_); try clear hKq11 Kq11)
    refine wpc_split S rfl (fun h => ?_) (fun h => ?_)
    · (skip; (try simp only [tq] at h))
      refine wp_sr fun Kq12 hKq12 => ?_
      (refine wpl_f S ?_; clear S a; intro a S)
      (refine wpl_l S ?_; clear S a; intro a S)
      (refine wpl_b S ?_; clear S a; intro a S)
      (refine wpl_s S ?_; clear S a; intro a S)
      (refine wpl_p S ?_; clear S a; intro a S)
      (refine wpList_nil (hKq12 _ _ ?_); try clear hKq12 Kq12)
      refine wp_ret (fin_ret S (results1 Tryz.results55 (RV.tmp S rfl)) ?_)
      (first | (have hz : bodyE css rs l = 0 := (by rw [hfe, List.drop_eq_nil_of_le (by omega)]; rfl); rw [hz]; exact errV_0) | (have h9 := hz1; have hne : exprsE css x.args ≠ 0 := (by first | assumption | simpa using h); have e9 : bodyE css rs l = exprsE css x.args := (by rw [hfe, drop_at hx, bodyE_cons, if_neg (fun h => h hz1), if_pos hne]); rw [e9]; exact hv) | (have hz1 : litE rs x = 63 := litE_none (by omega) (none_of (by assumption)); have e9 : bodyE css rs l = 63 := (by rw [hfe, drop_at hx, bodyE_cons, hz1]; rfl); rw [e9]; exact errV_of (by decide)) | (have hz1 : litE rs x = 70 := (by rw [litE_some (by omega) (some_of hy (by assumption)), if_pos (by omega)]); have e9 : bodyE css rs l = 70 := (by rw [hfe, drop_at hx, bodyE_cons, hz1]; rfl); rw [e9]; exact errV_of (by decide)) | trace_state)
    (skip; (try simp only [tq] at h))
    refine wp_sr fun Kq12 hKq12 => ?_
    (refine wpl_f S ?_; clear S a; intro a S)
    (refine wpl_l S ?_; clear S a; intro a S)
    (refine wpl_n S ?_; clear S a; intro a S)
    (refine wpl_f S ?_; clear S a; intro a S)
    (refine wpl_l S ?_; clear S a; intro a S)
    (refine wpl_n S ?_; clear S a; intro a S)
    iterate 2 (refine wpl_p S ?_; clear S a; intro a S)
    (refine wpList_nil (hKq12 _ _ ?_); try clear hKq12 Kq12)
    refine wpc_split S rfl (fun h => ?_) (fun h => ?_)
    · (skip; (try simp only [tq] at h))
      refine wp_sr fun Kq13 hKq13 => ?_
      (refine wpl_f S ?_; clear S a; intro a S)
      (refine wpl_l S ?_; clear S a; intro a S)
      (refine wpl_b S ?_; clear S a; intro a S)
      (refine wpl_s S ?_; clear S a; intro a S)
      (refine wpl_p S ?_; clear S a; intro a S)
      (refine wpList_nil (hKq13 _ _ ?_); try clear hKq13 Kq13)
      refine wp_ret (fin_ret S (results1 Tryz.results55 (RV.tmp S rfl)) ?_)
      (first | (have hz : bodyE css rs l = 0 := (by rw [hfe, List.drop_eq_nil_of_le (by omega)]; rfl); rw [hz]; exact errV_0) | (have h9 := hz1; have hne : exprsE css x.args ≠ 0 := (by first | assumption | simpa using h); have e9 : bodyE css rs l = exprsE css x.args := (by rw [hfe, drop_at hx, bodyE_cons, if_neg (fun h => h hz1), if_pos hne]); rw [e9]; exact hv) | (have hz1 : litE rs x = 63 := litE_none (by omega) (none_of (by assumption)); have e9 : bodyE css rs l = 63 := (by rw [hfe, drop_at hx, bodyE_cons, hz1]; rfl); rw [e9]; exact errV_of (by decide)) | (have hz1 : litE rs x = 70 := (by rw [litE_some (by omega) (some_of hy (by assumption)), if_pos (by omega)]); have e9 : bodyE css rs l = 70 := (by rw [hfe, drop_at hx, bodyE_cons, hz1]; rfl); rw [e9]; exact errV_of (by decide)) | trace_state)
    (skip; (try simp only [tq] at h))
    refine wp_skip ?_
    (refine hKq8 _ _ ?_; try (clear hKq8 Kq8))
    (refine wp_seq_k ?_; intro Kq13 hKq13)
    (have hz1 : litE rs x = 0 := (by first | (exact litE_no (by omega)) | (rw [litE_some (by omega) (some_of hy (by assumption)), if_neg (by omega)])))
    refine wp_region_lit ?_
    (refine wpl_p S ?_; clear S a; intro a S)
    (refine wpl_f S ?_; clear S a; intro a S)
    (refine wpl_l S ?_; clear S a; intro a S)
    (refine wpl_c0 S (exprsCt F tb m1 m2 m3 ts css rs hT x.args.size x.args _ (Nat.le_refl _) hT1) ?_; clear S a; intro v9 a w hv S)
    (refine wpl_p S ?_; clear S a; intro a S)
    (refine wpList_nil (hKq13 _ _ (wp_sr fun Kq14 hKq14 => ?_)); try clear hKq13 Kq13)
    (refine wpl_p S ?_; clear S a; intro a S)
    (refine wpl_v S rfl rfl rfl (sv_neErr S rfl rfl hv) ?_; clear S a; intro a S)
    (refine wpList_nil (hKq14 _ _ ?_); try clear hKq14 Kq14)
    refine wpc_split S rfl (fun h => ?_) (fun h => ?_)
    · (skip; (try simp only [tq] at h))
      refine wp_sr fun Kq15 hKq15 => ?_
      iterate 2 (refine wpl_p S ?_; clear S a; intro a S)
      (refine wpList_nil (hKq15 _ _ ?_); try clear hKq15 Kq15)
      refine wp_ret (fin_ret S (results1 Tryz.results55 (RV.tmp S rfl)) ?_)
      (first | (have hz : bodyE css rs l = 0 := (by rw [hfe, List.drop_eq_nil_of_le (by omega)]; rfl); rw [hz]; exact errV_0) | (have h9 := hz1; have hne : exprsE css x.args ≠ 0 := (by first | assumption | simpa using h); have e9 : bodyE css rs l = exprsE css x.args := (by rw [hfe, drop_at hx, bodyE_cons, if_neg (fun h => h hz1), if_pos hne]); rw [e9]; exact hv) | (have hz1 : litE rs x = 63 := litE_none (by omega) (none_of (by assumption)); have e9 : bodyE css rs l = 63 := (by rw [hfe, drop_at hx, bodyE_cons, hz1]; rfl); rw [e9]; exact errV_of (by decide)) | (have hz1 : litE rs x = 70 := (by rw [litE_some (by omega) (some_of hy (by assumption)), if_pos (by omega)]); have e9 : bodyE css rs l = 70 := (by rw [hfe, drop_at hx, bodyE_cons, hz1]; rfl); rw [e9]; exact errV_of (by decide)) | trace_state)
    (skip; (try simp only [tq] at h))
    refine wp_skip ?_
    (refine hKq6 _ _ ?_; try (clear hKq6 Kq6))
    refine wp_region_lit ?_
    (refine wpl_a S ?_; clear S a; intro a S)
    (refine wpl_p S ?_; clear S a; intro a S)
    refine wpList_nil ?_
    change ∃ m', _ ∧ _
    (rw [← hao] at S; (first | (replace S := S.drop1.drop1) | (replace S := S.drop1)); have hz2 : exprsE css x.args = 0 := (by first | assumption | omega | (simp_all; done)); refine ⟨l.length - (k + 1), by omega, k + 1, rfl, by omega, by rw [hfe, drop_at hx, bodyE_cons, if_neg (fun h => h hz1), if_neg (fun h => h hz2)], ?_⟩; refine S.keep ?_; repeat (first | exact trivial | refine ⟨rfl, ?_⟩))
  (skip; (try simp only [tq] at h))
  refine wp_exit ?_
  (refine hKq2 _ _ ?_; try (clear hKq2 Kq2))
  refine wp_sr fun Kq6 hKq6 => ?_
  (refine wpl_p S ?_; clear S a; intro a S)
  (refine wpList_nil (hKq6 _ _ ?_); try clear hKq6 Kq6)
  refine wp_ret (fin_ret S (results1 Tryz.results55 (RV.tmp S rfl)) ?_)
  (first | (have hz : bodyE css rs l = 0 := (by rw [hfe, List.drop_eq_nil_of_le (by omega)]; rfl); rw [hz]; exact errV_0) | (have h9 := hz1; have hne : exprsE css x.args ≠ 0 := (by first | assumption | simpa using h); have e9 : bodyE css rs l = exprsE css x.args := (by rw [hfe, drop_at hx, bodyE_cons, if_neg (fun h => h hz1), if_pos hne]); rw [e9]; exact hv) | (have hz1 : litE rs x = 63 := litE_none (by omega) (none_of (by assumption)); have e9 : bodyE css rs l = 63 := (by rw [hfe, drop_at hx, bodyE_cons, hz1]; rfl); rw [e9]; exact errV_of (by decide)) | (have hz1 : litE rs x = 70 := (by rw [litE_some (by omega) (some_of hy (by assumption)), if_pos (by omega)]); have e9 : bodyE css rs l = 70 := (by rw [hfe, drop_at hx, bodyE_cons, hz1]; rfl); rw [e9]; exact errV_of (by decide)) | trace_state)
set_option maxRecDepth 20000 in
set_option maxHeartbeats 16000000 in
theorem ruleCt (F : Heap) (tb m1 m2 m3 : Nat) (ts : List TD) (css : List KC) (rs : List RD) (hT : TabS F tb m1 m2 m3 ts css rs) (x : RU) (cs : List Value) (h : RuR F x cs) :
    Ct Tryz.prog 54 [.pointer (some ⟨tb, 0, none⟩), .agg ⟨cs⟩] F [] (fun _ _ u => ErrV (ruleE css rs x) u) := by
  obtain ⟨v1, v2, v3, rfl, h1, h2, h3⟩ := h
  have h1c := h1
  obtain ⟨a1, c1, rfl, -, -⟩ := h1c
  obtain ⟨a2, c2, rfl, -, -⟩ := h2
  have h3c := h3
  obtain ⟨a3, c3, rfl, -, -⟩ := h3c
  have hcc : Cel F tb 2 (.map (some m3)) := hT.c 2 _ rfl
  obtain ⟨es, hes, hm⟩ := hT.r
  refine Ct.enter Tryz.func54 rfl Tryz.ntmps54 rfl fun w0 a S => ?_
  refine wp_sr fun Kq1 hKq1 => ?_
  (refine wpl_bx S ?_; clear S a; intro b3 a w S)
  (refine wpl_p S ?_; clear S a; intro a S)
  (refine wpList_nil (hKq1 _ _ (wp_seq_k fun Kq2 hKq2 => ?_)); try clear hKq1 Kq1)
  (refine wpc_mixM [0, 1, 2, 3, 4, 5, 6, 7, 8, 9] [3, 5, 6] [] (.one 0 (.one 1 (.one 2 (.one 3 (.one 4 (.one 5 (.one 6 (.one 7 (.one 8 (.one 9 (.one 10 (.one 11 (.one 12 .nil))))))))))))) [b3] S mixed (by kernel_rfl) ?_; clear S; intro w S)
  (refine wpm_p S ?_; clear S a; intro a S)
  (refine wpm_s S ?_; clear S a; intro a S)
  (refine wpm_f S ?_; clear S a; intro a S)
  (refine wpm_lateF S rfl rfl rfl (want_none _ rfl) rfl rfl (fun w' S => sv_loadF S rfl rfl hcc) ?_; clear S a; intro a S)
  (refine wpm_f S ?_; clear S a; intro a S)
  (refine wpm_o b3 S ?_; clear S a; intro a S)
  (refine wpm_lateF S rfl rfl rfl (want_none _ rfl) rfl rfl (fun w' S => sv_lookupF (enc := kS) S rfl rfl rfl hes) ?_; clear S a; intro a S)
  (obtain ⟨y, ac, cc, hgd, hfs, hy, his⟩ := get_rd hm x.rel; rw [if_pos rfl, hgd, his] at S)
  iterate 3 (refine wpm_p S ?_; clear S a; intro a S)
  refine wpm_eff rfl rfl (kwa S) ?_
  (refine wpl_al S ?_; clear S a; intro b5 a w S)
  refine wpList_nil ?_
  refine wpm_eff rfl rfl (kwa S) ?_
  (refine wpl_storeO S rfl rfl rfl rfl rfl (by rfl) (by simp [Value.cells, Value.oneCell', splice]) (by rfl) ?_; clear S; intro w S)
  refine wpList_nil ?_
  refine wpm_eff rfl rfl (kwa S) ?_
  (refine wpl_p S ?_; clear S a; intro a S)
  refine wpList_nil ?_
  (refine wpm_nil (kwa S) (hKq2 _ _ (wp_seq_k fun Kq3 hKq3 => ?_)); try clear hKq2 Kq2)
  refine wp_block ?_
  refine wp_sr fun Kq4 hKq4 => ?_
  iterate 3 (refine wpl_p S ?_; clear S a; intro a S)
  (refine wpList_nil (hKq4 _ _ ?_); try clear hKq4 Kq4)
  refine wpc_split S rfl (fun h => ?_) (fun h => ?_)
  · (skip; (try simp only [tq] at h))
    refine wp_sr fun Kq5 hKq5 => ?_
    (refine wpl_f S ?_; clear S a; intro a S)
    (refine wpl_l S ?_; clear S a; intro a S)
    (refine wpl_b S ?_; clear S a; intro a S)
    (refine wpl_s S ?_; clear S a; intro a S)
    (refine wpl_p S ?_; clear S a; intro a S)
    (refine wpList_nil (hKq5 _ _ ?_); try clear hKq5 Kq5)
    refine wp_ret (fin_ret S (results1 Tryz.results54 (RV.tmp S rfl)) ?_)
    (first | (rw [ruleE_none (none_of (by assumption))]; exact errV_of (by decide)) | (rw [ruleE_some (some_of hy (by assumption))]; first | (rw [if_pos (by assumption)]; exact errV_of (by decide)) | (rw [if_neg (by simp [*]), if_pos (by omega)]; exact errV_of (by decide)) | (rw [if_neg (by simp [*]), if_neg (by omega), if_pos (by omega)]; exact errV_of (by decide)) | (have hne : exprsE css x.args ≠ 0 := (by first | assumption | simpa using h); rw [if_neg (by simp [*]), if_neg (by omega), if_neg (by omega), if_pos hne]; exact hv) | (have hz : exprsE css x.args = 0 := (by first | assumption | simpa using h); rw [if_neg (by simp [*]), if_neg (by omega), if_neg (by omega), if_neg (fun h => h hz)]; exact hv8)) | trace_state)
  (skip; (try simp only [tq] at h))
  refine wp_sr fun Kq5 hKq5 => ?_
  (refine wpl_f S ?_; clear S a; intro a S)
  (refine wpl_l S ?_; clear S a; intro a S)
  (refine wpl_p S ?_; clear S a; intro a S)
  (refine wpList_nil (hKq5 _ _ ?_); try clear hKq5 Kq5)
  refine wpc_split S rfl (fun h => ?_) (fun h => ?_)
  · (skip; (try simp only [tq] at h))
    refine wp_sr fun Kq6 hKq6 => ?_
    (refine wpl_f S ?_; clear S a; intro a S)
    (refine wpl_l S ?_; clear S a; intro a S)
    (refine wpl_b S ?_; clear S a; intro a S)
    (refine wpl_s S ?_; clear S a; intro a S)
    (refine wpl_p S ?_; clear S a; intro a S)
    (refine wpList_nil (hKq6 _ _ ?_); try clear hKq6 Kq6)
    refine wp_ret (fin_ret S (results1 Tryz.results54 (RV.tmp S rfl)) ?_)
    (first | (rw [ruleE_none (none_of (by assumption))]; exact errV_of (by decide)) | (rw [ruleE_some (some_of hy (by assumption))]; first | (rw [if_pos (by assumption)]; exact errV_of (by decide)) | (rw [if_neg (by simp [*]), if_pos (by omega)]; exact errV_of (by decide)) | (rw [if_neg (by simp [*]), if_neg (by omega), if_pos (by omega)]; exact errV_of (by decide)) | (have hne : exprsE css x.args ≠ 0 := (by first | assumption | simpa using h); rw [if_neg (by simp [*]), if_neg (by omega), if_neg (by omega), if_pos hne]; exact hv) | (have hz : exprsE css x.args = 0 := (by first | assumption | simpa using h); rw [if_neg (by simp [*]), if_neg (by omega), if_neg (by omega), if_neg (fun h => h hz)]; exact hv8)) | trace_state)
  (skip; (try simp only [tq] at h))
  refine wp_sr fun Kq6 hKq6 => ?_
  (refine wpl_f S ?_; clear S a; intro a S)
  (refine wpl_l S ?_; clear S a; intro a S)
  (refine wpl_n S ?_; clear S a; intro a S)
  (refine wpl_f S ?_; clear S a; intro a S)
  (refine wpl_l S ?_; clear S a; intro a S)
  (refine wpl_n S ?_; clear S a; intro a S)
  iterate 2 (refine wpl_p S ?_; clear S a; intro a S)
  (refine wpList_nil (hKq6 _ _ ?_); try clear hKq6 Kq6)
  refine wpc_split S rfl (fun h => ?_) (fun h => ?_)
  · (skip; (try simp only [tq] at h))
    refine wp_sr fun Kq7 hKq7 => ?_
    (refine wpl_f S ?_; clear S a; intro a S)
    (refine wpl_l S ?_; clear S a; intro a S)
    (refine wpl_b S ?_; clear S a; intro a S)
    (refine wpl_s S ?_; clear S a; intro a S)
    (refine wpl_p S ?_; clear S a; intro a S)
    (refine wpList_nil (hKq7 _ _ ?_); try clear hKq7 Kq7)
    refine wp_ret (fin_ret S (results1 Tryz.results54 (RV.tmp S rfl)) ?_)
    (first | (rw [ruleE_none (none_of (by assumption))]; exact errV_of (by decide)) | (rw [ruleE_some (some_of hy (by assumption))]; first | (rw [if_pos (by assumption)]; exact errV_of (by decide)) | (rw [if_neg (by simp [*]), if_pos (by omega)]; exact errV_of (by decide)) | (rw [if_neg (by simp [*]), if_neg (by omega), if_pos (by omega)]; exact errV_of (by decide)) | (have hne : exprsE css x.args ≠ 0 := (by first | assumption | simpa using h); rw [if_neg (by simp [*]), if_neg (by omega), if_neg (by omega), if_pos hne]; exact hv) | (have hz : exprsE css x.args = 0 := (by first | assumption | simpa using h); rw [if_neg (by simp [*]), if_neg (by omega), if_neg (by omega), if_neg (fun h => h hz)]; exact hv8)) | trace_state)
  (skip; (try simp only [tq] at h))
  refine wp_sr fun Kq7 hKq7 => ?_
  (refine wpl_f S ?_; clear S a; intro a S)
  (refine wpl_l S ?_; clear S a; intro a S)
  (refine wpl_n S ?_; clear S a; intro a S)
  (refine wpl_f S ?_; clear S a; intro a S)
  (refine wpl_l S ?_; clear S a; intro a S)
  (refine wpl_n S ?_; clear S a; intro a S)
  iterate 2 (refine wpl_p S ?_; clear S a; intro a S)
  (refine wpList_nil (hKq7 _ _ ?_); try clear hKq7 Kq7)
  refine wpc_split S rfl (fun h => ?_) (fun h => ?_)
  · (skip; (try simp only [tq] at h))
    refine wp_sr fun Kq8 hKq8 => ?_
    (refine wpl_f S ?_; clear S a; intro a S)
    (refine wpl_l S ?_; clear S a; intro a S)
    (refine wpl_b S ?_; clear S a; intro a S)
    (refine wpl_s S ?_; clear S a; intro a S)
    (refine wpl_p S ?_; clear S a; intro a S)
    (refine wpList_nil (hKq8 _ _ ?_); try clear hKq8 Kq8)
    refine wp_ret (fin_ret S (results1 Tryz.results54 (RV.tmp S rfl)) ?_)
    (first | (rw [ruleE_none (none_of (by assumption))]; exact errV_of (by decide)) | (rw [ruleE_some (some_of hy (by assumption))]; first | (rw [if_pos (by assumption)]; exact errV_of (by decide)) | (rw [if_neg (by simp [*]), if_pos (by omega)]; exact errV_of (by decide)) | (rw [if_neg (by simp [*]), if_neg (by omega), if_pos (by omega)]; exact errV_of (by decide)) | (have hne : exprsE css x.args ≠ 0 := (by first | assumption | simpa using h); rw [if_neg (by simp [*]), if_neg (by omega), if_neg (by omega), if_pos hne]; exact hv) | (have hz : exprsE css x.args = 0 := (by first | assumption | simpa using h); rw [if_neg (by simp [*]), if_neg (by omega), if_neg (by omega), if_neg (fun h => h hz)]; exact hv8)) | trace_state)
  (skip; (try simp only [tq] at h))
  refine wp_skip ?_
  (refine hKq3 _ _ ?_; try (clear hKq3 Kq3))
  (refine wp_seq_k ?_; intro Kq8 hKq8)
  refine wp_sr fun Kq9 hKq9 => ?_
  (refine wpl_p S ?_; clear S a; intro a S)
  (refine wpl_f S ?_; clear S a; intro a S)
  (refine wpl_l S ?_; clear S a; intro a S)
  (refine wpl_c0 S (exprsCt F tb m1 m2 m3 ts css rs hT x.args.size x.args _ (Nat.le_refl _) h1) ?_; clear S a; intro v9 a w hv S)
  (refine wpl_p S ?_; clear S a; intro a S)
  (refine wpList_nil (hKq9 _ _ (wp_sr fun Kq10 hKq10 => ?_)); try clear hKq9 Kq9)
  (refine wpl_p S ?_; clear S a; intro a S)
  (refine wpl_v S rfl rfl rfl (sv_neErr S rfl rfl hv) ?_; clear S a; intro a S)
  (refine wpList_nil (hKq10 _ _ ?_); try clear hKq10 Kq10)
  refine wpc_split S rfl (fun h => ?_) (fun h => ?_)
  · (skip; (try simp only [tq] at h))
    refine wp_sr fun Kq11 hKq11 => ?_
    iterate 2 (refine wpl_p S ?_; clear S a; intro a S)
    (refine wpList_nil (hKq11 _ _ ?_); try clear hKq11 Kq11)
    refine wp_ret (fin_ret S (results1 Tryz.results54 (RV.tmp S rfl)) ?_)
    (first | (rw [ruleE_none (none_of (by assumption))]; exact errV_of (by decide)) | (rw [ruleE_some (some_of hy (by assumption))]; first | (rw [if_pos (by assumption)]; exact errV_of (by decide)) | (rw [if_neg (by simp [*]), if_pos (by omega)]; exact errV_of (by decide)) | (rw [if_neg (by simp [*]), if_neg (by omega), if_pos (by omega)]; exact errV_of (by decide)) | (have hne : exprsE css x.args ≠ 0 := (by first | assumption | simpa using h); rw [if_neg (by simp [*]), if_neg (by omega), if_neg (by omega), if_pos hne]; exact hv) | (have hz : exprsE css x.args = 0 := (by first | assumption | simpa using h); rw [if_neg (by simp [*]), if_neg (by omega), if_neg (by omega), if_neg (fun h => h hz)]; exact hv8)) | trace_state)
  (skip; (try simp only [tq] at h))
  refine wp_skip ?_
  (refine hKq8 _ _ ?_; try (clear hKq8 Kq8))
  refine wp_sr fun Kq11 hKq11 => ?_
  (refine wpl_p S ?_; clear S a; intro a S)
  (refine wpl_f S ?_; clear S a; intro a S)
  (refine wpl_l S ?_; clear S a; intro a S)
  (refine wpl_c0 S (bodyCt F tb m1 m2 m3 ts css rs hT x.body _ h3) ?_; clear S a; intro v8 a w hv8 S)
  (refine wpl_p S ?_; clear S a; intro a S)
  (refine wpList_nil (hKq11 _ _ ?_); try clear hKq11 Kq11)
  refine wp_ret (fin_ret S (results1 Tryz.results54 (RV.tmp S rfl)) ?_)
  (first | (rw [ruleE_none (none_of (by assumption))]; exact errV_of (by decide)) | (rw [ruleE_some (some_of hy (by assumption))]; first | (rw [if_pos (by assumption)]; exact errV_of (by decide)) | (rw [if_neg (by simp [*]), if_pos (by omega)]; exact errV_of (by decide)) | (rw [if_neg (by simp [*]), if_neg (by omega), if_pos (by omega)]; exact errV_of (by decide)) | (have hne : exprsE css x.args ≠ 0 := (by first | assumption | simpa using h); rw [if_neg (by simp [*]), if_neg (by omega), if_neg (by omega), if_pos hne]; exact hv) | (have hz : exprsE css x.args = 0 := (by first | assumption | simpa using h); rw [if_neg (by simp [*]), if_neg (by omega), if_neg (by omega), if_neg (fun h => h hz)]; exact hv8)) | trace_state)
end Go.Proofs.YtoaodbclgeeaeaaGreatDoor
