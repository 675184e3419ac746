/- Walks: IndexFunc and ContainsFunc over sequences. More rules: sums that go round, numbers without a sign, texts held against each other the other way about. Nothing here knows the program. -/
import Derived.Test.YtigblodhdfnleaaGreatDoorVa
import Derived.Test.YtigblodhdfnleaaGreatDoorTy
import Derived.Test.YtigblodhdfnleaaGreatDoorWk13
namespace Go.Proofs.YtigblodhdfnleaaGreatDoor
open Go Go.Wk Go.Un Go.De
set_option linter.unusedSimpArgs false
set_option linter.unusedVariables false
attribute [local irreducible] Go.wpList Go.Code.wp Go.wpStill Go.Wk.wpPre Go.bodyPost Go.Calls Go.Wk.Ct Go.Wk.OwnS
attribute [local irreducible] Go.Wk.wpG Go.Wk.wpM

theorem ixVCt (F : Heap) (v : Value) (n : Nat) (C : Nat → List Value → Prop) (h : Sq F 4 v n C) (fid : FuncId) (fi ca : List Value) [hfn : HasFn Tryz.prog fid] (p : Nat → Bool)
    (hcl : ∀ k cs, k < n → C k cs → Ct Tryz.prog fid (fi ++ [.agg ⟨cs⟩] ++ ca) F [] (fun _ _ u => u = .bool (p k))) :
    Ct Tryz.prog 170 [v, .func (.func fid) ⟨fi⟩ ⟨ca⟩] F [] (fun _ _ u => u = .int .i64 (idxN p n)) := by
  obtain ⟨ao, cap, rfl, hcap, hpos⟩ := h
  refine Ct.enter Tryz.func170 rfl Tryz.ntmps170 rfl fun w0 a S => ?_
  refine wp_sr fun Kq1 hKq1 => ?_
  (refine wpl_p S rfl rfl rfl ?_; clear S a; intro a S)
  (refine wpList_nil (hKq1 _ _ (wp_seq_k fun Kq2 hKq2 => ?_)); try clear hKq1 Kq1)
  refine wp_sr fun Kq3 hKq3 => ?_
  (refine wpl_p S rfl rfl rfl ?_; clear S a; intro a S)
  (refine wpl_n S rfl rfl rfl ?_; clear S a; intro a S)
  (refine wpl_p S rfl rfl rfl ?_; clear S a; intro a S)
  (refine wpList_nil (hKq3 _ _ ?_); try clear hKq3 Kq3)
  refine wp_block ?_
  refine wpc_loop (fun m a w' => ∃ (k : Nat), m = n - k ∧ k ≤ n ∧ idxN p n = idxF p k (n - k) ∧ St 19 [(0, .slice ao n cap), (1, .func (.func fid) ⟨fi⟩ ⟨ca⟩), (7, .int .i64 n), (8, .int .i64 k)] w0 F [] F [] a w') ?_ ?_
  · (refine ⟨n, 0, by omega, Nat.zero_le _, rfl, ?_⟩; refine S.keep ?_; repeat (first | exact trivial | refine ⟨rfl, ?_⟩))
  (clear S; rintro m a w ⟨k, rfl, hkl, hfp, S⟩)
  refine wp_sr fun Kq4 hKq4 => ?_
  (refine wpl_p S rfl rfl rfl ?_; clear S a; intro a S)
  (refine wpList_nil (hKq4 _ _ (wp_seq_k fun Kq5 hKq5 => ?_)); try clear hKq4 Kq4)
  refine wpc_split S rfl (fun h => ?_) (fun h => ?_)
  · (skip; (try simp only [tq] at h))
    refine wp_skip ?_
    (refine hKq5 _ _ ?_; try (clear hKq5 Kq5))
    (refine wp_seq_k ?_; intro Kq6 hKq6)
    refine wp_block ?_
    refine wp_sr fun Kq7 hKq7 => ?_
    iterate 2 (refine wpl_p S rfl rfl rfl ?_; clear S a; intro a S)
    (refine wpList_nil (hKq7 _ _ (wp_seq_k fun Kq8 hKq8 => ?_)); try clear hKq7 Kq7)
    (obtain ⟨b8, o8, rfl, cs1, hc1, hl1, hC⟩ := Sq.pos hpos (k := k) (by omega))
    refine wp_region_lit ?_
    iterate 3 (refine wpl_p S rfl rfl rfl ?_; clear S a; intro a S)
    (refine wpl_i S rfl rfl rfl ?_; clear S a; intro a S)
    (refine wpl_v S rfl rfl rfl (sv_loadAF S rfl rfl hc1 hl1) ?_; clear S a; intro a S)
    (refine wpl_call0 S rfl rfl rfl rfl rfl rfl (hcl k _ (by omega) hC) rfl ?_; clear S a; intro v a w hv S; subst hv)
    (refine wpList_nil (hKq8 _ _ ?_); try clear hKq8 Kq8)
    refine wpc_split S rfl (fun h => ?_) (fun h => ?_)
    · (skip; (try simp only [tq] at h))
      refine wp_sr fun Kq9 hKq9 => ?_
      iterate 2 (refine wpl_p S rfl rfl rfl ?_; clear S a; intro a S)
      (refine wpList_nil (hKq9 _ _ ?_); try clear hKq9 Kq9)
      refine wp_ret (fin_ret S (results1 Tryz.results170 (RV.tmp S rfl)) ?_)
      (rw [hfp]; first | (rw [idxF_at (by omega), if_pos (by assumption)]; done) | (rw [idxF_end (by omega)]; done) | trace_state)
    (skip; (try simp only [tq] at h))
    refine wp_skip ?_
    (refine hKq6 _ _ ?_; try (clear hKq6 Kq6))
    refine wp_region_lit ?_
    (refine wpl_a S rfl rfl rfl ?_; clear S a; intro a S)
    (refine wpl_p S rfl rfl rfl ?_; clear S a; intro a S)
    refine wpList_nil ?_
    change ∃ m', _ ∧ _
    (refine ⟨n - (k + 1), by omega, k + 1, rfl, by omega, ?_, ?_⟩; rotate_left 1; (refine S.keep ?_; repeat (first | exact trivial | refine ⟨rfl, ?_⟩)); rw [hfp, idxF_at (by omega), if_neg (by rw [(by assumption : p k = false)]; decide)])
  (skip; (try simp only [tq] at h))
  refine wp_exit ?_
  (refine hKq2 _ _ ?_; try (clear hKq2 Kq2))
  refine wp_sr fun Kq6 hKq6 => ?_
  (refine wpl_p S rfl rfl rfl ?_; clear S a; intro a S)
  (refine wpList_nil (hKq6 _ _ ?_); try clear hKq6 Kq6)
  refine wp_ret (fin_ret S (results1 Tryz.results170 (RV.tmp S rfl)) ?_)
  (rw [hfp]; first | (rw [idxF_at (by omega), if_pos (by assumption)]; done) | (rw [idxF_end (by omega)]; done) | trace_state)
theorem cfVCt (F : Heap) (v : Value) (n : Nat) (C : Nat → List Value → Prop) (h : Sq F 4 v n C) (fid : FuncId) (fi ca : List Value) [hfn : HasFn Tryz.prog fid] (p : Nat → Bool)
    (hcl : ∀ k cs, k < n → C k cs → Ct Tryz.prog fid (fi ++ [.agg ⟨cs⟩] ++ ca) F [] (fun _ _ u => u = .bool (p k))) :
    Ct Tryz.prog 149 [v, .func (.func fid) ⟨fi⟩ ⟨ca⟩] F [] (fun _ _ u => u = .bool (anyN p n)) := by
  have hc := ixVCt F v n C h fid fi ca p hcl
  obtain ⟨ao, cap, rfl, hcap, hpos⟩ := h
  refine Ct.enter Tryz.func149 rfl Tryz.ntmps149 rfl fun w0 a S => ?_
  refine wp_sr fun Kq1 hKq1 => ?_
  (refine wpl_p S rfl rfl rfl ?_; clear S a; intro a S)
  (refine wpList_nil (hKq1 _ _ (wp_sr fun Kq2 hKq2 => ?_)); try clear hKq1 Kq1)
  iterate 2 (refine wpl_p S rfl rfl rfl ?_; clear S a; intro a S)
  (refine wpl_call0 S rfl rfl rfl rfl rfl rfl (hc) rfl ?_; clear S a; intro v a w hv S; subst hv)
  iterate 2 (refine wpl_p S rfl rfl rfl ?_; clear S a; intro a S)
  (refine wpList_nil (hKq2 _ _ ?_); try clear hKq2 Kq2)
  exact wp_ret (fin_ret S (results1 Tryz.results149 (RV.tmp S rfl)) rfl)
theorem ixECt (F : Heap) (v : Value) (n : Nat) (C : Nat → List Value → Prop) (h : Sq F 9 v n C) (fid : FuncId) (fi ca : List Value) [hfn : HasFn Tryz.prog fid] (p : Nat → Bool)
    (hcl : ∀ k cs, k < n → C k cs → Ct Tryz.prog fid (fi ++ [.agg ⟨cs⟩] ++ ca) F [] (fun _ _ u => u = .bool (p k))) :
    Ct Tryz.prog 81 [v, .func (.func fid) ⟨fi⟩ ⟨ca⟩] F [] (fun _ _ u => u = .int .i64 (idxN p n)) := by
  obtain ⟨ao, cap, rfl, hcap, hpos⟩ := h
  refine Ct.enter Tryz.func81 rfl Tryz.ntmps81 rfl fun w0 a S => ?_
  refine wp_sr fun Kq1 hKq1 => ?_
  (refine wpl_p S rfl rfl rfl ?_; clear S a; intro a S)
  (refine wpList_nil (hKq1 _ _ (wp_seq_k fun Kq2 hKq2 => ?_)); try clear hKq1 Kq1)
  refine wp_sr fun Kq3 hKq3 => ?_
  (refine wpl_p S rfl rfl rfl ?_; clear S a; intro a S)
  (refine wpl_n S rfl rfl rfl ?_; clear S a; intro a S)
  (refine wpl_p S rfl rfl rfl ?_; clear S a; intro a S)
  (refine wpList_nil (hKq3 _ _ ?_); try clear hKq3 Kq3)
  refine wp_block ?_
  refine wpc_loop (fun m a w' => ∃ (k : Nat), m = n - k ∧ k ≤ n ∧ idxN p n = idxF p k (n - k) ∧ St 19 [(0, .slice ao n cap), (1, .func (.func fid) ⟨fi⟩ ⟨ca⟩), (7, .int .i64 n), (8, .int .i64 k)] w0 F [] F [] a w') ?_ ?_
  · (refine ⟨n, 0, by omega, Nat.zero_le _, rfl, ?_⟩; refine S.keep ?_; repeat (first | exact trivial | refine ⟨rfl, ?_⟩))
  (clear S; rintro m a w ⟨k, rfl, hkl, hfp, S⟩)
  refine wp_sr fun Kq4 hKq4 => ?_
  (refine wpl_p S rfl rfl rfl ?_; clear S a; intro a S)
  (refine wpList_nil (hKq4 _ _ (wp_seq_k fun Kq5 hKq5 => ?_)); try clear hKq4 Kq4)
  refine wpc_split S rfl (fun h => ?_) (fun h => ?_)
  · (skip; (try simp only [tq] at h))
    refine wp_skip ?_
    (refine hKq5 _ _ ?_; try (clear hKq5 Kq5))
    (refine wp_seq_k ?_; intro Kq6 hKq6)
    refine wp_block ?_
    refine wp_sr fun Kq7 hKq7 => ?_
    iterate 2 (refine wpl_p S rfl rfl rfl ?_; clear S a; intro a S)
    (refine wpList_nil (hKq7 _ _ (wp_seq_k fun Kq8 hKq8 => ?_)); try clear hKq7 Kq7)
    (obtain ⟨b8, o8, rfl, cs1, hc1, hl1, hC⟩ := Sq.pos hpos (k := k) (by omega))
    refine wp_region_lit ?_
    iterate 3 (refine wpl_p S rfl rfl rfl ?_; clear S a; intro a S)
    (refine wpl_i S rfl rfl rfl ?_; clear S a; intro a S)
    (refine wpl_v S rfl rfl rfl (sv_loadAF S rfl rfl hc1 hl1) ?_; clear S a; intro a S)
    (refine wpl_call0 S rfl rfl rfl rfl rfl rfl (hcl k _ (by omega) hC) rfl ?_; clear S a; intro v a w hv S; subst hv)
    (refine wpList_nil (hKq8 _ _ ?_); try clear hKq8 Kq8)
    refine wpc_split S rfl (fun h => ?_) (fun h => ?_)
    · (skip; (try simp only [tq] at h))
      refine wp_sr fun Kq9 hKq9 => ?_
      iterate 2 (refine wpl_p S rfl rfl rfl ?_; clear S a; intro a S)
      (refine wpList_nil (hKq9 _ _ ?_); try clear hKq9 Kq9)
      refine wp_ret (fin_ret S (results1 Tryz.results81 (RV.tmp S rfl)) ?_)
      (rw [hfp]; first | (rw [idxF_at (by omega), if_pos (by assumption)]; done) | (rw [idxF_end (by omega)]; done) | trace_state)
    (skip; (try simp only [tq] at h))
    refine wp_skip ?_
    (refine hKq6 _ _ ?_; try (clear hKq6 Kq6))
    refine wp_region_lit ?_
    (refine wpl_a S rfl rfl rfl ?_; clear S a; intro a S)
    (refine wpl_p S rfl rfl rfl ?_; clear S a; intro a S)
    refine wpList_nil ?_
    change ∃ m', _ ∧ _
    (refine ⟨n - (k + 1), by omega, k + 1, rfl, by omega, ?_, ?_⟩; rotate_left 1; (refine S.keep ?_; repeat (first | exact trivial | refine ⟨rfl, ?_⟩)); rw [hfp, idxF_at (by omega), if_neg (by rw [(by assumption : p k = false)]; decide)])
  (skip; (try simp only [tq] at h))
  refine wp_exit ?_
  (refine hKq2 _ _ ?_; try (clear hKq2 Kq2))
  refine wp_sr fun Kq6 hKq6 => ?_
  (refine wpl_p S rfl rfl rfl ?_; clear S a; intro a S)
  (refine wpList_nil (hKq6 _ _ ?_); try clear hKq6 Kq6)
  refine wp_ret (fin_ret S (results1 Tryz.results81 (RV.tmp S rfl)) ?_)
  (rw [hfp]; first | (rw [idxF_at (by omega), if_pos (by assumption)]; done) | (rw [idxF_end (by omega)]; done) | trace_state)
theorem cfECt (F : Heap) (v : Value) (n : Nat) (C : Nat → List Value → Prop) (h : Sq F 9 v n C) (fid : FuncId) (fi ca : List Value) [hfn : HasFn Tryz.prog fid] (p : Nat → Bool)
    (hcl : ∀ k cs, k < n → C k cs → Ct Tryz.prog fid (fi ++ [.agg ⟨cs⟩] ++ ca) F [] (fun _ _ u => u = .bool (p k))) :
    Ct Tryz.prog 53 [v, .func (.func fid) ⟨fi⟩ ⟨ca⟩] F [] (fun _ _ u => u = .bool (anyN p n)) := by
  have hc := ixECt F v n C h fid fi ca p hcl
  obtain ⟨ao, cap, rfl, hcap, hpos⟩ := h
  refine Ct.enter Tryz.func53 rfl Tryz.ntmps53 rfl fun w0 a S => ?_
  refine wp_sr fun Kq1 hKq1 => ?_
  (refine wpl_p S rfl rfl rfl ?_; clear S a; intro a S)
  (refine wpList_nil (hKq1 _ _ (wp_sr fun Kq2 hKq2 => ?_)); try clear hKq1 Kq1)
  iterate 2 (refine wpl_p S rfl rfl rfl ?_; clear S a; intro a S)
  (refine wpl_call0 S rfl rfl rfl rfl rfl rfl (hc) rfl ?_; clear S a; intro v a w hv S; subst hv)
  iterate 2 (refine wpl_p S rfl rfl rfl ?_; clear S a; intro a S)
  (refine wpList_nil (hKq2 _ _ ?_); try clear hKq2 Kq2)
  exact wp_ret (fin_ret S (results1 Tryz.results53 (RV.tmp S rfl)) rfl)
theorem ixBCt (F : Heap) (v : Value) (n : Nat) (C : Nat → List Value → Prop) (h : Sq F 5 v n C) (fid : FuncId) (fi ca : List Value) [hfn : HasFn Tryz.prog fid] (p : Nat → Bool)
    (hcl : ∀ k cs, k < n → C k cs → Ct Tryz.prog fid (fi ++ [.agg ⟨cs⟩] ++ ca) F [] (fun _ _ u => u = .bool (p k))) :
    Ct Tryz.prog 57 [v, .func (.func fid) ⟨fi⟩ ⟨ca⟩] F [] (fun _ _ u => u = .int .i64 (idxN p n)) := by
  obtain ⟨ao, cap, rfl, hcap, hpos⟩ := h
  refine Ct.enter Tryz.func57 rfl Tryz.ntmps57 rfl fun w0 a S => ?_
  refine wp_sr fun Kq1 hKq1 => ?_
  (refine wpl_p S rfl rfl rfl ?_; clear S a; intro a S)
  (refine wpList_nil (hKq1 _ _ (wp_seq_k fun Kq2 hKq2 => ?_)); try clear hKq1 Kq1)
  refine wp_sr fun Kq3 hKq3 => ?_
  (refine wpl_p S rfl rfl rfl ?_; clear S a; intro a S)
  (refine wpl_n S rfl rfl rfl ?_; clear S a; intro a S)
  (refine wpl_p S rfl rfl rfl ?_; clear S a; intro a S)
  (refine wpList_nil (hKq3 _ _ ?_); try clear hKq3 Kq3)
  refine wp_block ?_
  refine wpc_loop (fun m a w' => ∃ (k : Nat), m = n - k ∧ k ≤ n ∧ idxN p n = idxF p k (n - k) ∧ St 19 [(0, .slice ao n cap), (1, .func (.func fid) ⟨fi⟩ ⟨ca⟩), (7, .int .i64 n), (8, .int .i64 k)] w0 F [] F [] a w') ?_ ?_
  · (refine ⟨n, 0, by omega, Nat.zero_le _, rfl, ?_⟩; refine S.keep ?_; repeat (first | exact trivial | refine ⟨rfl, ?_⟩))
  (clear S; rintro m a w ⟨k, rfl, hkl, hfp, S⟩)
  refine wp_sr fun Kq4 hKq4 => ?_
  (refine wpl_p S rfl rfl rfl ?_; clear S a; intro a S)
  (refine wpList_nil (hKq4 _ _ (wp_seq_k fun Kq5 hKq5 => ?_)); try clear hKq4 Kq4)
  refine wpc_split S rfl (fun h => ?_) (fun h => ?_)
  · (skip; (try simp only [tq] at h))
    refine wp_skip ?_
    (refine hKq5 _ _ ?_; try (clear hKq5 Kq5))
    (refine wp_seq_k ?_; intro Kq6 hKq6)
    refine wp_block ?_
    refine wp_sr fun Kq7 hKq7 => ?_
    iterate 2 (refine wpl_p S rfl rfl rfl ?_; clear S a; intro a S)
    (refine wpList_nil (hKq7 _ _ (wp_seq_k fun Kq8 hKq8 => ?_)); try clear hKq7 Kq7)
    (obtain ⟨b8, o8, rfl, cs1, hc1, hl1, hC⟩ := Sq.pos hpos (k := k) (by omega))
    refine wp_region_lit ?_
    iterate 3 (refine wpl_p S rfl rfl rfl ?_; clear S a; intro a S)
    (refine wpl_i S rfl rfl rfl ?_; clear S a; intro a S)
    (refine wpl_v S rfl rfl rfl (sv_loadAF S rfl rfl hc1 hl1) ?_; clear S a; intro a S)
    (refine wpl_call0 S rfl rfl rfl rfl rfl rfl (hcl k _ (by omega) hC) rfl ?_; clear S a; intro v a w hv S; subst hv)
    (refine wpList_nil (hKq8 _ _ ?_); try clear hKq8 Kq8)
    refine wpc_split S rfl (fun h => ?_) (fun h => ?_)
    · (skip; (try simp only [tq] at h))
      refine wp_sr fun Kq9 hKq9 => ?_
      iterate 2 (refine wpl_p S rfl rfl rfl ?_; clear S a; intro a S)
      (refine wpList_nil (hKq9 _ _ ?_); try clear hKq9 Kq9)
      refine wp_ret (fin_ret S (results1 Tryz.results57 (RV.tmp S rfl)) ?_)
      (rw [hfp]; first | (rw [idxF_at (by omega), if_pos (by assumption)]; done) | (rw [idxF_end (by omega)]; done) | trace_state)
    (skip; (try simp only [tq] at h))
    refine wp_skip ?_
    (refine hKq6 _ _ ?_; try (clear hKq6 Kq6))
    refine wp_region_lit ?_
    (refine wpl_a S rfl rfl rfl ?_; clear S a; intro a S)
    (refine wpl_p S rfl rfl rfl ?_; clear S a; intro a S)
    refine wpList_nil ?_
    change ∃ m', _ ∧ _
    (refine ⟨n - (k + 1), by omega, k + 1, rfl, by omega, ?_, ?_⟩; rotate_left 1; (refine S.keep ?_; repeat (first | exact trivial | refine ⟨rfl, ?_⟩)); rw [hfp, idxF_at (by omega), if_neg (by rw [(by assumption : p k = false)]; decide)])
  (skip; (try simp only [tq] at h))
  refine wp_exit ?_
  (refine hKq2 _ _ ?_; try (clear hKq2 Kq2))
  refine wp_sr fun Kq6 hKq6 => ?_
  (refine wpl_p S rfl rfl rfl ?_; clear S a; intro a S)
  (refine wpList_nil (hKq6 _ _ ?_); try clear hKq6 Kq6)
  refine wp_ret (fin_ret S (results1 Tryz.results57 (RV.tmp S rfl)) ?_)
  (rw [hfp]; first | (rw [idxF_at (by omega), if_pos (by assumption)]; done) | (rw [idxF_end (by omega)]; done) | trace_state)
theorem cfBCt (F : Heap) (v : Value) (n : Nat) (C : Nat → List Value → Prop) (h : Sq F 5 v n C) (fid : FuncId) (fi ca : List Value) [hfn : HasFn Tryz.prog fid] (p : Nat → Bool)
    (hcl : ∀ k cs, k < n → C k cs → Ct Tryz.prog fid (fi ++ [.agg ⟨cs⟩] ++ ca) F [] (fun _ _ u => u = .bool (p k))) :
    Ct Tryz.prog 22 [v, .func (.func fid) ⟨fi⟩ ⟨ca⟩] F [] (fun _ _ u => u = .bool (anyN p n)) := by
  have hc := ixBCt F v n C h fid fi ca p hcl
  obtain ⟨ao, cap, rfl, hcap, hpos⟩ := h
  refine Ct.enter Tryz.func22 rfl Tryz.ntmps22 rfl fun w0 a S => ?_
  refine wp_sr fun Kq1 hKq1 => ?_
  (refine wpl_p S rfl rfl rfl ?_; clear S a; intro a S)
  (refine wpList_nil (hKq1 _ _ (wp_sr fun Kq2 hKq2 => ?_)); try clear hKq1 Kq1)
  iterate 2 (refine wpl_p S rfl rfl rfl ?_; clear S a; intro a S)
  (refine wpl_call0 S rfl rfl rfl rfl rfl rfl (hc) rfl ?_; clear S a; intro v a w hv S; subst hv)
  iterate 2 (refine wpl_p S rfl rfl rfl ?_; clear S a; intro a S)
  (refine wpList_nil (hKq2 _ _ ?_); try clear hKq2 Kq2)
  exact wp_ret (fin_ret S (results1 Tryz.results22 (RV.tmp S rfl)) rfl)
theorem ixDCt (F : Heap) (v : Value) (n : Nat) (C : Nat → List Value → Prop) (h : Sq F 3 v n C) (fid : FuncId) (fi ca : List Value) [hfn : HasFn Tryz.prog fid] (p : Nat → Bool)
    (hcl : ∀ k cs, k < n → C k cs → Ct Tryz.prog fid (fi ++ [.agg ⟨cs⟩] ++ ca) F [] (fun _ _ u => u = .bool (p k))) :
    Ct Tryz.prog 89 [v, .func (.func fid) ⟨fi⟩ ⟨ca⟩] F [] (fun _ _ u => u = .int .i64 (idxN p n)) := by
  obtain ⟨ao, cap, rfl, hcap, hpos⟩ := h
  refine Ct.enter Tryz.func89 rfl Tryz.ntmps89 rfl fun w0 a S => ?_
  refine wp_sr fun Kq1 hKq1 => ?_
  (refine wpl_p S rfl rfl rfl ?_; clear S a; intro a S)
  (refine wpList_nil (hKq1 _ _ (wp_seq_k fun Kq2 hKq2 => ?_)); try clear hKq1 Kq1)
  refine wp_sr fun Kq3 hKq3 => ?_
  (refine wpl_p S rfl rfl rfl ?_; clear S a; intro a S)
  (refine wpl_n S rfl rfl rfl ?_; clear S a; intro a S)
  (refine wpl_p S rfl rfl rfl ?_; clear S a; intro a S)
  (refine wpList_nil (hKq3 _ _ ?_); try clear hKq3 Kq3)
  refine wp_block ?_
  refine wpc_loop (fun m a w' => ∃ (k : Nat), m = n - k ∧ k ≤ n ∧ idxN p n = idxF p k (n - k) ∧ St 19 [(0, .slice ao n cap), (1, .func (.func fid) ⟨fi⟩ ⟨ca⟩), (7, .int .i64 n), (8, .int .i64 k)] w0 F [] F [] a w') ?_ ?_
  · (refine ⟨n, 0, by omega, Nat.zero_le _, rfl, ?_⟩; refine S.keep ?_; repeat (first | exact trivial | refine ⟨rfl, ?_⟩))
  (clear S; rintro m a w ⟨k, rfl, hkl, hfp, S⟩)
  refine wp_sr fun Kq4 hKq4 => ?_
  (refine wpl_p S rfl rfl rfl ?_; clear S a; intro a S)
  (refine wpList_nil (hKq4 _ _ (wp_seq_k fun Kq5 hKq5 => ?_)); try clear hKq4 Kq4)
  refine wpc_split S rfl (fun h => ?_) (fun h => ?_)
  · (skip; (try simp only [tq] at h))
    refine wp_skip ?_
    (refine hKq5 _ _ ?_; try (clear hKq5 Kq5))
    (refine wp_seq_k ?_; intro Kq6 hKq6)
    refine wp_block ?_
    refine wp_sr fun Kq7 hKq7 => ?_
    iterate 2 (refine wpl_p S rfl rfl rfl ?_; clear S a; intro a S)
    (refine wpList_nil (hKq7 _ _ (wp_seq_k fun Kq8 hKq8 => ?_)); try clear hKq7 Kq7)
    (obtain ⟨b8, o8, rfl, cs1, hc1, hl1, hC⟩ := Sq.pos hpos (k := k) (by omega))
    refine wp_region_lit ?_
    iterate 3 (refine wpl_p S rfl rfl rfl ?_; clear S a; intro a S)
    (refine wpl_i S rfl rfl rfl ?_; clear S a; intro a S)
    (refine wpl_v S rfl rfl rfl (sv_loadAF S rfl rfl hc1 hl1) ?_; clear S a; intro a S)
    (refine wpl_call0 S rfl rfl rfl rfl rfl rfl (hcl k _ (by omega) hC) rfl ?_; clear S a; intro v a w hv S; subst hv)
    (refine wpList_nil (hKq8 _ _ ?_); try clear hKq8 Kq8)
    refine wpc_split S rfl (fun h => ?_) (fun h => ?_)
    · (skip; (try simp only [tq] at h))
      refine wp_sr fun Kq9 hKq9 => ?_
      iterate 2 (refine wpl_p S rfl rfl rfl ?_; clear S a; intro a S)
      (refine wpList_nil (hKq9 _ _ ?_); try clear hKq9 Kq9)
      refine wp_ret (fin_ret S (results1 Tryz.results89 (RV.tmp S rfl)) ?_)
      (rw [hfp]; first | (rw [idxF_at (by omega), if_pos (by assumption)]; done) | (rw [idxF_end (by omega)]; done) | trace_state)
    (skip; (try simp only [tq] at h))
    refine wp_skip ?_
    (refine hKq6 _ _ ?_; try (clear hKq6 Kq6))
    refine wp_region_lit ?_
    (refine wpl_a S rfl rfl rfl ?_; clear S a; intro a S)
    (refine wpl_p S rfl rfl rfl ?_; clear S a; intro a S)
    refine wpList_nil ?_
    change ∃ m', _ ∧ _
    (refine ⟨n - (k + 1), by omega, k + 1, rfl, by omega, ?_, ?_⟩; rotate_left 1; (refine S.keep ?_; repeat (first | exact trivial | refine ⟨rfl, ?_⟩)); rw [hfp, idxF_at (by omega), if_neg (by rw [(by assumption : p k = false)]; decide)])
  (skip; (try simp only [tq] at h))
  refine wp_exit ?_
  (refine hKq2 _ _ ?_; try (clear hKq2 Kq2))
  refine wp_sr fun Kq6 hKq6 => ?_
  (refine wpl_p S rfl rfl rfl ?_; clear S a; intro a S)
  (refine wpList_nil (hKq6 _ _ ?_); try clear hKq6 Kq6)
  refine wp_ret (fin_ret S (results1 Tryz.results89 (RV.tmp S rfl)) ?_)
  (rw [hfp]; first | (rw [idxF_at (by omega), if_pos (by assumption)]; done) | (rw [idxF_end (by omega)]; done) | trace_state)
end Go.Proofs.YtigblodhdfnleaaGreatDoor
namespace Go.Wk
open Go
set_option linter.unusedVariables false
set_option linter.unusedSimpArgs false

section
variable {P : Program} {n : Sz} {L : List (Nat × Value)} {w0 : World} {F0 : Heap} {K0 : List Nat} {F : Heap} {G : List Grp} {a : Act} {w : World} {o : Oper}
theorem sv_addW {x y : Operand} {k : IntKind} {p q : Int} {t yt : TypeId} (S : St n L w0 F0 K0 F G a w) (ho : o.op = .binOp .add t x y yt) (hx : ev L x = some (.int k p)) (hy : ev L y = some (.int k q)) : SV P o a w (.int k (k.wrap (p + q))) :=
  run_intOp S ho hx hy (by simp [binOp, Op.intArith])
theorem sv_subW {x y : Operand} {k : IntKind} {p q : Int} {t yt : TypeId} (S : St n L w0 F0 K0 F G a w) (ho : o.op = .binOp .sub t x y yt) (hx : ev L x = some (.int k p)) (hy : ev L y = some (.int k q)) : SV P o a w (.int k (k.wrap (p - q))) :=
  run_intOp S ho hx hy (by simp [binOp, Op.intArith])
theorem sv_negW {x : Operand} {k : IntKind} {p : Int} {t : TypeId} (S : St n L w0 F0 K0 F G a w) (ho : o.op = .unOp .neg t x) (hx : ev L x = some (.int k p)) : SV P o a w (.int k (k.wrap (0 - p))) := by
  unfold SV execOp
  rw [ho]
  simp [S.fr.eval hx, Op.unary, Op.intArith]
theorem sv_quoG {x y : Operand} {p q : Int} {t yt : TypeId} (S : St n L w0 F0 K0 F G a w) (ho : o.op = .binOp .quo t x y yt) (hx : ev L x = some (.int .i64 p)) (hy : ev L y = some (.int .i64 q))
    (hq : q ≠ 0) (hb : -9223372036854775808 ≤ p.tdiv q ∧ p.tdiv q ≤ 9223372036854775807) : SV P o a w (.int .i64 (p.tdiv q)) :=
  run_intOp S ho hx hy (by simp [binOp, Op.intDiv, IntWalk.i64_in _ hb, hq])
theorem sv_remG {x y : Operand} {p q : Int} {t yt : TypeId} (S : St n L w0 F0 K0 F G a w) (ho : o.op = .binOp .rem t x y yt) (hx : ev L x = some (.int .i64 p)) (hy : ev L y = some (.int .i64 q))
    (hq : q ≠ 0) : SV P o a w (.int .i64 (p.tmod q)) :=
  run_intOp S ho hx hy (by simp [binOp, Op.intDiv, hq])
theorem sv_gtrS {x y : Operand} {s u : List UInt8} {t yt : TypeId} (S : St n L w0 F0 K0 F G a w) (ho : o.op = .binOp .gtr t x y yt) (hx : ev L x = some (.string (bs s))) (hy : ev L y = some (.string (bs u))) : SV P o a w (.bool (!Op.bytesLess s u && !(s == u))) := by
  have h1 : (eqGuard .gtr t x y (.string (bs s)) (.string (bs u))).run P w = .ok () w := by unfold eqGuard; rfl
  unfold SV execOp
  rw [ho]
  simp [S.fr.eval hx, S.fr.eval hy, h1, binOp, Op.stringOp, bs_toList]
theorem neD (p q : Prop) [Decidable p] [Decidable q] : (decide p != decide q) = decide (¬ (p ↔ q)) := by
  by_cases hp : p <;> by_cases hq : q <;> simp [hp, hq]
theorem tdiv_abs {x y : Int} : (x.tdiv y).natAbs = x.natAbs / y.natAbs := by rw [Int.natAbs_tdiv]; rfl
theorem tdiv_half {x y : Int} (hy : 2 ≤ y.natAbs) : 2 * (x.tdiv y).natAbs ≤ x.natAbs := by
  rw [tdiv_abs]
  have h1 : x.natAbs / y.natAbs ≤ x.natAbs / 2 := Nat.div_le_div_left hy (by decide)
  omega
end
end Go.Wk
