/- Walks: Check of values; slices of values held against lists; is, Well, Is, Row. -/
import Derived.Test.YtoaodbclgeeaeaaGreatDoorDeY
namespace Go.Proofs.YtoaodbclgeeaeaaGreatDoor
open Go Go.Wk Go.Un Go.De
set_option linter.unusedSimpArgs false
set_option linter.unusedVariables false
attribute [local irreducible] Go.wpList Go.Code.wp Go.wpStill Go.Wk.wpPre Go.bodyPost Go.Calls Go.Wk.Ct Go.Wk.OwnS
attribute [local irreducible] Go.Wk.wpG Go.Wk.wpM

theorem checkCt (F : Heap) (vh : VH) (L : Vf) (cs : List Value) (hb : L.size ≤ 1000000000) (hV : VaC F cs vh L) : Ct Tryz.prog 41 [.agg ⟨cs⟩] F [] (fun _ _ u => u = .int .i64 (checkV vh L)) := by
  have hV0 := hV
  obtain ⟨v, rfl, ⟨ao, cap, rfl, hcap, hpos⟩, hsb⟩ := hV
  refine Ct.enter Tryz.func41 rfl Tryz.ntmps41 rfl fun w0 a S => ?_
  refine wp_sr fun Kq1 hKq1 => ?_
  (refine wpl_bx S ?_; clear S a; intro b1 a w S)
  (refine wpl_p S ?_; clear S a; intro a S)
  (refine wpList_nil (hKq1 _ _ (wp_seq_k fun Kq2 hKq2 => ?_)); try clear hKq1 Kq1)
  refine wp_sr fun Kq3 hKq3 => ?_
  (refine wpl_l S ?_; clear S a; intro a S)
  (refine wpl_c0 S (depVCt F L.size vh L _ 65 (Nat.le_refl _) hb (by omega) (by omega) hV0) ?_; clear S a; intro v a w hv S; subst hv)
  (refine wpl_p S ?_; clear S a; intro a S)
  (refine wpList_nil (hKq3 _ _ ?_); try clear hKq3 Kq3)
  refine wpc_split S rfl (fun h => ?_) (fun h => ?_)
  · (skip; (try simp only [tq] at h))
    refine wp_sr fun Kq4 hKq4 => ?_
    (refine wpl_p S ?_; clear S a; intro a S)
    (refine wpList_nil (hKq4 _ _ ?_); try clear hKq4 Kq4)
    refine wp_ret (fin_ret S (results1 Tryz.results41 (RV.tmp S rfl)) ?_)
    (congr 1; unfold checkV; first | (rw [if_pos (by omega)]; done) | (rw [if_neg (by omega), if_pos (by assumption)]; done) | (rw [if_neg (by omega), if_neg (by rw [(by assumption : (formH vh L.len && formL L) = true)]; decide), if_pos (by assumption)]; done) | (rw [if_neg (by omega), if_neg (by rw [(by assumption : (formH vh L.len && formL L) = true)]; decide), if_neg (by rw [(by assumption : (fitsH vh L.len && fitsL L) = true)]; decide)]; done) | trace_state)
  (skip; (try simp only [tq] at h))
  refine wp_skip ?_
  (refine hKq2 _ _ ?_; try (clear hKq2 Kq2))
  (refine wp_seq_k ?_; intro Kq4 hKq4)
  refine wp_sr fun Kq5 hKq5 => ?_
  (refine wpl_l S ?_; clear S a; intro a S)
  (refine wpl_c0 S (lookCt F L.size vh L _ (Nat.le_refl _) hV0) ?_; clear S a; intro v a w hv S; subst hv)
  iterate 5 (refine wpl_p S ?_; clear S a; intro a S)
  (refine wpList_nil (hKq5 _ _ ?_); try clear hKq5 Kq5)
  refine wp_block ?_
  refine wp_sr fun Kq6 hKq6 => ?_
  iterate 3 (refine wpl_p S ?_; clear S a; intro a S)
  (refine wpList_nil (hKq6 _ _ ?_); try clear hKq6 Kq6)
  refine wpc_split S rfl (fun h => ?_) (fun h => ?_)
  · (skip; (try simp only [tq] at h))
    refine wp_sr fun Kq7 hKq7 => ?_
    (refine wpl_p S ?_; clear S a; intro a S)
    (refine wpList_nil (hKq7 _ _ ?_); try clear hKq7 Kq7)
    refine wp_ret (fin_ret S (results1 Tryz.results41 (RV.tmp S rfl)) ?_)
    (congr 1; unfold checkV; first | (rw [if_pos (by omega)]; done) | (rw [if_neg (by omega), if_pos (by assumption)]; done) | (rw [if_neg (by omega), if_neg (by rw [(by assumption : (formH vh L.len && formL L) = true)]; decide), if_pos (by assumption)]; done) | (rw [if_neg (by omega), if_neg (by rw [(by assumption : (formH vh L.len && formL L) = true)]; decide), if_neg (by rw [(by assumption : (fitsH vh L.len && fitsL L) = true)]; decide)]; done) | trace_state)
  (skip; (try simp only [tq] at h))
  refine wp_sr fun Kq7 hKq7 => ?_
  iterate 3 (refine wpl_p S ?_; clear S a; intro a S)
  (refine wpList_nil (hKq7 _ _ ?_); try clear hKq7 Kq7)
  refine wpc_split S rfl (fun h => ?_) (fun h => ?_)
  · (skip; (try simp only [tq] at h))
    refine wp_sr fun Kq8 hKq8 => ?_
    (refine wpl_p S ?_; clear S a; intro a S)
    (refine wpList_nil (hKq8 _ _ ?_); try clear hKq8 Kq8)
    refine wp_ret (fin_ret S (results1 Tryz.results41 (RV.tmp S rfl)) ?_)
    (congr 1; unfold checkV; first | (rw [if_pos (by omega)]; done) | (rw [if_neg (by omega), if_pos (by assumption)]; done) | (rw [if_neg (by omega), if_neg (by rw [(by assumption : (formH vh L.len && formL L) = true)]; decide), if_pos (by assumption)]; done) | (rw [if_neg (by omega), if_neg (by rw [(by assumption : (formH vh L.len && formL L) = true)]; decide), if_neg (by rw [(by assumption : (fitsH vh L.len && fitsL L) = true)]; decide)]; done) | trace_state)
  (skip; (try simp only [tq] at h))
  refine wp_skip ?_
  (refine hKq4 _ _ ?_; try (clear hKq4 Kq4))
  refine wp_sr fun Kq8 hKq8 => ?_
  (refine wpl_p S ?_; clear S a; intro a S)
  (refine wpList_nil (hKq8 _ _ ?_); try clear hKq8 Kq8)
  refine wp_ret (fin_ret S (results1 Tryz.results41 (RV.tmp S rfl)) ?_)
  (congr 1; unfold checkV; first | (rw [if_pos (by omega)]; done) | (rw [if_neg (by omega), if_pos (by assumption)]; done) | (rw [if_neg (by omega), if_neg (by rw [(by assumption : (formH vh L.len && formL L) = true)]; decide), if_pos (by assumption)]; done) | (rw [if_neg (by omega), if_neg (by rw [(by assumption : (formH vh L.len && formL L) = true)]; decide), if_neg (by rw [(by assumption : (fitsH vh L.len && fitsL L) = true)]; decide)]; done) | trace_state)
theorem eq2_drop {α : Type} {p : VH → Vf → α → Bool} {l : Vf} {m : List α} {k : Nat} {x : VH × Vf} {y : α} (hx : l.get? k = some x) (hy : m[k]? = some y) : eq2 p (l.drop k) (m.drop k) = (p x.1 x.2 y && eq2 p (l.drop (k + 1)) (m.drop (k + 1))) := by
  obtain ⟨h1, h2⟩ := List.getElem?_eq_some_iff.1 hy
  rw [Rose.drop_get hx, List.drop_eq_getElem_cons h1, h2]
  rfl
theorem eq2_end {α : Type} {p : VH → Vf → α → Bool} {l : Vf} {m : List α} {k : Nat} (h1 : l.len ≤ k) (h2 : m.length ≤ k) : eq2 p (l.drop k) (m.drop k) = true := by
  rw [Rose.drop_len h1, List.drop_eq_nil_of_le h2]; rfl
set_option maxHeartbeats 4000000 in
theorem eqVTCt (F : Heap) (l : Vf) (v : Value) (h : TrS F 4 VhR v l) (ar : Fo) (v2 : Value) (h2 : SlF F v2 ar) (fid : FuncId) (fi ca : List Value) [hfn : HasFn Tryz.prog fid] (p : VH → Vf → Ty → Bool)
    (hcl : ∀ k x y cs cs2, l.get? k = some x → ar.get? k = some y → VaC F cs x.1 x.2 → TyC F cs2 y.1 y.2 → Ct Tryz.prog fid (fi ++ [.agg ⟨cs⟩, .agg ⟨cs2⟩] ++ ca) F [] (fun _ _ u => u = .bool (p x.1 x.2 y))) :
    Ct Tryz.prog 58 [v, v2, .func (.func fid) ⟨fi⟩ ⟨ca⟩] F [] (fun _ _ u => u = .bool (eq2 p l (tysOf ar))) := by
  obtain ⟨ao, cap, rfl, hcap, hpos⟩ := h
  obtain ⟨ao2, cap2, rfl, hcap2, hpos2⟩ := h2
  refine Ct.enter Tryz.func58 rfl Tryz.ntmps58 rfl fun w0 a S => ?_
  refine wp_sr fun Kq1 hKq1 => ?_
  (refine wpl_p S ?_; clear S a; intro a S)
  (refine wpList_nil (hKq1 _ _ (wp_seq_k fun Kq2 hKq2 => ?_)); try clear hKq1 Kq1)
  refine wp_sr fun Kq3 hKq3 => ?_
  (refine wpl_p S ?_; clear S a; intro a S)
  (refine wpl_n S ?_; clear S a; intro a S)
  (refine wpl_p S ?_; clear S a; intro a S)
  (refine wpl_n S ?_; clear S a; intro a S)
  (refine wpl_p S ?_; clear S a; intro a S)
  (refine wpList_nil (hKq3 _ _ ?_); try clear hKq3 Kq3)
  refine wpc_split S rfl (fun h => ?_) (fun h => ?_)
  · (skip; (try simp only [tq] at h))
    refine wp_sr fun Kq4 hKq4 => ?_
    (refine wpl_p S ?_; clear S a; intro a S)
    (refine wpList_nil (hKq4 _ _ ?_); try clear hKq4 Kq4)
    refine wp_ret (fin_ret S (results1 Tryz.results58 (RV.tmp S rfl)) ?_)
    (congr 1; first | (rw [← hfp, eq2_end (by omega) (by rw [tysOf_len]; omega)]; done) | (rw [← hfp, eq2_drop hx hyt, (by assumption : p x.1 x.2 y = false), Bool.false_and]; done) | (rw [eq2_len]; rw [tysOf_len]; omega) | trace_state)
  (skip; (try simp only [tq] at h))
  refine wp_skip ?_
  (refine hKq2 _ _ ?_; try (clear hKq2 Kq2))
  (refine wp_seq_k ?_; intro Kq4 hKq4)
  refine wp_sr fun Kq5 hKq5 => ?_
  (refine wpl_p S ?_; clear S a; intro a S)
  (refine wpl_n S ?_; clear S a; intro a S)
  (refine wpl_p S ?_; clear S a; intro a S)
  (refine wpList_nil (hKq5 _ _ ?_); try clear hKq5 Kq5)
  refine wp_block ?_
  refine wpc_loop (fun m a w' => ∃ (k : Nat), m = l.len - k ∧ k ≤ l.len ∧ eq2 p (l.drop k) ((tysOf ar).drop k) = eq2 p l (tysOf ar) ∧ St 32 [(0, .slice ao l.len cap), (1, .slice ao2 ar.len cap2), (2, .func (.func fid) ⟨fi⟩ ⟨ca⟩), (15, .slice ao l.len cap), (16, .int .i64 l.len), (17, .int .i64 k)] w0 F [] F [] a w') ?_ ?_
  · (have hll : l.len = ar.len := (by omega); refine ⟨l.len, 0, by omega, Nat.zero_le _, rfl, ?_⟩; refine S.keep ?_; repeat (first | exact trivial | refine ⟨rfl, ?_⟩))
  (clear S; rintro m a w ⟨k, rfl, hkl, hfp, S⟩)
  refine wp_sr fun Kq6 hKq6 => ?_
  (refine wpl_p S ?_; clear S a; intro a S)
  (refine wpList_nil (hKq6 _ _ (wp_seq_k fun Kq7 hKq7 => ?_)); try clear hKq6 Kq6)
  refine wpc_split S rfl (fun h => ?_) (fun h => ?_)
  · (skip; (try simp only [tq] at h))
    refine wp_skip ?_
    (refine hKq7 _ _ ?_; try (clear hKq7 Kq7))
    (refine wp_seq_k ?_; intro Kq8 hKq8)
    refine wp_block ?_
    (refine wp_seq_k ?_; intro Kq9 hKq9)
    (obtain ⟨b8, o8, hao, x, cs1, v1, hx, hc1, hw9, hT1⟩ := TrM.pos hpos (k := k) (by omega); rw [hao] at S; have hT1c := hT1; obtain ⟨a91, c91, rfl, -⟩ := hT1c; have hw9c := hw9.1; subst hw9c; (simp only [List.cons_append, List.nil_append] at hc1); obtain ⟨b9, o9, hao2, y, v2, hy, hc2, hT2⟩ := FoM.pos hpos2 (k := k) (by omega); rw [hao2] at S; have hyt : (tysOf ar)[k]? = some y := (by rw [tysOf_get]; exact hy); have hT2c := hT2; obtain ⟨a92, c92, rfl, -⟩ := hT2c)
    refine wp_region_lit ?_
    (refine wpl_p S ?_; clear S a; intro a S)
    (refine wpl_i S ?_; clear S a; intro a S)
    (refine wpl_l S ?_; clear S a; intro a S)
    (refine wpl_al S ?_; clear S a; intro b8 a w S)
    (refine wpl_p S ?_; clear S a; intro a S)
    (refine wpl_storeO S rfl rfl rfl rfl rfl (by rfl) (by simp [Value.cells, Value.oneCell', splice]) (by rfl) ?_; clear S; intro w S)
    (refine wpList_nil (hKq9 _ _ (wp_sr fun Kq10 hKq10 => ?_)); try clear hKq9 Kq9)
    iterate 2 (refine wpl_p S ?_; clear S a; intro a S)
    (refine wpl_i S ?_; clear S a; intro a S)
    (refine wpl_l S ?_; clear S a; intro a S)
    (refine wpl_al S ?_; clear S a; intro b9 a w S)
    (refine wpl_storeO S rfl rfl rfl rfl rfl (by rfl) (by simp [Value.cells, Value.oneCell', splice]) (by rfl) ?_; clear S; intro w S)
    (refine wpList_nil (hKq10 _ _ (wp_sr fun Kq11 hKq11 => ?_)); try clear hKq10 Kq10)
    (refine wpl_p S ?_; clear S a; intro a S)
    iterate 2 (refine wpl_l S ?_; clear S a; intro a S)
    (refine wpl_c0 S (hcl k x y _ _ hx hy ⟨_, rfl, hT1, hw9.2⟩ ⟨_, rfl, hT2⟩) ?_; clear S a; intro v a w hv S; subst hv)
    (refine wpl_p S ?_; clear S a; intro a S)
    (refine wpList_nil (hKq11 _ _ ?_); try clear hKq11 Kq11)
    refine wpc_split S rfl (fun h => ?_) (fun h => ?_)
    · (skip; (try simp only [tq] at h))
      refine wp_sr fun Kq12 hKq12 => ?_
      (refine wpl_p S ?_; clear S a; intro a S)
      (refine wpList_nil (hKq12 _ _ ?_); try clear hKq12 Kq12)
      refine wp_ret (fin_ret S (results1 Tryz.results58 (RV.tmp S rfl)) ?_)
      (congr 1; first | (rw [← hfp, eq2_end (by omega) (by rw [tysOf_len]; omega)]; done) | (rw [← hfp, eq2_drop hx hyt, (by assumption : p x.1 x.2 y = false), Bool.false_and]; done) | (rw [eq2_len]; rw [tysOf_len]; omega) | trace_state)
    (skip; (try simp only [tq] at h))
    refine wp_skip ?_
    (refine hKq8 _ _ ?_; try (clear hKq8 Kq8))
    refine wp_region_lit ?_
    (refine wpl_a S ?_; clear S a; intro a S)
    (refine wpl_p S ?_; clear S a; intro a S)
    refine wpList_nil ?_
    change ∃ m', _ ∧ _
    (rw [← hao, ← hao2] at S; replace S := S.drop1.drop1; refine ⟨l.len - (k + 1), by omega, k + 1, rfl, by omega, ?_, ?_⟩; rotate_left 1; (refine S.keep ?_; repeat (first | exact trivial | refine ⟨rfl, ?_⟩)); rw [← hfp, eq2_drop hx hyt, (by assumption : p x.1 x.2 y = true), Bool.true_and])
  (skip; (try simp only [tq] at h))
  refine wp_exit ?_
  (refine hKq4 _ _ ?_; try (clear hKq4 Kq4))
  refine wp_sr fun Kq8 hKq8 => ?_
  (refine wpl_p S ?_; clear S a; intro a S)
  (refine wpList_nil (hKq8 _ _ ?_); try clear hKq8 Kq8)
  refine wp_ret (fin_ret S (results1 Tryz.results58 (RV.tmp S rfl)) ?_)
  (congr 1; first | (rw [← hfp, eq2_end (by omega) (by rw [tysOf_len]; omega)]; done) | (rw [← hfp, eq2_drop hx hyt, (by assumption : p x.1 x.2 y = false), Bool.false_and]; done) | (rw [eq2_len]; rw [tysOf_len]; omega) | trace_state)
set_option maxHeartbeats 4000000 in
theorem eqVDCt (F : Heap) (l : Vf) (v : Value) (h : TrS F 4 VhR v l) (fs : List FD) (v2 : Value) (h2 : LiM F 3 FdR v2 fs) (fid : FuncId) (fi ca : List Value) [hfn : HasFn Tryz.prog fid] (p : VH → Vf → FD → Bool)
    (hcl : ∀ k x y cs cs2, l.get? k = some x → fs[k]? = some y → VaC F cs x.1 x.2 → FdR F y cs2 → Ct Tryz.prog fid (fi ++ [.agg ⟨cs⟩, .agg ⟨cs2⟩] ++ ca) F [] (fun _ _ u => u = .bool (p x.1 x.2 y))) :
    Ct Tryz.prog 45 [v, v2, .func (.func fid) ⟨fi⟩ ⟨ca⟩] F [] (fun _ _ u => u = .bool (eq2 p l fs)) := by
  obtain ⟨ao, cap, rfl, hcap, hpos⟩ := h
  obtain ⟨ao2, cap2, rfl, hcap2, hpos2⟩ := h2
  refine Ct.enter Tryz.func45 rfl Tryz.ntmps45 rfl fun w0 a S => ?_
  refine wp_sr fun Kq1 hKq1 => ?_
  (refine wpl_p S ?_; clear S a; intro a S)
  (refine wpList_nil (hKq1 _ _ (wp_seq_k fun Kq2 hKq2 => ?_)); try clear hKq1 Kq1)
  refine wp_sr fun Kq3 hKq3 => ?_
  (refine wpl_p S ?_; clear S a; intro a S)
  (refine wpl_n S ?_; clear S a; intro a S)
  (refine wpl_p S ?_; clear S a; intro a S)
  (refine wpl_n S ?_; clear S a; intro a S)
  (refine wpl_p S ?_; clear S a; intro a S)
  (refine wpList_nil (hKq3 _ _ ?_); try clear hKq3 Kq3)
  refine wpc_split S rfl (fun h => ?_) (fun h => ?_)
  · (skip; (try simp only [tq] at h))
    refine wp_sr fun Kq4 hKq4 => ?_
    (refine wpl_p S ?_; clear S a; intro a S)
    (refine wpList_nil (hKq4 _ _ ?_); try clear hKq4 Kq4)
    refine wp_ret (fin_ret S (results1 Tryz.results45 (RV.tmp S rfl)) ?_)
    (congr 1; first | (rw [← hfp, eq2_end (by omega) (by omega)]; done) | (rw [← hfp, eq2_drop hx hyt, (by assumption : p x.1 x.2 y = false), Bool.false_and]; done) | (rw [eq2_len]; omega) | trace_state)
  (skip; (try simp only [tq] at h))
  refine wp_skip ?_
  (refine hKq2 _ _ ?_; try (clear hKq2 Kq2))
  (refine wp_seq_k ?_; intro Kq4 hKq4)
  refine wp_sr fun Kq5 hKq5 => ?_
  (refine wpl_p S ?_; clear S a; intro a S)
  (refine wpl_n S ?_; clear S a; intro a S)
  (refine wpl_p S ?_; clear S a; intro a S)
  (refine wpList_nil (hKq5 _ _ ?_); try clear hKq5 Kq5)
  refine wp_block ?_
  refine wpc_loop (fun m a w' => ∃ (k : Nat), m = l.len - k ∧ k ≤ l.len ∧ eq2 p (l.drop k) (fs.drop k) = eq2 p l fs ∧ St 32 [(0, .slice ao l.len cap), (1, .slice ao2 fs.length cap2), (2, .func (.func fid) ⟨fi⟩ ⟨ca⟩), (15, .slice ao l.len cap), (16, .int .i64 l.len), (17, .int .i64 k)] w0 F [] F [] a w') ?_ ?_
  · (have hll : l.len = fs.length := (by omega); refine ⟨l.len, 0, by omega, Nat.zero_le _, rfl, ?_⟩; refine S.keep ?_; repeat (first | exact trivial | refine ⟨rfl, ?_⟩))
  (clear S; rintro m a w ⟨k, rfl, hkl, hfp, S⟩)
  refine wp_sr fun Kq6 hKq6 => ?_
  (refine wpl_p S ?_; clear S a; intro a S)
  (refine wpList_nil (hKq6 _ _ (wp_seq_k fun Kq7 hKq7 => ?_)); try clear hKq6 Kq6)
  refine wpc_split S rfl (fun h => ?_) (fun h => ?_)
  · (skip; (try simp only [tq] at h))
    refine wp_skip ?_
    (refine hKq7 _ _ ?_; try (clear hKq7 Kq7))
    (refine wp_seq_k ?_; intro Kq8 hKq8)
    refine wp_block ?_
    (refine wp_seq_k ?_; intro Kq9 hKq9)
    (obtain ⟨b8, o8, hao, x, cs1, v1, hx, hc1, hw9, hT1⟩ := TrM.pos hpos (k := k) (by omega); rw [hao] at S; have hT1c := hT1; obtain ⟨a91, c91, rfl, -⟩ := hT1c; have hw9c := hw9.1; subst hw9c; (simp only [List.cons_append, List.nil_append] at hc1); obtain ⟨b9, o9, hao2, y, cs2, hyt, hc2, ⟨w3, rfl, hfs⟩⟩ := LiM.pos hpos2 (k := k) (by omega); rw [hao2] at S; have hfsc := hfs; obtain ⟨af, cf, rfl, -, -⟩ := hfsc)
    refine wp_region_lit ?_
    (refine wpl_p S ?_; clear S a; intro a S)
    (refine wpl_i S ?_; clear S a; intro a S)
    (refine wpl_l S ?_; clear S a; intro a S)
    (refine wpl_al S ?_; clear S a; intro b8 a w S)
    (refine wpl_p S ?_; clear S a; intro a S)
    (refine wpl_storeO S rfl rfl rfl rfl rfl (by rfl) (by simp [Value.cells, Value.oneCell', splice]) (by rfl) ?_; clear S; intro w S)
    (refine wpList_nil (hKq9 _ _ (wp_sr fun Kq10 hKq10 => ?_)); try clear hKq9 Kq9)
    iterate 2 (refine wpl_p S ?_; clear S a; intro a S)
    (refine wpl_i S ?_; clear S a; intro a S)
    (refine wpl_l S ?_; clear S a; intro a S)
    (refine wpl_al S ?_; clear S a; intro b9 a w S)
    (refine wpl_storeO S rfl rfl rfl rfl rfl (by rfl) (by simp [Value.cells, Value.oneCell', splice]) (by rfl) ?_; clear S; intro w S)
    (refine wpList_nil (hKq10 _ _ (wp_sr fun Kq11 hKq11 => ?_)); try clear hKq10 Kq10)
    (refine wpl_p S ?_; clear S a; intro a S)
    iterate 2 (refine wpl_l S ?_; clear S a; intro a S)
    (refine wpl_c0 S (hcl k x y _ _ hx hyt ⟨_, rfl, hT1, hw9.2⟩ ⟨_, rfl, hfs⟩) ?_; clear S a; intro v a w hv S; subst hv)
    (refine wpl_p S ?_; clear S a; intro a S)
    (refine wpList_nil (hKq11 _ _ ?_); try clear hKq11 Kq11)
    refine wpc_split S rfl (fun h => ?_) (fun h => ?_)
    · (skip; (try simp only [tq] at h))
      refine wp_sr fun Kq12 hKq12 => ?_
      (refine wpl_p S ?_; clear S a; intro a S)
      (refine wpList_nil (hKq12 _ _ ?_); try clear hKq12 Kq12)
      refine wp_ret (fin_ret S (results1 Tryz.results45 (RV.tmp S rfl)) ?_)
      (congr 1; first | (rw [← hfp, eq2_end (by omega) (by omega)]; done) | (rw [← hfp, eq2_drop hx hyt, (by assumption : p x.1 x.2 y = false), Bool.false_and]; done) | (rw [eq2_len]; omega) | trace_state)
    (skip; (try simp only [tq] at h))
    refine wp_skip ?_
    (refine hKq8 _ _ ?_; try (clear hKq8 Kq8))
    refine wp_region_lit ?_
    (refine wpl_a S ?_; clear S a; intro a S)
    (refine wpl_p S ?_; clear S a; intro a S)
    refine wpList_nil ?_
    change ∃ m', _ ∧ _
    (rw [← hao, ← hao2] at S; replace S := S.drop1.drop1; refine ⟨l.len - (k + 1), by omega, k + 1, rfl, by omega, ?_, ?_⟩; rotate_left 1; (refine S.keep ?_; repeat (first | exact trivial | refine ⟨rfl, ?_⟩)); rw [← hfp, eq2_drop hx hyt, (by assumption : p x.1 x.2 y = true), Bool.true_and])
  (skip; (try simp only [tq] at h))
  refine wp_exit ?_
  (refine hKq4 _ _ ?_; try (clear hKq4 Kq4))
  refine wp_sr fun Kq8 hKq8 => ?_
  (refine wpl_p S ?_; clear S a; intro a S)
  (refine wpList_nil (hKq8 _ _ ?_); try clear hKq8 Kq8)
  refine wp_ret (fin_ret S (results1 Tryz.results45 (RV.tmp S rfl)) ?_)
  (congr 1; first | (rw [← hfp, eq2_end (by omega) (by omega)]; done) | (rw [← hfp, eq2_drop hx hyt, (by assumption : p x.1 x.2 y = false), Bool.false_and]; done) | (rw [eq2_len]; omega) | trace_state)
end Go.Proofs.YtoaodbclgeeaeaaGreatDoor
