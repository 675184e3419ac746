/- Walks: the functions of use, and use: what is wrong with a type that is used. -/
import Derived.Test.YtoaodbclgeeaeaaGreatDoorDeG
namespace Go.Proofs.YtoaodbclgeeaeaaGreatDoor
open Go Go.Wk Go.Un Go.De
set_option linter.unusedSimpArgs false
set_option linter.unusedVariables false
attribute [local irreducible] Go.wpList Go.Code.wp Go.wpStill Go.Wk.wpPre Go.bodyPost Go.Calls Go.Wk.Ct Go.Wk.OwnS
attribute [local irreducible] Go.Wk.wpG Go.Wk.wpM

/-- The declared types lie in memory that does not turn. -/
structure TyS (F : Heap) (tb m1 : Nat) (ts : List TD) : Prop where
  c : Cel F tb 0 (.map (some m1))
  m : MapS F TdR TD.nm m1 ts
theorem TyS.mono {F F' : Heap} {tb m1 : Nat} {ts : List TD} (hF : ∀ b o, F b = some o → F' b = some o) (h : TyS F tb m1 ts) : TyS F' tb m1 ts := ⟨h.c.mono hF, h.m.mono hF⟩
def zTD : TD := ⟨0, 0, false, [], [], []⟩
/-- What is found under a name. -/
theorem get_td {F : Heap} {es : List (List UInt8 × Value)} {ts : List TD} (hm : MapM F TdR TD.nm es ts) (s : List UInt8) :
    ∃ (x : TD) (ap : Option Addr) (cp : Nat) (ac : Option Addr) (cc : Nat), (mGet es s).getD (.agg #[.int .i64 0, .int .i64 0, .bool false, .string { data := #[] }, .slice none 0 0, .slice none 0 0]) = .agg ⟨[.int .i64 x.l, .int .i64 x.c, .bool x.pub, .string (bs x.nm), .slice ap x.ps.length cp, .slice ac x.cs.length cc]⟩ ∧
      LiM F 1 StR (.slice ap x.ps.length cp) x.ps ∧ LiM F 2 CdR (.slice ac x.cs.length cc) x.cs ∧ (findT ts s = some x ∨ findT ts s = none ∧ x = zTD) ∧ (mGet es s).isSome = declS ts s := by
  rcases hm.get s with ⟨x, cs, h1, h2, v, u, rfl, h3, h4⟩ | ⟨h1, h2⟩
  · have h3c := h3
    have h4c := h4
    obtain ⟨ap, cp, rfl, -, -⟩ := h3c
    obtain ⟨ac, cc, rfl, -, -⟩ := h4c
    exact ⟨x, ap, cp, ac, cc, by rw [h2]; rfl, h3, h4, .inl h1, by rw [h2]; unfold declS findT; rw [h1]; rfl⟩
  · exact ⟨zTD, none, 0, none, 0, by rw [h2]; rfl, LiM.nil _ _ _, LiM.nil _ _ _, .inr ⟨h1, rfl⟩, by rw [h2]; unfold declS findT; rw [h1]; rfl⟩
theorem par_len {ts : List TD} {s : List UInt8} {x : TD} (h : findT ts s = some x ∨ findT ts s = none ∧ x = zTD) : parN ts s = x.ps.length := by
  unfold parN
  rcases h with h | ⟨h, rfl⟩ <;> rw [h]
  rfl
def CbS (F : Heap) (fid : FuncId) (fi ca : List Value) (p : List UInt8 → Bool) : Prop := ∀ (F' : Heap) (s : List UInt8), (∀ b o, F b = some o → F' b = some o) → Ct Tryz.prog fid (fi ++ [.string (bs s)] ++ ca) F' [] (fun _ _ u => u = .bool (p s))
theorem use1Ct (F : Heap) (tb m1 bt : Nat) (ts : List TD) (hT : TyS F tb m1 ts) (hbt : Cel F bt 0 (ptr tb)) : CbS F 60 [] [.pointer (some ⟨bt, 0, none⟩)] (declS ts) := by
  unfold CbS
  intro F' s hF
  replace hbt := hbt.mono hF
  obtain ⟨hc, es, hes, hm⟩ := hT.mono hF
  have hg := hm.get s
  refine Ct.enter Tryz.func60 rfl Tryz.ntmps60 rfl fun w0 a S => ?_
  refine wp_sr fun Kq1 hKq1 => ?_
  (refine wpl_p S ?_; clear S a; intro a S)
  (refine wpList_nil (hKq1 _ _ (wp_sr fun Kq2 hKq2 => ?_)); try clear hKq1 Kq1)
  (refine wpl_v S rfl rfl rfl (sv_loadF S rfl rfl hbt) ?_; clear S a; intro a S)
  (refine wpl_s S ?_; clear S a; intro a S)
  (refine wpl_f S ?_; clear S a; intro a S)
  (refine wpl_v S rfl rfl rfl (sv_loadF S rfl rfl hc) ?_; clear S a; intro a S)
  (refine wpl_p S ?_; clear S a; intro a S)
  (refine wpl_v S rfl rfl rfl (sv_lookupF (enc := kS) S rfl rfl rfl hes) ?_; clear S a; intro a S)
  (obtain ⟨x, ap, cp, ac, cc, hgd, hps, hcs, hx, his⟩ := get_td hm s; rw [if_pos rfl, hgd, his] at S)
  iterate 3 (refine wpl_p S ?_; clear S a; intro a S)
  (refine wpl_al S ?_; clear S a; intro b4 a w S)
  (refine wpl_storeO S rfl rfl rfl rfl rfl (by rfl) (by simp [Value.cells, Value.oneCell', splice]) (by rfl) ?_; clear S; intro w S)
  (refine wpl_p S ?_; clear S a; intro a S)
  (refine wpList_nil (hKq2 _ _ (wp_sr fun Kq3 hKq3 => ?_)); try clear hKq2 Kq2)
  iterate 2 (refine wpl_p S ?_; clear S a; intro a S)
  (refine wpList_nil (hKq3 _ _ ?_); try clear hKq3 Kq3)
  exact wp_ret (fin_ret S (results1 Tryz.results60 (RV.tmp S rfl)) rfl)
theorem beqN (n m : Nat) : ((n : Int) == (m : Int)) = decide (n = m) := by
  rw [Bool.eq_iff_iff, beq_iff_eq, decide_eq_true_eq]; omega
theorem ble16 (n : Nat) : decide ((n : Int) ≤ 16) = decide (n ≤ 16) := by
  rw [Bool.eq_iff_iff, decide_eq_true_eq, decide_eq_true_eq]; omega
theorem use2Ct (F : Heap) (tb m1 bt : Nat) (ts : List TD) (hT : TyS F tb m1 ts) (hbt : Cel F bt 0 (ptr tb)) : CbT F 61 [] [.pointer (some ⟨bt, 0, none⟩)] (countsT ts) := by
  unfold CbT
  intro F' x cs hF hty
  obtain ⟨nm, ar⟩ := x
  obtain ⟨v, rfl, hs⟩ := hty
  obtain ⟨ao, cap, rfl, hcap, -⟩ := hs
  replace hbt := hbt.mono hF
  obtain ⟨hc, es, hes, hm⟩ := hT.mono hF
  refine Ct.enter Tryz.func61 rfl Tryz.ntmps61 rfl fun w0 a S => ?_
  refine wp_sr fun Kq1 hKq1 => ?_
  (refine wpl_bx S ?_; clear S a; intro b2 a w S)
  (refine wpl_p S ?_; clear S a; intro a S)
  (refine wpList_nil (hKq1 _ _ (wp_sr fun Kq2 hKq2 => ?_)); try clear hKq1 Kq1)
  (refine wpl_f S ?_; clear S a; intro a S)
  (refine wpl_l S ?_; clear S a; intro a S)
  (refine wpl_n S ?_; clear S a; intro a S)
  (refine wpl_p S ?_; clear S a; intro a S)
  (refine wpList_nil (hKq2 _ _ (wp_seq_k fun Kq3 hKq3 => ?_)); try clear hKq2 Kq2)
  refine wp_block ?_
  refine wp_sr fun Kq4 hKq4 => ?_
  (refine wpl_f S ?_; clear S a; intro a S)
  (refine wpl_l S ?_; clear S a; intro a S)
  (refine wpl_c0 S (plainCt F' nm) ?_; clear S a; intro v a w hv S; subst hv)
  (refine wpl_p S ?_; clear S a; intro a S)
  refine wpl_guard S rfl rfl rfl rfl rfl ?_ ?_
  · (intro h S'; clear S; have S := S'; clear S'; (try simp only [tq] at h))
    (refine wpl_f S ?_; clear S a; intro a S)
    refine wpl_take S rfl rfl rfl ?_
    (refine wpl_l S ?_; clear S a; intro a S)
    refine wpl_take S rfl rfl rfl ?_
    (refine wpl_c0 S (paramCt F' nm) ?_; clear S a; intro v a w hv S; subst hv)
    iterate 2 (refine wpl_p S ?_; clear S a; intro a S)
    (refine wpList_nil (hKq4 _ _ ?_); try clear hKq4 Kq4)
    refine wpc_split S rfl (fun h => ?_) (fun h => ?_)
    · (skip; (try simp only [tq] at h))
      refine wp_sr fun Kq5 hKq5 => ?_
      iterate 3 (refine wpl_p S ?_; clear S a; intro a S)
      (refine wpList_nil (hKq5 _ _ ?_); try clear hKq5 Kq5)
      refine wp_ret (fin_ret S (results1 Tryz.results61 (RV.tmp S rfl)) ?_)
      (congr 1; unfold countsT; first | (rw [if_pos (by first | exact .inl (by assumption) | exact .inr (by assumption))]; exact beqN _ 0) | (have hnp : ¬ (plainS (nm, ar).1 = true ∨ parS (nm, ar).1 = true) := (by rintro (h9 | h9) <;> simp_all); first | (have htu : (nm, ar).1 = sTuple := (by assumption); rw [if_neg hnp, if_pos htu]; first | (rw [show decide ((nm, ar).2.len ≠ 1) = true from decide_eq_true (show ar.len ≠ 1 by omega), Bool.true_and]; exact ble16 _) | (rw [show decide ((nm, ar).2.len ≠ 1) = false from decide_eq_false (show ¬ ar.len ≠ 1 by omega)]; rfl)) | (have hnt : ¬ (nm, ar).1 = sTuple := (by assumption); rw [if_neg hnp, if_neg hnt, par_len hx]; exact beqN _ _) | trace_state))
    (skip; (try simp only [tq] at h))
    refine wp_sr fun Kq5 hKq5 => ?_
    (refine wpl_f S ?_; clear S a; intro a S)
    (refine wpl_l S ?_; clear S a; intro a S)
    iterate 2 (refine wpl_p S ?_; clear S a; intro a S)
    (refine wpList_nil (hKq5 _ _ ?_); try clear hKq5 Kq5)
    refine wpc_split S rfl (fun h => ?_) (fun h => ?_)
    · (skip; (try simp only [tq] at h))
      refine wp_sr fun Kq6 hKq6 => ?_
      iterate 3 (refine wpl_p S ?_; clear S a; intro a S)
      refine wpl_guard S rfl rfl rfl rfl rfl ?_ ?_
      · (intro h S'; clear S; have S := S'; clear S'; (try simp only [tq] at h))
        (refine wpl_p S ?_; clear S a; intro a S)
        refine wpl_take S rfl rfl rfl ?_
        iterate 3 (refine wpl_p S ?_; clear S a; intro a S)
        (refine wpList_nil (hKq6 _ _ ?_); try clear hKq6 Kq6)
        refine wp_ret (fin_ret S (results1 Tryz.results61 (RV.tmp S rfl)) ?_)
        (congr 1; unfold countsT; first | (rw [if_pos (by first | exact .inl (by assumption) | exact .inr (by assumption))]; exact beqN _ 0) | (have hnp : ¬ (plainS (nm, ar).1 = true ∨ parS (nm, ar).1 = true) := (by rintro (h9 | h9) <;> simp_all); first | (have htu : (nm, ar).1 = sTuple := (by assumption); rw [if_neg hnp, if_pos htu]; first | (rw [show decide ((nm, ar).2.len ≠ 1) = true from decide_eq_true (show ar.len ≠ 1 by omega), Bool.true_and]; exact ble16 _) | (rw [show decide ((nm, ar).2.len ≠ 1) = false from decide_eq_false (show ¬ ar.len ≠ 1 by omega)]; rfl)) | (have hnt : ¬ (nm, ar).1 = sTuple := (by assumption); rw [if_neg hnp, if_neg hnt, par_len hx]; exact beqN _ _) | trace_state))
      (intro h; clear S a; intro a S; (try simp only [tq] at h))
      (refine wpl_k S ?_; clear S a; intro a S)
      iterate 2 (refine wpl_p S ?_; clear S a; intro a S)
      (refine wpList_nil (hKq6 _ _ ?_); try clear hKq6 Kq6)
      refine wp_ret (fin_ret S (results1 Tryz.results61 (RV.tmp S rfl)) ?_)
      (congr 1; unfold countsT; first | (rw [if_pos (by first | exact .inl (by assumption) | exact .inr (by assumption))]; exact beqN _ 0) | (have hnp : ¬ (plainS (nm, ar).1 = true ∨ parS (nm, ar).1 = true) := (by rintro (h9 | h9) <;> simp_all); first | (have htu : (nm, ar).1 = sTuple := (by assumption); rw [if_neg hnp, if_pos htu]; first | (rw [show decide ((nm, ar).2.len ≠ 1) = true from decide_eq_true (show ar.len ≠ 1 by omega), Bool.true_and]; exact ble16 _) | (rw [show decide ((nm, ar).2.len ≠ 1) = false from decide_eq_false (show ¬ ar.len ≠ 1 by omega)]; rfl)) | (have hnt : ¬ (nm, ar).1 = sTuple := (by assumption); rw [if_neg hnp, if_neg hnt, par_len hx]; exact beqN _ _) | trace_state))
    (skip; (try simp only [tq] at h))
    refine wp_skip ?_
    (refine hKq3 _ _ ?_; try (clear hKq3 Kq3))
    (refine wp_seq_k ?_; intro Kq6 hKq6)
    (refine wpc_mixM [0, 1, 2, 3, 4, 5, 6, 7, 8, 9, 10] [1, 4, 6, 7] [] (.one 0 (.one 1 (.one 2 (.one 3 (.one 4 (.one 5 (.one 6 (.one 7 (.one 8 (.one 9 (.one 10 (.one 11 .nil)))))))))))) [b2] S mixed (by kernel_rfl) ?_; clear S; intro w S)
    (refine wpm_p S ?_; clear S a; intro a S)
    (refine wpm_lateF S rfl rfl rfl (want_none _ rfl) rfl rfl (fun w' S => sv_loadF S rfl rfl hbt) ?_; clear S a; intro a S)
    (refine wpm_s S ?_; clear S a; intro a S)
    (refine wpm_f S ?_; clear S a; intro a S)
    (refine wpm_lateF S rfl rfl rfl (want_none _ rfl) rfl rfl (fun w' S => sv_loadF S rfl rfl hc) ?_; clear S a; intro a S)
    (refine wpm_f S ?_; clear S a; intro a S)
    (refine wpm_o b2 S ?_; clear S a; intro a S)
    (refine wpm_lateF S rfl rfl rfl (want_none _ rfl) rfl rfl (fun w' S => sv_lookupF (enc := kS) S rfl rfl rfl hes) ?_; clear S a; intro a S)
    (obtain ⟨x, ap, cp, ac, cc, hgd, hps, hcs, hx, his⟩ := get_td hm nm; rw [if_neg (by decide), hgd] at S)
    (refine wpm_v S rfl rfl rfl (want_none _ rfl) rfl rfl (fun w' S => sv_field1 S rfl rfl rfl inferInstance rfl) ?_; clear S a; intro a S)
    (refine wpm_n S ?_; clear S a; intro a S)
    (refine wpm_p S ?_; clear S a; intro a S)
    refine wpm_eff rfl rfl (kwa S) ?_
    (refine wpl_p S ?_; clear S a; intro a S)
    refine wpList_nil ?_
    (refine wpm_nil (kwa S) (hKq6 _ _ ?_); try clear hKq6 Kq6)
    refine wp_ret (fin_ret S (results1 Tryz.results61 (RV.tmp S rfl)) ?_)
    (congr 1; unfold countsT; first | (rw [if_pos (by first | exact .inl (by assumption) | exact .inr (by assumption))]; exact beqN _ 0) | (have hnp : ¬ (plainS (nm, ar).1 = true ∨ parS (nm, ar).1 = true) := (by rintro (h9 | h9) <;> simp_all); first | (have htu : (nm, ar).1 = sTuple := (by assumption); rw [if_neg hnp, if_pos htu]; first | (rw [show decide ((nm, ar).2.len ≠ 1) = true from decide_eq_true (show ar.len ≠ 1 by omega), Bool.true_and]; exact ble16 _) | (rw [show decide ((nm, ar).2.len ≠ 1) = false from decide_eq_false (show ¬ ar.len ≠ 1 by omega)]; rfl)) | (have hnt : ¬ (nm, ar).1 = sTuple := (by assumption); rw [if_neg hnp, if_neg hnt, par_len hx]; exact beqN _ _) | trace_state))
  (intro h; clear S a; intro a S; (try simp only [tq] at h))
  iterate 2 (refine wpl_k S ?_; clear S a; intro a S)
  iterate 2 (refine wpl_p S ?_; clear S a; intro a S)
  (refine wpList_nil (hKq4 _ _ ?_); try clear hKq4 Kq4)
  refine wpc_true S rfl ?_
  refine wp_sr fun Kq5 hKq5 => ?_
  iterate 3 (refine wpl_p S ?_; clear S a; intro a S)
  (refine wpList_nil (hKq5 _ _ ?_); try clear hKq5 Kq5)
  refine wp_ret (fin_ret S (results1 Tryz.results61 (RV.tmp S rfl)) ?_)
  (congr 1; unfold countsT; first | (rw [if_pos (by first | exact .inl (by assumption) | exact .inr (by assumption))]; exact beqN _ 0) | (have hnp : ¬ (plainS (nm, ar).1 = true ∨ parS (nm, ar).1 = true) := (by rintro (h9 | h9) <;> simp_all); first | (have htu : (nm, ar).1 = sTuple := (by assumption); rw [if_neg hnp, if_pos htu]; first | (rw [show decide ((nm, ar).2.len ≠ 1) = true from decide_eq_true (show ar.len ≠ 1 by omega), Bool.true_and]; exact ble16 _) | (rw [show decide ((nm, ar).2.len ≠ 1) = false from decide_eq_false (show ¬ ar.len ≠ 1 by omega)]; rfl)) | (have hnt : ¬ (nm, ar).1 = sTuple := (by assumption); rw [if_neg hnp, if_neg hnt, par_len hx]; exact beqN _ _) | trace_state))
theorem use3Ct (F : Heap) (bd : Nat) (ts : List TD) (fid : FuncId) [hfn : HasFn Tryz.prog fid] (fi ca : List Value) (hd : CbS F fid fi ca (declS ts)) (hbd : Cel F bd 0 (.func (.func fid) ⟨fi⟩ ⟨ca⟩)) : CbT F 65 [] [.pointer (some ⟨bd, 0, none⟩)] (nameT ts) := by
  unfold CbT
  intro F' x cs hF hty
  obtain ⟨nm, ar⟩ := x
  obtain ⟨v, rfl, hs⟩ := hty
  obtain ⟨ao, cap, rfl, hcap, -⟩ := hs
  replace hbd := hbd.mono hF
  refine Ct.enter Tryz.func65 rfl Tryz.ntmps65 rfl fun w0 a S => ?_
  refine wp_sr fun Kq1 hKq1 => ?_
  (refine wpl_bx S ?_; clear S a; intro b2 a w S)
  (refine wpl_p S ?_; clear S a; intro a S)
  (refine wpList_nil (hKq1 _ _ (wp_sr fun Kq2 hKq2 => ?_)); try clear hKq1 Kq1)
  (refine wpl_f S ?_; clear S a; intro a S)
  (refine wpl_l S ?_; clear S a; intro a S)
  (refine wpl_c0 S (plainCt F' nm) ?_; clear S a; intro v a w hv S; subst hv)
  iterate 2 (refine wpl_p S ?_; clear S a; intro a S)
  refine wpl_guard S rfl rfl rfl rfl rfl ?_ ?_
  · (intro h S'; clear S; have S := S'; clear S'; (try simp only [tq] at h))
    (refine wpl_f S ?_; clear S a; intro a S)
    refine wpl_take S rfl rfl rfl ?_
    (refine wpl_l S ?_; clear S a; intro a S)
    refine wpl_take S rfl rfl rfl ?_
    (refine wpl_c0 S (paramCt F' nm) ?_; clear S a; intro v a w hv S; subst hv)
    refine wpl_take S rfl rfl rfl ?_
    iterate 3 (refine wpl_p S ?_; clear S a; intro a S)
    refine wpl_guard S rfl rfl rfl rfl rfl ?_ ?_
    · (intro h S'; clear S; have S := S'; clear S'; (try simp only [tq] at h))
      (refine wpl_f S ?_; clear S a; intro a S)
      refine wpl_take S rfl rfl rfl ?_
      (refine wpl_l S ?_; clear S a; intro a S)
      refine wpl_take S rfl rfl rfl ?_
      iterate 3 (refine wpl_p S ?_; clear S a; intro a S)
      refine wpl_guard S rfl rfl rfl rfl rfl ?_ ?_
      · (intro h S'; clear S; have S := S'; clear S'; (try simp only [tq] at h))
        (refine wpl_v S rfl rfl rfl (sv_loadF S rfl rfl hbd) ?_; clear S a; intro a S)
        refine wpl_take S rfl rfl rfl ?_
        (refine wpl_f S ?_; clear S a; intro a S)
        refine wpl_take S rfl rfl rfl ?_
        (refine wpl_l S ?_; clear S a; intro a S)
        refine wpl_take S rfl rfl rfl ?_
        (refine wpl_c0 S (hd F' nm hF) ?_; clear S a; intro v a w hv S; subst hv)
        refine wpl_take S rfl rfl rfl ?_
        iterate 3 (refine wpl_p S ?_; clear S a; intro a S)
        (refine wpList_nil (hKq2 _ _ ?_); try clear hKq2 Kq2)
        refine wp_ret (fin_ret S (results1 Tryz.results65 (RV.tmp S rfl)) ?_)
        (unfold nameT; congr 1; simp [sTuple, *])
      (intro h; clear S a; intro a S; (try simp only [tq] at h))
      iterate 4 (refine wpl_k S ?_; clear S a; intro a S)
      iterate 2 (refine wpl_p S ?_; clear S a; intro a S)
      (refine wpList_nil (hKq2 _ _ ?_); try clear hKq2 Kq2)
      refine wp_ret (fin_ret S (results1 Tryz.results65 (RV.tmp S rfl)) ?_)
      (unfold nameT; congr 1; simp [sTuple, *])
    (intro h; clear S a; intro a S; (try simp only [tq] at h))
    iterate 2 (refine wpl_k S ?_; clear S a; intro a S)
    iterate 2 (refine wpl_p S ?_; clear S a; intro a S)
    iterate 5 (refine wpl_k S ?_; clear S a; intro a S)
    iterate 2 (refine wpl_p S ?_; clear S a; intro a S)
    (refine wpList_nil (hKq2 _ _ ?_); try clear hKq2 Kq2)
    refine wp_ret (fin_ret S (results1 Tryz.results65 (RV.tmp S rfl)) ?_)
    (unfold nameT; congr 1; simp [sTuple, *])
  (intro h; clear S a; intro a S; (try simp only [tq] at h))
  iterate 3 (refine wpl_k S ?_; clear S a; intro a S)
  iterate 2 (refine wpl_p S ?_; clear S a; intro a S)
  iterate 3 (refine wpl_k S ?_; clear S a; intro a S)
  iterate 2 (refine wpl_p S ?_; clear S a; intro a S)
  iterate 5 (refine wpl_k S ?_; clear S a; intro a S)
  iterate 2 (refine wpl_p S ?_; clear S a; intro a S)
  (refine wpList_nil (hKq2 _ _ ?_); try clear hKq2 Kq2)
  refine wp_ret (fin_ret S (results1 Tryz.results65 (RV.tmp S rfl)) ?_)
  (unfold nameT; congr 1; simp [sTuple, *])
theorem use4Ct (F : Heap) (bd : Nat) (p : Ty → Bool) (fid : FuncId) [hfn : HasFn Tryz.prog fid] (fi ca : List Value) (hd : CbT F fid fi ca p) (hbd : Cel F bd 0 (.func (.func fid) ⟨fi⟩ ⟨ca⟩)) : CbT F 66 [] [.pointer (some ⟨bd, 0, none⟩)] (fun y => !p y) := by
  unfold CbT
  intro F' x cs hF hty
  obtain ⟨nm, ar⟩ := x
  have hty0 := hty
  obtain ⟨v, rfl, hs⟩ := hty
  obtain ⟨ao, cap, rfl, hcap, -⟩ := hs
  replace hbd := hbd.mono hF
  refine Ct.enter Tryz.func66 rfl Tryz.ntmps66 rfl fun w0 a S => ?_
  refine wp_sr fun Kq1 hKq1 => ?_
  (refine wpl_bx S ?_; clear S a; intro b2 a w S)
  (refine wpl_p S ?_; clear S a; intro a S)
  (refine wpList_nil (hKq1 _ _ (wp_sr fun Kq2 hKq2 => ?_)); try clear hKq1 Kq1)
  (refine wpl_v S rfl rfl rfl (sv_loadF S rfl rfl hbd) ?_; clear S a; intro a S)
  (refine wpl_l S ?_; clear S a; intro a S)
  (refine wpl_c0 S (hd F' (nm, ar) _ hF hty0) ?_; clear S a; intro v a w hv S; subst hv)
  iterate 2 (refine wpl_p S ?_; clear S a; intro a S)
  (refine wpList_nil (hKq2 _ _ ?_); try clear hKq2 Kq2)
  exact wp_ret (fin_ret S (results1 Tryz.results66 (RV.tmp S rfl)) rfl)
theorem use51Ct (F : Heap) : CbT F 69 [] [] (fun z => !parS z.1 && openT z) := by
  unfold CbT
  intro F' x cs hF hty
  obtain ⟨nm, ar⟩ := x
  have hty0 := hty
  obtain ⟨v, rfl, hs⟩ := hty
  obtain ⟨ao, cap, rfl, hcap, -⟩ := hs
  refine Ct.enter Tryz.func69 rfl Tryz.ntmps69 rfl fun w0 a S => ?_
  refine wp_sr fun Kq1 hKq1 => ?_
  (refine wpl_bx S ?_; clear S a; intro b1 a w S)
  (refine wpl_p S ?_; clear S a; intro a S)
  (refine wpList_nil (hKq1 _ _ (wp_sr fun Kq2 hKq2 => ?_)); try clear hKq1 Kq1)
  (refine wpl_f S ?_; clear S a; intro a S)
  (refine wpl_l S ?_; clear S a; intro a S)
  (refine wpl_c0 S (paramCt F' nm) ?_; clear S a; intro v a w hv S; subst hv)
  iterate 2 (refine wpl_p S ?_; clear S a; intro a S)
  refine wpl_guard S rfl rfl rfl rfl rfl ?_ ?_
  · (intro h S'; clear S; have S := S'; clear S'; (try simp only [tq] at h))
    (refine wpl_l S ?_; clear S a; intro a S)
    refine wpl_take S rfl rfl rfl ?_
    (refine wpl_c0 S (openCt F' nm ar _ hty0) ?_; clear S a; intro v a w hv S; subst hv)
    iterate 2 (refine wpl_p S ?_; clear S a; intro a S)
    (refine wpList_nil (hKq2 _ _ ?_); try clear hKq2 Kq2)
    refine wp_ret (fin_ret S (results1 Tryz.results69 (RV.tmp S rfl)) ?_)
    (congr 1; simp [*])
  (intro h; clear S a; intro a S; (try simp only [tq] at h))
  (refine wpl_k S ?_; clear S a; intro a S)
  iterate 2 (refine wpl_p S ?_; clear S a; intro a S)
  (refine wpList_nil (hKq2 _ _ ?_); try clear hKq2 Kq2)
  refine wp_ret (fin_ret S (results1 Tryz.results69 (RV.tmp S rfl)) ?_)
  (congr 1; simp [*])
theorem use5Ct (F : Heap) (bd : Nat) (ts : List TD) (fid : FuncId) [hfn : HasFn Tryz.prog fid] (fi ca : List Value) (hd : CbS F fid fi ca (declS ts)) (hbd : Cel F bd 0 (.func (.func fid) ⟨fi⟩ ⟨ca⟩)) : CbT F 67 [] [.pointer (some ⟨bd, 0, none⟩)] (growT ts) := by
  unfold CbT
  intro F' x cs hF hty
  obtain ⟨nm, ar⟩ := x
  obtain ⟨v, rfl, hs⟩ := hty
  have hs0 := hs
  obtain ⟨ao, cap, rfl, hcap, -⟩ := hs
  replace hbd := hbd.mono hF
  refine Ct.enter Tryz.func67 rfl Tryz.ntmps67 rfl fun w0 a S => ?_
  refine wp_sr fun Kq1 hKq1 => ?_
  (refine wpl_bx S ?_; clear S a; intro b2 a w S)
  (refine wpl_p S ?_; clear S a; intro a S)
  (refine wpList_nil (hKq1 _ _ (wp_sr fun Kq2 hKq2 => ?_)); try clear hKq1 Kq1)
  (refine wpl_v S rfl rfl rfl (sv_loadF S rfl rfl hbd) ?_; clear S a; intro a S)
  (refine wpl_f S ?_; clear S a; intro a S)
  (refine wpl_l S ?_; clear S a; intro a S)
  (refine wpl_c0 S (hd F' nm hF) ?_; clear S a; intro v a w hv S; subst hv)
  (refine wpl_p S ?_; clear S a; intro a S)
  refine wpl_guard S rfl rfl rfl rfl rfl ?_ ?_
  · (intro h S'; clear S; have S := S'; clear S'; (try simp only [tq] at h))
    (refine wpl_f S ?_; clear S a; intro a S)
    refine wpl_take S rfl rfl rfl ?_
    (refine wpl_l S ?_; clear S a; intro a S)
    refine wpl_take S rfl rfl rfl ?_
    (refine wpl_c0 S (containsTCt F' ar _ hs0 69 [] [] _ (fun k y v1 hy hs1 => use51Ct F' F' y _ (fun _ _ h => h) ⟨v1, rfl, hs1⟩)) ?_; clear S a; intro v a w hv S; subst hv)
    iterate 2 (refine wpl_p S ?_; clear S a; intro a S)
    (refine wpList_nil (hKq2 _ _ ?_); try clear hKq2 Kq2)
    refine wp_ret (fin_ret S (results1 Tryz.results67 (RV.tmp S rfl)) ?_)
    (unfold growT; congr 1; simp [*])
  (intro h; clear S a; intro a S; (try simp only [tq] at h))
  iterate 2 (refine wpl_k S ?_; clear S a; intro a S)
  iterate 2 (refine wpl_p S ?_; clear S a; intro a S)
  (refine wpList_nil (hKq2 _ _ ?_); try clear hKq2 Kq2)
  refine wp_ret (fin_ret S (results1 Tryz.results67 (RV.tmp S rfl)) ?_)
  (unfold growT; congr 1; simp [*])
set_option maxRecDepth 20000 in
set_option maxHeartbeats 8000000 in
theorem useCt (F : Heap) (tb m1 : Nat) (ts : List TD) (hT : TyS F tb m1 ts) (nm : List UInt8) (ar : Fo) (cs : List Value) (hsz : ar.size ≤ 1000000) (h : TyC F cs nm ar) : Ct Tryz.prog 43 [.pointer (some ⟨tb, 0, none⟩), .agg ⟨cs⟩] F [] (fun _ _ u => u = .int .i64 (useT ts (nm, ar))) := by
  have h0 := h
  obtain ⟨v, rfl, hs⟩ := h
  obtain ⟨ao, cap, rfl, hcap, -⟩ := hs
  refine Ct.enter Tryz.func43 rfl Tryz.ntmps43 rfl fun w0 a S => ?_
  refine wp_sr fun Kq1 hKq1 => ?_
  (refine wpl_bx S ?_; clear S a; intro b2 a w S)
  (refine wpl_bx S ?_; clear S a; intro b3 a w S)
  (refine wpl_p S ?_; clear S a; intro a S)
  (refine wpList_nil (hKq1 _ _ (wp_sr fun Kq2 hKq2 => ?_)); try clear hKq1 Kq1)
  (refine wpl_p S ?_; clear S a; intro a S)
  (refine wpl_al S ?_; clear S a; intro b5 a w S)
  (refine wpl_store1 S rfl rfl rfl rfl rfl rfl (by first | (simp; done) | (simp [Value.cells]; done) | exact Nat.le_of_ble_eq_true rfl) ?_; clear S; intro w S)
  (refine wpList_nil (hKq2 _ _ (wp_sr fun Kq3 hKq3 => ?_)); try clear hKq2 Kq2)
  (refine wpl_p S ?_; clear S a; intro a S)
  (refine wpl_al S ?_; clear S a; intro b6 a w S)
  (refine wpl_store1 S rfl rfl rfl rfl rfl rfl (by first | (simp; done) | (simp [Value.cells]; done) | exact Nat.le_of_ble_eq_true rfl) ?_; clear S; intro w S)
  (refine wpList_nil (hKq3 _ _ (wp_seq_k fun Kq4 hKq4 => ?_)); try clear hKq3 Kq3)
  refine wp_block ?_
  (refine wp_seq_k ?_; intro Kq5 hKq5)
  (replace S : St _ _ _ _ _ F [[(b2, .cells ⟨[.pointer (some ⟨tb, 0, none⟩)]⟩ 43 (0, 0))], [(b5, .cells ⟨[.func (.func 60) ⟨[]⟩ ⟨[.pointer (some ⟨b2, 0, none⟩)]⟩]⟩ 89 (0, 0))], [(b6, .cells ⟨[.func (.func 61) ⟨[]⟩ ⟨[.pointer (some ⟨b2, 0, none⟩)]⟩]⟩ 83 (0, 0))], [(b3, .cells ⟨[.string (bs nm), .slice ao ar.len cap]⟩ 24 (0, 0))]] _ _ := St.permI S 4 rfl [3, 1, 0, 2] (by decide); have hle1 := add_le (G1 := []) S; replace S := St.freeze (G1 := []) S; (simp only [List.nil_append] at S hle1); have hb2 : Cel (F.add [(b2, .cells ⟨[.pointer (some ⟨tb, 0, none⟩)]⟩ 43 (0, 0))]) b2 0 (ptr tb) := ⟨_, _, _, Heap.add_new (p := (b2, _)) (List.mem_singleton.2 rfl) (by simp), rfl⟩; generalize (F.add [(b2, .cells ⟨[.pointer (some ⟨tb, 0, none⟩)]⟩ 43 (0, 0))]) = F1 at S hle1 hb2; have hle2 := add_le (G1 := []) S; replace S := St.freeze (G1 := []) S; (simp only [List.nil_append] at S hle2); have hb5 : Cel (F1.add [(b5, .cells ⟨[.func (.func 60) ⟨[]⟩ ⟨[.pointer (some ⟨b2, 0, none⟩)]⟩]⟩ 89 (0, 0))]) b5 0 (.func (.func 60) ⟨[]⟩ ⟨[.pointer (some ⟨b2, 0, none⟩)]⟩) := ⟨_, _, _, Heap.add_new (p := (b5, _)) (List.mem_singleton.2 rfl) (by simp), rfl⟩; generalize (F1.add [(b5, .cells ⟨[.func (.func 60) ⟨[]⟩ ⟨[.pointer (some ⟨b2, 0, none⟩)]⟩]⟩ 89 (0, 0))]) = F2 at S hle2 hb5; have hle3 := add_le (G1 := []) S; replace S := St.freeze (G1 := []) S; (simp only [List.nil_append] at S hle3); have hb6 : Cel (F2.add [(b6, .cells ⟨[.func (.func 61) ⟨[]⟩ ⟨[.pointer (some ⟨b2, 0, none⟩)]⟩]⟩ 83 (0, 0))]) b6 0 (.func (.func 61) ⟨[]⟩ ⟨[.pointer (some ⟨b2, 0, none⟩)]⟩) := ⟨_, _, _, Heap.add_new (p := (b6, _)) (List.mem_singleton.2 rfl) (by simp), rfl⟩; generalize (F2.add [(b6, .cells ⟨[.func (.func 61) ⟨[]⟩ ⟨[.pointer (some ⟨b2, 0, none⟩)]⟩]⟩ 83 (0, 0))]) = F3 at S hle3 hb6; replace hb5 := hb5.mono hle3; replace hb2 := (hb2.mono hle2).mono hle3; have hF3 : ∀ b o, F b = some o → F3 b = some o := (fun b o h => hle3 _ _ (hle2 _ _ (hle1 _ _ h))); have hT3 := hT.mono hF3; have h3 := h0.mono hF3; have hd1 := use1Ct F3 tb m1 b2 ts hT3 hb2; have hd2 := use2Ct F3 tb m1 b2 ts hT3 hb2)
  refine wp_region_lit ?_
  (refine wpl_l S ?_; clear S a; intro a S)
  (refine wpl_c0 S (depthCt F3 ar.size nm ar _ (Nat.le_refl _) (by omega) h3) ?_; clear S a; intro v a w hv S; subst hv)
  iterate 2 (refine wpl_p S ?_; clear S a; intro a S)
  (refine wpList_nil (hKq5 _ _ ?_); try clear hKq5 Kq5)
  refine wpc_split S rfl (fun h => ?_) (fun h => ?_)
  · (skip; (try simp only [tq] at h))
    refine wp_sr fun Kq6 hKq6 => ?_
    (refine wpl_p S ?_; clear S a; intro a S)
    (refine wpList_nil (hKq6 _ _ ?_); try clear hKq6 Kq6)
    refine wp_ret (fin_ret S (results1 Tryz.results43 (RV.tmp S rfl)) ?_)
    (unfold useT; first | (rw [if_pos (by omega)]; done) | (rw [if_neg (by omega), if_pos (by assumption)]; done) | (rw [if_neg (by omega), if_neg (by simp [*]), if_pos (by assumption)]; done) | (rw [if_neg (by omega), if_neg (by simp [*]), if_neg (by simp [*]), if_pos (by assumption)]; done) | (rw [if_neg (by omega), if_neg (by simp [*]), if_neg (by simp [*]), if_neg (by simp [*])]; done) | trace_state)
  (skip; (try simp only [tq] at h))
  refine wp_sr fun Kq6 hKq6 => ?_
  (refine wpl_l S ?_; clear S a; intro a S)
  (refine wpl_p S ?_; clear S a; intro a S)
  (refine wpl_c0 S (withinCt F3 65 [] [.pointer (some ⟨b5, 0, none⟩)] _ (use3Ct F3 b5 ts _ [] _ hd1 hb5) (ar.size + 1) F3 nm ar _ (Nat.lt_succ_self _) (fun _ _ h => h) h3) ?_; clear S a; intro v a w hv S; subst hv)
  (refine wpl_p S ?_; clear S a; intro a S)
  (refine wpList_nil (hKq6 _ _ ?_); try clear hKq6 Kq6)
  refine wpc_split S rfl (fun h => ?_) (fun h => ?_)
  · (skip; (try simp only [tq] at h))
    refine wp_sr fun Kq7 hKq7 => ?_
    (refine wpl_p S ?_; clear S a; intro a S)
    (refine wpList_nil (hKq7 _ _ ?_); try clear hKq7 Kq7)
    refine wp_ret (fin_ret S (results1 Tryz.results43 (RV.tmp S rfl)) ?_)
    (unfold useT; first | (rw [if_pos (by omega)]; done) | (rw [if_neg (by omega), if_pos (by assumption)]; done) | (rw [if_neg (by omega), if_neg (by simp [*]), if_pos (by assumption)]; done) | (rw [if_neg (by omega), if_neg (by simp [*]), if_neg (by simp [*]), if_pos (by assumption)]; done) | (rw [if_neg (by omega), if_neg (by simp [*]), if_neg (by simp [*]), if_neg (by simp [*])]; done) | trace_state)
  (skip; (try simp only [tq] at h))
  refine wp_sr fun Kq7 hKq7 => ?_
  (refine wpl_l S ?_; clear S a; intro a S)
  (refine wpl_p S ?_; clear S a; intro a S)
  (refine wpl_c0 S (withinCt F3 66 [] [.pointer (some ⟨b6, 0, none⟩)] _ (use4Ct F3 b6 _ _ [] _ hd2 hb6) (ar.size + 1) F3 nm ar _ (Nat.lt_succ_self _) (fun _ _ h => h) h3) ?_; clear S a; intro v a w hv S; subst hv)
  (refine wpl_p S ?_; clear S a; intro a S)
  (refine wpList_nil (hKq7 _ _ ?_); try clear hKq7 Kq7)
  refine wpc_split S rfl (fun h => ?_) (fun h => ?_)
  · (skip; (try simp only [tq] at h))
    refine wp_sr fun Kq8 hKq8 => ?_
    (refine wpl_p S ?_; clear S a; intro a S)
    (refine wpList_nil (hKq8 _ _ ?_); try clear hKq8 Kq8)
    refine wp_ret (fin_ret S (results1 Tryz.results43 (RV.tmp S rfl)) ?_)
    (unfold useT; first | (rw [if_pos (by omega)]; done) | (rw [if_neg (by omega), if_pos (by assumption)]; done) | (rw [if_neg (by omega), if_neg (by simp [*]), if_pos (by assumption)]; done) | (rw [if_neg (by omega), if_neg (by simp [*]), if_neg (by simp [*]), if_pos (by assumption)]; done) | (rw [if_neg (by omega), if_neg (by simp [*]), if_neg (by simp [*]), if_neg (by simp [*])]; done) | trace_state)
  (skip; (try simp only [tq] at h))
  refine wp_sr fun Kq8 hKq8 => ?_
  (refine wpl_l S ?_; clear S a; intro a S)
  (refine wpl_p S ?_; clear S a; intro a S)
  (refine wpl_c0 S (withinCt F3 67 [] [.pointer (some ⟨b5, 0, none⟩)] _ (use5Ct F3 b5 ts _ [] _ hd1 hb5) (ar.size + 1) F3 nm ar _ (Nat.lt_succ_self _) (fun _ _ h => h) h3) ?_; clear S a; intro v a w hv S; subst hv)
  (refine wpl_p S ?_; clear S a; intro a S)
  (refine wpList_nil (hKq8 _ _ ?_); try clear hKq8 Kq8)
  refine wpc_split S rfl (fun h => ?_) (fun h => ?_)
  · (skip; (try simp only [tq] at h))
    refine wp_sr fun Kq9 hKq9 => ?_
    (refine wpl_p S ?_; clear S a; intro a S)
    (refine wpList_nil (hKq9 _ _ ?_); try clear hKq9 Kq9)
    refine wp_ret (fin_ret S (results1 Tryz.results43 (RV.tmp S rfl)) ?_)
    (unfold useT; first | (rw [if_pos (by omega)]; done) | (rw [if_neg (by omega), if_pos (by assumption)]; done) | (rw [if_neg (by omega), if_neg (by simp [*]), if_pos (by assumption)]; done) | (rw [if_neg (by omega), if_neg (by simp [*]), if_neg (by simp [*]), if_pos (by assumption)]; done) | (rw [if_neg (by omega), if_neg (by simp [*]), if_neg (by simp [*]), if_neg (by simp [*])]; done) | trace_state)
  (skip; (try simp only [tq] at h))
  refine wp_skip ?_
  (refine hKq4 _ _ ?_; try (clear hKq4 Kq4))
  refine wp_sr fun Kq9 hKq9 => ?_
  (refine wpl_p S ?_; clear S a; intro a S)
  (refine wpList_nil (hKq9 _ _ ?_); try clear hKq9 Kq9)
  refine wp_ret (fin_ret S (results1 Tryz.results43 (RV.tmp S rfl)) ?_)
  (unfold useT; first | (rw [if_pos (by omega)]; done) | (rw [if_neg (by omega), if_pos (by assumption)]; done) | (rw [if_neg (by omega), if_neg (by simp [*]), if_pos (by assumption)]; done) | (rw [if_neg (by omega), if_neg (by simp [*]), if_neg (by simp [*]), if_pos (by assumption)]; done) | (rw [if_neg (by omega), if_neg (by simp [*]), if_neg (by simp [*]), if_neg (by simp [*])]; done) | trace_state)
end Go.Proofs.YtoaodbclgeeaeaaGreatDoor
