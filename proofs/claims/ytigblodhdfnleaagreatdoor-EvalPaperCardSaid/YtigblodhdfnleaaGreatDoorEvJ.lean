/- Walks: the machine's whole. Walks: the machine's call. -/
import Derived.Test.YtigblodhdfnleaaGreatDoorEvH
namespace Go.Proofs.YtigblodhdfnleaaGreatDoor
open Go Go.Wk Go.Un Go.De Go.Num
set_option linter.unusedSimpArgs false
set_option linter.unusedVariables false
attribute [local irreducible] Go.wpList Go.Code.wp Go.wpStill Go.Wk.wpPre Go.bodyPost Go.Calls Go.Wk.Ct Go.Wk.OwnS
attribute [local irreducible] Go.Wk.wpG Go.Wk.wpM

theorem parts_no {q : VH} {A : List Ans} (h : (listO A).1 ≠ 0) : partsO q A = noA (listO A).1 := by unfold partsO; rw [if_pos h]
theorem parts_yes {q : VH} {A : List Ans} (h : ¬ (listO A).1 ≠ 0) : partsO q A = wholeO q (roseOf (listO A).2) := by unfold partsO; rw [if_neg h]
theorem whole_over {q : VH} {L : Vf} (h : checkV q L = 65 ∨ 4096 < (L.size : Int) + 1) : wholeO q L = noA 80 := by
  unfold wholeO
  rw [if_pos (by rw [insL_size]; omega)]
theorem whole_form {q : VH} {L : Vf} (h : ¬ checkV q L = 65) (h1 : ¬ 4096 < (L.size : Int) + 1) (h2 : checkV q L ≠ 0) : wholeO q L = noA 4 := by
  unfold wholeO
  rw [if_neg (by rw [insL_size]; omega), if_pos h2]
theorem whole_yes {q : VH} {L : Vf} (h : ¬ checkV q L = 65) (h1 : ¬ 4096 < (L.size : Int) + 1) (h2 : ¬ checkV q L ≠ 0) : wholeO q L = yesA (q, L) := by
  unfold wholeO
  rw [if_neg (by rw [insL_size]; omega), if_neg h2]
set_option maxHeartbeats 16000000 in
theorem wholeCt {n : Nat} (hE : EvC n) (F : Heap) (bm : Nat) (cs : List KC) (vs : List Bd) (eh : EH) (L : Ef) (xs : List Value) (hn : L.size ≤ n) (hM : Mac F bm cs vs) (hX : ExC F xs eh L) (hg : GE eh L) (hf : formEL L = true) (hk : eh.k = 4 ∨ eh.k = 5) :
    Ct Tryz.prog 61 [ptr bm, .agg ⟨xs⟩] F [] (fun F' _ u => AnsR F' u (evE cs vs eh L)) := by
  obtain ⟨a1, n1, c1, ao, cap, rfl, -, hL⟩ := exc_slc hX
  have hMc := hM
  obtain ⟨⟨tv, aov, capv, bt, es, hm0, hm1, hm2, hvs, hes, hops, hK⟩, hT, hEr, hGB⟩ := hM
  have hgl := listO_GV (evL_GV (cs := cs) hGB hg.2.2)
  have hll := listO_len (evL cs vs L)
  rw [evL_len] at hll
  have hsz := roseOf_size hgl
  have hg1 := hg.2.1.1
  refine Ct.enter Tryz.func61 rfl Tryz.ntmps61 rfl fun w0 a S => ?_
  refine wp_sr fun Kq1 hKq1 => ?_
  (refine wpl_box S rfl rfl rfl rfl rfl ?_; clear S a; intro b3 a w S)
  (refine wpl_alloc S rfl rfl rfl rfl ?_; clear S a; intro b4 a w S)
  (refine wpl_p S rfl rfl rfl ?_; clear S a; intro a S)
  (refine wpList_nil (hKq1 _ _ (wp_sr fun Kq2 hKq2 => ?_)); try clear hKq1 Kq1)
  (refine wpl_b S rfl rfl rfl ?_; clear S a; intro a S)
  (refine wpl_alloc S rfl rfl rfl rfl ?_; clear S a; intro b6 a w S)
  (refine wpl_storeO S rfl rfl rfl rfl rfl (by rfl) (by simp [Value.cells, Value.oneCell', splice]) (by rfl) ?_; clear S; intro w S)
  (refine wpList_nil (hKq2 _ _ (wp_seq_k fun Kq3 hKq3 => ?_)); try clear hKq2 Kq2)
  replace hKq3 : ∀ (a' : Act) (w' : World), (∃ (q : VH) (F3 : Heap), (∀ b o, F b = some o → F3 b = some o) ∧ evE cs vs eh L = partsO q (evL cs vs L) ∧ q.s.length ≤ 140737488355328 ∧ St 70 [(0, ptr bm), (3, ptr b3), (4, ptr b4), (5, .int .i64 0), (6, ptr b6)] w0 F [] F3 [[(b6, .cells ⟨[.int .u8 (q.k : Int), .int .i64 q.n, .string (bs q.s), .slice none 0 0]⟩ 26 (0, 0))], [(b4, .cells ⟨[.int .u8 0, .int .i64 0, .string (bs []), .slice none 0 0]⟩ 26 (0, 0))], [(b3, .cells ⟨[.int .u8 (eh.k : Int), .int .i64 eh.l, .int .i64 eh.c, .string (bs eh.nm), .int .u8 (eh.v.k : Int), .int .i64 eh.v.n, .string (bs eh.v.s), .slice a1 n1 c1, .slice ao L.len cap]⟩ 34 (0, 0))]] a' w') → Kq3 a' w' := (by
   (intro a w hM; refine hKq3 _ _ ?_; clear hKq3 Kq3; clear S; obtain ⟨q, F3, hF3, hpq, hqs, S⟩ := hM)
   refine wp_sr fun Kq4 hKq4 => ?_
   (refine wpl_p S rfl rfl rfl ?_; clear S a; intro a S)
   (refine wpl_f S rfl rfl rfl ?_; clear S a; intro a S)
   (refine wpl_l S rfl rfl rfl ?_; clear S a; intro a S)
   (refine wpl_callF S rfl rfl rfl rfl rfl rfl (listCt hE F3 bm cs vs L _ hn (hMc.mono hF3) (hL.mono hF3) hg.2.2 hg.2.1.1 hf) rfl ?_; clear S a; intro u7 F6 a w hv hF6 S; obtain ⟨v6, rfl, hT6⟩ := hv; have hT6c := hT6; obtain ⟨a6, c6, rfl, -⟩ := hT6c; have hpn := @parts_no q (evL cs vs L); have hpy := @parts_yes q (evL cs vs L); generalize listO (evL cs vs L) = B at S hT6 hgl hll hsz hpn hpy)
   iterate 5 (refine wpl_p S rfl rfl rfl ?_; clear S a; intro a S)
   (refine wpList_nil (hKq4 _ _ (wp_seq_k fun Kq5 hKq5 => ?_)); try clear hKq4 Kq4)
   refine wp_sr fun Kq6 hKq6 => ?_
   iterate 2 (refine wpl_p S rfl rfl rfl ?_; clear S a; intro a S)
   (refine wpList_nil (hKq6 _ _ ?_); try clear hKq6 Kq6)
   refine wpc_split S rfl (fun h => ?_) (fun h => ?_)
   · (skip; (try simp only [tq] at h))
     refine wp_sr fun Kq7 hKq7 => ?_
     (refine wpl_b S rfl rfl rfl ?_; clear S a; intro a S)
     (refine wpl_p S rfl rfl rfl ?_; clear S a; intro a S)
     (refine wpl_storeO S rfl rfl rfl rfl rfl (by rfl) (by simp [Value.cells, Value.oneCell', splice]) (by rfl) ?_; clear S; intro w S)
     (refine wpl_p S rfl rfl rfl ?_; clear S a; intro a S)
     (refine wpList_nil (hKq7 _ _ ?_); try clear hKq7 Kq7)
     refine wp_ret (fin_ret S (results2 Tryz.results61 (RV.cellO S rfl (by rfl)) (RV.tmp S rfl)) ?_)
     (first | (rw [evE_mk0 (by omega) (o_none (by assumption))]; exact ans_no _ _) | (rw [evE_mk1 (by omega) hy (by omega)]; exact ans_no _ _) | (rw [hpq, hpn (by assumption)]; exact ans_no _ _) | (rw [hpq, hpy (by omega)]; first | (rw [whole_over (.inl (by assumption))]; exact ans_no _ _) | (rw [whole_over (.inr (by assumption))]; exact ans_no _ _) | (rw [whole_form (by omega) (by omega) (by omega)]; exact ans_no _ _) | (rw [whole_yes (by omega) (by omega) (by omega)]; exact ⟨_, rfl, _, rfl, hT6, hqs⟩)) | trace_state)
   (skip; (try simp only [tq] at h))
   refine wp_skip ?_
   (refine hKq5 _ _ ?_; try (clear hKq5 Kq5))
   refine wp_sr fun Kq7 hKq7 => ?_
   (refine wpl_p S rfl rfl rfl ?_; clear S a; intro a S)
   (refine wpl_f S rfl rfl rfl ?_; clear S a; intro a S)
   (refine wpl_store1 S rfl rfl rfl rfl rfl rfl (by first | (simp; done) | (simp [Value.cells]; done) | exact Nat.le_of_ble_eq_true rfl) ?_; clear S; intro w S)
   (refine wpList_nil (hKq7 _ _ (wp_seq_k fun Kq8 hKq8 => ?_)); try clear hKq7 Kq7)
   refine wp_sr fun Kq9 hKq9 => ?_
   (refine wpl_l S rfl rfl rfl ?_; clear S a; intro a S)
   (refine wpl_call0 S rfl rfl rfl rfl rfl rfl (checkVCt F6 q (roseOf B.2) _ (by omega) ⟨_, rfl, hT6, hqs⟩) rfl ?_; clear S a; intro v a w hv S; subst hv)
   (refine wpl_p S rfl rfl rfl ?_; clear S a; intro a S)
   (refine wpList_nil (hKq9 _ _ ?_); try clear hKq9 Kq9)
   refine wp_block ?_
   refine wp_sr fun Kq10 hKq10 => ?_
   iterate 3 (refine wpl_p S rfl rfl rfl ?_; clear S a; intro a S)
   refine wpl_guard S rfl rfl rfl rfl rfl ?_ ?_
   · (intro h S'; clear S; have S := S'; clear S'; (try simp only [tq] at h))
     (refine wpl_l S rfl rfl rfl ?_; clear S a; intro a S)
     refine wpl_take S rfl rfl rfl ?_
     (refine wpl_call0 S rfl rfl rfl rfl rfl rfl (insideCt (roseOf B.2).size F6 q (roseOf B.2) _ (Nat.le_refl _) (by omega) ⟨_, rfl, hT6, hqs⟩) rfl ?_; clear S a; intro v a w hv S; subst hv)
     refine wpl_take S rfl rfl rfl ?_
     iterate 3 (refine wpl_p S rfl rfl rfl ?_; clear S a; intro a S)
     (refine wpList_nil (hKq10 _ _ ?_); try clear hKq10 Kq10)
     refine wpc_split S rfl (fun h => ?_) (fun h => ?_)
     · (skip; (try simp only [tq] at h))
       refine wp_sr fun Kq11 hKq11 => ?_
       (refine wpl_b S rfl rfl rfl ?_; clear S a; intro a S)
       (refine wpl_storeO S rfl rfl rfl rfl rfl (by rfl) (by simp [Value.cells, Value.oneCell', splice]) (by rfl) ?_; clear S; intro w S)
       (refine wpl_p S rfl rfl rfl ?_; clear S a; intro a S)
       (refine wpList_nil (hKq11 _ _ ?_); try clear hKq11 Kq11)
       refine wp_ret (fin_ret S (results2 Tryz.results61 (RV.cellO S rfl (by rfl)) (RV.tmp S rfl)) ?_)
       (first | (rw [evE_mk0 (by omega) (o_none (by assumption))]; exact ans_no _ _) | (rw [evE_mk1 (by omega) hy (by omega)]; exact ans_no _ _) | (rw [hpq, hpn (by assumption)]; exact ans_no _ _) | (rw [hpq, hpy (by omega)]; first | (rw [whole_over (.inl (by assumption))]; exact ans_no _ _) | (rw [whole_over (.inr (by assumption))]; exact ans_no _ _) | (rw [whole_form (by omega) (by omega) (by omega)]; exact ans_no _ _) | (rw [whole_yes (by omega) (by omega) (by omega)]; exact ⟨_, rfl, _, rfl, hT6, hqs⟩)) | trace_state)
     (skip; (try simp only [tq] at h))
     refine wp_sr fun Kq11 hKq11 => ?_
     iterate 3 (refine wpl_p S rfl rfl rfl ?_; clear S a; intro a S)
     (refine wpList_nil (hKq11 _ _ ?_); try clear hKq11 Kq11)
     refine wpc_split S rfl (fun h => ?_) (fun h => ?_)
     · (skip; (try simp only [tq] at h))
       refine wp_sr fun Kq12 hKq12 => ?_
       (refine wpl_b S rfl rfl rfl ?_; clear S a; intro a S)
       (refine wpl_storeO S rfl rfl rfl rfl rfl (by rfl) (by simp [Value.cells, Value.oneCell', splice]) (by rfl) ?_; clear S; intro w S)
       (refine wpl_p S rfl rfl rfl ?_; clear S a; intro a S)
       (refine wpList_nil (hKq12 _ _ ?_); try clear hKq12 Kq12)
       refine wp_ret (fin_ret S (results2 Tryz.results61 (RV.cellO S rfl (by rfl)) (RV.tmp S rfl)) ?_)
       (first | (rw [evE_mk0 (by omega) (o_none (by assumption))]; exact ans_no _ _) | (rw [evE_mk1 (by omega) hy (by omega)]; exact ans_no _ _) | (rw [hpq, hpn (by assumption)]; exact ans_no _ _) | (rw [hpq, hpy (by omega)]; first | (rw [whole_over (.inl (by assumption))]; exact ans_no _ _) | (rw [whole_over (.inr (by assumption))]; exact ans_no _ _) | (rw [whole_form (by omega) (by omega) (by omega)]; exact ans_no _ _) | (rw [whole_yes (by omega) (by omega) (by omega)]; exact ⟨_, rfl, _, rfl, hT6, hqs⟩)) | trace_state)
     (skip; (try simp only [tq] at h))
     refine wp_skip ?_
     (refine hKq8 _ _ ?_; try (clear hKq8 Kq8))
     refine wp_sr fun Kq12 hKq12 => ?_
     (refine wpl_l S rfl rfl rfl ?_; clear S a; intro a S)
     (refine wpl_storeO S rfl rfl rfl rfl rfl (by rfl) (by simp [Value.cells, Value.oneCell', splice]) (by rfl) ?_; clear S; intro w S)
     (refine wpl_p S rfl rfl rfl ?_; clear S a; intro a S)
     (refine wpList_nil (hKq12 _ _ ?_); try clear hKq12 Kq12)
     refine wp_ret (fin_ret S (results2 Tryz.results61 (RV.cellO S rfl (by rfl)) (RV.tmp S rfl)) ?_)
     (first | (rw [evE_mk0 (by omega) (o_none (by assumption))]; exact ans_no _ _) | (rw [evE_mk1 (by omega) hy (by omega)]; exact ans_no _ _) | (rw [hpq, hpn (by assumption)]; exact ans_no _ _) | (rw [hpq, hpy (by omega)]; first | (rw [whole_over (.inl (by assumption))]; exact ans_no _ _) | (rw [whole_over (.inr (by assumption))]; exact ans_no _ _) | (rw [whole_form (by omega) (by omega) (by omega)]; exact ans_no _ _) | (rw [whole_yes (by omega) (by omega) (by omega)]; exact ⟨_, rfl, _, rfl, hT6, hqs⟩)) | trace_state)
   (intro h; clear S a; intro a S; (try simp only [tq] at h))
   iterate 2 (refine wpl_skip S rfl rfl rfl rfl rfl ?_; clear S a; intro a S)
   iterate 2 (refine wpl_p S rfl rfl rfl ?_; clear S a; intro a S)
   (refine wpList_nil (hKq10 _ _ ?_); try clear hKq10 Kq10)
   refine wpc_true S rfl ?_
   refine wp_sr fun Kq11 hKq11 => ?_
   (refine wpl_b S rfl rfl rfl ?_; clear S a; intro a S)
   (refine wpl_storeO S rfl rfl rfl rfl rfl (by rfl) (by simp [Value.cells, Value.oneCell', splice]) (by rfl) ?_; clear S; intro w S)
   (refine wpl_p S rfl rfl rfl ?_; clear S a; intro a S)
   (refine wpList_nil (hKq11 _ _ ?_); try clear hKq11 Kq11)
   refine wp_ret (fin_ret S (results2 Tryz.results61 (RV.cellO S rfl (by rfl)) (RV.tmp S rfl)) ?_)
   (first | (rw [evE_mk0 (by omega) (o_none (by assumption))]; exact ans_no _ _) | (rw [evE_mk1 (by omega) hy (by omega)]; exact ans_no _ _) | (rw [hpq, hpn (by assumption)]; exact ans_no _ _) | (rw [hpq, hpy (by omega)]; first | (rw [whole_over (.inl (by assumption))]; exact ans_no _ _) | (rw [whole_over (.inr (by assumption))]; exact ans_no _ _) | (rw [whole_form (by omega) (by omega) (by omega)]; exact ans_no _ _) | (rw [whole_yes (by omega) (by omega) (by omega)]; exact ⟨_, rfl, _, rfl, hT6, hqs⟩)) | trace_state))
  refine wp_sr fun Kq12 hKq12 => ?_
  (refine wpl_f S rfl rfl rfl ?_; clear S a; intro a S)
  (refine wpl_l S rfl rfl rfl ?_; clear S a; intro a S)
  (refine wpl_p S rfl rfl rfl ?_; clear S a; intro a S)
  (refine wpList_nil (hKq12 _ _ ?_); try clear hKq12 Kq12)
  refine wpc_split S rfl (fun h => ?_) (fun h => ?_)
  · (skip; (try simp only [tq] at h))
    (refine wp_seq_k ?_; intro Kq13 hKq13)
    (refine wpc_mixM [0, 1, 2, 3, 4, 5, 7, 8, 9] [3, 5] [] (.one 0 (.one 1 (.one 2 (.one 3 (.one 4 (.one 5 (.two 6 10 (.one 7 (.one 8 (.one 9 (.one 10 (.one 11 (.one 12 .nil)))))) (.one 6 (.one 7 (.one 8 (.one 9 (.one 11 (.one 12 .nil))))))))))))) [b3] S mixed (by kernel_rfl) ?_; clear S; intro w S)
    (refine wpm_p S rfl rfl rfl (want_none _ rfl) rfl rfl ?_; clear S a; intro a S)
    (refine wpm_s S rfl rfl rfl (want_none _ rfl) rfl rfl ?_; clear S a; intro a S)
    (refine wpm_f S rfl rfl rfl (want_none _ rfl) rfl rfl ?_; clear S a; intro a S)
    (refine wpm_lateF S rfl rfl rfl (want_none _ rfl) rfl rfl (fun w' S => sv_loadF S rfl rfl hm0) ?_; clear S a; intro a S)
    (refine wpm_f S rfl rfl rfl (want_none _ rfl) rfl rfl ?_; clear S a; intro a S)
    (refine wpm_o b3 S rfl rfl rfl (want_none _ rfl) rfl rfl ?_; clear S a; intro a S)
    refine wpm_two rfl rfl (kwa S) ?_ ?_
    · skip
      (refine wpl_callF S rfl rfl rfl rfl rfl rfl (hK F eh.nm fun b o h => h) rfl ?_; clear S a; intro u8 F5 a w hv hF5 S; obtain ⟨tK, p1, p2, p3, iK, f1, f2, f3, rfl, hfs⟩ := hv)
      refine wpList_nil ?_
      iterate 3 (refine wpm_p S rfl rfl rfl (want_none _ rfl) rfl rfl ?_; clear S a; intro a S)
      refine wpm_eff rfl rfl (kwa S) ?_
      (refine wpl_alloc S rfl rfl rfl rfl ?_; clear S a; intro b7 a w S)
      refine wpList_nil ?_
      refine wpm_eff rfl rfl (kwa S) ?_
      (refine wpl_storeO S rfl rfl rfl rfl rfl (by rfl) (by simp [Value.cells, Value.oneCell', splice]) (by rfl) ?_; clear S; intro w S)
      refine wpList_nil ?_
      refine wpm_eff rfl rfl (kwa S) ?_
      (refine wpl_p S rfl rfl rfl ?_; clear S a; intro a S)
      refine wpList_nil ?_
      (refine wpm_nil (kwa S) (hKq13 _ _ (wp_seq_k fun Kq14 hKq14 => ?_)); try clear hKq13 Kq13)
      refine wp_block ?_
      refine wp_sr fun Kq15 hKq15 => ?_
      iterate 3 (refine wpl_p S rfl rfl rfl ?_; clear S a; intro a S)
      (refine wpList_nil (hKq15 _ _ ?_); try clear hKq15 Kq15)
      refine wpc_split S rfl (fun h => ?_) (fun h => ?_)
      · (skip; (try simp only [tq] at h))
        refine wp_sr fun Kq16 hKq16 => ?_
        (refine wpl_b S rfl rfl rfl ?_; clear S a; intro a S)
        (refine wpl_storeO S rfl rfl rfl rfl rfl (by rfl) (by simp [Value.cells, Value.oneCell', splice]) (by rfl) ?_; clear S; intro w S)
        (refine wpl_p S rfl rfl rfl ?_; clear S a; intro a S)
        (refine wpList_nil (hKq16 _ _ ?_); try clear hKq16 Kq16)
        refine wp_ret (fin_ret S (results2 Tryz.results61 (RV.cellO S rfl (by rfl)) (RV.tmp S rfl)) ?_)
        (first | (rw [evE_mk0 (by omega) (o_none (by assumption))]; exact ans_no _ _) | (rw [evE_mk1 (by omega) hy (by omega)]; exact ans_no _ _) | (rw [hpq, hpn (by assumption)]; exact ans_no _ _) | (rw [hpq, hpy (by omega)]; first | (rw [whole_over (.inl (by assumption))]; exact ans_no _ _) | (rw [whole_over (.inr (by assumption))]; exact ans_no _ _) | (rw [whole_form (by omega) (by omega) (by omega)]; exact ans_no _ _) | (rw [whole_yes (by omega) (by omega) (by omega)]; exact ⟨_, rfl, _, rfl, hT6, hqs⟩)) | trace_state)
      (skip; (try simp only [tq] at h))
      (refine wp_seq_k ?_; intro Kq16 hKq16)
      (obtain ⟨y, hy⟩ := o_some (by assumption : (findC cs eh.nm).isSome = true); replace hfs := hfs y hy; have hfc := hfs; obtain ⟨af, capf, e8, -⟩ := hfc; cases e8)
      refine wp_region_lit ?_
      (refine wpl_f S rfl rfl rfl ?_; clear S a; intro a S)
      (refine wpl_l S rfl rfl rfl ?_; clear S a; intro a S)
      (refine wpl_n S rfl rfl rfl ?_; clear S a; intro a S)
      (refine wpl_f S rfl rfl rfl ?_; clear S a; intro a S)
      (refine wpl_l S rfl rfl rfl ?_; clear S a; intro a S)
      (refine wpl_n S rfl rfl rfl ?_; clear S a; intro a S)
      iterate 2 (refine wpl_p S rfl rfl rfl ?_; clear S a; intro a S)
      (refine wpList_nil (hKq16 _ _ ?_); try clear hKq16 Kq16)
      refine wpc_split S rfl (fun h => ?_) (fun h => ?_)
      · (skip; (try simp only [tq] at h))
        refine wp_sr fun Kq17 hKq17 => ?_
        (refine wpl_b S rfl rfl rfl ?_; clear S a; intro a S)
        (refine wpl_storeO S rfl rfl rfl rfl rfl (by rfl) (by simp [Value.cells, Value.oneCell', splice]) (by rfl) ?_; clear S; intro w S)
        (refine wpl_p S rfl rfl rfl ?_; clear S a; intro a S)
        (refine wpList_nil (hKq17 _ _ ?_); try clear hKq17 Kq17)
        refine wp_ret (fin_ret S (results2 Tryz.results61 (RV.cellO S rfl (by rfl)) (RV.tmp S rfl)) ?_)
        (first | (rw [evE_mk0 (by omega) (o_none (by assumption))]; exact ans_no _ _) | (rw [evE_mk1 (by omega) hy (by omega)]; exact ans_no _ _) | (rw [hpq, hpn (by assumption)]; exact ans_no _ _) | (rw [hpq, hpy (by omega)]; first | (rw [whole_over (.inl (by assumption))]; exact ans_no _ _) | (rw [whole_over (.inr (by assumption))]; exact ans_no _ _) | (rw [whole_form (by omega) (by omega) (by omega)]; exact ans_no _ _) | (rw [whole_yes (by omega) (by omega) (by omega)]; exact ⟨_, rfl, _, rfl, hT6, hqs⟩)) | trace_state)
      (skip; (try simp only [tq] at h))
      refine wp_skip ?_
      (refine hKq14 _ _ ?_; try (clear hKq14 Kq14))
      refine wp_region_lit ?_
      (refine wpl_f S rfl rfl rfl ?_; clear S a; intro a S)
      (refine wpl_l S rfl rfl rfl ?_; clear S a; intro a S)
      (refine wpl_b S rfl rfl rfl ?_; clear S a; intro a S)
      (refine wpl_storeO S rfl rfl rfl rfl rfl (by rfl) (by simp [Value.cells, Value.oneCell', splice]) (by rfl) ?_; clear S; intro w S)
      refine wpList_nil ?_
      (refine hKq3 _ _ ?_)
      (first | (replace S := St.pullB b7 S; replace S := S.drop1; refine ⟨⟨6, 0, eh.nm⟩, F5, hF5, evE_mk (by omega) hy (by omega), hg.2.1.2, ?_⟩; refine S.keep ?_; repeat (first | exact trivial | refine ⟨rfl, ?_⟩)) | (refine ⟨⟨5, 0, []⟩, F, fun _ _ h => h, evE_tup (by omega), Nat.zero_le _, ?_⟩; refine S.keep ?_; repeat (first | exact trivial | refine ⟨rfl, ?_⟩)))
    skip
    (refine wpl_alloc S rfl rfl rfl rfl ?_; clear S a; intro b7 a w S)
    refine wpList_nil ?_
    refine wpm_eff rfl rfl (kwa S) ?_
    (refine wpl_callF S rfl rfl rfl rfl rfl rfl (hK F eh.nm fun b o h => h) rfl ?_; clear S a; intro u8 F5 a w hv hF5 S; obtain ⟨tK, p1, p2, p3, iK, f1, f2, f3, rfl, hfs⟩ := hv)
    refine wpList_nil ?_
    iterate 3 (refine wpm_p S rfl rfl rfl (want_none _ rfl) rfl rfl ?_; clear S a; intro a S)
    refine wpm_eff rfl rfl (kwa S) ?_
    (refine wpl_storeO S rfl rfl rfl rfl rfl (by rfl) (by simp [Value.cells, Value.oneCell', splice]) (by rfl) ?_; clear S; intro w S)
    refine wpList_nil ?_
    refine wpm_eff rfl rfl (kwa S) ?_
    (refine wpl_p S rfl rfl rfl ?_; clear S a; intro a S)
    refine wpList_nil ?_
    (refine wpm_nil (kwa S) (hKq13 _ _ (wp_seq_k fun Kq14 hKq14 => ?_)); try clear hKq13 Kq13)
    refine wp_block ?_
    refine wp_sr fun Kq15 hKq15 => ?_
    iterate 3 (refine wpl_p S rfl rfl rfl ?_; clear S a; intro a S)
    (refine wpList_nil (hKq15 _ _ ?_); try clear hKq15 Kq15)
    refine wpc_split S rfl (fun h => ?_) (fun h => ?_)
    · (skip; (try simp only [tq] at h))
      refine wp_sr fun Kq16 hKq16 => ?_
      (refine wpl_b S rfl rfl rfl ?_; clear S a; intro a S)
      (refine wpl_storeO S rfl rfl rfl rfl rfl (by rfl) (by simp [Value.cells, Value.oneCell', splice]) (by rfl) ?_; clear S; intro w S)
      (refine wpl_p S rfl rfl rfl ?_; clear S a; intro a S)
      (refine wpList_nil (hKq16 _ _ ?_); try clear hKq16 Kq16)
      refine wp_ret (fin_ret S (results2 Tryz.results61 (RV.cellO S rfl (by rfl)) (RV.tmp S rfl)) ?_)
      (first | (rw [evE_mk0 (by omega) (o_none (by assumption))]; exact ans_no _ _) | (rw [evE_mk1 (by omega) hy (by omega)]; exact ans_no _ _) | (rw [hpq, hpn (by assumption)]; exact ans_no _ _) | (rw [hpq, hpy (by omega)]; first | (rw [whole_over (.inl (by assumption))]; exact ans_no _ _) | (rw [whole_over (.inr (by assumption))]; exact ans_no _ _) | (rw [whole_form (by omega) (by omega) (by omega)]; exact ans_no _ _) | (rw [whole_yes (by omega) (by omega) (by omega)]; exact ⟨_, rfl, _, rfl, hT6, hqs⟩)) | trace_state)
    (skip; (try simp only [tq] at h))
    (refine wp_seq_k ?_; intro Kq16 hKq16)
    (obtain ⟨y, hy⟩ := o_some (by assumption : (findC cs eh.nm).isSome = true); replace hfs := hfs y hy; have hfc := hfs; obtain ⟨af, capf, e8, -⟩ := hfc; cases e8)
    refine wp_region_lit ?_
    (refine wpl_f S rfl rfl rfl ?_; clear S a; intro a S)
    (refine wpl_l S rfl rfl rfl ?_; clear S a; intro a S)
    (refine wpl_n S rfl rfl rfl ?_; clear S a; intro a S)
    (refine wpl_f S rfl rfl rfl ?_; clear S a; intro a S)
    (refine wpl_l S rfl rfl rfl ?_; clear S a; intro a S)
    (refine wpl_n S rfl rfl rfl ?_; clear S a; intro a S)
    iterate 2 (refine wpl_p S rfl rfl rfl ?_; clear S a; intro a S)
    (refine wpList_nil (hKq16 _ _ ?_); try clear hKq16 Kq16)
    refine wpc_split S rfl (fun h => ?_) (fun h => ?_)
    · (skip; (try simp only [tq] at h))
      refine wp_sr fun Kq17 hKq17 => ?_
      (refine wpl_b S rfl rfl rfl ?_; clear S a; intro a S)
      (refine wpl_storeO S rfl rfl rfl rfl rfl (by rfl) (by simp [Value.cells, Value.oneCell', splice]) (by rfl) ?_; clear S; intro w S)
      (refine wpl_p S rfl rfl rfl ?_; clear S a; intro a S)
      (refine wpList_nil (hKq17 _ _ ?_); try clear hKq17 Kq17)
      refine wp_ret (fin_ret S (results2 Tryz.results61 (RV.cellO S rfl (by rfl)) (RV.tmp S rfl)) ?_)
      (first | (rw [evE_mk0 (by omega) (o_none (by assumption))]; exact ans_no _ _) | (rw [evE_mk1 (by omega) hy (by omega)]; exact ans_no _ _) | (rw [hpq, hpn (by assumption)]; exact ans_no _ _) | (rw [hpq, hpy (by omega)]; first | (rw [whole_over (.inl (by assumption))]; exact ans_no _ _) | (rw [whole_over (.inr (by assumption))]; exact ans_no _ _) | (rw [whole_form (by omega) (by omega) (by omega)]; exact ans_no _ _) | (rw [whole_yes (by omega) (by omega) (by omega)]; exact ⟨_, rfl, _, rfl, hT6, hqs⟩)) | trace_state)
    (skip; (try simp only [tq] at h))
    refine wp_skip ?_
    (refine hKq14 _ _ ?_; try (clear hKq14 Kq14))
    refine wp_region_lit ?_
    (refine wpl_f S rfl rfl rfl ?_; clear S a; intro a S)
    (refine wpl_l S rfl rfl rfl ?_; clear S a; intro a S)
    (refine wpl_b S rfl rfl rfl ?_; clear S a; intro a S)
    (refine wpl_storeO S rfl rfl rfl rfl rfl (by rfl) (by simp [Value.cells, Value.oneCell', splice]) (by rfl) ?_; clear S; intro w S)
    refine wpList_nil ?_
    (refine hKq3 _ _ ?_)
    (first | (replace S := St.pullB b7 S; replace S := S.drop1; refine ⟨⟨6, 0, eh.nm⟩, F5, hF5, evE_mk (by omega) hy (by omega), hg.2.1.2, ?_⟩; refine S.keep ?_; repeat (first | exact trivial | refine ⟨rfl, ?_⟩)) | (refine ⟨⟨5, 0, []⟩, F, fun _ _ h => h, evE_tup (by omega), Nat.zero_le _, ?_⟩; refine S.keep ?_; repeat (first | exact trivial | refine ⟨rfl, ?_⟩)))
  (skip; (try simp only [tq] at h))
  refine wp_skip ?_
  (refine hKq3 _ _ ?_)
  (first | (replace S := St.pullB b7 S; replace S := S.drop1; refine ⟨⟨6, 0, eh.nm⟩, F5, hF5, evE_mk (by omega) hy (by omega), hg.2.1.2, ?_⟩; refine S.keep ?_; repeat (first | exact trivial | refine ⟨rfl, ?_⟩)) | (refine ⟨⟨5, 0, []⟩, F, fun _ _ h => h, evE_tup (by omega), Nat.zero_le _, ?_⟩; refine S.keep ?_; repeat (first | exact trivial | refine ⟨rfl, ?_⟩)))
/-! ### call -/
def callO (nm : List UInt8) (l : List Ans) : Ans :=
  if nm = sAnd ∨ nm = sOr then
    (if (truthO (nthA l 0)).2 = 0 ∧ (truthO (nthA l 0)).1 = decide (nm = sAnd) then (if (truthO (nthA l 1)).2 ≠ 0 then noA (truthO (nthA l 1)).2 else yesA (boolV (truthO (nthA l 1)).1))
     else if (truthO (nthA l 0)).2 ≠ 0 then noA (truthO (nthA l 0)).2 else yesA (boolV (truthO (nthA l 0)).1))
  else if (listO l).1 ≠ 0 then noA (listO l).1
  else match (listO l).2 with
    | [a] => op1 nm a
    | a :: b :: _ => (match op2 nm with | some f => f a b | none => noA 0)
    | [] => noA 0
theorem evE_call {cs : List KC} {vs : List Bd} {h : EH} {L : Ef} (hk : h.k = 6) : evE cs vs h L = callO h.nm (evL cs vs L) := by
  unfold evE evK callO
  rw [if_neg (by omega), if_neg (by omega), if_neg (by omega), if_neg (by omega), if_neg (by omega), if_neg (by omega)]
  rfl
end Go.Proofs.YtigblodhdfnleaaGreatDoor
namespace Go.Proofs.YtigblodhdfnleaaGreatDoor
open Go Go.Wk Go.Un Go.De Go.Num
set_option linter.unusedSimpArgs false
set_option linter.unusedVariables false
attribute [local irreducible] Go.wpList Go.Code.wp Go.wpStill Go.Wk.wpPre Go.bodyPost Go.Calls Go.Wk.Ct Go.Wk.OwnS
attribute [local irreducible] Go.Wk.wpG Go.Wk.wpM

theorem listO_full : ∀ {l : List Ans}, ¬ (listO l).1 ≠ 0 → (listO l).2.length = l.length
  | [], _ => rfl
  | x :: r, h => by
    unfold listO at h ⊢
    split
    · rename_i h1
      rw [if_pos h1] at h
      exact absurd h1 h
    · rename_i h1
      rw [if_neg h1] at h
      split
      · rename_i h2
        rw [if_pos h2] at h
        exact absurd h2 h
      · rename_i h2
        simp only [List.length_cons, listO_full h2]
theorem kOr_yes {p q : Prop} [Decidable p] [Decidable q] (h : p) : true = decide (p ∨ q) := (decide_eq_true (.inl h)).symm
theorem kOr_no {p : Prop} [Decidable p] {a b : List UInt8} (h : ¬ p) : (a == b) = decide (p ∨ a = b) := by
  rw [beqL]
  by_cases h2 : a = b <;> simp [h, h2]
theorem kAt_yes {e : Int} {p : Bool} {a b : List UInt8} (h : e = 0) : (p == (a == b)) = decide (e = 0 ∧ p = decide (a = b)) := by
  rw [beqL]
  by_cases h2 : a = b <;> cases p <;> simp [h, h2]
theorem kAt_no {e : Int} {q : Prop} [Decidable q] (h : ¬ e = 0) : false = decide (e = 0 ∧ q) := (decide_eq_false fun e => h e.1).symm
theorem call_and {nm : List UInt8} {A : List Ans} (h : nm = sAnd ∨ nm = sOr) : callO nm A = if (truthO (nthA A 0)).2 = 0 ∧ (truthO (nthA A 0)).1 = decide (nm = sAnd) then (if (truthO (nthA A 1)).2 ≠ 0 then noA (truthO (nthA A 1)).2 else yesA (boolV (truthO (nthA A 1)).1)) else if (truthO (nthA A 0)).2 ≠ 0 then noA (truthO (nthA A 0)).2 else yesA (boolV (truthO (nthA A 0)).1) := by
  unfold callO
  rw [if_pos h]
theorem call_no {nm : List UInt8} {A : List Ans} (h : ¬ (nm = sAnd ∨ nm = sOr)) (h1 : (listO A).1 ≠ 0) : callO nm A = noA (listO A).1 := by
  unfold callO
  rw [if_neg h, if_pos h1]
theorem call_one {nm : List UInt8} {A : List Ans} {x : Vv} (h : ¬ (nm = sAnd ∨ nm = sOr)) (h1 : ¬ (listO A).1 ≠ 0) (hx : (listO A).2 = [x]) : callO nm A = op1 nm x := by
  unfold callO
  rw [if_neg h, if_neg h1, hx]
theorem call_two {nm : List UInt8} {A : List Ans} {x y : Vv} {f : Vv → Vv → Ans} (h : ¬ (nm = sAnd ∨ nm = sOr)) (h1 : ¬ (listO A).1 ≠ 0) (hx : (listO A).2 = [x, y]) (hf : op2 nm = some f) : callO nm A = f x y := by
  unfold callO
  rw [if_neg h, if_neg h1, hx]
  dsimp only
  rw [hf]
theorem len_two {l : List Vv} (h : l.length = 2) : ∃ x y, l = [x, y] := by
  match l, h with
  | [x, y], _ => exact ⟨x, y, rfl⟩
/-- What the form of a call says. -/
theorem form_call {h : EH} {n : Nat} (hk : h.k = 6) (hf : formK h n = true) : ((h.nm = sAnd ∨ h.nm = sOr) ∧ n = 2) ∨ (¬ (h.nm = sAnd ∨ h.nm = sOr) ∧ ((n = 1) ∨ (n = 2 ∧ ∃ f, op2 h.nm = some f))) := by
  unfold formK at hf
  rw [if_neg (by omega), if_neg (by omega), if_neg (by omega), if_neg (by omega), if_pos hk] at hf
  simp only [Bool.or_eq_true, Bool.and_eq_true, decide_eq_true_eq] at hf
  by_cases ha : h.nm = sAnd ∨ h.nm = sOr
  · left
    refine ⟨ha, ?_⟩
    rcases hf with h1 | h1
    · exact h1.2
    · exfalso
      rcases ha with e | e <;> (rw [e] at h1; exact absurd h1.2 (by decide))
  · right
    refine ⟨ha, ?_⟩
    rcases hf with h1 | h1
    · right
      refine ⟨h1.2, ?_⟩
      rcases h1.1 with (h2 | h2) | h2
      · exact o_some h2
      · exact absurd (.inl h2) ha
      · exact absurd (.inr h2) ha
    · exact .inl h1.1
set_option maxRecDepth 20000 in
set_option maxHeartbeats 32000000 in
theorem callCt {n : Nat} (hE : EvC n) (F : Heap) (bm : Nat) (cs : List KC) (vs : List Bd) (eh : EH) (L : Ef) (xs : List Value) (hn : L.size ≤ n) (hM : Mac F bm cs vs) (hX : ExC F xs eh L) (hg : GE eh L) (hf : formEL L = true) (hk : eh.k = 6) (hfk : formK eh L.len = true) :
    Ct Tryz.prog 64 [ptr bm, .agg ⟨xs⟩] F [] (fun F' _ u => AnsR F' u (evE cs vs eh L)) := by
  have hfc := form_call hk hfk
  obtain ⟨a1, n1, c1, ao, cap, rfl, -, hL⟩ := exc_slc hX
  have hMc := hM
  obtain ⟨⟨tv, aov, capv, bt, es, hm0, hm1, hm2, hvs, hes, hops, hK⟩, hT, hEr, hGB⟩ := hM
  have hgl := listO_GV (evL_GV (cs := cs) hGB hg.2.2)
  have hlf := listO_full (l := evL cs vs L)
  rw [evL_len] at hlf
  have hLc := hL
  obtain ⟨_, _, e9, hcap, hpos⟩ := hLc
  cases e9
  have hg1 := hg.2.1.1
  rw [evE_call hk]
  refine Ct.enter Tryz.func64 rfl Tryz.ntmps64 rfl fun w0 a S => ?_
  refine wp_sr fun Kq1 hKq1 => ?_
  (refine wpl_box S rfl rfl rfl rfl rfl ?_; clear S a; intro b3 a w S)
  (refine wpl_alloc S rfl rfl rfl rfl ?_; clear S a; intro b4 a w S)
  (refine wpl_p S rfl rfl rfl ?_; clear S a; intro a S)
  (refine wpList_nil (hKq1 _ _ (wp_seq_k fun Kq2 hKq2 => ?_)); try clear hKq1 Kq1)
  (refine wp_seq_k ?_; intro Kq3 hKq3)
  replace hKq3 : ∀ (a' : Act) (w' : World), (∃ t : Bool, t = decide (eh.nm = sAnd ∨ eh.nm = sOr) ∧ St 91 [(0, ptr bm), (3, ptr b3), (4, ptr b4), (5, .int .i64 0), (17, .bool t)] w0 F [] F [[(b4, .cells ⟨[.int .u8 0, .int .i64 0, .string (bs []), .slice none 0 0]⟩ 26 (0, 0))], [(b3, .cells ⟨[.int .u8 (eh.k : Int), .int .i64 eh.l, .int .i64 eh.c, .string (bs eh.nm), .int .u8 (eh.v.k : Int), .int .i64 eh.v.n, .string (bs eh.v.s), .slice a1 n1 c1, .slice ao L.len cap]⟩ 34 (0, 0))]] a' w') → Kq3 a' w' := (by
   (intro a w hM; refine hKq3 _ _ ?_; clear hKq3 Kq3; clear S; obtain ⟨t, rfl, S⟩ := hM)
   refine wpc_split S rfl (fun h => ?_) (fun h => ?_)
   · (skip; (try simp only [tq] at h))
     (refine wp_seq_k ?_; intro Kq4 hKq4)
     (have hl2 : L.len = 2 := (by rcases hfc with h9 | h9; exact h9.2; exact absurd (by assumption) h9.1); obtain ⟨b80, o80, rfl, x, cs1, v1, hx, hc1, hR1, hT1⟩ := TrM.pos hpos (k := 0) (by omega); have hxs := Rose.size_get hx; have hX1 := exc_of hR1 hT1; obtain ⟨b81, o81, e81, y, cs2, v2, hy, hc2, hR2, hT2⟩ := TrM.pos hpos (k := 1) (by omega); cases e81; have hys := Rose.size_get hy; have hX2 := exc_of hR2 hT2; have hcx := mtruthCt hE F bm cs vs x.1 x.2 _ (by omega) hMc hX1 (GEl.get hg.2.2 hx) (formEL_get hf hx); have hcy := fun F' hF => mtruthCt hE F' bm cs vs y.1 y.2 _ (by omega) (hMc.mono hF) (hX2.mono hF) (GEl.get hg.2.2 hy) (formEL_get hf hy); obtain ⟨a5, n5, c5, ao5, cap5, he5, -, -⟩ := exc_slc hX1; obtain ⟨a6, n6, c6, ao6, cap6, he6, -, -⟩ := exc_slc hX2; rw [he5] at hc1 hcx; rw [he6] at hc2 hcy; have hca := call_and (A := evL cs vs L) (by assumption : eh.nm = sAnd ∨ eh.nm = sOr); rw [evL_at hx, evL_at hy] at hca; generalize truthO (evE cs vs x.1 x.2) = T0 at hcx hca; generalize truthO (evE cs vs y.1 y.2) = T1 at hcy hca; obtain ⟨p0, e0⟩ := T0; obtain ⟨p1, e1⟩ := T1; dsimp only at hcx hcy hca)
     refine wp_region_lit ?_
     (refine wpl_p S rfl rfl rfl ?_; clear S a; intro a S)
     (refine wpl_f S rfl rfl rfl ?_; clear S a; intro a S)
     (refine wpl_l S rfl rfl rfl ?_; clear S a; intro a S)
     (refine wpl_i S rfl rfl rfl ?_; clear S a; intro a S)
     (refine wpl_l S rfl rfl rfl ?_; clear S a; intro a S)
     (refine wpl_callF S rfl rfl rfl rfl rfl rfl hcx rfl ?_; clear S a; intro u9 F4 a w hv hF4 S; subst hv)
     iterate 5 (refine wpl_p S rfl rfl rfl ?_; clear S a; intro a S)
     (refine wpList_nil (hKq4 _ _ (wp_seq_k fun Kq5 hKq5 => ?_)); try clear hKq4 Kq4)
     replace hKq5 : ∀ (a' : Act) (w' : World), (∃ (r : Bool) (e3 : Int) (F6 : Heap), callO eh.nm (evL cs vs L) = (if e3 ≠ 0 then noA e3 else yesA (boolV r)) ∧ St 91 [(4, ptr b4), (5, .int .i64 0), (6, .bool r), (7, .int .i64 e3)] w0 F [] F6 [[(b4, .cells ⟨[.int .u8 0, .int .i64 0, .string (bs []), .slice none 0 0]⟩ 26 (0, 0))]] a' w') → Kq5 a' w' := (by
      (intro a w hM; refine hKq5 _ _ ?_; clear hKq5 Kq5; clear S; obtain ⟨r, e3, F6, hcr, S⟩ := hM)
      (refine wp_seq_k ?_; intro Kq6 hKq6)
      refine wp_sr fun Kq7 hKq7 => ?_
      iterate 2 (refine wpl_p S rfl rfl rfl ?_; clear S a; intro a S)
      (refine wpList_nil (hKq7 _ _ ?_); try clear hKq7 Kq7)
      refine wpc_split S rfl (fun h => ?_) (fun h => ?_)
      · (skip; (try simp only [tq] at h))
        refine wp_sr fun Kq8 hKq8 => ?_
        (refine wpl_b S rfl rfl rfl ?_; clear S a; intro a S)
        (refine wpl_p S rfl rfl rfl ?_; clear S a; intro a S)
        (refine wpl_storeO S rfl rfl rfl rfl rfl (by rfl) (by simp [Value.cells, Value.oneCell', splice]) (by rfl) ?_; clear S; intro w S)
        (refine wpl_p S rfl rfl rfl ?_; clear S a; intro a S)
        (refine wpList_nil (hKq8 _ _ ?_); try clear hKq8 Kq8)
        refine wp_ret (fin_ret S (results2 Tryz.results64 (RV.cellO S rfl (by rfl)) (RV.tmp S rfl)) ?_)
        (first | ((conv => arg 3; rw [hcr, if_pos (by assumption)]); exact ans_no _ _) | ((conv => arg 3; rw [hcr, if_neg (by omega)]); exact ⟨_, rfl, vac_z _ (k := 1) (s := []) (by decide)⟩) | (rw [hpn (by assumption)]; exact ans_no _ _) | (rw [hp1 x (by omega) hbx]; exact ⟨_, rfl, _, rfl, hT8, hs8⟩) | (rw [hp2 x y f (by omega) hbx hf2]; exact ⟨_, rfl, _, rfl, hT8, hs8⟩) | trace_state)
      (skip; (try simp only [tq] at h))
      refine wp_skip ?_
      (refine hKq6 _ _ ?_; try (clear hKq6 Kq6))
      refine wp_sr fun Kq8 hKq8 => ?_
      (refine wpl_p S rfl rfl rfl ?_; clear S a; intro a S)
      (refine wpl_call0 S rfl rfl rfl rfl rfl rfl (eTruthCt F6 _) rfl ?_; clear S a; intro v a w hv S; subst hv)
      (refine wpl_storeO S rfl rfl rfl rfl rfl (by rfl) (by simp [Value.cells, Value.oneCell', splice]) (by rfl) ?_; clear S; intro w S)
      (refine wpl_p S rfl rfl rfl ?_; clear S a; intro a S)
      (refine wpList_nil (hKq8 _ _ ?_); try clear hKq8 Kq8)
      refine wp_ret (fin_ret S (results2 Tryz.results64 (RV.cellO S rfl (by rfl)) (RV.tmp S rfl)) ?_)
      (first | ((conv => arg 3; rw [hcr, if_pos (by assumption)]); exact ans_no _ _) | ((conv => arg 3; rw [hcr, if_neg (by omega)]); exact ⟨_, rfl, vac_z _ (k := 1) (s := []) (by decide)⟩) | (rw [hpn (by assumption)]; exact ans_no _ _) | (rw [hp1 x (by omega) hbx]; exact ⟨_, rfl, _, rfl, hT8, hs8⟩) | (rw [hp2 x y f (by omega) hbx hf2]; exact ⟨_, rfl, _, rfl, hT8, hs8⟩) | trace_state))
     (refine wp_seq_k ?_; intro Kq9 hKq9)
     replace hKq9 : ∀ (a' : Act) (w' : World), (∃ t : Bool, t = decide (e0 = 0 ∧ p0 = decide (eh.nm = sAnd)) ∧ St 91 [(0, ptr bm), (3, ptr b3), (4, ptr b4), (5, .int .i64 0), (6, .bool p0), (7, .int .i64 e0), (35, .bool t)] w0 F [] F4 [[(b4, .cells ⟨[.int .u8 0, .int .i64 0, .string (bs []), .slice none 0 0]⟩ 26 (0, 0))], [(b3, .cells ⟨[.int .u8 (eh.k : Int), .int .i64 eh.l, .int .i64 eh.c, .string (bs eh.nm), .int .u8 (eh.v.k : Int), .int .i64 eh.v.n, .string (bs eh.v.s), .slice a1 n1 c1, .slice (some ⟨b80, o80, none⟩) L.len cap]⟩ 34 (0, 0))]] a' w') → Kq9 a' w' := (by
      (intro a w hM; refine hKq9 _ _ ?_; clear hKq9 Kq9; clear S; obtain ⟨t, rfl, S⟩ := hM)
      refine wpc_split S rfl (fun h => ?_) (fun h => ?_)
      · (skip; (try simp only [tq] at h))
        refine wp_region_lit ?_
        (refine wpl_p S rfl rfl rfl ?_; clear S a; intro a S)
        (refine wpl_f S rfl rfl rfl ?_; clear S a; intro a S)
        (refine wpl_l S rfl rfl rfl ?_; clear S a; intro a S)
        (refine wpl_i S rfl rfl rfl ?_; clear S a; intro a S)
        (refine wpl_v S rfl rfl rfl (sv_loadAF S rfl rfl (Cels.mono hF4 hc2) rfl) ?_; clear S a; intro a S)
        (refine wpl_callF S rfl rfl rfl rfl rfl rfl (hcy F4 hF4) rfl ?_; clear S a; intro u8 F5 a w hv hF5 S; subst hv)
        iterate 5 (refine wpl_p S rfl rfl rfl ?_; clear S a; intro a S)
        refine wpList_nil ?_
        (refine hKq5 _ _ ?_)
        (replace S := St.pullB b3 S; replace S := S.drop1; first | (refine ⟨p1, e1, F5, by rw [hca, if_pos (by assumption)], ?_⟩; refine S.keep ?_; repeat (first | exact trivial | refine ⟨rfl, ?_⟩)) | (refine ⟨p0, e0, F4, by rw [hca, if_neg (by assumption)], ?_⟩; refine S.keep ?_; repeat (first | exact trivial | refine ⟨rfl, ?_⟩)))
      (skip; (try simp only [tq] at h))
      refine wp_skip ?_
      (refine hKq5 _ _ ?_)
      (replace S := St.pullB b3 S; replace S := S.drop1; first | (refine ⟨p1, e1, F5, by rw [hca, if_pos (by assumption)], ?_⟩; refine S.keep ?_; repeat (first | exact trivial | refine ⟨rfl, ?_⟩)) | (refine ⟨p0, e0, F4, by rw [hca, if_neg (by assumption)], ?_⟩; refine S.keep ?_; repeat (first | exact trivial | refine ⟨rfl, ?_⟩))))
     refine wp_region_lit ?_
     iterate 3 (refine wpl_p S rfl rfl rfl ?_; clear S a; intro a S)
     refine wpl_guard S rfl rfl rfl rfl rfl ?_ ?_
     · (intro h S'; clear S; have S := S'; clear S'; (try simp only [tq] at h))
       (refine wpl_p S rfl rfl rfl ?_; clear S a; intro a S)
       refine wpl_take S rfl rfl rfl ?_
       (refine wpl_f S rfl rfl rfl ?_; clear S a; intro a S)
       refine wpl_take S rfl rfl rfl ?_
       (refine wpl_l S rfl rfl rfl ?_; clear S a; intro a S)
       refine wpl_take S rfl rfl rfl ?_
       (refine wpl_p S rfl rfl rfl ?_; clear S a; intro a S)
       refine wpl_take S rfl rfl rfl ?_
       (refine wpl_s S rfl rfl rfl ?_; clear S a; intro a S)
       (refine wpl_p S rfl rfl rfl ?_; clear S a; intro a S)
       refine wpList_nil ?_
       (refine hKq9 _ _ ?_)
       (apply Exists.intro; apply And.intro; rotate_left 1; (refine S.keep ?_; repeat (first | exact trivial | refine ⟨rfl, ?_⟩)); first | exact kAt_yes (by assumption) | exact kAt_no (by assumption))
     (intro h; clear S a; intro a S; (try simp only [tq] at h))
     iterate 4 (refine wpl_skip S rfl rfl rfl rfl rfl ?_; clear S a; intro a S)
     (refine wpl_p S rfl rfl rfl ?_; clear S a; intro a S)
     refine wpList_nil ?_
     (refine hKq9 _ _ ?_)
     (apply Exists.intro; apply And.intro; rotate_left 1; (refine S.keep ?_; repeat (first | exact trivial | refine ⟨rfl, ?_⟩)); first | exact kAt_yes (by assumption) | exact kAt_no (by assumption))
   (skip; (try simp only [tq] at h))
   refine wp_skip ?_
   (refine hKq2 _ _ ?_; try (clear hKq2 Kq2))
   refine wp_sr fun Kq4 hKq4 => ?_
   (refine wpl_p S rfl rfl rfl ?_; clear S a; intro a S)
   (refine wpl_f S rfl rfl rfl ?_; clear S a; intro a S)
   (refine wpl_l S rfl rfl rfl ?_; clear S a; intro a S)
   (have hn2 : ¬ (eh.nm = sAnd ∨ eh.nm = sOr) := (by assumption); refine wpl_callF S rfl rfl rfl rfl rfl rfl (listCt hE F bm cs vs L _ hn hMc hL hg.2.2 hg.2.1.1 hf) rfl ?_; clear S a; intro u7 F6 a w hv hF6 S; obtain ⟨v6, rfl, hT6⟩ := hv; have hT6c := hT6; obtain ⟨a6, c6, rfl, hcap6, hpos6⟩ := hT6c; have hpn := call_no (A := evL cs vs L) hn2; have hp1 := fun x => call_one (A := evL cs vs L) (x := x) hn2; have hp2 := fun x y f => call_two (A := evL cs vs L) (x := x) (y := y) (f := f) hn2; generalize listO (evL cs vs L) = B at S hT6 hgl hlf hpn hp1 hp2 hcap6 hpos6; rw [roseOf_len] at S)
   iterate 5 (refine wpl_p S rfl rfl rfl ?_; clear S a; intro a S)
   (refine wpList_nil (hKq4 _ _ (wp_seq_k fun Kq5 hKq5 => ?_)); try clear hKq4 Kq4)
   refine wp_block ?_
   refine wp_sr fun Kq6 hKq6 => ?_
   iterate 3 (refine wpl_p S rfl rfl rfl ?_; clear S a; intro a S)
   (refine wpList_nil (hKq6 _ _ ?_); try clear hKq6 Kq6)
   refine wpc_split S rfl (fun h => ?_) (fun h => ?_)
   · (skip; (try simp only [tq] at h))
     refine wp_sr fun Kq7 hKq7 => ?_
     (refine wpl_b S rfl rfl rfl ?_; clear S a; intro a S)
     (refine wpl_p S rfl rfl rfl ?_; clear S a; intro a S)
     (refine wpl_storeO S rfl rfl rfl rfl rfl (by rfl) (by simp [Value.cells, Value.oneCell', splice]) (by rfl) ?_; clear S; intro w S)
     (refine wpl_p S rfl rfl rfl ?_; clear S a; intro a S)
     (refine wpList_nil (hKq7 _ _ ?_); try clear hKq7 Kq7)
     refine wp_ret (fin_ret S (results2 Tryz.results64 (RV.cellO S rfl (by rfl)) (RV.tmp S rfl)) ?_)
     (first | ((conv => arg 3; rw [hcr, if_pos (by assumption)]); exact ans_no _ _) | ((conv => arg 3; rw [hcr, if_neg (by omega)]); exact ⟨_, rfl, vac_z _ (k := 1) (s := []) (by decide)⟩) | (rw [hpn (by assumption)]; exact ans_no _ _) | (rw [hp1 x (by omega) hbx]; exact ⟨_, rfl, _, rfl, hT8, hs8⟩) | (rw [hp2 x y f (by omega) hbx hf2]; exact ⟨_, rfl, _, rfl, hT8, hs8⟩) | trace_state)
   (skip; (try simp only [tq] at h))
   refine wp_sr fun Kq7 hKq7 => ?_
   (refine wpl_p S rfl rfl rfl ?_; clear S a; intro a S)
   (refine wpl_n S rfl rfl rfl ?_; clear S a; intro a S)
   iterate 2 (refine wpl_p S rfl rfl rfl ?_; clear S a; intro a S)
   (refine wpList_nil (hKq7 _ _ ?_); try clear hKq7 Kq7)
   refine wpc_split S rfl (fun h => ?_) (fun h => ?_)
   · (skip; (try simp only [tq] at h))
     (refine wp_seq_k ?_; intro Kq8 hKq8)
     (have hln := hlf (by omega); have hb1 : ∃ x, B.2 = [x] := List.length_eq_one_iff.1 (by omega); obtain ⟨x, hbx⟩ := hb1; rw [hbx] at hpos6; obtain ⟨b70, o70, rfl, z, cs7, v7, hz, hc7, hR7, hT7⟩ := TrM.pos hpos6 (k := 0) (by show 0 < 1; decide); cases hz; have hT7c := hT7; obtain ⟨a71, c71, rfl, -⟩ := hT7c; have hw7c := hR7.1; subst hw7c; (simp only [List.cons_append, List.nil_append] at hc7); have gx := hgl x (by rw [hbx]; exact List.mem_cons_self ..))
     (refine wpc_mixM [0, 1, 2, 3, 4, 6, 7] [1, 4] [] (.one 0 (.one 1 (.one 2 (.one 3 (.one 4 (.one 5 (.one 6 (.one 7 (.one 8 (.one 9 .nil)))))))))) [b3] S mixed (by kernel_rfl) ?_; clear S; intro w S)
     (refine wpm_f S rfl rfl rfl (want_none _ rfl) rfl rfl ?_; clear S a; intro a S)
     (refine wpm_o b3 S rfl rfl rfl (want_none _ rfl) rfl rfl ?_; clear S a; intro a S)
     (refine wpm_p S rfl rfl rfl (want_none _ rfl) rfl rfl ?_; clear S a; intro a S)
     (refine wpm_i S rfl rfl rfl (want_none _ rfl) rfl rfl ?_; clear S a; intro a S)
     first | (refine wpm_lateF S rfl rfl rfl (want_none _ rfl) rfl rfl (fun w' S => sv_loadF S rfl rfl (by assumption)) ?_; clear S a; intro a S) | (refine wpm_lateF S rfl rfl rfl (want_none _ rfl) rfl rfl (fun w' S => sv_loadAF S rfl rfl (by assumption) (by rfl)) ?_; clear S a; intro a S)
     refine wpm_eff rfl rfl (kwa S) ?_
     (refine wpl_callF S rfl rfl rfl rfl rfl rfl (oneCt F6 (hT.mono hF6) (hEr.mono hF6) eh.nm x _ gx ⟨_, rfl, hT7, hR7.2⟩) rfl ?_; clear S a; intro u5 F8 a w hv hF8 S; obtain ⟨cs8, rfl, hV8⟩ := hv; obtain ⟨a8, c8, rfl, hT8, hs8⟩ := vac_slc hV8)
     refine wpList_nil ?_
     iterate 2 (refine wpm_p S rfl rfl rfl (want_none _ rfl) rfl rfl ?_; clear S a; intro a S)
     refine wpm_eff rfl rfl (kwa S) ?_
     (refine wpl_storeO S rfl rfl rfl rfl rfl (by rfl) (by simp [Value.cells, Value.oneCell', splice]) (by rfl) ?_; clear S; intro w S)
     refine wpList_nil ?_
     refine wpm_eff rfl rfl (kwa S) ?_
     (refine wpl_p S rfl rfl rfl ?_; clear S a; intro a S)
     refine wpList_nil ?_
     (refine wpm_nil (kwa S) (hKq8 _ _ ?_); try clear hKq8 Kq8)
     refine wp_ret (fin_ret S (results2 Tryz.results64 (RV.cellO S rfl (by rfl)) (RV.tmp S rfl)) ?_)
     (first | ((conv => arg 3; rw [hcr, if_pos (by assumption)]); exact ans_no _ _) | ((conv => arg 3; rw [hcr, if_neg (by omega)]); exact ⟨_, rfl, vac_z _ (k := 1) (s := []) (by decide)⟩) | (rw [hpn (by assumption)]; exact ans_no _ _) | (rw [hp1 x (by omega) hbx]; exact ⟨_, rfl, _, rfl, hT8, hs8⟩) | (rw [hp2 x y f (by omega) hbx hf2]; exact ⟨_, rfl, _, rfl, hT8, hs8⟩) | trace_state)
   (skip; (try simp only [tq] at h))
   refine wp_skip ?_
   (refine hKq5 _ _ ?_; try (clear hKq5 Kq5))
   (refine wp_seq_k ?_; intro Kq8 hKq8)
   (have hln := hlf (by omega); have hl2 : L.len = 2 ∧ ∃ f, op2 eh.nm = some f := (by rcases hfc with h9 | ⟨-, h9⟩; exact absurd h9.1 hn2; rcases h9 with h9 | h9; omega; exact h9); obtain ⟨hl2, f, hf2⟩ := hl2; have hb1 : ∃ x y, B.2 = [x, y] := len_two (by omega); obtain ⟨x, y, hbx⟩ := hb1; rw [hbx] at hpos6; obtain ⟨b70, o70, rfl, z, cs7, v7, hz, hc7, hR7, hT7⟩ := TrM.pos hpos6 (k := 0) (by show 0 < 2; decide); cases hz; obtain ⟨b71, o71, e71, z, cs8, v8, hz, hc8, hR8, hT8⟩ := TrM.pos hpos6 (k := 1) (by show 1 < 2; decide); cases e71; cases hz; have hT7c := hT7; obtain ⟨a71, c71, rfl, -⟩ := hT7c; have hw7c := hR7.1; subst hw7c; (simp only [List.cons_append, List.nil_append] at hc7); have hT8c := hT8; obtain ⟨a72, c72, rfl, -⟩ := hT8c; have hw8c := hR8.1; subst hw8c; (simp only [List.cons_append, List.nil_append] at hc8); have gx := hgl x (by rw [hbx]; exact List.mem_cons_self ..); have gy := hgl y (by rw [hbx]; exact List.mem_cons_of_mem _ (List.mem_cons_self ..)); obtain ⟨u, hmg, fid, caf, rfl, hfn, hfc2⟩ : ∃ u, mGet es eh.nm = some u ∧ Op2 F u f := (by rcases hops.get eh.nm with ⟨f', u, h1, h2, h3⟩ | ⟨h1, h2⟩; (have e1 : op2 eh.nm = some f' := h1; rw [hf2] at e1; cases e1; exact ⟨u, h2, h3⟩); (have e1 : op2 eh.nm = none := h1; rw [hf2] at e1; cases e1)); haveI := hfn)
   (refine wpc_mixM [0, 1, 2, 3, 4, 5, 6, 7, 8, 9, 10, 11, 12, 14, 15] [3, 5, 6, 9, 12] [] (.one 0 (.one 1 (.one 2 (.one 3 (.one 4 (.one 5 (.one 6 (.one 7 (.one 8 (.one 9 (.one 10 (.one 11 (.one 12 (.one 13 (.one 14 (.one 15 (.one 16 (.one 17 .nil)))))))))))))))))) [b3] S mixed (by kernel_rfl) ?_; clear S; intro w S)
   (refine wpm_p S rfl rfl rfl (want_none _ rfl) rfl rfl ?_; clear S a; intro a S)
   (refine wpm_s S rfl rfl rfl (want_none _ rfl) rfl rfl ?_; clear S a; intro a S)
   (refine wpm_f S rfl rfl rfl (want_none _ rfl) rfl rfl ?_; clear S a; intro a S)
   (refine wpm_lateF S rfl rfl rfl (want_none _ rfl) rfl rfl (fun w' S => sv_loadF S rfl rfl (hm2.mono hF6)) ?_; clear S a; intro a S)
   (refine wpm_f S rfl rfl rfl (want_none _ rfl) rfl rfl ?_; clear S a; intro a S)
   (refine wpm_o b3 S rfl rfl rfl (want_none _ rfl) rfl rfl ?_; clear S a; intro a S)
   (refine wpm_lateF S rfl rfl rfl (want_none _ rfl) rfl rfl (fun w' S => sv_lookupF (enc := kS) S rfl rfl rfl (hF6 _ _ hes)) ?_; clear S a; intro a S)
   (rw [hmg] at S)
   (refine wpm_p S rfl rfl rfl (want_none _ rfl) rfl rfl ?_; clear S a; intro a S)
   (refine wpm_i S rfl rfl rfl (want_none _ rfl) rfl rfl ?_; clear S a; intro a S)
   first | (refine wpm_lateF S rfl rfl rfl (want_none _ rfl) rfl rfl (fun w' S => sv_loadF S rfl rfl (by assumption)) ?_; clear S a; intro a S) | (refine wpm_lateF S rfl rfl rfl (want_none _ rfl) rfl rfl (fun w' S => sv_loadAF S rfl rfl (by assumption) (by rfl)) ?_; clear S a; intro a S)
   (refine wpm_p S rfl rfl rfl (want_none _ rfl) rfl rfl ?_; clear S a; intro a S)
   (refine wpm_i S rfl rfl rfl (want_none _ rfl) rfl rfl ?_; clear S a; intro a S)
   first | (refine wpm_lateF S rfl rfl rfl (want_none _ rfl) rfl rfl (fun w' S => sv_loadF S rfl rfl (by assumption)) ?_; clear S a; intro a S) | (refine wpm_lateF S rfl rfl rfl (want_none _ rfl) rfl rfl (fun w' S => sv_loadAF S rfl rfl (by assumption) (by rfl)) ?_; clear S a; intro a S)
   refine wpm_eff rfl rfl (kwa S) ?_
   (refine wpl_callF S rfl rfl rfl rfl rfl rfl (hfc2 F6 hF6 x y _ _ gx gy ⟨_, rfl, hT7, hR7.2⟩ ⟨_, rfl, hT8, hR8.2⟩) rfl ?_; clear S a; intro u5 F8 a w hv hF8 S; obtain ⟨cs8, rfl, hV8⟩ := hv; obtain ⟨a8, c8, rfl, hT8, hs8⟩ := vac_slc hV8)
   refine wpList_nil ?_
   iterate 2 (refine wpm_p S rfl rfl rfl (want_none _ rfl) rfl rfl ?_; clear S a; intro a S)
   refine wpm_eff rfl rfl (kwa S) ?_
   (refine wpl_storeO S rfl rfl rfl rfl rfl (by rfl) (by simp [Value.cells, Value.oneCell', splice]) (by rfl) ?_; clear S; intro w S)
   refine wpList_nil ?_
   refine wpm_eff rfl rfl (kwa S) ?_
   (refine wpl_p S rfl rfl rfl ?_; clear S a; intro a S)
   refine wpList_nil ?_
   (refine wpm_nil (kwa S) (hKq8 _ _ ?_); try clear hKq8 Kq8)
   refine wp_ret (fin_ret S (results2 Tryz.results64 (RV.cellO S rfl (by rfl)) (RV.tmp S rfl)) ?_)
   (first | ((conv => arg 3; rw [hcr, if_pos (by assumption)]); exact ans_no _ _) | ((conv => arg 3; rw [hcr, if_neg (by omega)]); exact ⟨_, rfl, vac_z _ (k := 1) (s := []) (by decide)⟩) | (rw [hpn (by assumption)]; exact ans_no _ _) | (rw [hp1 x (by omega) hbx]; exact ⟨_, rfl, _, rfl, hT8, hs8⟩) | (rw [hp2 x y f (by omega) hbx hf2]; exact ⟨_, rfl, _, rfl, hT8, hs8⟩) | trace_state))
  refine wp_region_lit ?_
  (refine wpl_f S rfl rfl rfl ?_; clear S a; intro a S)
  (refine wpl_l S rfl rfl rfl ?_; clear S a; intro a S)
  iterate 2 (refine wpl_p S rfl rfl rfl ?_; clear S a; intro a S)
  refine wpl_guard S rfl rfl rfl rfl rfl ?_ ?_
  · (intro h S'; clear S; have S := S'; clear S'; (try simp only [tq] at h))
    (refine wpl_f S rfl rfl rfl ?_; clear S a; intro a S)
    refine wpl_take S rfl rfl rfl ?_
    (refine wpl_l S rfl rfl rfl ?_; clear S a; intro a S)
    refine wpl_take S rfl rfl rfl ?_
    iterate 2 (refine wpl_p S rfl rfl rfl ?_; clear S a; intro a S)
    refine wpList_nil ?_
    (refine hKq3 _ _ ?_)
    (apply Exists.intro; apply And.intro; rotate_left 1; (refine S.keep ?_; repeat (first | exact trivial | refine ⟨rfl, ?_⟩)); first | exact kOr_yes (by assumption) | exact kOr_no (by assumption))
  (intro h; clear S a; intro a S; (try simp only [tq] at h))
  iterate 2 (refine wpl_skip S rfl rfl rfl rfl rfl ?_; clear S a; intro a S)
  (refine wpl_p S rfl rfl rfl ?_; clear S a; intro a S)
  refine wpList_nil ?_
  (refine hKq3 _ _ ?_)
  (apply Exists.intro; apply And.intro; rotate_left 1; (refine S.keep ?_; repeat (first | exact trivial | refine ⟨rfl, ?_⟩)); first | exact kOr_yes (by assumption) | exact kOr_no (by assumption))
end Go.Proofs.YtigblodhdfnleaaGreatDoor
