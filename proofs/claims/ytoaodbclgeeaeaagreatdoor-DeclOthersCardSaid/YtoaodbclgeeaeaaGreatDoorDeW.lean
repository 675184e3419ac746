/- Walks: what a value must be: name, number, look, depth, Check. -/
import Derived.Test.YtoaodbclgeeaeaaGreatDoorDeV
import Derived.Test.YtoaodbclgeeaeaaGreatDoorDeU
import Derived.Test.YtoaodbclgeeaeaaGreatDoorShelf
import Derived.Lib.IndexLaws
namespace Go.Proofs.YtoaodbclgeeaeaaGreatDoor
open Go Go.Wk Go.Un Go.De
set_option linter.unusedSimpArgs false
set_option linter.unusedVariables false
attribute [local irreducible] Go.wpList Go.Code.wp Go.wpStill Go.Wk.wpPre Go.bodyPost Go.Calls Go.Wk.Ct Go.Wk.OwnS
attribute [local irreducible] Go.Wk.wpG Go.Wk.wpM

open Go.RowKit in
theorem trimPrefixCt (F : Heap) (s : List UInt8) : Ct Tryz.prog 93 [.string (bs s), .string (bs [45])] F [] (fun _ _ u => u = .string (bs (numD s))) := by
  refine ct_of_below fun w hw => ?_
  refine (Tryz.strings_TrimPrefix (bs s) (bs [45]) w).mono fun e w' ⟨h1, h2⟩ => ⟨?_, ?_⟩
  · rw [h1]; rfl
  · rw [h2]; exact Below.refl _ _
theorem trimCt (F : Heap) (s : List UInt8) (hb : s.length ≤ 140737488355328) : Ct Tryz.prog 94 [.string (bs s), .string (bs digS)] F [] (fun _ _ u => u = .string (bs (Lib.trimS s digS))) := by
  refine ct_of_below fun w hw => ?_
  refine (Any.strings_Trim_laid Tryz.lays160 (by kernel_rfl) (bs s) (bs digS) w (by show s.toArray.size ≤ _; simp; omega) (by decide) (Go.Proofs.ascii_of_all (by decide))).mono fun e w' ⟨h1, h2⟩ => ⟨?_, ?_⟩
  · rw [h1]; rfl
  · exact h2
open Go.RowKit in
theorem indexOneCt (F : Heap) (s : List UInt8) : Ct Tryz.prog 105 [.string (bs s), .string (bs [46])] F [] (fun _ _ u => u = .int .i64 (cutI s)) := by
  refine ct_of_below fun w hw => ?_
  refine (Tryz.stringslite_Index_one (bs s) 46 w).mono fun e w' ⟨h1, h2⟩ => ⟨?_, ?_⟩
  · rw [h1]; rfl
  · rw [h2]; exact Below.refl _ _
theorem cutI_bd (s : List UInt8) : -1 ≤ cutI s ∧ cutI s < s.length := by
  have h1 := Lib.indexByte_ge s 46
  refine ⟨h1, ?_⟩
  rcases Int.lt_or_le (cutI s) 0 with h | h
  · omega
  · obtain ⟨o, ho⟩ := Int.eq_ofNat_of_zero_le h
    have h2 := (Lib.indexByte_some ho).1
    have := (List.getElem?_eq_some_iff.1 h2).1
    omega
theorem cut0Ct (F : Heap) (s : List UInt8) (hb : s.length ≤ 140737488355328) : Ct Tryz.prog 95 [.string (bs s), .string (bs [46])] F [] (fun _ _ u => u = .tuple ⟨[.string (bs (cutA s)), .string (bs (cutB s)), .bool (cutC s)]⟩) := by
  have hbd := cutI_bd s
  refine Ct.enter Tryz.func95 rfl Tryz.ntmps95 rfl fun w0 a S => ?_
  refine wp_sr fun Kq1 hKq1 => ?_
  iterate 3 (refine wpl_p S ?_; clear S a; intro a S)
  (refine wpList_nil (hKq1 _ _ (wp_seq_k fun Kq2 hKq2 => ?_)); try clear hKq1 Kq1)
  refine wp_sr fun Kq3 hKq3 => ?_
  iterate 2 (refine wpl_p S ?_; clear S a; intro a S)
  (refine wpl_c0 S (indexOneCt F s) ?_; clear S a; intro v a w hv S; subst hv)
  (refine wpl_p S ?_; clear S a; intro a S)
  (refine wpList_nil (hKq3 _ _ (wp_sr fun Kq4 hKq4 => ?_)); try clear hKq3 Kq3)
  iterate 2 (refine wpl_p S ?_; clear S a; intro a S)
  (refine wpList_nil (hKq4 _ _ ?_); try clear hKq4 Kq4)
  refine wpc_split S rfl (fun h => ?_) (fun h => ?_)
  · (skip; (try simp only [tq] at h))
    (refine wp_seq_k ?_; intro Kq5 hKq5)
    (refine wpc_mixM [0, 1, 2, 3, 4, 5, 6, 7, 8] [] [] (.one 0 (.one 1 (.one 2 (.one 3 (.one 4 (.one 5 (.one 6 (.one 7 (.one 8 (.one 9 (.one 10 (.one 11 .nil)))))))))))) [] S mixed (by kernel_rfl) ?_; clear S; intro w S)
    iterate 2 (refine wpm_p S ?_; clear S a; intro a S)
    (refine wpm_v S rfl rfl rfl (want_none _ rfl) rfl rfl (fun w' S => sv_sliceS_hi S rfl rfl rfl (by first | omega | (simp only [List.length_append, List.length_cons, List.length_nil]; omega))) ?_; clear S a; intro a S)
    iterate 3 (refine wpm_p S ?_; clear S a; intro a S)
    (refine wpm_s S ?_; clear S a; intro a S)
    (refine wpm_a S ?_; clear S a; intro a S)
    (refine wpm_v S rfl rfl rfl (want_none _ rfl) rfl rfl (fun w' S => sv_sliceS_lo S rfl rfl rfl (by first | omega | (simp only [List.length_append, List.length_cons, List.length_nil]; omega))) ?_; clear S a; intro a S)
    refine wpm_eff rfl rfl (kwa S) ?_
    (refine wpl_p S ?_; clear S a; intro a S)
    refine wpList_nil ?_
    refine wpm_eff rfl rfl (kwa S) ?_
    (refine wpl_p S ?_; clear S a; intro a S)
    refine wpList_nil ?_
    refine wpm_eff rfl rfl (kwa S) ?_
    (refine wpl_p S ?_; clear S a; intro a S)
    refine wpList_nil ?_
    (refine wpm_nil (kwa S) (hKq5 _ _ ?_); try clear hKq5 Kq5)
    refine wp_ret (fin_ret S (results3 Tryz.results95 (RV.tmp S rfl) (RV.tmp S rfl) (RV.tmp S rfl)) ?_)
    (unfold cutA cutB cutC; first | (have h9 : 0 ≤ cutI s := (by assumption); rw [if_pos h9, if_pos h9, decide_eq_true h9, show (cutI s + (([46] : List UInt8).length : Nat)).toNat = (cutI s).toNat + 1 by show (cutI s + 1).toNat = _; omega] <;> rfl) | (have h9 : ¬ 0 ≤ cutI s := (by assumption); rw [if_neg h9, if_neg h9, decide_eq_false h9] <;> rfl) | trace_state)
  (skip; (try simp only [tq] at h))
  refine wp_skip ?_
  (refine hKq2 _ _ ?_; try (clear hKq2 Kq2))
  refine wp_sr fun Kq5 hKq5 => ?_
  iterate 4 (refine wpl_p S ?_; clear S a; intro a S)
  (refine wpList_nil (hKq5 _ _ ?_); try clear hKq5 Kq5)
  refine wp_ret (fin_ret S (results3 Tryz.results95 (RV.tmp S rfl) (RV.tmp S rfl) (RV.tmp S rfl)) ?_)
  (unfold cutA cutB cutC; first | (have h9 : 0 ≤ cutI s := (by assumption); rw [if_pos h9, if_pos h9, decide_eq_true h9, show (cutI s + (([46] : List UInt8).length : Nat)).toNat = (cutI s).toNat + 1 by show (cutI s + 1).toNat = _; omega] <;> rfl) | (have h9 : ¬ 0 ≤ cutI s := (by assumption); rw [if_neg h9, if_neg h9, decide_eq_false h9] <;> rfl) | trace_state)
theorem cutCt (F : Heap) (s : List UInt8) (hb : s.length ≤ 140737488355328) : Ct Tryz.prog 83 [.string (bs s), .string (bs [46])] F [] (fun _ _ u => u = .tuple ⟨[.string (bs (cutA s)), .string (bs (cutB s)), .bool (cutC s)]⟩) := by
  refine Ct.enter Tryz.func83 rfl Tryz.ntmps83 rfl fun w0 a S => ?_
  refine wp_sr fun Kq1 hKq1 => ?_
  iterate 3 (refine wpl_p S ?_; clear S a; intro a S)
  (refine wpList_nil (hKq1 _ _ (wp_sr fun Kq2 hKq2 => ?_)); try clear hKq1 Kq1)
  iterate 2 (refine wpl_p S ?_; clear S a; intro a S)
  (refine wpl_c0 S (cut0Ct F s hb) ?_; clear S a; intro v a w hv S; subst hv)
  iterate 6 (refine wpl_p S ?_; clear S a; intro a S)
  (refine wpList_nil (hKq2 _ _ ?_); try clear hKq2 Kq2)
  exact wp_ret (fin_ret S (results3 Tryz.results83 (RV.tmp S rfl) (RV.tmp S rfl) (RV.tmp S rfl)) rfl)
theorem name_no1 {s : List UInt8} (h : ¬ (s ≠ [] ∧ s.length ≤ 32 ∧ 97 ≤ (s.getD 0 0).toNat ∧ (s.getD 0 0).toNat ≤ 122)) : nameS s = false := by unfold nameS; rw [decide_eq_false h, Bool.false_and]
theorem name_no2 {s : List UInt8} {k : Nat} (hk : k < s.length) (h : nameN (s.getD k 0).toNat = false) : nameS s = false := by
  unfold nameS
  rw [Bool.and_eq_false_iff]
  right
  rw [List.all_eq_false]
  refine ⟨s[k], List.getElem_mem hk, ?_⟩
  rw [List.getD_eq_getElem?_getD, List.getElem?_eq_getElem hk] at h
  simpa using h
theorem name_yes {s : List UInt8} (h : s ≠ [] ∧ s.length ≤ 32 ∧ 97 ≤ (s.getD 0 0).toNat ∧ (s.getD 0 0).toNat ≤ 122) (h2 : ∀ j, j < s.length → nameN (s.getD j 0).toNat = true) : nameS s = true := by
  unfold nameS
  rw [decide_eq_true h, Bool.true_and, List.all_eq_true]
  intro c hc
  obtain ⟨j, hj, rfl⟩ := List.mem_iff_getElem.1 hc
  have := h2 j hj
  rwa [List.getD_eq_getElem?_getD, List.getElem?_eq_getElem hj] at this
set_option maxHeartbeats 4000000 in
theorem nameCt (F : Heap) (s : List UInt8) : Ct Tryz.prog 84 [.string (bs s)] F [] (fun _ _ u => u = .bool (nameS s)) := by
  refine Ct.enter Tryz.func84 rfl Tryz.ntmps84 rfl fun w0 a S => ?_
  refine wp_sr fun Kq1 hKq1 => ?_
  (refine wpl_p S ?_; clear S a; intro a S)
  (refine wpList_nil (hKq1 _ _ (wp_seq_k fun Kq2 hKq2 => ?_)); try clear hKq1 Kq1)
  refine wp_sr fun Kq3 hKq3 => ?_
  iterate 3 (refine wpl_p S ?_; clear S a; intro a S)
  refine wpl_guard S rfl rfl rfl rfl rfl ?_ ?_
  · (intro h S'; clear S; have S := S'; clear S'; (try simp only [tq] at h))
    (refine wpl_p S ?_; clear S a; intro a S)
    refine wpl_take S rfl rfl rfl ?_
    (refine wpl_s S ?_; clear S a; intro a S)
    refine wpl_take S rfl rfl rfl ?_
    iterate 3 (refine wpl_p S ?_; clear S a; intro a S)
    refine wpl_guard S rfl rfl rfl rfl rfl ?_ ?_
    · (intro h S'; clear S; have S := S'; clear S'; (try simp only [tq] at h))
      (refine wpl_p S ?_; clear S a; intro a S)
      refine wpl_take S rfl rfl rfl ?_
      (refine wpl_v S rfl rfl rfl (sv_indexSN (i := 0) S rfl rfl rfl (by first | omega | (have h9 : 0 < s.length := List.length_pos_iff.2 (by assumption); omega))) ?_; clear S a; intro a S)
      refine wpl_take S rfl rfl rfl ?_
      iterate 3 (refine wpl_p S ?_; clear S a; intro a S)
      refine wpl_guard S rfl rfl rfl rfl rfl ?_ ?_
      · (intro h S'; clear S; have S := S'; clear S'; (try simp only [tq] at h))
        (refine wpl_p S ?_; clear S a; intro a S)
        refine wpl_take S rfl rfl rfl ?_
        (refine wpl_v S rfl rfl rfl (sv_indexSN (i := 0) S rfl rfl rfl (by first | omega | (have h9 : 0 < s.length := List.length_pos_iff.2 (by assumption); omega))) ?_; clear S a; intro a S)
        refine wpl_take S rfl rfl rfl ?_
        iterate 2 (refine wpl_p S ?_; clear S a; intro a S)
        (refine wpList_nil (hKq3 _ _ ?_); try clear hKq3 Kq3)
        refine wpc_split S rfl (fun h => ?_) (fun h => ?_)
        · (skip; (try simp only [tq] at h))
          refine wp_sr fun Kq4 hKq4 => ?_
          (refine wpl_p S ?_; clear S a; intro a S)
          (refine wpList_nil (hKq4 _ _ ?_); try clear hKq4 Kq4)
          refine wp_ret (fin_ret S (results1 Tryz.results84 (RV.tmp S rfl)) ?_)
          (congr 1; first | (exact (name_no2 (k := k) (by omega) (decide_eq_false (by omega))).symm) | (exact (name_yes ⟨by assumption, by omega, by omega, by omega⟩ (fun j hj => hall j (by omega))).symm) | (exact (name_no1 (by rintro ⟨h1, h2, h3, h4⟩; first | omega | exact h1 (by assumption))).symm) | trace_state)
        (skip; (try simp only [tq] at h))
        refine wp_skip ?_
        (refine hKq2 _ _ ?_; try (clear hKq2 Kq2))
        (refine wp_seq_k ?_; intro Kq4 hKq4)
        refine wp_sr fun Kq5 hKq5 => ?_
        (refine wpl_p S ?_; clear S a; intro a S)
        (refine wpl_s S ?_; clear S a; intro a S)
        (refine wpl_p S ?_; clear S a; intro a S)
        (refine wpList_nil (hKq5 _ _ ?_); try clear hKq5 Kq5)
        refine wp_block ?_
        refine wpc_loop (fun m a w' => ∃ (k : Nat), m = s.length - k ∧ k ≤ s.length ∧ (∀ j, j < k → nameN (s.getD j 0).toNat = true) ∧ St 58 [(0, .string (bs s)), (23, .int .i64 s.length), (24, .int .i64 k)] w0 F [] F [] a w') ?_ ?_
        · (refine ⟨s.length, 0, by omega, Nat.zero_le _, fun j h => absurd h (Nat.not_lt_zero _), ?_⟩; refine S.keep ?_; repeat (first | exact trivial | refine ⟨rfl, ?_⟩))
        (clear S; rintro m a w ⟨k, rfl, hkl, hall, S⟩)
        refine wp_sr fun Kq6 hKq6 => ?_
        (refine wpl_p S ?_; clear S a; intro a S)
        (refine wpList_nil (hKq6 _ _ (wp_seq_k fun Kq7 hKq7 => ?_)); try clear hKq6 Kq6)
        refine wpc_split S rfl (fun h => ?_) (fun h => ?_)
        · (skip; (try simp only [tq] at h))
          refine wp_skip ?_
          (refine hKq7 _ _ ?_; try (clear hKq7 Kq7))
          (refine wp_seq_k ?_; intro Kq8 hKq8)
          refine wp_block ?_
          refine wp_sr fun Kq9 hKq9 => ?_
          iterate 2 (refine wpl_p S ?_; clear S a; intro a S)
          (refine wpList_nil (hKq9 _ _ (wp_sr fun Kq10 hKq10 => ?_)); try clear hKq9 Kq9)
          iterate 2 (refine wpl_p S ?_; clear S a; intro a S)
          first | (refine wpl_v S rfl rfl rfl (sv_indexSN S rfl rfl rfl (by first | omega | (have h9 : 0 < s.length := List.length_pos_iff.2 (by assumption); omega))) ?_; clear S a; intro a S) | (refine wpl_v S rfl rfl rfl (sv_indexS S rfl rfl rfl (by first | omega | (have h9 : 0 < s.length := List.length_pos_iff.2 (by assumption); omega))) ?_; clear S a; intro a S)
          (refine wpl_p S ?_; clear S a; intro a S)
          (refine wpList_nil (hKq10 _ _ (wp_sr fun Kq11 hKq11 => ?_)); try clear hKq10 Kq10)
          iterate 3 (refine wpl_p S ?_; clear S a; intro a S)
          refine wpl_guard S rfl rfl rfl rfl rfl ?_ ?_
          · (intro h S'; clear S; have S := S'; clear S'; (try simp only [tq] at h))
            (refine wpl_p S ?_; clear S a; intro a S)
            refine wpl_take S rfl rfl rfl ?_
            iterate 3 (refine wpl_p S ?_; clear S a; intro a S)
            refine wpl_guard S rfl rfl rfl rfl rfl ?_ ?_
            · (intro h S'; clear S; have S := S'; clear S'; (try simp only [tq] at h))
              (refine wpl_p S ?_; clear S a; intro a S)
              refine wpl_take S rfl rfl rfl ?_
              (refine wpl_p S ?_; clear S a; intro a S)
              refine wpl_take S rfl rfl rfl ?_
              (refine wpl_p S ?_; clear S a; intro a S)
              refine wpl_guard S rfl rfl rfl rfl rfl ?_ ?_
              · (intro h S'; clear S; have S := S'; clear S'; (try simp only [tq] at h))
                (refine wpl_p S ?_; clear S a; intro a S)
                refine wpl_take S rfl rfl rfl ?_
                (refine wpl_p S ?_; clear S a; intro a S)
                refine wpl_take S rfl rfl rfl ?_
                iterate 3 (refine wpl_p S ?_; clear S a; intro a S)
                refine wpl_guard S rfl rfl rfl rfl rfl ?_ ?_
                · (intro h S'; clear S; have S := S'; clear S'; (try simp only [tq] at h))
                  (refine wpl_p S ?_; clear S a; intro a S)
                  refine wpl_take S rfl rfl rfl ?_
                  (refine wpl_p S ?_; clear S a; intro a S)
                  refine wpl_take S rfl rfl rfl ?_
                  (refine wpl_p S ?_; clear S a; intro a S)
                  refine wpl_guard S rfl rfl rfl rfl rfl ?_ ?_
                  · (intro h S'; clear S; have S := S'; clear S'; (try simp only [tq] at h))
                    (refine wpl_p S ?_; clear S a; intro a S)
                    refine wpl_take S rfl rfl rfl ?_
                    (refine wpl_p S ?_; clear S a; intro a S)
                    refine wpl_take S rfl rfl rfl ?_
                    iterate 3 (refine wpl_p S ?_; clear S a; intro a S)
                    refine wpl_guard S rfl rfl rfl rfl rfl ?_ ?_
                    · (intro h S'; clear S; have S := S'; clear S'; (try simp only [tq] at h))
                      (refine wpl_p S ?_; clear S a; intro a S)
                      refine wpl_take S rfl rfl rfl ?_
                      iterate 3 (refine wpl_p S ?_; clear S a; intro a S)
                      (refine wpList_nil (hKq11 _ _ ?_); try clear hKq11 Kq11)
                      refine wpc_split S rfl (fun h => ?_) (fun h => ?_)
                      · (skip; (try simp only [tq] at h))
                        refine wp_sr fun Kq12 hKq12 => ?_
                        (refine wpl_p S ?_; clear S a; intro a S)
                        (refine wpList_nil (hKq12 _ _ ?_); try clear hKq12 Kq12)
                        refine wp_ret (fin_ret S (results1 Tryz.results84 (RV.tmp S rfl)) ?_)
                        (congr 1; first | (exact (name_no2 (k := k) (by omega) (decide_eq_false (by omega))).symm) | (exact (name_yes ⟨by assumption, by omega, by omega, by omega⟩ (fun j hj => hall j (by omega))).symm) | (exact (name_no1 (by rintro ⟨h1, h2, h3, h4⟩; first | omega | exact h1 (by assumption))).symm) | trace_state)
                      (skip; (try simp only [tq] at h))
                      refine wp_skip ?_
                      (refine hKq8 _ _ ?_; try (clear hKq8 Kq8))
                      refine wp_region_lit ?_
                      (refine wpl_v S rfl rfl rfl (sv_add S rfl rfl rfl (by first | omega | (have h9 : 0 < s.length := List.length_pos_iff.2 (by assumption); omega))) ?_; clear S a; intro a S)
                      (refine wpl_p S ?_; clear S a; intro a S)
                      refine wpList_nil ?_
                      change ∃ m', _ ∧ _
                      (refine ⟨s.length - (k + 1), by omega, k + 1, rfl, by omega, ?_, ?_⟩; rotate_left 1; (refine S.keep ?_; repeat (first | exact trivial | refine ⟨rfl, ?_⟩)); intro j hj; rcases Nat.lt_or_eq_of_le (Nat.le_of_lt_succ hj) with h6 | h6; exact hall j h6; subst h6; exact decide_eq_true (by omega))
                    (intro h; clear S a; intro a S; (try simp only [tq] at h))
                    (refine wpl_k S ?_; clear S a; intro a S)
                    iterate 2 (refine wpl_p S ?_; clear S a; intro a S)
                    (refine wpList_nil (hKq11 _ _ ?_); try clear hKq11 Kq11)
                    refine wpc_false S rfl ?_
                    refine wp_skip ?_
                    (refine hKq8 _ _ ?_; try (clear hKq8 Kq8))
                    refine wp_region_lit ?_
                    (refine wpl_v S rfl rfl rfl (sv_add S rfl rfl rfl (by first | omega | (have h9 : 0 < s.length := List.length_pos_iff.2 (by assumption); omega))) ?_; clear S a; intro a S)
                    (refine wpl_p S ?_; clear S a; intro a S)
                    refine wpList_nil ?_
                    change ∃ m', _ ∧ _
                    (refine ⟨s.length - (k + 1), by omega, k + 1, rfl, by omega, ?_, ?_⟩; rotate_left 1; (refine S.keep ?_; repeat (first | exact trivial | refine ⟨rfl, ?_⟩)); intro j hj; rcases Nat.lt_or_eq_of_le (Nat.le_of_lt_succ hj) with h6 | h6; exact hall j h6; subst h6; exact decide_eq_true (by omega))
                  (intro h; clear S a; intro a S; (try simp only [tq] at h))
                  (refine wpl_k S ?_; clear S a; intro a S)
                  refine wpl_take S rfl rfl rfl ?_
                  iterate 3 (refine wpl_p S ?_; clear S a; intro a S)
                  refine wpl_take S rfl rfl rfl ?_
                  (refine wpl_p S ?_; clear S a; intro a S)
                  refine wpl_take S rfl rfl rfl ?_
                  iterate 3 (refine wpl_p S ?_; clear S a; intro a S)
                  (refine wpList_nil (hKq11 _ _ ?_); try clear hKq11 Kq11)
                  refine wpc_split S rfl (fun h => ?_) (fun h => ?_)
                  · (skip; (try simp only [tq] at h))
                    refine wp_sr fun Kq12 hKq12 => ?_
                    (refine wpl_p S ?_; clear S a; intro a S)
                    (refine wpList_nil (hKq12 _ _ ?_); try clear hKq12 Kq12)
                    refine wp_ret (fin_ret S (results1 Tryz.results84 (RV.tmp S rfl)) ?_)
                    (congr 1; first | (exact (name_no2 (k := k) (by omega) (decide_eq_false (by omega))).symm) | (exact (name_yes ⟨by assumption, by omega, by omega, by omega⟩ (fun j hj => hall j (by omega))).symm) | (exact (name_no1 (by rintro ⟨h1, h2, h3, h4⟩; first | omega | exact h1 (by assumption))).symm) | trace_state)
                  (skip; (try simp only [tq] at h))
                  refine wp_skip ?_
                  (refine hKq8 _ _ ?_; try (clear hKq8 Kq8))
                  refine wp_region_lit ?_
                  (refine wpl_v S rfl rfl rfl (sv_add S rfl rfl rfl (by first | omega | (have h9 : 0 < s.length := List.length_pos_iff.2 (by assumption); omega))) ?_; clear S a; intro a S)
                  (refine wpl_p S ?_; clear S a; intro a S)
                  refine wpList_nil ?_
                  change ∃ m', _ ∧ _
                  (refine ⟨s.length - (k + 1), by omega, k + 1, rfl, by omega, ?_, ?_⟩; rotate_left 1; (refine S.keep ?_; repeat (first | exact trivial | refine ⟨rfl, ?_⟩)); intro j hj; rcases Nat.lt_or_eq_of_le (Nat.le_of_lt_succ hj) with h6 | h6; exact hall j h6; subst h6; exact decide_eq_true (by omega))
                (intro h; clear S a; intro a S; (try simp only [tq] at h))
                iterate 2 (refine wpl_k S ?_; clear S a; intro a S)
                iterate 2 (refine wpl_skipU S rfl rfl rfl rfl rfl ?_; clear S a; intro a S)
                (refine wpl_k S ?_; clear S a; intro a S)
                iterate 2 (refine wpl_p S ?_; clear S a; intro a S)
                iterate 2 (refine wpl_k S ?_; clear S a; intro a S)
                iterate 2 (refine wpl_p S ?_; clear S a; intro a S)
                (refine wpList_nil (hKq11 _ _ ?_); try clear hKq11 Kq11)
                refine wpc_false S rfl ?_
                refine wp_skip ?_
                (refine hKq8 _ _ ?_; try (clear hKq8 Kq8))
                refine wp_region_lit ?_
                (refine wpl_v S rfl rfl rfl (sv_add S rfl rfl rfl (by first | omega | (have h9 : 0 < s.length := List.length_pos_iff.2 (by assumption); omega))) ?_; clear S a; intro a S)
                (refine wpl_p S ?_; clear S a; intro a S)
                refine wpList_nil ?_
                change ∃ m', _ ∧ _
                (refine ⟨s.length - (k + 1), by omega, k + 1, rfl, by omega, ?_, ?_⟩; rotate_left 1; (refine S.keep ?_; repeat (first | exact trivial | refine ⟨rfl, ?_⟩)); intro j hj; rcases Nat.lt_or_eq_of_le (Nat.le_of_lt_succ hj) with h6 | h6; exact hall j h6; subst h6; exact decide_eq_true (by omega))
              (intro h; clear S a; intro a S; (try simp only [tq] at h))
              (refine wpl_k S ?_; clear S a; intro a S)
              refine wpl_take S rfl rfl rfl ?_
              iterate 3 (refine wpl_p S ?_; clear S a; intro a S)
              refine wpl_take S rfl rfl rfl ?_
              (refine wpl_p S ?_; clear S a; intro a S)
              refine wpl_take S rfl rfl rfl ?_
              (refine wpl_p S ?_; clear S a; intro a S)
              refine wpl_take S rfl rfl rfl ?_
              (refine wpl_p S ?_; clear S a; intro a S)
              refine wpl_guard S rfl rfl rfl rfl rfl ?_ ?_
              · (intro h S'; clear S; have S := S'; clear S'; (try simp only [tq] at h))
                (refine wpl_p S ?_; clear S a; intro a S)
                refine wpl_take S rfl rfl rfl ?_
                (refine wpl_p S ?_; clear S a; intro a S)
                refine wpl_take S rfl rfl rfl ?_
                iterate 3 (refine wpl_p S ?_; clear S a; intro a S)
                refine wpl_guard S rfl rfl rfl rfl rfl ?_ ?_
                · (intro h S'; clear S; have S := S'; clear S'; (try simp only [tq] at h))
                  (refine wpl_p S ?_; clear S a; intro a S)
                  refine wpl_take S rfl rfl rfl ?_
                  iterate 3 (refine wpl_p S ?_; clear S a; intro a S)
                  (refine wpList_nil (hKq11 _ _ ?_); try clear hKq11 Kq11)
                  refine wpc_split S rfl (fun h => ?_) (fun h => ?_)
                  · (skip; (try simp only [tq] at h))
                    refine wp_sr fun Kq12 hKq12 => ?_
                    (refine wpl_p S ?_; clear S a; intro a S)
                    (refine wpList_nil (hKq12 _ _ ?_); try clear hKq12 Kq12)
                    refine wp_ret (fin_ret S (results1 Tryz.results84 (RV.tmp S rfl)) ?_)
                    (congr 1; first | (exact (name_no2 (k := k) (by omega) (decide_eq_false (by omega))).symm) | (exact (name_yes ⟨by assumption, by omega, by omega, by omega⟩ (fun j hj => hall j (by omega))).symm) | (exact (name_no1 (by rintro ⟨h1, h2, h3, h4⟩; first | omega | exact h1 (by assumption))).symm) | trace_state)
                  (skip; (try simp only [tq] at h))
                  refine wp_skip ?_
                  (refine hKq8 _ _ ?_; try (clear hKq8 Kq8))
                  refine wp_region_lit ?_
                  (refine wpl_v S rfl rfl rfl (sv_add S rfl rfl rfl (by first | omega | (have h9 : 0 < s.length := List.length_pos_iff.2 (by assumption); omega))) ?_; clear S a; intro a S)
                  (refine wpl_p S ?_; clear S a; intro a S)
                  refine wpList_nil ?_
                  change ∃ m', _ ∧ _
                  (refine ⟨s.length - (k + 1), by omega, k + 1, rfl, by omega, ?_, ?_⟩; rotate_left 1; (refine S.keep ?_; repeat (first | exact trivial | refine ⟨rfl, ?_⟩)); intro j hj; rcases Nat.lt_or_eq_of_le (Nat.le_of_lt_succ hj) with h6 | h6; exact hall j h6; subst h6; exact decide_eq_true (by omega))
                (intro h; clear S a; intro a S; (try simp only [tq] at h))
                (refine wpl_k S ?_; clear S a; intro a S)
                iterate 2 (refine wpl_p S ?_; clear S a; intro a S)
                (refine wpList_nil (hKq11 _ _ ?_); try clear hKq11 Kq11)
                refine wpc_false S rfl ?_
                refine wp_skip ?_
                (refine hKq8 _ _ ?_; try (clear hKq8 Kq8))
                refine wp_region_lit ?_
                (refine wpl_v S rfl rfl rfl (sv_add S rfl rfl rfl (by first | omega | (have h9 : 0 < s.length := List.length_pos_iff.2 (by assumption); omega))) ?_; clear S a; intro a S)
                (refine wpl_p S ?_; clear S a; intro a S)
                refine wpList_nil ?_
                change ∃ m', _ ∧ _
                (refine ⟨s.length - (k + 1), by omega, k + 1, rfl, by omega, ?_, ?_⟩; rotate_left 1; (refine S.keep ?_; repeat (first | exact trivial | refine ⟨rfl, ?_⟩)); intro j hj; rcases Nat.lt_or_eq_of_le (Nat.le_of_lt_succ hj) with h6 | h6; exact hall j h6; subst h6; exact decide_eq_true (by omega))
              (intro h; clear S a; intro a S; (try simp only [tq] at h))
              (refine wpl_k S ?_; clear S a; intro a S)
              refine wpl_take S rfl rfl rfl ?_
              iterate 3 (refine wpl_p S ?_; clear S a; intro a S)
              refine wpl_take S rfl rfl rfl ?_
              (refine wpl_p S ?_; clear S a; intro a S)
              refine wpl_take S rfl rfl rfl ?_
              iterate 3 (refine wpl_p S ?_; clear S a; intro a S)
              (refine wpList_nil (hKq11 _ _ ?_); try clear hKq11 Kq11)
              refine wpc_split S rfl (fun h => ?_) (fun h => ?_)
              · (skip; (try simp only [tq] at h))
                refine wp_sr fun Kq12 hKq12 => ?_
                (refine wpl_p S ?_; clear S a; intro a S)
                (refine wpList_nil (hKq12 _ _ ?_); try clear hKq12 Kq12)
                refine wp_ret (fin_ret S (results1 Tryz.results84 (RV.tmp S rfl)) ?_)
                (congr 1; first | (exact (name_no2 (k := k) (by omega) (decide_eq_false (by omega))).symm) | (exact (name_yes ⟨by assumption, by omega, by omega, by omega⟩ (fun j hj => hall j (by omega))).symm) | (exact (name_no1 (by rintro ⟨h1, h2, h3, h4⟩; first | omega | exact h1 (by assumption))).symm) | trace_state)
              (skip; (try simp only [tq] at h))
              refine wp_skip ?_
              (refine hKq8 _ _ ?_; try (clear hKq8 Kq8))
              refine wp_region_lit ?_
              (refine wpl_v S rfl rfl rfl (sv_add S rfl rfl rfl (by first | omega | (have h9 : 0 < s.length := List.length_pos_iff.2 (by assumption); omega))) ?_; clear S a; intro a S)
              (refine wpl_p S ?_; clear S a; intro a S)
              refine wpList_nil ?_
              change ∃ m', _ ∧ _
              (refine ⟨s.length - (k + 1), by omega, k + 1, rfl, by omega, ?_, ?_⟩; rotate_left 1; (refine S.keep ?_; repeat (first | exact trivial | refine ⟨rfl, ?_⟩)); intro j hj; rcases Nat.lt_or_eq_of_le (Nat.le_of_lt_succ hj) with h6 | h6; exact hall j h6; subst h6; exact decide_eq_true (by omega))
            (intro h; clear S a; intro a S; (try simp only [tq] at h))
            iterate 2 (refine wpl_k S ?_; clear S a; intro a S)
            iterate 2 (refine wpl_skipU S rfl rfl rfl rfl rfl ?_; clear S a; intro a S)
            (refine wpl_k S ?_; clear S a; intro a S)
            iterate 2 (refine wpl_p S ?_; clear S a; intro a S)
            iterate 3 (refine wpl_k S ?_; clear S a; intro a S)
            iterate 2 (refine wpl_skipU S rfl rfl rfl rfl rfl ?_; clear S a; intro a S)
            (refine wpl_k S ?_; clear S a; intro a S)
            iterate 2 (refine wpl_p S ?_; clear S a; intro a S)
            iterate 2 (refine wpl_k S ?_; clear S a; intro a S)
            iterate 2 (refine wpl_p S ?_; clear S a; intro a S)
            (refine wpList_nil (hKq11 _ _ ?_); try clear hKq11 Kq11)
            refine wpc_false S rfl ?_
            refine wp_skip ?_
            (refine hKq8 _ _ ?_; try (clear hKq8 Kq8))
            refine wp_region_lit ?_
            (refine wpl_v S rfl rfl rfl (sv_add S rfl rfl rfl (by first | omega | (have h9 : 0 < s.length := List.length_pos_iff.2 (by assumption); omega))) ?_; clear S a; intro a S)
            (refine wpl_p S ?_; clear S a; intro a S)
            refine wpList_nil ?_
            change ∃ m', _ ∧ _
            (refine ⟨s.length - (k + 1), by omega, k + 1, rfl, by omega, ?_, ?_⟩; rotate_left 1; (refine S.keep ?_; repeat (first | exact trivial | refine ⟨rfl, ?_⟩)); intro j hj; rcases Nat.lt_or_eq_of_le (Nat.le_of_lt_succ hj) with h6 | h6; exact hall j h6; subst h6; exact decide_eq_true (by omega))
          (intro h; clear S a; intro a S; (try simp only [tq] at h))
          (refine wpl_k S ?_; clear S a; intro a S)
          iterate 2 (refine wpl_p S ?_; clear S a; intro a S)
          refine wpl_take S rfl rfl rfl ?_
          (refine wpl_p S ?_; clear S a; intro a S)
          refine wpl_take S rfl rfl rfl ?_
          (refine wpl_p S ?_; clear S a; intro a S)
          refine wpl_take S rfl rfl rfl ?_
          (refine wpl_p S ?_; clear S a; intro a S)
          refine wpl_guard S rfl rfl rfl rfl rfl ?_ ?_
          · (intro h S'; clear S; have S := S'; clear S'; (try simp only [tq] at h))
            (refine wpl_p S ?_; clear S a; intro a S)
            refine wpl_take S rfl rfl rfl ?_
            (refine wpl_p S ?_; clear S a; intro a S)
            refine wpl_take S rfl rfl rfl ?_
            iterate 3 (refine wpl_p S ?_; clear S a; intro a S)
            refine wpl_guard S rfl rfl rfl rfl rfl ?_ ?_
            · (intro h S'; clear S; have S := S'; clear S'; (try simp only [tq] at h))
              (refine wpl_p S ?_; clear S a; intro a S)
              refine wpl_take S rfl rfl rfl ?_
              (refine wpl_p S ?_; clear S a; intro a S)
              refine wpl_take S rfl rfl rfl ?_
              (refine wpl_p S ?_; clear S a; intro a S)
              refine wpl_guard S rfl rfl rfl rfl rfl ?_ ?_
              · (intro h S'; clear S; have S := S'; clear S'; (try simp only [tq] at h))
                (refine wpl_p S ?_; clear S a; intro a S)
                refine wpl_take S rfl rfl rfl ?_
                (refine wpl_p S ?_; clear S a; intro a S)
                refine wpl_take S rfl rfl rfl ?_
                iterate 3 (refine wpl_p S ?_; clear S a; intro a S)
                refine wpl_guard S rfl rfl rfl rfl rfl ?_ ?_
                · (intro h S'; clear S; have S := S'; clear S'; (try simp only [tq] at h))
                  (refine wpl_p S ?_; clear S a; intro a S)
                  refine wpl_take S rfl rfl rfl ?_
                  iterate 3 (refine wpl_p S ?_; clear S a; intro a S)
                  (refine wpList_nil (hKq11 _ _ ?_); try clear hKq11 Kq11)
                  refine wpc_split S rfl (fun h => ?_) (fun h => ?_)
                  · (skip; (try simp only [tq] at h))
                    refine wp_sr fun Kq12 hKq12 => ?_
                    (refine wpl_p S ?_; clear S a; intro a S)
                    (refine wpList_nil (hKq12 _ _ ?_); try clear hKq12 Kq12)
                    refine wp_ret (fin_ret S (results1 Tryz.results84 (RV.tmp S rfl)) ?_)
                    (congr 1; first | (exact (name_no2 (k := k) (by omega) (decide_eq_false (by omega))).symm) | (exact (name_yes ⟨by assumption, by omega, by omega, by omega⟩ (fun j hj => hall j (by omega))).symm) | (exact (name_no1 (by rintro ⟨h1, h2, h3, h4⟩; first | omega | exact h1 (by assumption))).symm) | trace_state)
                  (skip; (try simp only [tq] at h))
                  refine wp_skip ?_
                  (refine hKq8 _ _ ?_; try (clear hKq8 Kq8))
                  refine wp_region_lit ?_
                  (refine wpl_v S rfl rfl rfl (sv_add S rfl rfl rfl (by first | omega | (have h9 : 0 < s.length := List.length_pos_iff.2 (by assumption); omega))) ?_; clear S a; intro a S)
                  (refine wpl_p S ?_; clear S a; intro a S)
                  refine wpList_nil ?_
                  change ∃ m', _ ∧ _
                  (refine ⟨s.length - (k + 1), by omega, k + 1, rfl, by omega, ?_, ?_⟩; rotate_left 1; (refine S.keep ?_; repeat (first | exact trivial | refine ⟨rfl, ?_⟩)); intro j hj; rcases Nat.lt_or_eq_of_le (Nat.le_of_lt_succ hj) with h6 | h6; exact hall j h6; subst h6; exact decide_eq_true (by omega))
                (intro h; clear S a; intro a S; (try simp only [tq] at h))
                (refine wpl_k S ?_; clear S a; intro a S)
                iterate 2 (refine wpl_p S ?_; clear S a; intro a S)
                (refine wpList_nil (hKq11 _ _ ?_); try clear hKq11 Kq11)
                refine wpc_false S rfl ?_
                refine wp_skip ?_
                (refine hKq8 _ _ ?_; try (clear hKq8 Kq8))
                refine wp_region_lit ?_
                (refine wpl_v S rfl rfl rfl (sv_add S rfl rfl rfl (by first | omega | (have h9 : 0 < s.length := List.length_pos_iff.2 (by assumption); omega))) ?_; clear S a; intro a S)
                (refine wpl_p S ?_; clear S a; intro a S)
                refine wpList_nil ?_
                change ∃ m', _ ∧ _
                (refine ⟨s.length - (k + 1), by omega, k + 1, rfl, by omega, ?_, ?_⟩; rotate_left 1; (refine S.keep ?_; repeat (first | exact trivial | refine ⟨rfl, ?_⟩)); intro j hj; rcases Nat.lt_or_eq_of_le (Nat.le_of_lt_succ hj) with h6 | h6; exact hall j h6; subst h6; exact decide_eq_true (by omega))
              (intro h; clear S a; intro a S; (try simp only [tq] at h))
              (refine wpl_k S ?_; clear S a; intro a S)
              refine wpl_take S rfl rfl rfl ?_
              iterate 3 (refine wpl_p S ?_; clear S a; intro a S)
              refine wpl_take S rfl rfl rfl ?_
              (refine wpl_p S ?_; clear S a; intro a S)
              refine wpl_take S rfl rfl rfl ?_
              iterate 3 (refine wpl_p S ?_; clear S a; intro a S)
              (refine wpList_nil (hKq11 _ _ ?_); try clear hKq11 Kq11)
              refine wpc_split S rfl (fun h => ?_) (fun h => ?_)
              · (skip; (try simp only [tq] at h))
                refine wp_sr fun Kq12 hKq12 => ?_
                (refine wpl_p S ?_; clear S a; intro a S)
                (refine wpList_nil (hKq12 _ _ ?_); try clear hKq12 Kq12)
                refine wp_ret (fin_ret S (results1 Tryz.results84 (RV.tmp S rfl)) ?_)
                (congr 1; first | (exact (name_no2 (k := k) (by omega) (decide_eq_false (by omega))).symm) | (exact (name_yes ⟨by assumption, by omega, by omega, by omega⟩ (fun j hj => hall j (by omega))).symm) | (exact (name_no1 (by rintro ⟨h1, h2, h3, h4⟩; first | omega | exact h1 (by assumption))).symm) | trace_state)
              (skip; (try simp only [tq] at h))
              refine wp_skip ?_
              (refine hKq8 _ _ ?_; try (clear hKq8 Kq8))
              refine wp_region_lit ?_
              (refine wpl_v S rfl rfl rfl (sv_add S rfl rfl rfl (by first | omega | (have h9 : 0 < s.length := List.length_pos_iff.2 (by assumption); omega))) ?_; clear S a; intro a S)
              (refine wpl_p S ?_; clear S a; intro a S)
              refine wpList_nil ?_
              change ∃ m', _ ∧ _
              (refine ⟨s.length - (k + 1), by omega, k + 1, rfl, by omega, ?_, ?_⟩; rotate_left 1; (refine S.keep ?_; repeat (first | exact trivial | refine ⟨rfl, ?_⟩)); intro j hj; rcases Nat.lt_or_eq_of_le (Nat.le_of_lt_succ hj) with h6 | h6; exact hall j h6; subst h6; exact decide_eq_true (by omega))
            (intro h; clear S a; intro a S; (try simp only [tq] at h))
            iterate 2 (refine wpl_k S ?_; clear S a; intro a S)
            iterate 2 (refine wpl_skipU S rfl rfl rfl rfl rfl ?_; clear S a; intro a S)
            (refine wpl_k S ?_; clear S a; intro a S)
            iterate 2 (refine wpl_p S ?_; clear S a; intro a S)
            iterate 2 (refine wpl_k S ?_; clear S a; intro a S)
            iterate 2 (refine wpl_p S ?_; clear S a; intro a S)
            (refine wpList_nil (hKq11 _ _ ?_); try clear hKq11 Kq11)
            refine wpc_false S rfl ?_
            refine wp_skip ?_
            (refine hKq8 _ _ ?_; try (clear hKq8 Kq8))
            refine wp_region_lit ?_
            (refine wpl_v S rfl rfl rfl (sv_add S rfl rfl rfl (by first | omega | (have h9 : 0 < s.length := List.length_pos_iff.2 (by assumption); omega))) ?_; clear S a; intro a S)
            (refine wpl_p S ?_; clear S a; intro a S)
            refine wpList_nil ?_
            change ∃ m', _ ∧ _
            (refine ⟨s.length - (k + 1), by omega, k + 1, rfl, by omega, ?_, ?_⟩; rotate_left 1; (refine S.keep ?_; repeat (first | exact trivial | refine ⟨rfl, ?_⟩)); intro j hj; rcases Nat.lt_or_eq_of_le (Nat.le_of_lt_succ hj) with h6 | h6; exact hall j h6; subst h6; exact decide_eq_true (by omega))
          (intro h; clear S a; intro a S; (try simp only [tq] at h))
          (refine wpl_k S ?_; clear S a; intro a S)
          refine wpl_take S rfl rfl rfl ?_
          iterate 3 (refine wpl_p S ?_; clear S a; intro a S)
          refine wpl_take S rfl rfl rfl ?_
          (refine wpl_p S ?_; clear S a; intro a S)
          refine wpl_take S rfl rfl rfl ?_
          (refine wpl_p S ?_; clear S a; intro a S)
          refine wpl_take S rfl rfl rfl ?_
          (refine wpl_p S ?_; clear S a; intro a S)
          refine wpl_guard S rfl rfl rfl rfl rfl ?_ ?_
          · (intro h S'; clear S; have S := S'; clear S'; (try simp only [tq] at h))
            (refine wpl_p S ?_; clear S a; intro a S)
            refine wpl_take S rfl rfl rfl ?_
            (refine wpl_p S ?_; clear S a; intro a S)
            refine wpl_take S rfl rfl rfl ?_
            iterate 3 (refine wpl_p S ?_; clear S a; intro a S)
            refine wpl_guard S rfl rfl rfl rfl rfl ?_ ?_
            · (intro h S'; clear S; have S := S'; clear S'; (try simp only [tq] at h))
              (refine wpl_p S ?_; clear S a; intro a S)
              refine wpl_take S rfl rfl rfl ?_
              iterate 3 (refine wpl_p S ?_; clear S a; intro a S)
              (refine wpList_nil (hKq11 _ _ ?_); try clear hKq11 Kq11)
              refine wpc_split S rfl (fun h => ?_) (fun h => ?_)
              · (skip; (try simp only [tq] at h))
                refine wp_sr fun Kq12 hKq12 => ?_
                (refine wpl_p S ?_; clear S a; intro a S)
                (refine wpList_nil (hKq12 _ _ ?_); try clear hKq12 Kq12)
                refine wp_ret (fin_ret S (results1 Tryz.results84 (RV.tmp S rfl)) ?_)
                (congr 1; first | (exact (name_no2 (k := k) (by omega) (decide_eq_false (by omega))).symm) | (exact (name_yes ⟨by assumption, by omega, by omega, by omega⟩ (fun j hj => hall j (by omega))).symm) | (exact (name_no1 (by rintro ⟨h1, h2, h3, h4⟩; first | omega | exact h1 (by assumption))).symm) | trace_state)
              (skip; (try simp only [tq] at h))
              refine wp_skip ?_
              (refine hKq8 _ _ ?_; try (clear hKq8 Kq8))
              refine wp_region_lit ?_
              (refine wpl_v S rfl rfl rfl (sv_add S rfl rfl rfl (by first | omega | (have h9 : 0 < s.length := List.length_pos_iff.2 (by assumption); omega))) ?_; clear S a; intro a S)
              (refine wpl_p S ?_; clear S a; intro a S)
              refine wpList_nil ?_
              change ∃ m', _ ∧ _
              (refine ⟨s.length - (k + 1), by omega, k + 1, rfl, by omega, ?_, ?_⟩; rotate_left 1; (refine S.keep ?_; repeat (first | exact trivial | refine ⟨rfl, ?_⟩)); intro j hj; rcases Nat.lt_or_eq_of_le (Nat.le_of_lt_succ hj) with h6 | h6; exact hall j h6; subst h6; exact decide_eq_true (by omega))
            (intro h; clear S a; intro a S; (try simp only [tq] at h))
            (refine wpl_k S ?_; clear S a; intro a S)
            iterate 2 (refine wpl_p S ?_; clear S a; intro a S)
            (refine wpList_nil (hKq11 _ _ ?_); try clear hKq11 Kq11)
            refine wpc_false S rfl ?_
            refine wp_skip ?_
            (refine hKq8 _ _ ?_; try (clear hKq8 Kq8))
            refine wp_region_lit ?_
            (refine wpl_v S rfl rfl rfl (sv_add S rfl rfl rfl (by first | omega | (have h9 : 0 < s.length := List.length_pos_iff.2 (by assumption); omega))) ?_; clear S a; intro a S)
            (refine wpl_p S ?_; clear S a; intro a S)
            refine wpList_nil ?_
            change ∃ m', _ ∧ _
            (refine ⟨s.length - (k + 1), by omega, k + 1, rfl, by omega, ?_, ?_⟩; rotate_left 1; (refine S.keep ?_; repeat (first | exact trivial | refine ⟨rfl, ?_⟩)); intro j hj; rcases Nat.lt_or_eq_of_le (Nat.le_of_lt_succ hj) with h6 | h6; exact hall j h6; subst h6; exact decide_eq_true (by omega))
          (intro h; clear S a; intro a S; (try simp only [tq] at h))
          (refine wpl_k S ?_; clear S a; intro a S)
          refine wpl_take S rfl rfl rfl ?_
          iterate 3 (refine wpl_p S ?_; clear S a; intro a S)
          refine wpl_take S rfl rfl rfl ?_
          (refine wpl_p S ?_; clear S a; intro a S)
          refine wpl_take S rfl rfl rfl ?_
          iterate 3 (refine wpl_p S ?_; clear S a; intro a S)
          (refine wpList_nil (hKq11 _ _ ?_); try clear hKq11 Kq11)
          refine wpc_split S rfl (fun h => ?_) (fun h => ?_)
          · (skip; (try simp only [tq] at h))
            refine wp_sr fun Kq12 hKq12 => ?_
            (refine wpl_p S ?_; clear S a; intro a S)
            (refine wpList_nil (hKq12 _ _ ?_); try clear hKq12 Kq12)
            refine wp_ret (fin_ret S (results1 Tryz.results84 (RV.tmp S rfl)) ?_)
            (congr 1; first | (exact (name_no2 (k := k) (by omega) (decide_eq_false (by omega))).symm) | (exact (name_yes ⟨by assumption, by omega, by omega, by omega⟩ (fun j hj => hall j (by omega))).symm) | (exact (name_no1 (by rintro ⟨h1, h2, h3, h4⟩; first | omega | exact h1 (by assumption))).symm) | trace_state)
          (skip; (try simp only [tq] at h))
          refine wp_skip ?_
          (refine hKq8 _ _ ?_; try (clear hKq8 Kq8))
          refine wp_region_lit ?_
          (refine wpl_v S rfl rfl rfl (sv_add S rfl rfl rfl (by first | omega | (have h9 : 0 < s.length := List.length_pos_iff.2 (by assumption); omega))) ?_; clear S a; intro a S)
          (refine wpl_p S ?_; clear S a; intro a S)
          refine wpList_nil ?_
          change ∃ m', _ ∧ _
          (refine ⟨s.length - (k + 1), by omega, k + 1, rfl, by omega, ?_, ?_⟩; rotate_left 1; (refine S.keep ?_; repeat (first | exact trivial | refine ⟨rfl, ?_⟩)); intro j hj; rcases Nat.lt_or_eq_of_le (Nat.le_of_lt_succ hj) with h6 | h6; exact hall j h6; subst h6; exact decide_eq_true (by omega))
        (skip; (try simp only [tq] at h))
        refine wp_exit ?_
        (refine hKq4 _ _ ?_; try (clear hKq4 Kq4))
        refine wp_sr fun Kq8 hKq8 => ?_
        (refine wpl_p S ?_; clear S a; intro a S)
        (refine wpList_nil (hKq8 _ _ ?_); try clear hKq8 Kq8)
        refine wp_ret (fin_ret S (results1 Tryz.results84 (RV.tmp S rfl)) ?_)
        (congr 1; first | (exact (name_no2 (k := k) (by omega) (decide_eq_false (by omega))).symm) | (exact (name_yes ⟨by assumption, by omega, by omega, by omega⟩ (fun j hj => hall j (by omega))).symm) | (exact (name_no1 (by rintro ⟨h1, h2, h3, h4⟩; first | omega | exact h1 (by assumption))).symm) | trace_state)
      (intro h; clear S a; intro a S; (try simp only [tq] at h))
      iterate 2 (refine wpl_k S ?_; clear S a; intro a S)
      (refine wpl_p S ?_; clear S a; intro a S)
      (refine wpList_nil (hKq3 _ _ ?_); try clear hKq3 Kq3)
      refine wpc_true S rfl ?_
      refine wp_sr fun Kq4 hKq4 => ?_
      (refine wpl_p S ?_; clear S a; intro a S)
      (refine wpList_nil (hKq4 _ _ ?_); try clear hKq4 Kq4)
      refine wp_ret (fin_ret S (results1 Tryz.results84 (RV.tmp S rfl)) ?_)
      (congr 1; first | (exact (name_no2 (k := k) (by omega) (decide_eq_false (by omega))).symm) | (exact (name_yes ⟨by assumption, by omega, by omega, by omega⟩ (fun j hj => hall j (by omega))).symm) | (exact (name_no1 (by rintro ⟨h1, h2, h3, h4⟩; first | omega | exact h1 (by assumption))).symm) | trace_state)
    (intro h; clear S a; intro a S; (try simp only [tq] at h))
    iterate 2 (refine wpl_k S ?_; clear S a; intro a S)
    iterate 2 (refine wpl_p S ?_; clear S a; intro a S)
    iterate 3 (refine wpl_k S ?_; clear S a; intro a S)
    (refine wpl_p S ?_; clear S a; intro a S)
    (refine wpList_nil (hKq3 _ _ ?_); try clear hKq3 Kq3)
    refine wpc_true S rfl ?_
    refine wp_sr fun Kq4 hKq4 => ?_
    (refine wpl_p S ?_; clear S a; intro a S)
    (refine wpList_nil (hKq4 _ _ ?_); try clear hKq4 Kq4)
    refine wp_ret (fin_ret S (results1 Tryz.results84 (RV.tmp S rfl)) ?_)
    (congr 1; first | (exact (name_no2 (k := k) (by omega) (decide_eq_false (by omega))).symm) | (exact (name_yes ⟨by assumption, by omega, by omega, by omega⟩ (fun j hj => hall j (by omega))).symm) | (exact (name_no1 (by rintro ⟨h1, h2, h3, h4⟩; first | omega | exact h1 (by assumption))).symm) | trace_state)
  (intro h; clear S a; intro a S; (try simp only [tq] at h))
  iterate 2 (refine wpl_k S ?_; clear S a; intro a S)
  iterate 2 (refine wpl_p S ?_; clear S a; intro a S)
  iterate 3 (refine wpl_k S ?_; clear S a; intro a S)
  iterate 2 (refine wpl_p S ?_; clear S a; intro a S)
  iterate 3 (refine wpl_k S ?_; clear S a; intro a S)
  (refine wpl_p S ?_; clear S a; intro a S)
  (refine wpList_nil (hKq3 _ _ ?_); try clear hKq3 Kq3)
  refine wpc_true S rfl ?_
  refine wp_sr fun Kq4 hKq4 => ?_
  (refine wpl_p S ?_; clear S a; intro a S)
  (refine wpList_nil (hKq4 _ _ ?_); try clear hKq4 Kq4)
  refine wp_ret (fin_ret S (results1 Tryz.results84 (RV.tmp S rfl)) ?_)
  (congr 1; first | (exact (name_no2 (k := k) (by omega) (decide_eq_false (by omega))).symm) | (exact (name_yes ⟨by assumption, by omega, by omega, by omega⟩ (fun j hj => hall j (by omega))).symm) | (exact (name_no1 (by rintro ⟨h1, h2, h3, h4⟩; first | omega | exact h1 (by assumption))).symm) | trace_state)
end Go.Proofs.YtoaodbclgeeaeaaGreatDoor
