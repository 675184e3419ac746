/- The walks of the document's answer for layer 1: Check, Pair, Product. -/
import Derived.Test.YtmmpbpfdnpgklaaDoorRefD
namespace Go.Proofs.YtmmpbpfdnpgklaaDoor
open Go Go.Wk Go.Num
set_option linter.unusedSimpArgs false
set_option linter.unusedVariables false
attribute [local irreducible] Go.wpList Go.Code.wp Go.wpStill Go.Wk.wpPre Go.bodyPost Go.Calls Go.Wk.Ct Go.Wk.OwnS
attribute [local irreducible] Go.Wk.wpG Go.Wk.wpM

theorem body_yes {s : List UInt8} (h : 0 < s.length) (h2 : (s.getD 0 0).toNat = 45) : bodyS s = s.drop 1 := by
  unfold bodyS
  rw [head_getD (List.length_pos_iff.1 h), if_pos (show some (s.getD 0 0) = some 45 from congrArg some ((u8_eq (n := 45) (by decide)).2 h2))]
theorem body_no {s : List UInt8} (h2 : ¬ (s.getD 0 0).toNat = 45) : bodyS s = s := by
  unfold bodyS
  cases s with
  | nil => rfl
  | cons c r =>
    rw [if_neg]
    intro e
    simp only [List.head?_cons, Option.some.injEq] at e
    exact h2 (by rw [e]; rfl)
theorem body_nil {s : List UInt8} (h : ¬ 0 < s.length) : bodyS s = s := by
  have : s = [] := List.eq_nil_of_length_eq_zero (by omega)
  subst this; rfl
set_option maxHeartbeats 1000000 in
theorem rcheckCt (s : List UInt8) (F : Heap) (hs : s.length ≤ 1000000000000) : Ct Tryd.prog 17 [.string (bs s)] F [] (fun _ _ u => u = .int .i64 (checkS s)) := by
  have hbl := bodyS_len s
  have hck : checkS s = ckD s (bodyS s) := rfl
  generalize hd : bodyS s = d at *
  refine Ct.enter Tryd.func17 rfl Tryd.ntmps17 rfl fun w0 a S => ?_
  (refine wp_seq_k ?_; intro Kq1 hKq1)
  refine wp_region_lit ?_
  (refine wpl_v S rfl rfl rfl (sv_pure S rfl) ?_; clear S a; intro a S)
  refine wpList_nil ?_
  (refine hKq1 _ _ ?_; try (clear hKq1 Kq1))
  (refine wp_seq_k ?_; intro Kq2 hKq2)
  refine wp_region_lit ?_
  (refine wpl_v S rfl rfl rfl (sv_pure S rfl) ?_; clear S a; intro a S)
  (refine wpl_v S rfl rfl rfl (sv_pure S rfl) ?_; clear S a; intro a S)
  refine wpList_nil ?_
  (refine hKq2 _ _ ?_; try (clear hKq2 Kq2))
  (refine wp_seq_k ?_; intro Kq3 hKq3)
  (refine wp_seq_k ?_; intro Kq4 hKq4)
  refine wp_region_lit ?_
  (refine wpl_v S rfl rfl rfl (sv_pure S rfl) ?_; clear S a; intro a S)
  (refine wpl_v S rfl rfl rfl (sv_lenS S rfl rfl) ?_; clear S a; intro a S)
  (refine wpl_v S rfl rfl rfl (sv_pure S rfl) ?_; clear S a; intro a S)
  (refine wpl_v S rfl rfl rfl (sv_pure S rfl) ?_; clear S a; intro a S)
  refine wpl_guard S rfl rfl rfl rfl rfl ?_ ?_
  · (intro h S'; clear S; have S := S'; clear S'; (try simp only [decide_eq_true_eq, decide_eq_false_iff_not, beq_iff_eq, bne_iff_ne, bne_eq_false_iff_eq, beq_eq_false_iff_ne, ne_eq, Bool.not_eq_true', Bool.not_eq_false', Bool.not_eq_true, Bool.not_eq_false, Bool.not_true, Bool.not_false, Int.ofNat_lt, Int.ofNat_le, Nat.not_lt, Nat.not_le] at h))
    (refine wpl_v S rfl rfl rfl (sv_pure S rfl) ?_; clear S a; intro a S)
    refine wpl_take S rfl rfl rfl ?_
    (refine wpl_v S rfl rfl rfl (sv_indexSN (i := 0) S rfl rfl rfl (by omega)) ?_; clear S a; intro a S)
    refine wpl_take S rfl rfl rfl ?_
    (refine wpl_v S rfl rfl rfl (sv_pure S rfl) ?_; clear S a; intro a S)
    first | (refine wpl_v S rfl rfl rfl (sv_pure S rfl) ?_; clear S a; intro a S) | (refine wpl_v S rfl rfl rfl (sv_pickB S rfl rfl rfl rfl) ?_; clear S a; intro a S)
    refine wpList_nil ?_
    (refine hKq4 _ _ ?_; try (clear hKq4 Kq4))
    refine wpc_split S rfl (fun h => ?_) (fun h => ?_)
    · (skip; (try simp only [decide_eq_true_eq, decide_eq_false_iff_not, beq_iff_eq, bne_iff_ne, bne_eq_false_iff_eq, beq_eq_false_iff_ne, ne_eq, Bool.not_eq_true', Bool.not_eq_false', Bool.not_eq_true, Bool.not_eq_false, Bool.not_true, Bool.not_false, Int.ofNat_lt, Int.ofNat_le, Nat.not_lt, Nat.not_le] at h))
      refine wp_region_lit ?_
      (refine wpl_v S rfl rfl rfl (sv_pure S rfl) ?_; clear S a; intro a S)
      (refine wpl_v S rfl rfl rfl (sv_sliceS_lo S rfl rfl rfl (by first | omega | (simp only [List.length_append, List.length_cons, List.length_nil]; omega))) ?_; clear S a; intro a S)
      (refine wpl_v S rfl rfl rfl (sv_pure S rfl) ?_; clear S a; intro a S)
      refine wpList_nil ?_
      (refine hKq3 _ _ ?_; try (clear hKq3 Kq3))
      (refine wp_seq_k ?_; intro Kq5 hKq5)
      (refine wp_seq_k ?_; intro Kq6 hKq6)
      (have hS2 : St 46 [(0, .string (bs s)), (3, .string (bs d))] w0 F [] F [] a w0 := (by first | (rw [← hd, body_yes (by omega) (by omega)]; exact S.keep ⟨rfl, rfl, trivial⟩) | (rw [← hd, body_no (by omega)]; exact S.keep ⟨rfl, rfl, trivial⟩) | (rw [← hd, body_nil (by omega)]; exact S.keep ⟨rfl, rfl, trivial⟩)); clear S; have S := hS2; clear hS2)
      refine wp_region_lit ?_
      (refine wpl_v S rfl rfl rfl (sv_pure S rfl) ?_; clear S a; intro a S)
      (refine wpl_v S rfl rfl rfl (sv_pure S rfl) ?_; clear S a; intro a S)
      (refine wpl_v S rfl rfl rfl (sv_pure S rfl) ?_; clear S a; intro a S)
      refine wpl_guard S rfl rfl rfl rfl rfl ?_ ?_
      · (intro h S'; clear S; have S := S'; clear S'; (try simp only [decide_eq_true_eq, decide_eq_false_iff_not, beq_iff_eq, bne_iff_ne, bne_eq_false_iff_eq, beq_eq_false_iff_ne, ne_eq, Bool.not_eq_true', Bool.not_eq_false', Bool.not_eq_true, Bool.not_eq_false, Bool.not_true, Bool.not_false, Int.ofNat_lt, Int.ofNat_le, Nat.not_lt, Nat.not_le] at h))
        (refine wpl_v S rfl rfl rfl (sv_pure S rfl) ?_; clear S a; intro a S)
        refine wpl_take S rfl rfl rfl ?_
        (have hdl : 0 < d.length := List.length_pos_iff.2 (by assumption)); (refine wpl_v S rfl rfl rfl (sv_indexSN (i := 0) S rfl rfl rfl (by omega)) ?_; clear S a; intro a S)
        refine wpl_take S rfl rfl rfl ?_
        (refine wpl_v S rfl rfl rfl (sv_pure S rfl) ?_; clear S a; intro a S)
        refine wpl_take S rfl rfl rfl ?_
        (refine wpl_v S rfl rfl rfl (sv_pure S rfl) ?_; clear S a; intro a S)
        refine wpl_guard S rfl rfl rfl rfl rfl ?_ ?_
        · (intro h S'; clear S; have S := S'; clear S'; (try simp only [decide_eq_true_eq, decide_eq_false_iff_not, beq_iff_eq, bne_iff_ne, bne_eq_false_iff_eq, beq_eq_false_iff_ne, ne_eq, Bool.not_eq_true', Bool.not_eq_false', Bool.not_eq_true, Bool.not_eq_false, Bool.not_true, Bool.not_false, Int.ofNat_lt, Int.ofNat_le, Nat.not_lt, Nat.not_le] at h))
          (refine wpl_v S rfl rfl rfl (sv_pure S rfl) ?_; clear S a; intro a S)
          refine wpl_take S rfl rfl rfl ?_
          (refine wpl_v S rfl rfl rfl (sv_pure S rfl) ?_; clear S a; intro a S)
          refine wpl_take S rfl rfl rfl ?_
          first | (refine wpl_v S rfl rfl rfl (sv_pure S rfl) ?_; clear S a; intro a S) | (refine wpl_v S rfl rfl rfl (sv_pickB S rfl rfl rfl rfl) ?_; clear S a; intro a S)
          first | (refine wpl_v S rfl rfl rfl (sv_pure S rfl) ?_; clear S a; intro a S) | (refine wpl_v S rfl rfl rfl (sv_pickB S rfl rfl rfl rfl) ?_; clear S a; intro a S)
          refine wpList_nil ?_
          (refine hKq6 _ _ ?_; try (clear hKq6 Kq6))
          refine wpc_split S rfl (fun h => ?_) (fun h => ?_)
          · (skip; (try simp only [decide_eq_true_eq, decide_eq_false_iff_not, beq_iff_eq, bne_iff_ne, bne_eq_false_iff_eq, beq_eq_false_iff_ne, ne_eq, Bool.not_eq_true', Bool.not_eq_false', Bool.not_eq_true, Bool.not_eq_false, Bool.not_true, Bool.not_false, Int.ofNat_lt, Int.ofNat_le, Nat.not_lt, Nat.not_le] at h))
            (refine wp_seq_k ?_; intro Kq7 hKq7)
            refine wp_region_lit ?_
            (refine wpl_v S rfl rfl rfl (sv_pure S rfl) ?_; clear S a; intro a S)
            refine wpList_nil ?_
            (refine hKq7 _ _ ?_; try (clear hKq7 Kq7))
            refine wp_ret ?_
            refine fin_ret S (results1 Tryd.results17 (RV.tmp S rfl)) ?_
            (rw [hck]; refine congrArg _ ?_; first | exact ck_empty (by assumption) | exact ck_zero (by assumption) (by omega) (by assumption) | exact ck_bad (j := i) (by omega) (by rw [isD_iff]; omega) | exact ck_over (by assumption) (by first | (intro; assumption) | (intro; omega)) (all_of_take hall (by omega)) (by omega) | exact ck_ok (by assumption) (by first | (intro; assumption) | (intro; omega)) (all_of_take hall (by omega)) (by omega))
          · (skip; (try simp only [decide_eq_true_eq, decide_eq_false_iff_not, beq_iff_eq, bne_iff_ne, bne_eq_false_iff_eq, beq_eq_false_iff_ne, ne_eq, Bool.not_eq_true', Bool.not_eq_false', Bool.not_eq_true, Bool.not_eq_false, Bool.not_true, Bool.not_false, Int.ofNat_lt, Int.ofNat_le, Nat.not_lt, Nat.not_le] at h))
            refine wp_skip ?_
            (refine hKq5 _ _ ?_; try (clear hKq5 Kq5))
            (refine wp_seq_k ?_; intro Kq7 hKq7)
            (refine wp_seq_k ?_; intro Kq8 hKq8)
            refine wp_region_lit ?_
            (refine wpl_v S rfl rfl rfl (sv_pure S rfl) ?_; clear S a; intro a S)
            refine wpList_nil ?_
            (refine hKq8 _ _ ?_; try (clear hKq8 Kq8))
            refine wp_block ?_
            refine wpc_loop (fun m a w' => ∃ (i : Nat), m = d.length - i ∧ i ≤ d.length ∧ (∀ j, j < i → isD (d.getD j 0) = true) ∧ St 46 [(3, .string (bs d)), (4, .int .i64 i)] w0 F [] F [] a w') ?_ ?_
            · (refine ⟨d.length, 0, rfl, Nat.zero_le _, (fun j hj => absurd hj (by omega)), ?_⟩; refine S.keep ?_; repeat (first | exact trivial | refine ⟨rfl, ?_⟩))
            · (clear S; rintro m a w ⟨i, rfl, hi, hall, S⟩)
              (refine wp_seq_k ?_; intro Kq9 hKq9)
              (refine wp_seq_k ?_; intro Kq10 hKq10)
              refine wp_region_lit ?_
              (refine wpl_v S rfl rfl rfl (sv_pure S rfl) ?_; clear S a; intro a S)
              (refine wpl_v S rfl rfl rfl (sv_pure S rfl) ?_; clear S a; intro a S)
              (refine wpl_v S rfl rfl rfl (sv_lenS S rfl rfl) ?_; clear S a; intro a S)
              (refine wpl_v S rfl rfl rfl (sv_pure S rfl) ?_; clear S a; intro a S)
              refine wpList_nil ?_
              (refine hKq10 _ _ ?_; try (clear hKq10 Kq10))
              refine wpc_split S rfl (fun h => ?_) (fun h => ?_)
              · (skip; (try simp only [decide_eq_true_eq, decide_eq_false_iff_not, beq_iff_eq, bne_iff_ne, bne_eq_false_iff_eq, beq_eq_false_iff_ne, ne_eq, Bool.not_eq_true', Bool.not_eq_false', Bool.not_eq_true, Bool.not_eq_false, Bool.not_true, Bool.not_false, Int.ofNat_lt, Int.ofNat_le, Nat.not_lt, Nat.not_le] at h))
                refine wp_skip ?_
                (refine hKq9 _ _ ?_; try (clear hKq9 Kq9))
                (refine wp_seq_k ?_; intro Kq11 hKq11)
                refine wp_block ?_
                (refine wp_seq_k ?_; intro Kq12 hKq12)
                refine wp_region_lit ?_
                (refine wpl_v S rfl rfl rfl (sv_pure S rfl) ?_; clear S a; intro a S)
                (refine wpl_v S rfl rfl rfl (sv_pure S rfl) ?_; clear S a; intro a S)
                first | (refine wpl_v S rfl rfl rfl (sv_indexSN S rfl rfl rfl (by first | omega | (simp only [List.length_append, List.length_cons, List.length_nil]; omega))) ?_; clear S a; intro a S) | (refine wpl_v S rfl rfl rfl (sv_indexS S rfl rfl rfl (by first | omega | (simp only [List.length_append, List.length_cons, List.length_nil]; omega))) ?_; clear S a; intro a S)
                (refine wpl_v S rfl rfl rfl (sv_pure S rfl) ?_; clear S a; intro a S)
                (refine wpl_v S rfl rfl rfl (sv_pure S rfl) ?_; clear S a; intro a S)
                refine wpl_guard S rfl rfl rfl rfl rfl ?_ ?_
                · (intro h S'; clear S; have S := S'; clear S'; (try simp only [decide_eq_true_eq, decide_eq_false_iff_not, beq_iff_eq, bne_iff_ne, bne_eq_false_iff_eq, beq_eq_false_iff_ne, ne_eq, Bool.not_eq_true', Bool.not_eq_false', Bool.not_eq_true, Bool.not_eq_false, Bool.not_true, Bool.not_false, Int.ofNat_lt, Int.ofNat_le, Nat.not_lt, Nat.not_le] at h))
                  (refine wpl_v S rfl rfl rfl (sv_pure S rfl) ?_; clear S a; intro a S)
                  refine wpl_take S rfl rfl rfl ?_
                  (refine wpl_v S rfl rfl rfl (sv_pure S rfl) ?_; clear S a; intro a S)
                  refine wpl_take S rfl rfl rfl ?_
                  first | (refine wpl_v S rfl rfl rfl (sv_indexSN S rfl rfl rfl (by first | omega | (simp only [List.length_append, List.length_cons, List.length_nil]; omega))) ?_; clear S a; intro a S) | (refine wpl_v S rfl rfl rfl (sv_indexS S rfl rfl rfl (by first | omega | (simp only [List.length_append, List.length_cons, List.length_nil]; omega))) ?_; clear S a; intro a S)
                  refine wpl_take S rfl rfl rfl ?_
                  (refine wpl_v S rfl rfl rfl (sv_pure S rfl) ?_; clear S a; intro a S)
                  first | (refine wpl_v S rfl rfl rfl (sv_pure S rfl) ?_; clear S a; intro a S) | (refine wpl_v S rfl rfl rfl (sv_pickB S rfl rfl rfl rfl) ?_; clear S a; intro a S)
                  refine wpList_nil ?_
                  (refine hKq12 _ _ ?_; try (clear hKq12 Kq12))
                  refine wpc_split S rfl (fun h => ?_) (fun h => ?_)
                  · (skip; (try simp only [decide_eq_true_eq, decide_eq_false_iff_not, beq_iff_eq, bne_iff_ne, bne_eq_false_iff_eq, beq_eq_false_iff_ne, ne_eq, Bool.not_eq_true', Bool.not_eq_false', Bool.not_eq_true, Bool.not_eq_false, Bool.not_true, Bool.not_false, Int.ofNat_lt, Int.ofNat_le, Nat.not_lt, Nat.not_le] at h))
                    (refine wp_seq_k ?_; intro Kq13 hKq13)
                    refine wp_region_lit ?_
                    (refine wpl_v S rfl rfl rfl (sv_pure S rfl) ?_; clear S a; intro a S)
                    refine wpList_nil ?_
                    (refine hKq13 _ _ ?_; try (clear hKq13 Kq13))
                    refine wp_ret ?_
                    refine fin_ret S (results1 Tryd.results17 (RV.tmp S rfl)) ?_
                    (rw [hck]; refine congrArg _ ?_; first | exact ck_empty (by assumption) | exact ck_zero (by assumption) (by omega) (by assumption) | exact ck_bad (j := i) (by omega) (by rw [isD_iff]; omega) | exact ck_over (by assumption) (by first | (intro; assumption) | (intro; omega)) (all_of_take hall (by omega)) (by omega) | exact ck_ok (by assumption) (by first | (intro; assumption) | (intro; omega)) (all_of_take hall (by omega)) (by omega))
                  · (skip; (try simp only [decide_eq_true_eq, decide_eq_false_iff_not, beq_iff_eq, bne_iff_ne, bne_eq_false_iff_eq, beq_eq_false_iff_ne, ne_eq, Bool.not_eq_true', Bool.not_eq_false', Bool.not_eq_true, Bool.not_eq_false, Bool.not_true, Bool.not_false, Int.ofNat_lt, Int.ofNat_le, Nat.not_lt, Nat.not_le] at h))
                    refine wp_skip ?_
                    (refine hKq11 _ _ ?_; try (clear hKq11 Kq11))
                    refine wp_region_lit ?_
                    (refine wpl_v S rfl rfl rfl (sv_pure S rfl) ?_; clear S a; intro a S)
                    (refine wpl_v S rfl rfl rfl (sv_add S rfl rfl rfl (by first | omega | (simp only [List.length_append, List.length_cons, List.length_nil]; omega))) ?_; clear S a; intro a S)
                    (refine wpl_v S rfl rfl rfl (sv_pure S rfl) ?_; clear S a; intro a S)
                    refine wpList_nil ?_
                    change ∃ m', _ ∧ _
                    (refine ⟨d.length - (i + 1), by omega, i + 1, rfl, by omega, ?_, ?_⟩; rotate_left 1; (refine S.keep ?_; repeat (first | exact trivial | refine ⟨rfl, ?_⟩)); intro j hj; rcases Nat.lt_succ_iff_lt_or_eq.1 hj with h9 | h9; exact hall j h9; subst h9; rw [isD_iff]; omega)
                · (intro h; clear S a; intro a S; (try simp only [decide_eq_true_eq, decide_eq_false_iff_not, beq_iff_eq, bne_iff_ne, bne_eq_false_iff_eq, beq_eq_false_iff_ne, ne_eq, Bool.not_eq_true', Bool.not_eq_false', Bool.not_eq_true, Bool.not_eq_false, Bool.not_true, Bool.not_false, Int.ofNat_lt, Int.ofNat_le, Nat.not_lt, Nat.not_le] at h))
                  (refine wpl_skip S rfl rfl rfl rfl rfl ?_; clear S a; intro a S)
                  (refine wpl_skip S rfl rfl rfl rfl rfl ?_; clear S a; intro a S)
                  (refine wpl_skip S rfl rfl rfl rfl rfl ?_; clear S a; intro a S)
                  first | (refine wpl_v S rfl rfl rfl (sv_pure S rfl) ?_; clear S a; intro a S) | (refine wpl_v S rfl rfl rfl (sv_pickB S rfl rfl rfl rfl) ?_; clear S a; intro a S)
                  refine wpList_nil ?_
                  (refine hKq12 _ _ ?_; try (clear hKq12 Kq12))
                  refine wpc_true S rfl ?_
                  (refine wp_seq_k ?_; intro Kq13 hKq13)
                  refine wp_region_lit ?_
                  (refine wpl_v S rfl rfl rfl (sv_pure S rfl) ?_; clear S a; intro a S)
                  refine wpList_nil ?_
                  (refine hKq13 _ _ ?_; try (clear hKq13 Kq13))
                  refine wp_ret ?_
                  refine fin_ret S (results1 Tryd.results17 (RV.tmp S rfl)) ?_
                  (rw [hck]; refine congrArg _ ?_; first | exact ck_empty (by assumption) | exact ck_zero (by assumption) (by omega) (by assumption) | exact ck_bad (j := i) (by omega) (by rw [isD_iff]; omega) | exact ck_over (by assumption) (by first | (intro; assumption) | (intro; omega)) (all_of_take hall (by omega)) (by omega) | exact ck_ok (by assumption) (by first | (intro; assumption) | (intro; omega)) (all_of_take hall (by omega)) (by omega))
              · (skip; (try simp only [decide_eq_true_eq, decide_eq_false_iff_not, beq_iff_eq, bne_iff_ne, bne_eq_false_iff_eq, beq_eq_false_iff_ne, ne_eq, Bool.not_eq_true', Bool.not_eq_false', Bool.not_eq_true, Bool.not_eq_false, Bool.not_true, Bool.not_false, Int.ofNat_lt, Int.ofNat_le, Nat.not_lt, Nat.not_le] at h))
                refine wp_exit ?_
                (refine hKq7 _ _ ?_; try (clear hKq7 Kq7))
                (refine wp_seq_k ?_; intro Kq11 hKq11)
                (refine wp_seq_k ?_; intro Kq12 hKq12)
                refine wp_region_lit ?_
                (refine wpl_v S rfl rfl rfl (sv_pure S rfl) ?_; clear S a; intro a S)
                (refine wpl_v S rfl rfl rfl (sv_lenS S rfl rfl) ?_; clear S a; intro a S)
                (refine wpl_v S rfl rfl rfl (sv_pure S rfl) ?_; clear S a; intro a S)
                refine wpList_nil ?_
                (refine hKq12 _ _ ?_; try (clear hKq12 Kq12))
                refine wpc_split S rfl (fun h => ?_) (fun h => ?_)
                · (skip; (try simp only [decide_eq_true_eq, decide_eq_false_iff_not, beq_iff_eq, bne_iff_ne, bne_eq_false_iff_eq, beq_eq_false_iff_ne, ne_eq, Bool.not_eq_true', Bool.not_eq_false', Bool.not_eq_true, Bool.not_eq_false, Bool.not_true, Bool.not_false, Int.ofNat_lt, Int.ofNat_le, Nat.not_lt, Nat.not_le] at h))
                  (refine wp_seq_k ?_; intro Kq13 hKq13)
                  refine wp_region_lit ?_
                  (refine wpl_v S rfl rfl rfl (sv_pure S rfl) ?_; clear S a; intro a S)
                  refine wpList_nil ?_
                  (refine hKq13 _ _ ?_; try (clear hKq13 Kq13))
                  refine wp_ret ?_
                  refine fin_ret S (results1 Tryd.results17 (RV.tmp S rfl)) ?_
                  (rw [hck]; refine congrArg _ ?_; first | exact ck_empty (by assumption) | exact ck_zero (by assumption) (by omega) (by assumption) | exact ck_bad (j := i) (by omega) (by rw [isD_iff]; omega) | exact ck_over (by assumption) (by first | (intro; assumption) | (intro; omega)) (all_of_take hall (by omega)) (by omega) | exact ck_ok (by assumption) (by first | (intro; assumption) | (intro; omega)) (all_of_take hall (by omega)) (by omega))
                · (skip; (try simp only [decide_eq_true_eq, decide_eq_false_iff_not, beq_iff_eq, bne_iff_ne, bne_eq_false_iff_eq, beq_eq_false_iff_ne, ne_eq, Bool.not_eq_true', Bool.not_eq_false', Bool.not_eq_true, Bool.not_eq_false, Bool.not_true, Bool.not_false, Int.ofNat_lt, Int.ofNat_le, Nat.not_lt, Nat.not_le] at h))
                  refine wp_skip ?_
                  (refine hKq11 _ _ ?_; try (clear hKq11 Kq11))
                  (refine wp_seq_k ?_; intro Kq13 hKq13)
                  refine wp_region_lit ?_
                  (refine wpl_v S rfl rfl rfl (sv_pure S rfl) ?_; clear S a; intro a S)
                  refine wpList_nil ?_
                  (refine hKq13 _ _ ?_; try (clear hKq13 Kq13))
                  refine wp_ret ?_
                  refine fin_ret S (results1 Tryd.results17 (RV.tmp S rfl)) ?_
                  (rw [hck]; refine congrArg _ ?_; first | exact ck_empty (by assumption) | exact ck_zero (by assumption) (by omega) (by assumption) | exact ck_bad (j := i) (by omega) (by rw [isD_iff]; omega) | exact ck_over (by assumption) (by first | (intro; assumption) | (intro; omega)) (all_of_take hall (by omega)) (by omega) | exact ck_ok (by assumption) (by first | (intro; assumption) | (intro; omega)) (all_of_take hall (by omega)) (by omega))
        · (intro h; clear S a; intro a S; (try simp only [decide_eq_true_eq, decide_eq_false_iff_not, beq_iff_eq, bne_iff_ne, bne_eq_false_iff_eq, beq_eq_false_iff_ne, ne_eq, Bool.not_eq_true', Bool.not_eq_false', Bool.not_eq_true, Bool.not_eq_false, Bool.not_true, Bool.not_false, Int.ofNat_lt, Int.ofNat_le, Nat.not_lt, Nat.not_le] at h))
          (refine wpl_skip S rfl rfl rfl rfl rfl ?_; clear S a; intro a S)
          refine wpl_take S rfl rfl rfl ?_
          first | (refine wpl_v S rfl rfl rfl (sv_pure S rfl) ?_; clear S a; intro a S) | (refine wpl_v S rfl rfl rfl (sv_pickB S rfl rfl rfl rfl) ?_; clear S a; intro a S)
          first | (refine wpl_v S rfl rfl rfl (sv_pure S rfl) ?_; clear S a; intro a S) | (refine wpl_v S rfl rfl rfl (sv_pickB S rfl rfl rfl rfl) ?_; clear S a; intro a S)
          refine wpList_nil ?_
          (refine hKq6 _ _ ?_; try (clear hKq6 Kq6))
          refine wpc_false S rfl ?_
          refine wp_skip ?_
          (refine hKq5 _ _ ?_; try (clear hKq5 Kq5))
          (refine wp_seq_k ?_; intro Kq7 hKq7)
          (refine wp_seq_k ?_; intro Kq8 hKq8)
          refine wp_region_lit ?_
          (refine wpl_v S rfl rfl rfl (sv_pure S rfl) ?_; clear S a; intro a S)
          refine wpList_nil ?_
          (refine hKq8 _ _ ?_; try (clear hKq8 Kq8))
          refine wp_block ?_
          refine wpc_loop (fun m a w' => ∃ (i : Nat), m = d.length - i ∧ i ≤ d.length ∧ (∀ j, j < i → isD (d.getD j 0) = true) ∧ St 46 [(3, .string (bs d)), (4, .int .i64 i)] w0 F [] F [] a w') ?_ ?_
          · (refine ⟨d.length, 0, rfl, Nat.zero_le _, (fun j hj => absurd hj (by omega)), ?_⟩; refine S.keep ?_; repeat (first | exact trivial | refine ⟨rfl, ?_⟩))
          · (clear S; rintro m a w ⟨i, rfl, hi, hall, S⟩)
            (refine wp_seq_k ?_; intro Kq9 hKq9)
            (refine wp_seq_k ?_; intro Kq10 hKq10)
            refine wp_region_lit ?_
            (refine wpl_v S rfl rfl rfl (sv_pure S rfl) ?_; clear S a; intro a S)
            (refine wpl_v S rfl rfl rfl (sv_pure S rfl) ?_; clear S a; intro a S)
            (refine wpl_v S rfl rfl rfl (sv_lenS S rfl rfl) ?_; clear S a; intro a S)
            (refine wpl_v S rfl rfl rfl (sv_pure S rfl) ?_; clear S a; intro a S)
            refine wpList_nil ?_
            (refine hKq10 _ _ ?_; try (clear hKq10 Kq10))
            refine wpc_split S rfl (fun h => ?_) (fun h => ?_)
            · (skip; (try simp only [decide_eq_true_eq, decide_eq_false_iff_not, beq_iff_eq, bne_iff_ne, bne_eq_false_iff_eq, beq_eq_false_iff_ne, ne_eq, Bool.not_eq_true', Bool.not_eq_false', Bool.not_eq_true, Bool.not_eq_false, Bool.not_true, Bool.not_false, Int.ofNat_lt, Int.ofNat_le, Nat.not_lt, Nat.not_le] at h))
              refine wp_skip ?_
              (refine hKq9 _ _ ?_; try (clear hKq9 Kq9))
              (refine wp_seq_k ?_; intro Kq11 hKq11)
              refine wp_block ?_
              (refine wp_seq_k ?_; intro Kq12 hKq12)
              refine wp_region_lit ?_
              (refine wpl_v S rfl rfl rfl (sv_pure S rfl) ?_; clear S a; intro a S)
              (refine wpl_v S rfl rfl rfl (sv_pure S rfl) ?_; clear S a; intro a S)
              first | (refine wpl_v S rfl rfl rfl (sv_indexSN S rfl rfl rfl (by first | omega | (simp only [List.length_append, List.length_cons, List.length_nil]; omega))) ?_; clear S a; intro a S) | (refine wpl_v S rfl rfl rfl (sv_indexS S rfl rfl rfl (by first | omega | (simp only [List.length_append, List.length_cons, List.length_nil]; omega))) ?_; clear S a; intro a S)
              (refine wpl_v S rfl rfl rfl (sv_pure S rfl) ?_; clear S a; intro a S)
              (refine wpl_v S rfl rfl rfl (sv_pure S rfl) ?_; clear S a; intro a S)
              refine wpl_guard S rfl rfl rfl rfl rfl ?_ ?_
              · (intro h S'; clear S; have S := S'; clear S'; (try simp only [decide_eq_true_eq, decide_eq_false_iff_not, beq_iff_eq, bne_iff_ne, bne_eq_false_iff_eq, beq_eq_false_iff_ne, ne_eq, Bool.not_eq_true', Bool.not_eq_false', Bool.not_eq_true, Bool.not_eq_false, Bool.not_true, Bool.not_false, Int.ofNat_lt, Int.ofNat_le, Nat.not_lt, Nat.not_le] at h))
                (refine wpl_v S rfl rfl rfl (sv_pure S rfl) ?_; clear S a; intro a S)
                refine wpl_take S rfl rfl rfl ?_
                (refine wpl_v S rfl rfl rfl (sv_pure S rfl) ?_; clear S a; intro a S)
                refine wpl_take S rfl rfl rfl ?_
                first | (refine wpl_v S rfl rfl rfl (sv_indexSN S rfl rfl rfl (by first | omega | (simp only [List.length_append, List.length_cons, List.length_nil]; omega))) ?_; clear S a; intro a S) | (refine wpl_v S rfl rfl rfl (sv_indexS S rfl rfl rfl (by first | omega | (simp only [List.length_append, List.length_cons, List.length_nil]; omega))) ?_; clear S a; intro a S)
                refine wpl_take S rfl rfl rfl ?_
                (refine wpl_v S rfl rfl rfl (sv_pure S rfl) ?_; clear S a; intro a S)
                first | (refine wpl_v S rfl rfl rfl (sv_pure S rfl) ?_; clear S a; intro a S) | (refine wpl_v S rfl rfl rfl (sv_pickB S rfl rfl rfl rfl) ?_; clear S a; intro a S)
                refine wpList_nil ?_
                (refine hKq12 _ _ ?_; try (clear hKq12 Kq12))
                refine wpc_split S rfl (fun h => ?_) (fun h => ?_)
                · (skip; (try simp only [decide_eq_true_eq, decide_eq_false_iff_not, beq_iff_eq, bne_iff_ne, bne_eq_false_iff_eq, beq_eq_false_iff_ne, ne_eq, Bool.not_eq_true', Bool.not_eq_false', Bool.not_eq_true, Bool.not_eq_false, Bool.not_true, Bool.not_false, Int.ofNat_lt, Int.ofNat_le, Nat.not_lt, Nat.not_le] at h))
                  (refine wp_seq_k ?_; intro Kq13 hKq13)
                  refine wp_region_lit ?_
                  (refine wpl_v S rfl rfl rfl (sv_pure S rfl) ?_; clear S a; intro a S)
                  refine wpList_nil ?_
                  (refine hKq13 _ _ ?_; try (clear hKq13 Kq13))
                  refine wp_ret ?_
                  refine fin_ret S (results1 Tryd.results17 (RV.tmp S rfl)) ?_
                  (rw [hck]; refine congrArg _ ?_; first | exact ck_empty (by assumption) | exact ck_zero (by assumption) (by omega) (by assumption) | exact ck_bad (j := i) (by omega) (by rw [isD_iff]; omega) | exact ck_over (by assumption) (by first | (intro; assumption) | (intro; omega)) (all_of_take hall (by omega)) (by omega) | exact ck_ok (by assumption) (by first | (intro; assumption) | (intro; omega)) (all_of_take hall (by omega)) (by omega))
                · (skip; (try simp only [decide_eq_true_eq, decide_eq_false_iff_not, beq_iff_eq, bne_iff_ne, bne_eq_false_iff_eq, beq_eq_false_iff_ne, ne_eq, Bool.not_eq_true', Bool.not_eq_false', Bool.not_eq_true, Bool.not_eq_false, Bool.not_true, Bool.not_false, Int.ofNat_lt, Int.ofNat_le, Nat.not_lt, Nat.not_le] at h))
                  refine wp_skip ?_
                  (refine hKq11 _ _ ?_; try (clear hKq11 Kq11))
                  refine wp_region_lit ?_
                  (refine wpl_v S rfl rfl rfl (sv_pure S rfl) ?_; clear S a; intro a S)
                  (refine wpl_v S rfl rfl rfl (sv_add S rfl rfl rfl (by first | omega | (simp only [List.length_append, List.length_cons, List.length_nil]; omega))) ?_; clear S a; intro a S)
                  (refine wpl_v S rfl rfl rfl (sv_pure S rfl) ?_; clear S a; intro a S)
                  refine wpList_nil ?_
                  change ∃ m', _ ∧ _
                  (refine ⟨d.length - (i + 1), by omega, i + 1, rfl, by omega, ?_, ?_⟩; rotate_left 1; (refine S.keep ?_; repeat (first | exact trivial | refine ⟨rfl, ?_⟩)); intro j hj; rcases Nat.lt_succ_iff_lt_or_eq.1 hj with h9 | h9; exact hall j h9; subst h9; rw [isD_iff]; omega)
              · (intro h; clear S a; intro a S; (try simp only [decide_eq_true_eq, decide_eq_false_iff_not, beq_iff_eq, bne_iff_ne, bne_eq_false_iff_eq, beq_eq_false_iff_ne, ne_eq, Bool.not_eq_true', Bool.not_eq_false', Bool.not_eq_true, Bool.not_eq_false, Bool.not_true, Bool.not_false, Int.ofNat_lt, Int.ofNat_le, Nat.not_lt, Nat.not_le] at h))
                (refine wpl_skip S rfl rfl rfl rfl rfl ?_; clear S a; intro a S)
                (refine wpl_skip S rfl rfl rfl rfl rfl ?_; clear S a; intro a S)
                (refine wpl_skip S rfl rfl rfl rfl rfl ?_; clear S a; intro a S)
                first | (refine wpl_v S rfl rfl rfl (sv_pure S rfl) ?_; clear S a; intro a S) | (refine wpl_v S rfl rfl rfl (sv_pickB S rfl rfl rfl rfl) ?_; clear S a; intro a S)
                refine wpList_nil ?_
                (refine hKq12 _ _ ?_; try (clear hKq12 Kq12))
                refine wpc_true S rfl ?_
                (refine wp_seq_k ?_; intro Kq13 hKq13)
                refine wp_region_lit ?_
                (refine wpl_v S rfl rfl rfl (sv_pure S rfl) ?_; clear S a; intro a S)
                refine wpList_nil ?_
                (refine hKq13 _ _ ?_; try (clear hKq13 Kq13))
                refine wp_ret ?_
                refine fin_ret S (results1 Tryd.results17 (RV.tmp S rfl)) ?_
                (rw [hck]; refine congrArg _ ?_; first | exact ck_empty (by assumption) | exact ck_zero (by assumption) (by omega) (by assumption) | exact ck_bad (j := i) (by omega) (by rw [isD_iff]; omega) | exact ck_over (by assumption) (by first | (intro; assumption) | (intro; omega)) (all_of_take hall (by omega)) (by omega) | exact ck_ok (by assumption) (by first | (intro; assumption) | (intro; omega)) (all_of_take hall (by omega)) (by omega))
            · (skip; (try simp only [decide_eq_true_eq, decide_eq_false_iff_not, beq_iff_eq, bne_iff_ne, bne_eq_false_iff_eq, beq_eq_false_iff_ne, ne_eq, Bool.not_eq_true', Bool.not_eq_false', Bool.not_eq_true, Bool.not_eq_false, Bool.not_true, Bool.not_false, Int.ofNat_lt, Int.ofNat_le, Nat.not_lt, Nat.not_le] at h))
              refine wp_exit ?_
              (refine hKq7 _ _ ?_; try (clear hKq7 Kq7))
              (refine wp_seq_k ?_; intro Kq11 hKq11)
              (refine wp_seq_k ?_; intro Kq12 hKq12)
              refine wp_region_lit ?_
              (refine wpl_v S rfl rfl rfl (sv_pure S rfl) ?_; clear S a; intro a S)
              (refine wpl_v S rfl rfl rfl (sv_lenS S rfl rfl) ?_; clear S a; intro a S)
              (refine wpl_v S rfl rfl rfl (sv_pure S rfl) ?_; clear S a; intro a S)
              refine wpList_nil ?_
              (refine hKq12 _ _ ?_; try (clear hKq12 Kq12))
              refine wpc_split S rfl (fun h => ?_) (fun h => ?_)
              · (skip; (try simp only [decide_eq_true_eq, decide_eq_false_iff_not, beq_iff_eq, bne_iff_ne, bne_eq_false_iff_eq, beq_eq_false_iff_ne, ne_eq, Bool.not_eq_true', Bool.not_eq_false', Bool.not_eq_true, Bool.not_eq_false, Bool.not_true, Bool.not_false, Int.ofNat_lt, Int.ofNat_le, Nat.not_lt, Nat.not_le] at h))
                (refine wp_seq_k ?_; intro Kq13 hKq13)
                refine wp_region_lit ?_
                (refine wpl_v S rfl rfl rfl (sv_pure S rfl) ?_; clear S a; intro a S)
                refine wpList_nil ?_
                (refine hKq13 _ _ ?_; try (clear hKq13 Kq13))
                refine wp_ret ?_
                refine fin_ret S (results1 Tryd.results17 (RV.tmp S rfl)) ?_
                (rw [hck]; refine congrArg _ ?_; first | exact ck_empty (by assumption) | exact ck_zero (by assumption) (by omega) (by assumption) | exact ck_bad (j := i) (by omega) (by rw [isD_iff]; omega) | exact ck_over (by assumption) (by first | (intro; assumption) | (intro; omega)) (all_of_take hall (by omega)) (by omega) | exact ck_ok (by assumption) (by first | (intro; assumption) | (intro; omega)) (all_of_take hall (by omega)) (by omega))
              · (skip; (try simp only [decide_eq_true_eq, decide_eq_false_iff_not, beq_iff_eq, bne_iff_ne, bne_eq_false_iff_eq, beq_eq_false_iff_ne, ne_eq, Bool.not_eq_true', Bool.not_eq_false', Bool.not_eq_true, Bool.not_eq_false, Bool.not_true, Bool.not_false, Int.ofNat_lt, Int.ofNat_le, Nat.not_lt, Nat.not_le] at h))
                refine wp_skip ?_
                (refine hKq11 _ _ ?_; try (clear hKq11 Kq11))
                (refine wp_seq_k ?_; intro Kq13 hKq13)
                refine wp_region_lit ?_
                (refine wpl_v S rfl rfl rfl (sv_pure S rfl) ?_; clear S a; intro a S)
                refine wpList_nil ?_
                (refine hKq13 _ _ ?_; try (clear hKq13 Kq13))
                refine wp_ret ?_
                refine fin_ret S (results1 Tryd.results17 (RV.tmp S rfl)) ?_
                (rw [hck]; refine congrArg _ ?_; first | exact ck_empty (by assumption) | exact ck_zero (by assumption) (by omega) (by assumption) | exact ck_bad (j := i) (by omega) (by rw [isD_iff]; omega) | exact ck_over (by assumption) (by first | (intro; assumption) | (intro; omega)) (all_of_take hall (by omega)) (by omega) | exact ck_ok (by assumption) (by first | (intro; assumption) | (intro; omega)) (all_of_take hall (by omega)) (by omega))
      · (intro h; clear S a; intro a S; (try simp only [decide_eq_true_eq, decide_eq_false_iff_not, beq_iff_eq, bne_iff_ne, bne_eq_false_iff_eq, beq_eq_false_iff_ne, ne_eq, Bool.not_eq_true', Bool.not_eq_false', Bool.not_eq_true, Bool.not_eq_false, Bool.not_true, Bool.not_false, Int.ofNat_lt, Int.ofNat_le, Nat.not_lt, Nat.not_le] at h))
        (refine wpl_skip S rfl rfl rfl rfl rfl ?_; clear S a; intro a S)
        (refine wpl_skip S rfl rfl rfl rfl rfl ?_; clear S a; intro a S)
        (refine wpl_skip S rfl rfl rfl rfl rfl ?_; clear S a; intro a S)
        (refine wpl_skipU S rfl rfl rfl rfl rfl ?_; clear S a; intro a S)
        (refine wpl_skipU S rfl rfl rfl rfl rfl ?_; clear S a; intro a S)
        (refine wpl_skip S rfl rfl rfl rfl rfl ?_; clear S a; intro a S)
        first | (refine wpl_v S rfl rfl rfl (sv_pure S rfl) ?_; clear S a; intro a S) | (refine wpl_v S rfl rfl rfl (sv_pickB S rfl rfl rfl rfl) ?_; clear S a; intro a S)
        refine wpList_nil ?_
        (refine hKq6 _ _ ?_; try (clear hKq6 Kq6))
        refine wpc_true S rfl ?_
        (refine wp_seq_k ?_; intro Kq7 hKq7)
        refine wp_region_lit ?_
        (refine wpl_v S rfl rfl rfl (sv_pure S rfl) ?_; clear S a; intro a S)
        refine wpList_nil ?_
        (refine hKq7 _ _ ?_; try (clear hKq7 Kq7))
        refine wp_ret ?_
        refine fin_ret S (results1 Tryd.results17 (RV.tmp S rfl)) ?_
        (rw [hck]; refine congrArg _ ?_; first | exact ck_empty (by assumption) | exact ck_zero (by assumption) (by omega) (by assumption) | exact ck_bad (j := i) (by omega) (by rw [isD_iff]; omega) | exact ck_over (by assumption) (by first | (intro; assumption) | (intro; omega)) (all_of_take hall (by omega)) (by omega) | exact ck_ok (by assumption) (by first | (intro; assumption) | (intro; omega)) (all_of_take hall (by omega)) (by omega))
    · (skip; (try simp only [decide_eq_true_eq, decide_eq_false_iff_not, beq_iff_eq, bne_iff_ne, bne_eq_false_iff_eq, beq_eq_false_iff_ne, ne_eq, Bool.not_eq_true', Bool.not_eq_false', Bool.not_eq_true, Bool.not_eq_false, Bool.not_true, Bool.not_false, Int.ofNat_lt, Int.ofNat_le, Nat.not_lt, Nat.not_le] at h))
      refine wp_skip ?_
      (refine hKq3 _ _ ?_; try (clear hKq3 Kq3))
      (refine wp_seq_k ?_; intro Kq5 hKq5)
      (refine wp_seq_k ?_; intro Kq6 hKq6)
      (have hS2 : St 46 [(0, .string (bs s)), (3, .string (bs d))] w0 F [] F [] a w0 := (by first | (rw [← hd, body_yes (by omega) (by omega)]; exact S.keep ⟨rfl, rfl, trivial⟩) | (rw [← hd, body_no (by omega)]; exact S.keep ⟨rfl, rfl, trivial⟩) | (rw [← hd, body_nil (by omega)]; exact S.keep ⟨rfl, rfl, trivial⟩)); clear S; have S := hS2; clear hS2)
      refine wp_region_lit ?_
      (refine wpl_v S rfl rfl rfl (sv_pure S rfl) ?_; clear S a; intro a S)
      (refine wpl_v S rfl rfl rfl (sv_pure S rfl) ?_; clear S a; intro a S)
      (refine wpl_v S rfl rfl rfl (sv_pure S rfl) ?_; clear S a; intro a S)
      refine wpl_guard S rfl rfl rfl rfl rfl ?_ ?_
      · (intro h S'; clear S; have S := S'; clear S'; (try simp only [decide_eq_true_eq, decide_eq_false_iff_not, beq_iff_eq, bne_iff_ne, bne_eq_false_iff_eq, beq_eq_false_iff_ne, ne_eq, Bool.not_eq_true', Bool.not_eq_false', Bool.not_eq_true, Bool.not_eq_false, Bool.not_true, Bool.not_false, Int.ofNat_lt, Int.ofNat_le, Nat.not_lt, Nat.not_le] at h))
        (refine wpl_v S rfl rfl rfl (sv_pure S rfl) ?_; clear S a; intro a S)
        refine wpl_take S rfl rfl rfl ?_
        (have hdl : 0 < d.length := List.length_pos_iff.2 (by assumption)); (refine wpl_v S rfl rfl rfl (sv_indexSN (i := 0) S rfl rfl rfl (by omega)) ?_; clear S a; intro a S)
        refine wpl_take S rfl rfl rfl ?_
        (refine wpl_v S rfl rfl rfl (sv_pure S rfl) ?_; clear S a; intro a S)
        refine wpl_take S rfl rfl rfl ?_
        (refine wpl_v S rfl rfl rfl (sv_pure S rfl) ?_; clear S a; intro a S)
        refine wpl_guard S rfl rfl rfl rfl rfl ?_ ?_
        · (intro h S'; clear S; have S := S'; clear S'; (try simp only [decide_eq_true_eq, decide_eq_false_iff_not, beq_iff_eq, bne_iff_ne, bne_eq_false_iff_eq, beq_eq_false_iff_ne, ne_eq, Bool.not_eq_true', Bool.not_eq_false', Bool.not_eq_true, Bool.not_eq_false, Bool.not_true, Bool.not_false, Int.ofNat_lt, Int.ofNat_le, Nat.not_lt, Nat.not_le] at h))
          (refine wpl_v S rfl rfl rfl (sv_pure S rfl) ?_; clear S a; intro a S)
          refine wpl_take S rfl rfl rfl ?_
          (refine wpl_v S rfl rfl rfl (sv_pure S rfl) ?_; clear S a; intro a S)
          refine wpl_take S rfl rfl rfl ?_
          first | (refine wpl_v S rfl rfl rfl (sv_pure S rfl) ?_; clear S a; intro a S) | (refine wpl_v S rfl rfl rfl (sv_pickB S rfl rfl rfl rfl) ?_; clear S a; intro a S)
          first | (refine wpl_v S rfl rfl rfl (sv_pure S rfl) ?_; clear S a; intro a S) | (refine wpl_v S rfl rfl rfl (sv_pickB S rfl rfl rfl rfl) ?_; clear S a; intro a S)
          refine wpList_nil ?_
          (refine hKq6 _ _ ?_; try (clear hKq6 Kq6))
          refine wpc_split S rfl (fun h => ?_) (fun h => ?_)
          · (skip; (try simp only [decide_eq_true_eq, decide_eq_false_iff_not, beq_iff_eq, bne_iff_ne, bne_eq_false_iff_eq, beq_eq_false_iff_ne, ne_eq, Bool.not_eq_true', Bool.not_eq_false', Bool.not_eq_true, Bool.not_eq_false, Bool.not_true, Bool.not_false, Int.ofNat_lt, Int.ofNat_le, Nat.not_lt, Nat.not_le] at h))
            (refine wp_seq_k ?_; intro Kq7 hKq7)
            refine wp_region_lit ?_
            (refine wpl_v S rfl rfl rfl (sv_pure S rfl) ?_; clear S a; intro a S)
            refine wpList_nil ?_
            (refine hKq7 _ _ ?_; try (clear hKq7 Kq7))
            refine wp_ret ?_
            refine fin_ret S (results1 Tryd.results17 (RV.tmp S rfl)) ?_
            (rw [hck]; refine congrArg _ ?_; first | exact ck_empty (by assumption) | exact ck_zero (by assumption) (by omega) (by assumption) | exact ck_bad (j := i) (by omega) (by rw [isD_iff]; omega) | exact ck_over (by assumption) (by first | (intro; assumption) | (intro; omega)) (all_of_take hall (by omega)) (by omega) | exact ck_ok (by assumption) (by first | (intro; assumption) | (intro; omega)) (all_of_take hall (by omega)) (by omega))
          · (skip; (try simp only [decide_eq_true_eq, decide_eq_false_iff_not, beq_iff_eq, bne_iff_ne, bne_eq_false_iff_eq, beq_eq_false_iff_ne, ne_eq, Bool.not_eq_true', Bool.not_eq_false', Bool.not_eq_true, Bool.not_eq_false, Bool.not_true, Bool.not_false, Int.ofNat_lt, Int.ofNat_le, Nat.not_lt, Nat.not_le] at h))
            refine wp_skip ?_
            (refine hKq5 _ _ ?_; try (clear hKq5 Kq5))
            (refine wp_seq_k ?_; intro Kq7 hKq7)
            (refine wp_seq_k ?_; intro Kq8 hKq8)
            refine wp_region_lit ?_
            (refine wpl_v S rfl rfl rfl (sv_pure S rfl) ?_; clear S a; intro a S)
            refine wpList_nil ?_
            (refine hKq8 _ _ ?_; try (clear hKq8 Kq8))
            refine wp_block ?_
            refine wpc_loop (fun m a w' => ∃ (i : Nat), m = d.length - i ∧ i ≤ d.length ∧ (∀ j, j < i → isD (d.getD j 0) = true) ∧ St 46 [(3, .string (bs d)), (4, .int .i64 i)] w0 F [] F [] a w') ?_ ?_
            · (refine ⟨d.length, 0, rfl, Nat.zero_le _, (fun j hj => absurd hj (by omega)), ?_⟩; refine S.keep ?_; repeat (first | exact trivial | refine ⟨rfl, ?_⟩))
            · (clear S; rintro m a w ⟨i, rfl, hi, hall, S⟩)
              (refine wp_seq_k ?_; intro Kq9 hKq9)
              (refine wp_seq_k ?_; intro Kq10 hKq10)
              refine wp_region_lit ?_
              (refine wpl_v S rfl rfl rfl (sv_pure S rfl) ?_; clear S a; intro a S)
              (refine wpl_v S rfl rfl rfl (sv_pure S rfl) ?_; clear S a; intro a S)
              (refine wpl_v S rfl rfl rfl (sv_lenS S rfl rfl) ?_; clear S a; intro a S)
              (refine wpl_v S rfl rfl rfl (sv_pure S rfl) ?_; clear S a; intro a S)
              refine wpList_nil ?_
              (refine hKq10 _ _ ?_; try (clear hKq10 Kq10))
              refine wpc_split S rfl (fun h => ?_) (fun h => ?_)
              · (skip; (try simp only [decide_eq_true_eq, decide_eq_false_iff_not, beq_iff_eq, bne_iff_ne, bne_eq_false_iff_eq, beq_eq_false_iff_ne, ne_eq, Bool.not_eq_true', Bool.not_eq_false', Bool.not_eq_true, Bool.not_eq_false, Bool.not_true, Bool.not_false, Int.ofNat_lt, Int.ofNat_le, Nat.not_lt, Nat.not_le] at h))
                refine wp_skip ?_
                (refine hKq9 _ _ ?_; try (clear hKq9 Kq9))
                (refine wp_seq_k ?_; intro Kq11 hKq11)
                refine wp_block ?_
                (refine wp_seq_k ?_; intro Kq12 hKq12)
                refine wp_region_lit ?_
                (refine wpl_v S rfl rfl rfl (sv_pure S rfl) ?_; clear S a; intro a S)
                (refine wpl_v S rfl rfl rfl (sv_pure S rfl) ?_; clear S a; intro a S)
                first | (refine wpl_v S rfl rfl rfl (sv_indexSN S rfl rfl rfl (by first | omega | (simp only [List.length_append, List.length_cons, List.length_nil]; omega))) ?_; clear S a; intro a S) | (refine wpl_v S rfl rfl rfl (sv_indexS S rfl rfl rfl (by first | omega | (simp only [List.length_append, List.length_cons, List.length_nil]; omega))) ?_; clear S a; intro a S)
                (refine wpl_v S rfl rfl rfl (sv_pure S rfl) ?_; clear S a; intro a S)
                (refine wpl_v S rfl rfl rfl (sv_pure S rfl) ?_; clear S a; intro a S)
                refine wpl_guard S rfl rfl rfl rfl rfl ?_ ?_
                · (intro h S'; clear S; have S := S'; clear S'; (try simp only [decide_eq_true_eq, decide_eq_false_iff_not, beq_iff_eq, bne_iff_ne, bne_eq_false_iff_eq, beq_eq_false_iff_ne, ne_eq, Bool.not_eq_true', Bool.not_eq_false', Bool.not_eq_true, Bool.not_eq_false, Bool.not_true, Bool.not_false, Int.ofNat_lt, Int.ofNat_le, Nat.not_lt, Nat.not_le] at h))
                  (refine wpl_v S rfl rfl rfl (sv_pure S rfl) ?_; clear S a; intro a S)
                  refine wpl_take S rfl rfl rfl ?_
                  (refine wpl_v S rfl rfl rfl (sv_pure S rfl) ?_; clear S a; intro a S)
                  refine wpl_take S rfl rfl rfl ?_
                  first | (refine wpl_v S rfl rfl rfl (sv_indexSN S rfl rfl rfl (by first | omega | (simp only [List.length_append, List.length_cons, List.length_nil]; omega))) ?_; clear S a; intro a S) | (refine wpl_v S rfl rfl rfl (sv_indexS S rfl rfl rfl (by first | omega | (simp only [List.length_append, List.length_cons, List.length_nil]; omega))) ?_; clear S a; intro a S)
                  refine wpl_take S rfl rfl rfl ?_
                  (refine wpl_v S rfl rfl rfl (sv_pure S rfl) ?_; clear S a; intro a S)
                  first | (refine wpl_v S rfl rfl rfl (sv_pure S rfl) ?_; clear S a; intro a S) | (refine wpl_v S rfl rfl rfl (sv_pickB S rfl rfl rfl rfl) ?_; clear S a; intro a S)
                  refine wpList_nil ?_
                  (refine hKq12 _ _ ?_; try (clear hKq12 Kq12))
                  refine wpc_split S rfl (fun h => ?_) (fun h => ?_)
                  · (skip; (try simp only [decide_eq_true_eq, decide_eq_false_iff_not, beq_iff_eq, bne_iff_ne, bne_eq_false_iff_eq, beq_eq_false_iff_ne, ne_eq, Bool.not_eq_true', Bool.not_eq_false', Bool.not_eq_true, Bool.not_eq_false, Bool.not_true, Bool.not_false, Int.ofNat_lt, Int.ofNat_le, Nat.not_lt, Nat.not_le] at h))
                    (refine wp_seq_k ?_; intro Kq13 hKq13)
                    refine wp_region_lit ?_
                    (refine wpl_v S rfl rfl rfl (sv_pure S rfl) ?_; clear S a; intro a S)
                    refine wpList_nil ?_
                    (refine hKq13 _ _ ?_; try (clear hKq13 Kq13))
                    refine wp_ret ?_
                    refine fin_ret S (results1 Tryd.results17 (RV.tmp S rfl)) ?_
                    (rw [hck]; refine congrArg _ ?_; first | exact ck_empty (by assumption) | exact ck_zero (by assumption) (by omega) (by assumption) | exact ck_bad (j := i) (by omega) (by rw [isD_iff]; omega) | exact ck_over (by assumption) (by first | (intro; assumption) | (intro; omega)) (all_of_take hall (by omega)) (by omega) | exact ck_ok (by assumption) (by first | (intro; assumption) | (intro; omega)) (all_of_take hall (by omega)) (by omega))
                  · (skip; (try simp only [decide_eq_true_eq, decide_eq_false_iff_not, beq_iff_eq, bne_iff_ne, bne_eq_false_iff_eq, beq_eq_false_iff_ne, ne_eq, Bool.not_eq_true', Bool.not_eq_false', Bool.not_eq_true, Bool.not_eq_false, Bool.not_true, Bool.not_false, Int.ofNat_lt, Int.ofNat_le, Nat.not_lt, Nat.not_le] at h))
                    refine wp_skip ?_
                    (refine hKq11 _ _ ?_; try (clear hKq11 Kq11))
                    refine wp_region_lit ?_
                    (refine wpl_v S rfl rfl rfl (sv_pure S rfl) ?_; clear S a; intro a S)
                    (refine wpl_v S rfl rfl rfl (sv_add S rfl rfl rfl (by first | omega | (simp only [List.length_append, List.length_cons, List.length_nil]; omega))) ?_; clear S a; intro a S)
                    (refine wpl_v S rfl rfl rfl (sv_pure S rfl) ?_; clear S a; intro a S)
                    refine wpList_nil ?_
                    change ∃ m', _ ∧ _
                    (refine ⟨d.length - (i + 1), by omega, i + 1, rfl, by omega, ?_, ?_⟩; rotate_left 1; (refine S.keep ?_; repeat (first | exact trivial | refine ⟨rfl, ?_⟩)); intro j hj; rcases Nat.lt_succ_iff_lt_or_eq.1 hj with h9 | h9; exact hall j h9; subst h9; rw [isD_iff]; omega)
                · (intro h; clear S a; intro a S; (try simp only [decide_eq_true_eq, decide_eq_false_iff_not, beq_iff_eq, bne_iff_ne, bne_eq_false_iff_eq, beq_eq_false_iff_ne, ne_eq, Bool.not_eq_true', Bool.not_eq_false', Bool.not_eq_true, Bool.not_eq_false, Bool.not_true, Bool.not_false, Int.ofNat_lt, Int.ofNat_le, Nat.not_lt, Nat.not_le] at h))
                  (refine wpl_skip S rfl rfl rfl rfl rfl ?_; clear S a; intro a S)
                  (refine wpl_skip S rfl rfl rfl rfl rfl ?_; clear S a; intro a S)
                  (refine wpl_skip S rfl rfl rfl rfl rfl ?_; clear S a; intro a S)
                  first | (refine wpl_v S rfl rfl rfl (sv_pure S rfl) ?_; clear S a; intro a S) | (refine wpl_v S rfl rfl rfl (sv_pickB S rfl rfl rfl rfl) ?_; clear S a; intro a S)
                  refine wpList_nil ?_
                  (refine hKq12 _ _ ?_; try (clear hKq12 Kq12))
                  refine wpc_true S rfl ?_
                  (refine wp_seq_k ?_; intro Kq13 hKq13)
                  refine wp_region_lit ?_
                  (refine wpl_v S rfl rfl rfl (sv_pure S rfl) ?_; clear S a; intro a S)
                  refine wpList_nil ?_
                  (refine hKq13 _ _ ?_; try (clear hKq13 Kq13))
                  refine wp_ret ?_
                  refine fin_ret S (results1 Tryd.results17 (RV.tmp S rfl)) ?_
                  (rw [hck]; refine congrArg _ ?_; first | exact ck_empty (by assumption) | exact ck_zero (by assumption) (by omega) (by assumption) | exact ck_bad (j := i) (by omega) (by rw [isD_iff]; omega) | exact ck_over (by assumption) (by first | (intro; assumption) | (intro; omega)) (all_of_take hall (by omega)) (by omega) | exact ck_ok (by assumption) (by first | (intro; assumption) | (intro; omega)) (all_of_take hall (by omega)) (by omega))
              · (skip; (try simp only [decide_eq_true_eq, decide_eq_false_iff_not, beq_iff_eq, bne_iff_ne, bne_eq_false_iff_eq, beq_eq_false_iff_ne, ne_eq, Bool.not_eq_true', Bool.not_eq_false', Bool.not_eq_true, Bool.not_eq_false, Bool.not_true, Bool.not_false, Int.ofNat_lt, Int.ofNat_le, Nat.not_lt, Nat.not_le] at h))
                refine wp_exit ?_
                (refine hKq7 _ _ ?_; try (clear hKq7 Kq7))
                (refine wp_seq_k ?_; intro Kq11 hKq11)
                (refine wp_seq_k ?_; intro Kq12 hKq12)
                refine wp_region_lit ?_
                (refine wpl_v S rfl rfl rfl (sv_pure S rfl) ?_; clear S a; intro a S)
                (refine wpl_v S rfl rfl rfl (sv_lenS S rfl rfl) ?_; clear S a; intro a S)
                (refine wpl_v S rfl rfl rfl (sv_pure S rfl) ?_; clear S a; intro a S)
                refine wpList_nil ?_
                (refine hKq12 _ _ ?_; try (clear hKq12 Kq12))
                refine wpc_split S rfl (fun h => ?_) (fun h => ?_)
                · (skip; (try simp only [decide_eq_true_eq, decide_eq_false_iff_not, beq_iff_eq, bne_iff_ne, bne_eq_false_iff_eq, beq_eq_false_iff_ne, ne_eq, Bool.not_eq_true', Bool.not_eq_false', Bool.not_eq_true, Bool.not_eq_false, Bool.not_true, Bool.not_false, Int.ofNat_lt, Int.ofNat_le, Nat.not_lt, Nat.not_le] at h))
                  (refine wp_seq_k ?_; intro Kq13 hKq13)
                  refine wp_region_lit ?_
                  (refine wpl_v S rfl rfl rfl (sv_pure S rfl) ?_; clear S a; intro a S)
                  refine wpList_nil ?_
                  (refine hKq13 _ _ ?_; try (clear hKq13 Kq13))
                  refine wp_ret ?_
                  refine fin_ret S (results1 Tryd.results17 (RV.tmp S rfl)) ?_
                  (rw [hck]; refine congrArg _ ?_; first | exact ck_empty (by assumption) | exact ck_zero (by assumption) (by omega) (by assumption) | exact ck_bad (j := i) (by omega) (by rw [isD_iff]; omega) | exact ck_over (by assumption) (by first | (intro; assumption) | (intro; omega)) (all_of_take hall (by omega)) (by omega) | exact ck_ok (by assumption) (by first | (intro; assumption) | (intro; omega)) (all_of_take hall (by omega)) (by omega))
                · (skip; (try simp only [decide_eq_true_eq, decide_eq_false_iff_not, beq_iff_eq, bne_iff_ne, bne_eq_false_iff_eq, beq_eq_false_iff_ne, ne_eq, Bool.not_eq_true', Bool.not_eq_false', Bool.not_eq_true, Bool.not_eq_false, Bool.not_true, Bool.not_false, Int.ofNat_lt, Int.ofNat_le, Nat.not_lt, Nat.not_le] at h))
                  refine wp_skip ?_
                  (refine hKq11 _ _ ?_; try (clear hKq11 Kq11))
                  (refine wp_seq_k ?_; intro Kq13 hKq13)
                  refine wp_region_lit ?_
                  (refine wpl_v S rfl rfl rfl (sv_pure S rfl) ?_; clear S a; intro a S)
                  refine wpList_nil ?_
                  (refine hKq13 _ _ ?_; try (clear hKq13 Kq13))
                  refine wp_ret ?_
                  refine fin_ret S (results1 Tryd.results17 (RV.tmp S rfl)) ?_
                  (rw [hck]; refine congrArg _ ?_; first | exact ck_empty (by assumption) | exact ck_zero (by assumption) (by omega) (by assumption) | exact ck_bad (j := i) (by omega) (by rw [isD_iff]; omega) | exact ck_over (by assumption) (by first | (intro; assumption) | (intro; omega)) (all_of_take hall (by omega)) (by omega) | exact ck_ok (by assumption) (by first | (intro; assumption) | (intro; omega)) (all_of_take hall (by omega)) (by omega))
        · (intro h; clear S a; intro a S; (try simp only [decide_eq_true_eq, decide_eq_false_iff_not, beq_iff_eq, bne_iff_ne, bne_eq_false_iff_eq, beq_eq_false_iff_ne, ne_eq, Bool.not_eq_true', Bool.not_eq_false', Bool.not_eq_true, Bool.not_eq_false, Bool.not_true, Bool.not_false, Int.ofNat_lt, Int.ofNat_le, Nat.not_lt, Nat.not_le] at h))
          (refine wpl_skip S rfl rfl rfl rfl rfl ?_; clear S a; intro a S)
          refine wpl_take S rfl rfl rfl ?_
          first | (refine wpl_v S rfl rfl rfl (sv_pure S rfl) ?_; clear S a; intro a S) | (refine wpl_v S rfl rfl rfl (sv_pickB S rfl rfl rfl rfl) ?_; clear S a; intro a S)
          first | (refine wpl_v S rfl rfl rfl (sv_pure S rfl) ?_; clear S a; intro a S) | (refine wpl_v S rfl rfl rfl (sv_pickB S rfl rfl rfl rfl) ?_; clear S a; intro a S)
          refine wpList_nil ?_
          (refine hKq6 _ _ ?_; try (clear hKq6 Kq6))
          refine wpc_false S rfl ?_
          refine wp_skip ?_
          (refine hKq5 _ _ ?_; try (clear hKq5 Kq5))
          (refine wp_seq_k ?_; intro Kq7 hKq7)
          (refine wp_seq_k ?_; intro Kq8 hKq8)
          refine wp_region_lit ?_
          (refine wpl_v S rfl rfl rfl (sv_pure S rfl) ?_; clear S a; intro a S)
          refine wpList_nil ?_
          (refine hKq8 _ _ ?_; try (clear hKq8 Kq8))
          refine wp_block ?_
          refine wpc_loop (fun m a w' => ∃ (i : Nat), m = d.length - i ∧ i ≤ d.length ∧ (∀ j, j < i → isD (d.getD j 0) = true) ∧ St 46 [(3, .string (bs d)), (4, .int .i64 i)] w0 F [] F [] a w') ?_ ?_
          · (refine ⟨d.length, 0, rfl, Nat.zero_le _, (fun j hj => absurd hj (by omega)), ?_⟩; refine S.keep ?_; repeat (first | exact trivial | refine ⟨rfl, ?_⟩))
          · (clear S; rintro m a w ⟨i, rfl, hi, hall, S⟩)
            (refine wp_seq_k ?_; intro Kq9 hKq9)
            (refine wp_seq_k ?_; intro Kq10 hKq10)
            refine wp_region_lit ?_
            (refine wpl_v S rfl rfl rfl (sv_pure S rfl) ?_; clear S a; intro a S)
            (refine wpl_v S rfl rfl rfl (sv_pure S rfl) ?_; clear S a; intro a S)
            (refine wpl_v S rfl rfl rfl (sv_lenS S rfl rfl) ?_; clear S a; intro a S)
            (refine wpl_v S rfl rfl rfl (sv_pure S rfl) ?_; clear S a; intro a S)
            refine wpList_nil ?_
            (refine hKq10 _ _ ?_; try (clear hKq10 Kq10))
            refine wpc_split S rfl (fun h => ?_) (fun h => ?_)
            · (skip; (try simp only [decide_eq_true_eq, decide_eq_false_iff_not, beq_iff_eq, bne_iff_ne, bne_eq_false_iff_eq, beq_eq_false_iff_ne, ne_eq, Bool.not_eq_true', Bool.not_eq_false', Bool.not_eq_true, Bool.not_eq_false, Bool.not_true, Bool.not_false, Int.ofNat_lt, Int.ofNat_le, Nat.not_lt, Nat.not_le] at h))
              refine wp_skip ?_
              (refine hKq9 _ _ ?_; try (clear hKq9 Kq9))
              (refine wp_seq_k ?_; intro Kq11 hKq11)
              refine wp_block ?_
              (refine wp_seq_k ?_; intro Kq12 hKq12)
              refine wp_region_lit ?_
              (refine wpl_v S rfl rfl rfl (sv_pure S rfl) ?_; clear S a; intro a S)
              (refine wpl_v S rfl rfl rfl (sv_pure S rfl) ?_; clear S a; intro a S)
              first | (refine wpl_v S rfl rfl rfl (sv_indexSN S rfl rfl rfl (by first | omega | (simp only [List.length_append, List.length_cons, List.length_nil]; omega))) ?_; clear S a; intro a S) | (refine wpl_v S rfl rfl rfl (sv_indexS S rfl rfl rfl (by first | omega | (simp only [List.length_append, List.length_cons, List.length_nil]; omega))) ?_; clear S a; intro a S)
              (refine wpl_v S rfl rfl rfl (sv_pure S rfl) ?_; clear S a; intro a S)
              (refine wpl_v S rfl rfl rfl (sv_pure S rfl) ?_; clear S a; intro a S)
              refine wpl_guard S rfl rfl rfl rfl rfl ?_ ?_
              · (intro h S'; clear S; have S := S'; clear S'; (try simp only [decide_eq_true_eq, decide_eq_false_iff_not, beq_iff_eq, bne_iff_ne, bne_eq_false_iff_eq, beq_eq_false_iff_ne, ne_eq, Bool.not_eq_true', Bool.not_eq_false', Bool.not_eq_true, Bool.not_eq_false, Bool.not_true, Bool.not_false, Int.ofNat_lt, Int.ofNat_le, Nat.not_lt, Nat.not_le] at h))
                (refine wpl_v S rfl rfl rfl (sv_pure S rfl) ?_; clear S a; intro a S)
                refine wpl_take S rfl rfl rfl ?_
                (refine wpl_v S rfl rfl rfl (sv_pure S rfl) ?_; clear S a; intro a S)
                refine wpl_take S rfl rfl rfl ?_
                first | (refine wpl_v S rfl rfl rfl (sv_indexSN S rfl rfl rfl (by first | omega | (simp only [List.length_append, List.length_cons, List.length_nil]; omega))) ?_; clear S a; intro a S) | (refine wpl_v S rfl rfl rfl (sv_indexS S rfl rfl rfl (by first | omega | (simp only [List.length_append, List.length_cons, List.length_nil]; omega))) ?_; clear S a; intro a S)
                refine wpl_take S rfl rfl rfl ?_
                (refine wpl_v S rfl rfl rfl (sv_pure S rfl) ?_; clear S a; intro a S)
                first | (refine wpl_v S rfl rfl rfl (sv_pure S rfl) ?_; clear S a; intro a S) | (refine wpl_v S rfl rfl rfl (sv_pickB S rfl rfl rfl rfl) ?_; clear S a; intro a S)
                refine wpList_nil ?_
                (refine hKq12 _ _ ?_; try (clear hKq12 Kq12))
                refine wpc_split S rfl (fun h => ?_) (fun h => ?_)
                · (skip; (try simp only [decide_eq_true_eq, decide_eq_false_iff_not, beq_iff_eq, bne_iff_ne, bne_eq_false_iff_eq, beq_eq_false_iff_ne, ne_eq, Bool.not_eq_true', Bool.not_eq_false', Bool.not_eq_true, Bool.not_eq_false, Bool.not_true, Bool.not_false, Int.ofNat_lt, Int.ofNat_le, Nat.not_lt, Nat.not_le] at h))
                  (refine wp_seq_k ?_; intro Kq13 hKq13)
                  refine wp_region_lit ?_
                  (refine wpl_v S rfl rfl rfl (sv_pure S rfl) ?_; clear S a; intro a S)
                  refine wpList_nil ?_
                  (refine hKq13 _ _ ?_; try (clear hKq13 Kq13))
                  refine wp_ret ?_
                  refine fin_ret S (results1 Tryd.results17 (RV.tmp S rfl)) ?_
                  (rw [hck]; refine congrArg _ ?_; first | exact ck_empty (by assumption) | exact ck_zero (by assumption) (by omega) (by assumption) | exact ck_bad (j := i) (by omega) (by rw [isD_iff]; omega) | exact ck_over (by assumption) (by first | (intro; assumption) | (intro; omega)) (all_of_take hall (by omega)) (by omega) | exact ck_ok (by assumption) (by first | (intro; assumption) | (intro; omega)) (all_of_take hall (by omega)) (by omega))
                · (skip; (try simp only [decide_eq_true_eq, decide_eq_false_iff_not, beq_iff_eq, bne_iff_ne, bne_eq_false_iff_eq, beq_eq_false_iff_ne, ne_eq, Bool.not_eq_true', Bool.not_eq_false', Bool.not_eq_true, Bool.not_eq_false, Bool.not_true, Bool.not_false, Int.ofNat_lt, Int.ofNat_le, Nat.not_lt, Nat.not_le] at h))
                  refine wp_skip ?_
                  (refine hKq11 _ _ ?_; try (clear hKq11 Kq11))
                  refine wp_region_lit ?_
                  (refine wpl_v S rfl rfl rfl (sv_pure S rfl) ?_; clear S a; intro a S)
                  (refine wpl_v S rfl rfl rfl (sv_add S rfl rfl rfl (by first | omega | (simp only [List.length_append, List.length_cons, List.length_nil]; omega))) ?_; clear S a; intro a S)
                  (refine wpl_v S rfl rfl rfl (sv_pure S rfl) ?_; clear S a; intro a S)
                  refine wpList_nil ?_
                  change ∃ m', _ ∧ _
                  (refine ⟨d.length - (i + 1), by omega, i + 1, rfl, by omega, ?_, ?_⟩; rotate_left 1; (refine S.keep ?_; repeat (first | exact trivial | refine ⟨rfl, ?_⟩)); intro j hj; rcases Nat.lt_succ_iff_lt_or_eq.1 hj with h9 | h9; exact hall j h9; subst h9; rw [isD_iff]; omega)
              · (intro h; clear S a; intro a S; (try simp only [decide_eq_true_eq, decide_eq_false_iff_not, beq_iff_eq, bne_iff_ne, bne_eq_false_iff_eq, beq_eq_false_iff_ne, ne_eq, Bool.not_eq_true', Bool.not_eq_false', Bool.not_eq_true, Bool.not_eq_false, Bool.not_true, Bool.not_false, Int.ofNat_lt, Int.ofNat_le, Nat.not_lt, Nat.not_le] at h))
                (refine wpl_skip S rfl rfl rfl rfl rfl ?_; clear S a; intro a S)
                (refine wpl_skip S rfl rfl rfl rfl rfl ?_; clear S a; intro a S)
                (refine wpl_skip S rfl rfl rfl rfl rfl ?_; clear S a; intro a S)
                first | (refine wpl_v S rfl rfl rfl (sv_pure S rfl) ?_; clear S a; intro a S) | (refine wpl_v S rfl rfl rfl (sv_pickB S rfl rfl rfl rfl) ?_; clear S a; intro a S)
                refine wpList_nil ?_
                (refine hKq12 _ _ ?_; try (clear hKq12 Kq12))
                refine wpc_true S rfl ?_
                (refine wp_seq_k ?_; intro Kq13 hKq13)
                refine wp_region_lit ?_
                (refine wpl_v S rfl rfl rfl (sv_pure S rfl) ?_; clear S a; intro a S)
                refine wpList_nil ?_
                (refine hKq13 _ _ ?_; try (clear hKq13 Kq13))
                refine wp_ret ?_
                refine fin_ret S (results1 Tryd.results17 (RV.tmp S rfl)) ?_
                (rw [hck]; refine congrArg _ ?_; first | exact ck_empty (by assumption) | exact ck_zero (by assumption) (by omega) (by assumption) | exact ck_bad (j := i) (by omega) (by rw [isD_iff]; omega) | exact ck_over (by assumption) (by first | (intro; assumption) | (intro; omega)) (all_of_take hall (by omega)) (by omega) | exact ck_ok (by assumption) (by first | (intro; assumption) | (intro; omega)) (all_of_take hall (by omega)) (by omega))
            · (skip; (try simp only [decide_eq_true_eq, decide_eq_false_iff_not, beq_iff_eq, bne_iff_ne, bne_eq_false_iff_eq, beq_eq_false_iff_ne, ne_eq, Bool.not_eq_true', Bool.not_eq_false', Bool.not_eq_true, Bool.not_eq_false, Bool.not_true, Bool.not_false, Int.ofNat_lt, Int.ofNat_le, Nat.not_lt, Nat.not_le] at h))
              refine wp_exit ?_
              (refine hKq7 _ _ ?_; try (clear hKq7 Kq7))
              (refine wp_seq_k ?_; intro Kq11 hKq11)
              (refine wp_seq_k ?_; intro Kq12 hKq12)
              refine wp_region_lit ?_
              (refine wpl_v S rfl rfl rfl (sv_pure S rfl) ?_; clear S a; intro a S)
              (refine wpl_v S rfl rfl rfl (sv_lenS S rfl rfl) ?_; clear S a; intro a S)
              (refine wpl_v S rfl rfl rfl (sv_pure S rfl) ?_; clear S a; intro a S)
              refine wpList_nil ?_
              (refine hKq12 _ _ ?_; try (clear hKq12 Kq12))
              refine wpc_split S rfl (fun h => ?_) (fun h => ?_)
              · (skip; (try simp only [decide_eq_true_eq, decide_eq_false_iff_not, beq_iff_eq, bne_iff_ne, bne_eq_false_iff_eq, beq_eq_false_iff_ne, ne_eq, Bool.not_eq_true', Bool.not_eq_false', Bool.not_eq_true, Bool.not_eq_false, Bool.not_true, Bool.not_false, Int.ofNat_lt, Int.ofNat_le, Nat.not_lt, Nat.not_le] at h))
                (refine wp_seq_k ?_; intro Kq13 hKq13)
                refine wp_region_lit ?_
                (refine wpl_v S rfl rfl rfl (sv_pure S rfl) ?_; clear S a; intro a S)
                refine wpList_nil ?_
                (refine hKq13 _ _ ?_; try (clear hKq13 Kq13))
                refine wp_ret ?_
                refine fin_ret S (results1 Tryd.results17 (RV.tmp S rfl)) ?_
                (rw [hck]; refine congrArg _ ?_; first | exact ck_empty (by assumption) | exact ck_zero (by assumption) (by omega) (by assumption) | exact ck_bad (j := i) (by omega) (by rw [isD_iff]; omega) | exact ck_over (by assumption) (by first | (intro; assumption) | (intro; omega)) (all_of_take hall (by omega)) (by omega) | exact ck_ok (by assumption) (by first | (intro; assumption) | (intro; omega)) (all_of_take hall (by omega)) (by omega))
              · (skip; (try simp only [decide_eq_true_eq, decide_eq_false_iff_not, beq_iff_eq, bne_iff_ne, bne_eq_false_iff_eq, beq_eq_false_iff_ne, ne_eq, Bool.not_eq_true', Bool.not_eq_false', Bool.not_eq_true, Bool.not_eq_false, Bool.not_true, Bool.not_false, Int.ofNat_lt, Int.ofNat_le, Nat.not_lt, Nat.not_le] at h))
                refine wp_skip ?_
                (refine hKq11 _ _ ?_; try (clear hKq11 Kq11))
                (refine wp_seq_k ?_; intro Kq13 hKq13)
                refine wp_region_lit ?_
                (refine wpl_v S rfl rfl rfl (sv_pure S rfl) ?_; clear S a; intro a S)
                refine wpList_nil ?_
                (refine hKq13 _ _ ?_; try (clear hKq13 Kq13))
                refine wp_ret ?_
                refine fin_ret S (results1 Tryd.results17 (RV.tmp S rfl)) ?_
                (rw [hck]; refine congrArg _ ?_; first | exact ck_empty (by assumption) | exact ck_zero (by assumption) (by omega) (by assumption) | exact ck_bad (j := i) (by omega) (by rw [isD_iff]; omega) | exact ck_over (by assumption) (by first | (intro; assumption) | (intro; omega)) (all_of_take hall (by omega)) (by omega) | exact ck_ok (by assumption) (by first | (intro; assumption) | (intro; omega)) (all_of_take hall (by omega)) (by omega))
      · (intro h; clear S a; intro a S; (try simp only [decide_eq_true_eq, decide_eq_false_iff_not, beq_iff_eq, bne_iff_ne, bne_eq_false_iff_eq, beq_eq_false_iff_ne, ne_eq, Bool.not_eq_true', Bool.not_eq_false', Bool.not_eq_true, Bool.not_eq_false, Bool.not_true, Bool.not_false, Int.ofNat_lt, Int.ofNat_le, Nat.not_lt, Nat.not_le] at h))
        (refine wpl_skip S rfl rfl rfl rfl rfl ?_; clear S a; intro a S)
        (refine wpl_skip S rfl rfl rfl rfl rfl ?_; clear S a; intro a S)
        (refine wpl_skip S rfl rfl rfl rfl rfl ?_; clear S a; intro a S)
        (refine wpl_skipU S rfl rfl rfl rfl rfl ?_; clear S a; intro a S)
        (refine wpl_skipU S rfl rfl rfl rfl rfl ?_; clear S a; intro a S)
        (refine wpl_skip S rfl rfl rfl rfl rfl ?_; clear S a; intro a S)
        first | (refine wpl_v S rfl rfl rfl (sv_pure S rfl) ?_; clear S a; intro a S) | (refine wpl_v S rfl rfl rfl (sv_pickB S rfl rfl rfl rfl) ?_; clear S a; intro a S)
        refine wpList_nil ?_
        (refine hKq6 _ _ ?_; try (clear hKq6 Kq6))
        refine wpc_true S rfl ?_
        (refine wp_seq_k ?_; intro Kq7 hKq7)
        refine wp_region_lit ?_
        (refine wpl_v S rfl rfl rfl (sv_pure S rfl) ?_; clear S a; intro a S)
        refine wpList_nil ?_
        (refine hKq7 _ _ ?_; try (clear hKq7 Kq7))
        refine wp_ret ?_
        refine fin_ret S (results1 Tryd.results17 (RV.tmp S rfl)) ?_
        (rw [hck]; refine congrArg _ ?_; first | exact ck_empty (by assumption) | exact ck_zero (by assumption) (by omega) (by assumption) | exact ck_bad (j := i) (by omega) (by rw [isD_iff]; omega) | exact ck_over (by assumption) (by first | (intro; assumption) | (intro; omega)) (all_of_take hall (by omega)) (by omega) | exact ck_ok (by assumption) (by first | (intro; assumption) | (intro; omega)) (all_of_take hall (by omega)) (by omega))
  · (intro h; clear S a; intro a S; (try simp only [decide_eq_true_eq, decide_eq_false_iff_not, beq_iff_eq, bne_iff_ne, bne_eq_false_iff_eq, beq_eq_false_iff_ne, ne_eq, Bool.not_eq_true', Bool.not_eq_false', Bool.not_eq_true, Bool.not_eq_false, Bool.not_true, Bool.not_false, Int.ofNat_lt, Int.ofNat_le, Nat.not_lt, Nat.not_le] at h))
    (refine wpl_skip S rfl rfl rfl rfl rfl ?_; clear S a; intro a S)
    (refine wpl_skip S rfl rfl rfl rfl rfl ?_; clear S a; intro a S)
    first | (refine wpl_v S rfl rfl rfl (sv_pure S rfl) ?_; clear S a; intro a S) | (refine wpl_v S rfl rfl rfl (sv_pickB S rfl rfl rfl rfl) ?_; clear S a; intro a S)
    refine wpList_nil ?_
    (refine hKq4 _ _ ?_; try (clear hKq4 Kq4))
    refine wpc_false S rfl ?_
    refine wp_skip ?_
    (refine hKq3 _ _ ?_; try (clear hKq3 Kq3))
    (refine wp_seq_k ?_; intro Kq5 hKq5)
    (refine wp_seq_k ?_; intro Kq6 hKq6)
    (have hS2 : St 46 [(0, .string (bs s)), (3, .string (bs d))] w0 F [] F [] a w0 := (by first | (rw [← hd, body_yes (by omega) (by omega)]; exact S.keep ⟨rfl, rfl, trivial⟩) | (rw [← hd, body_no (by omega)]; exact S.keep ⟨rfl, rfl, trivial⟩) | (rw [← hd, body_nil (by omega)]; exact S.keep ⟨rfl, rfl, trivial⟩)); clear S; have S := hS2; clear hS2)
    refine wp_region_lit ?_
    (refine wpl_v S rfl rfl rfl (sv_pure S rfl) ?_; clear S a; intro a S)
    (refine wpl_v S rfl rfl rfl (sv_pure S rfl) ?_; clear S a; intro a S)
    (refine wpl_v S rfl rfl rfl (sv_pure S rfl) ?_; clear S a; intro a S)
    refine wpl_guard S rfl rfl rfl rfl rfl ?_ ?_
    · (intro h S'; clear S; have S := S'; clear S'; (try simp only [decide_eq_true_eq, decide_eq_false_iff_not, beq_iff_eq, bne_iff_ne, bne_eq_false_iff_eq, beq_eq_false_iff_ne, ne_eq, Bool.not_eq_true', Bool.not_eq_false', Bool.not_eq_true, Bool.not_eq_false, Bool.not_true, Bool.not_false, Int.ofNat_lt, Int.ofNat_le, Nat.not_lt, Nat.not_le] at h))
      (refine wpl_v S rfl rfl rfl (sv_pure S rfl) ?_; clear S a; intro a S)
      refine wpl_take S rfl rfl rfl ?_
      (have hdl : 0 < d.length := List.length_pos_iff.2 (by assumption)); (refine wpl_v S rfl rfl rfl (sv_indexSN (i := 0) S rfl rfl rfl (by omega)) ?_; clear S a; intro a S)
      refine wpl_take S rfl rfl rfl ?_
      (refine wpl_v S rfl rfl rfl (sv_pure S rfl) ?_; clear S a; intro a S)
      refine wpl_take S rfl rfl rfl ?_
      (refine wpl_v S rfl rfl rfl (sv_pure S rfl) ?_; clear S a; intro a S)
      refine wpl_guard S rfl rfl rfl rfl rfl ?_ ?_
      · (intro h S'; clear S; have S := S'; clear S'; (try simp only [decide_eq_true_eq, decide_eq_false_iff_not, beq_iff_eq, bne_iff_ne, bne_eq_false_iff_eq, beq_eq_false_iff_ne, ne_eq, Bool.not_eq_true', Bool.not_eq_false', Bool.not_eq_true, Bool.not_eq_false, Bool.not_true, Bool.not_false, Int.ofNat_lt, Int.ofNat_le, Nat.not_lt, Nat.not_le] at h))
        (refine wpl_v S rfl rfl rfl (sv_pure S rfl) ?_; clear S a; intro a S)
        refine wpl_take S rfl rfl rfl ?_
        (refine wpl_v S rfl rfl rfl (sv_pure S rfl) ?_; clear S a; intro a S)
        refine wpl_take S rfl rfl rfl ?_
        first | (refine wpl_v S rfl rfl rfl (sv_pure S rfl) ?_; clear S a; intro a S) | (refine wpl_v S rfl rfl rfl (sv_pickB S rfl rfl rfl rfl) ?_; clear S a; intro a S)
        first | (refine wpl_v S rfl rfl rfl (sv_pure S rfl) ?_; clear S a; intro a S) | (refine wpl_v S rfl rfl rfl (sv_pickB S rfl rfl rfl rfl) ?_; clear S a; intro a S)
        refine wpList_nil ?_
        (refine hKq6 _ _ ?_; try (clear hKq6 Kq6))
        refine wpc_split S rfl (fun h => ?_) (fun h => ?_)
        · (skip; (try simp only [decide_eq_true_eq, decide_eq_false_iff_not, beq_iff_eq, bne_iff_ne, bne_eq_false_iff_eq, beq_eq_false_iff_ne, ne_eq, Bool.not_eq_true', Bool.not_eq_false', Bool.not_eq_true, Bool.not_eq_false, Bool.not_true, Bool.not_false, Int.ofNat_lt, Int.ofNat_le, Nat.not_lt, Nat.not_le] at h))
          (refine wp_seq_k ?_; intro Kq7 hKq7)
          refine wp_region_lit ?_
          (refine wpl_v S rfl rfl rfl (sv_pure S rfl) ?_; clear S a; intro a S)
          refine wpList_nil ?_
          (refine hKq7 _ _ ?_; try (clear hKq7 Kq7))
          refine wp_ret ?_
          refine fin_ret S (results1 Tryd.results17 (RV.tmp S rfl)) ?_
          (rw [hck]; refine congrArg _ ?_; first | exact ck_empty (by assumption) | exact ck_zero (by assumption) (by omega) (by assumption) | exact ck_bad (j := i) (by omega) (by rw [isD_iff]; omega) | exact ck_over (by assumption) (by first | (intro; assumption) | (intro; omega)) (all_of_take hall (by omega)) (by omega) | exact ck_ok (by assumption) (by first | (intro; assumption) | (intro; omega)) (all_of_take hall (by omega)) (by omega))
        · (skip; (try simp only [decide_eq_true_eq, decide_eq_false_iff_not, beq_iff_eq, bne_iff_ne, bne_eq_false_iff_eq, beq_eq_false_iff_ne, ne_eq, Bool.not_eq_true', Bool.not_eq_false', Bool.not_eq_true, Bool.not_eq_false, Bool.not_true, Bool.not_false, Int.ofNat_lt, Int.ofNat_le, Nat.not_lt, Nat.not_le] at h))
          refine wp_skip ?_
          (refine hKq5 _ _ ?_; try (clear hKq5 Kq5))
          (refine wp_seq_k ?_; intro Kq7 hKq7)
          (refine wp_seq_k ?_; intro Kq8 hKq8)
          refine wp_region_lit ?_
          (refine wpl_v S rfl rfl rfl (sv_pure S rfl) ?_; clear S a; intro a S)
          refine wpList_nil ?_
          (refine hKq8 _ _ ?_; try (clear hKq8 Kq8))
          refine wp_block ?_
          refine wpc_loop (fun m a w' => ∃ (i : Nat), m = d.length - i ∧ i ≤ d.length ∧ (∀ j, j < i → isD (d.getD j 0) = true) ∧ St 46 [(3, .string (bs d)), (4, .int .i64 i)] w0 F [] F [] a w') ?_ ?_
          · (refine ⟨d.length, 0, rfl, Nat.zero_le _, (fun j hj => absurd hj (by omega)), ?_⟩; refine S.keep ?_; repeat (first | exact trivial | refine ⟨rfl, ?_⟩))
          · (clear S; rintro m a w ⟨i, rfl, hi, hall, S⟩)
            (refine wp_seq_k ?_; intro Kq9 hKq9)
            (refine wp_seq_k ?_; intro Kq10 hKq10)
            refine wp_region_lit ?_
            (refine wpl_v S rfl rfl rfl (sv_pure S rfl) ?_; clear S a; intro a S)
            (refine wpl_v S rfl rfl rfl (sv_pure S rfl) ?_; clear S a; intro a S)
            (refine wpl_v S rfl rfl rfl (sv_lenS S rfl rfl) ?_; clear S a; intro a S)
            (refine wpl_v S rfl rfl rfl (sv_pure S rfl) ?_; clear S a; intro a S)
            refine wpList_nil ?_
            (refine hKq10 _ _ ?_; try (clear hKq10 Kq10))
            refine wpc_split S rfl (fun h => ?_) (fun h => ?_)
            · (skip; (try simp only [decide_eq_true_eq, decide_eq_false_iff_not, beq_iff_eq, bne_iff_ne, bne_eq_false_iff_eq, beq_eq_false_iff_ne, ne_eq, Bool.not_eq_true', Bool.not_eq_false', Bool.not_eq_true, Bool.not_eq_false, Bool.not_true, Bool.not_false, Int.ofNat_lt, Int.ofNat_le, Nat.not_lt, Nat.not_le] at h))
              refine wp_skip ?_
              (refine hKq9 _ _ ?_; try (clear hKq9 Kq9))
              (refine wp_seq_k ?_; intro Kq11 hKq11)
              refine wp_block ?_
              (refine wp_seq_k ?_; intro Kq12 hKq12)
              refine wp_region_lit ?_
              (refine wpl_v S rfl rfl rfl (sv_pure S rfl) ?_; clear S a; intro a S)
              (refine wpl_v S rfl rfl rfl (sv_pure S rfl) ?_; clear S a; intro a S)
              first | (refine wpl_v S rfl rfl rfl (sv_indexSN S rfl rfl rfl (by first | omega | (simp only [List.length_append, List.length_cons, List.length_nil]; omega))) ?_; clear S a; intro a S) | (refine wpl_v S rfl rfl rfl (sv_indexS S rfl rfl rfl (by first | omega | (simp only [List.length_append, List.length_cons, List.length_nil]; omega))) ?_; clear S a; intro a S)
              (refine wpl_v S rfl rfl rfl (sv_pure S rfl) ?_; clear S a; intro a S)
              (refine wpl_v S rfl rfl rfl (sv_pure S rfl) ?_; clear S a; intro a S)
              refine wpl_guard S rfl rfl rfl rfl rfl ?_ ?_
              · (intro h S'; clear S; have S := S'; clear S'; (try simp only [decide_eq_true_eq, decide_eq_false_iff_not, beq_iff_eq, bne_iff_ne, bne_eq_false_iff_eq, beq_eq_false_iff_ne, ne_eq, Bool.not_eq_true', Bool.not_eq_false', Bool.not_eq_true, Bool.not_eq_false, Bool.not_true, Bool.not_false, Int.ofNat_lt, Int.ofNat_le, Nat.not_lt, Nat.not_le] at h))
                (refine wpl_v S rfl rfl rfl (sv_pure S rfl) ?_; clear S a; intro a S)
                refine wpl_take S rfl rfl rfl ?_
                (refine wpl_v S rfl rfl rfl (sv_pure S rfl) ?_; clear S a; intro a S)
                refine wpl_take S rfl rfl rfl ?_
                first | (refine wpl_v S rfl rfl rfl (sv_indexSN S rfl rfl rfl (by first | omega | (simp only [List.length_append, List.length_cons, List.length_nil]; omega))) ?_; clear S a; intro a S) | (refine wpl_v S rfl rfl rfl (sv_indexS S rfl rfl rfl (by first | omega | (simp only [List.length_append, List.length_cons, List.length_nil]; omega))) ?_; clear S a; intro a S)
                refine wpl_take S rfl rfl rfl ?_
                (refine wpl_v S rfl rfl rfl (sv_pure S rfl) ?_; clear S a; intro a S)
                first | (refine wpl_v S rfl rfl rfl (sv_pure S rfl) ?_; clear S a; intro a S) | (refine wpl_v S rfl rfl rfl (sv_pickB S rfl rfl rfl rfl) ?_; clear S a; intro a S)
                refine wpList_nil ?_
                (refine hKq12 _ _ ?_; try (clear hKq12 Kq12))
                refine wpc_split S rfl (fun h => ?_) (fun h => ?_)
                · (skip; (try simp only [decide_eq_true_eq, decide_eq_false_iff_not, beq_iff_eq, bne_iff_ne, bne_eq_false_iff_eq, beq_eq_false_iff_ne, ne_eq, Bool.not_eq_true', Bool.not_eq_false', Bool.not_eq_true, Bool.not_eq_false, Bool.not_true, Bool.not_false, Int.ofNat_lt, Int.ofNat_le, Nat.not_lt, Nat.not_le] at h))
                  (refine wp_seq_k ?_; intro Kq13 hKq13)
                  refine wp_region_lit ?_
                  (refine wpl_v S rfl rfl rfl (sv_pure S rfl) ?_; clear S a; intro a S)
                  refine wpList_nil ?_
                  (refine hKq13 _ _ ?_; try (clear hKq13 Kq13))
                  refine wp_ret ?_
                  refine fin_ret S (results1 Tryd.results17 (RV.tmp S rfl)) ?_
                  (rw [hck]; refine congrArg _ ?_; first | exact ck_empty (by assumption) | exact ck_zero (by assumption) (by omega) (by assumption) | exact ck_bad (j := i) (by omega) (by rw [isD_iff]; omega) | exact ck_over (by assumption) (by first | (intro; assumption) | (intro; omega)) (all_of_take hall (by omega)) (by omega) | exact ck_ok (by assumption) (by first | (intro; assumption) | (intro; omega)) (all_of_take hall (by omega)) (by omega))
                · (skip; (try simp only [decide_eq_true_eq, decide_eq_false_iff_not, beq_iff_eq, bne_iff_ne, bne_eq_false_iff_eq, beq_eq_false_iff_ne, ne_eq, Bool.not_eq_true', Bool.not_eq_false', Bool.not_eq_true, Bool.not_eq_false, Bool.not_true, Bool.not_false, Int.ofNat_lt, Int.ofNat_le, Nat.not_lt, Nat.not_le] at h))
                  refine wp_skip ?_
                  (refine hKq11 _ _ ?_; try (clear hKq11 Kq11))
                  refine wp_region_lit ?_
                  (refine wpl_v S rfl rfl rfl (sv_pure S rfl) ?_; clear S a; intro a S)
                  (refine wpl_v S rfl rfl rfl (sv_add S rfl rfl rfl (by first | omega | (simp only [List.length_append, List.length_cons, List.length_nil]; omega))) ?_; clear S a; intro a S)
                  (refine wpl_v S rfl rfl rfl (sv_pure S rfl) ?_; clear S a; intro a S)
                  refine wpList_nil ?_
                  change ∃ m', _ ∧ _
                  (refine ⟨d.length - (i + 1), by omega, i + 1, rfl, by omega, ?_, ?_⟩; rotate_left 1; (refine S.keep ?_; repeat (first | exact trivial | refine ⟨rfl, ?_⟩)); intro j hj; rcases Nat.lt_succ_iff_lt_or_eq.1 hj with h9 | h9; exact hall j h9; subst h9; rw [isD_iff]; omega)
              · (intro h; clear S a; intro a S; (try simp only [decide_eq_true_eq, decide_eq_false_iff_not, beq_iff_eq, bne_iff_ne, bne_eq_false_iff_eq, beq_eq_false_iff_ne, ne_eq, Bool.not_eq_true', Bool.not_eq_false', Bool.not_eq_true, Bool.not_eq_false, Bool.not_true, Bool.not_false, Int.ofNat_lt, Int.ofNat_le, Nat.not_lt, Nat.not_le] at h))
                (refine wpl_skip S rfl rfl rfl rfl rfl ?_; clear S a; intro a S)
                (refine wpl_skip S rfl rfl rfl rfl rfl ?_; clear S a; intro a S)
                (refine wpl_skip S rfl rfl rfl rfl rfl ?_; clear S a; intro a S)
                first | (refine wpl_v S rfl rfl rfl (sv_pure S rfl) ?_; clear S a; intro a S) | (refine wpl_v S rfl rfl rfl (sv_pickB S rfl rfl rfl rfl) ?_; clear S a; intro a S)
                refine wpList_nil ?_
                (refine hKq12 _ _ ?_; try (clear hKq12 Kq12))
                refine wpc_true S rfl ?_
                (refine wp_seq_k ?_; intro Kq13 hKq13)
                refine wp_region_lit ?_
                (refine wpl_v S rfl rfl rfl (sv_pure S rfl) ?_; clear S a; intro a S)
                refine wpList_nil ?_
                (refine hKq13 _ _ ?_; try (clear hKq13 Kq13))
                refine wp_ret ?_
                refine fin_ret S (results1 Tryd.results17 (RV.tmp S rfl)) ?_
                (rw [hck]; refine congrArg _ ?_; first | exact ck_empty (by assumption) | exact ck_zero (by assumption) (by omega) (by assumption) | exact ck_bad (j := i) (by omega) (by rw [isD_iff]; omega) | exact ck_over (by assumption) (by first | (intro; assumption) | (intro; omega)) (all_of_take hall (by omega)) (by omega) | exact ck_ok (by assumption) (by first | (intro; assumption) | (intro; omega)) (all_of_take hall (by omega)) (by omega))
            · (skip; (try simp only [decide_eq_true_eq, decide_eq_false_iff_not, beq_iff_eq, bne_iff_ne, bne_eq_false_iff_eq, beq_eq_false_iff_ne, ne_eq, Bool.not_eq_true', Bool.not_eq_false', Bool.not_eq_true, Bool.not_eq_false, Bool.not_true, Bool.not_false, Int.ofNat_lt, Int.ofNat_le, Nat.not_lt, Nat.not_le] at h))
              refine wp_exit ?_
              (refine hKq7 _ _ ?_; try (clear hKq7 Kq7))
              (refine wp_seq_k ?_; intro Kq11 hKq11)
              (refine wp_seq_k ?_; intro Kq12 hKq12)
              refine wp_region_lit ?_
              (refine wpl_v S rfl rfl rfl (sv_pure S rfl) ?_; clear S a; intro a S)
              (refine wpl_v S rfl rfl rfl (sv_lenS S rfl rfl) ?_; clear S a; intro a S)
              (refine wpl_v S rfl rfl rfl (sv_pure S rfl) ?_; clear S a; intro a S)
              refine wpList_nil ?_
              (refine hKq12 _ _ ?_; try (clear hKq12 Kq12))
              refine wpc_split S rfl (fun h => ?_) (fun h => ?_)
              · (skip; (try simp only [decide_eq_true_eq, decide_eq_false_iff_not, beq_iff_eq, bne_iff_ne, bne_eq_false_iff_eq, beq_eq_false_iff_ne, ne_eq, Bool.not_eq_true', Bool.not_eq_false', Bool.not_eq_true, Bool.not_eq_false, Bool.not_true, Bool.not_false, Int.ofNat_lt, Int.ofNat_le, Nat.not_lt, Nat.not_le] at h))
                (refine wp_seq_k ?_; intro Kq13 hKq13)
                refine wp_region_lit ?_
                (refine wpl_v S rfl rfl rfl (sv_pure S rfl) ?_; clear S a; intro a S)
                refine wpList_nil ?_
                (refine hKq13 _ _ ?_; try (clear hKq13 Kq13))
                refine wp_ret ?_
                refine fin_ret S (results1 Tryd.results17 (RV.tmp S rfl)) ?_
                (rw [hck]; refine congrArg _ ?_; first | exact ck_empty (by assumption) | exact ck_zero (by assumption) (by omega) (by assumption) | exact ck_bad (j := i) (by omega) (by rw [isD_iff]; omega) | exact ck_over (by assumption) (by first | (intro; assumption) | (intro; omega)) (all_of_take hall (by omega)) (by omega) | exact ck_ok (by assumption) (by first | (intro; assumption) | (intro; omega)) (all_of_take hall (by omega)) (by omega))
              · (skip; (try simp only [decide_eq_true_eq, decide_eq_false_iff_not, beq_iff_eq, bne_iff_ne, bne_eq_false_iff_eq, beq_eq_false_iff_ne, ne_eq, Bool.not_eq_true', Bool.not_eq_false', Bool.not_eq_true, Bool.not_eq_false, Bool.not_true, Bool.not_false, Int.ofNat_lt, Int.ofNat_le, Nat.not_lt, Nat.not_le] at h))
                refine wp_skip ?_
                (refine hKq11 _ _ ?_; try (clear hKq11 Kq11))
                (refine wp_seq_k ?_; intro Kq13 hKq13)
                refine wp_region_lit ?_
                (refine wpl_v S rfl rfl rfl (sv_pure S rfl) ?_; clear S a; intro a S)
                refine wpList_nil ?_
                (refine hKq13 _ _ ?_; try (clear hKq13 Kq13))
                refine wp_ret ?_
                refine fin_ret S (results1 Tryd.results17 (RV.tmp S rfl)) ?_
                (rw [hck]; refine congrArg _ ?_; first | exact ck_empty (by assumption) | exact ck_zero (by assumption) (by omega) (by assumption) | exact ck_bad (j := i) (by omega) (by rw [isD_iff]; omega) | exact ck_over (by assumption) (by first | (intro; assumption) | (intro; omega)) (all_of_take hall (by omega)) (by omega) | exact ck_ok (by assumption) (by first | (intro; assumption) | (intro; omega)) (all_of_take hall (by omega)) (by omega))
      · (intro h; clear S a; intro a S; (try simp only [decide_eq_true_eq, decide_eq_false_iff_not, beq_iff_eq, bne_iff_ne, bne_eq_false_iff_eq, beq_eq_false_iff_ne, ne_eq, Bool.not_eq_true', Bool.not_eq_false', Bool.not_eq_true, Bool.not_eq_false, Bool.not_true, Bool.not_false, Int.ofNat_lt, Int.ofNat_le, Nat.not_lt, Nat.not_le] at h))
        (refine wpl_skip S rfl rfl rfl rfl rfl ?_; clear S a; intro a S)
        refine wpl_take S rfl rfl rfl ?_
        first | (refine wpl_v S rfl rfl rfl (sv_pure S rfl) ?_; clear S a; intro a S) | (refine wpl_v S rfl rfl rfl (sv_pickB S rfl rfl rfl rfl) ?_; clear S a; intro a S)
        first | (refine wpl_v S rfl rfl rfl (sv_pure S rfl) ?_; clear S a; intro a S) | (refine wpl_v S rfl rfl rfl (sv_pickB S rfl rfl rfl rfl) ?_; clear S a; intro a S)
        refine wpList_nil ?_
        (refine hKq6 _ _ ?_; try (clear hKq6 Kq6))
        refine wpc_false S rfl ?_
        refine wp_skip ?_
        (refine hKq5 _ _ ?_; try (clear hKq5 Kq5))
        (refine wp_seq_k ?_; intro Kq7 hKq7)
        (refine wp_seq_k ?_; intro Kq8 hKq8)
        refine wp_region_lit ?_
        (refine wpl_v S rfl rfl rfl (sv_pure S rfl) ?_; clear S a; intro a S)
        refine wpList_nil ?_
        (refine hKq8 _ _ ?_; try (clear hKq8 Kq8))
        refine wp_block ?_
        refine wpc_loop (fun m a w' => ∃ (i : Nat), m = d.length - i ∧ i ≤ d.length ∧ (∀ j, j < i → isD (d.getD j 0) = true) ∧ St 46 [(3, .string (bs d)), (4, .int .i64 i)] w0 F [] F [] a w') ?_ ?_
        · (refine ⟨d.length, 0, rfl, Nat.zero_le _, (fun j hj => absurd hj (by omega)), ?_⟩; refine S.keep ?_; repeat (first | exact trivial | refine ⟨rfl, ?_⟩))
        · (clear S; rintro m a w ⟨i, rfl, hi, hall, S⟩)
          (refine wp_seq_k ?_; intro Kq9 hKq9)
          (refine wp_seq_k ?_; intro Kq10 hKq10)
          refine wp_region_lit ?_
          (refine wpl_v S rfl rfl rfl (sv_pure S rfl) ?_; clear S a; intro a S)
          (refine wpl_v S rfl rfl rfl (sv_pure S rfl) ?_; clear S a; intro a S)
          (refine wpl_v S rfl rfl rfl (sv_lenS S rfl rfl) ?_; clear S a; intro a S)
          (refine wpl_v S rfl rfl rfl (sv_pure S rfl) ?_; clear S a; intro a S)
          refine wpList_nil ?_
          (refine hKq10 _ _ ?_; try (clear hKq10 Kq10))
          refine wpc_split S rfl (fun h => ?_) (fun h => ?_)
          · (skip; (try simp only [decide_eq_true_eq, decide_eq_false_iff_not, beq_iff_eq, bne_iff_ne, bne_eq_false_iff_eq, beq_eq_false_iff_ne, ne_eq, Bool.not_eq_true', Bool.not_eq_false', Bool.not_eq_true, Bool.not_eq_false, Bool.not_true, Bool.not_false, Int.ofNat_lt, Int.ofNat_le, Nat.not_lt, Nat.not_le] at h))
            refine wp_skip ?_
            (refine hKq9 _ _ ?_; try (clear hKq9 Kq9))
            (refine wp_seq_k ?_; intro Kq11 hKq11)
            refine wp_block ?_
            (refine wp_seq_k ?_; intro Kq12 hKq12)
            refine wp_region_lit ?_
            (refine wpl_v S rfl rfl rfl (sv_pure S rfl) ?_; clear S a; intro a S)
            (refine wpl_v S rfl rfl rfl (sv_pure S rfl) ?_; clear S a; intro a S)
            first | (refine wpl_v S rfl rfl rfl (sv_indexSN S rfl rfl rfl (by first | omega | (simp only [List.length_append, List.length_cons, List.length_nil]; omega))) ?_; clear S a; intro a S) | (refine wpl_v S rfl rfl rfl (sv_indexS S rfl rfl rfl (by first | omega | (simp only [List.length_append, List.length_cons, List.length_nil]; omega))) ?_; clear S a; intro a S)
            (refine wpl_v S rfl rfl rfl (sv_pure S rfl) ?_; clear S a; intro a S)
            (refine wpl_v S rfl rfl rfl (sv_pure S rfl) ?_; clear S a; intro a S)
            refine wpl_guard S rfl rfl rfl rfl rfl ?_ ?_
            · (intro h S'; clear S; have S := S'; clear S'; (try simp only [decide_eq_true_eq, decide_eq_false_iff_not, beq_iff_eq, bne_iff_ne, bne_eq_false_iff_eq, beq_eq_false_iff_ne, ne_eq, Bool.not_eq_true', Bool.not_eq_false', Bool.not_eq_true, Bool.not_eq_false, Bool.not_true, Bool.not_false, Int.ofNat_lt, Int.ofNat_le, Nat.not_lt, Nat.not_le] at h))
              (refine wpl_v S rfl rfl rfl (sv_pure S rfl) ?_; clear S a; intro a S)
              refine wpl_take S rfl rfl rfl ?_
              (refine wpl_v S rfl rfl rfl (sv_pure S rfl) ?_; clear S a; intro a S)
              refine wpl_take S rfl rfl rfl ?_
              first | (refine wpl_v S rfl rfl rfl (sv_indexSN S rfl rfl rfl (by first | omega | (simp only [List.length_append, List.length_cons, List.length_nil]; omega))) ?_; clear S a; intro a S) | (refine wpl_v S rfl rfl rfl (sv_indexS S rfl rfl rfl (by first | omega | (simp only [List.length_append, List.length_cons, List.length_nil]; omega))) ?_; clear S a; intro a S)
              refine wpl_take S rfl rfl rfl ?_
              (refine wpl_v S rfl rfl rfl (sv_pure S rfl) ?_; clear S a; intro a S)
              first | (refine wpl_v S rfl rfl rfl (sv_pure S rfl) ?_; clear S a; intro a S) | (refine wpl_v S rfl rfl rfl (sv_pickB S rfl rfl rfl rfl) ?_; clear S a; intro a S)
              refine wpList_nil ?_
              (refine hKq12 _ _ ?_; try (clear hKq12 Kq12))
              refine wpc_split S rfl (fun h => ?_) (fun h => ?_)
              · (skip; (try simp only [decide_eq_true_eq, decide_eq_false_iff_not, beq_iff_eq, bne_iff_ne, bne_eq_false_iff_eq, beq_eq_false_iff_ne, ne_eq, Bool.not_eq_true', Bool.not_eq_false', Bool.not_eq_true, Bool.not_eq_false, Bool.not_true, Bool.not_false, Int.ofNat_lt, Int.ofNat_le, Nat.not_lt, Nat.not_le] at h))
                (refine wp_seq_k ?_; intro Kq13 hKq13)
                refine wp_region_lit ?_
                (refine wpl_v S rfl rfl rfl (sv_pure S rfl) ?_; clear S a; intro a S)
                refine wpList_nil ?_
                (refine hKq13 _ _ ?_; try (clear hKq13 Kq13))
                refine wp_ret ?_
                refine fin_ret S (results1 Tryd.results17 (RV.tmp S rfl)) ?_
                (rw [hck]; refine congrArg _ ?_; first | exact ck_empty (by assumption) | exact ck_zero (by assumption) (by omega) (by assumption) | exact ck_bad (j := i) (by omega) (by rw [isD_iff]; omega) | exact ck_over (by assumption) (by first | (intro; assumption) | (intro; omega)) (all_of_take hall (by omega)) (by omega) | exact ck_ok (by assumption) (by first | (intro; assumption) | (intro; omega)) (all_of_take hall (by omega)) (by omega))
              · (skip; (try simp only [decide_eq_true_eq, decide_eq_false_iff_not, beq_iff_eq, bne_iff_ne, bne_eq_false_iff_eq, beq_eq_false_iff_ne, ne_eq, Bool.not_eq_true', Bool.not_eq_false', Bool.not_eq_true, Bool.not_eq_false, Bool.not_true, Bool.not_false, Int.ofNat_lt, Int.ofNat_le, Nat.not_lt, Nat.not_le] at h))
                refine wp_skip ?_
                (refine hKq11 _ _ ?_; try (clear hKq11 Kq11))
                refine wp_region_lit ?_
                (refine wpl_v S rfl rfl rfl (sv_pure S rfl) ?_; clear S a; intro a S)
                (refine wpl_v S rfl rfl rfl (sv_add S rfl rfl rfl (by first | omega | (simp only [List.length_append, List.length_cons, List.length_nil]; omega))) ?_; clear S a; intro a S)
                (refine wpl_v S rfl rfl rfl (sv_pure S rfl) ?_; clear S a; intro a S)
                refine wpList_nil ?_
                change ∃ m', _ ∧ _
                (refine ⟨d.length - (i + 1), by omega, i + 1, rfl, by omega, ?_, ?_⟩; rotate_left 1; (refine S.keep ?_; repeat (first | exact trivial | refine ⟨rfl, ?_⟩)); intro j hj; rcases Nat.lt_succ_iff_lt_or_eq.1 hj with h9 | h9; exact hall j h9; subst h9; rw [isD_iff]; omega)
            · (intro h; clear S a; intro a S; (try simp only [decide_eq_true_eq, decide_eq_false_iff_not, beq_iff_eq, bne_iff_ne, bne_eq_false_iff_eq, beq_eq_false_iff_ne, ne_eq, Bool.not_eq_true', Bool.not_eq_false', Bool.not_eq_true, Bool.not_eq_false, Bool.not_true, Bool.not_false, Int.ofNat_lt, Int.ofNat_le, Nat.not_lt, Nat.not_le] at h))
              (refine wpl_skip S rfl rfl rfl rfl rfl ?_; clear S a; intro a S)
              (refine wpl_skip S rfl rfl rfl rfl rfl ?_; clear S a; intro a S)
              (refine wpl_skip S rfl rfl rfl rfl rfl ?_; clear S a; intro a S)
              first | (refine wpl_v S rfl rfl rfl (sv_pure S rfl) ?_; clear S a; intro a S) | (refine wpl_v S rfl rfl rfl (sv_pickB S rfl rfl rfl rfl) ?_; clear S a; intro a S)
              refine wpList_nil ?_
              (refine hKq12 _ _ ?_; try (clear hKq12 Kq12))
              refine wpc_true S rfl ?_
              (refine wp_seq_k ?_; intro Kq13 hKq13)
              refine wp_region_lit ?_
              (refine wpl_v S rfl rfl rfl (sv_pure S rfl) ?_; clear S a; intro a S)
              refine wpList_nil ?_
              (refine hKq13 _ _ ?_; try (clear hKq13 Kq13))
              refine wp_ret ?_
              refine fin_ret S (results1 Tryd.results17 (RV.tmp S rfl)) ?_
              (rw [hck]; refine congrArg _ ?_; first | exact ck_empty (by assumption) | exact ck_zero (by assumption) (by omega) (by assumption) | exact ck_bad (j := i) (by omega) (by rw [isD_iff]; omega) | exact ck_over (by assumption) (by first | (intro; assumption) | (intro; omega)) (all_of_take hall (by omega)) (by omega) | exact ck_ok (by assumption) (by first | (intro; assumption) | (intro; omega)) (all_of_take hall (by omega)) (by omega))
          · (skip; (try simp only [decide_eq_true_eq, decide_eq_false_iff_not, beq_iff_eq, bne_iff_ne, bne_eq_false_iff_eq, beq_eq_false_iff_ne, ne_eq, Bool.not_eq_true', Bool.not_eq_false', Bool.not_eq_true, Bool.not_eq_false, Bool.not_true, Bool.not_false, Int.ofNat_lt, Int.ofNat_le, Nat.not_lt, Nat.not_le] at h))
            refine wp_exit ?_
            (refine hKq7 _ _ ?_; try (clear hKq7 Kq7))
            (refine wp_seq_k ?_; intro Kq11 hKq11)
            (refine wp_seq_k ?_; intro Kq12 hKq12)
            refine wp_region_lit ?_
            (refine wpl_v S rfl rfl rfl (sv_pure S rfl) ?_; clear S a; intro a S)
            (refine wpl_v S rfl rfl rfl (sv_lenS S rfl rfl) ?_; clear S a; intro a S)
            (refine wpl_v S rfl rfl rfl (sv_pure S rfl) ?_; clear S a; intro a S)
            refine wpList_nil ?_
            (refine hKq12 _ _ ?_; try (clear hKq12 Kq12))
            refine wpc_split S rfl (fun h => ?_) (fun h => ?_)
            · (skip; (try simp only [decide_eq_true_eq, decide_eq_false_iff_not, beq_iff_eq, bne_iff_ne, bne_eq_false_iff_eq, beq_eq_false_iff_ne, ne_eq, Bool.not_eq_true', Bool.not_eq_false', Bool.not_eq_true, Bool.not_eq_false, Bool.not_true, Bool.not_false, Int.ofNat_lt, Int.ofNat_le, Nat.not_lt, Nat.not_le] at h))
              (refine wp_seq_k ?_; intro Kq13 hKq13)
              refine wp_region_lit ?_
              (refine wpl_v S rfl rfl rfl (sv_pure S rfl) ?_; clear S a; intro a S)
              refine wpList_nil ?_
              (refine hKq13 _ _ ?_; try (clear hKq13 Kq13))
              refine wp_ret ?_
              refine fin_ret S (results1 Tryd.results17 (RV.tmp S rfl)) ?_
              (rw [hck]; refine congrArg _ ?_; first | exact ck_empty (by assumption) | exact ck_zero (by assumption) (by omega) (by assumption) | exact ck_bad (j := i) (by omega) (by rw [isD_iff]; omega) | exact ck_over (by assumption) (by first | (intro; assumption) | (intro; omega)) (all_of_take hall (by omega)) (by omega) | exact ck_ok (by assumption) (by first | (intro; assumption) | (intro; omega)) (all_of_take hall (by omega)) (by omega))
            · (skip; (try simp only [decide_eq_true_eq, decide_eq_false_iff_not, beq_iff_eq, bne_iff_ne, bne_eq_false_iff_eq, beq_eq_false_iff_ne, ne_eq, Bool.not_eq_true', Bool.not_eq_false', Bool.not_eq_true, Bool.not_eq_false, Bool.not_true, Bool.not_false, Int.ofNat_lt, Int.ofNat_le, Nat.not_lt, Nat.not_le] at h))
              refine wp_skip ?_
              (refine hKq11 _ _ ?_; try (clear hKq11 Kq11))
              (refine wp_seq_k ?_; intro Kq13 hKq13)
              refine wp_region_lit ?_
              (refine wpl_v S rfl rfl rfl (sv_pure S rfl) ?_; clear S a; intro a S)
              refine wpList_nil ?_
              (refine hKq13 _ _ ?_; try (clear hKq13 Kq13))
              refine wp_ret ?_
              refine fin_ret S (results1 Tryd.results17 (RV.tmp S rfl)) ?_
              (rw [hck]; refine congrArg _ ?_; first | exact ck_empty (by assumption) | exact ck_zero (by assumption) (by omega) (by assumption) | exact ck_bad (j := i) (by omega) (by rw [isD_iff]; omega) | exact ck_over (by assumption) (by first | (intro; assumption) | (intro; omega)) (all_of_take hall (by omega)) (by omega) | exact ck_ok (by assumption) (by first | (intro; assumption) | (intro; omega)) (all_of_take hall (by omega)) (by omega))
    · (intro h; clear S a; intro a S; (try simp only [decide_eq_true_eq, decide_eq_false_iff_not, beq_iff_eq, bne_iff_ne, bne_eq_false_iff_eq, beq_eq_false_iff_ne, ne_eq, Bool.not_eq_true', Bool.not_eq_false', Bool.not_eq_true, Bool.not_eq_false, Bool.not_true, Bool.not_false, Int.ofNat_lt, Int.ofNat_le, Nat.not_lt, Nat.not_le] at h))
      (refine wpl_skip S rfl rfl rfl rfl rfl ?_; clear S a; intro a S)
      (refine wpl_skip S rfl rfl rfl rfl rfl ?_; clear S a; intro a S)
      (refine wpl_skip S rfl rfl rfl rfl rfl ?_; clear S a; intro a S)
      (refine wpl_skipU S rfl rfl rfl rfl rfl ?_; clear S a; intro a S)
      (refine wpl_skipU S rfl rfl rfl rfl rfl ?_; clear S a; intro a S)
      (refine wpl_skip S rfl rfl rfl rfl rfl ?_; clear S a; intro a S)
      first | (refine wpl_v S rfl rfl rfl (sv_pure S rfl) ?_; clear S a; intro a S) | (refine wpl_v S rfl rfl rfl (sv_pickB S rfl rfl rfl rfl) ?_; clear S a; intro a S)
      refine wpList_nil ?_
      (refine hKq6 _ _ ?_; try (clear hKq6 Kq6))
      refine wpc_true S rfl ?_
      (refine wp_seq_k ?_; intro Kq7 hKq7)
      refine wp_region_lit ?_
      (refine wpl_v S rfl rfl rfl (sv_pure S rfl) ?_; clear S a; intro a S)
      refine wpList_nil ?_
      (refine hKq7 _ _ ?_; try (clear hKq7 Kq7))
      refine wp_ret ?_
      refine fin_ret S (results1 Tryd.results17 (RV.tmp S rfl)) ?_
      (rw [hck]; refine congrArg _ ?_; first | exact ck_empty (by assumption) | exact ck_zero (by assumption) (by omega) (by assumption) | exact ck_bad (j := i) (by omega) (by rw [isD_iff]; omega) | exact ck_over (by assumption) (by first | (intro; assumption) | (intro; omega)) (all_of_take hall (by omega)) (by omega) | exact ck_ok (by assumption) (by first | (intro; assumption) | (intro; omega)) (all_of_take hall (by omega)) (by omega))

def zero10 : Value := .agg ⟨[.bool false, .slice none 0 0]⟩
def PairV (F : Heap) (u : Value) (s t : List UInt8) : Prop :=
  if bothE s t = 0 then ∃ p q, u = .tuple ⟨[p, q, .int .i64 0]⟩ ∧ Num10 F p (valS s) ∧ Num10 F q (valS t)
  else u = .tuple ⟨[zero10, zero10, .int .i64 (bothE s t)]⟩
set_option maxHeartbeats 1000000 in
theorem pairCt (s t : List UInt8) (F : Heap) (hs : s.length ≤ 1000000000) (ht : t.length ≤ 1000000000) : Ct Tryd.prog 37 [.string (bs s), .string (bs t)] F [] (fun F' _ u => PairV F' u s t) := by
  refine Ct.enter Tryd.func37 rfl Tryd.ntmps37 rfl fun w0 a S => ?_
  (refine wp_seq_k ?_; intro Kq1 hKq1)
  refine wp_region_lit ?_
  (refine wpl_alloc S rfl rfl rfl rfl ?_; clear S a; intro b4 a w S)
  (refine wpl_alloc S rfl rfl rfl rfl ?_; clear S a; intro b5 a w S)
  (refine wpl_v S rfl rfl rfl (sv_pure S rfl) ?_; clear S a; intro a S)
  refine wpList_nil ?_
  (refine hKq1 _ _ ?_; try (clear hKq1 Kq1))
  (refine wp_seq_k ?_; intro Kq2 hKq2)
  refine wp_region_lit ?_
  (refine wpl_v S rfl rfl rfl (sv_pure S rfl) ?_; clear S a; intro a S)
  ((first | (refine wpl_call0 S rfl rfl rfl rfl rfl rfl (rcheckCt t F (by omega)) rfl ?_; have hst : checkS s = 0 := (by first | assumption | omega)) | (refine wpl_call0 S rfl rfl rfl rfl rfl rfl (rcheckCt s F (by omega)) rfl ?_)); clear S a; intro v a w hv S; subst hv)
  (refine wpl_v S rfl rfl rfl (sv_pure S rfl) ?_; clear S a; intro a S)
  refine wpList_nil ?_
  (refine hKq2 _ _ ?_; try (clear hKq2 Kq2))
  (refine wp_seq_k ?_; intro Kq3 hKq3)
  (refine wp_seq_k ?_; intro Kq4 hKq4)
  refine wp_region_lit ?_
  (refine wpl_v S rfl rfl rfl (sv_pure S rfl) ?_; clear S a; intro a S)
  (refine wpl_v S rfl rfl rfl (sv_pure S rfl) ?_; clear S a; intro a S)
  refine wpList_nil ?_
  (refine hKq4 _ _ ?_; try (clear hKq4 Kq4))
  refine wpc_split S rfl (fun h => ?_) (fun h => ?_)
  · (skip; (try simp only [decide_eq_true_eq, decide_eq_false_iff_not, beq_iff_eq, bne_iff_ne, bne_eq_false_iff_eq, beq_eq_false_iff_ne, ne_eq, Bool.not_eq_true', Bool.not_eq_false', Bool.not_eq_true, Bool.not_eq_false, Bool.not_true, Bool.not_false, Int.ofNat_lt, Int.ofNat_le, Nat.not_lt, Nat.not_le] at h))
    refine wp_region_lit ?_
    (refine wpl_v S rfl rfl rfl (sv_pure S rfl) ?_; clear S a; intro a S)
    ((first | (refine wpl_call0 S rfl rfl rfl rfl rfl rfl (rcheckCt t F (by omega)) rfl ?_; have hst : checkS s = 0 := (by first | assumption | omega)) | (refine wpl_call0 S rfl rfl rfl rfl rfl rfl (rcheckCt s F (by omega)) rfl ?_)); clear S a; intro v a w hv S; subst hv)
    (refine wpl_v S rfl rfl rfl (sv_pure S rfl) ?_; clear S a; intro a S)
    refine wpList_nil ?_
    (refine hKq3 _ _ ?_; try (clear hKq3 Kq3))
    (refine wp_seq_k ?_; intro Kq5 hKq5)
    (refine wp_seq_k ?_; intro Kq6 hKq6)
    refine wp_region_lit ?_
    (refine wpl_v S rfl rfl rfl (sv_pure S rfl) ?_; clear S a; intro a S)
    (refine wpl_v S rfl rfl rfl (sv_pure S rfl) ?_; clear S a; intro a S)
    refine wpList_nil ?_
    (refine hKq6 _ _ ?_; try (clear hKq6 Kq6))
    refine wpc_split S rfl (fun h => ?_) (fun h => ?_)
    · (skip; (try simp only [decide_eq_true_eq, decide_eq_false_iff_not, beq_iff_eq, bne_iff_ne, bne_eq_false_iff_eq, beq_eq_false_iff_ne, ne_eq, Bool.not_eq_true', Bool.not_eq_false', Bool.not_eq_true, Bool.not_eq_false, Bool.not_true, Bool.not_false, Int.ofNat_lt, Int.ofNat_le, Nat.not_lt, Nat.not_le] at h))
      (refine wp_seq_k ?_; intro Kq7 hKq7)
      refine wp_region_lit ?_
      (refine wpl_v S rfl rfl rfl (sv_build S rfl rfl rfl) ?_; clear S a; intro a S)
      (refine wpl_v S rfl rfl rfl (sv_build S rfl rfl rfl) ?_; clear S a; intro a S)
      (refine wpl_v S rfl rfl rfl (sv_pure S rfl) ?_; clear S a; intro a S)
      (refine wpl_storeO S rfl rfl rfl rfl rfl (by rfl) (by simp [Value.cells, Value.oneCell', splice]) (by rfl) ?_; clear S; intro w S)
      (refine wpl_storeO S rfl rfl rfl rfl rfl (by rfl) (by simp [Value.cells, Value.oneCell', splice]) (by rfl) ?_; clear S; intro w S)
      (refine wpl_v S rfl rfl rfl (sv_pure S rfl) ?_; clear S a; intro a S)
      refine wpList_nil ?_
      (refine hKq7 _ _ ?_; try (clear hKq7 Kq7))
      refine wp_ret ?_
      refine fin_ret S (results3 Tryd.results37 (RV.cellO S rfl (by rfl)) (RV.cellO S rfl (by rfl)) (RV.tmp S rfl)) ?_
      (first | (unfold PairV; rw [if_pos (by unfold bothE; rw [if_pos hcs]; exact hct)]; exact ⟨_, _, rfl, hv.mono hF2, hv2⟩) | (have hbe : bothE s t = checkS t := (by unfold bothE; rw [if_pos (by assumption)]); unfold PairV; rw [if_neg (by rw [hbe]; assumption), hbe]; rfl) | (have hbe : bothE s t = checkS s := (by unfold bothE; rw [if_neg (by assumption)]); unfold PairV; rw [if_neg (by rw [hbe]; assumption), hbe]; rfl))
    · (skip; (try simp only [decide_eq_true_eq, decide_eq_false_iff_not, beq_iff_eq, bne_iff_ne, bne_eq_false_iff_eq, beq_eq_false_iff_ne, ne_eq, Bool.not_eq_true', Bool.not_eq_false', Bool.not_eq_true, Bool.not_eq_false, Bool.not_true, Bool.not_false, Int.ofNat_lt, Int.ofNat_le, Nat.not_lt, Nat.not_le] at h))
      refine wp_skip ?_
      (refine hKq5 _ _ ?_; try (clear hKq5 Kq5))
      (refine wp_seq_k ?_; intro Kq7 hKq7)
      (have hcs : checkS s = 0 := (by first | assumption | omega); have hct : checkS t = 0 := (by first | assumption | omega))
      refine wp_region_lit ?_
      (refine wpl_v S rfl rfl rfl (sv_pure S rfl) ?_; clear S a; intro a S)
      (first | (refine wpl_callF S rfl rfl rfl rfl rfl rfl (rofCt t F1 hct) rfl ?_; clear S a; intro v2 F2 a w hv2 hF2 S; have hv20 := hv2; obtain ⟨p2, rfl, hp2⟩ := hv20; have hp20 := hp2; obtain ⟨qo, qc, rfl, -, -⟩ := hp20) | (refine wpl_callF S rfl rfl rfl rfl rfl rfl (rofCt s F hcs) rfl ?_; clear S a; intro v F1 a w hv hF1 S; have hv0 := hv; obtain ⟨p1, rfl, hp1⟩ := hv0; have hp10 := hp1; obtain ⟨po, pc, rfl, -, -⟩ := hp10))
      (refine wpl_v S rfl rfl rfl (sv_pure S rfl) ?_; clear S a; intro a S)
      (first | (refine wpl_callF S rfl rfl rfl rfl rfl rfl (rofCt t F1 hct) rfl ?_; clear S a; intro v2 F2 a w hv2 hF2 S; have hv20 := hv2; obtain ⟨p2, rfl, hp2⟩ := hv20; have hp20 := hp2; obtain ⟨qo, qc, rfl, -, -⟩ := hp20) | (refine wpl_callF S rfl rfl rfl rfl rfl rfl (rofCt s F hcs) rfl ?_; clear S a; intro v F1 a w hv hF1 S; have hv0 := hv; obtain ⟨p1, rfl, hp1⟩ := hv0; have hp10 := hp1; obtain ⟨po, pc, rfl, -, -⟩ := hp10))
      (refine wpl_storeO S rfl rfl rfl rfl rfl (by rfl) (by simp [Value.cells, Value.oneCell', splice]) (by rfl) ?_; clear S; intro w S)
      (refine wpl_storeO S rfl rfl rfl rfl rfl (by rfl) (by simp [Value.cells, Value.oneCell', splice]) (by rfl) ?_; clear S; intro w S)
      (refine wpl_v S rfl rfl rfl (sv_pure S rfl) ?_; clear S a; intro a S)
      refine wpList_nil ?_
      (refine hKq7 _ _ ?_; try (clear hKq7 Kq7))
      refine wp_ret ?_
      refine fin_ret S (results3 Tryd.results37 (RV.cellO S rfl (by rfl)) (RV.cellO S rfl (by rfl)) (RV.tmp S rfl)) ?_
      (first | (unfold PairV; rw [if_pos (by unfold bothE; rw [if_pos hcs]; exact hct)]; exact ⟨_, _, rfl, hv.mono hF2, hv2⟩) | (have hbe : bothE s t = checkS t := (by unfold bothE; rw [if_pos (by assumption)]); unfold PairV; rw [if_neg (by rw [hbe]; assumption), hbe]; rfl) | (have hbe : bothE s t = checkS s := (by unfold bothE; rw [if_neg (by assumption)]); unfold PairV; rw [if_neg (by rw [hbe]; assumption), hbe]; rfl))
  · (skip; (try simp only [decide_eq_true_eq, decide_eq_false_iff_not, beq_iff_eq, bne_iff_ne, bne_eq_false_iff_eq, beq_eq_false_iff_ne, ne_eq, Bool.not_eq_true', Bool.not_eq_false', Bool.not_eq_true, Bool.not_eq_false, Bool.not_true, Bool.not_false, Int.ofNat_lt, Int.ofNat_le, Nat.not_lt, Nat.not_le] at h))
    refine wp_skip ?_
    (refine hKq3 _ _ ?_; try (clear hKq3 Kq3))
    (refine wp_seq_k ?_; intro Kq5 hKq5)
    (refine wp_seq_k ?_; intro Kq6 hKq6)
    refine wp_region_lit ?_
    (refine wpl_v S rfl rfl rfl (sv_pure S rfl) ?_; clear S a; intro a S)
    (refine wpl_v S rfl rfl rfl (sv_pure S rfl) ?_; clear S a; intro a S)
    refine wpList_nil ?_
    (refine hKq6 _ _ ?_; try (clear hKq6 Kq6))
    refine wpc_split S rfl (fun h => ?_) (fun h => ?_)
    · (skip; (try simp only [decide_eq_true_eq, decide_eq_false_iff_not, beq_iff_eq, bne_iff_ne, bne_eq_false_iff_eq, beq_eq_false_iff_ne, ne_eq, Bool.not_eq_true', Bool.not_eq_false', Bool.not_eq_true, Bool.not_eq_false, Bool.not_true, Bool.not_false, Int.ofNat_lt, Int.ofNat_le, Nat.not_lt, Nat.not_le] at h))
      (refine wp_seq_k ?_; intro Kq7 hKq7)
      refine wp_region_lit ?_
      (refine wpl_v S rfl rfl rfl (sv_build S rfl rfl rfl) ?_; clear S a; intro a S)
      (refine wpl_v S rfl rfl rfl (sv_build S rfl rfl rfl) ?_; clear S a; intro a S)
      (refine wpl_v S rfl rfl rfl (sv_pure S rfl) ?_; clear S a; intro a S)
      (refine wpl_storeO S rfl rfl rfl rfl rfl (by rfl) (by simp [Value.cells, Value.oneCell', splice]) (by rfl) ?_; clear S; intro w S)
      (refine wpl_storeO S rfl rfl rfl rfl rfl (by rfl) (by simp [Value.cells, Value.oneCell', splice]) (by rfl) ?_; clear S; intro w S)
      (refine wpl_v S rfl rfl rfl (sv_pure S rfl) ?_; clear S a; intro a S)
      refine wpList_nil ?_
      (refine hKq7 _ _ ?_; try (clear hKq7 Kq7))
      refine wp_ret ?_
      refine fin_ret S (results3 Tryd.results37 (RV.cellO S rfl (by rfl)) (RV.cellO S rfl (by rfl)) (RV.tmp S rfl)) ?_
      (first | (unfold PairV; rw [if_pos (by unfold bothE; rw [if_pos hcs]; exact hct)]; exact ⟨_, _, rfl, hv.mono hF2, hv2⟩) | (have hbe : bothE s t = checkS t := (by unfold bothE; rw [if_pos (by assumption)]); unfold PairV; rw [if_neg (by rw [hbe]; assumption), hbe]; rfl) | (have hbe : bothE s t = checkS s := (by unfold bothE; rw [if_neg (by assumption)]); unfold PairV; rw [if_neg (by rw [hbe]; assumption), hbe]; rfl))
    · (skip; (try simp only [decide_eq_true_eq, decide_eq_false_iff_not, beq_iff_eq, bne_iff_ne, bne_eq_false_iff_eq, beq_eq_false_iff_ne, ne_eq, Bool.not_eq_true', Bool.not_eq_false', Bool.not_eq_true, Bool.not_eq_false, Bool.not_true, Bool.not_false, Int.ofNat_lt, Int.ofNat_le, Nat.not_lt, Nat.not_le] at h))
      refine wp_skip ?_
      (refine hKq5 _ _ ?_; try (clear hKq5 Kq5))
      (refine wp_seq_k ?_; intro Kq7 hKq7)
      (have hcs : checkS s = 0 := (by first | assumption | omega); have hct : checkS t = 0 := (by first | assumption | omega))
      refine wp_region_lit ?_
      (refine wpl_v S rfl rfl rfl (sv_pure S rfl) ?_; clear S a; intro a S)
      (first | (refine wpl_callF S rfl rfl rfl rfl rfl rfl (rofCt t F1 hct) rfl ?_; clear S a; intro v2 F2 a w hv2 hF2 S; have hv20 := hv2; obtain ⟨p2, rfl, hp2⟩ := hv20; have hp20 := hp2; obtain ⟨qo, qc, rfl, -, -⟩ := hp20) | (refine wpl_callF S rfl rfl rfl rfl rfl rfl (rofCt s F hcs) rfl ?_; clear S a; intro v F1 a w hv hF1 S; have hv0 := hv; obtain ⟨p1, rfl, hp1⟩ := hv0; have hp10 := hp1; obtain ⟨po, pc, rfl, -, -⟩ := hp10))
      (refine wpl_v S rfl rfl rfl (sv_pure S rfl) ?_; clear S a; intro a S)
      (first | (refine wpl_callF S rfl rfl rfl rfl rfl rfl (rofCt t F1 hct) rfl ?_; clear S a; intro v2 F2 a w hv2 hF2 S; have hv20 := hv2; obtain ⟨p2, rfl, hp2⟩ := hv20; have hp20 := hp2; obtain ⟨qo, qc, rfl, -, -⟩ := hp20) | (refine wpl_callF S rfl rfl rfl rfl rfl rfl (rofCt s F hcs) rfl ?_; clear S a; intro v F1 a w hv hF1 S; have hv0 := hv; obtain ⟨p1, rfl, hp1⟩ := hv0; have hp10 := hp1; obtain ⟨po, pc, rfl, -, -⟩ := hp10))
      (refine wpl_storeO S rfl rfl rfl rfl rfl (by rfl) (by simp [Value.cells, Value.oneCell', splice]) (by rfl) ?_; clear S; intro w S)
      (refine wpl_storeO S rfl rfl rfl rfl rfl (by rfl) (by simp [Value.cells, Value.oneCell', splice]) (by rfl) ?_; clear S; intro w S)
      (refine wpl_v S rfl rfl rfl (sv_pure S rfl) ?_; clear S a; intro a S)
      refine wpList_nil ?_
      (refine hKq7 _ _ ?_; try (clear hKq7 Kq7))
      refine wp_ret ?_
      refine fin_ret S (results3 Tryd.results37 (RV.cellO S rfl (by rfl)) (RV.cellO S rfl (by rfl)) (RV.tmp S rfl)) ?_
      (first | (unfold PairV; rw [if_pos (by unfold bothE; rw [if_pos hcs]; exact hct)]; exact ⟨_, _, rfl, hv.mono hF2, hv2⟩) | (have hbe : bothE s t = checkS t := (by unfold bothE; rw [if_pos (by assumption)]); unfold PairV; rw [if_neg (by rw [hbe]; assumption), hbe]; rfl) | (have hbe : bothE s t = checkS s := (by unfold bothE; rw [if_neg (by assumption)]); unfold PairV; rw [if_neg (by rw [hbe]; assumption), hbe]; rfl))
end Go.Proofs.YtmmpbpfdnpgklaaDoor
