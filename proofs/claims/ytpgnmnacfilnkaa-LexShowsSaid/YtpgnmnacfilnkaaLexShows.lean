/- The walk of LexShows: with the tokens and the string it answers true, and turns no memory that was there. -/
import Derived.Test.YtpgnmnacfilnkaaShow
namespace Go.Proofs.Ytpgnmnacfilnkaa
open Go Go.Wk
set_option linter.unusedSimpArgs false
set_option linter.unusedVariables false
attribute [local irreducible] Go.wpList Go.Code.wp Go.wpStill Go.Wk.wpPre Go.bodyPost Go.Calls Go.Wk.Ct Go.Wk.OwnS

theorem len_tot (l : List Tk) : l.length ≤ tot l := by
  induction l with
  | nil => simp
  | cons t r ih => simp only [tot, List.map_cons, List.sum_cons, List.length_cons] at *; omega

set_option maxHeartbeats 1000000 in
theorem lawShows (l : List Tk) (s : List UInt8) (v : Value) (F : Heap) (hs : s.length ≤ 140737488355328) (ht : ∀ t ∈ l, t.text.length ≤ 140737488355328) (hm : l.length ≤ 9223372036854775807) (hv : SlC F v l.length (l.flatMap tokC)) :
    Ct Try.prog 3 [v, .string (bs s)] F [] (fun _ _ u => u = .bool true) := by
  have hv0 := hv
  obtain ⟨ao, cap, rfl, hcap, hpos⟩ := hv
  refine Ct.enter Try.func3 rfl Try.ntmps3 rfl fun w0 a S => ?_
  (refine wp_seq_k ?_; intro K1 hK1)
  refine wp_region_lit ?_
  (refine wpl_v S rfl rfl rfl (sv_pure S rfl) ?_; clear S a; intro a S)
  refine wpList_nil ?_
  (refine hK1 _ _ ?_; try (clear hK1 K1))
  (refine wp_seq_k ?_; intro K2 hK2)
  refine wp_region_lit ?_
  (refine wpl_v S rfl rfl rfl (sv_pure S rfl) ?_; clear S a; intro a S)
  (refine wpl_v S rfl rfl rfl (sv_lenS S rfl rfl) ?_; clear S a; intro a S)
  (refine wpl_v S rfl rfl rfl (sv_pure S rfl) ?_; clear S a; intro a S)
  refine wpList_nil ?_
  (refine hK2 _ _ ?_; try (clear hK2 K2))
  (refine wp_seq_k ?_; intro K3 hK3)
  (refine wp_seq_k ?_; intro K4 hK4)
  refine wp_region_lit ?_
  (refine wpl_v S rfl rfl rfl (sv_pure S rfl) ?_; clear S a; intro a S)
  refine wpList_nil ?_
  (refine hK4 _ _ ?_; try (clear hK4 K4))
  refine wp_block ?_
  refine wpc_loop (fun m a w' => ∃ (k : Nat), m = l.length - k ∧ k ≤ l.length ∧ St 43 [(0, .slice ao l.length cap), (1, .string (bs s)), (5, .int .i64 ((s.length + tot (l.take k) : Nat) : Int)), (6, .int .i64 k)] w0 F [] F [] a w') ?_ ?_
  · (refine ⟨l.length, 0, by simp, Nat.zero_le _, ?_⟩; refine S.keep ?_; repeat (first | exact trivial | refine ⟨rfl, ?_⟩))
  · (clear S; rintro m a w ⟨k, rfl, hk, S⟩)
    (refine wp_seq_k ?_; intro K5 hK5)
    (refine wp_seq_k ?_; intro K6 hK6)
    refine wp_region_lit ?_
    (refine wpl_v S rfl rfl rfl (sv_pure S rfl) ?_; clear S a; intro a S)
    (refine wpl_v S rfl rfl rfl (sv_pure S rfl) ?_; clear S a; intro a S)
    (refine wpl_v S rfl rfl rfl (sv_lenSl S rfl rfl) ?_; clear S a; intro a S)
    (refine wpl_v S rfl rfl rfl (sv_pure S rfl) ?_; clear S a; intro a S)
    (refine wpl_v S rfl rfl rfl (sv_pure S rfl) ?_; clear S a; intro a S)
    refine wpl_guard S rfl rfl rfl rfl rfl ?_ ?_
    · (intro h S'; clear S; have S := S'; clear S'; (try simp only [decide_eq_true_eq, decide_eq_false_iff_not, beq_iff_eq, bne_iff_ne, beq_eq_false_iff_ne, ne_eq, Bool.not_eq_true, Bool.not_eq_false, Bool.not_true, Bool.not_false, Int.ofNat_lt, Int.ofNat_le, Nat.not_lt, Nat.not_le] at h))
      (refine wpl_v S rfl rfl rfl (sv_pure S rfl) ?_; clear S a; intro a S)
      refine wpl_take S rfl rfl rfl ?_
      (refine wpl_v S rfl rfl rfl (sv_pure S rfl) ?_; clear S a; intro a S)
      first | (refine wpl_v S rfl rfl rfl (sv_pure S rfl) ?_; clear S a; intro a S) | (refine wpl_v S rfl rfl rfl (sv_pickB S rfl rfl rfl rfl) ?_; clear S a; intro a S)
      refine wpList_nil ?_
      (refine hK6 _ _ ?_; try (clear hK6 K6))
      refine wpc_split S rfl (fun h => ?_) (fun h => ?_)
      · (skip; (try simp only [decide_eq_true_eq, decide_eq_false_iff_not, beq_iff_eq, bne_iff_ne, beq_eq_false_iff_ne, ne_eq, Bool.not_eq_true, Bool.not_eq_false, Bool.not_true, Bool.not_false, Int.ofNat_lt, Int.ofNat_le, Nat.not_lt, Nat.not_le] at h))
        refine wp_skip ?_
        (refine hK5 _ _ ?_; try (clear hK5 K5))
        (refine wp_seq_k ?_; intro K7 hK7)
        refine wp_block ?_
        (obtain ⟨b, off, rfl, hcs⟩ := hpos (by omega); obtain ⟨t, hti, -, hc2, hc3, -⟩ := tok_at hcs (by omega); have htt := tot_succ l k t hti; have htx := ht t (List.mem_of_getElem? hti))
        refine wp_region_lit ?_
        (refine wpl_v S rfl rfl rfl (sv_pure S rfl) ?_; clear S a; intro a S)
        (refine wpl_v S rfl rfl rfl (sv_add S rfl rfl rfl (by first | omega | (simp only [List.length_append, List.length_cons, List.length_nil]; omega))) ?_; clear S a; intro a S)
        (refine wpl_v S rfl rfl rfl (sv_pure S rfl) ?_; clear S a; intro a S)
        (refine wpl_v S rfl rfl rfl (sv_pure S rfl) ?_; clear S a; intro a S)
        (refine wpl_v S rfl rfl rfl (sv_indexAddrSl S rfl rfl rfl (by first | omega | (simp only [List.length_append, List.length_cons, List.length_nil]; omega))) ?_; clear S a; intro a S)
        (refine wpl_v S rfl rfl rfl (sv_fieldAddr S rfl rfl rfl inferInstance rfl) ?_; clear S a; intro a S)
        first | (refine wpl_v S rfl rfl rfl (sv_loadO S rfl rfl (by rfl)) ?_; clear S a; intro a S) | (refine wpl_v S rfl rfl rfl (sv_loadF S rfl rfl (by assumption)) ?_; clear S a; intro a S)
        (refine wpl_v S rfl rfl rfl (sv_lenS S rfl rfl) ?_; clear S a; intro a S)
        (refine wpl_v S rfl rfl rfl (sv_add S rfl rfl rfl (by first | omega | (simp only [List.length_append, List.length_cons, List.length_nil]; omega))) ?_; clear S a; intro a S)
        (refine wpl_v S rfl rfl rfl (sv_pure S rfl) ?_; clear S a; intro a S)
        refine wpList_nil ?_
        (refine hK7 _ _ ?_; try (clear hK7 K7))
        refine wp_region_lit ?_
        (refine wpl_v S rfl rfl rfl (sv_pure S rfl) ?_; clear S a; intro a S)
        (refine wpl_v S rfl rfl rfl (sv_add S rfl rfl rfl (by first | omega | (simp only [List.length_append, List.length_cons, List.length_nil]; omega))) ?_; clear S a; intro a S)
        (refine wpl_v S rfl rfl rfl (sv_pure S rfl) ?_; clear S a; intro a S)
        refine wpList_nil ?_
        change ∃ m', _ ∧ _
        (refine ⟨l.length - (k + 1), by omega, k + 1, rfl, by omega, ?_⟩; have e : s.length + tot (l.take (k + 1)) = s.length + tot (l.take k) + 1 + t.text.length := (by omega); rw [e]; refine S.keep ?_; repeat (first | exact trivial | refine ⟨rfl, ?_⟩))
      · (skip; (try simp only [decide_eq_true_eq, decide_eq_false_iff_not, beq_iff_eq, bne_iff_ne, beq_eq_false_iff_ne, ne_eq, Bool.not_eq_true, Bool.not_eq_false, Bool.not_true, Bool.not_false, Int.ofNat_lt, Int.ofNat_le, Nat.not_lt, Nat.not_le] at h))
        refine wp_exit ?_
        (refine hK3 _ _ ?_; try (clear hK3 K3))
        (refine wp_seq_k ?_; intro K7 hK7)
        (refine wp_seq_k ?_; intro K8 hK8)
        refine wp_region_lit ?_
        (refine wpl_v S rfl rfl rfl (sv_pure S rfl) ?_; clear S a; intro a S)
        (refine wpl_v S rfl rfl rfl (sv_pure S rfl) ?_; clear S a; intro a S)
        refine wpList_nil ?_
        (refine hK8 _ _ ?_; try (clear hK8 K8))
        refine wpc_split S rfl (fun h => ?_) (fun h => ?_)
        · (skip; (try simp only [decide_eq_true_eq, decide_eq_false_iff_not, beq_iff_eq, bne_iff_ne, beq_eq_false_iff_ne, ne_eq, Bool.not_eq_true, Bool.not_eq_false, Bool.not_true, Bool.not_false, Int.ofNat_lt, Int.ofNat_le, Nat.not_lt, Nat.not_le] at h))
          (refine wp_seq_k ?_; intro K9 hK9)
          refine wp_region_lit ?_
          (refine wpl_v S rfl rfl rfl (sv_pure S rfl) ?_; clear S a; intro a S)
          refine wpList_nil ?_
          (refine hK9 _ _ ?_; try (clear hK9 K9))
          refine wp_ret ?_
          refine fin_ret S (results1 Try.results3 (RV.tmp S rfl)) ?_
          (first | rfl | (simp; done) | (exfalso; simp at h; done))
        · (skip; (try simp only [decide_eq_true_eq, decide_eq_false_iff_not, beq_iff_eq, bne_iff_ne, beq_eq_false_iff_ne, ne_eq, Bool.not_eq_true, Bool.not_eq_false, Bool.not_true, Bool.not_false, Int.ofNat_lt, Int.ofNat_le, Nat.not_lt, Nat.not_le] at h))
          refine wp_skip ?_
          (refine hK7 _ _ ?_; try (clear hK7 K7))
          (refine wp_seq_k ?_; intro K9 hK9)
          (have hkl : k = l.length := (by omega); have ht6 : tot l ≤ 6000 := (by rw [hkl, List.take_length] at h; omega); have hl6 := len_tot l)
          refine wp_region_lit ?_
          (refine wpl_v S rfl rfl rfl (sv_pure S rfl) ?_; clear S a; intro a S)
          (refine wpl_call (Gs := []) (Gr := []) S rfl rfl rfl rfl rfl rfl (toCt l _ F (by omega) hv0) rfl (List.Perm.refl _) ?_; intro v1 F1 G1 a w hv1 hF1 S1; clear S; have S := S1.drops; clear S1)
          (refine wpl_call0 S rfl rfl rfl rfl rfl rfl (lexShowCt l v1 F1 (by omega) ht6 hv1) rfl ?_; clear S a; intro v a w hv S; subst hv)
          (refine wpl_v S rfl rfl rfl (sv_pure S rfl) ?_; clear S a; intro a S)
          (refine wpl_call0 S rfl rfl rfl rfl rfl rfl (refShowCt l _ F1 (by omega) ht6 (hv0.mono hF1)) rfl ?_; clear S a; intro v a w hv S; subst hv)
          (refine wpl_v S rfl rfl rfl (sv_pure S rfl) ?_; clear S a; intro a S)
          (refine wpl_v S rfl rfl rfl (sv_pure S rfl) ?_; clear S a; intro a S)
          refine wpl_guard S rfl rfl rfl rfl rfl ?_ ?_
          · (intro h S'; clear S; have S := S'; clear S'; (try simp only [decide_eq_true_eq, decide_eq_false_iff_not, beq_iff_eq, bne_iff_ne, beq_eq_false_iff_ne, ne_eq, Bool.not_eq_true, Bool.not_eq_false, Bool.not_true, Bool.not_false, Int.ofNat_lt, Int.ofNat_le, Nat.not_lt, Nat.not_le] at h))
            (refine wpl_v S rfl rfl rfl (sv_pure S rfl) ?_; clear S a; intro a S)
            refine wpl_take S rfl rfl rfl ?_
            (refine wpl_call0 S rfl rfl rfl rfl rfl rfl (lexQuote s F1 (by omega)) rfl ?_; clear S a; intro v a w hv S; subst hv)
            refine wpl_take S rfl rfl rfl ?_
            (refine wpl_v S rfl rfl rfl (sv_pure S rfl) ?_; clear S a; intro a S)
            refine wpl_take S rfl rfl rfl ?_
            (refine wpl_call0 S rfl rfl rfl rfl rfl rfl (refQuote s F1 (by omega)) rfl ?_; clear S a; intro v a w hv S; subst hv)
            refine wpl_take S rfl rfl rfl ?_
            (refine wpl_v S rfl rfl rfl (sv_pure S rfl) ?_; clear S a; intro a S)
            first | (refine wpl_v S rfl rfl rfl (sv_pure S rfl) ?_; clear S a; intro a S) | (refine wpl_v S rfl rfl rfl (sv_pickB S rfl rfl rfl rfl) ?_; clear S a; intro a S)
            (refine wpl_v S rfl rfl rfl (sv_pure S rfl) ?_; clear S a; intro a S)
            refine wpList_nil ?_
            (refine hK9 _ _ ?_; try (clear hK9 K9))
            refine wp_ret ?_
            refine fin_ret S (results1 Try.results3 (RV.tmp S rfl)) ?_
            (first | rfl | (simp; done) | (exfalso; simp at h; done))
          · (intro h; clear S a; intro a S; (try simp only [decide_eq_true_eq, decide_eq_false_iff_not, beq_iff_eq, bne_iff_ne, beq_eq_false_iff_ne, ne_eq, Bool.not_eq_true, Bool.not_eq_false, Bool.not_true, Bool.not_false, Int.ofNat_lt, Int.ofNat_le, Nat.not_lt, Nat.not_le] at h))
            (refine wpl_skip S rfl rfl rfl rfl rfl ?_; clear S a; intro a S)
            (refine wpl_skip S rfl rfl rfl rfl rfl ?_; clear S a; intro a S)
            (refine wpl_skip S rfl rfl rfl rfl rfl ?_; clear S a; intro a S)
            (refine wpl_skip S rfl rfl rfl rfl rfl ?_; clear S a; intro a S)
            first | (refine wpl_v S rfl rfl rfl (sv_pure S rfl) ?_; clear S a; intro a S) | (refine wpl_v S rfl rfl rfl (sv_pickB S rfl rfl rfl rfl) ?_; clear S a; intro a S)
            (refine wpl_v S rfl rfl rfl (sv_pure S rfl) ?_; clear S a; intro a S)
            refine wpList_nil ?_
            (refine hK9 _ _ ?_; try (clear hK9 K9))
            refine wp_ret ?_
            refine fin_ret S (results1 Try.results3 (RV.tmp S rfl)) ?_
            (first | rfl | (simp; done) | (exfalso; simp at h; done))
    · (intro h; clear S a; intro a S; (try simp only [decide_eq_true_eq, decide_eq_false_iff_not, beq_iff_eq, bne_iff_ne, beq_eq_false_iff_ne, ne_eq, Bool.not_eq_true, Bool.not_eq_false, Bool.not_true, Bool.not_false, Int.ofNat_lt, Int.ofNat_le, Nat.not_lt, Nat.not_le] at h))
      (refine wpl_skip S rfl rfl rfl rfl rfl ?_; clear S a; intro a S)
      first | (refine wpl_v S rfl rfl rfl (sv_pure S rfl) ?_; clear S a; intro a S) | (refine wpl_v S rfl rfl rfl (sv_pickB S rfl rfl rfl rfl) ?_; clear S a; intro a S)
      refine wpList_nil ?_
      (refine hK6 _ _ ?_; try (clear hK6 K6))
      refine wpc_false S rfl ?_
      refine wp_exit ?_
      (refine hK3 _ _ ?_; try (clear hK3 K3))
      (refine wp_seq_k ?_; intro K7 hK7)
      (refine wp_seq_k ?_; intro K8 hK8)
      refine wp_region_lit ?_
      (refine wpl_v S rfl rfl rfl (sv_pure S rfl) ?_; clear S a; intro a S)
      (refine wpl_v S rfl rfl rfl (sv_pure S rfl) ?_; clear S a; intro a S)
      refine wpList_nil ?_
      (refine hK8 _ _ ?_; try (clear hK8 K8))
      refine wpc_split S rfl (fun h => ?_) (fun h => ?_)
      · (skip; (try simp only [decide_eq_true_eq, decide_eq_false_iff_not, beq_iff_eq, bne_iff_ne, beq_eq_false_iff_ne, ne_eq, Bool.not_eq_true, Bool.not_eq_false, Bool.not_true, Bool.not_false, Int.ofNat_lt, Int.ofNat_le, Nat.not_lt, Nat.not_le] at h))
        (refine wp_seq_k ?_; intro K9 hK9)
        refine wp_region_lit ?_
        (refine wpl_v S rfl rfl rfl (sv_pure S rfl) ?_; clear S a; intro a S)
        refine wpList_nil ?_
        (refine hK9 _ _ ?_; try (clear hK9 K9))
        refine wp_ret ?_
        refine fin_ret S (results1 Try.results3 (RV.tmp S rfl)) ?_
        (first | rfl | (simp; done) | (exfalso; simp at h; done))
      · (skip; (try simp only [decide_eq_true_eq, decide_eq_false_iff_not, beq_iff_eq, bne_iff_ne, beq_eq_false_iff_ne, ne_eq, Bool.not_eq_true, Bool.not_eq_false, Bool.not_true, Bool.not_false, Int.ofNat_lt, Int.ofNat_le, Nat.not_lt, Nat.not_le] at h))
        refine wp_skip ?_
        (refine hK7 _ _ ?_; try (clear hK7 K7))
        (refine wp_seq_k ?_; intro K9 hK9)
        (have hkl : k = l.length := (by omega); have ht6 : tot l ≤ 6000 := (by rw [hkl, List.take_length] at h; omega); have hl6 := len_tot l)
        refine wp_region_lit ?_
        (refine wpl_v S rfl rfl rfl (sv_pure S rfl) ?_; clear S a; intro a S)
        (refine wpl_call (Gs := []) (Gr := []) S rfl rfl rfl rfl rfl rfl (toCt l _ F (by omega) hv0) rfl (List.Perm.refl _) ?_; intro v1 F1 G1 a w hv1 hF1 S1; clear S; have S := S1.drops; clear S1)
        (refine wpl_call0 S rfl rfl rfl rfl rfl rfl (lexShowCt l v1 F1 (by omega) ht6 hv1) rfl ?_; clear S a; intro v a w hv S; subst hv)
        (refine wpl_v S rfl rfl rfl (sv_pure S rfl) ?_; clear S a; intro a S)
        (refine wpl_call0 S rfl rfl rfl rfl rfl rfl (refShowCt l _ F1 (by omega) ht6 (hv0.mono hF1)) rfl ?_; clear S a; intro v a w hv S; subst hv)
        (refine wpl_v S rfl rfl rfl (sv_pure S rfl) ?_; clear S a; intro a S)
        (refine wpl_v S rfl rfl rfl (sv_pure S rfl) ?_; clear S a; intro a S)
        refine wpl_guard S rfl rfl rfl rfl rfl ?_ ?_
        · (intro h S'; clear S; have S := S'; clear S'; (try simp only [decide_eq_true_eq, decide_eq_false_iff_not, beq_iff_eq, bne_iff_ne, beq_eq_false_iff_ne, ne_eq, Bool.not_eq_true, Bool.not_eq_false, Bool.not_true, Bool.not_false, Int.ofNat_lt, Int.ofNat_le, Nat.not_lt, Nat.not_le] at h))
          (refine wpl_v S rfl rfl rfl (sv_pure S rfl) ?_; clear S a; intro a S)
          refine wpl_take S rfl rfl rfl ?_
          (refine wpl_call0 S rfl rfl rfl rfl rfl rfl (lexQuote s F1 (by omega)) rfl ?_; clear S a; intro v a w hv S; subst hv)
          refine wpl_take S rfl rfl rfl ?_
          (refine wpl_v S rfl rfl rfl (sv_pure S rfl) ?_; clear S a; intro a S)
          refine wpl_take S rfl rfl rfl ?_
          (refine wpl_call0 S rfl rfl rfl rfl rfl rfl (refQuote s F1 (by omega)) rfl ?_; clear S a; intro v a w hv S; subst hv)
          refine wpl_take S rfl rfl rfl ?_
          (refine wpl_v S rfl rfl rfl (sv_pure S rfl) ?_; clear S a; intro a S)
          first | (refine wpl_v S rfl rfl rfl (sv_pure S rfl) ?_; clear S a; intro a S) | (refine wpl_v S rfl rfl rfl (sv_pickB S rfl rfl rfl rfl) ?_; clear S a; intro a S)
          (refine wpl_v S rfl rfl rfl (sv_pure S rfl) ?_; clear S a; intro a S)
          refine wpList_nil ?_
          (refine hK9 _ _ ?_; try (clear hK9 K9))
          refine wp_ret ?_
          refine fin_ret S (results1 Try.results3 (RV.tmp S rfl)) ?_
          (first | rfl | (simp; done) | (exfalso; simp at h; done))
        · (intro h; clear S a; intro a S; (try simp only [decide_eq_true_eq, decide_eq_false_iff_not, beq_iff_eq, bne_iff_ne, beq_eq_false_iff_ne, ne_eq, Bool.not_eq_true, Bool.not_eq_false, Bool.not_true, Bool.not_false, Int.ofNat_lt, Int.ofNat_le, Nat.not_lt, Nat.not_le] at h))
          (refine wpl_skip S rfl rfl rfl rfl rfl ?_; clear S a; intro a S)
          (refine wpl_skip S rfl rfl rfl rfl rfl ?_; clear S a; intro a S)
          (refine wpl_skip S rfl rfl rfl rfl rfl ?_; clear S a; intro a S)
          (refine wpl_skip S rfl rfl rfl rfl rfl ?_; clear S a; intro a S)
          first | (refine wpl_v S rfl rfl rfl (sv_pure S rfl) ?_; clear S a; intro a S) | (refine wpl_v S rfl rfl rfl (sv_pickB S rfl rfl rfl rfl) ?_; clear S a; intro a S)
          (refine wpl_v S rfl rfl rfl (sv_pure S rfl) ?_; clear S a; intro a S)
          refine wpList_nil ?_
          (refine hK9 _ _ ?_; try (clear hK9 K9))
          refine wp_ret ?_
          refine fin_ret S (results1 Try.results3 (RV.tmp S rfl)) ?_
          (first | rfl | (simp; done) | (exfalso; simp at h; done))
end Go.Proofs.Ytpgnmnacfilnkaa
