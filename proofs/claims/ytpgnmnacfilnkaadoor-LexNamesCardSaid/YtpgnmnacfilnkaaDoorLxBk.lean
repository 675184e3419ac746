/- The walk of the law LexBack: the text of told tokens is read as the same kinds and texts. -/
import Derived.Test.YtpgnmnacfilnkaaDoorLxK
import Derived.Test.YtpgnmnacfilnkaaDoorLxW
namespace Go.Proofs.YtpgnmnacfilnkaaDoor
open Go Go.Wk Go.Lx
set_option linter.unusedSimpArgs false
set_option linter.unusedVariables false
attribute [local irreducible] Go.wpList Go.Code.wp Go.wpStill Go.Wk.wpPre Go.bodyPost Go.Calls Go.Wk.Ct Go.Wk.OwnS
attribute [local irreducible] Go.Wk.wpG Go.Wk.wpM

theorem nextF_text {r : List UInt8} (hr : r ≠ []) (he : (nextF r).e = 0) : (nextF r).text.length ≤ (nextF r).size := by
  have key : ∀ (n : Nat), (r.take n).length ≤ n := fun n => by rw [List.length_take]; omega
  by_cases h1 : low (r.getD 0 0) = true
  · rw [nextF_low h1] at he ⊢
    revert he
    unfold nameF
    simp only []
    (repeat' split) <;> intro he <;> first | exact absurd he (by decide) | exact key _
  replace h1 := bfalse h1
  by_cases h2 : digit (r.getD 0 0) = true
  · rw [nextF_dig h1 h2] at he ⊢
    have hm := run_mono digit_within r
    have h9 := key (run digit r)
    revert he
    unfold numberF
    simp only []
    (repeat' split) <;> intro he <;> first | exact absurd he (by decide) | (simp only []; omega)
  replace h2 := bfalse h2
  by_cases h3 : (r.getD 0 0).toNat = 34
  · rw [nextF_quo h1 h2 h3] at he ⊢
    have hq := qmarks_le _ (r.drop 1) (Nat.le_refl _)
    revert he
    unfold quotedF
    simp only []
    (repeat' split) <;> intro he <;> first | exact absurd he (by decide) | (simp only []; omega)
  by_cases h4 : high (r.getD 0 0) = true
  · rw [nextF_high h1 h2 h3 h4] at he ⊢
    revert he
    (repeat' split) <;> intro he <;> first | exact absurd he (by decide) | exact key _
  replace h4 := bfalse h4
  by_cases h5 : (r.getD 0 0).toNat = 95
  · rw [nextF_any h1 h2 h3 h4 h5] at he ⊢
    revert he
    (repeat' split) <;> intro he <;> first | exact absurd he (by decide) | exact Nat.le_refl _
  by_cases h6 : twos.contains (r.take 2) = true
  · rw [nextF_two h1 h2 h3 h4 h5 h6]
    exact key _
  replace h6 := bfalse h6
  by_cases h7 : (r.getD 0 0).toNat = 46 ∧ low (r.getD 1 0) = true ∧ isWord ((r.drop 1).take (run within (r.drop 1))) = false
  · rw [nextF_field h1 h2 h3 h4 h5 h6 h7.1 h7.2.1 h7.2.2] at he ⊢
    revert he
    (repeat' split) <;> intro he <;> first | exact absurd he (by decide) | (simp only [List.length_take]; omega)
  rw [nextF_rest h1 h2 h3 h4 h5 h6 h7] at he ⊢
  revert he
  (repeat' split) <;> intro he <;> first | exact absurd he (by decide) | exact Nat.le_refl _
theorem tot_cons (t : Tok) (l : List Tok) : tot (t :: l) = 1 + t.text.length + tot l := by simp [tot]
theorem tot_toks : ∀ (n : Nat) (p : Int × Int) (r : List UInt8), tot (toks n p r).1 ≤ 2 * r.length
  | 0, p, r => by simp [toks, tot]
  | n + 1, p, r => by
    by_cases h1 : r.drop (skipB r) = []
    · rw [toks_end h1]; simp [tot]
    by_cases he : (nextF (r.drop (skipB r))).e = 0
    · have hsz := nextF_size h1 he
      have htx := nextF_text h1 he
      have ih := tot_toks n (place (place p (r.take (skipB r))) ((r.drop (skipB r)).take (nextF (r.drop (skipB r))).size)) ((r.drop (skipB r)).drop (nextF (r.drop (skipB r))).size)
      rw [List.length_drop, List.length_drop] at ih
      rw [List.length_drop] at hsz
      rw [toks_ok h1 he]
      simp only []
      split
      · omega
      · simp only [tot_cons]; omega
    · rw [toks_bad h1 he]; simp [tot]
theorem tot_tokens (s : List UInt8) : tot (tokens s).1 ≤ 2 * s.length := by
  unfold tokens
  split
  · simp [tot]
  · exact tot_toks _ _ _
theorem back_len {s : List UInt8} (h : s.length ≤ 8000) : (joined (tokens s).1).length ≤ 64000 := by
  have h1 := tot_tokens s
  have h2 := joined_len (tokens s).1 _ (Nat.le_refl _)
  rw [List.take_length] at h2
  omega

set_option maxHeartbeats 4000000 in
theorem lawBack (s : List UInt8) (F : Heap) (hF : SpF F) (hs : s.length ≤ 140737488355328) : Ct Tryd.prog 5 [.string (bs s)] F [] (fun _ _ u => u = .bool true) := by
  have htl := tokens_len s
  have htt := tot_tokens s
  refine Ct.enter Tryd.func5 rfl Tryd.ntmps5 rfl fun w0 a S => ?_
  (refine wp_seq_k ?_; intro Kq1 hKq1)
  refine wp_region_lit ?_
  (refine wpl_v S rfl rfl rfl (sv_pure S rfl) ?_; clear S a; intro a S)
  refine wpList_nil ?_
  (refine hKq1 _ _ ?_; try (clear hKq1 Kq1))
  (refine wp_seq_k ?_; intro Kq2 hKq2)
  (refine wp_seq_k ?_; intro Kq3 hKq3)
  refine wp_region_lit ?_
  ((first | (refine wpl_callF S rfl rfl rfl rfl rfl rfl (worksCt F hF) rfl ?_; clear S a; intro vw F0 a w hv hF0 S; subst hv) | (refine wpl_callF S rfl rfl rfl rfl rfl rfl (worksCt F0 (hF.mono hF0)) rfl ?_; clear S a; intro vw F9 a w hv hF9 S; subst hv)))
  (refine wpl_v S rfl rfl rfl (sv_lit (c := false) (sv_pure S rfl) (by rfl)) ?_; clear S a; intro a S)
  (refine wpl_v S rfl rfl rfl (sv_pure S rfl) ?_; clear S a; intro a S)
  refine wpl_take S rfl rfl rfl ?_
  (refine wpl_v S rfl rfl rfl (sv_pure S rfl) ?_; clear S a; intro a S)
  refine wpl_take S rfl rfl rfl ?_
  (refine wpl_v S rfl rfl rfl (sv_lenS S rfl rfl) ?_; clear S a; intro a S)
  refine wpl_take S rfl rfl rfl ?_
  (refine wpl_v S rfl rfl rfl (sv_pure S rfl) ?_; clear S a; intro a S)
  first | (refine wpl_v S rfl rfl rfl (sv_pure S rfl) ?_; clear S a; intro a S) | (refine wpl_v S rfl rfl rfl (sv_pickB S rfl rfl rfl rfl) ?_; clear S a; intro a S)
  refine wpList_nil ?_
  (refine hKq3 _ _ ?_; try (clear hKq3 Kq3))
  refine wpc_split S rfl (fun h => ?_) (fun h => ?_)
  · (skip; (try simp only [decide_eq_true_eq, decide_eq_false_iff_not, beq_iff_eq, bne_iff_ne, bne_eq_false_iff_eq, beq_eq_false_iff_ne, ne_eq, Bool.not_eq_true', Bool.not_eq_false', Bool.not_eq_true, Bool.not_eq_false, Bool.not_true, Bool.not_false, Int.ofNat_lt, Int.ofNat_le, Nat.not_lt, Nat.not_le] at h))
    (refine wp_seq_k ?_; intro Kq4 hKq4)
    refine wp_region_lit ?_
    ((first | (refine wpl_callF S rfl rfl rfl rfl rfl rfl (worksCt F hF) rfl ?_; clear S a; intro vw F0 a w hv hF0 S; subst hv) | (refine wpl_callF S rfl rfl rfl rfl rfl rfl (worksCt F0 (hF.mono hF0)) rfl ?_; clear S a; intro vw F9 a w hv hF9 S; subst hv)))
    (refine wpl_v S rfl rfl rfl (sv_pure S rfl) ?_; clear S a; intro a S)
    refine wpList_nil ?_
    (refine hKq4 _ _ ?_; try (clear hKq4 Kq4))
    refine wp_ret ?_
    refine fin_ret S (results1 Tryd.results5 (RV.tmp S rfl)) ?_
    (first | rfl | (rw [tokens_err (by assumption)]; rfl) | rw [hsm])
  · (skip; (try simp only [decide_eq_true_eq, decide_eq_false_iff_not, beq_iff_eq, bne_iff_ne, bne_eq_false_iff_eq, beq_eq_false_iff_ne, ne_eq, Bool.not_eq_true', Bool.not_eq_false', Bool.not_eq_true, Bool.not_eq_false, Bool.not_true, Bool.not_false, Int.ofNat_lt, Int.ofNat_le, Nat.not_lt, Nat.not_le] at h))
    refine wp_skip ?_
    (refine hKq2 _ _ ?_; try (clear hKq2 Kq2))
    (refine wp_seq_k ?_; intro Kq4 hKq4)
    refine wp_region_lit ?_
    (refine wpl_v S rfl rfl rfl (sv_pure S rfl) ?_; clear S a; intro a S)
    (first | (refine wpl_callF S rfl rfl rfl rfl rfl rfl (tokensCt s F0 (hF.mono hF0) (by omega)) rfl ?_; clear S a; intro v F1 a w hv hF1 S; obtain ⟨vt, rfl, hvt⟩ := hv; have hvt2 := hvt; obtain ⟨ao, cap, rfl, hcap, -⟩ := hvt2) | (refine wpl_callF S rfl rfl rfl rfl rfl rfl (tokensCt (J (tokens s).1) F2 (((hF.mono hF0).mono hF1).mono hF2) (by omega)) rfl ?_; clear S a; intro v F3 a w hv hF3 S; obtain ⟨vm, rfl, hvm⟩ := hv; rw [hm] at S hvm; replace hvt := hvt.mono hF3))
    (refine wpl_v S rfl rfl rfl (sv_pure S rfl) ?_; clear S a; intro a S)
    (refine wpl_v S rfl rfl rfl (sv_pure S rfl) ?_; clear S a; intro a S)
    (refine wpl_v S rfl rfl rfl (sv_pure S rfl) ?_; clear S a; intro a S)
    (refine wpl_v S rfl rfl rfl (sv_pure S rfl) ?_; clear S a; intro a S)
    (refine wpl_alloc S rfl rfl rfl rfl ?_; clear S a; intro b4 a w S)
    (refine wpl_v S rfl rfl rfl (sv_pure S rfl) ?_; clear S a; intro a S)
    (refine wpl_storeO S rfl rfl rfl rfl rfl (by rfl) (by simp [Value.cells, Value.oneCell', splice]) (by rfl) ?_; clear S; intro w S)
    (refine wpl_v S rfl rfl rfl (sv_pure S rfl) ?_; clear S a; intro a S)
    refine wpList_nil ?_
    (refine hKq4 _ _ ?_; try (clear hKq4 Kq4))
    (refine wp_seq_k ?_; intro Kq5 hKq5)
    (refine wp_seq_k ?_; intro Kq6 hKq6)
    refine wp_region_lit ?_
    (refine wpl_v S rfl rfl rfl (sv_pure S rfl) ?_; clear S a; intro a S)
    (refine wpl_v S rfl rfl rfl (sv_pure S rfl) ?_; clear S a; intro a S)
    refine wpList_nil ?_
    (refine hKq6 _ _ ?_; try (clear hKq6 Kq6))
    refine wpc_split S rfl (fun h => ?_) (fun h => ?_)
    · (skip; (try simp only [decide_eq_true_eq, decide_eq_false_iff_not, beq_iff_eq, bne_iff_ne, bne_eq_false_iff_eq, beq_eq_false_iff_ne, ne_eq, Bool.not_eq_true', Bool.not_eq_false', Bool.not_eq_true, Bool.not_eq_false, Bool.not_true, Bool.not_false, Int.ofNat_lt, Int.ofNat_le, Nat.not_lt, Nat.not_le] at h))
      (refine wp_seq_k ?_; intro Kq7 hKq7)
      refine wp_region_lit ?_
      (refine wpl_v S rfl rfl rfl (sv_pure S rfl) ?_; clear S a; intro a S)
      (refine wpl_v S rfl rfl rfl (sv_lenSl S rfl rfl) ?_; clear S a; intro a S)
      (refine wpl_v S rfl rfl rfl (sv_pure S rfl) ?_; clear S a; intro a S)
      (refine wpl_v S rfl rfl rfl (sv_pure S rfl) ?_; clear S a; intro a S)
      refine wpList_nil ?_
      (refine hKq7 _ _ ?_; try (clear hKq7 Kq7))
      refine wp_ret ?_
      refine fin_ret S (results1 Tryd.results5 (RV.tmp S rfl)) ?_
      (first | rfl | (rw [tokens_err (by assumption)]; rfl) | rw [hsm])
    · (skip; (try simp only [decide_eq_true_eq, decide_eq_false_iff_not, beq_iff_eq, bne_iff_ne, bne_eq_false_iff_eq, beq_eq_false_iff_ne, ne_eq, Bool.not_eq_true', Bool.not_eq_false', Bool.not_eq_true, Bool.not_eq_false, Bool.not_true, Bool.not_false, Int.ofNat_lt, Int.ofNat_le, Nat.not_lt, Nat.not_le] at h))
      refine wp_skip ?_
      (refine hKq5 _ _ ?_; try (clear hKq5 Kq5))
      (refine wp_seq_k ?_; intro Kq7 hKq7)
      (have hbl := back_len (s := s) (by omega); rw [joined_J] at hbl; have hml := tokens_len (J (tokens s).1); obtain ⟨m, hm, hsm⟩ := back_ok (s := s) (by assumption) (by omega); rw [hm] at hml; simp only at hml)
      refine wp_region_lit ?_
      (refine wpl_v S rfl rfl rfl (sv_pure S rfl) ?_; clear S a; intro a S)
      (refine wpl_callF S rfl rfl rfl rfl rfl rfl (lexShowCt (tokens s).1 _ F1 (by omega) (by omega) hvt) rfl ?_; clear S a; intro v F2 a w hv hF2 S; subst hv; rw [joined_J] at S; replace hvt := hvt.mono hF2)
      (refine wpl_v S rfl rfl rfl (sv_pure S rfl) ?_; clear S a; intro a S)
      refine wpList_nil ?_
      (refine hKq7 _ _ ?_; try (clear hKq7 Kq7))
      (refine wp_seq_k ?_; intro Kq8 hKq8)
      refine wp_region_lit ?_
      (refine wpl_v S rfl rfl rfl (sv_pure S rfl) ?_; clear S a; intro a S)
      (first | (refine wpl_callF S rfl rfl rfl rfl rfl rfl (tokensCt s F0 (hF.mono hF0) (by omega)) rfl ?_; clear S a; intro v F1 a w hv hF1 S; obtain ⟨vt, rfl, hvt⟩ := hv; have hvt2 := hvt; obtain ⟨ao, cap, rfl, hcap, -⟩ := hvt2) | (refine wpl_callF S rfl rfl rfl rfl rfl rfl (tokensCt (J (tokens s).1) F2 (((hF.mono hF0).mono hF1).mono hF2) (by omega)) rfl ?_; clear S a; intro v F3 a w hv hF3 S; obtain ⟨vm, rfl, hvm⟩ := hv; rw [hm] at S hvm; replace hvt := hvt.mono hF3))
      (refine wpl_v S rfl rfl rfl (sv_pure S rfl) ?_; clear S a; intro a S)
      (refine wpl_v S rfl rfl rfl (sv_pure S rfl) ?_; clear S a; intro a S)
      (refine wpl_v S rfl rfl rfl (sv_pure S rfl) ?_; clear S a; intro a S)
      (refine wpl_v S rfl rfl rfl (sv_pure S rfl) ?_; clear S a; intro a S)
      (refine wpl_alloc S rfl rfl rfl rfl ?_; clear S a; intro b8 a w S)
      (refine wpl_v S rfl rfl rfl (sv_pure S rfl) ?_; clear S a; intro a S)
      (refine wpl_storeO S rfl rfl rfl rfl rfl (by rfl) (by simp [Value.cells, Value.oneCell', splice]) (by rfl) ?_; clear S; intro w S)
      (refine wpl_v S rfl rfl rfl (sv_pure S rfl) ?_; clear S a; intro a S)
      refine wpList_nil ?_
      (refine hKq8 _ _ ?_; try (clear hKq8 Kq8))
      (refine wp_seq_k ?_; intro Kq9 hKq9)
      (refine wp_seq_k ?_; intro Kq10 hKq10)
      refine wp_region_lit ?_
      (refine wpl_v S rfl rfl rfl (sv_pure S rfl) ?_; clear S a; intro a S)
      (refine wpl_v S rfl rfl rfl (sv_lenS S rfl rfl) ?_; clear S a; intro a S)
      (refine wpl_v S rfl rfl rfl (sv_lit (c := false) (sv_pure S rfl) (by simp; omega)) ?_; clear S a; intro a S)
      refine wpList_nil ?_
      (refine hKq10 _ _ ?_; try (clear hKq10 Kq10))
      refine wpc_false S rfl ?_
      refine wp_skip ?_
      (refine hKq9 _ _ ?_; try (clear hKq9 Kq9))
      (refine wp_seq_k ?_; intro Kq11 hKq11)
      refine wp_region_lit ?_
      (refine wpl_v S rfl rfl rfl (sv_pure S rfl) ?_; clear S a; intro a S)
      (refine wpl_v S rfl rfl rfl (sv_lit (c := true) (sv_pure S rfl) (by simp)) ?_; clear S a; intro a S)
      (refine wpl_v S rfl rfl rfl (sv_pure S rfl) ?_; clear S a; intro a S)
      refine wpl_take S rfl rfl rfl ?_
      (refine wpl_v S rfl rfl rfl (sv_pure S rfl) ?_; clear S a; intro a S)
      refine wpl_take S rfl rfl rfl ?_
      (first | (refine wpl_callF S rfl rfl rfl rfl rfl rfl (ofCt (tokens s).1 _ F3 (by omega) hvt) rfl ?_; clear S a; intro vo F4 a w hvo hF4 S; replace hvm := hvm.mono hF4) | (refine wpl_callF S rfl rfl rfl rfl rfl rfl (ofCt m vm F4 (by omega) hvm) rfl ?_; clear S a; intro vp F5 a w hvp hF5 S; replace hvo := hvo.mono hF5))
      refine wpl_take S rfl rfl rfl ?_
      (refine wpl_v S rfl rfl rfl (sv_pure S rfl) ?_; clear S a; intro a S)
      refine wpl_take S rfl rfl rfl ?_
      (first | (refine wpl_callF S rfl rfl rfl rfl rfl rfl (ofCt (tokens s).1 _ F3 (by omega) hvt) rfl ?_; clear S a; intro vo F4 a w hvo hF4 S; replace hvm := hvm.mono hF4) | (refine wpl_callF S rfl rfl rfl rfl rfl rfl (ofCt m vm F4 (by omega) hvm) rfl ?_; clear S a; intro vp F5 a w hvp hF5 S; replace hvo := hvo.mono hF5))
      refine wpl_take S rfl rfl rfl ?_
      (refine wpl_call0 S rfl rfl rfl rfl rfl rfl (sameCt (tokens s).1 m vo vp false F5 (by omega) hvo hvp) rfl ?_; clear S a; intro v a w hv S; subst hv)
      first | (refine wpl_v S rfl rfl rfl (sv_pure S rfl) ?_; clear S a; intro a S) | (refine wpl_v S rfl rfl rfl (sv_pickB S rfl rfl rfl rfl) ?_; clear S a; intro a S)
      (refine wpl_v S rfl rfl rfl (sv_pure S rfl) ?_; clear S a; intro a S)
      refine wpList_nil ?_
      (refine hKq11 _ _ ?_; try (clear hKq11 Kq11))
      refine wp_ret ?_
      refine fin_ret S (results1 Tryd.results5 (RV.tmp S rfl)) ?_
      (first | rfl | (rw [tokens_err (by assumption)]; rfl) | rw [hsm])
end Go.Proofs.YtpgnmnacfilnkaaDoor
