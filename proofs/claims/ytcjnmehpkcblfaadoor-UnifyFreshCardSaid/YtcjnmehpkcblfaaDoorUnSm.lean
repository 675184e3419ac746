/- The walks of may, none, slices.Index over texts, slices.EqualFunc over types, Same. -/
import Derived.Test.YtcjnmehpkcblfaaDoorUnW
namespace Go.Proofs.YtcjnmehpkcblfaaDoor
open Go Go.Wk Go.Un
set_option linter.unusedSimpArgs false
set_option linter.unusedVariables false
attribute [local irreducible] Go.wpList Go.Code.wp Go.wpStill Go.Wk.wpPre Go.bodyPost Go.Calls Go.Wk.Ct Go.Wk.OwnS
attribute [local irreducible] Go.Wk.wpG Go.Wk.wpM

theorem may1Ct (F : Heap) (nm : List UInt8) (ar : Fo) (cs : List Value) (h : TyC F cs nm ar) : Ct Tryd.prog 32 [.agg ⟨cs⟩] F [] (fun _ _ u => u = .bool (!may nm ar)) := by
  have h0 := h
  obtain ⟨v, rfl, ao, cap, rfl, hcap, hpos⟩ := h
  refine Ct.enter Tryd.func32 rfl Tryd.ntmps32 rfl fun w0 a S => ?_
  (refine wp_seq_k ?_; intro Kq1 hKq1)
  refine wp_region_lit ?_
  (refine wpl_box S rfl rfl rfl rfl rfl ?_; clear S a; intro b1 a w S)
  (refine wpl_v S rfl rfl rfl (sv_pure S rfl) ?_; clear S a; intro a S)
  refine wpList_nil ?_
  (refine hKq1 _ _ ?_; try (clear hKq1 Kq1))
  (refine wp_seq_k ?_; intro Kq2 hKq2)
  refine wp_region_lit ?_
  first | (refine wpl_v S rfl rfl rfl (sv_loadAO S rfl rfl (by rfl)) ?_; clear S a; intro a S) | (refine wpl_v S rfl rfl rfl (sv_loadAF S rfl rfl (by assumption) (by rfl)) ?_; clear S a; intro a S)
  (refine wpl_call0 S rfl rfl rfl rfl rfl rfl (mayCt F nm ar _ h0) rfl ?_; clear S a; intro v a w hv S; subst hv)
  (refine wpl_v S rfl rfl rfl (sv_pure S rfl) ?_; clear S a; intro a S)
  (refine wpl_v S rfl rfl rfl (sv_pure S rfl) ?_; clear S a; intro a S)
  refine wpList_nil ?_
  (refine hKq2 _ _ ?_; try (clear hKq2 Kq2))
  refine wp_ret ?_
  refine fin_ret S (results1 Tryd.results32 (RV.tmp S rfl)) ?_
  rfl
def mayL : Fo → Bool
  | .nil => true
  | .cons nm ar r => may nm ar && mayL r
theorem findP_may : ∀ (l : Fo) (n : Int), findP (fun nm ar n => (!may nm ar, n)) l n = (!mayL l, n)
  | .nil, n => rfl
  | .cons nm ar r, n => by
    rw [findP_cons, findP_may r]
    show _ = (!(may nm ar && mayL r), n)
    cases may nm ar <;> simp
theorem mayLCt (F : Heap) (l : Fo) (v : Value) (h : SlF F v l) : Ct Tryd.prog 17 [v] F [] (fun _ _ u => u = .bool (mayL l)) := by
  have hc := containsFuncCt F l v h 32 [] [] (fun _ => []) (fun nm ar n => (!may nm ar, n)) (fun _ => True) (fun _ _ _ _ _ _ => trivial) (fun k x v1 n hx h1 _ => ct_nil (Post := fun _ u => u = .bool (!may x.1 x.2)) (may1Ct F x.1 x.2 _ ⟨_, rfl, h1⟩)) 0 trivial
  obtain ⟨ao, cap, rfl, hcap, hpos⟩ := h
  refine Ct.enter Tryd.func17 rfl Tryd.ntmps17 rfl fun w0 a S => ?_
  (refine wp_seq_k ?_; intro Kq1 hKq1)
  refine wp_region_lit ?_
  (refine wpl_v S rfl rfl rfl (sv_pure S rfl) ?_; clear S a; intro a S)
  refine wpList_nil ?_
  (refine hKq1 _ _ ?_; try (clear hKq1 Kq1))
  (refine wp_seq_k ?_; intro Kq2 hKq2)
  refine wp_region_lit ?_
  (refine wpl_v S rfl rfl rfl (sv_pure S rfl) ?_; clear S a; intro a S)
  (refine wpl_call0 S rfl rfl rfl rfl rfl rfl (hc.mono fun F' G' u hu => (show u = .bool (findP (fun nm ar n => (!may nm ar, n)) l 0).1 from hu.1)) rfl ?_; clear S a; intro v a w hv S; subst hv; rw [findP_may] at S)
  (refine wpl_v S rfl rfl rfl (sv_pure S rfl) ?_; clear S a; intro a S)
  (refine wpl_v S rfl rfl rfl (sv_pure S rfl) ?_; clear S a; intro a S)
  refine wpList_nil ?_
  (refine hKq2 _ _ ?_; try (clear hKq2 Kq2))
  refine wp_ret ?_
  refine fin_ret S (results1 Tryd.results17 (RV.tmp S rfl)) ?_
  simp
def idxOf (l : List (List UInt8)) (s : List UInt8) : Int := if s ∈ l then (l.idxOf s : Int) else -1
set_option maxHeartbeats 2000000 in
theorem indexSCt (F : Heap) (l : List (List UInt8)) (s : List UInt8) (v : Value) (h : SlC F v l.length (strs l)) (hl : l.length ≤ 9223372036854775807) : Ct Tryd.prog 36 [v, .string (bs s)] F [] (fun _ _ u => u = .int .i64 (idxOf l s)) := by
  obtain ⟨ao, cap, rfl, hcap, hpos⟩ := h
  refine Ct.enter Tryd.func36 rfl Tryd.ntmps36 rfl fun w0 a S => ?_
  (refine wp_seq_k ?_; intro Kq1 hKq1)
  refine wp_region_lit ?_
  (refine wpl_v S rfl rfl rfl (sv_pure S rfl) ?_; clear S a; intro a S)
  refine wpList_nil ?_
  (refine hKq1 _ _ ?_; try (clear hKq1 Kq1))
  (refine wp_seq_k ?_; intro Kq2 hKq2)
  (refine wp_seq_k ?_; intro Kq3 hKq3)
  refine wp_region_lit ?_
  (refine wpl_v S rfl rfl rfl (sv_pure S rfl) ?_; clear S a; intro a S)
  (refine wpl_v S rfl rfl rfl (sv_lenSl S rfl rfl) ?_; clear S a; intro a S)
  (refine wpl_v S rfl rfl rfl (sv_pure S rfl) ?_; clear S a; intro a S)
  refine wpList_nil ?_
  (refine hKq3 _ _ ?_; try (clear hKq3 Kq3))
  refine wp_block ?_
  refine wpc_loop (fun m a w' => ∃ (k : Nat), m = l.length - k ∧ k ≤ l.length ∧ (∀ j x, j < k → l[j]? = some x → x ≠ s) ∧ St 19 [(0, .slice ao l.length cap), (1, .string (bs s)), (7, .int .i64 l.length), (8, .int .i64 k)] w0 F [] F [] a w') ?_ ?_
  · (refine ⟨l.length, 0, by omega, Nat.zero_le _, fun j x h => absurd h (Nat.not_lt_zero _), ?_⟩; refine S.keep ?_; repeat (first | exact trivial | refine ⟨rfl, ?_⟩))
  · (clear S; rintro m a w ⟨k, rfl, hkl, hall, S⟩)
    (refine wp_seq_k ?_; intro Kq4 hKq4)
    refine wp_region_lit ?_
    (refine wpl_v S rfl rfl rfl (sv_pure S rfl) ?_; clear S a; intro a S)
    refine wpList_nil ?_
    (refine hKq4 _ _ ?_; try (clear hKq4 Kq4))
    (refine wp_seq_k ?_; intro Kq5 hKq5)
    refine wpc_split S rfl (fun h => ?_) (fun h => ?_)
    · (skip; (try simp only [decide_eq_true_eq, decide_eq_false_iff_not, beq_iff_eq, bne_iff_ne, bne_eq_false_iff_eq, beq_eq_false_iff_ne, ne_eq, Bool.not_eq_true', Bool.not_eq_false', Bool.not_eq_true, Bool.not_eq_false, Bool.not_true, Bool.not_false, Int.ofNat_lt, Int.ofNat_le, Nat.not_lt, Nat.not_le] at h))
      refine wp_skip ?_
      (refine hKq5 _ _ ?_; try (clear hKq5 Kq5))
      (refine wp_seq_k ?_; intro Kq6 hKq6)
      refine wp_block ?_
      (refine wp_seq_k ?_; intro Kq7 hKq7)
      refine wp_region_lit ?_
      (refine wpl_v S rfl rfl rfl (sv_pure S rfl) ?_; clear S a; intro a S)
      (refine wpl_v S rfl rfl rfl (sv_pure S rfl) ?_; clear S a; intro a S)
      refine wpList_nil ?_
      (refine hKq7 _ _ ?_; try (clear hKq7 Kq7))
      (refine wp_seq_k ?_; intro Kq8 hKq8)
      (obtain ⟨x, hx⟩ : ∃ x, l[k]? = some x := ⟨_, List.getElem?_eq_getElem (by omega)⟩; obtain ⟨b8, o8, hao, hcs⟩ := hpos (by omega); rw [hao] at S; have hc1 : Cel F b8 (o8 + k * 1) (.string (bs x)) := (by rw [Nat.mul_one]; exact hcs k _ (by rw [strs, List.getElem?_map, hx]; rfl)))
      refine wp_region_lit ?_
      (refine wpl_v S rfl rfl rfl (sv_pure S rfl) ?_; clear S a; intro a S)
      (refine wpl_v S rfl rfl rfl (sv_pure S rfl) ?_; clear S a; intro a S)
      (refine wpl_v S rfl rfl rfl (sv_pure S rfl) ?_; clear S a; intro a S)
      (refine wpl_v S rfl rfl rfl (sv_indexAddrSl S rfl rfl rfl (by first | omega | (simp only [List.length_append, List.length_cons, List.length_nil]; omega))) ?_; clear S a; intro a S)
      first | (refine wpl_v S rfl rfl rfl (sv_loadO S rfl rfl (by rfl)) ?_; clear S a; intro a S) | (refine wpl_v S rfl rfl rfl (sv_loadF S rfl rfl (by assumption)) ?_; clear S a; intro a S)
      (refine wpl_v S rfl rfl rfl (sv_pure S rfl) ?_; clear S a; intro a S)
      refine wpList_nil ?_
      (refine hKq8 _ _ ?_; try (clear hKq8 Kq8))
      refine wpc_split S rfl (fun h => ?_) (fun h => ?_)
      · (skip; (try simp only [decide_eq_true_eq, decide_eq_false_iff_not, beq_iff_eq, bne_iff_ne, bne_eq_false_iff_eq, beq_eq_false_iff_ne, ne_eq, Bool.not_eq_true', Bool.not_eq_false', Bool.not_eq_true, Bool.not_eq_false, Bool.not_true, Bool.not_false, Int.ofNat_lt, Int.ofNat_le, Nat.not_lt, Nat.not_le] at h))
        (refine wp_seq_k ?_; intro Kq9 hKq9)
        refine wp_region_lit ?_
        (refine wpl_v S rfl rfl rfl (sv_pure S rfl) ?_; clear S a; intro a S)
        (refine wpl_v S rfl rfl rfl (sv_pure S rfl) ?_; clear S a; intro a S)
        refine wpList_nil ?_
        (refine hKq9 _ _ ?_; try (clear hKq9 Kq9))
        refine wp_ret ?_
        refine fin_ret S (results1 Tryd.results36 (RV.tmp S rfl)) ?_
        (first | (have he : s = x := (by first | assumption | simpa using h); subst he; have hm : s ∈ l := List.mem_of_getElem? hx; have hi : l.idxOf s = k := (by have h1 := List.idxOf_lt_length_iff.2 hm; rcases Nat.lt_trichotomy (l.idxOf s) k with h2 | h2 | h2; exact absurd (List.getElem_idxOf h1) (hall _ _ h2 (List.getElem?_eq_getElem h1)); exact h2; (exfalso; have h3 := List.not_of_lt_findIdx (p := (· == s)) (xs := l) h2; rw [(List.getElem?_eq_some_iff.1 hx).2] at h3; simp at h3)); unfold idxOf; rw [if_pos hm, hi]) | (have hm : ¬ s ∈ l := (by intro hm; obtain ⟨j, hj⟩ := List.mem_iff_getElem?.1 hm; exact hall j s (by have := (List.getElem?_eq_some_iff.1 hj).1; omega) hj rfl); unfold idxOf; rw [if_neg hm]) | trace_state)
      · (skip; (try simp only [decide_eq_true_eq, decide_eq_false_iff_not, beq_iff_eq, bne_iff_ne, bne_eq_false_iff_eq, beq_eq_false_iff_ne, ne_eq, Bool.not_eq_true', Bool.not_eq_false', Bool.not_eq_true, Bool.not_eq_false, Bool.not_true, Bool.not_false, Int.ofNat_lt, Int.ofNat_le, Nat.not_lt, Nat.not_le] at h))
        refine wp_skip ?_
        (refine hKq6 _ _ ?_; try (clear hKq6 Kq6))
        refine wp_region_lit ?_
        (refine wpl_v S rfl rfl rfl (sv_add S rfl rfl rfl (by first | omega | (simp only [List.length_append, List.length_cons, List.length_nil]; omega))) ?_; clear S a; intro a S)
        (refine wpl_v S rfl rfl rfl (sv_pure S rfl) ?_; clear S a; intro a S)
        refine wpList_nil ?_
        change ∃ m', _ ∧ _
        (rw [← hao] at S; refine ⟨l.length - (k + 1), by omega, k + 1, rfl, by omega, ?_, ?_⟩; rotate_left 1; (refine S.keep ?_; repeat (first | exact trivial | refine ⟨rfl, ?_⟩)); intro j y h7 h8; rcases Nat.lt_or_eq_of_le (Nat.le_of_lt_succ h7) with h6 | h6; exact hall j y h6 h8; subst h6; rw [hx] at h8; cases h8; have hne : ¬ s = x := (by first | assumption | simpa using h); exact fun e => hne e.symm)
    · (skip; (try simp only [decide_eq_true_eq, decide_eq_false_iff_not, beq_iff_eq, bne_iff_ne, bne_eq_false_iff_eq, beq_eq_false_iff_ne, ne_eq, Bool.not_eq_true', Bool.not_eq_false', Bool.not_eq_true, Bool.not_eq_false, Bool.not_true, Bool.not_false, Int.ofNat_lt, Int.ofNat_le, Nat.not_lt, Nat.not_le] at h))
      refine wp_exit ?_
      (refine hKq2 _ _ ?_; try (clear hKq2 Kq2))
      (refine wp_seq_k ?_; intro Kq6 hKq6)
      refine wp_region_lit ?_
      (refine wpl_v S rfl rfl rfl (sv_pure S rfl) ?_; clear S a; intro a S)
      refine wpList_nil ?_
      (refine hKq6 _ _ ?_; try (clear hKq6 Kq6))
      refine wp_ret ?_
      refine fin_ret S (results1 Tryd.results36 (RV.tmp S rfl)) ?_
      (first | (have he : s = x := (by first | assumption | simpa using h); subst he; have hm : s ∈ l := List.mem_of_getElem? hx; have hi : l.idxOf s = k := (by have h1 := List.idxOf_lt_length_iff.2 hm; rcases Nat.lt_trichotomy (l.idxOf s) k with h2 | h2 | h2; exact absurd (List.getElem_idxOf h1) (hall _ _ h2 (List.getElem?_eq_getElem h1)); exact h2; (exfalso; have h3 := List.not_of_lt_findIdx (p := (· == s)) (xs := l) h2; rw [(List.getElem?_eq_some_iff.1 hx).2] at h3; simp at h3)); unfold idxOf; rw [if_pos hm, hi]) | (have hm : ¬ s ∈ l := (by intro hm; obtain ⟨j, hj⟩ := List.mem_iff_getElem?.1 hm; exact hall j s (by have := (List.getElem?_eq_some_iff.1 hj).1; omega) hj rfl); unfold idxOf; rw [if_neg hm]) | trace_state)
end Go.Proofs.YtcjnmehpkcblfaaDoor
