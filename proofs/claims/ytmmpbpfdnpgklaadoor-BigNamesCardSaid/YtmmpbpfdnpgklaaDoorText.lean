/- The walk of text of package big: a number's text, or the refusal where it has more than 200 digits. -/
import Derived.Test.YtmmpbpfdnpgklaaDoorFmt
namespace Go.Proofs.YtmmpbpfdnpgklaaDoor
open Go Go.Wk Go.Num
set_option linter.unusedSimpArgs false
set_option linter.unusedVariables false
attribute [local irreducible] Go.wpList Go.Code.wp Go.wpStill Go.Wk.wpPre Go.bodyPost Go.Calls Go.Wk.Ct Go.Wk.OwnS
attribute [local irreducible] Go.wpListIn Go.Code.wpIn Go.CallsIn Go.bodyPostM Go.Wk.roundP Go.Wk.wpG

/-- A number's text, and the refusal. -/
def showS (neg : Bool) (N : Nat) : List UInt8 × Int := if N = 0 then ([48], 0) else if 200 < (Lib.decDigits N).length then ([], 80) else ((if neg then [45] else []) ++ Lib.decDigits N, 0)
/-- What is written when the parts from j on are. -/
def tx (N j : Nat) : List UInt8 := if N / 1000000000 ^ j = 0 then [] else Lib.decDigits (N / 1000000000 ^ j)
theorem tx_top (N : Nat) : tx N (nd 1000000000 N) = [] := by unfold tx; rw [if_pos (Nat.div_eq_of_lt (lt_nd b2 N))]
theorem tx_zero {N : Nat} (h : 0 < N) : tx N 0 = Lib.decDigits N := by unfold tx; rw [Nat.pow_zero, Nat.div_one, if_neg (by omega)]
theorem div_top {N j : Nat} (h : j < nd 1000000000 N) : 0 < N / 1000000000 ^ j := by
  have hN : 0 < N := by
    rcases Nat.eq_zero_or_pos N with e | e
    · subst e; rw [nd_zero] at h; omega
    · exact e
  refine Nat.div_pos (Nat.le_trans (Nat.pow_le_pow_right (by decide) (by omega)) (le_pow_nd b2 hN)) (Nat.pow_pos (by decide))
theorem tx_step {N j : Nat} (h : j + 1 < nd 1000000000 N) : tx N j = tx N (j + 1) ++ (List.replicate (9 - (Lib.decDigits (dig 1000000000 N j)).length) 48 ++ Lib.decDigits (dig 1000000000 N j)) := by
  have h1 := div_top h
  have h0 := div_top (j := j) (N := N) (by omega)
  unfold tx
  rw [if_neg (by omega), if_neg (by omega), div_eq 1000000000 N j, Nat.mul_comm]
  exact dd_cat9 h1 (dig_lt b2 N j)
theorem tx_first {N j : Nat} (h : j + 1 = nd 1000000000 N) : tx N j = tx N (j + 1) ++ Lib.decDigits (dig 1000000000 N j) := by
  have h0 := div_top (j := j) (N := N) (by omega)
  rw [h, tx_top]
  unfold tx
  rw [if_neg (by omega), div_eq 1000000000 N j, h, Nat.div_eq_of_lt (lt_nd b2 N)]
  simp
theorem tx_len0 {N j M : Nat} (hM : 9 * nd 1000000000 N ≤ M) (h0 : M ≠ 0) : (tx N j).length ≤ M := by
  unfold tx
  split
  · simp
  · rename_i h
    have hlt : N / 1000000000 ^ j < 10 ^ M := by
      refine Nat.lt_of_le_of_lt (Nat.div_le_self _ _) (Nat.lt_of_lt_of_le (lt_nd b2 N) ?_)
      have e : (1000000000 : Nat) = 10 ^ 9 := by decide
      rw [e, ← Nat.pow_mul]
      rw [e] at hM
      exact Nat.pow_le_pow_right (by decide) hM
    exact dd_len hlt h0
theorem tx_len {N j : Nat} (hN : nd 1000000000 N ≤ 1000000) : (tx N j).length ≤ 9000000 := tx_len0 (by omega) (by decide)
theorem perm3 {X g Y : Grp} {p : Nat × Obj} : (([p] :: [X, g, Y] : List Grp)).flatten.Perm (([X, g] : List Grp).flatten ++ ([[p], Y] : List Grp).flatten) := by
  simp only [List.flatten_cons, List.flatten_nil, List.append_nil, List.singleton_append, List.append_assoc]
  have := (List.perm_middle (a := p) (l₁ := X ++ g) (l₂ := Y)).symm
  simpa only [List.append_assoc] using this

set_option maxHeartbeats 4000000 in
theorem textCt (neg : Bool) (N : Nat) (u : Value) (F : Heap) (hT : TabF F) (hlN : nd 1000000000 N ≤ 1000000) (hu : NumV F u neg N) :
    Ct Tryd.prog 35 [u] F [] (fun _ _ r => r = .tuple ⟨[.string (bs (showS neg N).1), .int .i64 (showS neg N).2]⟩) := by
  obtain ⟨pu, rfl, hpu⟩ := hu
  have hu0 := hpu
  obtain ⟨ao, ca, rfl, hca, hpa⟩ := hu0
  have hlen := fun j => tx_len (j := j) hlN
  generalize hK : nd 1000000000 N = K at *
  refine Ct.enterM Tryd.func35 rfl Tryd.ntmps35 rfl fun w0 a S => ?_
  (refine wpIn_seq_k ?_; intro Kq1 hKq1)
  refine wpi_region rfl ?_
  (refine wpl_box S rfl rfl rfl rfl rfl ?_; clear S a; intro b1 a w S)
  (refine wpl_v S rfl rfl rfl (sv_pure S rfl) ?_; clear S a; intro a S)
  (refine wpl_v S rfl rfl rfl (sv_pure S rfl) ?_; clear S a; intro a S)
  refine wpList_nil ?_
  (refine hKq1 _ _ ?_; try (clear hKq1 Kq1))
  (refine wpIn_seq_k ?_; intro Kq2 hKq2)
  (refine wpIn_seq_k ?_; intro Kq3 hKq3)
  refine wpi_region rfl ?_
  (refine wpl_v S rfl rfl rfl (sv_fieldAddr S rfl rfl rfl inferInstance rfl) ?_; clear S a; intro a S)
  first | (refine wpl_v S rfl rfl rfl (sv_loadO S rfl rfl (by rfl)) ?_; clear S a; intro a S) | (refine wpl_v S rfl rfl rfl (sv_loadF S rfl rfl (by assumption)) ?_; clear S a; intro a S)
  (refine wpl_v S rfl rfl rfl (sv_lenSl S rfl rfl) ?_; clear S a; intro a S)
  (refine wpl_v S rfl rfl rfl (sv_pure S rfl) ?_; clear S a; intro a S)
  refine wpList_nil ?_
  (refine hKq3 _ _ ?_; try (clear hKq3 Kq3))
  refine wpi_split S rfl (fun h => ?_) (fun h => ?_)
  · (skip; (try simp only [decide_eq_true_eq, decide_eq_false_iff_not, beq_iff_eq, bne_iff_ne, bne_eq_false_iff_eq, beq_eq_false_iff_ne, ne_eq, Bool.not_eq_true', Bool.not_eq_false', Bool.not_eq_true, Bool.not_eq_false, Bool.not_true, Bool.not_false, Int.ofNat_lt, Int.ofNat_le, Nat.not_lt, Nat.not_le] at h))
    (refine wpIn_seq_k ?_; intro Kq4 hKq4)
    refine wpi_region rfl ?_
    (refine wpl_v S rfl rfl rfl (sv_pure S rfl) ?_; clear S a; intro a S)
    (refine wpl_v S rfl rfl rfl (sv_pure S rfl) ?_; clear S a; intro a S)
    refine wpList_nil ?_
    (refine hKq4 _ _ ?_; try (clear hKq4 Kq4))
    refine wpIn_ret ?_
    refine fin_retN S (results2 Tryd.results35 (RV.tmp S rfl) (RV.tmp S rfl)) ?_
    (rw [show showS neg N = ([48], 0) from (by unfold showS; rw [if_pos (nd_eq_zero b2 (by omega))])]; rfl)
  · (skip; (try simp only [decide_eq_true_eq, decide_eq_false_iff_not, beq_iff_eq, bne_iff_ne, bne_eq_false_iff_eq, beq_eq_false_iff_ne, ne_eq, Bool.not_eq_true', Bool.not_eq_false', Bool.not_eq_true, Bool.not_eq_false, Bool.not_true, Bool.not_false, Int.ofNat_lt, Int.ofNat_le, Nat.not_lt, Nat.not_le] at h))
    refine wpIn_skip ?_
    (refine hKq2 _ _ ?_; try (clear hKq2 Kq2))
    (refine wpIn_seq_k ?_; intro Kq4 hKq4)
    refine wpi_region rfl ?_
    (refine wpl_alloc S rfl rfl rfl rfl ?_; clear S a; intro b4 a w S)
    refine wpList_nil ?_
    (refine hKq4 _ _ ?_; try (clear hKq4 Kq4))
    (refine wpIn_seq_k ?_; intro Kq5 hKq5)
    (refine wpIn_seq_k ?_; intro Kq6 hKq6)
    (replace S : St _ _ _ _ _ _ [bldG b4 (.pointer none) (.slice none 0 0), [], [(b1, .cells ⟨[.bool neg, .slice ao K ca]⟩ 49 (0, 0))]] _ _ := ⟨S.fr, S.tr.perm (.refl _)⟩)
    refine wpi_region rfl ?_
    (refine wpl_v S rfl rfl rfl (sv_fieldAddr S rfl rfl rfl inferInstance rfl) ?_; clear S a; intro a S)
    first | (refine wpl_v S rfl rfl rfl (sv_loadO S rfl rfl (by rfl)) ?_; clear S a; intro a S) | (refine wpl_v S rfl rfl rfl (sv_loadF S rfl rfl (by assumption)) ?_; clear S a; intro a S)
    (refine wpl_callFrz S rfl rfl rfl rfl rfl rfl (backwardCt _ F) rfl ?_; clear S a; intro bx F5 a w hF5 hbx S; have hbox := hbx 0 _ rfl; have hT5 := hT.mono hF5)
    refine wpList_nil ?_
    (refine hKq6 _ _ ?_; try (clear hKq6 Kq6))
    refine wpIn_block ?_
    refine wpi_back S rfl rfl rfl rfl (backIter bx K (dig 1000000000 N) F5 ao ca (by omega) hbox (fun h0 => by obtain ⟨b, off, h1, h2⟩ := hpa h0; exact ⟨b, off, h1, h2.mono hF5⟩)) (fun j F2 G2 => F5 = F2 ∧ ∃ p v g, G2 = [bldG b4 p v, g, [(b1, .cells ⟨[.bool neg, .slice ao K ca]⟩ 49 (0, 0))]] ∧ bldP b4 p ∧ OwnS 5 1 v (tx N j).length (u8c (tx N j)) g) (fun _ _ => False) (⟨rfl, .pointer none, .slice none 0 0, [], rfl, .inl rfl, (by rw [show tx N K = [] from (by rw [← hK]; exact tx_top N)]; exact OwnS.nil _ _)⟩) (fun j => [(5, .int .i64 (j : Int)), (6, .int .i64 ((dig 1000000000 N j : Nat) : Int)), (1, .pointer (some ⟨b1, 0, none⟩)), (4, .pointer (some ⟨b4, 0, none⟩))]) ?_ ?_ ?_ ?_
    · (clear S; intro r j w F1 G1 a KA S hKA)
      (refine wpIn_seq_k ?_; intro Kq7 hKq7)
      refine wpi_region rfl ?_
      (refine wpl_v S rfl rfl rfl (sv_pure S rfl) ?_; clear S a; intro a S)
      refine wpList_nil ?_
      (refine hKq7 _ _ ?_; try (clear hKq7 Kq7))
      refine wpi_region rfl ?_
      (refine wpl_v S rfl rfl rfl (sv_pure S rfl) ?_; clear S a; intro a S)
      refine wpList_nil ?_
      (refine hKA _ ?_; refine S.keep ?_; repeat (first | exact trivial | refine ⟨rfl, ?_⟩))
    · (clear S; intro r j w F1 G1 a hj hF1 hI S)
      (obtain ⟨rfl, p, v, g, rfl, hp, hown⟩ := hI; have hdj := dig_lt b2 N j; have hdp := dd_pos (dig 1000000000 N j); have hdl : (Lib.decDigits (dig 1000000000 N j)).length ≤ 9 := dd_len (m := 9) hdj (by decide); have hlj := hlen (j + 1))
      refine wpIn_block ?_
      (refine wpIn_seq_k ?_; intro Kq8 hKq8)
      refine wpi_region rfl ?_
      (refine wpl_v S rfl rfl rfl (sv_pure S rfl) ?_; clear S a; intro a S)
      (refine wpl_call0 S rfl rfl rfl rfl rfl rfl (formatCt (dig 1000000000 N j) F5 (by omega) hT5) rfl ?_; clear S a; intro v a w hv S; subst hv)
      (refine wpl_v S rfl rfl rfl (sv_pure S rfl) ?_; clear S a; intro a S)
      refine wpList_nil ?_
      (refine hKq8 _ _ ?_; try (clear hKq8 Kq8))
      (refine wpIn_seq_k ?_; intro Kq9 hKq9)
      (refine wpIn_seq_k ?_; intro Kq10 hKq10)
      refine wpi_region rfl ?_
      (refine wpl_v S rfl rfl rfl (sv_pure S rfl) ?_; clear S a; intro a S)
      (refine wpl_v S rfl rfl rfl (sv_fieldAddr S rfl rfl rfl inferInstance rfl) ?_; clear S a; intro a S)
      first | (refine wpl_v S rfl rfl rfl (sv_loadO S rfl rfl (by rfl)) ?_; clear S a; intro a S) | (refine wpl_v S rfl rfl rfl (sv_loadF S rfl rfl (by assumption)) ?_; clear S a; intro a S)
      (refine wpl_v S rfl rfl rfl (sv_lenSl S rfl rfl) ?_; clear S a; intro a S)
      first | (refine wpl_v S rfl rfl rfl (sv_subN (q := 1) S rfl rfl rfl (by omega)) ?_; clear S a; intro a S) | (refine wpl_v S rfl rfl rfl (sv_sub S rfl rfl rfl (by omega)) ?_; clear S a; intro a S)
      (refine wpl_v S rfl rfl rfl (sv_pure S rfl) ?_; clear S a; intro a S)
      refine wpList_nil ?_
      (refine hKq10 _ _ ?_; try (clear hKq10 Kq10))
      refine wpi_split S rfl (fun h => ?_) (fun h => ?_)
      · (skip; (try simp only [decide_eq_true_eq, decide_eq_false_iff_not, beq_iff_eq, bne_iff_ne, bne_eq_false_iff_eq, beq_eq_false_iff_ne, ne_eq, Bool.not_eq_true', Bool.not_eq_false', Bool.not_eq_true, Bool.not_eq_false, Bool.not_true, Bool.not_false, Int.ofNat_lt, Int.ofNat_le, Nat.not_lt, Nat.not_le] at h))
        refine wpi_region rfl ?_
        (refine wpl_v S rfl rfl rfl (sv_pure S rfl) ?_; clear S a; intro a S)
        (refine wpl_v S rfl rfl rfl (sv_lenS S rfl rfl) ?_; clear S a; intro a S)
        first | (refine wpl_v S rfl rfl rfl (sv_subN (p := 9) S rfl rfl rfl (by omega)) ?_; clear S a; intro a S) | (refine wpl_v S rfl rfl rfl (sv_sub S rfl rfl rfl (by omega)) ?_; clear S a; intro a S)
        (refine wpl_call0 S rfl rfl rfl rfl rfl rfl (repeatCt 48 (9 - (Lib.decDigits (dig 1000000000 N j)).length) F5 (by omega)) rfl ?_; clear S a; intro v a w hv S; subst hv)
        (refine wpl_v S rfl rfl rfl (sv_pure S rfl) ?_; clear S a; intro a S)
        (refine wpl_v S rfl rfl rfl (sv_cat S rfl rfl rfl (by rw [List.length_replicate]; omega)) ?_; clear S a; intro a S)
        (refine wpl_v S rfl rfl rfl (sv_pure S rfl) ?_; clear S a; intro a S)
        refine wpList_nil ?_
        (refine hKq9 _ _ ?_; try (clear hKq9 Kq9))
        refine wpi_region rfl ?_
        (refine wpl_v S rfl rfl rfl (sv_pure S rfl) ?_; clear S a; intro a S)
        (first | (refine wpl_callOwn (Gs := [bldG b4 p v, g]) (Gr := [[(b1, .cells ⟨[.bool neg, .slice ao K ca]⟩ 49 (0, 0))]]) S rfl rfl rfl rfl rfl rfl (writeStringCt b4 p v _ (tx N (j + 1)) (List.replicate (9 - (Lib.decDigits (dig 1000000000 N j)).length) 48 ++ Lib.decDigits (dig 1000000000 N j)) g F5 hp hown (by rw [List.length_append]; omega) (by rw [List.length_append, List.length_replicate]; omega)) rfl (by simp) ?_; rw [← List.length_append, ← tx_step (by omega)]) | (refine wpl_callOwn (Gs := [bldG b4 p v, g]) (Gr := [[(b1, .cells ⟨[.bool neg, .slice ao K ca]⟩ 49 (0, 0))]]) S rfl rfl rfl rfl rfl rfl (writeStringCt b4 p v _ (tx N (j + 1)) (Lib.decDigits (dig 1000000000 N j)) g F5 hp hown (by omega) (by omega)) rfl (by simp) ?_; rw [← List.length_append, ← tx_first (by omega)])); clear S a hown; intro u1 G1 a w hv1 S; obtain ⟨v1, g1, rfl, hown⟩ := hv1
        refine wpList_nil ?_
        skip
        refine round_normal S.tr ?_
        exact ⟨rfl, _, _, _, rfl, .inr rfl, hown⟩
      · (skip; (try simp only [decide_eq_true_eq, decide_eq_false_iff_not, beq_iff_eq, bne_iff_ne, bne_eq_false_iff_eq, beq_eq_false_iff_ne, ne_eq, Bool.not_eq_true', Bool.not_eq_false', Bool.not_eq_true, Bool.not_eq_false, Bool.not_true, Bool.not_false, Int.ofNat_lt, Int.ofNat_le, Nat.not_lt, Nat.not_le] at h))
        refine wpIn_skip ?_
        (refine hKq9 _ _ ?_; try (clear hKq9 Kq9))
        refine wpi_region rfl ?_
        (refine wpl_v S rfl rfl rfl (sv_pure S rfl) ?_; clear S a; intro a S)
        (first | (refine wpl_callOwn (Gs := [bldG b4 p v, g]) (Gr := [[(b1, .cells ⟨[.bool neg, .slice ao K ca]⟩ 49 (0, 0))]]) S rfl rfl rfl rfl rfl rfl (writeStringCt b4 p v _ (tx N (j + 1)) (List.replicate (9 - (Lib.decDigits (dig 1000000000 N j)).length) 48 ++ Lib.decDigits (dig 1000000000 N j)) g F5 hp hown (by rw [List.length_append]; omega) (by rw [List.length_append, List.length_replicate]; omega)) rfl (by simp) ?_; rw [← List.length_append, ← tx_step (by omega)]) | (refine wpl_callOwn (Gs := [bldG b4 p v, g]) (Gr := [[(b1, .cells ⟨[.bool neg, .slice ao K ca]⟩ 49 (0, 0))]]) S rfl rfl rfl rfl rfl rfl (writeStringCt b4 p v _ (tx N (j + 1)) (Lib.decDigits (dig 1000000000 N j)) g F5 hp hown (by omega) (by omega)) rfl (by simp) ?_; rw [← List.length_append, ← tx_first (by omega)])); clear S a hown; intro u1 G1 a w hv1 S; obtain ⟨v1, g1, rfl, hown⟩ := hv1
        refine wpList_nil ?_
        skip
        refine round_normal S.tr ?_
        exact ⟨rfl, _, _, _, rfl, .inr rfl, hown⟩
    · (clear S; intro D F1 G1 a w hF1 hI S)
      (obtain ⟨rfl, p, v, g, rfl, hp, hown⟩ := hI; have hN0 : 0 < N := (by rcases Nat.eq_zero_or_pos N with e | e; subst e; rw [nd_zero] at hK; omega; exact e); have hl0 := hlen 0; rw [tx_zero hN0] at hown hl0; have hdp := dd_pos N)
      (refine hKq5 _ _ ?_; try (clear hKq5 Kq5))
      (refine wpIn_seq_k ?_; intro Kq11 hKq11)
      (refine wpIn_seq_k ?_; intro Kq12 hKq12)
      refine wpi_region rfl ?_
      (refine wpl_callOwn (Gs := [bldG b4 p v, g]) (Gr := [[(D, .deferred (some []))], [(b1, .cells ⟨[.bool neg, .slice ao K ca]⟩ 49 (0, 0))]]) S rfl rfl rfl rfl rfl rfl (bldLenCt b4 p v _ _ g F5 hown) rfl perm3 ?_; clear S a; intro u1 G1 a w hv1 S; obtain ⟨rfl, rfl⟩ := hv1; replace S : St _ _ _ _ _ _ [bldG b4 p v, g, [(D, .deferred (some []))], [(b1, .cells ⟨[.bool neg, .slice ao K ca]⟩ 49 (0, 0))]] _ _ := S)
      (refine wpl_v S rfl rfl rfl (sv_pure S rfl) ?_; clear S a; intro a S)
      refine wpList_nil ?_
      (refine hKq12 _ _ ?_; try (clear hKq12 Kq12))
      refine wpi_split S rfl (fun h => ?_) (fun h => ?_)
      · (skip; (try simp only [decide_eq_true_eq, decide_eq_false_iff_not, beq_iff_eq, bne_iff_ne, bne_eq_false_iff_eq, beq_eq_false_iff_ne, ne_eq, Bool.not_eq_true', Bool.not_eq_false', Bool.not_eq_true, Bool.not_eq_false, Bool.not_true, Bool.not_false, Int.ofNat_lt, Int.ofNat_le, Nat.not_lt, Nat.not_le] at h))
        (refine wpIn_seq_k ?_; intro Kq13 hKq13)
        refine wpi_region rfl ?_
        (refine wpl_v S rfl rfl rfl (sv_pure S rfl) ?_; clear S a; intro a S)
        (refine wpl_v S rfl rfl rfl (sv_pure S rfl) ?_; clear S a; intro a S)
        refine wpList_nil ?_
        (refine hKq13 _ _ ?_; try (clear hKq13 Kq13))
        refine wpIn_ret ?_
        (refine fin_retM S fun w S => ?_; try (dsimp only at S))
        refine ⟨_, results2 Tryd.results35 (RV.tmp S rfl) (RV.tmp S rfl), ?_⟩
        (unfold showS; rw [if_neg (by omega)]; (first | (rw [if_pos (by omega)]; rfl) | (rw [if_neg (by omega)]; cases neg <;> first | rfl | (exfalso; simp at h))))
      · (skip; (try simp only [decide_eq_true_eq, decide_eq_false_iff_not, beq_iff_eq, bne_iff_ne, bne_eq_false_iff_eq, beq_eq_false_iff_ne, ne_eq, Bool.not_eq_true', Bool.not_eq_false', Bool.not_eq_true, Bool.not_eq_false, Bool.not_true, Bool.not_false, Int.ofNat_lt, Int.ofNat_le, Nat.not_lt, Nat.not_le] at h))
        refine wpIn_skip ?_
        (refine hKq11 _ _ ?_; try (clear hKq11 Kq11))
        (refine wpIn_seq_k ?_; intro Kq13 hKq13)
        (refine wpIn_seq_k ?_; intro Kq14 hKq14)
        refine wpi_region rfl ?_
        (refine wpl_v S rfl rfl rfl (sv_fieldAddr S rfl rfl rfl inferInstance rfl) ?_; clear S a; intro a S)
        first | (refine wpl_v S rfl rfl rfl (sv_loadO S rfl rfl (by rfl)) ?_; clear S a; intro a S) | (refine wpl_v S rfl rfl rfl (sv_loadF S rfl rfl (by assumption)) ?_; clear S a; intro a S)
        refine wpList_nil ?_
        (refine hKq14 _ _ ?_; try (clear hKq14 Kq14))
        refine wpi_split S rfl (fun h => ?_) (fun h => ?_)
        · (skip; (try simp only [decide_eq_true_eq, decide_eq_false_iff_not, beq_iff_eq, bne_iff_ne, bne_eq_false_iff_eq, beq_eq_false_iff_ne, ne_eq, Bool.not_eq_true', Bool.not_eq_false', Bool.not_eq_true, Bool.not_eq_false, Bool.not_true, Bool.not_false, Int.ofNat_lt, Int.ofNat_le, Nat.not_lt, Nat.not_le] at h))
          (refine wpIn_seq_k ?_; intro Kq15 hKq15)
          refine wpi_region rfl ?_
          (refine wpl_callOwn (Gs := [bldG b4 p v, g]) (Gr := [[(D, .deferred (some []))], [(b1, .cells ⟨[.bool neg, .slice ao K ca]⟩ 49 (0, 0))]]) S rfl rfl rfl rfl rfl rfl (bldStringCt b4 p v _ _ g F5 (by omega) hdp hown) rfl (by simp) ?_; clear S a; intro u1 G1 a w hv1 S; subst hv1; replace S : St _ _ _ _ _ _ [[(D, .deferred (some []))], [(b1, .cells ⟨[.bool neg, .slice ao K ca]⟩ 49 (0, 0))]] _ _ := ⟨S.fr, S.tr.sub (by rw [List.flatten_append]; exact List.sublist_append_right _ _)⟩)
          (refine wpl_v S rfl rfl rfl (sv_cat S rfl rfl rfl (by first | omega | (simp only [List.length_append, List.length_cons, List.length_nil]; omega))) ?_; clear S a; intro a S)
          (refine wpl_v S rfl rfl rfl (sv_pure S rfl) ?_; clear S a; intro a S)
          (refine wpl_v S rfl rfl rfl (sv_pure S rfl) ?_; clear S a; intro a S)
          refine wpList_nil ?_
          (refine hKq15 _ _ ?_; try (clear hKq15 Kq15))
          refine wpIn_ret ?_
          (refine fin_retM S fun w S => ?_; try (dsimp only at S))
          refine ⟨_, results2 Tryd.results35 (RV.tmp S rfl) (RV.tmp S rfl), ?_⟩
          (unfold showS; rw [if_neg (by omega)]; (first | (rw [if_pos (by omega)]; rfl) | (rw [if_neg (by omega)]; cases neg <;> first | rfl | (exfalso; simp at h))))
        · (skip; (try simp only [decide_eq_true_eq, decide_eq_false_iff_not, beq_iff_eq, bne_iff_ne, bne_eq_false_iff_eq, beq_eq_false_iff_ne, ne_eq, Bool.not_eq_true', Bool.not_eq_false', Bool.not_eq_true, Bool.not_eq_false, Bool.not_true, Bool.not_false, Int.ofNat_lt, Int.ofNat_le, Nat.not_lt, Nat.not_le] at h))
          refine wpIn_skip ?_
          (refine hKq13 _ _ ?_; try (clear hKq13 Kq13))
          (refine wpIn_seq_k ?_; intro Kq15 hKq15)
          refine wpi_region rfl ?_
          (refine wpl_callOwn (Gs := [bldG b4 p v, g]) (Gr := [[(D, .deferred (some []))], [(b1, .cells ⟨[.bool neg, .slice ao K ca]⟩ 49 (0, 0))]]) S rfl rfl rfl rfl rfl rfl (bldStringCt b4 p v _ _ g F5 (by omega) hdp hown) rfl (by simp) ?_; clear S a; intro u1 G1 a w hv1 S; subst hv1; replace S : St _ _ _ _ _ _ [[(D, .deferred (some []))], [(b1, .cells ⟨[.bool neg, .slice ao K ca]⟩ 49 (0, 0))]] _ _ := ⟨S.fr, S.tr.sub (by rw [List.flatten_append]; exact List.sublist_append_right _ _)⟩)
          (refine wpl_v S rfl rfl rfl (sv_pure S rfl) ?_; clear S a; intro a S)
          (refine wpl_v S rfl rfl rfl (sv_pure S rfl) ?_; clear S a; intro a S)
          refine wpList_nil ?_
          (refine hKq15 _ _ ?_; try (clear hKq15 Kq15))
          refine wpIn_ret ?_
          (refine fin_retM S fun w S => ?_; try (dsimp only at S))
          refine ⟨_, results2 Tryd.results35 (RV.tmp S rfl) (RV.tmp S rfl), ?_⟩
          (unfold showS; rw [if_neg (by omega)]; (first | (rw [if_pos (by omega)]; rfl) | (rw [if_neg (by omega)]; cases neg <;> first | rfl | (exfalso; simp at h))))
    · (clear S; intro D F1 G1 a w hF1 hI S)
      exact hI.elim
end Go.Proofs.YtmmpbpfdnpgklaaDoor
