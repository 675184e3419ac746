/- The walk of text of package big: a number's text, or the refusal where it has more than 200 digits. The walks of Neg, Cmp, Add, Sub of package big: the refusal, or the text of the number that it comes to. Written by mkops.py. The walk of Mul of package big. -/
import Derived.Test.YtigblodhdfnleaaGreatDoorFmt
namespace Go.Proofs.YtigblodhdfnleaaGreatDoor
open Go Go.Wk Go.Num
set_option linter.unusedSimpArgs false
set_option linter.unusedVariables false
attribute [local irreducible] Go.wpList Go.Code.wp Go.wpStill Go.Wk.wpPre Go.bodyPost Go.Calls Go.Wk.Ct Go.Wk.OwnS
attribute [local irreducible] Go.wpListIn Go.Code.wpIn Go.CallsIn Go.bodyPostM Go.Wk.roundP Go.Wk.wpG

/-- A number's text, and the refusal. -/
def showS (neg : Bool) (N : Nat) : List UInt8 × Int := if N = 0 then ([48], 0) else if 200 < (Lib.decDigits N).length then ([], 80) else ((if neg then [45] else []) ++ Lib.decDigits N, 0)
/-- What is written when the parts from j on are. -/
def tx (N j : Nat) : List UInt8 := if N / 1000000000 ^ j = 0 then [] else Lib.decDigits (N / 1000000000 ^ j)
theorem tx_top (N : Nat) : tx N (nd 1000000000 N) = [] := by unfold tx; rw [if_pos (Nat.div_eq_of_lt (lt_nd b2 N))]
theorem tx_zero {N : Nat} (h : 0 < N) : tx N 0 = Lib.decDigits N := by unfold tx; rw [Nat.pow_zero, Nat.div_one, if_neg (by omega)]
theorem div_top {N j : Nat} (h : j < nd 1000000000 N) : 0 < N / 1000000000 ^ j := by
  have hN : 0 < N := by
    rcases Nat.eq_zero_or_pos N with e | e
    · subst e; rw [nd_zero] at h; omega
    · exact e
  refine Nat.div_pos (Nat.le_trans (Nat.pow_le_pow_right (by decide) (by omega)) (le_pow_nd b2 hN)) (Nat.pow_pos (by decide))
theorem tx_step {N j : Nat} (h : j + 1 < nd 1000000000 N) : tx N j = tx N (j + 1) ++ (List.replicate (9 - (Lib.decDigits (dig 1000000000 N j)).length) 48 ++ Lib.decDigits (dig 1000000000 N j)) := by
  have h1 := div_top h
  have h0 := div_top (j := j) (N := N) (by omega)
  unfold tx
  rw [if_neg (by omega), if_neg (by omega), div_eq 1000000000 N j, Nat.mul_comm]
  exact dd_cat9 h1 (dig_lt b2 N j)
theorem tx_first {N j : Nat} (h : j + 1 = nd 1000000000 N) : tx N j = tx N (j + 1) ++ Lib.decDigits (dig 1000000000 N j) := by
  have h0 := div_top (j := j) (N := N) (by omega)
  rw [h, tx_top]
  unfold tx
  rw [if_neg (by omega), div_eq 1000000000 N j, h, Nat.div_eq_of_lt (lt_nd b2 N)]
  simp
theorem tx_len0 {N j M : Nat} (hM : 9 * nd 1000000000 N ≤ M) (h0 : M ≠ 0) : (tx N j).length ≤ M := by
  unfold tx
  split
  · simp
  · rename_i h
    have hlt : N / 1000000000 ^ j < 10 ^ M := by
      refine Nat.lt_of_le_of_lt (Nat.div_le_self _ _) (Nat.lt_of_lt_of_le (lt_nd b2 N) ?_)
      have e : (1000000000 : Nat) = 10 ^ 9 := by decide
      rw [e, ← Nat.pow_mul]
      rw [e] at hM
      exact Nat.pow_le_pow_right (by decide) hM
    exact dd_len hlt h0
theorem tx_len {N j : Nat} (hN : nd 1000000000 N ≤ 1000000) : (tx N j).length ≤ 9000000 := tx_len0 (by omega) (by decide)
theorem perm3 {X g Y : Grp} {p : Nat × Obj} : (([p] :: [X, g, Y] : List Grp)).flatten.Perm (([X, g] : List Grp).flatten ++ ([[p], Y] : List Grp).flatten) := by
  simp only [List.flatten_cons, List.flatten_nil, List.append_nil, List.singleton_append, List.append_assoc]
  have := (List.perm_middle (a := p) (l₁ := X ++ g) (l₂ := Y)).symm
  simpa only [List.append_assoc] using this

set_option maxHeartbeats 4000000 in
theorem textCt (neg : Bool) (N : Nat) (u : Value) (F : Heap) (hT : TabF F) (hlN : nd 1000000000 N ≤ 1000000) (hu : NumV F u neg N) :
    Ct Tryz.prog 71 [u] F [] (fun _ _ r => r = .tuple ⟨[.string (bs (showS neg N).1), .int .i64 (showS neg N).2]⟩) := by
  obtain ⟨pu, rfl, hpu⟩ := hu
  have hu0 := hpu
  obtain ⟨ao, ca, rfl, hca, hpa⟩ := hu0
  have hlen := fun j => tx_len (j := j) hlN
  generalize hK : nd 1000000000 N = K at *
  refine Ct.enterM Tryz.func71 rfl Tryz.ntmps71 rfl fun w0 a S => ?_
  (refine wpIn_seq_k ?_; intro Z hZ)
  refine wpi_region rfl ?_
  (refine wpl_box S rfl rfl rfl rfl rfl ?_; clear S a; intro b1 a w S)
  (revert S a; revert hZ Z; refine go10 4 ?_; intro a S)
  iterate 2 (refine wpIn_seq_k ?_; intro Z hZ)
  refine wpi_region rfl ?_
  (revert S a; revert hZ Z; refine go10 6 ?_; intro a S)
  refine wpi_split S rfl (fun h => ?_) (fun h => ?_)
  · (skip; (try simp only [tq] at h))
    (refine wpIn_seq_k ?_; intro Z hZ)
    refine wpi_region rfl ?_
    (revert S a; revert hZ Z; refine go10 4 ?_; intro a S)
    refine wpIn_ret ?_
    refine fin_retN S (results2 Tryz.results71 (RV.tmp S rfl) (RV.tmp S rfl)) ?_
    (rw [show showS neg N = ([48], 0) from (by unfold showS; rw [if_pos (nd_eq_zero b2 (by omega))])]; rfl)
  (skip; (try simp only [tq] at h))
  refine wpIn_skip ?_
  (refine hZ _ _ ?_; clear hZ Z)
  (refine wpIn_seq_k ?_; intro Z hZ)
  refine wpi_region rfl ?_
  (refine wpl_alloc S rfl rfl rfl rfl ?_; clear S a; intro b4 a w S)
  (refine wpList_nil (hZ _ _ ?_); clear hZ Z)
  iterate 2 (refine wpIn_seq_k ?_; intro Z hZ)
  (replace S : St _ _ _ _ _ _ [bldG b4 (.pointer none) (.slice none 0 0), [], [(b1, .cells ⟨[.bool neg, .slice ao K ca]⟩ 93 (0, 0))]] _ _ := ⟨S.fr, S.tr.perm (.refl _)⟩)
  refine wpi_region rfl ?_
  (revert S a; refine go00 2 ?_; intro a S)
  (refine wpl_callFrz S rfl rfl rfl rfl rfl rfl (backwardCt _ F) rfl ?_; clear S a; intro bx F5 a w hF5 hbx S; have hbox := hbx 0 _ rfl; have hT5 := hT.mono hF5)
  (refine wpList_nil (hZ _ _ ?_); clear hZ Z)
  refine wpIn_block ?_
  refine wpi_back S rfl rfl rfl rfl (backIter bx K (dig 1000000000 N) F5 ao ca (by omega) hbox (fun h0 => by obtain ⟨b, off, h1, h2⟩ := hpa h0; exact ⟨b, off, h1, h2.mono hF5⟩)) (fun j F2 G2 => F5 = F2 ∧ ∃ p v g, G2 = [bldG b4 p v, g, [(b1, .cells ⟨[.bool neg, .slice ao K ca]⟩ 93 (0, 0))]] ∧ bldP b4 p ∧ OwnS 5 1 v (tx N j).length (u8c (tx N j)) g) (fun _ _ => False) (⟨rfl, .pointer none, .slice none 0 0, [], rfl, .inl rfl, (by rw [show tx N K = [] from (by rw [← hK]; exact tx_top N)]; exact OwnS.nil _ _)⟩) (fun j => [(5, .int .i64 (j : Int)), (6, .int .i64 ((dig 1000000000 N j : Nat) : Int)), (1, .pointer (some ⟨b1, 0, none⟩)), (4, .pointer (some ⟨b4, 0, none⟩))]) ?_ ?_ ?_ ?_
  · (clear S; intro r j w F1 G1 a KA S hKA)
    (refine wpIn_seq_k ?_; intro Z hZ)
    refine wpi_region rfl ?_
    (revert S a; revert hZ Z; refine go10 3 ?_; intro a S)
    refine wpi_region rfl ?_
    (revert S a; refine go00 2 ?_; intro a S)
    (refine hKA _ ?_; refine S.keep ?_; repeat (first | exact trivial | refine ⟨rfl, ?_⟩))
  · (clear S; intro r j w F1 G1 a hj hF1 hI S)
    (obtain ⟨rfl, p, v, g, rfl, hp, hown⟩ := hI; have hdj := dig_lt b2 N j; have hdp := dd_pos (dig 1000000000 N j); have hdl : (Lib.decDigits (dig 1000000000 N j)).length ≤ 9 := dd_len (m := 9) hdj (by decide); have hlj := hlen (j + 1))
    refine wpIn_block ?_
    (refine wpIn_seq_k ?_; intro Z hZ)
    refine wpi_region rfl ?_
    (revert S a; refine go00 1 ?_; intro a S)
    (refine wpl_call0 S rfl rfl rfl rfl rfl rfl (formatCt (dig 1000000000 N j) F5 (by omega) hT5) rfl ?_; clear S a; intro v a w hv S; subst hv)
    (revert S a; revert hZ Z; refine go10 3 ?_; intro a S)
    iterate 2 (refine wpIn_seq_k ?_; intro Z hZ)
    refine wpi_region rfl ?_
    (revert S a; refine go00 4 ?_; intro a S)
    first | (refine wpl_v S rfl rfl rfl (sv_subN (q := 1) S rfl rfl rfl (by omega)) ?_; clear S a; intro a S) | (refine wpl_v S rfl rfl rfl (sv_sub S rfl rfl rfl (by omega)) ?_; clear S a; intro a S)
    (revert S a; revert hZ Z; refine go10 3 ?_; intro a S)
    refine wpi_split S rfl (fun h => ?_) (fun h => ?_)
    · (skip; (try simp only [tq] at h))
      refine wpi_region rfl ?_
      (revert S a; refine go00 2 ?_; intro a S)
      first | (refine wpl_v S rfl rfl rfl (sv_subN (p := 9) S rfl rfl rfl (by omega)) ?_; clear S a; intro a S) | (refine wpl_v S rfl rfl rfl (sv_sub S rfl rfl rfl (by omega)) ?_; clear S a; intro a S)
      (refine wpl_call0 S rfl rfl rfl rfl rfl rfl (repeatCt 48 (9 - (Lib.decDigits (dig 1000000000 N j)).length) F5 (by omega)) rfl ?_; clear S a; intro v a w hv S; subst hv)
      (revert S a; refine go00 1 ?_; intro a S)
      (refine wpl_v S rfl rfl rfl (sv_cat S rfl rfl rfl (by rw [List.length_replicate]; omega)) ?_; clear S a; intro a S)
      (revert S a; revert hZ Z; refine go10 3 ?_; intro a S)
      refine wpi_region rfl ?_
      (revert S a; refine go00 1 ?_; intro a S)
      (first | (refine wpl_callOwn (Gs := [bldG b4 p v, g]) (Gr := [[(b1, .cells ⟨[.bool neg, .slice ao K ca]⟩ 93 (0, 0))]]) S rfl rfl rfl rfl rfl rfl (writeStringCt b4 p v _ (tx N (j + 1)) (List.replicate (9 - (Lib.decDigits (dig 1000000000 N j)).length) 48 ++ Lib.decDigits (dig 1000000000 N j)) g F5 hp hown (by rw [List.length_append]; omega) (by rw [List.length_append, List.length_replicate]; omega)) rfl (by simp) ?_; rw [← List.length_append, ← tx_step (by omega)]) | (refine wpl_callOwn (Gs := [bldG b4 p v, g]) (Gr := [[(b1, .cells ⟨[.bool neg, .slice ao K ca]⟩ 93 (0, 0))]]) S rfl rfl rfl rfl rfl rfl (writeStringCt b4 p v _ (tx N (j + 1)) (Lib.decDigits (dig 1000000000 N j)) g F5 hp hown (by omega) (by omega)) rfl (by simp) ?_; rw [← List.length_append, ← tx_first (by omega)])); clear S a hown; intro u1 G1 a w hv1 S; obtain ⟨v1, g1, rfl, hown⟩ := hv1
      refine wpList_nil ?_
      skip
      refine round_normal S.tr ?_
      exact ⟨rfl, _, _, _, rfl, .inr rfl, hown⟩
    (skip; (try simp only [tq] at h))
    refine wpIn_skip ?_
    (refine hZ _ _ ?_; clear hZ Z)
    refine wpi_region rfl ?_
    (revert S a; refine go00 1 ?_; intro a S)
    (first | (refine wpl_callOwn (Gs := [bldG b4 p v, g]) (Gr := [[(b1, .cells ⟨[.bool neg, .slice ao K ca]⟩ 93 (0, 0))]]) S rfl rfl rfl rfl rfl rfl (writeStringCt b4 p v _ (tx N (j + 1)) (List.replicate (9 - (Lib.decDigits (dig 1000000000 N j)).length) 48 ++ Lib.decDigits (dig 1000000000 N j)) g F5 hp hown (by rw [List.length_append]; omega) (by rw [List.length_append, List.length_replicate]; omega)) rfl (by simp) ?_; rw [← List.length_append, ← tx_step (by omega)]) | (refine wpl_callOwn (Gs := [bldG b4 p v, g]) (Gr := [[(b1, .cells ⟨[.bool neg, .slice ao K ca]⟩ 93 (0, 0))]]) S rfl rfl rfl rfl rfl rfl (writeStringCt b4 p v _ (tx N (j + 1)) (Lib.decDigits (dig 1000000000 N j)) g F5 hp hown (by omega) (by omega)) rfl (by simp) ?_; rw [← List.length_append, ← tx_first (by omega)])); clear S a hown; intro u1 G1 a w hv1 S; obtain ⟨v1, g1, rfl, hown⟩ := hv1
    refine wpList_nil ?_
    skip
    refine round_normal S.tr ?_
    exact ⟨rfl, _, _, _, rfl, .inr rfl, hown⟩
  · (clear S; intro D F1 G1 a w hF1 hI S)
    (obtain ⟨rfl, p, v, g, rfl, hp, hown⟩ := hI; have hN0 : 0 < N := (by rcases Nat.eq_zero_or_pos N with e | e; subst e; rw [nd_zero] at hK; omega; exact e); have hl0 := hlen 0; rw [tx_zero hN0] at hown hl0; have hdp := dd_pos N)
    (refine hZ _ _ ?_; clear hZ Z)
    iterate 2 (refine wpIn_seq_k ?_; intro Z hZ)
    refine wpi_region rfl ?_
    (refine wpl_callOwn (Gs := [bldG b4 p v, g]) (Gr := [[(D, .deferred (some []))], [(b1, .cells ⟨[.bool neg, .slice ao K ca]⟩ 93 (0, 0))]]) S rfl rfl rfl rfl rfl rfl (bldLenCt b4 p v _ _ g F5 hown) rfl perm3 ?_; clear S a; intro u1 G1 a w hv1 S; obtain ⟨rfl, rfl⟩ := hv1; replace S : St _ _ _ _ _ _ [bldG b4 p v, g, [(D, .deferred (some []))], [(b1, .cells ⟨[.bool neg, .slice ao K ca]⟩ 93 (0, 0))]] _ _ := S)
    (revert S a; revert hZ Z; refine go10 3 ?_; intro a S)
    refine wpi_split S rfl (fun h => ?_) (fun h => ?_)
    · (skip; (try simp only [tq] at h))
      (refine wpIn_seq_k ?_; intro Z hZ)
      refine wpi_region rfl ?_
      (revert S a; revert hZ Z; refine go10 4 ?_; intro a S)
      refine wpIn_ret ?_
      (refine fin_retM S fun w S => ?_; try (dsimp only at S))
      refine ⟨_, results2 Tryz.results71 (RV.tmp S rfl) (RV.tmp S rfl), ?_⟩
      (unfold showS; rw [if_neg (by omega)]; (first | (rw [if_pos (by omega)]; rfl) | (rw [if_neg (by omega)]; cases neg <;> first | rfl | (exfalso; simp at h))))
    (skip; (try simp only [tq] at h))
    refine wpIn_skip ?_
    (refine hZ _ _ ?_; clear hZ Z)
    iterate 2 (refine wpIn_seq_k ?_; intro Z hZ)
    refine wpi_region rfl ?_
    (revert S a; revert hZ Z; refine go10 4 ?_; intro a S)
    refine wpi_split S rfl (fun h => ?_) (fun h => ?_)
    · (skip; (try simp only [tq] at h))
      (refine wpIn_seq_k ?_; intro Z hZ)
      refine wpi_region rfl ?_
      (refine wpl_callOwn (Gs := [bldG b4 p v, g]) (Gr := [[(D, .deferred (some []))], [(b1, .cells ⟨[.bool neg, .slice ao K ca]⟩ 93 (0, 0))]]) S rfl rfl rfl rfl rfl rfl (bldStringCt b4 p v _ _ g F5 (by omega) hdp hown) rfl (by simp) ?_; clear S a; intro u1 G1 a w hv1 S; subst hv1; replace S : St _ _ _ _ _ _ [[(D, .deferred (some []))], [(b1, .cells ⟨[.bool neg, .slice ao K ca]⟩ 93 (0, 0))]] _ _ := ⟨S.fr, S.tr.sub (by rw [List.flatten_append]; exact List.sublist_append_right _ _)⟩)
      (refine wpl_v S rfl rfl rfl (sv_cat S rfl rfl rfl (by first | omega | (simp only [List.length_append, List.length_cons, List.length_nil]; omega))) ?_; clear S a; intro a S)
      (revert S a; revert hZ Z; refine go10 4 ?_; intro a S)
      refine wpIn_ret ?_
      (refine fin_retM S fun w S => ?_; try (dsimp only at S))
      refine ⟨_, results2 Tryz.results71 (RV.tmp S rfl) (RV.tmp S rfl), ?_⟩
      (unfold showS; rw [if_neg (by omega)]; (first | (rw [if_pos (by omega)]; rfl) | (rw [if_neg (by omega)]; cases neg <;> first | rfl | (exfalso; simp at h))))
    (skip; (try simp only [tq] at h))
    refine wpIn_skip ?_
    (refine hZ _ _ ?_; clear hZ Z)
    (refine wpIn_seq_k ?_; intro Z hZ)
    refine wpi_region rfl ?_
    (refine wpl_callOwn (Gs := [bldG b4 p v, g]) (Gr := [[(D, .deferred (some []))], [(b1, .cells ⟨[.bool neg, .slice ao K ca]⟩ 93 (0, 0))]]) S rfl rfl rfl rfl rfl rfl (bldStringCt b4 p v _ _ g F5 (by omega) hdp hown) rfl (by simp) ?_; clear S a; intro u1 G1 a w hv1 S; subst hv1; replace S : St _ _ _ _ _ _ [[(D, .deferred (some []))], [(b1, .cells ⟨[.bool neg, .slice ao K ca]⟩ 93 (0, 0))]] _ _ := ⟨S.fr, S.tr.sub (by rw [List.flatten_append]; exact List.sublist_append_right _ _)⟩)
    (revert S a; revert hZ Z; refine go10 4 ?_; intro a S)
    refine wpIn_ret ?_
    (refine fin_retM S fun w S => ?_; try (dsimp only at S))
    refine ⟨_, results2 Tryz.results71 (RV.tmp S rfl) (RV.tmp S rfl), ?_⟩
    (unfold showS; rw [if_neg (by omega)]; (first | (rw [if_pos (by omega)]; rfl) | (rw [if_neg (by omega)]; cases neg <;> first | rfl | (exfalso; simp at h))))
  (clear S; intro D F1 G1 a w hF1 hI S)
  exact hI.elim
end Go.Proofs.YtigblodhdfnleaaGreatDoor
namespace Go.Proofs.YtigblodhdfnleaaGreatDoor
open Go Go.Wk Go.Num
set_option linter.unusedSimpArgs false
set_option linter.unusedVariables false
attribute [local irreducible] Go.wpList Go.Code.wp Go.wpStill Go.Wk.wpPre Go.bodyPost Go.Calls Go.Wk.Ct Go.Wk.OwnS
attribute [local irreducible] Go.Wk.wpG

theorem nd_num {s : List UInt8} (h : checkS s = 0) : nd 1000000000 (decV (bodyS s)) ≤ 23 := by
  obtain ⟨h1, h2, _⟩ := check_digits h
  refine nd_le (Nat.lt_of_lt_of_le (decV_lt _ h1) ?_) b2
  have e : (1000000000 : Nat) = 10 ^ 9 := by decide
  rw [e, ← Nat.pow_mul]
  exact Nat.pow_le_pow_right (by decide) (by omega)
theorem nd_mono {A C : Nat} (h : A ≤ C) : nd 1000000000 A ≤ nd 1000000000 C := nd_le (Nat.lt_of_le_of_lt h (lt_nd b2 C)) b2
theorem nd_addS (n1 : Bool) (A : Nat) (n2 : Bool) (C : Nat) (hA : nd 1000000000 A ≤ 500000) (hC : nd 1000000000 C ≤ 500000) : nd 1000000000 (addS n1 A n2 C).2 ≤ 1000000 := by
  unfold addS
  split
  · have := nd_le (lt_pow_max b2 (lt_nd b2 A) (lt_nd b2 C)) b2
    show nd 1000000000 (A + C) ≤ _
    omega
  · split
    · have := nd_mono (Nat.sub_le A C)
      show nd 1000000000 (A - C) ≤ _
      omega
    · have := nd_mono (Nat.sub_le C A)
      show nd 1000000000 (C - A) ≤ _
      omega
theorem both_ok {s t : List UInt8} (h : bothE s t = 0) : checkS s = 0 ∧ checkS t = 0 := by
  unfold bothE at h
  split at h
  · exact ⟨by assumption, h⟩
  · exact absurd h (by assumption)
/-- What Add, Sub, Neg, Cmp answer. -/
def addA (s t : List UInt8) : List UInt8 × Int := if bothE s t = 0 then showS (addS (negS s) (decV (bodyS s)) (negS t) (decV (bodyS t))).1 (addS (negS s) (decV (bodyS s)) (negS t) (decV (bodyS t))).2 else ([], bothE s t)
def subA (s t : List UInt8) : List UInt8 × Int := if bothE s t = 0 then showS (addS (negS s) (decV (bodyS s)) (!negS t) (decV (bodyS t))).1 (addS (negS s) (decV (bodyS s)) (!negS t) (decV (bodyS t))).2 else ([], bothE s t)
def negA (s : List UInt8) : List UInt8 × Int := if checkS s = 0 then showS (!negS s) (decV (bodyS s)) else ([], checkS s)
def ansV (x : List UInt8 × Int) : Value := .tuple ⟨[.string (bs x.1), .int .i64 x.2]⟩
set_option maxHeartbeats 2000000 in
theorem add0Err (s t : List UInt8) (F : Heap) (hT : TabF F) (hs : s.length ≤ 1000000) (ht : t.length ≤ 1000000) (hbe : ¬ bothE s t = 0) : Ct Tryz.prog 36 [.string (bs s), .string (bs t)] F [] (fun _ _ u => u = ansV (addA s t)) := by
  refine Ct.enter Tryz.func36 rfl Tryz.ntmps36 rfl fun w0 a S => ?_
  (revert S a; refine go01 8 ?_; intro Z hZ a S)
  (refine wpl_callF S rfl rfl rfl rfl rfl rfl (bothCt s t F (by omega) (by omega)) rfl ?_; clear S a; intro v F1 a w hv hF1 S; rw [BothV, if_neg hbe] at hv; subst hv)
  (revert S a; refine go00 4 ?_; intro a S)
  (refine wpl_alloc S rfl rfl rfl rfl ?_; clear S a; intro b6 a w S)
  (refine wpl_alloc S rfl rfl rfl rfl ?_; clear S a; intro b7 a w S)
  iterate 2 (refine wpl_storeO S rfl rfl rfl rfl rfl (by rfl) (by simp [Value.cells, Value.oneCell', splice]) (by rfl) ?_; clear S; intro w S)
  (revert S a; revert hZ Z; refine go11 9 ?_; intro Z hZ a S)
  refine wpc_split S rfl (fun h => ?_) (fun h => ?_)
  · (skip; (try simp only [tq] at h))
    (revert S a; refine go00 6 ?_; intro a S)
    refine wp_ret (fin_ret S (results2 Tryz.results36 (RV.tmp S rfl) (RV.tmp S rfl)) ?_)
    (rw [show addA s t = ([], bothE s t) from (by unfold addA; rw [if_neg hbe])]; rfl)
  (skip; (try simp only [tq] at h); exact absurd h hbe)
set_option maxHeartbeats 4000000 in
theorem add0Ok (s t : List UInt8) (F : Heap) (hT : TabF F) (hs : s.length ≤ 1000000) (ht : t.length ≤ 1000000) (hbe : bothE s t = 0) : Ct Tryz.prog 36 [.string (bs s), .string (bs t)] F [] (fun _ _ u => u = ansV (addA s t)) := by
  have hn1 := nd_num (both_ok hbe).1
  have hn2 := nd_num (both_ok hbe).2
  refine Ct.enter Tryz.func36 rfl Tryz.ntmps36 rfl fun w0 a S => ?_
  (revert S a; refine go01 8 ?_; intro Z hZ a S)
  (refine wpl_callF S rfl rfl rfl rfl rfl rfl (bothCt s t F (by omega) (by omega)) rfl ?_; clear S a; intro v F1 a w hv hF1 S; rw [BothV, if_pos hbe] at hv; obtain ⟨p, q, rfl, hp, hq⟩ := hv; have hp0 := hp; have hq0 := hq; obtain ⟨po, pc, rfl, -, -⟩ := hp0; obtain ⟨qo, qc, rfl, -, -⟩ := hq0)
  (revert S a; refine go00 4 ?_; intro a S)
  (refine wpl_alloc S rfl rfl rfl rfl ?_; clear S a; intro b6 a w S)
  (refine wpl_alloc S rfl rfl rfl rfl ?_; clear S a; intro b7 a w S)
  iterate 2 (refine wpl_storeO S rfl rfl rfl rfl rfl (by rfl) (by simp [Value.cells, Value.oneCell', splice]) (by rfl) ?_; clear S; intro w S)
  (revert S a; revert hZ Z; refine go11 9 ?_; intro Z hZ a S)
  refine wpc_split S rfl (fun h => ?_) (fun h => ?_)
  · (skip; (try simp only [tq] at h); exact absurd trivial h)
  (skip; (try simp only [tq] at h))
  (revert S a; revert hZ Z; refine go11 5 ?_; intro Z hZ a S)
  (refine wpl_callF S rfl rfl rfl rfl rfl rfl (addCt (negS s) _ (negS t) _ _ _ F1 (by omega) (by omega) ⟨_, rfl, hp⟩ ⟨_, rfl, hq⟩) rfl ?_; clear S a; intro v2 F2 a w hv2 hF2 S; obtain ⟨r, rfl, hr⟩ := hv2)
  (refine wpl_call0 S rfl rfl rfl rfl rfl rfl (textCt _ _ _ F2 ((hT.mono hF1).mono hF2) (nd_addS _ _ _ _ (by omega) (by omega)) ⟨_, rfl, hr⟩) rfl ?_; clear S a; intro v a w hv S; subst hv)
  (revert S a; revert hZ Z; refine go10 6 ?_; intro a S)
  refine wp_ret (fin_ret S (results2 Tryz.results36 (RV.tmp S rfl) (RV.tmp S rfl)) ?_)
  ((rw [show addA s t = _ from (by unfold addA; rw [if_pos hbe])]; rfl))
theorem add0Ct (s t : List UInt8) (F : Heap) (hT : TabF F) (hs : s.length ≤ 1000000) (ht : t.length ≤ 1000000) : Ct Tryz.prog 36 [.string (bs s), .string (bs t)] F [] (fun _ _ u => u = ansV (addA s t)) := by
  by_cases hbe : bothE s t = 0
  · exact add0Ok s t F hT hs ht hbe
  · exact add0Err s t F hT hs ht hbe

set_option maxHeartbeats 2000000 in
theorem sub0Err (s t : List UInt8) (F : Heap) (hT : TabF F) (hs : s.length ≤ 1000000) (ht : t.length ≤ 1000000) (hbe : ¬ bothE s t = 0) : Ct Tryz.prog 38 [.string (bs s), .string (bs t)] F [] (fun _ _ u => u = ansV (subA s t)) := by
  refine Ct.enter Tryz.func38 rfl Tryz.ntmps38 rfl fun w0 a S => ?_
  (revert S a; refine go01 8 ?_; intro Z hZ a S)
  (refine wpl_callF S rfl rfl rfl rfl rfl rfl (bothCt s t F (by omega) (by omega)) rfl ?_; clear S a; intro v F1 a w hv hF1 S; rw [BothV, if_neg hbe] at hv; subst hv)
  (revert S a; refine go00 4 ?_; intro a S)
  (refine wpl_alloc S rfl rfl rfl rfl ?_; clear S a; intro b6 a w S)
  (refine wpl_alloc S rfl rfl rfl rfl ?_; clear S a; intro b7 a w S)
  iterate 2 (refine wpl_storeO S rfl rfl rfl rfl rfl (by rfl) (by simp [Value.cells, Value.oneCell', splice]) (by rfl) ?_; clear S; intro w S)
  (revert S a; revert hZ Z; refine go11 9 ?_; intro Z hZ a S)
  refine wpc_split S rfl (fun h => ?_) (fun h => ?_)
  · (skip; (try simp only [tq] at h))
    (revert S a; refine go00 6 ?_; intro a S)
    refine wp_ret (fin_ret S (results2 Tryz.results38 (RV.tmp S rfl) (RV.tmp S rfl)) ?_)
    (rw [show subA s t = ([], bothE s t) from (by unfold subA; rw [if_neg hbe])]; rfl)
  (skip; (try simp only [tq] at h); exact absurd h hbe)
set_option maxHeartbeats 4000000 in
theorem sub0Ok (s t : List UInt8) (F : Heap) (hT : TabF F) (hs : s.length ≤ 1000000) (ht : t.length ≤ 1000000) (hbe : bothE s t = 0) : Ct Tryz.prog 38 [.string (bs s), .string (bs t)] F [] (fun _ _ u => u = ansV (subA s t)) := by
  have hn1 := nd_num (both_ok hbe).1
  have hn2 := nd_num (both_ok hbe).2
  refine Ct.enter Tryz.func38 rfl Tryz.ntmps38 rfl fun w0 a S => ?_
  (revert S a; refine go01 8 ?_; intro Z hZ a S)
  (refine wpl_callF S rfl rfl rfl rfl rfl rfl (bothCt s t F (by omega) (by omega)) rfl ?_; clear S a; intro v F1 a w hv hF1 S; rw [BothV, if_pos hbe] at hv; obtain ⟨p, q, rfl, hp, hq⟩ := hv; have hp0 := hp; have hq0 := hq; obtain ⟨po, pc, rfl, -, -⟩ := hp0; obtain ⟨qo, qc, rfl, -, -⟩ := hq0)
  (revert S a; refine go00 4 ?_; intro a S)
  (refine wpl_alloc S rfl rfl rfl rfl ?_; clear S a; intro b6 a w S)
  (refine wpl_alloc S rfl rfl rfl rfl ?_; clear S a; intro b7 a w S)
  iterate 2 (refine wpl_storeO S rfl rfl rfl rfl rfl (by rfl) (by simp [Value.cells, Value.oneCell', splice]) (by rfl) ?_; clear S; intro w S)
  (revert S a; revert hZ Z; refine go11 9 ?_; intro Z hZ a S)
  refine wpc_split S rfl (fun h => ?_) (fun h => ?_)
  · (skip; (try simp only [tq] at h); exact absurd trivial h)
  (skip; (try simp only [tq] at h))
  refine wp_skip ?_
  (refine hZ _ _ ?_; clear hZ Z)
  (refine wp_seq_k ?_; intro Z hZ)
  (refine wpc_mixL [0, 1, 5, 6] [0] [b6, b7] S mixed (by kernel_rfl) ?_; clear S; intro w S)
  first | (refine wppk_late S rfl rfl rfl rfl rfl (fun w' hw => hw.1) (fun w' S => sv_loadO S rfl rfl (by rfl)) ?_; clear S a; intro a S) | (refine wppk_late S rfl rfl rfl rfl rfl (fun w' hw => hw.1) (fun w' S => sv_loadAO S rfl rfl (by rfl)) ?_; clear S a; intro a S) | (refine wppk_late S rfl rfl rfl rfl rfl (fun w' hw => hw.2.1) (fun w' S => sv_loadO S rfl rfl (by rfl)) ?_; clear S a; intro a S) | (refine wppk_late S rfl rfl rfl rfl rfl (fun w' hw => hw.2.1) (fun w' S => sv_loadAO S rfl rfl (by rfl)) ?_; clear S a; intro a S)
  refine wppk_one rfl rfl ?_
  first | (refine wpp_s S rfl rfl rfl rfl (sv_loadAO S rfl rfl (by rfl)) ?_; clear S a; intro a S) | (refine wpp_s S rfl rfl rfl rfl (sv_loadAF S rfl rfl (by assumption) (by rfl)) ?_; clear S a; intro a S)
  refine wpp_nil ?_
  refine wplk_one rfl ⟨S.has inferInstance, S.has inferInstance, trivial⟩ ?_
  (refine wpl_callF S rfl rfl rfl rfl rfl rfl (turnedCt (negS t) _ _ F1 ⟨_, rfl, hq⟩) rfl ?_; clear S a; intro v3 F3 a w hv3 hF3 S; obtain ⟨r3, rfl, hr3⟩ := hv3)
  refine wpList_nil ?_
  refine wplk_one rfl ⟨S.has inferInstance, S.has inferInstance, trivial⟩ ?_
  (refine wpl_callF S rfl rfl rfl rfl rfl rfl (addCt (negS s) _ (!negS t) _ _ _ F3 (by omega) (by omega) ⟨_, rfl, hp.mono hF3⟩ ⟨_, rfl, hr3⟩) rfl ?_; clear S a; intro v2 F2 a w hv2 hF2 S; obtain ⟨r, rfl, hr⟩ := hv2)
  refine wpList_nil ?_
  refine wplk_one rfl ⟨S.has inferInstance, S.has inferInstance, trivial⟩ ?_
  (refine wpl_call0 S rfl rfl rfl rfl rfl rfl (textCt _ _ _ F2 (((hT.mono hF1).mono hF3).mono hF2) (nd_addS _ _ _ _ (by omega) (by omega)) ⟨_, rfl, hr⟩) rfl ?_; clear S a; intro v a w hv S; subst hv)
  refine wpList_nil ?_
  refine wppk_one rfl rfl ?_
  (refine wpp_v S rfl rfl rfl rfl (fun _ S => sv_pure S rfl) ?_; clear S a; intro a S)
  refine wpp_nil ?_
  refine wppk_one rfl rfl ?_
  (refine wpp_v S rfl rfl rfl rfl (fun _ S => sv_pure S rfl) ?_; clear S a; intro a S)
  refine wpp_nil ?_
  refine wplk_one rfl ⟨S.has inferInstance, S.has inferInstance, trivial⟩ ?_
  (revert S a; refine go00 2 ?_; intro a S)
  refine wplk_one rfl ⟨S.has inferInstance, S.has inferInstance, trivial⟩ ?_
  (revert S a; refine go00 2 ?_; intro a S)
  refine wplk_nil ⟨S.has inferInstance, S.has inferInstance, trivial⟩ ?_
  (refine hZ _ _ ?_; clear hZ Z)
  refine wp_ret (fin_ret S (results2 Tryz.results38 (RV.tmp S rfl) (RV.tmp S rfl)) ?_)
  ((rw [show subA s t = _ from (by unfold subA; rw [if_pos hbe])]; rfl))
theorem sub0Ct (s t : List UInt8) (F : Heap) (hT : TabF F) (hs : s.length ≤ 1000000) (ht : t.length ≤ 1000000) : Ct Tryz.prog 38 [.string (bs s), .string (bs t)] F [] (fun _ _ u => u = ansV (subA s t)) := by
  by_cases hbe : bothE s t = 0
  · exact sub0Ok s t F hT hs ht hbe
  · exact sub0Err s t F hT hs ht hbe

def cmpV (x : Int × Int) : Value := .tuple ⟨[.int .i64 x.1, .int .i64 x.2]⟩

set_option maxHeartbeats 2000000 in
theorem negErr (s : List UInt8) (F : Heap) (hs : s.length ≤ 1000000) (hbe : ¬ checkS s = 0) : Ct Tryz.prog 111 [.string (bs s)] F [] (fun _ _ u => u = ansV (negA s)) := by
  refine Ct.enter Tryz.func111 rfl Tryz.ntmps111 rfl fun w0 a S => ?_
  (revert S a; refine go02 8 ?_; intro Z hZ Z hZ a S)
  (refine wpl_call0 S rfl rfl rfl rfl rfl rfl (checkCt s F (by omega)) rfl ?_; clear S a; intro v a w hv S; subst hv)
  (revert S a; revert hZ Z; refine go10 8 ?_; intro a S)
  refine wpc_split S rfl (fun h => ?_) (fun h => ?_)
  · (skip; (try simp only [tq] at h))
    (revert S a; refine go00 6 ?_; intro a S)
    refine wp_ret (fin_ret S (results2 Tryz.results111 (RV.tmp S rfl) (RV.tmp S rfl)) ?_)
    (rw [show negA s = ([], checkS s) from (by unfold negA; rw [if_neg hbe])]; rfl)
  (skip; (try simp only [tq] at h); exact absurd h hbe)
set_option maxHeartbeats 2000000 in
theorem negOk (s : List UInt8) (F : Heap) (hT : TabF F) (hs : s.length ≤ 1000000) (hbe : checkS s = 0) : Ct Tryz.prog 111 [.string (bs s)] F [] (fun _ _ u => u = ansV (negA s)) := by
  have hn1 := nd_num hbe
  refine Ct.enter Tryz.func111 rfl Tryz.ntmps111 rfl fun w0 a S => ?_
  (revert S a; refine go02 8 ?_; intro Z hZ Z hZ a S)
  (refine wpl_call0 S rfl rfl rfl rfl rfl rfl (checkCt s F (by omega)) rfl ?_; clear S a; intro v a w hv S; subst hv)
  (revert S a; revert hZ Z; refine go10 8 ?_; intro a S)
  refine wpc_split S rfl (fun h => ?_) (fun h => ?_)
  · (skip; (try simp only [tq] at h); exact absurd hbe h)
  (skip; (try simp only [tq] at h))
  (revert S a; revert hZ Z; refine go11 4 ?_; intro Z hZ a S)
  (refine wpl_callF S rfl rfl rfl rfl rfl rfl (ofCt s F hbe) rfl ?_; clear S a; intro v F1 a w hv hF1 S; obtain ⟨r, rfl, hr⟩ := hv)
  (refine wpl_callF S rfl rfl rfl rfl rfl rfl (turnedCt (negS s) _ _ F1 ⟨_, rfl, hr⟩) rfl ?_; clear S a; intro v2 F2 a w hv2 hF2 S; obtain ⟨r2, rfl, hr2⟩ := hv2)
  (refine wpl_call0 S rfl rfl rfl rfl rfl rfl (textCt _ _ _ F2 ((hT.mono hF1).mono hF2) (by omega) ⟨_, rfl, hr2⟩) rfl ?_; clear S a; intro v a w hv S; subst hv)
  (revert S a; revert hZ Z; refine go10 6 ?_; intro a S)
  refine wp_ret (fin_ret S (results2 Tryz.results111 (RV.tmp S rfl) (RV.tmp S rfl)) ?_)
  (rw [show negA s = _ from (by unfold negA; rw [if_pos hbe])]; rfl)
theorem negCt (s : List UInt8) (F : Heap) (hT : TabF F) (hs : s.length ≤ 1000000) : Ct Tryz.prog 111 [.string (bs s)] F [] (fun _ _ u => u = ansV (negA s)) := by
  by_cases hbe : checkS s = 0
  · exact negOk s F hT hs hbe
  · exact negErr s F hs hbe
end Go.Proofs.YtigblodhdfnleaaGreatDoor
namespace Go.Proofs.YtigblodhdfnleaaGreatDoor
open Go Go.Wk Go.Num
set_option linter.unusedSimpArgs false
set_option linter.unusedVariables false
attribute [local irreducible] Go.wpList Go.Code.wp Go.wpStill Go.Wk.wpPre Go.bodyPost Go.Calls Go.Wk.Ct Go.Wk.OwnS
attribute [local irreducible] Go.Wk.wpG

def mulA (s t : List UInt8) : List UInt8 × Int := if bothE s t = 0 then showS (negS s != negS t) (decV (bodyS s) * decV (bodyS t)) else ([], bothE s t)
theorem lt_pow_mul {b A C la lc : Nat} (h1 : A < b ^ la) (h2 : C < b ^ lc) : A * C < b ^ (la + lc) := by
  rw [Nat.pow_add]
  rcases Nat.eq_zero_or_pos C with e | e
  · subst e
    rw [Nat.mul_zero]
    exact Nat.mul_pos (by omega) h2
  · exact Nat.mul_lt_mul_of_lt_of_le h1 (Nat.le_of_lt h2) (Nat.lt_of_le_of_lt (Nat.zero_le _) h2)
/-- Behind i rows. -/
def rowsT (A C i : Nat) : Nat := A % 1000000000 ^ i * C
theorem rows_zero (A C : Nat) : rowsT A C 0 = 0 := by simp [rowsT, Nat.mod_one]
theorem rows_step (A C i : Nat) : rowsT A C (i + 1) = rowsT A C i + dig 1000000000 A i * C * 1000000000 ^ i := by
  unfold rowsT
  rw [mod_succ, Nat.add_mul]
  congr 1
  simp only [Nat.mul_comm, Nat.mul_left_comm, Nat.mul_assoc]
theorem rows_full {A C i : Nat} (h : A < 1000000000 ^ i) : rowsT A C i = A * C := by unfold rowsT; rw [Nat.mod_eq_of_lt h]

theorem own_low {e : TypeId} {v : Value} {K i : Nat} {f g : Nat → Nat} {gr : Grp} (h : OwnS e 1 v K (cel K g) gr) (hj : ∀ j, j < i → f j = g j) : OwnS e 1 v K (mixL K i f g) gr := by
  have : mixL K i f g = cel K g := by
    unfold mixL cel
    refine List.map_congr_left fun j _ => ?_
    by_cases hl : j < i
    · rw [if_pos hl, hj j hl]
    · rw [if_neg hl]
  rw [this]; exact h
set_option maxHeartbeats 2000000 in
theorem mulErr (s t : List UInt8) (F : Heap) (hs : s.length ≤ 1000000) (ht : t.length ≤ 1000000) (hbe : ¬ bothE s t = 0) : Ct Tryz.prog 40 [.string (bs s), .string (bs t)] F [] (fun _ _ u => u = ansV (mulA s t)) := by
  refine Ct.enter Tryz.func40 rfl Tryz.ntmps40 rfl fun w0 a S => ?_
  (revert S a; refine go01 8 ?_; intro Z hZ a S)
  (refine wpl_callF S rfl rfl rfl rfl rfl rfl (bothCt s t F (by omega) (by omega)) rfl ?_; clear S a; intro v F1 a w hv hF1 S; rw [BothV, if_neg hbe] at hv; subst hv)
  (revert S a; refine go00 4 ?_; intro a S)
  (refine wpl_alloc S rfl rfl rfl rfl ?_; clear S a; intro b6 a w S)
  (refine wpl_alloc S rfl rfl rfl rfl ?_; clear S a; intro b7 a w S)
  iterate 2 (refine wpl_storeO S rfl rfl rfl rfl rfl (by rfl) (by simp [Value.cells, Value.oneCell', splice]) (by rfl) ?_; clear S; intro w S)
  (revert S a; revert hZ Z; refine go11 9 ?_; intro Z hZ a S)
  refine wpc_split S rfl (fun h => ?_) (fun h => ?_)
  · (skip; (try simp only [tq] at h))
    (revert S a; refine go00 6 ?_; intro a S)
    refine wp_ret (fin_ret S (results2 Tryz.results40 (RV.tmp S rfl) (RV.tmp S rfl)) ?_)
    (rw [show mulA s t = ([], bothE s t) from (by unfold mulA; rw [if_neg hbe])]; rfl)
  (skip; (try simp only [tq] at h); exact absurd h hbe)
theorem zzMul0 {p : Prop} (h : p := by (refine ⟨K - (k + 1), by omega, k + 1, g, rfl, by omega, by omega, own_set hown (congrArg _ (by rw [← dig_row b2 hik]; rfl)), ?_⟩; rw [cyM_step b2 hik]; refine S.keep ?_; repeat (first | exact trivial | refine ⟨rfl, ?_⟩))) : p := h
set_option maxHeartbeats 4000000 in
theorem mulOk (s t : List UInt8) (F : Heap) (hT : TabF F) (hs : s.length ≤ 1000000) (ht : t.length ≤ 1000000) (hbe : bothE s t = 0) : Ct Tryz.prog 40 [.string (bs s), .string (bs t)] F [] (fun _ _ u => u = ansV (mulA s t)) := by
  have hn1 := nd_num (both_ok hbe).1
  have hn2 := nd_num (both_ok hbe).2
  rw [show mulA s t = showS (negS s != negS t) (decV (bodyS s) * decV (bodyS t)) from (by unfold mulA; rw [if_pos hbe])]
  have hbt := bothCt s t F (by omega) (by omega)
  simp only [BothV, if_pos hbe] at hbt
  generalize hA : decV (bodyS s) = A at *
  generalize hC : decV (bodyS t) = C at *
  have hlt := lt_pow_mul (lt_nd b2 A) (lt_nd b2 C)
  have hmn := nd_le hlt b2
  refine Ct.enter Tryz.func40 rfl Tryz.ntmps40 rfl fun w0 a S => ?_
  (revert S a; refine go01 8 ?_; intro Z hZ a S)
  (refine wpl_callF S rfl rfl rfl rfl rfl rfl (hbt) rfl ?_; clear S a; intro v F1 a w hv hF1 S; obtain ⟨p, q, rfl, hp, hq⟩ := hv; have hp0 := hp; have hq0 := hq; obtain ⟨po, pc, rfl, hpc, hpp⟩ := hp0; obtain ⟨qo, qc, rfl, hqc, hqp⟩ := hq0)
  (revert S a; refine go00 4 ?_; intro a S)
  (refine wpl_alloc S rfl rfl rfl rfl ?_; clear S a; intro b6 a w S)
  (refine wpl_alloc S rfl rfl rfl rfl ?_; clear S a; intro b7 a w S)
  iterate 2 (refine wpl_storeO S rfl rfl rfl rfl rfl (by rfl) (by simp [Value.cells, Value.oneCell', splice]) (by rfl) ?_; clear S; intro w S)
  (revert S a; revert hZ Z; refine go11 9 ?_; intro Z hZ a S)
  refine wpc_split S rfl (fun h => ?_) (fun h => ?_)
  · (skip; (try simp only [tq] at h); exact absurd trivial h)
  (skip; (try simp only [tq] at h))
  (revert S a; revert hZ Z; refine go11 10 ?_; intro Z hZ a S)
  (refine wpl_makeSlice (q := nd 1000000000 A + nd 1000000000 C) S rfl rfl rfl rfl rfl rfl rfl (by omega) (by omega) ?_; clear S a; intro b a w hown S; generalize hK : nd 1000000000 A + nd 1000000000 C = K at S hown hlt hmn; generalize hKA : nd 1000000000 A = KA at *; generalize hKC : nd 1000000000 C = KC at *)
  (revert S a; revert hZ Z; refine go11 12 ?_; intro Z hZ a S)
  refine wpc_loop (fun m a w' => ∃ (i : Nat) (g : Grp), m = KA - i ∧ i ≤ KA ∧ OwnS 2 1 (.slice (some ⟨b, 0, none⟩) K K) K (cel K (dig 1000000000 (rowsT A C i))) g ∧ St 91 [(6, .pointer (some ⟨b6, 0, none⟩)), (7, .pointer (some ⟨b7, 0, none⟩)), (9, .slice (some ⟨b, 0, none⟩) K K), (34, .slice po KA pc), (35, .int .i64 KA), (36, .int .i64 i)] w0 F [] F1 [g, [(b7, .cells ⟨[.bool (negS t), .slice qo KC qc]⟩ 93 (0, 0))], [(b6, .cells ⟨[.bool (negS s), .slice po KA pc]⟩ 93 (0, 0))]] a w') ?_ ?_
  · (refine ⟨KA, 0, _, rfl, Nat.zero_le _, (by rw [rows_zero, show dig 1000000000 0 = (fun _ => 0) from funext fun j => (by simp [dig]), ← replicate_cel]; exact hown), ?_⟩; refine S.keep ?_; repeat (first | exact trivial | refine ⟨rfl, ?_⟩))
  (clear hown S; rintro m a w ⟨i, g, rfl, hi, hown, S⟩)
  (revert S a; refine go01 5 ?_; intro Z hZ a S)
  refine wpc_split S rfl (fun h => ?_) (fun h => ?_)
  · (skip; (try simp only [tq] at h))
    (revert S a; revert hZ Z; refine go11 4 ?_; intro Z hZ a S)
    (refine wp_seq_k ?_; intro Z hZ)
    (obtain ⟨ba, offa, rfl, hcsa⟩ := hpp (by omega); have hce := celN hcsa (j := i) (by omega))
    (revert S a; revert hZ Z; refine go10 18 ?_; intro a S)
    refine wpc_loop (fun m a w' => ∃ (k : Nat) (g : Grp), m = K - k ∧ i ≤ k ∧ k ≤ K ∧ OwnS 2 1 (.slice (some ⟨b, 0, none⟩) K K) K (mixL K k (dig 1000000000 (rowsT A C i + dig 1000000000 A i * C * 1000000000 ^ i)) (dig 1000000000 (rowsT A C i))) g ∧ St 91 [(6, .pointer (some ⟨b6, 0, none⟩)), (7, .pointer (some ⟨b7, 0, none⟩)), (9, .slice (some ⟨b, 0, none⟩) K K), (34, .slice (some ⟨ba, offa, none⟩) KA pc), (35, .int .i64 KA), (36, .int .i64 i), (10, .int .i64 i), (11, .int .i64 ((dig 1000000000 A i : Nat) : Int)), (12, .int .i64 ((cyM 1000000000 (rowsT A C i) (dig 1000000000 A i) C i k : Nat) : Int)), (13, .int .i64 k)] w0 F [] F1 [g, [(b7, .cells ⟨[.bool (negS t), .slice qo KC qc]⟩ 93 (0, 0))], [(b6, .cells ⟨[.bool (negS s), .slice (some ⟨ba, offa, none⟩) KA pc]⟩ 93 (0, 0))]] a w') ?_ ?_
    · (refine ⟨K - i, i, g, rfl, Nat.le_refl _, by omega, ?_, ?_⟩; rotate_left 1; (rw [cyM_start b2]; refine S.keep ?_; repeat (first | exact trivial | refine ⟨rfl, ?_⟩)); refine own_low hown fun j hj => (dig_row_low b2 hj))
    (clear hown S; rintro m a w ⟨k, g, rfl, hik, hkK, hown, S⟩; have hcy := cyM_le (b := 1000000000) (T := rowsT A C i) (p := dig 1000000000 A i) (B := C) b2 hik (dig_lt b2 A i); have hdT := dig_lt b2 (rowsT A C i) k; have hdC := dig_lt b2 C (k - i); have hdA := dig_lt b2 A i; have hdm : dig 1000000000 A i * dig 1000000000 C (k - i) ≤ 999999999 * 999999999 := Nat.mul_le_mul (by omega) (by omega); have hzC : KC ≤ k - i → dig 1000000000 C (k - i) = 0 := fun h => dig_zero (lt_nd b2 C) (by omega) b2)
    (revert S a; refine go01 8 ?_; intro Z hZ a S)
    refine wpc_split S rfl (fun h => ?_) (fun h => ?_)
    · (skip; (try simp only [tq] at h))
      (revert S a; revert hZ Z; refine go12 8 ?_; intro Z hZ Z hZ a S)
      (refine wpl_v S rfl rfl rfl (sv_loadOwn S rfl rfl hown (mixL_at (by omega))) ?_; clear S a; intro a S)
      (revert S a; revert hZ Z; refine go12 9 ?_; intro Z hZ Z hZ a S)
      first | (refine wpl_v S rfl rfl rfl (sv_subN S rfl rfl rfl (by omega)) ?_; clear S a; intro a S) | (refine wpl_v S rfl rfl rfl (sv_sub S rfl rfl rfl (by omega)) ?_; clear S a; intro a S)
      (revert S a; revert hZ Z; refine go10 6 ?_; intro a S)
      refine wpc_split S rfl (fun h => ?_) (fun h => ?_)
      · (skip; (try simp only [tq] at h))
        (obtain ⟨bc, offc, rfl, hcsc⟩ := hqp (by omega); have hcf := celN hcsc (j := k - i) (by omega))
        (revert S a; refine go00 7 ?_; intro a S)
        first | (refine wpl_v S rfl rfl rfl (sv_subN S rfl rfl rfl (by omega)) ?_; clear S a; intro a S) | (refine wpl_v S rfl rfl rfl (sv_sub S rfl rfl rfl (by omega)) ?_; clear S a; intro a S)
        (revert S a; refine go00 2 ?_; intro a S)
        (refine wpl_v S rfl rfl rfl (sv_mul S rfl rfl rfl (by first | omega | (simp only [List.length_append, List.length_cons, List.length_nil]; omega))) ?_; clear S a; intro a S)
        (revert S a; revert hZ Z; refine go10 4 ?_; intro a S)
        (replace S := S.keep (L' := [(6, .pointer (some ⟨b6, 0, none⟩)), (7, .pointer (some ⟨b7, 0, none⟩)), (9, .slice (some ⟨b, 0, none⟩) K K), (34, .slice (some ⟨ba, offa, none⟩) KA pc), (35, .int .i64 KA), (36, .int .i64 i), (10, .int .i64 i), (11, .int .i64 ((dig 1000000000 A i : Nat) : Int)), (13, .int .i64 k), (14, .int .i64 ((cyM 1000000000 (rowsT A C i) (dig 1000000000 A i) C i k + (dig 1000000000 (rowsT A C i) k + dig 1000000000 A i * dig 1000000000 C (k - i)) : Nat) : Int))]) ⟨rfl, rfl, rfl, rfl, rfl, rfl, rfl, rfl, rfl, reg (by first | (rw [hzC (by omega)]; simp only [Nat.mul_zero]; omega) | (simp only [Int.natCast_add, Int.natCast_mul]; omega)), trivial⟩)
        (revert S a; refine go00 4 ?_; intro a S)
        (refine wpl_v S rfl rfl rfl (sv_rem S rfl rfl rfl (by first | omega | (simp only [List.length_append, List.length_cons, List.length_nil]; omega))) ?_; clear S a; intro a S)
        (revert S a; refine go00 1 ?_; intro a S)
        (refine wpl_v S rfl rfl rfl (sv_quo S rfl rfl rfl (by first | omega | (simp only [List.length_append, List.length_cons, List.length_nil]; omega))) ?_; clear S a; intro a S)
        (revert S a; refine go00 1 ?_; intro a S)
        (refine wpl_storeOwn S rfl rfl rfl rfl rfl hown rfl (by omega) ?_; clear hown S; intro g w hown S)
        (revert S a; revert hZ Z; refine go10 8 ?_; intro a S)
        change ∃ m', _ ∧ _
        exact zzMul0
      (skip; (try simp only [tq] at h))
      refine wp_skip ?_
      (refine hZ _ _ ?_; clear hZ Z)
      (replace S := S.keep (L' := [(6, .pointer (some ⟨b6, 0, none⟩)), (7, .pointer (some ⟨b7, 0, none⟩)), (9, .slice (some ⟨b, 0, none⟩) K K), (34, .slice (some ⟨ba, offa, none⟩) KA pc), (35, .int .i64 KA), (36, .int .i64 i), (10, .int .i64 i), (11, .int .i64 ((dig 1000000000 A i : Nat) : Int)), (13, .int .i64 k), (14, .int .i64 ((cyM 1000000000 (rowsT A C i) (dig 1000000000 A i) C i k + (dig 1000000000 (rowsT A C i) k + dig 1000000000 A i * dig 1000000000 C (k - i)) : Nat) : Int))]) ⟨rfl, rfl, rfl, rfl, rfl, rfl, rfl, rfl, rfl, reg (by first | (rw [hzC (by omega)]; simp only [Nat.mul_zero]; omega) | (simp only [Int.natCast_add, Int.natCast_mul]; omega)), trivial⟩)
      (revert S a; refine go00 4 ?_; intro a S)
      (refine wpl_v S rfl rfl rfl (sv_rem S rfl rfl rfl (by first | omega | (simp only [List.length_append, List.length_cons, List.length_nil]; omega))) ?_; clear S a; intro a S)
      (revert S a; refine go00 1 ?_; intro a S)
      (refine wpl_v S rfl rfl rfl (sv_quo S rfl rfl rfl (by first | omega | (simp only [List.length_append, List.length_cons, List.length_nil]; omega))) ?_; clear S a; intro a S)
      (revert S a; refine go00 1 ?_; intro a S)
      (refine wpl_storeOwn S rfl rfl rfl rfl rfl hown rfl (by omega) ?_; clear hown S; intro g w hown S)
      (revert S a; revert hZ Z; refine go10 8 ?_; intro a S)
      change ∃ m', _ ∧ _
      exact zzMul0
    (skip; (try simp only [tq] at h))
    (refine wp_exit ?_; conv => whnf)
    clear hZ Z
    (revert S a; revert hZ Z; refine go10 5 ?_; intro a S)
    change ∃ m', _ ∧ _
    (refine ⟨KA - (i + 1), by omega, i + 1, g, rfl, by omega, ?_, ?_⟩; rotate_left 1; (refine S.keep ?_; repeat (first | exact trivial | refine ⟨rfl, ?_⟩)); rw [rows_step]; exact own_full hown (by omega))
  (skip; (try simp only [tq] at h))
  (refine wp_exit ?_; conv => whnf)
  clear hZ Z
  (refine hZ _ _ ?_; clear hZ Z)
  (refine wp_seq_k ?_; intro Z hZ)
  (have hle := add_le (G1 := []) S; replace S := St.freeze (G1 := []) S; simp only [List.nil_append] at S; rw [rows_full (i := i) (by have := lt_nd b2 A; rw [hKA] at this; rwa [show i = KA by omega])] at hown; have hsl := hown.slC F1)
  (refine wpc_mixL [0, 1, 2, 3, 4, 5, 7, 9, 10] [1, 3] [b6, b7] S mixed (by kernel_rfl) ?_; clear S; intro w S)
  refine wppk_one rfl rfl ?_
  (refine wpp_v S rfl rfl rfl rfl (fun _ S => sv_fieldAddr S rfl rfl rfl inferInstance rfl) ?_; clear S a; intro a S)
  refine wpp_nil ?_
  first | (refine wppk_late S rfl rfl rfl rfl rfl (fun w' hw => hw.1) (fun w' S => sv_loadO S rfl rfl (by rfl)) ?_; clear S a; intro a S) | (refine wppk_late S rfl rfl rfl rfl rfl (fun w' hw => hw.1) (fun w' S => sv_loadAO S rfl rfl (by rfl)) ?_; clear S a; intro a S) | (refine wppk_late S rfl rfl rfl rfl rfl (fun w' hw => hw.2.1) (fun w' S => sv_loadO S rfl rfl (by rfl)) ?_; clear S a; intro a S) | (refine wppk_late S rfl rfl rfl rfl rfl (fun w' hw => hw.2.1) (fun w' S => sv_loadAO S rfl rfl (by rfl)) ?_; clear S a; intro a S)
  refine wppk_one rfl rfl ?_
  (refine wpp_v S rfl rfl rfl rfl (fun _ S => sv_fieldAddr S rfl rfl rfl inferInstance rfl) ?_; clear S a; intro a S)
  refine wpp_nil ?_
  first | (refine wppk_late S rfl rfl rfl rfl rfl (fun w' hw => hw.1) (fun w' S => sv_loadO S rfl rfl (by rfl)) ?_; clear S a; intro a S) | (refine wppk_late S rfl rfl rfl rfl rfl (fun w' hw => hw.1) (fun w' S => sv_loadAO S rfl rfl (by rfl)) ?_; clear S a; intro a S) | (refine wppk_late S rfl rfl rfl rfl rfl (fun w' hw => hw.2.1) (fun w' S => sv_loadO S rfl rfl (by rfl)) ?_; clear S a; intro a S) | (refine wppk_late S rfl rfl rfl rfl rfl (fun w' hw => hw.2.1) (fun w' S => sv_loadAO S rfl rfl (by rfl)) ?_; clear S a; intro a S)
  refine wppk_one rfl rfl ?_
  (refine wpp_v S rfl rfl rfl rfl (fun _ S => sv_neB S rfl rfl rfl) ?_; clear S a; intro a S)
  refine wpp_nil ?_
  refine wppk_one rfl rfl ?_
  (refine wpp_v S rfl rfl rfl rfl (fun _ S => sv_pure S rfl) ?_; clear S a; intro a S)
  refine wpp_nil ?_
  refine wplk_one rfl ⟨S.has inferInstance, S.has inferInstance, trivial⟩ ?_
  (refine wpl_call0 S rfl rfl rfl rfl rfl rfl (trimCt (A * C) K _ _ hlt (by omega) hsl) rfl ?_; clear S a; intro u a w hu S; have hu0 := hu; obtain ⟨uo, uc, rfl, -, -⟩ := hu0)
  refine wpList_nil ?_
  refine wppk_one rfl rfl ?_
  (refine wpp_v S rfl rfl rfl rfl (fun _ S => sv_build S rfl rfl rfl) ?_; clear S a; intro a S)
  refine wpp_nil ?_
  refine wplk_one rfl ⟨S.has inferInstance, S.has inferInstance, trivial⟩ ?_
  (refine wpl_call0 S rfl rfl rfl rfl rfl rfl (textCt (negS s != negS t) (A * C) _ (F1.add g) ((hT.mono hF1).mono hle) (by omega) ⟨_, rfl, hu⟩) rfl ?_; clear S a; intro v a w hv S; subst hv)
  refine wpList_nil ?_
  refine wppk_one rfl rfl ?_
  (refine wpp_v S rfl rfl rfl rfl (fun _ S => sv_pure S rfl) ?_; clear S a; intro a S)
  refine wpp_nil ?_
  refine wppk_one rfl rfl ?_
  (refine wpp_v S rfl rfl rfl rfl (fun _ S => sv_pure S rfl) ?_; clear S a; intro a S)
  refine wpp_nil ?_
  refine wplk_one rfl ⟨S.has inferInstance, S.has inferInstance, trivial⟩ ?_
  (revert S a; refine go00 2 ?_; intro a S)
  refine wplk_one rfl ⟨S.has inferInstance, S.has inferInstance, trivial⟩ ?_
  (revert S a; refine go00 2 ?_; intro a S)
  refine wplk_nil ⟨S.has inferInstance, S.has inferInstance, trivial⟩ ?_
  (refine hZ _ _ ?_; clear hZ Z)
  refine wp_ret (fin_ret S (results2 Tryz.results40 (RV.tmp S rfl) (RV.tmp S rfl)) ?_)
  rfl
end Go.Proofs.YtigblodhdfnleaaGreatDoor
