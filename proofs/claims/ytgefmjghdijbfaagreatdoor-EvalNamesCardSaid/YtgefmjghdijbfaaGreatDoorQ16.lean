/- Walks. -/
import Derived.Test.YtgefmjghdijbfaaGreatDoorQ15
import Derived.Test.YtgefmjghdijbfaaGreatDoorQ11
set_option maxHeartbeats 4000000
namespace Go.Proofs.YtgefmjghdijbfaaGreatDoor
open Go Go.Wk Go.Num
set_option linter.unusedSimpArgs false
set_option linter.unusedVariables false
attribute [local irreducible] Go.wpList Go.Code.wp Go.wpStill Go.Wk.wpPre Go.bodyPost Go.Calls Go.Wk.Ct Go.Wk.OwnS Go.wpListIn Go.Code.wpIn Go.CallsIn Go.bodyPostM Go.Wk.roundP Go.Wk.wpG
def showS (neg : Bool) (N : Nat) : List UInt8 × Int := if N = 0 then ([48], 0) else if 200 < (Lib.decDigits N).length then ([], 80) else ((if neg then [45] else []) ++ Lib.decDigits N, 0)
def tx (N j : Nat) : List UInt8 := if N / 1000000000 ^ j = 0 then [] else Lib.decDigits (N / 1000000000 ^ j)
theorem tx_top (N : Nat) : tx N (nd 1000000000 N) = [] := by unfold tx; rw [if_pos (Nat.div_eq_of_lt (lt_nd b2 N))]
theorem tx_zero {N : Nat} (h : 0 < N) : tx N 0 = Lib.decDigits N := by unfold tx; rw [Nat.pow_zero, Nat.div_one, if_neg (by omega)]
theorem div_top {N j : Nat} (h : j < nd 1000000000 N) : 0 < N / 1000000000 ^ j := by
 have hN : 0 < N := by
  rcases Nat.eq_zero_or_pos N with e | e
  ·subst e; rw [nd_zero] at h; omega
  ·exact e
 refine Nat.div_pos (Nat.le_trans (Nat.pow_le_pow_right (by decide) (by omega)) (le_pow_nd b2 hN)) (Nat.pow_pos (by decide))
theorem tx_step {N j : Nat} (h : j + 1 < nd 1000000000 N) : tx N j = tx N (j + 1) ++ (List.replicate (9 - (Lib.decDigits (dig 1000000000 N j)).length) 48 ++ Lib.decDigits (dig 1000000000 N j)) := by
 have h1 := div_top h
 have h0 := div_top (j := j) (N := N) (by omega)
 unfold tx
 rw [if_neg (by omega), if_neg (by omega), div_eq 1000000000 N j, Nat.mul_comm]
 exact dd_cat9 h1 (dig_lt b2 N j)
theorem tx_first {N j : Nat} (h : j + 1 = nd 1000000000 N) : tx N j = tx N (j + 1) ++ Lib.decDigits (dig 1000000000 N j) := by
 have h0 := div_top (j := j) (N := N) (by omega)
 rw [h, tx_top]
 unfold tx
 rw [if_neg (by omega), div_eq 1000000000 N j, h, Nat.div_eq_of_lt (lt_nd b2 N)]
 simp
theorem tx_len0 {N j M : Nat} (hM : 9 * nd 1000000000 N ≤ M) (h0 : M ≠ 0) : (tx N j).length ≤ M := by
 unfold tx
 split
 ·simp
 ·rename_i h
  have hlt : N / 1000000000 ^ j < 10 ^ M := by
   refine Nat.lt_of_le_of_lt (Nat.div_le_self _ _) (Nat.lt_of_lt_of_le (lt_nd b2 N) ?_)
   have e : (1000000000 : Nat) = 10 ^ 9 := by decide
   rw [e, ← Nat.pow_mul]
   rw [e] at hM
   exact Nat.pow_le_pow_right (by decide) hM
  exact dd_len hlt h0
theorem tx_len {N j : Nat} (hN : nd 1000000000 N ≤ 1000000) : (tx N j).length ≤ 9000000 := tx_len0 (by omega) (by decide)
theorem perm3 {X g Y : Grp} {p : Nat × Obj} : (([p] :: [X, g, Y] : List Grp)).flatten.Perm (([X, g] : List Grp).flatten ++ ([[p], Y] : List Grp).flatten) := by
 simp only [List.flatten_cons, List.flatten_nil, List.append_nil, List.singleton_append, List.append_assoc]
 have := (List.perm_middle (a := p) (l₁ := X ++ g) (l₂ := Y)).symm
 simpa only [List.append_assoc] using this
theorem textCt (neg : Bool) (N : Nat) (u : Value) (F : Heap) (hT : TabF F) (hlN : nd 1000000000 N ≤ 1000000) (hu : NumV F u neg N) :
  Ct Tryz.prog 111 [u] F [] (fun _ _ r => r = .tuple ⟨[.string (bs (showS neg N).1), .int .i64 (showS neg N).2]⟩) := by
 obtain ⟨pu, rfl, hpu⟩ := hu
 have hu0 := hpu
 obtain ⟨ao, ca, rfl, hca, hpa⟩ := hu0
 have hlen := fun j => tx_len (j := j) hlN
 generalize hK : nd 1000000000 N = K at *
 refine Ct.enterM Tryz.func111 rfl Tryz.ntmps111 rfl fun w0 a S => ?_
 (refine wpIn_seq_k ?_; intro Z hZ)
 refine wpi_region rfl ?_
 (refine wbx S ?_; clear S a; intro b1 a w S)
 (revert S a; revert hZ Z; refine go 4 ?_; intro a S)
 iterate 2 (refine wpIn_seq_k ?_; intro Z hZ)
 refine wpi_region rfl ?_
 (revert S a; revert hZ Z; refine go 6 ?_; intro a S)
 refine wpi_split S rfl (fun h => ?_) (fun h => ?_)
 ·(skip; (try simp only [tq] at h))
  (refine wpIn_seq_k ?_; intro Z hZ)
  refine wpi_region rfl ?_
  (revert S a; revert hZ Z; refine go 4 ?_; intro a S)
  refine wpIn_ret ?_
  refine fin_retN S (results2 Tryz.results111 (RV.tmp S rfl) (RV.tmp S rfl)) ?_
  (rw [show showS neg N = ([48], 0) from (by unfold showS; rw [if_pos (nd_eq_zero b2 (by omega))])]; rfl)
 (skip; (try simp only [tq] at h))
 refine wpIn_skip ?_
 (refine hZ _ _ ?_; clear hZ Z)
 (refine wpIn_seq_k ?_; intro Z hZ)
 refine wpi_region rfl ?_
 (refine wpl_alloc S rfl rfl rfl rfl ?_; clear S a; intro b4 a w S)
 (revert S a; revert hZ Z; refine go 2 ?_; intro a S)
 iterate 2 (refine wpIn_seq_k ?_; intro Z hZ)
 (replace S : St _ _ _ _ _ _ [bldG b4 (.pointer none) (.slice none 0 0), [], [(b1, .cells ⟨[.bool neg, .slice ao K ca]⟩ 180 (0, 0))]] _ _ := ⟨S.fr, S.tr.perm (.refl _)⟩)
 refine wpi_region rfl ?_
 (revert S a; refine go 2 ?_; intro a S)
 (refine wpl_callFrz S rfl rfl rfl rfl rfl rfl (backwardCt _ F) rfl ?_; clear S a; intro bx F5 a w hF5 hbx S; have hbox := hbx 0 _ rfl; have hT5 := hT.mono hF5)
 (revert S a; revert hZ Z; refine go 2 ?_; intro a S)
 refine wpIn_block ?_
 refine wpi_back S rfl rfl rfl rfl (backIter bx K (dig 1000000000 N) F5 ao ca (by omega) hbox (fun h0 => by obtain ⟨b, off, h1, h2⟩ := hpa h0; exact ⟨b, off, h1, h2.mono hF5⟩)) (fun j F2 G2 => F5 = F2 ∧ ∃ p v g, G2 = [bldG b4 p v, g, [(b1, .cells ⟨[.bool neg, .slice ao K ca]⟩ 180 (0, 0))]] ∧ bldP b4 p ∧ OwnS 5 1 v (tx N j).length (u8c (tx N j)) g) (fun _ _ => False) (⟨rfl, .pointer none, .slice none 0 0, [], rfl, .inl rfl, (by rw [show tx N K = [] from (by rw [← hK]; exact tx_top N)]; exact OwnS.nil _ _)⟩) (fun j => [(5, .int .i64 (j : Int)), (6, .int .i64 ((dig 1000000000 N j : Nat) : Int)), (1, .pointer (some ⟨b1, 0, none⟩)), (4, .pointer (some ⟨b4, 0, none⟩))]) ?_ ?_ ?_ ?_
 ·(clear S; intro r j w F1 G1 a KA S hKA)
  (refine wpIn_seq_k ?_; intro Z hZ)
  refine wpi_region rfl ?_
  (revert S a; revert hZ Z; refine go 3 ?_; intro a S)
  refine wpi_region rfl ?_
  (revert S a; refine go 2 ?_; intro a S)
  (refine hKA _ ?_; refine S.keep ?_; exact zk)
 ·(clear S; intro r j w F1 G1 a hj hF1 hI S)
  (obtain ⟨rfl, p, v, g, rfl, hp, hown⟩ := hI; have hdj := dig_lt b2 N j; have hdp := dd_pos (dig 1000000000 N j); have hdl : (Lib.decDigits (dig 1000000000 N j)).length ≤ 9 := dd_len (m := 9) hdj (by decide); have hlj := hlen (j + 1))
  refine wpIn_block ?_
  (refine wpIn_seq_k ?_; intro Z hZ)
  refine wpi_region rfl ?_
  (revert S a; refine go 1 ?_; intro a S)
  (refine wc0 S (formatCt (dig 1000000000 N j) F5 (by omega) hT5) ?_; clear S a; intro v a w hv S; subst hv)
  (revert S a; revert hZ Z; refine go 3 ?_; intro a S)
  iterate 2 (refine wpIn_seq_k ?_; intro Z hZ)
  refine wpi_region rfl ?_
  (revert S a; refine go 4 ?_; intro a S)
  first | (refine wv S (sv_subN (q := 1) S rfl rfl rfl (by omega)) ?_; clear S a; intro a S) | (refine wv S (sv_sub S rfl rfl rfl (by omega)) ?_; clear S a; intro a S)
  (revert S a; revert hZ Z; refine go 3 ?_; intro a S)
  refine wpi_split S rfl (fun h => ?_) (fun h => ?_)
  ·(skip; (try simp only [tq] at h))
   refine wpi_region rfl ?_
   (revert S a; refine go 2 ?_; intro a S)
   first | (refine wv S (sv_subN (p := 9) S rfl rfl rfl (by omega)) ?_; clear S a; intro a S) | (refine wv S (sv_sub S rfl rfl rfl (by omega)) ?_; clear S a; intro a S)
   (refine wc0 S (repeatCt 48 (9 - (Lib.decDigits (dig 1000000000 N j)).length) F5 (by omega)) ?_; clear S a; intro v a w hv S; subst hv)
   (revert S a; refine go 1 ?_; intro a S)
   (refine wv S (sv_cat S rfl rfl rfl (by rw [List.length_replicate]; omega)) ?_; clear S a; intro a S)
   (revert S a; revert hZ Z; refine go 3 ?_; intro a S)
   refine wpi_region rfl ?_
   (revert S a; refine go 1 ?_; intro a S)
   (first | (refine wpl_callOwn (Gs := [bldG b4 p v, g]) (Gr := [[(b1, .cells ⟨[.bool neg, .slice ao K ca]⟩ 180 (0, 0))]]) S rfl rfl rfl rfl rfl rfl (writeString2Ct b4 p v _ (tx N (j + 1)) (List.replicate (9 - (Lib.decDigits (dig 1000000000 N j)).length) 48 ++ Lib.decDigits (dig 1000000000 N j)) g F5 hp hown (by rw [List.length_append]; omega) (by rw [List.length_append, List.length_replicate]; omega)) rfl (by simp) ?_; rw [← List.length_append, ← tx_step (by omega)]) | (refine wpl_callOwn (Gs := [bldG b4 p v, g]) (Gr := [[(b1, .cells ⟨[.bool neg, .slice ao K ca]⟩ 180 (0, 0))]]) S rfl rfl rfl rfl rfl rfl (writeString2Ct b4 p v _ (tx N (j + 1)) (Lib.decDigits (dig 1000000000 N j)) g F5 hp hown (by omega) (by omega)) rfl (by simp) ?_; rw [← List.length_append, ← tx_first (by omega)])); clear S a hown; intro u1 G1 a w hv1 S; obtain ⟨v1, g1, rfl, hown⟩ := hv1
   refine wpList_nil ?_
   skip
   refine round_normal S.tr ?_
   exact ⟨rfl, _, _, _, rfl, .inr rfl, hown⟩
  (skip; (try simp only [tq] at h))
  refine wpIn_skip ?_
  (refine hZ _ _ ?_; clear hZ Z)
  refine wpi_region rfl ?_
  (revert S a; refine go 1 ?_; intro a S)
  (first | (refine wpl_callOwn (Gs := [bldG b4 p v, g]) (Gr := [[(b1, .cells ⟨[.bool neg, .slice ao K ca]⟩ 180 (0, 0))]]) S rfl rfl rfl rfl rfl rfl (writeString2Ct b4 p v _ (tx N (j + 1)) (List.replicate (9 - (Lib.decDigits (dig 1000000000 N j)).length) 48 ++ Lib.decDigits (dig 1000000000 N j)) g F5 hp hown (by rw [List.length_append]; omega) (by rw [List.length_append, List.length_replicate]; omega)) rfl (by simp) ?_; rw [← List.length_append, ← tx_step (by omega)]) | (refine wpl_callOwn (Gs := [bldG b4 p v, g]) (Gr := [[(b1, .cells ⟨[.bool neg, .slice ao K ca]⟩ 180 (0, 0))]]) S rfl rfl rfl rfl rfl rfl (writeString2Ct b4 p v _ (tx N (j + 1)) (Lib.decDigits (dig 1000000000 N j)) g F5 hp hown (by omega) (by omega)) rfl (by simp) ?_; rw [← List.length_append, ← tx_first (by omega)])); clear S a hown; intro u1 G1 a w hv1 S; obtain ⟨v1, g1, rfl, hown⟩ := hv1
  refine wpList_nil ?_
  skip
  refine round_normal S.tr ?_
  exact ⟨rfl, _, _, _, rfl, .inr rfl, hown⟩
 ·(clear S; intro D F1 G1 a w hF1 hI S)
  (obtain ⟨rfl, p, v, g, rfl, hp, hown⟩ := hI; have hN0 : 0 < N := (by rcases Nat.eq_zero_or_pos N with e | e; subst e; rw [nd_zero] at hK; omega; exact e); have hl0 := hlen 0; rw [tx_zero hN0] at hown hl0; have hdp := dd_pos N)
  (refine hZ _ _ ?_; clear hZ Z)
  iterate 2 (refine wpIn_seq_k ?_; intro Z hZ)
  refine wpi_region rfl ?_
  (refine wpl_callOwn (Gs := [bldG b4 p v, g]) (Gr := [[(D, .deferred (some []))], [(b1, .cells ⟨[.bool neg, .slice ao K ca]⟩ 180 (0, 0))]]) S rfl rfl rfl rfl rfl rfl (bldLenCt b4 p v _ _ g F5 hown) rfl perm3 ?_; clear S a; intro u1 G1 a w hv1 S; obtain ⟨rfl, rfl⟩ := hv1; replace S : St _ _ _ _ _ _ [bldG b4 p v, g, [(D, .deferred (some []))], [(b1, .cells ⟨[.bool neg, .slice ao K ca]⟩ 180 (0, 0))]] _ _ := S)
  (revert S a; revert hZ Z; refine go 3 ?_; intro a S)
  refine wpi_split S rfl (fun h => ?_) (fun h => ?_)
  ·(skip; (try simp only [tq] at h))
   (refine wpIn_seq_k ?_; intro Z hZ)
   refine wpi_region rfl ?_
   (revert S a; revert hZ Z; refine go 4 ?_; intro a S)
   refine wpIn_ret ?_
   (refine fin_retM S fun w S => ?_; try (dsimp only at S))
   refine ⟨_, results2 Tryz.results111 (RV.tmp S rfl) (RV.tmp S rfl), ?_⟩
   (unfold showS; rw [if_neg (by omega)]; (first | (rw [if_pos (by omega)]; rfl) | (rw [if_neg (by omega)]; cases neg <;> first | rfl | (exfalso; simp at h))))
  (skip; (try simp only [tq] at h))
  refine wpIn_skip ?_
  (refine hZ _ _ ?_; clear hZ Z)
  iterate 2 (refine wpIn_seq_k ?_; intro Z hZ)
  refine wpi_region rfl ?_
  (revert S a; revert hZ Z; refine go 4 ?_; intro a S)
  refine wpi_split S rfl (fun h => ?_) (fun h => ?_)
  ·(skip; (try simp only [tq] at h))
   (refine wpIn_seq_k ?_; intro Z hZ)
   refine wpi_region rfl ?_
   (refine wpl_callOwn (Gs := [bldG b4 p v, g]) (Gr := [[(D, .deferred (some []))], [(b1, .cells ⟨[.bool neg, .slice ao K ca]⟩ 180 (0, 0))]]) S rfl rfl rfl rfl rfl rfl (bldString2Ct b4 p v _ _ g F5 (by omega) hdp hown) rfl (by simp) ?_; clear S a; intro u1 G1 a w hv1 S; subst hv1; replace S : St _ _ _ _ _ _ [[(D, .deferred (some []))], [(b1, .cells ⟨[.bool neg, .slice ao K ca]⟩ 180 (0, 0))]] _ _ := ⟨S.fr, S.tr.sub (by rw [List.flatten_append]; exact List.sublist_append_right _ _)⟩)
   (refine wv S (sv_cat S rfl rfl rfl (by first | omega | (simp only [List.length_append, List.length_cons, List.length_nil]; omega))) ?_; clear S a; intro a S)
   (revert S a; revert hZ Z; refine go 4 ?_; intro a S)
   refine wpIn_ret ?_
   (refine fin_retM S fun w S => ?_; try (dsimp only at S))
   refine ⟨_, results2 Tryz.results111 (RV.tmp S rfl) (RV.tmp S rfl), ?_⟩
   (unfold showS; rw [if_neg (by omega)]; (first | (rw [if_pos (by omega)]; rfl) | (rw [if_neg (by omega)]; cases neg <;> first | rfl | (exfalso; simp at h))))
  (skip; (try simp only [tq] at h))
  refine wpIn_skip ?_
  (refine hZ _ _ ?_; clear hZ Z)
  (refine wpIn_seq_k ?_; intro Z hZ)
  refine wpi_region rfl ?_
  (refine wpl_callOwn (Gs := [bldG b4 p v, g]) (Gr := [[(D, .deferred (some []))], [(b1, .cells ⟨[.bool neg, .slice ao K ca]⟩ 180 (0, 0))]]) S rfl rfl rfl rfl rfl rfl (bldString2Ct b4 p v _ _ g F5 (by omega) hdp hown) rfl (by simp) ?_; clear S a; intro u1 G1 a w hv1 S; subst hv1; replace S : St _ _ _ _ _ _ [[(D, .deferred (some []))], [(b1, .cells ⟨[.bool neg, .slice ao K ca]⟩ 180 (0, 0))]] _ _ := ⟨S.fr, S.tr.sub (by rw [List.flatten_append]; exact List.sublist_append_right _ _)⟩)
  (revert S a; revert hZ Z; refine go 4 ?_; intro a S)
  refine wpIn_ret ?_
  (refine fin_retM S fun w S => ?_; try (dsimp only at S))
  refine ⟨_, results2 Tryz.results111 (RV.tmp S rfl) (RV.tmp S rfl), ?_⟩
  (unfold showS; rw [if_neg (by omega)]; (first | (rw [if_pos (by omega)]; rfl) | (rw [if_neg (by omega)]; cases neg <;> first | rfl | (exfalso; simp at h))))
 (clear S; intro D F1 G1 a w hF1 hI S)
 exact hI.elim
theorem nd_num {s : List UInt8} (h : checkS s = 0) : nd 1000000000 (decV (bodyS s)) ≤ 23 := by
 obtain ⟨h1, h2, _⟩ := check_digits h
 refine nd_le (Nat.lt_of_lt_of_le (decV_lt _ h1) ?_) b2
 have e : (1000000000 : Nat) = 10 ^ 9 := by decide
 rw [e, ← Nat.pow_mul]
 exact Nat.pow_le_pow_right (by decide) (by omega)
theorem nd_mono {A C : Nat} (h : A ≤ C) : nd 1000000000 A ≤ nd 1000000000 C := nd_le (Nat.lt_of_le_of_lt h (lt_nd b2 C)) b2
theorem nd_addS (n1 : Bool) (A : Nat) (n2 : Bool) (C : Nat) (hA : nd 1000000000 A ≤ 500000) (hC : nd 1000000000 C ≤ 500000) : nd 1000000000 (addS n1 A n2 C).2 ≤ 1000000 := by
 unfold addS
 split
 ·have := nd_le (lt_pow_max b2 (lt_nd b2 A) (lt_nd b2 C)) b2
  show nd 1000000000 (A + C) ≤ _
  omega
 ·split
  ·have := nd_mono (Nat.sub_le A C)
   show nd 1000000000 (A - C) ≤ _
   omega
  ·have := nd_mono (Nat.sub_le C A)
   show nd 1000000000 (C - A) ≤ _
   omega
theorem both_ok {s t : List UInt8} (h : bothE s t = 0) : checkS s = 0 ∧ checkS t = 0 := by
 unfold bothE at h
 split at h
 ·exact ⟨by assumption, h⟩
 ·exact absurd h (by assumption)
def addA (s t : List UInt8) : List UInt8 × Int := if bothE s t = 0 then showS (addS (negS s) (decV (bodyS s)) (negS t) (decV (bodyS t))).1 (addS (negS s) (decV (bodyS s)) (negS t) (decV (bodyS t))).2 else ([], bothE s t)
def subA (s t : List UInt8) : List UInt8 × Int := if bothE s t = 0 then showS (addS (negS s) (decV (bodyS s)) (!negS t) (decV (bodyS t))).1 (addS (negS s) (decV (bodyS s)) (!negS t) (decV (bodyS t))).2 else ([], bothE s t)
def negA (s : List UInt8) : List UInt8 × Int := if checkS s = 0 then showS (!negS s) (decV (bodyS s)) else ([], checkS s)
def ansV (x : List UInt8 × Int) : Value := .tuple ⟨[.string (bs x.1), .int .i64 x.2]⟩
theorem add0Err (s t : List UInt8) (F : Heap) (hT : TabF F) (hs : s.length ≤ 1000000) (ht : t.length ≤ 1000000) (hbe : ¬ bothE s t = 0) : Ct Tryz.prog 58 [.string (bs s), .string (bs t)] F [] (fun _ _ u => u = ansV (addA s t)) := by
 refine Ct.enter Tryz.func58 rfl Tryz.ntmps58 rfl fun w0 a S => ?_
 (revert S a; refine go 8 ?_; intro Z hZ a S)
 (refine wcF S (bothCt s t F (by omega) (by omega)) ?_; clear S a; intro v F1 a w hv hF1 S; rw [BothV, if_neg hbe] at hv; subst hv)
 (revert S a; refine go 4 ?_; intro a S)
 (refine wpl_alloc S rfl rfl rfl rfl ?_; clear S a; intro b6 a w S)
 (refine wpl_alloc S rfl rfl rfl rfl ?_; clear S a; intro b7 a w S)
 iterate 2 (refine wso S rfl rfl ?_; clear S; intro w S)
 (revert S a; revert hZ Z; refine go 9 ?_; intro Z hZ a S)
 refine wpc_split S rfl (fun h => ?_) (fun h => ?_)
 ·(skip; (try simp only [tq] at h))
  (revert S a; refine go 6 ?_; intro a S)
  refine wp_ret (fr2 S Tryz.results58 ?_)
  (rw [show addA s t = ([], bothE s t) from (by unfold addA; rw [if_neg hbe])]; rfl)
 (skip; (try simp only [tq] at h); exact absurd h hbe)
theorem add0Ok (s t : List UInt8) (F : Heap) (hT : TabF F) (hs : s.length ≤ 1000000) (ht : t.length ≤ 1000000) (hbe : bothE s t = 0) : Ct Tryz.prog 58 [.string (bs s), .string (bs t)] F [] (fun _ _ u => u = ansV (addA s t)) := by
 have hn1 := nd_num (both_ok hbe).1
 have hn2 := nd_num (both_ok hbe).2
 refine Ct.enter Tryz.func58 rfl Tryz.ntmps58 rfl fun w0 a S => ?_
 (revert S a; refine go 8 ?_; intro Z hZ a S)
 (refine wcF S (bothCt s t F (by omega) (by omega)) ?_; clear S a; intro v F1 a w hv hF1 S; rw [BothV, if_pos hbe] at hv; obtain ⟨p, q, rfl, hp, hq⟩ := hv; have hp0 := hp; have hq0 := hq; obtain ⟨po, pc, rfl, -, -⟩ := hp0; obtain ⟨qo, qc, rfl, -, -⟩ := hq0)
 (revert S a; refine go 4 ?_; intro a S)
 (refine wpl_alloc S rfl rfl rfl rfl ?_; clear S a; intro b6 a w S)
 (refine wpl_alloc S rfl rfl rfl rfl ?_; clear S a; intro b7 a w S)
 iterate 2 (refine wso S rfl rfl ?_; clear S; intro w S)
 (revert S a; revert hZ Z; refine go 9 ?_; intro Z hZ a S)
 refine wpc_split S rfl (fun h => ?_) (fun h => ?_)
 ·(skip; (try simp only [tq] at h); exact absurd trivial h)
 (skip; (try simp only [tq] at h))
 (revert S a; revert hZ Z; refine go 5 ?_; intro Z hZ a S)
 (refine wcF S (addCt (negS s) _ (negS t) _ _ _ F1 (by omega) (by omega) ⟨_, rfl, hp⟩ ⟨_, rfl, hq⟩) ?_; clear S a; intro v2 F2 a w hv2 hF2 S; obtain ⟨r, rfl, hr⟩ := hv2)
 (refine wc0 S (textCt _ _ _ F2 ((hT.mono hF1).mono hF2) (nd_addS _ _ _ _ (by omega) (by omega)) ⟨_, rfl, hr⟩) ?_; clear S a; intro v a w hv S; subst hv)
 (revert S a; revert hZ Z; refine go 6 ?_; intro a S)
 refine wp_ret (fr2 S Tryz.results58 ?_)
 ((rw [show addA s t = _ from (by unfold addA; rw [if_pos hbe])]; rfl))
theorem add0Ct (s t : List UInt8) (F : Heap) (hT : TabF F) (hs : s.length ≤ 1000000) (ht : t.length ≤ 1000000) : Ct Tryz.prog 58 [.string (bs s), .string (bs t)] F [] (fun _ _ u => u = ansV (addA s t)) := by
 by_cases hbe : bothE s t = 0
 ·exact add0Ok s t F hT hs ht hbe
 ·exact add0Err s t F hT hs ht hbe
def cmpV (x : Int × Int) : Value := .tuple ⟨[.int .i64 x.1, .int .i64 x.2]⟩
theorem sub0Err (s t : List UInt8) (F : Heap) (hT : TabF F) (hs : s.length ≤ 1000000) (ht : t.length ≤ 1000000) (hbe : ¬ bothE s t = 0) : Ct Tryz.prog 60 [.string (bs s), .string (bs t)] F [] (fun _ _ u => u = ansV (subA s t)) := by
 refine Ct.enter Tryz.func60 rfl Tryz.ntmps60 rfl fun w0 a S => ?_
 (revert S a; refine go 8 ?_; intro Z hZ a S)
 (refine wcF S (bothCt s t F (by omega) (by omega)) ?_; clear S a; intro v F1 a w hv hF1 S; rw [BothV, if_neg hbe] at hv; subst hv)
 (revert S a; refine go 4 ?_; intro a S)
 (refine wpl_alloc S rfl rfl rfl rfl ?_; clear S a; intro b6 a w S)
 (refine wpl_alloc S rfl rfl rfl rfl ?_; clear S a; intro b7 a w S)
 iterate 2 (refine wso S rfl rfl ?_; clear S; intro w S)
 (revert S a; revert hZ Z; refine go 9 ?_; intro Z hZ a S)
 refine wpc_split S rfl (fun h => ?_) (fun h => ?_)
 ·(skip; (try simp only [tq] at h))
  (revert S a; refine go 6 ?_; intro a S)
  refine wp_ret (fr2 S Tryz.results60 ?_)
  (rw [show subA s t = ([], bothE s t) from (by unfold subA; rw [if_neg hbe])]; rfl)
 (skip; (try simp only [tq] at h); exact absurd h hbe)
theorem sub0Ok (s t : List UInt8) (F : Heap) (hT : TabF F) (hs : s.length ≤ 1000000) (ht : t.length ≤ 1000000) (hbe : bothE s t = 0) : Ct Tryz.prog 60 [.string (bs s), .string (bs t)] F [] (fun _ _ u => u = ansV (subA s t)) := by
 have hn1 := nd_num (both_ok hbe).1
 have hn2 := nd_num (both_ok hbe).2
 refine Ct.enter Tryz.func60 rfl Tryz.ntmps60 rfl fun w0 a S => ?_
 (revert S a; refine go 8 ?_; intro Z hZ a S)
 (refine wcF S (bothCt s t F (by omega) (by omega)) ?_; clear S a; intro v F1 a w hv hF1 S; rw [BothV, if_pos hbe] at hv; obtain ⟨p, q, rfl, hp, hq⟩ := hv; have hp0 := hp; have hq0 := hq; obtain ⟨po, pc, rfl, -, -⟩ := hp0; obtain ⟨qo, qc, rfl, -, -⟩ := hq0)
 (revert S a; refine go 4 ?_; intro a S)
 (refine wpl_alloc S rfl rfl rfl rfl ?_; clear S a; intro b6 a w S)
 (refine wpl_alloc S rfl rfl rfl rfl ?_; clear S a; intro b7 a w S)
 iterate 2 (refine wso S rfl rfl ?_; clear S; intro w S)
 (revert S a; revert hZ Z; refine go 9 ?_; intro Z hZ a S)
 refine wpc_split S rfl (fun h => ?_) (fun h => ?_)
 ·(skip; (try simp only [tq] at h); exact absurd trivial h)
 (skip; (try simp only [tq] at h))
 refine wp_skip ?_
 (refine hZ _ _ ?_; clear hZ Z)
 (refine wp_seq_k ?_; intro Z hZ)
 (refine wpc_mixL [0, 1, 5, 6] [0] [b6, b7] S mixed (by kernel_rfl) ?_; clear S; intro w S)
 first | (refine wppk_late S rfl rfl rfl rfl rfl (fun w' hw => hw.1) (fun w' S => sv_loadO S rfl rfl (by rfl)) ?_; clear S a; intro a S) | (refine wppk_late S rfl rfl rfl rfl rfl (fun w' hw => hw.1) (fun w' S => sv_loadAO S rfl rfl (by rfl)) ?_; clear S a; intro a S) | (refine wppk_late S rfl rfl rfl rfl rfl (fun w' hw => hw.2.1) (fun w' S => sv_loadO S rfl rfl (by rfl)) ?_; clear S a; intro a S) | (refine wppk_late S rfl rfl rfl rfl rfl (fun w' hw => hw.2.1) (fun w' S => sv_loadAO S rfl rfl (by rfl)) ?_; clear S a; intro a S)
 refine wppk_one rfl rfl ?_
 first | (refine wpp_s S rfl rfl rfl rfl (sv_loadAO S rfl rfl (by rfl)) ?_; clear S a; intro a S) | (refine wpp_s S rfl rfl rfl rfl (sv_loadAF S rfl rfl (by assumption) (by rfl)) ?_; clear S a; intro a S)
 refine wpp_nil ?_
 refine wplk_one rfl ⟨S.has inferInstance, S.has inferInstance, trivial⟩ ?_
 (refine wcF S (turnedCt (negS t) _ _ F1 ⟨_, rfl, hq⟩) ?_; clear S a; intro v3 F3 a w hv3 hF3 S; obtain ⟨r3, rfl, hr3⟩ := hv3)
 refine wpList_nil ?_
 refine wplk_one rfl ⟨S.has inferInstance, S.has inferInstance, trivial⟩ ?_
 (refine wcF S (addCt (negS s) _ (!negS t) _ _ _ F3 (by omega) (by omega) ⟨_, rfl, hp.mono hF3⟩ ⟨_, rfl, hr3⟩) ?_; clear S a; intro v2 F2 a w hv2 hF2 S; obtain ⟨r, rfl, hr⟩ := hv2)
 refine wpList_nil ?_
 refine wplk_one rfl ⟨S.has inferInstance, S.has inferInstance, trivial⟩ ?_
 (refine wc0 S (textCt _ _ _ F2 (((hT.mono hF1).mono hF3).mono hF2) (nd_addS _ _ _ _ (by omega) (by omega)) ⟨_, rfl, hr⟩) ?_; clear S a; intro v a w hv S; subst hv)
 refine wpList_nil ?_
 refine wppk_one rfl rfl ?_
 (refine wpp_v S rfl rfl rfl rfl (fun _ S => sv_pure S rfl) ?_; clear S a; intro a S)
 refine wpp_nil ?_
 refine wppk_one rfl rfl ?_
 (refine wpp_v S rfl rfl rfl rfl (fun _ S => sv_pure S rfl) ?_; clear S a; intro a S)
 refine wpp_nil ?_
 refine wplk_one rfl ⟨S.has inferInstance, S.has inferInstance, trivial⟩ ?_
 (revert S a; refine go 2 ?_; intro a S)
 refine wplk_one rfl ⟨S.has inferInstance, S.has inferInstance, trivial⟩ ?_
 (revert S a; refine go 2 ?_; intro a S)
 refine wplk_nil ⟨S.has inferInstance, S.has inferInstance, trivial⟩ ?_
 (refine hZ _ _ ?_; clear hZ Z)
 refine wp_ret (fr2 S Tryz.results60 ?_)
 ((rw [show subA s t = _ from (by unfold subA; rw [if_pos hbe])]; rfl))
theorem sub0Ct (s t : List UInt8) (F : Heap) (hT : TabF F) (hs : s.length ≤ 1000000) (ht : t.length ≤ 1000000) : Ct Tryz.prog 60 [.string (bs s), .string (bs t)] F [] (fun _ _ u => u = ansV (subA s t)) := by
 by_cases hbe : bothE s t = 0
 ·exact sub0Ok s t F hT hs ht hbe
 ·exact sub0Err s t F hT hs ht hbe
theorem negErr (s : List UInt8) (F : Heap) (hs : s.length ≤ 1000000) (hbe : ¬ checkS s = 0) : Ct Tryz.prog 166 [.string (bs s)] F [] (fun _ _ u => u = ansV (negA s)) := by
 refine Ct.enter Tryz.func166 rfl Tryz.ntmps166 rfl fun w0 a S => ?_
 (revert S a; refine go 8 ?_; intro Z hZ Z hZ a S)
 (refine wc0 S (checkCt s F (by omega)) ?_; clear S a; intro v a w hv S; subst hv)
 (revert S a; revert hZ Z; refine go 8 ?_; intro a S)
 refine wpc_split S rfl (fun h => ?_) (fun h => ?_)
 ·(skip; (try simp only [tq] at h))
  (revert S a; refine go 6 ?_; intro a S)
  refine wp_ret (fr2 S Tryz.results166 ?_)
  (rw [show negA s = ([], checkS s) from (by unfold negA; rw [if_neg hbe])]; rfl)
 (skip; (try simp only [tq] at h); exact absurd h hbe)
theorem negOk (s : List UInt8) (F : Heap) (hT : TabF F) (hs : s.length ≤ 1000000) (hbe : checkS s = 0) : Ct Tryz.prog 166 [.string (bs s)] F [] (fun _ _ u => u = ansV (negA s)) := by
 have hn1 := nd_num hbe
 refine Ct.enter Tryz.func166 rfl Tryz.ntmps166 rfl fun w0 a S => ?_
 (revert S a; refine go 8 ?_; intro Z hZ Z hZ a S)
 (refine wc0 S (checkCt s F (by omega)) ?_; clear S a; intro v a w hv S; subst hv)
 (revert S a; revert hZ Z; refine go 8 ?_; intro a S)
 refine wpc_split S rfl (fun h => ?_) (fun h => ?_)
 ·(skip; (try simp only [tq] at h); exact absurd hbe h)
 (skip; (try simp only [tq] at h))
 (revert S a; revert hZ Z; refine go 4 ?_; intro Z hZ a S)
 (refine wcF S (ofCt s F hbe) ?_; clear S a; intro v F1 a w hv hF1 S; obtain ⟨r, rfl, hr⟩ := hv)
 (refine wcF S (turnedCt (negS s) _ _ F1 ⟨_, rfl, hr⟩) ?_; clear S a; intro v2 F2 a w hv2 hF2 S; obtain ⟨r2, rfl, hr2⟩ := hv2)
 (refine wc0 S (textCt _ _ _ F2 ((hT.mono hF1).mono hF2) (by omega) ⟨_, rfl, hr2⟩) ?_; clear S a; intro v a w hv S; subst hv)
 (revert S a; revert hZ Z; refine go 6 ?_; intro a S)
 refine wp_ret (fr2 S Tryz.results166 ?_)
 (rw [show negA s = _ from (by unfold negA; rw [if_pos hbe])]; rfl)
theorem negCt (s : List UInt8) (F : Heap) (hT : TabF F) (hs : s.length ≤ 1000000) : Ct Tryz.prog 166 [.string (bs s)] F [] (fun _ _ u => u = ansV (negA s)) := by
 by_cases hbe : checkS s = 0
 ·exact negOk s F hT hs hbe
 ·exact negErr s F hs hbe
end Go.Proofs.YtgefmjghdijbfaaGreatDoor
