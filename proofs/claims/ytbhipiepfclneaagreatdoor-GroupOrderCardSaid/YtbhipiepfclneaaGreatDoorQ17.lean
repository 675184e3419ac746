/- Walks. -/
import Derived.Test.YtbhipiepfclneaaGreatDoorQ16
import Derived.Test.YtbhipiepfclneaaGreatDoorQ07
import Derived.Test.YtbhipiepfclneaaGreatDoorQ04
import Derived.OpenShut
import Derived.Below
import Derived.Carry
import Derived.SizedLaws
import Derived.Deep.Slices
import Derived.Deep.Strs
import Derived.Test.YtbhipiepfclneaaGreatDoorQ14
import Derived.ChangeSame
set_option maxHeartbeats 4000000
namespace Go.Proofs.YtbhipiepfclneaaGreatDoor
open Go Go.Wk Go.Num
set_option linter.unusedSimpArgs false
set_option linter.unusedVariables false
attribute [local irreducible] Go.wpList Go.Code.wp Go.wpStill Go.Wk.wpPre Go.bodyPost Go.Calls Go.Wk.Ct Go.Wk.OwnS Go.wpListIn Go.Code.wpIn Go.CallsIn Go.bodyPostM Go.Wk.roundP Go.Wk.wpG Go.Wk.wpM
def showS (neg : Bool) (N : Nat) : List UInt8 × Int := if N = 0 then ([48], 0) else if 200 < (Lib.decDigits N).length then ([], 80) else ((if neg then [45] else []) ++ Lib.decDigits N, 0)
def tx (N j : Nat) : List UInt8 := if N / 1000000000 ^ j = 0 then [] else Lib.decDigits (N / 1000000000 ^ j)
theorem tx_top (N : Nat) : tx N (nd 1000000000 N) = [] := by unfold tx; rw [if_pos (Nat.div_eq_of_lt (lt_nd b2 N))]
theorem tx_zero {N : Nat} (h : 0 < N) : tx N 0 = Lib.decDigits N := by unfold tx; rw [Nat.pow_zero, Nat.div_one, if_neg (by omega)]
theorem div_top {N j : Nat} (h : j < nd 1000000000 N) : 0 < N / 1000000000 ^ j := by
 have hN : 0 < N := by
  rcases Nat.eq_zero_or_pos N with e | e
  ·subst e; rw [nd_zero] at h; omega
  ·exact e
 refine Nat.div_pos (Nat.le_trans (Nat.pow_le_pow_right (by decide) (by omega)) (le_pow_nd b2 hN)) (Nat.pow_pos (by decide))
theorem tx_step {N j : Nat} (h : j + 1 < nd 1000000000 N) : tx N j = tx N (j + 1) ++ (List.replicate (9 - (Lib.decDigits (dig 1000000000 N j)).length) 48 ++ Lib.decDigits (dig 1000000000 N j)) := by
 have h1 := div_top h
 have h0 := div_top (j := j) (N := N) (by omega)
 unfold tx
 rw [if_neg (by omega), if_neg (by omega), div_eq 1000000000 N j, Nat.mul_comm]
 exact dd_cat9 h1 (dig_lt b2 N j)
theorem tx_first {N j : Nat} (h : j + 1 = nd 1000000000 N) : tx N j = tx N (j + 1) ++ Lib.decDigits (dig 1000000000 N j) := by
 have h0 := div_top (j := j) (N := N) (by omega)
 rw [h, tx_top]
 unfold tx
 rw [if_neg (by omega), div_eq 1000000000 N j, h, Nat.div_eq_of_lt (lt_nd b2 N)]
 simp
theorem tx_len0 {N j M : Nat} (hM : 9 * nd 1000000000 N ≤ M) (h0 : M ≠ 0) : (tx N j).length ≤ M := by
 unfold tx
 split
 ·simp
 ·rename_i h
  have hlt : N / 1000000000 ^ j < 10 ^ M := by
   refine Nat.lt_of_le_of_lt (Nat.div_le_self _ _) (Nat.lt_of_lt_of_le (lt_nd b2 N) ?_)
   have e : (1000000000 : Nat) = 10 ^ 9 := by decide
   rw [e, ← Nat.pow_mul]
   rw [e] at hM
   exact Nat.pow_le_pow_right (by decide) hM
  exact dd_len hlt h0
theorem tx_len {N j : Nat} (hN : nd 1000000000 N ≤ 1000000) : (tx N j).length ≤ 9000000 := tx_len0 (by omega) (by decide)
theorem perm3 {X g Y : Grp} {p : Nat × Obj} : (([p] :: [X, g, Y] : List Grp)).flatten.Perm (([X, g] : List Grp).flatten ++ ([[p], Y] : List Grp).flatten) := by
 simp only [List.flatten_cons, List.flatten_nil, List.append_nil, List.singleton_append, List.append_assoc]
 have := (List.perm_middle (a := p) (l₁ := X ++ g) (l₂ := Y)).symm
 simpa only [List.append_assoc] using this
theorem textCt (neg : Bool) (N : Nat) (u : Value) (F : Heap) (hT : TabF F) (hlN : nd 1000000000 N ≤ 1000000) (hu : NumV F u neg N) :
  Ct Tryz.prog 38 [u] F [] (fun _ _ r => r = .tuple ⟨[.string (bs (showS neg N).1), .int .i64 (showS neg N).2]⟩) := by
 obtain ⟨pu, rfl, hpu⟩ := hu
 have hu0 := hpu
 obtain ⟨ao, ca, rfl, hca, hpa⟩ := hu0
 have hlen := fun j => tx_len (j := j) hlN
 generalize hK : nd 1000000000 N = K at *
 refine Ct.enterM Tryz.func38 rfl Tryz.ntmps38 rfl fun w0 a S => ?_
 (refine wpIn_seq_k ?_; intro Z hZ)
 refine wpi_region rfl ?_
 (refine wbx S ?_; clear S a; intro b1 a w S)
 (revert S a; revert hZ Z; refine go 4 ?_; intro a S)
 iterate 2 (refine wpIn_seq_k ?_; intro Z hZ)
 refine wpi_region rfl ?_
 (revert S a; revert hZ Z; refine go 6 ?_; intro a S)
 refine wpi_split S rfl (fun h => ?_) (fun h => ?_)
 ·(skip; (try simp only [tq] at h))
  (refine wpIn_seq_k ?_; intro Z hZ)
  refine wpi_region rfl ?_
  (revert S a; revert hZ Z; refine go 4 ?_; intro a S)
  refine wpIn_ret ?_
  refine fin_retN S (results2 Tryz.results38 (RV.tmp S rfl) (RV.tmp S rfl)) ?_
  (rw [show showS neg N = ([48], 0) from (by unfold showS; rw [if_pos (nd_eq_zero b2 (by omega))])]; rfl)
 (skip; (try simp only [tq] at h))
 refine wpIn_skip ?_
 (refine hZ _ _ ?_; clear hZ Z)
 (refine wpIn_seq_k ?_; intro Z hZ)
 refine wpi_region rfl ?_
 (refine wpl_alloc S rfl rfl rfl rfl ?_; clear S a; intro b4 a w S)
 (revert S a; revert hZ Z; refine go 2 ?_; intro a S)
 iterate 2 (refine wpIn_seq_k ?_; intro Z hZ)
 (replace S : St _ _ _ _ _ _ [bldG b4 (.pointer none) (.slice none 0 0), [], [(b1, .cells ⟨[.bool neg, .slice ao K ca]⟩ 86 (0, 0))]] _ _ := ⟨S.fr, S.tr.perm (.refl _)⟩)
 refine wpi_region rfl ?_
 (revert S a; refine go 2 ?_; intro a S)
 (refine wpl_callFrz S rfl rfl rfl rfl rfl rfl (backwardCt _ F) rfl ?_; clear S a; intro bx F5 a w hF5 hbx S; have hbox := hbx 0 _ rfl; have hT5 := hT.mono hF5)
 (revert S a; revert hZ Z; refine go 2 ?_; intro a S)
 refine wpIn_block ?_
 refine wpi_back S rfl rfl rfl rfl (backIter bx K (dig 1000000000 N) F5 ao ca (by omega) hbox (fun h0 => by obtain ⟨b, off, h1, h2⟩ := hpa h0; exact ⟨b, off, h1, h2.mono hF5⟩)) (fun j F2 G2 => F5 = F2 ∧ ∃ p v g, G2 = [bldG b4 p v, g, [(b1, .cells ⟨[.bool neg, .slice ao K ca]⟩ 86 (0, 0))]] ∧ bldP b4 p ∧ OwnS 5 1 v (tx N j).length (u8c (tx N j)) g) (fun _ _ => False) (⟨rfl, .pointer none, .slice none 0 0, [], rfl, .inl rfl, (by rw [show tx N K = [] from (by rw [← hK]; exact tx_top N)]; exact OwnS.nil _ _)⟩) (fun j => [(5, .int .i64 (j : Int)), (6, .int .i64 ((dig 1000000000 N j : Nat) : Int)), (1, .pointer (some ⟨b1, 0, none⟩)), (4, .pointer (some ⟨b4, 0, none⟩))]) ?_ ?_ ?_ ?_
 ·(clear S; intro r j w F1 G1 a KA S hKA)
  (refine wpIn_seq_k ?_; intro Z hZ)
  refine wpi_region rfl ?_
  (revert S a; revert hZ Z; refine go 3 ?_; intro a S)
  refine wpi_region rfl ?_
  (revert S a; refine go 2 ?_; intro a S)
  (refine hKA _ ?_; refine S.keep ?_; exact zk)
 ·(clear S; intro r j w F1 G1 a hj hF1 hI S)
  (obtain ⟨rfl, p, v, g, rfl, hp, hown⟩ := hI; have hdj := dig_lt b2 N j; have hdp := dd_pos (dig 1000000000 N j); have hdl : (Lib.decDigits (dig 1000000000 N j)).length ≤ 9 := dd_len (m := 9) hdj (by decide); have hlj := hlen (j + 1))
  refine wpIn_block ?_
  (refine wpIn_seq_k ?_; intro Z hZ)
  refine wpi_region rfl ?_
  (revert S a; refine go 1 ?_; intro a S)
  (refine wc0 S (formatCt (dig 1000000000 N j) F5 (by omega) hT5) ?_; clear S a; intro v a w hv S; subst hv)
  (revert S a; revert hZ Z; refine go 3 ?_; intro a S)
  iterate 2 (refine wpIn_seq_k ?_; intro Z hZ)
  refine wpi_region rfl ?_
  (revert S a; refine go 4 ?_; intro a S)
  first | (refine wv S (sv_subN (q := 1) S rfl rfl rfl (by omega)) ?_; clear S a; intro a S) | (refine wv S (sv_sub S rfl rfl rfl (by omega)) ?_; clear S a; intro a S)
  (revert S a; revert hZ Z; refine go 3 ?_; intro a S)
  refine wpi_split S rfl (fun h => ?_) (fun h => ?_)
  ·(skip; (try simp only [tq] at h))
   refine wpi_region rfl ?_
   (revert S a; refine go 2 ?_; intro a S)
   first | (refine wv S (sv_subN (p := 9) S rfl rfl rfl (by omega)) ?_; clear S a; intro a S) | (refine wv S (sv_sub S rfl rfl rfl (by omega)) ?_; clear S a; intro a S)
   (refine wc0 S (repeatCt 48 (9 - (Lib.decDigits (dig 1000000000 N j)).length) F5 (by omega)) ?_; clear S a; intro v a w hv S; subst hv)
   (revert S a; refine go 1 ?_; intro a S)
   (refine wv S (sv_cat S rfl rfl rfl (by rw [List.length_replicate]; omega)) ?_; clear S a; intro a S)
   (revert S a; revert hZ Z; refine go 3 ?_; intro a S)
   refine wpi_region rfl ?_
   (revert S a; refine go 1 ?_; intro a S)
   (first | (refine wpl_callOwn (Gs := [bldG b4 p v, g]) (Gr := [[(b1, .cells ⟨[.bool neg, .slice ao K ca]⟩ 86 (0, 0))]]) S rfl rfl rfl rfl rfl rfl (writeString2Ct b4 p v _ (tx N (j + 1)) (List.replicate (9 - (Lib.decDigits (dig 1000000000 N j)).length) 48 ++ Lib.decDigits (dig 1000000000 N j)) g F5 hp hown (by rw [List.length_append]; omega) (by rw [List.length_append, List.length_replicate]; omega)) rfl (by simp) ?_; rw [← List.length_append, ← tx_step (by omega)]) | (refine wpl_callOwn (Gs := [bldG b4 p v, g]) (Gr := [[(b1, .cells ⟨[.bool neg, .slice ao K ca]⟩ 86 (0, 0))]]) S rfl rfl rfl rfl rfl rfl (writeString2Ct b4 p v _ (tx N (j + 1)) (Lib.decDigits (dig 1000000000 N j)) g F5 hp hown (by omega) (by omega)) rfl (by simp) ?_; rw [← List.length_append, ← tx_first (by omega)])); clear S a hown; intro u1 G1 a w hv1 S; obtain ⟨v1, g1, rfl, hown⟩ := hv1
   refine wpList_nil ?_
   skip
   refine round_normal S.tr ?_
   exact ⟨rfl, _, _, _, rfl, .inr rfl, hown⟩
  (skip; (try simp only [tq] at h))
  refine wpIn_skip ?_
  (refine hZ _ _ ?_; clear hZ Z)
  refine wpi_region rfl ?_
  (revert S a; refine go 1 ?_; intro a S)
  (first | (refine wpl_callOwn (Gs := [bldG b4 p v, g]) (Gr := [[(b1, .cells ⟨[.bool neg, .slice ao K ca]⟩ 86 (0, 0))]]) S rfl rfl rfl rfl rfl rfl (writeString2Ct b4 p v _ (tx N (j + 1)) (List.replicate (9 - (Lib.decDigits (dig 1000000000 N j)).length) 48 ++ Lib.decDigits (dig 1000000000 N j)) g F5 hp hown (by rw [List.length_append]; omega) (by rw [List.length_append, List.length_replicate]; omega)) rfl (by simp) ?_; rw [← List.length_append, ← tx_step (by omega)]) | (refine wpl_callOwn (Gs := [bldG b4 p v, g]) (Gr := [[(b1, .cells ⟨[.bool neg, .slice ao K ca]⟩ 86 (0, 0))]]) S rfl rfl rfl rfl rfl rfl (writeString2Ct b4 p v _ (tx N (j + 1)) (Lib.decDigits (dig 1000000000 N j)) g F5 hp hown (by omega) (by omega)) rfl (by simp) ?_; rw [← List.length_append, ← tx_first (by omega)])); clear S a hown; intro u1 G1 a w hv1 S; obtain ⟨v1, g1, rfl, hown⟩ := hv1
  refine wpList_nil ?_
  skip
  refine round_normal S.tr ?_
  exact ⟨rfl, _, _, _, rfl, .inr rfl, hown⟩
 ·(clear S; intro D F1 G1 a w hF1 hI S)
  (obtain ⟨rfl, p, v, g, rfl, hp, hown⟩ := hI; have hN0 : 0 < N := (by rcases Nat.eq_zero_or_pos N with e | e; subst e; rw [nd_zero] at hK; omega; exact e); have hl0 := hlen 0; rw [tx_zero hN0] at hown hl0; have hdp := dd_pos N)
  (refine hZ _ _ ?_; clear hZ Z)
  iterate 2 (refine wpIn_seq_k ?_; intro Z hZ)
  refine wpi_region rfl ?_
  (refine wpl_callOwn (Gs := [bldG b4 p v, g]) (Gr := [[(D, .deferred (some []))], [(b1, .cells ⟨[.bool neg, .slice ao K ca]⟩ 86 (0, 0))]]) S rfl rfl rfl rfl rfl rfl (bldLenCt b4 p v _ _ g F5 hown) rfl perm3 ?_; clear S a; intro u1 G1 a w hv1 S; obtain ⟨rfl, rfl⟩ := hv1; replace S : St _ _ _ _ _ _ [bldG b4 p v, g, [(D, .deferred (some []))], [(b1, .cells ⟨[.bool neg, .slice ao K ca]⟩ 86 (0, 0))]] _ _ := S)
  (revert S a; revert hZ Z; refine go 3 ?_; intro a S)
  refine wpi_split S rfl (fun h => ?_) (fun h => ?_)
  ·(skip; (try simp only [tq] at h))
   (refine wpIn_seq_k ?_; intro Z hZ)
   refine wpi_region rfl ?_
   (revert S a; revert hZ Z; refine go 4 ?_; intro a S)
   refine wpIn_ret ?_
   (refine fin_retM S fun w S => ?_; try (dsimp only at S))
   refine ⟨_, results2 Tryz.results38 (RV.tmp S rfl) (RV.tmp S rfl), ?_⟩
   (unfold showS; rw [if_neg (by omega)]; (first | (rw [if_pos (by omega)]; rfl) | (rw [if_neg (by omega)]; cases neg <;> first | rfl | (exfalso; simp at h))))
  (skip; (try simp only [tq] at h))
  refine wpIn_skip ?_
  (refine hZ _ _ ?_; clear hZ Z)
  iterate 2 (refine wpIn_seq_k ?_; intro Z hZ)
  refine wpi_region rfl ?_
  (revert S a; revert hZ Z; refine go 4 ?_; intro a S)
  refine wpi_split S rfl (fun h => ?_) (fun h => ?_)
  ·(skip; (try simp only [tq] at h))
   (refine wpIn_seq_k ?_; intro Z hZ)
   refine wpi_region rfl ?_
   (refine wpl_callOwn (Gs := [bldG b4 p v, g]) (Gr := [[(D, .deferred (some []))], [(b1, .cells ⟨[.bool neg, .slice ao K ca]⟩ 86 (0, 0))]]) S rfl rfl rfl rfl rfl rfl (bldString2Ct b4 p v _ _ g F5 (by omega) hdp hown) rfl (by simp) ?_; clear S a; intro u1 G1 a w hv1 S; subst hv1; replace S : St _ _ _ _ _ _ [[(D, .deferred (some []))], [(b1, .cells ⟨[.bool neg, .slice ao K ca]⟩ 86 (0, 0))]] _ _ := ⟨S.fr, S.tr.sub (by rw [List.flatten_append]; exact List.sublist_append_right _ _)⟩)
   (refine wv S (sv_cat S rfl rfl rfl (by first | omega | (simp only [List.length_append, List.length_cons, List.length_nil]; omega))) ?_; clear S a; intro a S)
   (revert S a; revert hZ Z; refine go 4 ?_; intro a S)
   refine wpIn_ret ?_
   (refine fin_retM S fun w S => ?_; try (dsimp only at S))
   refine ⟨_, results2 Tryz.results38 (RV.tmp S rfl) (RV.tmp S rfl), ?_⟩
   (unfold showS; rw [if_neg (by omega)]; (first | (rw [if_pos (by omega)]; rfl) | (rw [if_neg (by omega)]; cases neg <;> first | rfl | (exfalso; simp at h))))
  (skip; (try simp only [tq] at h))
  refine wpIn_skip ?_
  (refine hZ _ _ ?_; clear hZ Z)
  (refine wpIn_seq_k ?_; intro Z hZ)
  refine wpi_region rfl ?_
  (refine wpl_callOwn (Gs := [bldG b4 p v, g]) (Gr := [[(D, .deferred (some []))], [(b1, .cells ⟨[.bool neg, .slice ao K ca]⟩ 86 (0, 0))]]) S rfl rfl rfl rfl rfl rfl (bldString2Ct b4 p v _ _ g F5 (by omega) hdp hown) rfl (by simp) ?_; clear S a; intro u1 G1 a w hv1 S; subst hv1; replace S : St _ _ _ _ _ _ [[(D, .deferred (some []))], [(b1, .cells ⟨[.bool neg, .slice ao K ca]⟩ 86 (0, 0))]] _ _ := ⟨S.fr, S.tr.sub (by rw [List.flatten_append]; exact List.sublist_append_right _ _)⟩)
  (revert S a; revert hZ Z; refine go 4 ?_; intro a S)
  refine wpIn_ret ?_
  (refine fin_retM S fun w S => ?_; try (dsimp only at S))
  refine ⟨_, results2 Tryz.results38 (RV.tmp S rfl) (RV.tmp S rfl), ?_⟩
  (unfold showS; rw [if_neg (by omega)]; (first | (rw [if_pos (by omega)]; rfl) | (rw [if_neg (by omega)]; cases neg <;> first | rfl | (exfalso; simp at h))))
 (clear S; intro D F1 G1 a w hF1 hI S)
 exact hI.elim
theorem nd_num {s : List UInt8} (h : checkS s = 0) : nd 1000000000 (decV (bodyS s)) ≤ 23 := by
 obtain ⟨h1, h2, _⟩ := check_digits h
 refine nd_le (Nat.lt_of_lt_of_le (decV_lt _ h1) ?_) b2
 have e : (1000000000 : Nat) = 10 ^ 9 := by decide
 rw [e, ← Nat.pow_mul]
 exact Nat.pow_le_pow_right (by decide) (by omega)
theorem nd_mono {A C : Nat} (h : A ≤ C) : nd 1000000000 A ≤ nd 1000000000 C := nd_le (Nat.lt_of_le_of_lt h (lt_nd b2 C)) b2
theorem nd_addS (n1 : Bool) (A : Nat) (n2 : Bool) (C : Nat) (hA : nd 1000000000 A ≤ 500000) (hC : nd 1000000000 C ≤ 500000) : nd 1000000000 (addS n1 A n2 C).2 ≤ 1000000 := by
 unfold addS
 split
 ·have := nd_le (lt_pow_max b2 (lt_nd b2 A) (lt_nd b2 C)) b2
  show nd 1000000000 (A + C) ≤ _
  omega
 ·split
  ·have := nd_mono (Nat.sub_le A C)
   show nd 1000000000 (A - C) ≤ _
   omega
  ·have := nd_mono (Nat.sub_le C A)
   show nd 1000000000 (C - A) ≤ _
   omega
theorem both_ok {s t : List UInt8} (h : bothE s t = 0) : checkS s = 0 ∧ checkS t = 0 := by
 unfold bothE at h
 split at h
 ·exact ⟨by assumption, h⟩
 ·exact absurd h (by assumption)
def addA (s t : List UInt8) : List UInt8 × Int := if bothE s t = 0 then showS (addS (negS s) (decV (bodyS s)) (negS t) (decV (bodyS t))).1 (addS (negS s) (decV (bodyS s)) (negS t) (decV (bodyS t))).2 else ([], bothE s t)
def ansV (x : List UInt8 × Int) : Value := .tuple ⟨[.string (bs x.1), .int .i64 x.2]⟩
theorem add0Err (s t : List UInt8) (F : Heap) (hT : TabF F) (hs : s.length ≤ 1000000) (ht : t.length ≤ 1000000) (hbe : ¬ bothE s t = 0) : Ct Tryz.prog 16 [.string (bs s), .string (bs t)] F [] (fun _ _ u => u = ansV (addA s t)) := by
 refine Ct.enter Tryz.func16 rfl Tryz.ntmps16 rfl fun w0 a S => ?_
 (revert S a; refine go 8 ?_; intro Z hZ a S)
 (refine wcF S (bothCt s t F (by omega) (by omega)) ?_; clear S a; intro v F1 a w hv hF1 S; rw [BothV, if_neg hbe] at hv; subst hv)
 (revert S a; refine go 4 ?_; intro a S)
 (refine wpl_alloc S rfl rfl rfl rfl ?_; clear S a; intro b6 a w S)
 (refine wpl_alloc S rfl rfl rfl rfl ?_; clear S a; intro b7 a w S)
 iterate 2 (refine wso S rfl rfl ?_; clear S; intro w S)
 (revert S a; revert hZ Z; refine go 9 ?_; intro Z hZ a S)
 refine wpc_split S rfl (fun h => ?_) (fun h => ?_)
 ·(skip; (try simp only [tq] at h))
  (revert S a; refine go 6 ?_; intro a S)
  refine wp_ret (fr2 S Tryz.results16 ?_)
  (rw [show addA s t = ([], bothE s t) from (by unfold addA; rw [if_neg hbe])]; rfl)
 (skip; (try simp only [tq] at h); exact absurd h hbe)
theorem add0Ok (s t : List UInt8) (F : Heap) (hT : TabF F) (hs : s.length ≤ 1000000) (ht : t.length ≤ 1000000) (hbe : bothE s t = 0) : Ct Tryz.prog 16 [.string (bs s), .string (bs t)] F [] (fun _ _ u => u = ansV (addA s t)) := by
 have hn1 := nd_num (both_ok hbe).1
 have hn2 := nd_num (both_ok hbe).2
 refine Ct.enter Tryz.func16 rfl Tryz.ntmps16 rfl fun w0 a S => ?_
 (revert S a; refine go 8 ?_; intro Z hZ a S)
 (refine wcF S (bothCt s t F (by omega) (by omega)) ?_; clear S a; intro v F1 a w hv hF1 S; rw [BothV, if_pos hbe] at hv; obtain ⟨p, q, rfl, hp, hq⟩ := hv; have hp0 := hp; have hq0 := hq; obtain ⟨po, pc, rfl, -, -⟩ := hp0; obtain ⟨qo, qc, rfl, -, -⟩ := hq0)
 (revert S a; refine go 4 ?_; intro a S)
 (refine wpl_alloc S rfl rfl rfl rfl ?_; clear S a; intro b6 a w S)
 (refine wpl_alloc S rfl rfl rfl rfl ?_; clear S a; intro b7 a w S)
 iterate 2 (refine wso S rfl rfl ?_; clear S; intro w S)
 (revert S a; revert hZ Z; refine go 9 ?_; intro Z hZ a S)
 refine wpc_split S rfl (fun h => ?_) (fun h => ?_)
 ·(skip; (try simp only [tq] at h); exact absurd trivial h)
 (skip; (try simp only [tq] at h))
 (revert S a; revert hZ Z; refine go 5 ?_; intro Z hZ a S)
 (refine wcF S (addCt (negS s) _ (negS t) _ _ _ F1 (by omega) (by omega) ⟨_, rfl, hp⟩ ⟨_, rfl, hq⟩) ?_; clear S a; intro v2 F2 a w hv2 hF2 S; obtain ⟨r, rfl, hr⟩ := hv2)
 (refine wc0 S (textCt _ _ _ F2 ((hT.mono hF1).mono hF2) (nd_addS _ _ _ _ (by omega) (by omega)) ⟨_, rfl, hr⟩) ?_; clear S a; intro v a w hv S; subst hv)
 (revert S a; revert hZ Z; refine go 6 ?_; intro a S)
 refine wp_ret (fr2 S Tryz.results16 ?_)
 ((rw [show addA s t = _ from (by unfold addA; rw [if_pos hbe])]; rfl))
theorem add0Ct (s t : List UInt8) (F : Heap) (hT : TabF F) (hs : s.length ≤ 1000000) (ht : t.length ≤ 1000000) : Ct Tryz.prog 16 [.string (bs s), .string (bs t)] F [] (fun _ _ u => u = ansV (addA s t)) := by
 by_cases hbe : bothE s t = 0
 ·exact add0Ok s t F hT hs ht hbe
 ·exact add0Err s t F hT hs ht hbe
def cmpV (x : Int × Int) : Value := .tuple ⟨[.int .i64 x.1, .int .i64 x.2]⟩
def valS (s : List UInt8) : Int := toZ (negS s, decV (bodyS s))
def showZ (z : Int) : List UInt8 × Int := showS (decide (z < 0)) z.natAbs
def ansZ (e : Int) (x : List UInt8 × Int) : List UInt8 × Int := if e = 0 then x else ([], e)
theorem showS_zero (n : Bool) : showS n 0 = ([48], 0) := by unfold showS; rw [if_pos rfl]
theorem showS_toZ (n : Bool) (N : Nat) : showS n N = showZ (toZ (n, N)) := by
 unfold showZ
 rcases Nat.eq_zero_or_pos N with e | e
 ·subst e
  have : toZ (n, 0) = 0 := by unfold toZ; cases n <;> rfl
  rw [this, showS_zero]; rfl
 ·cases n
  ·have h : toZ (false, N) = (N : Int) := rfl
   rw [h, show decide ((N : Int) < 0) = false by simp]; rfl
  ·have h : toZ (true, N) = -(N : Int) := rfl
   rw [h, show decide (-(N : Int) < 0) = true by simp; omega, Int.natAbs_neg]; rfl
theorem addA_eq (s t : List UInt8) : addA s t = ansZ (bothE s t) (showZ (valS s + valS t)) := by
 unfold addA ansZ
 split
 ·rw [showS_toZ]; congr 1; exact toZ_addS _ _ _ _
 ·rfl
theorem head_dd {N : Nat} (h : N ≠ 0) : (Lib.decDigits N).head? ≠ some 48 := by
 induction N using Nat.strongRecOn with
 | _ N ih =>
  by_cases hN : N < 10
  ·rw [dd_small hN]
   intro e
   simp only [List.head?_cons, Option.some.injEq] at e
   have e2 := congrArg UInt8.toNat e
   rw [UInt8.toNat_ofNat', Nat.mod_eq_of_lt (by omega)] at e2
   have : (48 : UInt8).toNat = 48 := rfl
   omega
  ·rw [dd_big hN]
   have hq : N / 10 ≠ 0 := by omega
   have := ih (N / 10) (by omega) hq
   have hne := dd_ne (N / 10)
   cases hd : Lib.decDigits (N / 10) with
   | nil => exact absurd hd hne
   | cons c r => rw [hd] at this; simpa using this
theorem head_isD {l : List UInt8} (h : l.all isD = true) : l.head? ≠ some 45 := by
 cases l with
 | nil => simp
 | cons c r =>
  rw [List.all_cons, Bool.and_eq_true] at h
  intro e
  simp only [List.head?_cons, Option.some.injEq] at e
  rw [e] at h; exact absurd h.1 (by decide)
theorem body_pos {l : List UInt8} (h : l.all isD = true) : bodyS l = l ∧ negS l = false := by
 have := head_isD h
 unfold bodyS negS; rw [if_neg this]; simp [this]
theorem body_neg (l : List UInt8) : bodyS (45 :: l) = l ∧ negS (45 :: l) = true := by unfold bodyS negS; simp
theorem show_ok {z : Int} (h : (showZ z).2 = 0) : checkS (showZ z).1 = 0 ∧ valS (showZ z).1 = z := by
 unfold showZ showS at h ⊢
 by_cases h0 : z.natAbs = 0
 ·rw [if_pos h0]
  have : z = 0 := by omega
  subst this
  exact ⟨by decide, by decide⟩
 ·rw [if_neg h0] at h ⊢
  split at h
  ·cases h
  ·rename_i hl
   rw [if_neg hl]
   have hall := dd_isD z.natAbs
   have hne := dd_ne z.natAbs
   have hh := head_dd h0
   by_cases hz : z < 0
   ·simp only [hz, decide_true, if_true, List.cons_append, List.nil_append]
    obtain ⟨e1, e2⟩ := body_neg (Lib.decDigits z.natAbs)
    refine ⟨?_, ?_⟩
    ·unfold checkS
     rw [e1, if_neg (by intro h; rcases h with h | h; exact hne h; exact hh h.1), if_pos hall, if_neg hl]
    ·unfold valS; rw [e1, e2, dd_val]; show -((z.natAbs : Nat) : Int) = z; omega
   ·simp only [hz, decide_false, Bool.false_eq_true, if_false, List.nil_append]
    obtain ⟨e1, e2⟩ := body_pos hall
    refine ⟨?_, ?_⟩
    ·unfold checkS
     rw [e1, if_neg (by intro h; rcases h with h | h; exact hne h; exact hh h.1), if_pos hall, if_neg hl]
    ·unfold valS; rw [e1, e2, dd_val]; show ((z.natAbs : Nat) : Int) = z; omega
theorem dd_unique : ∀ (n : Nat) (l : List UInt8), l.length = n → l.all isD = true → l ≠ [] → (l.head? = some 48 → l = [48]) → Lib.decDigits (decV l) = l := by
 intro n
 induction n with
 | zero => intro l hl _ hne; exact absurd (List.length_eq_zero_iff.1 hl) hne
 | succ n ih =>
  intro l hl hall hne hh
  obtain ⟨m, c, rfl⟩ : ∃ m c, l = m ++ [c] := ⟨l.dropLast, l.getLast hne, (List.dropLast_concat_getLast hne).symm⟩
  rw [List.all_append, Bool.and_eq_true] at hall
  have hc : isD c = true := by simpa using hall.2
  have hc2 := (isD_iff c).1 hc
  have hdv : dv c = c.toNat - 48 := rfl
  have hce : UInt8.ofNat (48 + dv c) = c := by rw [hdv, show 48 + (c.toNat - 48) = c.toNat by omega, UInt8.ofNat_toNat]
  rw [decV_snoc]
  cases m with
  | nil =>
   rw [decV_nil, Nat.mul_zero, Nat.zero_add, dd_small (dv_lt hc), hce]; rfl
  | cons x r =>
   have hx : x ≠ 48 := fun e => by
    have := hh (by rw [e]; rfl)
    have := congrArg List.length this
    simp at this
   have hm := ih (x :: r) (by simpa using hl) hall.1 (by simp) (fun e => absurd (by simpa using e) hx)
   have hpos : 0 < decV (x :: r) := by
    rcases Nat.eq_zero_or_pos (decV (x :: r)) with e | e
    ·rw [e, dd_small (by decide)] at hm
     simp only [List.cons.injEq] at hm
     exact absurd hm.1.symm hx
    ·exact e
   have hlt := dv_lt hc
   rw [dd_big (by omega), show (10 * decV (x :: r) + dv c) / 10 = decV (x :: r) by omega, show (10 * decV (x :: r) + dv c) % 10 = dv c by omega, hm, hce]
theorem check_parts {s : List UInt8} (h : checkS s = 0) : (bodyS s).all isD = true ∧ (bodyS s).length ≤ 200 ∧ bodyS s ≠ [] ∧ ((bodyS s).head? = some 48 → s = [48]) := by
 obtain ⟨h1, h2, h3⟩ := check_digits h
 refine ⟨h1, h2, h3, fun e => ?_⟩
 by_cases e2 : s = [48]
 ·exact e2
 ·unfold checkS at h
  rw [if_pos (Or.inr ⟨e, e2⟩)] at h; cases h
theorem canon_body {s : List UInt8} (h : checkS s = 0) : Lib.decDigits (decV (bodyS s)) = bodyS s := by
 obtain ⟨h1, h2, h3, h4⟩ := check_parts h
 refine dd_unique _ _ rfl h1 h3 fun e => ?_
 have := h4 e; subst this; decide
theorem s_of_body (s : List UInt8) : s = (if negS s = true then [45] else []) ++ bodyS s := by
 unfold negS bodyS
 cases s with
 | nil => simp
 | cons c r => by_cases h : c = 45 <;> simp [h]
theorem show_val {s : List UInt8} (h : checkS s = 0) : showZ (valS s) = (s, 0) := by
 obtain ⟨h1, h2, h3, h4⟩ := check_parts h
 have hc := canon_body h
 rw [show showZ (valS s) = showS (negS s) (decV (bodyS s)) from (showS_toZ _ _).symm]
 unfold showS
 by_cases h0 : decV (bodyS s) = 0
 ·rw [if_pos h0]
  rw [h0, dd_small (by decide)] at hc
  have := h4 (by rw [← hc]; rfl)
  rw [this]
 ·rw [if_neg h0, hc, if_neg (by omega), ← s_of_body]
theorem val_zero {s : List UInt8} (h : checkS s = 0) : valS s = 0 ↔ s = [48] := by
 constructor
 ·intro e
  have := show_val h
  rw [e] at this
  exact (congrArg Prod.fst this).symm
 ·rintro rfl; decide
theorem dd_len_lt {N m : Nat} (hm : m ≠ 0) : (Lib.decDigits N).length ≤ m ↔ N < 10 ^ m := by
 constructor
 ·intro h
  have := decV_lt _ (dd_isD N)
  rw [dd_val] at this
  exact Nat.lt_of_lt_of_le this (Nat.pow_le_pow_right (by decide) h)
 ·intro h; exact dd_len h hm
theorem showZ_err (z : Int) (M : Nat) (hM : M = 200) : (showZ z).2 = 0 ↔ z.natAbs < 10 ^ M := by
 have h0 : M ≠ 0 := by omega
 have := dd_len_lt (N := z.natAbs) h0
 unfold showZ showS
 by_cases hz : z.natAbs = 0
 ·rw [if_pos hz]; simp [hz]; exact Nat.pow_pos (by decide)
 ·rw [if_neg hz, ← this]
  split
  ·constructor
   ·intro h; cases h
   ·intro h; omega
  ·exact ⟨fun _ => by omega, fun _ => rfl⟩
theorem val_bound {s : List UInt8} (h : checkS s = 0) (M : Nat) (hM : M = 200) : (valS s).natAbs < 10 ^ M := by
 refine (showZ_err _ M hM).1 ?_
 rw [show_val h]
theorem t2 : 2 ≤ 10 := by decide
theorem toZ_neg {N : Nat} (n : Bool) (h : N ≠ 0) : decide (toZ (n, N) < 0) = n := by cases n <;> simp [toZ] <;> omega
theorem dd_nd {N : Nat} (h : N ≠ 0) : (Lib.decDigits N).length = nd 10 N := by
 have h1 : nd 10 N ≤ (Lib.decDigits N).length := nd_le (by have := decV_lt _ (dd_isD N); rwa [dd_val] at this) t2
 have h2 := nd_pos t2 (S := N) (by omega)
 have h3 := dd_len (lt_nd t2 N) (by omega)
 omega
theorem decV_cons (c : UInt8) (r : List UInt8) : decV (c :: r) = dv c * 10 ^ r.length + decV r := by
 have := decV_append [c] r
 rw [List.singleton_append] at this
 rw [this]; congr 1; simp [decV]
theorem parseM (l : List UInt8) : ∀ acc : Nat, l.all isD = true → acc ≤ 18446744073709551615 → Lib.parseUintM (2 ^ 64 - 1) acc l = if acc * 10 ^ l.length + decV l ≤ 18446744073709551615 then .ok (acc * 10 ^ l.length + decV l) else .range := by
 induction l with
 | nil => intro acc _ ha; simp [Lib.parseUintM, decV_nil, ha]
 | cons c r ih =>
  intro acc hall ha
  rw [List.all_cons, Bool.and_eq_true] at hall
  have hc := (isD_iff c).1 hall.1
  have hdv : dv c = c.toNat - 48 := rfl
  have hp : 1 ≤ 10 ^ r.length := Nat.pow_pos (by decide)
  have hge : acc * 10 + dv c ≤ (acc * 10 + dv c) * 10 ^ r.length := Nat.le_mul_of_pos_right _ hp
  have hval : acc * 10 ^ (c :: r).length + decV (c :: r) = (acc * 10 + dv c) * 10 ^ r.length + decV r := by
   rw [decV_cons, List.length_cons, Nat.pow_succ, Nat.add_mul, Nat.mul_assoc, Nat.mul_comm 10, ← Nat.mul_assoc, Nat.add_assoc, Nat.mul_assoc]
  rw [hval]
  unfold Lib.parseUintM
  rw [if_pos hc]
  by_cases h1 : 1844674407370955162 ≤ acc
  ·rw [if_pos h1, if_neg (by omega)]
  ·rw [if_neg h1, ← hdv]
   by_cases h2 : 2 ^ 64 - 1 < acc * 10 + dv c
   ·rw [if_pos h2, if_neg (by omega)]
   ·rw [if_neg h2]
    exact ih _ hall.2 (by omega)
def fitsI (z : Int) : Bool := decide (-9223372036854775808 ≤ z) && decide (z ≤ 9223372036854775807)
theorem parse_int {s : List UInt8} (h : checkS s = 0) : Lib.parseIntB 64 s = if fitsI (valS s) = true then .ok (valS s) else .range := by
 obtain ⟨h1, h2, h3, h4⟩ := check_parts h
 have hu : Lib.parseUintB 64 (bodyS s) = if decV (bodyS s) ≤ 18446744073709551615 then .ok (decV (bodyS s)) else .range := by
  unfold Lib.parseUintB
  rw [if_neg h3, parseM _ 0 h1 (by decide)]; simp
 cases s with
 | nil => exact absurd rfl h3
 | cons c r =>
  unfold Lib.parseIntB
  by_cases hc : c = 45
  ·subst hc
   have hb : bodyS (45 :: r) = r := (body_neg r).1
   have hn : negS (45 :: r) = true := (body_neg r).2
   rw [hb] at hu
   have hv : valS (45 :: r) = -(decV r : Int) := by unfold valS; rw [hb, hn]; rfl
   rw [hv]
   simp only [show (45 : UInt8).toNat = 45 from rfl, or_true, if_true, hu, not_true, false_and, if_false, true_and]
   unfold fitsI
   by_cases hd : decV r ≤ 18446744073709551615
   ·rw [if_pos hd]
    simp only
    by_cases hd2 : 2 ^ (64 - 1) < decV r
    ·rw [if_pos hd2, if_neg (by simp; omega)]
    ·rw [if_neg hd2, if_pos (by simp; omega)]
   ·rw [if_neg hd, if_neg (by simp; omega)]
  ·have hb : bodyS (c :: r) = c :: r := by unfold bodyS; rw [if_neg (by simpa using hc)]
   have hn : negS (c :: r) = false := by unfold negS; simpa using hc
   rw [hb] at hu h1
   have hcd := (isD_iff c).1 (by rw [List.all_cons, Bool.and_eq_true] at h1; exact h1.1)
   have hv : valS (c :: r) = (decV (c :: r) : Int) := by unfold valS; rw [hb, hn]; rfl
   rw [hv]
   have e1 : ¬ c.toNat = 43 := by omega
   have e2 : ¬ c.toNat = 45 := by omega
   simp only [e1, e2, or_self, if_false, hu, not_false_eq_true, true_and, false_and]
   unfold fitsI
   by_cases hd : decV (c :: r) ≤ 18446744073709551615
   ·rw [if_pos hd]
    simp only
    by_cases hd2 : 2 ^ (64 - 1) ≤ decV (c :: r)
    ·rw [if_pos hd2, if_neg (by simp; omega)]
    ·rw [if_neg hd2, if_pos (by simp; omega)]
   ·rw [if_neg hd, if_neg (by simp; omega)]
def ErrF (F : Heap) : Prop := ∃ ev, Cel F 5 0 ev ∧ (ev = .nilIface ∨ ∃ te pe, ev = .iface te pe)
theorem ErrF.mono {F F' : Heap} (hF : ∀ b o, F b = some o → F' b = some o) (h : ErrF F) : ErrF F' := by
 obtain ⟨ev, h1, h2⟩ := h; exact ⟨ev, h1.mono hF, h2⟩
theorem parseIntOk (s : List UInt8) (F : Heap) (hck : checkS s = 0) (hf : fitsI (valS s) = true) (hs : s.length ≤ 1000000) : Ct Tryz.prog 124 [.string (bs s), .int .i64 10, .int .i64 64] F [] (fun _ _ u => u = .tuple ⟨[.int .i64 (valS s), .nilIface]⟩) := by
 refine ct_of_below fun w hw => ?_
 refine (Tryz.strconv_ParseInt_10_at64_ok (bs s) (by rw [bs_size]; omega) (valS s) (by rw [show (bs s).data.toList = s from rfl, parse_int hck, if_pos hf]) w).mono fun e w' ⟨h1, h2⟩ => ⟨h1, ?_⟩
 rcases h2 with rfl | ⟨t, rfl⟩
 ·exact RowKit.Below.refl _ _
 ·exact Lib.bytesWorld_below w _ t
theorem parseIntRange (s : List UInt8) (F : Heap) (hE : ErrF F) (hck : checkS s = 0) (hf : ¬ fitsI (valS s) = true) (hs : s.length ≤ 1000000) : Ct Tryz.prog 124 [.string (bs s), .int .i64 10, .int .i64 64] F [] (fun _ _ u => ∃ n t v, u = .tuple ⟨[.int .i64 n, .iface t v]⟩) := by
 obtain ⟨ev, hc, hev⟩ := hE
 refine ct_of_below2 fun w hw => ?_
 exact (Tryz.strconv_ParseInt_10_at64_range (bs s) (by rw [bs_size]; omega) (by rw [show (bs s).data.toList = s from rfl, parse_int hck, if_neg hf]) ev w (hw.cel hc) hev).mono fun e w' ⟨N, h1, h2, h3, h4⟩ => ⟨_, h1, ⟨_, _, _, rfl⟩, h4⟩
def intA (s : List UInt8) : Int × Int := if checkS s = 0 then (if fitsI (valS s) = true then (valS s, 0) else (0, 80)) else (0, checkS s)
theorem bintCt (s : List UInt8) (F : Heap) (hE : ErrF F) (hs : s.length ≤ 1000000) : Ct Tryz.prog 83 [.string (bs s)] F [] (fun _ _ u => u = cmpV (intA s)) := by
 by_cases hck : checkS s = 0
 ·by_cases hf : fitsI (valS s) = true
  ·rw [show intA s = (valS s, 0) from (by unfold intA; rw [if_pos hck, if_pos hf])]
   refine Ct.enter Tryz.func83 rfl Tryz.ntmps83 rfl fun w0 a S => ?_
   (revert S a; refine go 8 ?_; intro Z hZ Z hZ a S)
   (refine wc0 S (checkCt s F (by omega)) ?_; clear S a; intro v a w hv S; subst hv)
   (revert S a; revert hZ Z; refine go 8 ?_; intro a S)
   refine wpc_split S rfl (fun h => ?_) (fun h => ?_)
   ·(skip; (try simp only [tq] at h); exact absurd hck h)
   (skip; (try simp only [tq] at h))
   (revert S a; revert hZ Z; refine go 4 ?_; intro Z hZ a S)
   (refine wc0 S (parseIntOk s F hck hf hs) ?_; clear S a; intro v a w hv S; subst hv)
   (revert S a; revert hZ Z; refine go 10 ?_; intro Z hZ Z hZ a S)
   (refine wv S (sv_neNil S rfl rfl) ?_; clear S a; intro a S)
   (revert S a; revert hZ Z; refine go 2 ?_; intro a S)
   refine wpc_false S rfl ?_
   (revert S a; revert hZ Z; refine go 8 ?_; intro a S)
   refine wp_ret (fr2 S Tryz.results83 ?_)
   rfl
  ·rw [show intA s = (0, 80) from (by unfold intA; rw [if_pos hck, if_neg hf])]
   refine Ct.enter Tryz.func83 rfl Tryz.ntmps83 rfl fun w0 a S => ?_
   (revert S a; refine go 8 ?_; intro Z hZ Z hZ a S)
   (refine wc0 S (checkCt s F (by omega)) ?_; clear S a; intro v a w hv S; subst hv)
   (revert S a; revert hZ Z; refine go 8 ?_; intro a S)
   refine wpc_split S rfl (fun h => ?_) (fun h => ?_)
   ·(skip; (try simp only [tq] at h); exact absurd hck h)
   (skip; (try simp only [tq] at h))
   (revert S a; revert hZ Z; refine go 4 ?_; intro Z hZ a S)
   (refine wc0 S (parseIntRange s F hE hck hf hs) ?_; clear S a; intro v a w hv S; obtain ⟨pn, pt, pv, rfl⟩ := hv)
   (revert S a; revert hZ Z; refine go 10 ?_; intro Z hZ Z hZ a S)
   (refine wv S (sv_neSome S rfl rfl) ?_; clear S a; intro a S)
   (revert S a; revert hZ Z; refine go 2 ?_; intro a S)
   refine wpc_true S rfl ?_
   (revert S a; refine go 5 ?_; intro a S)
   refine wp_ret (fr2 S Tryz.results83 ?_)
   rfl
 ·rw [show intA s = (0, checkS s) from (by unfold intA; rw [if_neg hck])]
  refine Ct.enter Tryz.func83 rfl Tryz.ntmps83 rfl fun w0 a S => ?_
  (revert S a; refine go 8 ?_; intro Z hZ Z hZ a S)
  (refine wc0 S (checkCt s F (by omega)) ?_; clear S a; intro v a w hv S; subst hv)
  (revert S a; revert hZ Z; refine go 8 ?_; intro a S)
  refine wpc_split S rfl (fun h => ?_) (fun h => ?_)
  ·(skip; (try simp only [tq] at h))
   (revert S a; refine go 6 ?_; intro a S)
   refine wp_ret (fr2 S Tryz.results83 ?_)
   rfl
  (skip; (try simp only [tq] at h); exact absurd h hck)
end Go.Proofs.YtbhipiepfclneaaGreatDoor
namespace Go.Wk
open Go Go.ChangeShapes Go.WideShapes
set_option linter.unusedSimpArgs false
set_option linter.unusedVariables false
def heapOf (w : World) : Heap := fun b => w.heap[b]?
theorem add_none (b off n : Nat) : (⟨b, off, none⟩ : Addr).add n = ⟨b, off + n, none⟩ := by
 unfold Addr.add; split
 ·rename_i h; subst h; rfl
 ·rfl
theorem Cels.append {F : Heap} {b off : Nat} {xs ys : List Value} (h1 : Cels F b off xs) (h2 : Cels F b (off + xs.length) ys) : Cels F b off (xs ++ ys) := by
 intro j v hv
 by_cases hj : j < xs.length
 ·rw [List.getElem?_append_left hj] at hv; exact h1 j v hv
 ·rw [List.getElem?_append_right (by omega)] at hv
  have := h2 _ v hv
  rw [show off + xs.length + (j - xs.length) = off + j by omega] at this
  exact this
end Go.Wk
namespace Go.De
open Go Go.Wk Go.Un Go.ChangeShapes Go.WideShapes
set_option linter.unusedSimpArgs false
set_option linter.unusedVariables false
section
variable {H : Type} (enc : TypeId × Value → H) (P : Program) (w : World) (spare : Nat → Bool) (held : Bool)
def Opn (m : Nat) (t : TypeId) (R : List Value → Prop) : Prop := ∀ (fuel : Nat) (cs : List Value) (d : DataW H) (p : List MemPlace), SizeOf.sizeOf d < m → DataW.trod enc P w 0 spare held fuel t cs = some (d, p) → (d.weights P t).all (· ≤ reachBytes) = true → R cs
inductive OpnAll (m : Nat) : List Field → List (List Value → Prop) → Prop
  | nil : OpnAll m [] []
  | cons {f : Field} {fs : List Field} {R : List Value → Prop} {Rs : List (List Value → Prop)} (h : Opn enc P w spare held m f.type R) (r : OpnAll m fs Rs) : OpnAll m (f :: fs) (R :: Rs)
end
section
variable {H : Type} {enc : TypeId × Value → H} {P : Program} {w : World} {spare : Nat → Bool} {held : Bool} {m : Nat} {t : TypeId}
theorem Opn.lt {R : List Value → Prop} {m' : Nat} (h : Opn enc P w spare held m t R) (hm : m' ≤ m) : Opn enc P w spare held m' t R := fun f cs d p h1 h2 h3 => h f cs d p (Nat.lt_of_lt_of_le h1 hm) h2 h3
end
end Go.De
