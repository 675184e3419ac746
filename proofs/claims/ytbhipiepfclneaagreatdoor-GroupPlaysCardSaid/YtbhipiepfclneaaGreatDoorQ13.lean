/- Walks. -/
import Derived.Test.YtbhipiepfclneaaGreatDoorQ12
import Derived.OpenShut
import Derived.Deep.Strs
import Derived.Test.YtbhipiepfclneaaGreatDoorCards
import Derived.Test.YtbhipiepfclneaaGreatDoorTie
import Derived.ProofKit
import Derived.LaidMore
import Derived.Lay
import Derived.ShutString
set_option maxHeartbeats 4000000
set_option linter.unusedVariables false
set_option linter.unusedSimpArgs false
namespace Go.Proofs.YtbhipiepfclneaaGreatDoor
open Go Go.Wk Go.Num
attribute [local irreducible] Go.wpList Go.Code.wp Go.wpStill Go.Wk.q26 Go.bodyPost Go.Calls Go.Wk.Ct Go.Wk.q0u Go.wpListIn Go.Code.wpIn Go.CallsIn Go.bodyPostM Go.Wk.q9q Go.Wk.wpG Go.Wk.wpM
def q3z (neg : Bool) (N : Nat) : List UInt8 × Int := if N = 0 then ([48], 0) else if 200 < (Lib.decDigits N).length then ([], 80) else ((if neg then [45] else []) ++ Lib.decDigits N, 0)
def tx (N j : Nat) : List UInt8 := if N / 1000000000 ^ j = 0 then [] else Lib.decDigits (N / 1000000000 ^ j)
theorem qvt (N : Nat) : tx N (nd 1000000000 N) = [] := by unfold tx; rw [if_pos (Nat.div_eq_of_lt (q33 b2 N))]
theorem qx4 {N : Nat} (h : 0 < N) : tx N 0 = Lib.decDigits N := by unfold tx; rw [Nat.pow_zero, Nat.div_one, if_neg (by omega)]
theorem qgr {N j : Nat} (h : j < nd 1000000000 N) : 0 < N / 1000000000 ^ j := by
 have hN : 0 < N := by
  rcases Nat.eq_zero_or_pos N with e | e
  ·subst e; rw [qd7] at h; omega
  ·exact e
 refine Nat.div_pos (Nat.le_trans (Nat.pow_le_pow_right (by decide) (by omega)) (qem b2 hN)) (Nat.pow_pos (by decide))
theorem qoh {N j : Nat} (h : j + 1 < nd 1000000000 N) : tx N j = tx N (j + 1) ++ (List.replicate (9 - (Lib.decDigits (dig 1000000000 N j)).length) 48 ++ Lib.decDigits (dig 1000000000 N j)) := by
 have h1 := qgr h
 have h0 := qgr (j := j) (N := N) (by omega)
 unfold tx
 rw [if_neg (by omega), if_neg (by omega), qav 1000000000 N j, Nat.mul_comm]
 exact qyv h1 (q2z b2 N j)
theorem qip {N j : Nat} (h : j + 1 = nd 1000000000 N) : tx N j = tx N (j + 1) ++ Lib.decDigits (dig 1000000000 N j) := by
 have h0 := qgr (j := j) (N := N) (by omega)
 rw [h, qvt]
 unfold tx
 rw [if_neg (by omega), qav 1000000000 N j, h, Nat.div_eq_of_lt (q33 b2 N)]
 simp
theorem qz3 {N j M : Nat} (hM : 9 * nd 1000000000 N ≤ M) (h0 : M ≠ 0) : (tx N j).length ≤ M := by
 unfold tx
 split
 ·simp
 ·rename_i h
  have hlt : N / 1000000000 ^ j < 10 ^ M := by
   refine Nat.lt_of_le_of_lt (Nat.div_le_self _ _) (Nat.lt_of_lt_of_le (q33 b2 N) ?_)
   have e : (1000000000 : Nat) = 10 ^ 9 := by decide
   rw [e, ← Nat.pow_mul]
   rw [e] at hM
   exact Nat.pow_le_pow_right (by decide) hM
  exact qet hlt h0
theorem u1j {N j : Nat} (hN : nd 1000000000 N ≤ 1000000) : (tx N j).length ≤ 9000000 := qz3 (by omega) (by decide)
theorem u4m {X g Y : Grp} {p : Nat × Obj} : (([p] :: [X, g, Y] : List Grp)).flatten.Perm (([X, g] : List Grp).flatten ++ ([[p], Y] : List Grp).flatten) := by
 simp only [qaF, List.flatten_nil, qaE, List.singleton_append, qaB]
 have := (List.perm_middle (a := p) (l₁ := X ++ g) (l₂ := Y)).symm
 simpa only [qaB] using this
theorem u3u (neg : Bool) (N : Nat) (u : Value) (F : q01) (hT : q50 F) (hlN : nd 1000000000 N ≤ 1000000) (hu : qub F u neg N) :
  Ct Tryz.prog 38 [u] F [] (fun _ _ r => r = .tuple ⟨[.string (bs (q3z neg N).1), .int .i64 (q3z neg N).2]⟩) := by
 obtain ⟨pu, rfl, hpu⟩ := hu
 have hu0 := hpu
 obtain ⟨ao, ca, rfl, hca, hpa⟩ := hu0
 have hlen := fun j => u1j (j := j) hlN
 generalize hK : nd 1000000000 N = K at *
 refine Ct.enterM Tryz.func38 rfl Tryz.ntmps38 rfl fun w0 a S => ?_
 (refine wpIn_seq_k ?_; intro Z hZ)
 refine q0o rfl ?_
 (refine wbx S ?_; clear S a; intro b1 a w S)
 revert a; revert Z; refine go 4 ?_; intro a S
 iterate 2 (refine wpIn_seq_k ?_; intro Z hZ)
 refine q0o rfl ?_
 revert a; revert Z; refine go 6 ?_; intro a S
 refine q3c S rfl (fun h => ?_) (fun h => ?_)
 ·(try simp only [tq] at h)
  (refine wpIn_seq_k ?_; intro Z hZ)
  refine q0o rfl ?_
  revert a; revert Z; refine go 4 ?_; intro a S
  refine wpIn_ret ?_
  refine qhi S (q0v Tryz.results38 (RV.tmp S rfl) (RV.tmp S rfl)) ?_
  (rw [show q3z neg N = ([48], 0) from (by unfold q3z; rw [if_pos (q89 b2 (by omega))])]; rfl)
 (try simp only [tq] at h)
 refine wpIn_skip ?_
 (refine hZ _ _ ?_; clear hZ Z)
 (refine wpIn_seq_k ?_; intro Z hZ)
 refine q0o rfl ?_
 (refine q0a S rfl rfl rfl rfl ?_; clear S a; intro b4 a w S)
 revert a; revert Z; refine go 2 ?_; intro a S
 iterate 2 (refine wpIn_seq_k ?_; intro Z hZ)
 (replace S : St _ _ _ _ _ _ [q1x b4 (.pointer none) (.slice none 0 0), [], [(b1, .cells ⟨[.bool neg, .slice ao K ca]⟩ 86 (0, 0))]] _ _ := ⟨S.fr, S.tr.perm (.refl _)⟩)
 refine q0o rfl ?_
 revert a; refine go 2 ?_; intro a S
 (refine qag S rfl rfl rfl rfl rfl rfl (qbk _ F) rfl ?_; clear S a; intro bx F5 a w hF5 hbx S; have hbox := hbx 0 _ rfl; have hT5 := hT.mono hF5)
 revert a; revert Z; refine go 2 ?_; intro a S
 refine wpIn_block ?_
 refine qhj S rfl rfl rfl rfl (qix bx K (dig 1000000000 N) F5 ao ca (by omega) hbox (fun h0 => by obtain ⟨b, off, h1, h2⟩ := hpa h0; exact ⟨b, off, h1, h2.mono hF5⟩)) (fun j F2 G2 => F5 = F2 ∧ ∃ p v g, G2 = [q1x b4 p v, g, [(b1, .cells ⟨[.bool neg, .slice ao K ca]⟩ 86 (0, 0))]] ∧ qzm b4 p ∧ q0u 5 1 v (tx N j).length (u8c (tx N j)) g) (fun _ _ => False) (⟨rfl, .pointer none, .slice none 0 0, [], rfl, .inl rfl, (by rw [show tx N K = [] from (by rw [← hK]; exact qvt N)]; exact q0u.nil _ _)⟩) (fun j => [(5, .int .i64 (j : Int)), (6, .int .i64 ((dig 1000000000 N j : Nat) : Int)), (1, .pointer (some ⟨b1, 0, none⟩)), (4, .pointer (some ⟨b4, 0, none⟩))]) ?_ ?_ ?_ ?_
 ·(clear S; intro r j w F1 G1 a KA S hKA)
  (refine wpIn_seq_k ?_; intro Z hZ)
  refine q0o rfl ?_
  revert a; revert Z; refine go 3 ?_; intro a S
  refine q0o rfl ?_
  revert a; refine go 2 ?_; intro a S
  (refine hKA _ ?_; refine S.keep ?_; exact zk)
 ·(clear S; intro r j w F1 G1 a hj hF1 hI S)
  (obtain ⟨rfl, p, v, g, rfl, hp, hown⟩ := hI; have hdj := q2z b2 N j; have hdp := q4c (dig 1000000000 N j); have hdl : (Lib.decDigits (dig 1000000000 N j)).length ≤ 9 := qet (m := 9) hdj (by decide); have hlj := hlen (j + 1))
  refine wpIn_block ?_
  (refine wpIn_seq_k ?_; intro Z hZ)
  refine q0o rfl ?_
  revert a; refine go 1 ?_; intro a S
  (refine wc0 S (qsc (dig 1000000000 N j) F5 (by omega) hT5) ?_; clear S a; intro v a w hv S; subst hv)
  revert a; revert Z; refine go 3 ?_; intro a S
  iterate 2 (refine wpIn_seq_k ?_; intro Z hZ)
  refine q0o rfl ?_
  revert a; refine go 4 ?_; intro a S
  first | (refine wv S (q12 (q := 1) S rfl rfl rfl (by omega)) ?_; clear S a; intro a S) | (refine wv S (q1a S rfl rfl rfl (by omega)) ?_; clear S a; intro a S)
  revert a; revert Z; refine go 3 ?_; intro a S
  refine q3c S rfl (fun h => ?_) (fun h => ?_)
  ·(try simp only [tq] at h)
   refine q0o rfl ?_
   revert a; refine go 2 ?_; intro a S
   first | (refine wv S (q12 (p := 9) S rfl rfl rfl (by omega)) ?_; clear S a; intro a S) | (refine wv S (q1a S rfl rfl rfl (by omega)) ?_; clear S a; intro a S)
   (refine wc0 S (qt5 48 (9 - (Lib.decDigits (dig 1000000000 N j)).length) F5 (by omega)) ?_; clear S a; intro v a w hv S; subst hv)
   revert a; refine go 1 ?_; intro a S
   (refine wv S (qbm S rfl rfl rfl (by rw [List.length_replicate]; omega)) ?_; clear S a; intro a S)
   revert a; revert Z; refine go 3 ?_; intro a S
   refine q0o rfl ?_
   revert a; refine go 1 ?_; intro a S
   (first | (refine q02 (Gs := [q1x b4 p v, g]) (Gr := [[(b1, .cells ⟨[.bool neg, .slice ao K ca]⟩ 86 (0, 0))]]) S rfl rfl rfl rfl rfl rfl (q3b b4 p v _ (tx N (j + 1)) (List.replicate (9 - (Lib.decDigits (dig 1000000000 N j)).length) 48 ++ Lib.decDigits (dig 1000000000 N j)) g F5 hp hown (by rw [qaA]; omega) (by rw [qaA, List.length_replicate]; omega)) rfl (by simp) ?_; rw [← qaA, ← qoh (by omega)]) | (refine q02 (Gs := [q1x b4 p v, g]) (Gr := [[(b1, .cells ⟨[.bool neg, .slice ao K ca]⟩ 86 (0, 0))]]) S rfl rfl rfl rfl rfl rfl (q3b b4 p v _ (tx N (j + 1)) (Lib.decDigits (dig 1000000000 N j)) g F5 hp hown (by omega) (by omega)) rfl (by simp) ?_; rw [← qaA, ← qip (by omega)])); clear S a hown; intro u1 G1 a w hv1 S; obtain ⟨v1, g1, rfl, hown⟩ := hv1
   refine wpList_nil ?_
   skip
   refine q5j S.tr ?_
   exact ⟨rfl, _, _, _, rfl, .inr rfl, hown⟩
  (try simp only [tq] at h)
  refine wpIn_skip ?_
  (refine hZ _ _ ?_; clear hZ Z)
  refine q0o rfl ?_
  revert a; refine go 1 ?_; intro a S
  (first | (refine q02 (Gs := [q1x b4 p v, g]) (Gr := [[(b1, .cells ⟨[.bool neg, .slice ao K ca]⟩ 86 (0, 0))]]) S rfl rfl rfl rfl rfl rfl (q3b b4 p v _ (tx N (j + 1)) (List.replicate (9 - (Lib.decDigits (dig 1000000000 N j)).length) 48 ++ Lib.decDigits (dig 1000000000 N j)) g F5 hp hown (by rw [qaA]; omega) (by rw [qaA, List.length_replicate]; omega)) rfl (by simp) ?_; rw [← qaA, ← qoh (by omega)]) | (refine q02 (Gs := [q1x b4 p v, g]) (Gr := [[(b1, .cells ⟨[.bool neg, .slice ao K ca]⟩ 86 (0, 0))]]) S rfl rfl rfl rfl rfl rfl (q3b b4 p v _ (tx N (j + 1)) (Lib.decDigits (dig 1000000000 N j)) g F5 hp hown (by omega) (by omega)) rfl (by simp) ?_; rw [← qaA, ← qip (by omega)])); clear S a hown; intro u1 G1 a w hv1 S; obtain ⟨v1, g1, rfl, hown⟩ := hv1
  refine wpList_nil ?_
  skip
  refine q5j S.tr ?_
  exact ⟨rfl, _, _, _, rfl, .inr rfl, hown⟩
 ·(clear S; intro D F1 G1 a w hF1 hI S)
  (obtain ⟨rfl, p, v, g, rfl, hp, hown⟩ := hI; have hN0 : 0 < N := (by rcases Nat.eq_zero_or_pos N with e | e; subst e; rw [qd7] at hK; omega; exact e); have hl0 := hlen 0; rw [qx4 hN0] at hown hl0; have hdp := q4c N)
  (refine hZ _ _ ?_; clear hZ Z)
  iterate 2 (refine wpIn_seq_k ?_; intro Z hZ)
  refine q0o rfl ?_
  (refine q02 (Gs := [q1x b4 p v, g]) (Gr := [[(D, .deferred (some []))], [(b1, .cells ⟨[.bool neg, .slice ao K ca]⟩ 86 (0, 0))]]) S rfl rfl rfl rfl rfl rfl (qtx b4 p v _ _ g F5 hown) rfl u4m ?_; clear S a; intro u1 G1 a w hv1 S; obtain ⟨rfl, rfl⟩ := hv1; replace S : St _ _ _ _ _ _ [q1x b4 p v, g, [(D, .deferred (some []))], [(b1, .cells ⟨[.bool neg, .slice ao K ca]⟩ 86 (0, 0))]] _ _ := S)
  revert a; revert Z; refine go 3 ?_; intro a S
  refine q3c S rfl (fun h => ?_) (fun h => ?_)
  ·(try simp only [tq] at h)
   (refine wpIn_seq_k ?_; intro Z hZ)
   refine q0o rfl ?_
   revert a; revert Z; refine go 4 ?_; intro a S
   refine wpIn_ret ?_
   (refine q76 S fun w S => ?_; try (dsimp only at S))
   refine ⟨_, q0v Tryz.results38 (RV.tmp S rfl) (RV.tmp S rfl), ?_⟩
   (unfold q3z; rw [if_neg (by omega)]; (first | (rw [if_pos (by omega)]; rfl) | (rw [if_neg (by omega)]; cases neg <;> first | rfl | (exfalso; simp at h))))
  (try simp only [tq] at h)
  refine wpIn_skip ?_
  (refine hZ _ _ ?_; clear hZ Z)
  iterate 2 (refine wpIn_seq_k ?_; intro Z hZ)
  refine q0o rfl ?_
  revert a; revert Z; refine go 4 ?_; intro a S
  refine q3c S rfl (fun h => ?_) (fun h => ?_)
  ·(try simp only [tq] at h)
   (refine wpIn_seq_k ?_; intro Z hZ)
   refine q0o rfl ?_
   (refine q02 (Gs := [q1x b4 p v, g]) (Gr := [[(D, .deferred (some []))], [(b1, .cells ⟨[.bool neg, .slice ao K ca]⟩ 86 (0, 0))]]) S rfl rfl rfl rfl rfl rfl (q8h b4 p v _ _ g F5 (by omega) hdp hown) rfl (by simp) ?_; clear S a; intro u1 G1 a w hv1 S; subst hv1; replace S : St _ _ _ _ _ _ [[(D, .deferred (some []))], [(b1, .cells ⟨[.bool neg, .slice ao K ca]⟩ 86 (0, 0))]] _ _ := ⟨S.fr, S.tr.sub (by rw [List.flatten_append]; exact List.sublist_append_right _ _)⟩)
   (refine wv S (qbm S rfl rfl rfl (by first | omega | (simp only [qaA, qaC, qaD]; omega))) ?_; clear S a; intro a S)
   revert a; revert Z; refine go 4 ?_; intro a S
   refine wpIn_ret ?_
   (refine q76 S fun w S => ?_; try (dsimp only at S))
   refine ⟨_, q0v Tryz.results38 (RV.tmp S rfl) (RV.tmp S rfl), ?_⟩
   (unfold q3z; rw [if_neg (by omega)]; (first | (rw [if_pos (by omega)]; rfl) | (rw [if_neg (by omega)]; cases neg <;> first | rfl | (exfalso; simp at h))))
  (try simp only [tq] at h)
  refine wpIn_skip ?_
  (refine hZ _ _ ?_; clear hZ Z)
  (refine wpIn_seq_k ?_; intro Z hZ)
  refine q0o rfl ?_
  (refine q02 (Gs := [q1x b4 p v, g]) (Gr := [[(D, .deferred (some []))], [(b1, .cells ⟨[.bool neg, .slice ao K ca]⟩ 86 (0, 0))]]) S rfl rfl rfl rfl rfl rfl (q8h b4 p v _ _ g F5 (by omega) hdp hown) rfl (by simp) ?_; clear S a; intro u1 G1 a w hv1 S; subst hv1; replace S : St _ _ _ _ _ _ [[(D, .deferred (some []))], [(b1, .cells ⟨[.bool neg, .slice ao K ca]⟩ 86 (0, 0))]] _ _ := ⟨S.fr, S.tr.sub (by rw [List.flatten_append]; exact List.sublist_append_right _ _)⟩)
  revert a; revert Z; refine go 4 ?_; intro a S
  refine wpIn_ret ?_
  (refine q76 S fun w S => ?_; try (dsimp only at S))
  refine ⟨_, q0v Tryz.results38 (RV.tmp S rfl) (RV.tmp S rfl), ?_⟩
  (unfold q3z; rw [if_neg (by omega)]; (first | (rw [if_pos (by omega)]; rfl) | (rw [if_neg (by omega)]; cases neg <;> first | rfl | (exfalso; simp at h))))
 (clear S; intro D F1 G1 a w hF1 hI S)
 exact hI.elim
theorem qv4 {s : List UInt8} (h : q0p s = 0) : nd 1000000000 (q14 (q0m s)) ≤ 23 := by
 obtain ⟨h1, h2, _⟩ := q1h h
 refine qky (Nat.lt_of_lt_of_le (q2o _ h1) ?_) b2
 have e : (1000000000 : Nat) = 10 ^ 9 := by decide
 rw [e, ← Nat.pow_mul]
 exact Nat.pow_le_pow_right (by decide) (by omega)
theorem qlg {A C : Nat} (h : A ≤ C) : nd 1000000000 A ≤ nd 1000000000 C := qky (Nat.lt_of_le_of_lt h (q33 b2 C)) b2
theorem qz4 (n1 : Bool) (A : Nat) (n2 : Bool) (C : Nat) (hA : nd 1000000000 A ≤ 500000) (hC : nd 1000000000 C ≤ 500000) : nd 1000000000 (qkc n1 A n2 C).2 ≤ 1000000 := by
 unfold qkc
 split
 ·have := qky (qb5 b2 (q33 b2 A) (q33 b2 C)) b2
  show nd 1000000000 (A + C) ≤ _
  omega
 ·split
  ·have := qlg (Nat.sub_le A C)
   show nd 1000000000 (A - C) ≤ _
   omega
  ·have := qlg (Nat.sub_le C A)
   show nd 1000000000 (C - A) ≤ _
   omega
theorem qmt {s t : List UInt8} (h : q66 s t = 0) : q0p s = 0 ∧ q0p t = 0 := by
 unfold q66 at h
 split at h
 ·exact ⟨by assumption, h⟩
 ·exact absurd h (by assumption)
def qqo (s t : List UInt8) : List UInt8 × Int := if q66 s t = 0 then q3z (qkc (q34 s) (q14 (q0m s)) (q34 t) (q14 (q0m t))).1 (qkc (q34 s) (q14 (q0m s)) (q34 t) (q14 (q0m t))).2 else ([], q66 s t)
def u4v (x : List UInt8 × Int) : Value := .tuple ⟨[.string (bs x.1), .int .i64 x.2]⟩
theorem qym (s t : List UInt8) (F : q01) (hT : q50 F) (hs : s.length ≤ 1000000) (ht : t.length ≤ 1000000) (hbe : ¬ q66 s t = 0) : Ct Tryz.prog 16 [.string (bs s), .string (bs t)] F [] (fun _ _ u => u = u4v (qqo s t)) := by
 refine Ct.enter Tryz.func16 rfl Tryz.ntmps16 rfl fun w0 a S => ?_
 revert a; refine go 8 ?_; intro Z hZ a S
 (refine wcF S (qvo s t F (by omega) (by omega)) ?_; clear S a; intro v F1 a w hv hF1 S; rw [qlb, if_neg hbe] at hv; subst hv)
 revert a; refine go 4 ?_; intro a S
 (refine q0a S rfl rfl rfl rfl ?_; clear S a; intro b6 a w S)
 (refine q0a S rfl rfl rfl rfl ?_; clear S a; intro b7 a w S)
 iterate 2 (refine wso S rfl rfl ?_; clear S; intro w S)
 revert a; revert Z; refine go 9 ?_; intro Z hZ a S
 refine q0l S rfl (fun h => ?_) (fun h => ?_)
 ·(try simp only [tq] at h)
  revert a; refine go 6 ?_; intro a S
  refine wp_ret (fr2 S Tryz.results16 ?_)
  (rw [show qqo s t = ([], q66 s t) from (by unfold qqo; rw [if_neg hbe])]; rfl)
 (skip; (try simp only [tq] at h); exact absurd h hbe)
theorem u2v (s t : List UInt8) (F : q01) (hT : q50 F) (hs : s.length ≤ 1000000) (ht : t.length ≤ 1000000) (hbe : q66 s t = 0) : Ct Tryz.prog 16 [.string (bs s), .string (bs t)] F [] (fun _ _ u => u = u4v (qqo s t)) := by
 have hn1 := qv4 (qmt hbe).1
 have hn2 := qv4 (qmt hbe).2
 refine Ct.enter Tryz.func16 rfl Tryz.ntmps16 rfl fun w0 a S => ?_
 revert a; refine go 8 ?_; intro Z hZ a S
 (refine wcF S (qvo s t F (by omega) (by omega)) ?_; clear S a; intro v F1 a w hv hF1 S; rw [qlb, if_pos hbe] at hv; obtain ⟨p, q, rfl, hp, hq⟩ := hv; have hp0 := hp; have hq0 := hq; obtain ⟨po, pc, rfl, -, -⟩ := hp0; obtain ⟨qo, qc, rfl, -, -⟩ := hq0)
 revert a; refine go 4 ?_; intro a S
 (refine q0a S rfl rfl rfl rfl ?_; clear S a; intro b6 a w S)
 (refine q0a S rfl rfl rfl rfl ?_; clear S a; intro b7 a w S)
 iterate 2 (refine wso S rfl rfl ?_; clear S; intro w S)
 revert a; revert Z; refine go 9 ?_; intro Z hZ a S
 refine q0l S rfl (fun h => ?_) (fun h => ?_)
 ·(skip; (try simp only [tq] at h); exact absurd trivial h)
 (try simp only [tq] at h)
 revert a; revert Z; refine go 5 ?_; intro Z hZ a S
 (refine wcF S (u4j (q34 s) _ (q34 t) _ _ _ F1 (by omega) (by omega) ⟨_, rfl, hp⟩ ⟨_, rfl, hq⟩) ?_; clear S a; intro v2 F2 a w hv2 hF2 S; obtain ⟨r, rfl, hr⟩ := hv2)
 (refine wc0 S (u3u _ _ _ F2 ((hT.mono hF1).mono hF2) (qz4 _ _ _ _ (by omega) (by omega)) ⟨_, rfl, hr⟩) ?_; clear S a; intro v a w hv S; subst hv)
 revert a; revert Z; refine go 6 ?_; intro a S
 refine wp_ret (fr2 S Tryz.results16 ?_)
 ((rw [show qqo s t = _ from (by unfold qqo; rw [if_pos hbe])]; rfl))
theorem qjg (s t : List UInt8) (F : q01) (hT : q50 F) (hs : s.length ≤ 1000000) (ht : t.length ≤ 1000000) : Ct Tryz.prog 16 [.string (bs s), .string (bs t)] F [] (fun _ _ u => u = u4v (qqo s t)) := by
 by_cases hbe : q66 s t = 0
 ·exact u2v s t F hT hs ht hbe
 ·exact qym s t F hT hs ht hbe
def qqn (x : Int × Int) : Value := .tuple ⟨[.int .i64 x.1, .int .i64 x.2]⟩
def q1w (s : List UInt8) : Int := toZ (q34 s, q14 (q0m s))
def q1y (z : Int) : List UInt8 × Int := q3z (decide (z < 0)) z.natAbs
def u4l (e : Int) (x : List UInt8 × Int) : List UInt8 × Int := if e = 0 then x else ([], e)
theorem qk9 (n : Bool) : q3z n 0 = ([48], 0) := by unfold q3z; rw [if_pos rfl]
theorem qe1 (n : Bool) (N : Nat) : q3z n N = q1y (toZ (n, N)) := by
 unfold q1y
 rcases Nat.eq_zero_or_pos N with e | e
 ·subst e
  have : toZ (n, 0) = 0 := by unfold toZ; cases n <;> rfl
  rw [this, qk9]; rfl
 ·cases n
  ·have h : toZ (false, N) = (N : Int) := rfl
   rw [h, show decide ((N : Int) < 0) = false by simp]; rfl
  ·have h : toZ (true, N) = -(N : Int) := rfl
   rw [h, show decide (-(N : Int) < 0) = true by simp; omega, Int.natAbs_neg]; rfl
theorem qy2 (s t : List UInt8) : qqo s t = u4l (q66 s t) (q1y (q1w s + q1w t)) := by
 unfold qqo u4l
 split
 ·rw [qe1]; congr 1; exact qr9 _ _ _ _
 ·rfl
theorem qxm {N : Nat} (h : N ≠ 0) : (Lib.decDigits N).head? ≠ some 48 := by
 induction N using Nat.strongRecOn with
 | _ N ih =>
  by_cases hN : N < 10
  ·rw [q1t hN]
   intro e
   simp only [List.head?_cons, Option.some.injEq] at e
   have e2 := congrArg UInt8.toNat e
   rw [UInt8.toNat_ofNat', Nat.mod_eq_of_lt (by omega)] at e2
   have : (48 : UInt8).toNat = 48 := rfl
   omega
  ·rw [q4y hN]
   have hq : N / 10 ≠ 0 := by omega
   have := ih (N / 10) (by omega) hq
   have hne := qt6 (N / 10)
   cases hd : Lib.decDigits (N / 10) with
   | nil => exact absurd hd hne
   | cons c r => rw [hd] at this; simpa using this
theorem qro {l : List UInt8} (h : l.all isD = true) : l.head? ≠ some 45 := by
 cases l with
 | nil => simp
 | cons c r =>
  rw [List.all_cons, Bool.and_eq_true] at h
  intro e
  simp only [List.head?_cons, Option.some.injEq] at e
  rw [e] at h; exact absurd h.1 (by decide)
theorem qtp {l : List UInt8} (h : l.all isD = true) : q0m l = l ∧ q34 l = false := by
 have := qro h
 unfold q0m q34; rw [if_neg this]; simp [this]
theorem qd2 (l : List UInt8) : q0m (45 :: l) = l ∧ q34 (45 :: l) = true := by unfold q0m q34; simp
theorem q42 {z : Int} (h : (q1y z).2 = 0) : q0p (q1y z).1 = 0 ∧ q1w (q1y z).1 = z := by
 unfold q1y q3z at h ⊢
 by_cases h0 : z.natAbs = 0
 ·rw [if_pos h0]
  have : z = 0 := by omega
  subst this
  exact ⟨by decide, by decide⟩
 ·rw [if_neg h0] at h ⊢
  split at h
  ·cases h
  ·rename_i hl
   rw [if_neg hl]
   have hall := q35 z.natAbs
   have hne := qt6 z.natAbs
   have hh := qxm h0
   by_cases hz : z < 0
   ·simp only [hz, decide_true, if_true, List.cons_append, qaG]
    obtain ⟨e1, e2⟩ := qd2 (Lib.decDigits z.natAbs)
    refine ⟨?_, ?_⟩
    ·unfold q0p
     rw [e1, if_neg (by intro h; rcases h with h | h; exact hne h; exact hh h.1), if_pos hall, if_neg hl]
    ·unfold q1w; rw [e1, e2, q21]; show -((z.natAbs : Nat) : Int) = z; omega
   ·simp only [hz, decide_false, Bool.false_eq_true, if_false, qaG]
    obtain ⟨e1, e2⟩ := qtp hall
    refine ⟨?_, ?_⟩
    ·unfold q0p
     rw [e1, if_neg (by intro h; rcases h with h | h; exact hne h; exact hh h.1), if_pos hall, if_neg hl]
    ·unfold q1w; rw [e1, e2, q21]; show ((z.natAbs : Nat) : Int) = z; omega
theorem qmg : ∀ (n : Nat) (l : List UInt8), l.length = n → l.all isD = true → l ≠ [] → (l.head? = some 48 → l = [48]) → Lib.decDigits (q14 l) = l := by
 intro n
 induction n with
 | zero => intro l hl _ hne; exact absurd (List.length_eq_zero_iff.1 hl) hne
 | succ n ih =>
  intro l hl hall hne hh
  obtain ⟨m, c, rfl⟩ : ∃ m c, l = m ++ [c] := ⟨l.dropLast, l.getLast hne, (List.dropLast_concat_getLast hne).symm⟩
  rw [List.all_append, Bool.and_eq_true] at hall
  have hc : isD c = true := by simpa using hall.2
  have hc2 := (q39 c).1 hc
  have hdv : dv c = c.toNat - 48 := rfl
  have hce : UInt8.ofNat (48 + dv c) = c := by rw [hdv, show 48 + (c.toNat - 48) = c.toNat by omega, UInt8.ofNat_toNat]
  rw [qa5]
  cases m with
  | nil =>
   rw [qd0, Nat.mul_zero, Nat.zero_add, q1t (qh8 hc), hce]; rfl
  | cons x r =>
   have hx : x ≠ 48 := fun e => by
    have := hh (by rw [e]; rfl)
    have := congrArg List.length this
    simp at this
   have hm := ih (x :: r) (by simpa using hl) hall.1 (by simp) (fun e => absurd (by simpa using e) hx)
   have hpos : 0 < q14 (x :: r) := by
    rcases Nat.eq_zero_or_pos (q14 (x :: r)) with e | e
    ·rw [e, q1t (by decide)] at hm
     simp only [List.cons.injEq] at hm
     exact absurd hm.1.symm hx
    ·exact e
   have hlt := qh8 hc
   rw [q4y (by omega), show (10 * q14 (x :: r) + dv c) / 10 = q14 (x :: r) by omega, show (10 * q14 (x :: r) + dv c) % 10 = dv c by omega, hm, hce]
theorem q4m {s : List UInt8} (h : q0p s = 0) : (q0m s).all isD = true ∧ (q0m s).length ≤ 200 ∧ q0m s ≠ [] ∧ ((q0m s).head? = some 48 → s = [48]) := by
 obtain ⟨h1, h2, h3⟩ := q1h h
 refine ⟨h1, h2, h3, fun e => ?_⟩
 by_cases e2 : s = [48]
 ·exact e2
 ·unfold q0p at h
  rw [if_pos (Or.inr ⟨e, e2⟩)] at h; cases h
theorem qkh {s : List UInt8} (h : q0p s = 0) : Lib.decDigits (q14 (q0m s)) = q0m s := by
 obtain ⟨h1, h2, h3, h4⟩ := q4m h
 refine qmg _ _ rfl h1 h3 fun e => ?_
 have := h4 e; subst this; decide
theorem q7k (s : List UInt8) : s = (if q34 s = true then [45] else []) ++ q0m s := by
 unfold q34 q0m
 cases s with
 | nil => simp
 | cons c r => by_cases h : c = 45 <;> simp [h]
theorem qht {s : List UInt8} (h : q0p s = 0) : q1y (q1w s) = (s, 0) := by
 obtain ⟨h1, h2, h3, h4⟩ := q4m h
 have hc := qkh h
 rw [show q1y (q1w s) = q3z (q34 s) (q14 (q0m s)) from (qe1 _ _).symm]
 unfold q3z
 by_cases h0 : q14 (q0m s) = 0
 ·rw [if_pos h0]
  rw [h0, q1t (by decide)] at hc
  have := h4 (by rw [← hc]; rfl)
  rw [this]
 ·rw [if_neg h0, hc, if_neg (by omega), ← q7k]
theorem qqq {s : List UInt8} (h : q0p s = 0) : q1w s = 0 ↔ s = [48] := by
 constructor
 ·intro e
  have := qht h
  rw [e] at this
  exact (congrArg Prod.fst this).symm
 ·rintro rfl; decide
theorem q4f {N m : Nat} (hm : m ≠ 0) : (Lib.decDigits N).length ≤ m ↔ N < 10 ^ m := by
 constructor
 ·intro h
  have := q2o _ (q35 N)
  rw [q21] at this
  exact Nat.lt_of_lt_of_le this (Nat.pow_le_pow_right (by decide) h)
 ·intro h; exact qet h hm
theorem qai (z : Int) (M : Nat) (hM : M = 200) : (q1y z).2 = 0 ↔ z.natAbs < 10 ^ M := by
 have h0 : M ≠ 0 := by omega
 have := q4f (N := z.natAbs) h0
 unfold q1y q3z
 by_cases hz : z.natAbs = 0
 ·rw [if_pos hz]; simp [hz]; exact Nat.pow_pos (by decide)
 ·rw [if_neg hz, ← this]
  split
  ·constructor
   ·intro h; cases h
   ·intro h; omega
  ·exact ⟨fun _ => by omega, fun _ => rfl⟩
theorem qeb {s : List UInt8} (h : q0p s = 0) (M : Nat) (hM : M = 200) : (q1w s).natAbs < 10 ^ M := by
 refine (qai _ M hM).1 ?_
 rw [qht h]
theorem t2 : 2 ≤ 10 := by decide
theorem qzg {N : Nat} (n : Bool) (h : N ≠ 0) : decide (toZ (n, N) < 0) = n := by cases n <;> simp [toZ] <;> omega
theorem u1w {N : Nat} (h : N ≠ 0) : (Lib.decDigits N).length = nd 10 N := by
 have h1 : nd 10 N ≤ (Lib.decDigits N).length := qky (by have := q2o _ (q35 N); rwa [q21] at this) t2
 have h2 := qvu t2 (S := N) (by omega)
 have h3 := qet (q33 t2 N) (by omega)
 omega
theorem qox (c : UInt8) (r : List UInt8) : q14 (c :: r) = dv c * 10 ^ r.length + q14 r := by
 have := q4r [c] r
 rw [List.singleton_append] at this
 rw [this]; congr 1; simp [q14]
theorem u2y (l : List UInt8) : ∀ acc : Nat, l.all isD = true → acc ≤ 18446744073709551615 → Lib.parseUintM (2 ^ 64 - 1) acc l = if acc * 10 ^ l.length + q14 l ≤ 18446744073709551615 then .ok (acc * 10 ^ l.length + q14 l) else .range := by
 induction l with
 | nil => intro acc _ ha; simp [Lib.parseUintM, qd0, ha]
 | cons c r ih =>
  intro acc hall ha
  rw [List.all_cons, Bool.and_eq_true] at hall
  have hc := (q39 c).1 hall.1
  have hdv : dv c = c.toNat - 48 := rfl
  have hp : 1 ≤ 10 ^ r.length := Nat.pow_pos (by decide)
  have hge : acc * 10 + dv c ≤ (acc * 10 + dv c) * 10 ^ r.length := Nat.le_mul_of_pos_right _ hp
  have hval : acc * 10 ^ (c :: r).length + q14 (c :: r) = (acc * 10 + dv c) * 10 ^ r.length + q14 r := by
   rw [qox, qaC, Nat.pow_succ, Nat.add_mul, Nat.mul_assoc, Nat.mul_comm 10, ← Nat.mul_assoc, Nat.add_assoc, Nat.mul_assoc]
  rw [hval]
  unfold Lib.parseUintM
  rw [if_pos hc]
  by_cases h1 : 1844674407370955162 ≤ acc
  ·rw [if_pos h1, if_neg (by omega)]
  ·rw [if_neg h1, ← hdv]
   by_cases h2 : 2 ^ 64 - 1 < acc * 10 + dv c
   ·rw [if_pos h2, if_neg (by omega)]
   ·rw [if_neg h2]
    exact ih _ hall.2 (by omega)
def q41 (z : Int) : Bool := decide (-9223372036854775808 ≤ z) && decide (z ≤ 9223372036854775807)
theorem qdz {s : List UInt8} (h : q0p s = 0) : Lib.parseIntB 64 s = if q41 (q1w s) = true then .ok (q1w s) else .range := by
 obtain ⟨h1, h2, h3, h4⟩ := q4m h
 have hu : Lib.parseUintB 64 (q0m s) = if q14 (q0m s) ≤ 18446744073709551615 then .ok (q14 (q0m s)) else .range := by
  unfold Lib.parseUintB
  rw [if_neg h3, u2y _ 0 h1 (by decide)]; simp
 cases s with
 | nil => exact absurd rfl h3
 | cons c r =>
  unfold Lib.parseIntB
  by_cases hc : c = 45
  ·subst hc
   have hb : q0m (45 :: r) = r := (qd2 r).1
   have hn : q34 (45 :: r) = true := (qd2 r).2
   rw [hb] at hu
   have hv : q1w (45 :: r) = -(q14 r : Int) := by unfold q1w; rw [hb, hn]; rfl
   rw [hv]
   simp only [show (45 : UInt8).toNat = 45 from rfl, or_true, if_true, hu, not_true, false_and, if_false, true_and]
   unfold q41
   by_cases hd : q14 r ≤ 18446744073709551615
   ·rw [if_pos hd]
    simp only
    by_cases hd2 : 2 ^ (64 - 1) < q14 r
    ·rw [if_pos hd2, if_neg (by simp; omega)]
    ·rw [if_neg hd2, if_pos (by simp; omega)]
   ·rw [if_neg hd, if_neg (by simp; omega)]
  ·have hb : q0m (c :: r) = c :: r := by unfold q0m; rw [if_neg (by simpa using hc)]
   have hn : q34 (c :: r) = false := by unfold q34; simpa using hc
   rw [hb] at hu h1
   have hcd := (q39 c).1 (by rw [List.all_cons, Bool.and_eq_true] at h1; exact h1.1)
   have hv : q1w (c :: r) = (q14 (c :: r) : Int) := by unfold q1w; rw [hb, hn]; rfl
   rw [hv]
   have e1 : ¬ c.toNat = 43 := by omega
   have e2 : ¬ c.toNat = 45 := by omega
   simp only [e1, e2, or_self, if_false, hu, not_false_eq_true, true_and, false_and]
   unfold q41
   by_cases hd : q14 (c :: r) ≤ 18446744073709551615
   ·rw [if_pos hd]
    simp only
    by_cases hd2 : 2 ^ (64 - 1) ≤ q14 (c :: r)
    ·rw [if_pos hd2, if_neg (by simp; omega)]
    ·rw [if_neg hd2, if_pos (by simp; omega)]
   ·rw [if_neg hd, if_neg (by simp; omega)]
def qf6 (F : q01) : Prop := ∃ ev, Cel F 5 0 ev ∧ (ev = .nilIface ∨ ∃ te pe, ev = .iface te pe)
theorem qf6.mono {F F' : q01} (hF : ∀ b o, F b = some o → F' b = some o) (h : qf6 F) : qf6 F' := by
 obtain ⟨ev, h1, h2⟩ := h; exact ⟨ev, h1.mono hF, h2⟩
theorem qkm (s : List UInt8) (F : q01) (hck : q0p s = 0) (hf : q41 (q1w s) = true) (hs : s.length ≤ 1000000) : Ct Tryz.prog 124 [.string (bs s), .int .i64 10, .int .i64 64] F [] (fun _ _ u => u = .tuple ⟨[.int .i64 (q1w s), .nilIface]⟩) := by
 refine q2s fun w hw => ?_
 refine (Tryz.strconv_ParseInt_10_at64_ok (bs s) (by rw [qdb]; omega) (q1w s) (by rw [show (bs s).data.toList = s from rfl, qdz hck, if_pos hf]) w).mono fun e w' ⟨h1, h2⟩ => ⟨h1, ?_⟩
 rcases h2 with rfl | ⟨t, rfl⟩
 ·exact RowKit.Below.refl _ _
 ·exact Lib.bytesWorld_below w _ t
theorem qcj (s : List UInt8) (F : q01) (hE : qf6 F) (hck : q0p s = 0) (hf : ¬ q41 (q1w s) = true) (hs : s.length ≤ 1000000) : Ct Tryz.prog 124 [.string (bs s), .int .i64 10, .int .i64 64] F [] (fun _ _ u => ∃ n t v, u = .tuple ⟨[.int .i64 n, .iface t v]⟩) := by
 obtain ⟨ev, hc, hev⟩ := hE
 refine qe3 fun w hw => ?_
 exact (Tryz.strconv_ParseInt_10_at64_range (bs s) (by rw [qdb]; omega) (by rw [show (bs s).data.toList = s from rfl, qdz hck, if_neg hf]) ev w (hw.cel hc) hev).mono fun e w' ⟨N, h1, h2, h3, h4⟩ => ⟨_, h1, ⟨_, _, _, rfl⟩, h4⟩
def qgu (s : List UInt8) : Int × Int := if q0p s = 0 then (if q41 (q1w s) = true then (q1w s, 0) else (0, 80)) else (0, q0p s)
theorem u2n (s : List UInt8) (F : q01) (hE : qf6 F) (hs : s.length ≤ 1000000) : Ct Tryz.prog 83 [.string (bs s)] F [] (fun _ _ u => u = qqn (qgu s)) := by
 by_cases hck : q0p s = 0
 ·by_cases hf : q41 (q1w s) = true
  ·rw [show qgu s = (q1w s, 0) from (by unfold qgu; rw [if_pos hck, if_pos hf])]
   refine Ct.enter Tryz.func83 rfl Tryz.ntmps83 rfl fun w0 a S => ?_
   revert a; refine go 8 ?_; intro Z hZ Z hZ a S
   (refine wc0 S (qbv s F (by omega)) ?_; clear S a; intro v a w hv S; subst hv)
   revert a; revert Z; refine go 8 ?_; intro a S
   refine q0l S rfl (fun h => ?_) (fun h => ?_)
   ·(skip; (try simp only [tq] at h); exact absurd hck h)
   (try simp only [tq] at h)
   revert a; revert Z; refine go 4 ?_; intro Z hZ a S
   (refine wc0 S (qkm s F hck hf hs) ?_; clear S a; intro v a w hv S; subst hv)
   revert a; revert Z; refine go 10 ?_; intro Z hZ Z hZ a S
   (refine wv S (qtb S rfl rfl) ?_; clear S a; intro a S)
   revert a; revert Z; refine go 2 ?_; intro a S
   refine q03 S rfl ?_
   revert a; revert Z; refine go 8 ?_; intro a S
   refine wp_ret (fr2 S Tryz.results83 ?_)
   rfl
  ·rw [show qgu s = (0, 80) from (by unfold qgu; rw [if_pos hck, if_neg hf])]
   refine Ct.enter Tryz.func83 rfl Tryz.ntmps83 rfl fun w0 a S => ?_
   revert a; refine go 8 ?_; intro Z hZ Z hZ a S
   (refine wc0 S (qbv s F (by omega)) ?_; clear S a; intro v a w hv S; subst hv)
   revert a; revert Z; refine go 8 ?_; intro a S
   refine q0l S rfl (fun h => ?_) (fun h => ?_)
   ·(skip; (try simp only [tq] at h); exact absurd hck h)
   (try simp only [tq] at h)
   revert a; revert Z; refine go 4 ?_; intro Z hZ a S
   (refine wc0 S (qcj s F hE hck hf hs) ?_; clear S a; intro v a w hv S; obtain ⟨pn, pt, pv, rfl⟩ := hv)
   revert a; revert Z; refine go 10 ?_; intro Z hZ Z hZ a S
   (refine wv S (qou S rfl rfl) ?_; clear S a; intro a S)
   revert a; revert Z; refine go 2 ?_; intro a S
   refine q0h S rfl ?_
   revert a; refine go 5 ?_; intro a S
   refine wp_ret (fr2 S Tryz.results83 ?_)
   rfl
 ·rw [show qgu s = (0, q0p s) from (by unfold qgu; rw [if_neg hck])]
  refine Ct.enter Tryz.func83 rfl Tryz.ntmps83 rfl fun w0 a S => ?_
  revert a; refine go 8 ?_; intro Z hZ Z hZ a S
  (refine wc0 S (qbv s F (by omega)) ?_; clear S a; intro v a w hv S; subst hv)
  revert a; revert Z; refine go 8 ?_; intro a S
  refine q0l S rfl (fun h => ?_) (fun h => ?_)
  ·(try simp only [tq] at h)
   revert a; refine go 6 ?_; intro a S
   refine wp_ret (fr2 S Tryz.results83 ?_)
   rfl
  (skip; (try simp only [tq] at h); exact absurd h hck)
end Go.Proofs.YtbhipiepfclneaaGreatDoor
namespace Go.Wk
open Go Go.ChangeShapes Go.WideShapes
def q3g (w : World) : q01 := fun b => w.heap[b]?
theorem add_none (b off n : Nat) : (⟨b, off, none⟩ : Addr).add n = ⟨b, off + n, none⟩ := by
 unfold Addr.add; split
 ·rename_i h; subst h; rfl
 ·rfl
theorem q2v.append {F : q01} {b off : Nat} {xs ys : List Value} (h1 : q2v F b off xs) (h2 : q2v F b (off + xs.length) ys) : q2v F b off (xs ++ ys) := by
 intro j v hv
 by_cases hj : j < xs.length
 ·rw [List.getElem?_append_left hj] at hv; exact h1 j v hv
 ·rw [List.getElem?_append_right (by omega)] at hv
  have := h2 _ v hv
  rw [show off + xs.length + (j - xs.length) = off + j by omega] at this
  exact this
end Go.Wk
namespace Go.De
open Go Go.Wk Go.Un Go.ChangeShapes Go.WideShapes
section
variable {H : Type} (enc : TypeId × Value → H) (P : Program) (w : World) (spare : Nat → Bool) (held : Bool)
def Opn (m : Nat) (t : TypeId) (R : List Value → Prop) : Prop := ∀ (fuel : Nat) (cs : List Value) (d : DataW H) (p : List MemPlace), SizeOf.sizeOf d < m → DataW.trod enc P w 0 spare held fuel t cs = some (d, p) → (d.weights P t).all (· ≤ reachBytes) = true → R cs
inductive qe2 (m : Nat) : List Field → List (List Value → Prop) → Prop
  | nil : qe2 m [] []
  | cons {f : Field} {fs : List Field} {R : List Value → Prop} {Rs : List (List Value → Prop)} (h : Opn enc P w spare held m f.type R) (r : qe2 m fs Rs) : qe2 m (f :: fs) (R :: Rs)
end
section
variable {H : Type} {enc : TypeId × Value → H} {P : Program} {w : World} {spare : Nat → Bool} {held : Bool} {m : Nat} {t : TypeId}
theorem Opn.imp {R R' : List Value → Prop} (h : Opn enc P w spare held m t R) (hi : ∀ cs, R cs → R' cs) : Opn enc P w spare held m t R' := fun f cs d p h1 h2 h3 => hi _ (h f cs d p h1 h2 h3)
theorem Opn.lt {R : List Value → Prop} {m' : Nat} (h : Opn enc P w spare held m t R) (hm : m' ≤ m) : Opn enc P w spare held m' t R := fun f cs d p h1 h2 h3 => h f cs d p (Nat.lt_of_lt_of_le h1 hm) h2 h3
end
end Go.De
namespace Go.Proofs.YtbhipiepfclneaaGreatDoor
open Go Go.Wk Go.Un Go.De Go.ChangeShapes Go.WideShapes Go.ChangeAt Go.RowKit Go.Num
attribute [local irreducible] Go.wpList Go.Code.wp Go.wpStill Go.Wk.q26 Go.bodyPost Go.Calls Go.Wk.Ct Go.Wk.q0u Go.Wk.wpG Go.Wk.wpM
theorem ubb : ownKnob Tryz.prog.godebug = none := by kernel_rfl
theorem laidOut : laidOutB Tryz.prog = true := by kernel_rfl
theorem u9g : Tryz.prog.globalNamed "internal/strconv.uint64pow10" = some 0 := by kernel_rfl
theorem ubo : (Tryz.prog.globals[0]?).map (·.type) = some 174 := by kernel_rfl
theorem u99 : Tryz.prog.cellsOf 174 = 20 := by kernel_rfl
theorem ubw : Tryz.prog.cellsOf 139 = 1 := by kernel_rfl
theorem qyz : (Rows.laid_internal_strconv_uint64pow10 : DataW Unit) = Lib.tabData .u64 Lib.pow10Tab := rfl
theorem u75 : Tryz.prog.globalNamed "strconv.ErrRange" = some 5 := by kernel_rfl
theorem uas : (Tryz.prog.globals[5]?).map (·.type) = some 115 := by kernel_rfl
theorem qz7 {W : World} (h : Lib.TabIs Tryz.prog W "internal/strconv.uint64pow10" .u64 Lib.pow10Tab) : q50 (q3g W) := by
 intro w hw
 unfold Lib.TabIs World.var? at *
 cases hg : Tryz.prog.globalNamed "internal/strconv.uint64pow10" with
 | none => rw [hg] at h; cases h
 | some g =>
  rw [hg] at h
  simp only [Option.bind_some] at h ⊢
  cases hb : W.heap[g]? with
  | none => rw [hb] at h; cases h
  | some o => rw [hw g o hb]; rw [hb] at h; exact h
theorem qgb {H : Type} {enc : TypeId × Value → H} {w : World} {base : Nat} {sp : Nat → Bool} {held : Bool} {fuel : Nat} {t : TypeId} {ms : Array (String × TypeId)} {cs : List Value} {x : DataW H × List MemPlace}
  (ht : Tryz.prog.underlying t = some (.interface ms)) (h : DataW.trod enc Tryz.prog w base sp held fuel t cs = some x) : cs = [.nilIface] ∨ ∃ u v, cs = [.iface u v] := by
 cases fuel with
 | zero => simp [DataW.trod] at h
 | succ fuel =>
  unfold DataW.trod at h
  rw [ht] at h
  split at h <;> first | (rename_i h1; simp only [Option.some.injEq, reduceCtorEq] at h1; done) | (left; rfl) | (right; exact ⟨_, _, rfl⟩) | (simp at *; done)
def qgx : List (String × DataW Unit) := [("math/bits.deBruijn32tab", Rows.laid_math_bits_deBruijn32tab), ("math/bits.deBruijn64tab", Rows.laid_math_bits_deBruijn64tab), ("internal/strconv.uint64pow10", Rows.laid_internal_strconv_uint64pow10), ("unicode/utf8.acceptRanges", Rows.laid_unicode_utf8_acceptRanges), ("strconv.ErrRange", Rows.laid_strconv_ErrRange), ("strconv.ErrSyntax", Rows.laid_strconv_ErrSyntax), ("unicode/utf8.first", Rows.laid_unicode_utf8_first)]
theorem qw7 {W : World} (h : laidMetH Tryz.prog qgx W) : q50 (q3g W) ∧ qf6 (q3g W) := by
 rw [MakeChecks.laidMetH_plain _ _ _ (by kernel_rfl)] at h
 obtain ⟨ps, ⟨g0, t0, cs0, f0, p0, q0, _, _, _, _, ⟨g1, t1, cs1, f1, p1, q1, _, _, _, _, ⟨g2, t2, cs2, f2, p2, q2, hg2, ht2, hv2, hd2, ⟨g4, t4, cs4, f4, p4, q4, _, _, _, _, ⟨g3, t3, cs3, f3, p3, q3, hg3, ht3, hv3, hd3, _, _⟩, _⟩, _⟩, _⟩, _⟩, _, _⟩ := h
 obtain rfl := Option.some.inj (u9g.symm.trans hg2)
 obtain rfl := Option.some.inj (ubo.symm.trans ht2)
 obtain rfl := Option.some.inj (u75.symm.trans hg3)
 obtain rfl := Option.some.inj (uas.symm.trans ht3)
 refine ⟨qz7 ?_, ?_⟩
 ·unfold Lib.TabIs
  rw [hv2, ← Lib.cells_of_tab Tryz.underlying174 Tryz.underlying139 ubw u99 (by rw [← qyz]; exact hd2)]
 ·have hc := qgb Tryz.underlying115 hd3
  unfold World.var? at hv3
  rw [u75] at hv3
  simp only [Option.bind_some] at hv3
  cases hb : W.heap[5]? with
  | none => rw [hb] at hv3; cases hv3
  | some o =>
   rw [hb] at hv3
   cases o with
   | cells c e fz =>
    simp only [Option.some.injEq] at hv3
    subst hv3
    rcases hc with hc | ⟨u, v, hc⟩
    ·exact ⟨.nilIface, ⟨c, e, fz, hb, by obtain ⟨l⟩ := c; simp only at hc; subst hc; rfl⟩, Or.inl rfl⟩
    ·exact ⟨.iface u v, ⟨c, e, fz, hb, by obtain ⟨l⟩ := c; simp only at hc; subst hc; rfl⟩, Or.inr ⟨u, v, rfl⟩⟩
   | _ => cases hv3
noncomputable def qq2 (os : Os) : World := World.laidAll Tryz.prog os qgx
theorem qqd (os : Os) : (qq2 os).os = os := World.laidAll_os _ _ _
theorem u4o (os : Os) (args : Array Value) : laidMetH Tryz.prog qgx ((qq2 os).forCall (fun _ _ => 0) ⟨#[], args, []⟩).memory :=
 laidMetH_of_parts3 (fuel := 8) (laidMet_laidAll (laid := qgx) args (by kernel_rfl) (by kernel_rfl)) (by kernel_rfl) (by kernel_rfl)
theorem qu5 {z : Int} (h0 : -9223372036854775808 ≤ z) (h1 : z ≤ 9223372036854775807) : nd 10 z.natAbs ≤ 19 := by
 refine qky ?_ t2
 have : z.natAbs ≤ 9223372036854775808 := by omega
 exact Nat.lt_of_le_of_lt this (by decide)
theorem q2y {z : Int} (h0 : -9223372036854775808 ≤ z) (h1 : z ≤ 9223372036854775807) : Lib.itoa z = (q1y z).1 := by
 have hn := qu5 h0 h1
 by_cases hz : z.natAbs = 0
 ·have : z = 0 := by omega
  subst this
  rw [show (0 : Int) = ((0 : Nat) : Int) from rfl, Lib.itoa_nonneg, q1t (by decide)]; rfl
 ·have hl : ¬ 200 < (Lib.decDigits z.natAbs).length := by rw [u1w hz]; omega
  unfold q1y q3z
  rw [if_neg hz, if_neg hl]
  by_cases hs : z < 0
  ·rw [show z = -((z.natAbs : Nat) : Int) by omega, Lib.itoa_neg _ (by omega), Int.natAbs_neg, decide_eq_true (by omega)]
   simp
  ·have e : z = ((z.natAbs : Nat) : Int) := by omega
   rw [show Lib.itoa z = Lib.decDigits z.natAbs from (by conv => lhs; rw [e]; rw [Lib.itoa_nonneg]), decide_eq_false hs]
   simp
theorem qvl (n : Int) (F : q01) (hT : q50 F) (h0 : -9223372036854775808 ≤ n) (h1 : n ≤ 9223372036854775807) : Ct Tryz.prog 36 [.int .i64 n, .int .i64 10] F [] (fun _ _ u => u = .string (bs (q1y n).1)) := by
 refine q2s fun w hw => ?_
 refine (Tryz.strconv_FormatInt_10 n h0 h1 w (hT w hw.frz)).mono fun e w' ⟨h1', k, os, h2⟩ => ⟨?_, ?_⟩
 ·rw [h1', ← q2y h0 h1]; rfl
 ·rw [h2]; exact Lib.below_grow _ w (Nat.le_refl _) k os
theorem qzj (n : Int) (F : q01) (hT : q50 F) (h0 : -9223372036854775808 ≤ n) (h1 : n ≤ 9223372036854775807) : Ct Tryz.prog 14 [.int .i64 n] F [] (fun _ _ u => u = .string (bs (q1y n).1)) := by
 refine Ct.enter Tryz.func14 rfl Tryz.ntmps14 rfl fun w0 a S => ?_
 revert a; refine go 6 ?_; intro Z hZ a S
 (refine wc0 S (qvl n F hT h0 h1) ?_; clear S a; intro v a w hv S; subst hv)
 revert a; revert Z; refine go 3 ?_; intro a S
 refine wp_ret (fr1 S Tryz.results14 ?_)
 rfl
end Go.Proofs.YtbhipiepfclneaaGreatDoor
namespace Go.Wk
open Go
section
variable {P : Program} {ops : Array Oper} {Q : Exit → Act → World → Prop} {rest : List Oper} {n : Sz} {L : List (Nat × Value)} {w0 : World} {F0 : q01} {K0 : List Nat} {F : q01} {G : List Grp} {a : Act} {w : World} {o : Oper}
theorem ql6 {x y : Operand} {p : Nat} {t yt : TypeId} (S : St n L w0 F0 K0 F G a w) (ho : o.op = .binOp .shr t x y yt) (hx : ev L x = some (.int .u8 (p : Int))) (hy : ev L y = some (.int .u64 4)) : SV P o a w (.int .u8 ((p / 16 : Nat) : Int)) := by
 have h1 : (eqGuard .shr t x y (.int .u8 (p : Int)) (.int .u64 4)).run P w = .ok () w := by unfold eqGuard; rfl
 unfold SV execOp
 rw [ho]
 simp [S.fr.eval hx, S.fr.eval hy, h1, binOp_shr, shift_shr_u8]
theorem qis {x y : Operand} {p : Nat} {t yt : TypeId} (S : St n L w0 F0 K0 F G a w) (ho : o.op = .binOp .and t x y yt) (hx : ev L x = some (.int .u8 (p : Int))) (hy : ev L y = some (.int .u8 15)) (hp : p ≤ 255) : SV P o a w (.int .u8 ((p % 16 : Nat) : Int)) := by
 have h1 : (eqGuard .and t x y (.int .u8 (p : Int)) (.int .u8 15)).run P w = .ok () w := by unfold eqGuard; rfl
 have h2 : ∀ q, q ≤ 255 → (Op.intBits .and .u8 ((q : Nat) : Int) 15).run P w = .ok (.int .u8 ((q % 16 : Nat) : Int)) w := by
  have : ∀ q, q < 256 → (Op.intBits .and .u8 ((q : Nat) : Int) 15) = pure (.int .u8 ((q % 16 : Nat) : Int)) := by
   intro q hq
   have e : ((BitVec.ofInt 8 (q : Int)) &&& (BitVec.ofInt 8 15)).toNat = q % 16 := by
    rw [BitVec.toNat_and]
    simp only [BitVec.toNat_ofInt]
    have e1 : ((q : Int) % ((2 ^ 8 : Nat) : Int)).toNat = q := by omega
    rw [e1]
    show q &&& 15 = _
    exact Nat.and_two_pow_sub_one_eq_mod q 4
   show (pure (.int .u8 (IntKind.u8.wrap ((((BitVec.ofInt 8 (q : Int)) &&& (BitVec.ofInt 8 15)).toNat : Nat) : Int))) : Sem Value) = _
   rw [e, IntWalk.u8_in _ (by omega)]
  intro q hq; rw [this q (by omega)]; rfl
 unfold SV execOp
 rw [ho]
 simp [S.fr.eval hx, S.fr.eval hy, h1, binOp, h2 p hp]
end
