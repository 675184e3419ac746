/- Walks. -/
import Derived.Test.YtbhipiepfclneaaGreatDoorKGroupPlays09
set_option maxHeartbeats 4000000
namespace Go.Proofs.YtbhipiepfclneaaGreatDoor
open Go Go.Wk Go.Num
set_option linter.unusedSimpArgs false
set_option linter.unusedVariables false
attribute [local irreducible] Go.wpList Go.Code.wp Go.wpStill Go.Wk.q26 Go.bodyPost Go.Calls Go.Wk.Ct Go.Wk.q0u Go.Wk.wpG Go.Wk.wpM
theorem qkn {F : q01} {p : Value} {neg : Bool} {N : Nat} (h0 : nd 10 N = 0) (h : SlC F p 0 (cel 0 (dig 10 N))) : qgw F (.agg ⟨[.bool false, p]⟩) (toZ (neg, N)) := by
 have : N = 0 := q89 t2 h0
 subst this
 refine ⟨p, ?_, ?_⟩
 ·cases neg <;> rfl
 ·unfold D10; rw [qmn, h0]; exact h
theorem qpq {F : q01} {p : Value} {neg : Bool} {N i : Nat} (hi : nd 10 N = i) (h0 : i ≠ 0) (h : SlC F p i (cel i (dig 10 N))) : qgw F (.agg ⟨[.bool neg, p]⟩) (toZ (neg, N)) := by
 have hN : N ≠ 0 := fun e => by subst e; rw [qd7] at hi; omega
 refine ⟨p, by rw [qzg neg hN], ?_⟩
 unfold D10; rw [qmn, hi]; exact h
theorem qtf {p : Prop} (h : p := by (have e : nd 10 N = m := (by rw [← hn]; exact qjq (by omega)); first | (exact qpq e (by omega) (SlC.cut hp0 (by omega) cap (by omega))) | (have e0 : m = 0 := (by omega); subst e0; exact qkn e (SlC.cut hp0 (by omega) cap (by omega))))) : p := h
theorem qu9 (neg : Bool) (N K : Nat) (p : Value) (F : q01) (hN : N < 10 ^ K) (hK : K ≤ 1000000000) (hp : SlC F p K (cel K (dig 10 N))) :
  Ct Tryz.prog 151 [.agg ⟨[.bool neg, p]⟩] F [] (fun F' _ u => qgw F' u (toZ (neg, N))) := by
 have hp0 := hp
 obtain ⟨ao, cap, rfl, hcap, hpos⟩ := hp
 have hnd := qmh hN t2
 refine Ct.enter Tryz.func151 rfl Tryz.ntmps151 rfl fun w0 a S => ?_
 refine q1i fun Z hZ => ?_
 (refine wbx S ?_; clear S a; intro b1 a w S)
 (refine q0a S rfl rfl rfl rfl ?_; clear S a; intro b2 a w S)
 revert a; revert Z; refine go 4 ?_; intro Z hZ a S
 refine q04 (fun m a w' => ∃ (i : Nat), m = i ∧ i ≤ K ∧ ndf 10 N i = nd 10 N ∧ St 32 [(1, .pointer (some ⟨b1, 0, none⟩)), (2, .pointer (some ⟨b2, 0, none⟩))] w0 F [] F [[(b2, .cells ⟨[.bool false, .slice none 0 0]⟩ 162 (0, 0))], [(b1, .cells ⟨[.bool neg, .slice ao i cap]⟩ 162 (0, 0))]] a w') ?_ ?_
 ·(refine ⟨K, K, rfl, Nat.le_refl _, hnd, ?_⟩; refine S.keep ?_; exact zk)
 (clear S; rintro m a w ⟨i, rfl, hi, hn, S⟩)
 revert a; refine go 7 ?_; intro Z hZ Z hZ a S
 refine wgd S ?_ ?_
 ·(clear S; intro h S)
  revert a; refine go 10 ?_; intro a S
  first | (refine wv S (q12 (q := 1) S rfl rfl rfl (by omega)) ?_; clear S a; intro a S) | (refine wv S (q1a S rfl rfl rfl (by omega)) ?_; clear S a; intro a S)
  refine q1j S rfl rfl rfl ?_
  (obtain ⟨b, off, rfl, hcs⟩ := hpos (by omega); have hce := qp8 hcs (j := m - 1) (by omega); have hdl := q2z t2 N (m - 1)); (refine wv S (q28 S rfl rfl rfl (by omega)) ?_; clear S a; intro a S)
  revert a; revert Z; refine go 7 ?_; intro a S
  refine q00 S rfl ?_ ?_ <;> intro h
  ·revert a; revert Z; refine go 9 ?_; intro a S
   first | (refine wv S (q12 (q := 1) S rfl rfl rfl (by omega)) ?_; clear S a; intro a S) | (refine wv S (q1a S rfl rfl rfl (by omega)) ?_; clear S a; intro a S)
   (refine wv S (q5b S rfl rfl rfl (by omega)) ?_; clear S a; intro a S)
   revert a; refine go 1 ?_; intro a S
   (refine q0e S rfl rfl rfl rfl rfl rfl (by first | (simp; done) | (simp [Value.cells]; done) | exact Nat.le_of_ble_eq_true rfl) ?_; clear S; intro w S)
   refine wpList_nil ?_
   change ∃ m', _ ∧ _
   (refine ⟨m - 1, by omega, m - 1, rfl, by omega, ?_, ?_⟩; rotate_left 1; (refine S.keep ?_; exact zk); rw [← hn]; exact qiy (by omega) (by omega))
  (refine wp_exit ?_; conv => whnf)
  clear hZ Z
  revert a; revert Z; refine go 9 ?_; intro Z hZ a S
  refine q00 S rfl ?_ ?_ <;> intro h
  ·revert a; refine go 2 ?_; intro a S
   (refine q0e S rfl rfl rfl rfl rfl rfl (by first | (simp; done) | (simp [Value.cells]; done) | exact Nat.le_of_ble_eq_true rfl) ?_; clear S; intro w S)
   revert a; revert Z; refine go 4 ?_; intro Z hZ a S
   (refine wso S rfl rfl ?_; clear S; intro w S)
   revert a; revert Z; refine go 2 ?_; intro a S
   refine wp_ret (q08 S (q0c Tryz.results151 (RV.cellO S rfl (by rfl))) ?_)
   exact qtf
  revert a; revert Z; refine go 4 ?_; intro Z hZ a S
  (refine wso S rfl rfl ?_; clear S; intro w S)
  revert a; revert Z; refine go 2 ?_; intro a S
  refine wp_ret (q08 S (q0c Tryz.results151 (RV.cellO S rfl (by rfl))) ?_)
  exact qtf
 (clear S a; intro h a S)
 revert a; revert Z; refine go 11 ?_; intro a S
 refine q03 S rfl ?_
 (refine wp_exit ?_; conv => whnf)
 clear hZ Z
 revert a; revert Z; refine go 9 ?_; intro Z hZ a S
 refine q00 S rfl ?_ ?_ <;> intro h
 ·revert a; refine go 2 ?_; intro a S
  (refine q0e S rfl rfl rfl rfl rfl rfl (by first | (simp; done) | (simp [Value.cells]; done) | exact Nat.le_of_ble_eq_true rfl) ?_; clear S; intro w S)
  revert a; revert Z; refine go 4 ?_; intro Z hZ a S
  (refine wso S rfl rfl ?_; clear S; intro w S)
  revert a; revert Z; refine go 2 ?_; intro a S
  refine wp_ret (q08 S (q0c Tryz.results151 (RV.cellO S rfl (by rfl))) ?_)
  exact qtf
 revert a; revert Z; refine go 4 ?_; intro Z hZ a S
 (refine wso S rfl rfl ?_; clear S; intro w S)
 revert a; revert Z; refine go 2 ?_; intro a S
 refine wp_ret (q08 S (q0c Tryz.results151 (RV.cellO S rfl (by rfl))) ?_)
 exact qtf
theorem q5m (neg : Bool) (N K : Nat) (p : Value) (F : q01) (i : Nat) (hN : N < 10 ^ K) (hK : K ≤ 1000000000) (hp : SlC F p K (cel K (dig 10 N))) :
  Ct Tryz.prog 152 [.agg ⟨[.bool neg, p]⟩, .int .i64 (i : Int)] F [] (fun _ _ u => u = .int .i64 ((dig 10 N i : Nat) : Int)) := by
 obtain ⟨ao, cap, rfl, hcap, hpos⟩ := hp
 refine Ct.enter Tryz.func152 rfl Tryz.ntmps152 rfl fun w0 a S => ?_
 refine q1i fun Z hZ => ?_
 (refine wbx S ?_; clear S a; intro b2 a w S)
 revert a; revert Z; refine go 12 ?_; intro Z hZ a S
 refine q00 S rfl ?_ ?_ <;> intro h
 ·revert a; refine go 4 ?_; intro Z hZ a S
  (obtain ⟨b, off, rfl, hcs⟩ := hpos (by omega); have hce := qp8 hcs (j := i) (by omega)); (refine wv S (q28 S rfl rfl rfl (by omega)) ?_; clear S a; intro a S)
  revert a; revert Z; refine go 4 ?_; intro a S
  refine wp_ret (fr1 S Tryz.results152 ?_)
  (first | rfl | (rw [q3u hN (by omega) t2]; rfl))
 revert a; revert Z; refine go 6 ?_; intro a S
 refine wp_ret (fr1 S Tryz.results152 ?_)
 (first | rfl | (rw [q3u hN (by omega) t2]; rfl))
theorem qz9 {p : Prop} (h : p := by (first | (rw [← qga heq (by omega)]; unfold q4j; rw [if_pos (by omega)]) | (rw [← qga heq (by omega)]; unfold q4j; rw [if_neg (by omega), if_pos (by omega)]) | (have e0 : m = 0 := (by omega); subst e0; have e1 : A = C := (by simpa using heq); subst e1; simp [q4j]))) : p := h
theorem qi6 (n1 n2 : Bool) (A C K1 K2 : Nat) (p q : Value) (F : q01) (hA : A < 10 ^ K1) (hC : C < 10 ^ K2) (hK1 : K1 ≤ 1000000) (hK2 : K2 ≤ 1000000) (hp : SlC F p K1 (cel K1 (dig 10 A))) (hq : SlC F q K2 (cel K2 (dig 10 C))) :
  Ct Tryz.prog 119 [.agg ⟨[.bool n1, p]⟩, .agg ⟨[.bool n2, q]⟩] F [] (fun _ _ u => u = .int .i64 (q4j A C)) := by
 have hp0 := hp
 have hq0 := hq
 obtain ⟨ao, ca, rfl, -, -⟩ := hp
 obtain ⟨co, cc, rfl, -, -⟩ := hq
 refine Ct.enter Tryz.func119 rfl Tryz.ntmps119 rfl fun w0 a S => ?_
 refine q1i fun Z hZ => ?_
 (refine wbx S ?_; clear S a; intro b2 a w S)
 (refine wbx S ?_; clear S a; intro b3 a w S)
 revert a; revert Z; refine go 16 ?_; intro Z hZ a S
 refine q04 (fun m a w' => ∃ (e : Nat), m = e ∧ e ≤ K1 + K2 + 1 ∧ A / 10 ^ e = C / 10 ^ e ∧ St 31 [(2, .pointer (some ⟨b2, 0, none⟩)), (3, .pointer (some ⟨b3, 0, none⟩)), (5, .int .i64 ((e : Int) - 1))] w0 F [] F [[(b3, .cells ⟨[.bool n2, .slice co K2 cc]⟩ 162 (0, 0))], [(b2, .cells ⟨[.bool n1, .slice ao K1 ca]⟩ 162 (0, 0))]] a w') ?_ ?_
 ·(refine ⟨K1 + K2 + 1, K1 + K2 + 1, rfl, Nat.le_refl _, ?_, ?_⟩; (rw [Nat.div_eq_of_lt (Nat.lt_of_lt_of_le hA (Nat.pow_le_pow_right (by decide) (by omega))), Nat.div_eq_of_lt (Nat.lt_of_lt_of_le hC (Nat.pow_le_pow_right (by decide) (by omega)))]); refine S.keep ⟨rfl, rfl, reg (by omega), trivial⟩)
 (clear S; rintro m a w ⟨e, rfl, he, heq, S⟩)
 revert a; refine go 6 ?_; intro Z hZ a S
 refine q00 S rfl ?_ ?_ <;> intro h
 ·revert a; revert Z; refine go 5 ?_; intro Z hZ Z hZ a S
  (refine wp_seq_k ?_; intro Z hZ)
  (obtain ⟨k, rfl⟩ : ∃ k, m = k + 1 := ⟨m - 1, by omega⟩; replace S := S.keep (L' := [(2, .pointer (some ⟨b2, 0, none⟩)), (3, .pointer (some ⟨b3, 0, none⟩)), (5, .int .i64 (k : Int))]) ⟨rfl, rfl, reg (by omega), trivial⟩; have hdA := q2z t2 A k; have hdC := q2z t2 C k)
  (refine q0k [0, 1, 3, 4, 6] [0, 3] [] (.one 0 (.one 1 (.one 3 (.one 4 (.one 2 (.one 5 (.one 6 .nil))))))) [b2, b3] S mixed (by kernel_rfl) ?_; clear S; intro w S)
  revert a; refine go 5 ?_; intro a S
  ((first | (refine wc0 S (q5m n1 A K1 _ F k hA (by omega) hp0) ?_) | (refine wc0 S (q5m n2 C K2 _ F k hC (by omega) hq0) ?_)); clear S a; intro v a w hv S; subst hv)
  revert a; refine go 2 ?_; intro a S
  ((first | (refine wc0 S (q5m n1 A K1 _ F k hA (by omega) hp0) ?_) | (refine wc0 S (q5m n2 C K2 _ F k hC (by omega) hq0) ?_)); clear S a; intro v a w hv S; subst hv)
  revert a; revert Z; refine go 4 ?_; intro a S
  refine q00 S rfl ?_ ?_ <;> intro h
  ·revert a; refine go 4 ?_; intro a S
   refine wp_ret (fr1 S Tryz.results119 ?_)
   exact qz9
  refine wp_skip ?_
  (refine hZ _ _ ?_; clear hZ Z)
  (refine wp_seq_k ?_; intro Z hZ)
  (refine q0k [0, 1, 3, 4, 6] [0, 3] [] (.one 0 (.one 1 (.one 3 (.one 4 (.one 2 (.one 5 (.one 6 .nil))))))) [b2, b3] S mixed (by kernel_rfl) ?_; clear S; intro w S)
  revert a; refine go 5 ?_; intro a S
  ((first | (refine wc0 S (q5m n1 A K1 _ F k hA (by omega) hp0) ?_) | (refine wc0 S (q5m n2 C K2 _ F k hC (by omega) hq0) ?_)); clear S a; intro v a w hv S; subst hv)
  revert a; refine go 2 ?_; intro a S
  ((first | (refine wc0 S (q5m n1 A K1 _ F k hA (by omega) hp0) ?_) | (refine wc0 S (q5m n2 C K2 _ F k hC (by omega) hq0) ?_)); clear S a; intro v a w hv S; subst hv)
  revert a; revert Z; refine go 4 ?_; intro a S
  refine q00 S rfl ?_ ?_ <;> intro h
  ·revert a; refine go 4 ?_; intro a S
   refine wp_ret (fr1 S Tryz.results119 ?_)
   exact qz9
  revert a; revert Z; refine go 7 ?_; intro a S
  change ∃ m', _ ∧ _
  (refine ⟨k, by omega, k, rfl, by omega, qu6 heq (by omega), ?_⟩; refine S.keep ⟨rfl, rfl, reg (by omega), trivial⟩)
 (refine wp_exit ?_; conv => whnf)
 clear hZ Z
 revert a; revert Z; refine go 5 ?_; intro a S
 refine wp_ret (fr1 S Tryz.results119 ?_)
 exact qz9
theorem qf4 {s : List UInt8} {f i : Nat} (hf : f = if q34 s = true then 1 else 0) (hi : f ≤ i) : s.getD i 0 = (q0m s).getD (i - f) 0 := by
 have h := q7k s
 by_cases hn : q34 s = true
 ·rw [if_pos hn] at hf h
  subst hf
  conv => lhs; rw [h]
  obtain ⟨k, rfl⟩ : ∃ k, i = k + 1 := ⟨i - 1, by omega⟩
  simp
 ·rw [if_neg hn] at hf h
  subst hf
  conv => lhs; rw [h]
  simp
theorem qhe (s : List UInt8) : s.length = (q0m s).length + if q34 s = true then 1 else 0 := by
 have h := q7k s
 conv => lhs; rw [h]
 by_cases hn : q34 s = true <;> simp [hn]
theorem qw5 {s : List UInt8} (h : s ≠ []) : q34 s = decide ((s.getD 0 0).toNat = 45) := by
 unfold q34
 rw [q5k h]
 have := qqb (c := s.getD 0 0) (n := 45) (by decide)
 simp only [Option.some.injEq]
 exact decide_eq_decide.2 this
theorem u3m {p : Prop} (h : p := by (refine ⟨k, by omega, k, v, g, rfl, by omega, ?_, ?_⟩; rotate_left 1; (refine S.keep ⟨rfl, rfl, rfl, rfl, reg (by omega), trivial⟩); rw [show (q0m s).length - k = (q0m s).length - (k + 1) + 1 by omega]; refine qji hown (congrArg _ ?_); rw [qlj hall (by omega), show (q0m s).length - 1 - ((q0m s).length - (k + 1)) = k by omega]; exact hdv)) : p := h
theorem q8t (s : List UInt8) (F : q01) (hck : q0p s = 0) : Ct Tryz.prog 118 [.string (bs s)] F [] (fun F' _ u => qgw F' u (q1w s)) := by
 obtain ⟨hall, hlen, hne⟩ := q1h hck
 have hbl := qhe s
 have hs0 : s ≠ [] := fun e => hne (by rw [e]; rfl)
 have hpos : 0 < (q0m s).length := List.length_pos_iff.2 hne
 have hn0 := qw5 hs0
 have hslt : (q14 (q0m s)) < 10 ^ (q0m s).length := q2o _ hall
 generalize hf : (if q34 s = true then 1 else 0 : Nat) = f at hbl
 have hf1 : f ≤ 1 := by rw [← hf]; split <;> omega
 refine Ct.enter Tryz.func118 rfl Tryz.ntmps118 rfl fun w0 a S => ?_
 refine q1i fun Z hZ => ?_
 (refine q0a S rfl rfl rfl rfl ?_; clear S a; intro b2 a w S)
 revert a; revert Z; refine go 4 ?_; intro Z hZ a S
 (refine q0a S rfl rfl rfl rfl ?_; clear S a; intro b3 a w S)
 (refine wso S rfl rfl ?_; clear S; intro w S)
 revert a; revert Z; refine go 9 ?_; intro Z hZ Z hZ a S
 (refine wv S (q07 (i := 0) S rfl rfl rfl (by omega)) ?_; clear S a; intro a S)
 revert a; revert Z; refine go 3 ?_; intro a S
 refine q00 S rfl ?_ ?_ <;> intro h
 ·revert a; refine go 2 ?_; intro Z hZ a S
  (refine q0e S rfl rfl rfl rfl rfl rfl (by first | (simp; done) | (simp [Value.cells]; done) | exact Nat.le_of_ble_eq_true rfl) ?_; clear S; intro w S)
  revert a; revert Z; revert Z; refine go 7 ?_; intro Z hZ a S
  (refine wp_seq_k ?_; intro Z hZ)
  (have hS2 : St 31 [(0, .string (bs s)), (2, .pointer (some ⟨b2, 0, none⟩)), (3, .pointer (some ⟨b3, 0, none⟩)), (4, .int .i64 (f : Int))] w0 F [] F [[(b3, .cells ⟨[.bool (q34 s), .slice none 0 0]⟩ 162 (0, 0))], [(b2, .cells ⟨[.bool false, .slice none 0 0]⟩ 162 (0, 0))]] a w := (by first | (have h45 : q34 s = true := (by rw [hn0]; exact decide_eq_true (by omega)); have hfe : f = 1 := (by rw [← hf, h45]; rfl); rw [h45, hfe]; exact S.keep ⟨rfl, rfl, rfl, rfl, trivial⟩) | (have h45 : q34 s = false := (by rw [hn0]; exact decide_eq_false (by omega)); have hfe : f = 0 := (by rw [← hf, h45]; rfl); rw [h45, hfe]; exact S.keep ⟨rfl, rfl, rfl, rfl, trivial⟩)); clear S; have S := hS2; clear hS2)
  revert a; revert Z; refine go 8 ?_; intro a S
  refine q04 (fun m a w' => ∃ (e : Nat) (v : Value) (g : Grp), m = e ∧ e ≤ (q0m s).length ∧ q0u 3 1 v ((q0m s).length - e) (cel ((q0m s).length - e) (dig 10 (q14 (q0m s)))) g ∧ St 31 [(0, .string (bs s)), (2, .pointer (some ⟨b2, 0, none⟩)), (3, .pointer (some ⟨b3, 0, none⟩)), (4, .int .i64 (f : Int)), (5, .int .i64 ((e + f : Nat) - 1 : Int))] w0 F [] F [g, [(b3, .cells ⟨[.bool (q34 s), v]⟩ 162 (0, 0))], [(b2, .cells ⟨[.bool false, .slice none 0 0]⟩ 162 (0, 0))]] a w') ?_ ?_
  ·(refine ⟨(q0m s).length, (q0m s).length, _, _, rfl, Nat.le_refl _, (by rw [Nat.sub_self]; exact q0u.nil _ _), ?_⟩; replace S := S.nilg; refine S.keep ⟨rfl, rfl, rfl, rfl, reg (by omega), trivial⟩)
  (clear S; rintro m a w ⟨e, v, g, rfl, he, hown, S⟩)
  revert a; refine go 7 ?_; intro Z hZ a S
  refine q00 S rfl ?_ ?_ <;> intro h
  ·revert a; revert Z; refine go 4 ?_; intro Z hZ a S
   (obtain ⟨k, rfl⟩ : ∃ k, m = k + 1 := ⟨m - 1, by omega⟩; replace S := S.keep (L' := [(0, .string (bs s)), (2, .pointer (some ⟨b2, 0, none⟩)), (3, .pointer (some ⟨b3, 0, none⟩)), (4, .int .i64 (f : Int)), (5, .int .i64 ((k + f : Nat) : Int))]) ⟨rfl, rfl, rfl, rfl, reg (by omega), trivial⟩; have hgd := qf4 (s := s) (i := k + f) hf.symm (by omega); rw [Nat.add_sub_cancel] at hgd; have hisd := q4v hall (k := k) (by omega); have hdv := qcn hisd; have hdl := qh8 hisd; have hisd2 := (q39 _).1 hisd)
   (refine q0k [0, 1, 2, 3, 4, 5, 6, 9] [1] [10] (.one 0 (.one 1 (.one 2 (.one 3 (.one 4 (.one 5 (.one 6 (.one 7 (.one 8 (.one 9 (.one 10 .nil))))))))))) [b3] S mixed (by kernel_rfl) ?_; clear S; intro w S)
   revert a; refine go 4 ?_; intro a S
   (refine q19 S rfl rfl rfl (q06 _ rfl) rfl rfl (fun w' S => q07 (i := k + f) S rfl rfl rfl (by omega)) ?_; clear S a; intro a S)
   (rw [hgd] at S)
   (refine q19 S rfl rfl rfl (q06 _ rfl) rfl rfl (fun w' S => qh5 S rfl rfl rfl (by first | omega | (simp only [qaA, qaC, qaD]; omega))) ?_; clear S a; intro a S)
   (refine q19 S rfl rfl rfl (q06 _ rfl) rfl rfl (fun w' S => q1l S rfl rfl (by first | omega | (simp only [qaA, qaC, qaD]; omega))) ?_; clear S a; intro a S)
   refine q1q rfl rfl (kwa S) ?_
   (refine q0d S rfl rfl rfl rfl rfl rfl (by rfl) (by simp [Value.cells, splice, splice]) rfl (by rfl) (by rfl) ?_; clear S a; intro b26 a w hown2 S)
   revert a; refine go 2 ?_; intro a S
   (refine q4o S rfl rfl rfl rfl rfl rfl hown hown2 (by rfl) (by simp [Value.cells, Value.oneCell', splice, splice]) (by omega) (by omega) ?_; clear hown S a; intro v g a w hown S)
   revert a; refine go 3 ?_; intro a S
   (refine q0e S rfl rfl rfl rfl rfl hown.oneCell (by simp) ?_; clear S; intro w S)
   refine wpList_nil ?_
   refine q5g (fun h => absurd h (by decide)) ?_
   revert a; revert Z; refine go 6 ?_; intro a S
   change ∃ m', _ ∧ _
   exact u3m
  (refine wp_exit ?_; conv => whnf)
  clear hZ Z
  (refine hZ _ _ ?_; clear hZ Z)
  (refine wp_seq_k ?_; intro Z hZ)
  (have he0 : m = 0 := (by omega); subst he0; rw [Nat.sub_zero] at hown; obtain ⟨vo, vc, rfl, -, -⟩ := hown.at; replace S := St.freeze (G1 := []) S; simp only [qaG] at S; have hsl := hown.slC F)
  revert a; refine go 2 ?_; intro a S
  (refine wcF S (qu9 (q34 s) (q14 (q0m s)) _ _ _ hslt (by omega) hsl) ?_; clear S a; intro u F1 a w hu hF1 S; have hu0 := hu; obtain ⟨pu, rfl, hpu⟩ := hu0; have hpu0 := hpu; obtain ⟨uo, uc, rfl, -, -⟩ := hpu0)
  (refine wso S rfl rfl ?_; clear S; intro w S)
  revert a; revert Z; refine go 2 ?_; intro a S
  refine wp_ret (q08 S (q0c Tryz.results118 (RV.cellO S rfl (by rfl))) ?_)
  exact hu
 revert a; revert Z; refine go 3 ?_; intro Z hZ a S
 (refine wp_seq_k ?_; intro Z hZ)
 (have hS2 : St 31 [(0, .string (bs s)), (2, .pointer (some ⟨b2, 0, none⟩)), (3, .pointer (some ⟨b3, 0, none⟩)), (4, .int .i64 (f : Int))] w0 F [] F [[(b3, .cells ⟨[.bool (q34 s), .slice none 0 0]⟩ 162 (0, 0))], [(b2, .cells ⟨[.bool false, .slice none 0 0]⟩ 162 (0, 0))]] a w := (by first | (have h45 : q34 s = true := (by rw [hn0]; exact decide_eq_true (by omega)); have hfe : f = 1 := (by rw [← hf, h45]; rfl); rw [h45, hfe]; exact S.keep ⟨rfl, rfl, rfl, rfl, trivial⟩) | (have h45 : q34 s = false := (by rw [hn0]; exact decide_eq_false (by omega)); have hfe : f = 0 := (by rw [← hf, h45]; rfl); rw [h45, hfe]; exact S.keep ⟨rfl, rfl, rfl, rfl, trivial⟩)); clear S; have S := hS2; clear hS2)
 revert a; revert Z; refine go 8 ?_; intro a S
 refine q04 (fun m a w' => ∃ (e : Nat) (v : Value) (g : Grp), m = e ∧ e ≤ (q0m s).length ∧ q0u 3 1 v ((q0m s).length - e) (cel ((q0m s).length - e) (dig 10 (q14 (q0m s)))) g ∧ St 31 [(0, .string (bs s)), (2, .pointer (some ⟨b2, 0, none⟩)), (3, .pointer (some ⟨b3, 0, none⟩)), (4, .int .i64 (f : Int)), (5, .int .i64 ((e + f : Nat) - 1 : Int))] w0 F [] F [g, [(b3, .cells ⟨[.bool (q34 s), v]⟩ 162 (0, 0))], [(b2, .cells ⟨[.bool false, .slice none 0 0]⟩ 162 (0, 0))]] a w') ?_ ?_
 ·(refine ⟨(q0m s).length, (q0m s).length, _, _, rfl, Nat.le_refl _, (by rw [Nat.sub_self]; exact q0u.nil _ _), ?_⟩; replace S := S.nilg; refine S.keep ⟨rfl, rfl, rfl, rfl, reg (by omega), trivial⟩)
 (clear S; rintro m a w ⟨e, v, g, rfl, he, hown, S⟩)
 revert a; refine go 7 ?_; intro Z hZ a S
 refine q00 S rfl ?_ ?_ <;> intro h
 ·revert a; revert Z; refine go 4 ?_; intro Z hZ a S
  (obtain ⟨k, rfl⟩ : ∃ k, m = k + 1 := ⟨m - 1, by omega⟩; replace S := S.keep (L' := [(0, .string (bs s)), (2, .pointer (some ⟨b2, 0, none⟩)), (3, .pointer (some ⟨b3, 0, none⟩)), (4, .int .i64 (f : Int)), (5, .int .i64 ((k + f : Nat) : Int))]) ⟨rfl, rfl, rfl, rfl, reg (by omega), trivial⟩; have hgd := qf4 (s := s) (i := k + f) hf.symm (by omega); rw [Nat.add_sub_cancel] at hgd; have hisd := q4v hall (k := k) (by omega); have hdv := qcn hisd; have hdl := qh8 hisd; have hisd2 := (q39 _).1 hisd)
  (refine q0k [0, 1, 2, 3, 4, 5, 6, 9] [1] [10] (.one 0 (.one 1 (.one 2 (.one 3 (.one 4 (.one 5 (.one 6 (.one 7 (.one 8 (.one 9 (.one 10 .nil))))))))))) [b3] S mixed (by kernel_rfl) ?_; clear S; intro w S)
  revert a; refine go 4 ?_; intro a S
  (refine q19 S rfl rfl rfl (q06 _ rfl) rfl rfl (fun w' S => q07 (i := k + f) S rfl rfl rfl (by omega)) ?_; clear S a; intro a S)
  (rw [hgd] at S)
  (refine q19 S rfl rfl rfl (q06 _ rfl) rfl rfl (fun w' S => qh5 S rfl rfl rfl (by first | omega | (simp only [qaA, qaC, qaD]; omega))) ?_; clear S a; intro a S)
  (refine q19 S rfl rfl rfl (q06 _ rfl) rfl rfl (fun w' S => q1l S rfl rfl (by first | omega | (simp only [qaA, qaC, qaD]; omega))) ?_; clear S a; intro a S)
  refine q1q rfl rfl (kwa S) ?_
  (refine q0d S rfl rfl rfl rfl rfl rfl (by rfl) (by simp [Value.cells, splice, splice]) rfl (by rfl) (by rfl) ?_; clear S a; intro b26 a w hown2 S)
  revert a; refine go 2 ?_; intro a S
  (refine q4o S rfl rfl rfl rfl rfl rfl hown hown2 (by rfl) (by simp [Value.cells, Value.oneCell', splice, splice]) (by omega) (by omega) ?_; clear hown S a; intro v g a w hown S)
  revert a; refine go 3 ?_; intro a S
  (refine q0e S rfl rfl rfl rfl rfl hown.oneCell (by simp) ?_; clear S; intro w S)
  refine wpList_nil ?_
  refine q5g (fun h => absurd h (by decide)) ?_
  revert a; revert Z; refine go 6 ?_; intro a S
  change ∃ m', _ ∧ _
  exact u3m
 (refine wp_exit ?_; conv => whnf)
 clear hZ Z
 (refine hZ _ _ ?_; clear hZ Z)
 (refine wp_seq_k ?_; intro Z hZ)
 (have he0 : m = 0 := (by omega); subst he0; rw [Nat.sub_zero] at hown; obtain ⟨vo, vc, rfl, -, -⟩ := hown.at; replace S := St.freeze (G1 := []) S; simp only [qaG] at S; have hsl := hown.slC F)
 revert a; refine go 2 ?_; intro a S
 (refine wcF S (qu9 (q34 s) (q14 (q0m s)) _ _ _ hslt (by omega) hsl) ?_; clear S a; intro u F1 a w hu hF1 S; have hu0 := hu; obtain ⟨pu, rfl, hpu⟩ := hu0; have hpu0 := hpu; obtain ⟨uo, uc, rfl, -, -⟩ := hpu0)
 (refine wso S rfl rfl ?_; clear S; intro w S)
 revert a; revert Z; refine go 2 ?_; intro a S
 refine wp_ret (q08 S (q0c Tryz.results118 (RV.cellO S rfl (by rfl))) ?_)
 exact hu
theorem qcb {s : List UInt8} (h : 0 < s.length) (h2 : (s.getD 0 0).toNat = 45) : q0m s = s.drop 1 := by
 unfold q0m
 rw [q5k (List.length_pos_iff.1 h), if_pos (show some (s.getD 0 0) = some 45 from congrArg some ((qqb (n := 45) (by decide)).2 h2))]
theorem qgg {s : List UInt8} (h2 : ¬ (s.getD 0 0).toNat = 45) : q0m s = s := by
 unfold q0m
 cases s with
 | nil => rfl
 | cons c r =>
  rw [if_neg]
  intro e
  simp only [List.head?_cons, Option.some.injEq] at e
  exact h2 (by rw [e]; rfl)
theorem qcg {s : List UInt8} (h : ¬ 0 < s.length) : q0m s = s := by
 have : s = [] := List.eq_nil_of_length_eq_zero (by omega)
 subst this; rfl
theorem q2u {p : Prop} (h : p := by (rw [hck]; refine congrArg _ ?_; first | exact qi9 (by assumption) | exact qnq (by assumption) (by omega) (by assumption) | exact qv9 (j := i) (by omega) (by rw [q39]; omega) | exact qp2 (by assumption) (by first | (intro; assumption) | (intro; omega)) (q4l hall (by omega)) (by omega) | exact u2u (by assumption) (by first | (intro; assumption) | (intro; omega)) (q4l hall (by omega)) (by omega))) : p := h
theorem qk7 {p : Prop} (h : p := by (refine ⟨d.length - (i + 1), by omega, i + 1, rfl, by omega, ?_, ?_⟩; rotate_left 1; (refine S.keep ?_; exact zk); intro j hj; rcases Nat.lt_succ_iff_lt_or_eq.1 hj with h9 | h9; exact hall j h9; subst h9; rw [q39]; omega)) : p := h
theorem q5h (s : List UInt8) (F : q01) (hs : s.length ≤ 1000000000000) : Ct Tryz.prog 117 [.string (bs s)] F [] (fun _ _ u => u = .int .i64 (q0p s)) := by
 have hbl := q7w s
 have hck : q0p s = ckD s (q0m s) := rfl
 generalize hd : q0m s = d at *
 refine Ct.enter Tryz.func117 rfl Tryz.ntmps117 rfl fun w0 a S => ?_
 revert a; refine go 15 ?_; intro Z hZ Z hZ a S
 refine wgd S ?_ ?_
 ·(clear S; intro h S)
  revert a; refine go 2 ?_; intro a S
  (refine wv S (q07 (i := 0) S rfl rfl rfl (by omega)) ?_; clear S a; intro a S)
  revert a; revert Z; refine go 5 ?_; intro a S
  refine q00 S rfl ?_ ?_ <;> intro h
  ·revert a; refine go 2 ?_; intro a S
   (refine wv S (q1p S rfl rfl rfl (by first | omega | (simp only [qaA, qaC, qaD]; omega))) ?_; clear S a; intro a S)
   revert a; revert Z; refine go 4 ?_; intro Z hZ a S
   (refine wp_seq_k ?_; intro Z hZ)
   (have hS2 : St 46 [(0, .string (bs s)), (3, .string (bs d))] w0 F [] F [] a w0 := (by first | (rw [← hd, qcb (by omega) (by omega)]; exact S.keep ⟨rfl, rfl, trivial⟩) | (rw [← hd, qgg (by omega)]; exact S.keep ⟨rfl, rfl, trivial⟩) | (rw [← hd, qcg (by omega)]; exact S.keep ⟨rfl, rfl, trivial⟩)); clear S; have S := hS2; clear hS2)
   revert a; refine go 4 ?_; intro a S
   refine wgd S ?_ ?_
   ·(clear S; intro h S)
    revert a; refine go 2 ?_; intro a S
    (have hdl : 0 < d.length := List.length_pos_iff.2 (by assumption)); (refine wv S (q07 (i := 0) S rfl rfl rfl (by omega)) ?_; clear S a; intro a S)
    revert a; refine go 4 ?_; intro a S
    refine wgd S ?_ ?_
    ·(clear S; intro h S)
     revert a; revert Z; refine go 8 ?_; intro a S
     refine q00 S rfl ?_ ?_ <;> intro h
     ·revert a; refine go 4 ?_; intro a S
      refine wp_ret (fr1 S Tryz.results117 ?_)
      exact q2u
     revert a; revert Z; refine go 8 ?_; intro Z hZ a S
     refine q04 (fun m a w' => ∃ (i : Nat), m = d.length - i ∧ i ≤ d.length ∧ (∀ j, j < i → isD (d.getD j 0) = true) ∧ St 46 [(3, .string (bs d)), (4, .int .i64 i)] w0 F [] F [] a w') ?_ ?_
     ·(refine ⟨d.length, 0, rfl, Nat.zero_le _, (fun j hj => absurd hj (by omega)), ?_⟩; refine S.keep ?_; exact zk)
     (clear S; rintro m a w ⟨i, rfl, hi, hall, S⟩)
     revert a; refine go 8 ?_; intro Z hZ a S
     refine q00 S rfl ?_ ?_ <;> intro h
     ·revert a; revert Z; refine go 7 ?_; intro Z hZ Z hZ a S
      first | (refine wv S (q07 S rfl rfl rfl (by first | omega | (simp only [qaA, qaC, qaD]; omega))) ?_; clear S a; intro a S) | (refine wv S (q0t S rfl rfl rfl (by first | omega | (simp only [qaA, qaC, qaD]; omega))) ?_; clear S a; intro a S)
      revert a; refine go 2 ?_; intro a S
      refine wgd S ?_ ?_
      ·(clear S; intro h S)
       revert a; refine go 4 ?_; intro a S
       first | (refine wv S (q07 S rfl rfl rfl (by first | omega | (simp only [qaA, qaC, qaD]; omega))) ?_; clear S a; intro a S) | (refine wv S (q0t S rfl rfl rfl (by first | omega | (simp only [qaA, qaC, qaD]; omega))) ?_; clear S a; intro a S)
       revert a; revert Z; refine go 5 ?_; intro a S
       refine q00 S rfl ?_ ?_ <;> intro h
       ·revert a; refine go 4 ?_; intro a S
        refine wp_ret (fr1 S Tryz.results117 ?_)
        exact q2u
       revert a; revert Z; refine go 7 ?_; intro a S
       change ∃ m', _ ∧ _
       exact qk7
      (clear S a; intro h a S)
      revert a; revert Z; refine go 6 ?_; intro a S
      refine q0h S rfl ?_
      revert a; refine go 4 ?_; intro a S
      refine wp_ret (fr1 S Tryz.results117 ?_)
      exact q2u
     (refine wp_exit ?_; conv => whnf)
     clear hZ Z
     revert a; revert Z; refine go 8 ?_; intro Z hZ a S
     refine q00 S rfl ?_ ?_ <;> intro h
     ·revert a; refine go 4 ?_; intro a S
      refine wp_ret (fr1 S Tryz.results117 ?_)
      exact q2u
     revert a; revert Z; refine go 6 ?_; intro a S
     refine wp_ret (fr1 S Tryz.results117 ?_)
     exact q2u
    (clear S a; intro h a S)
    revert a; revert Z; refine go 6 ?_; intro a S
    refine q03 S rfl ?_
    revert a; revert Z; refine go 8 ?_; intro Z hZ a S
    refine q04 (fun m a w' => ∃ (i : Nat), m = d.length - i ∧ i ≤ d.length ∧ (∀ j, j < i → isD (d.getD j 0) = true) ∧ St 46 [(3, .string (bs d)), (4, .int .i64 i)] w0 F [] F [] a w') ?_ ?_
    ·(refine ⟨d.length, 0, rfl, Nat.zero_le _, (fun j hj => absurd hj (by omega)), ?_⟩; refine S.keep ?_; exact zk)
    (clear S; rintro m a w ⟨i, rfl, hi, hall, S⟩)
    revert a; refine go 8 ?_; intro Z hZ a S
    refine q00 S rfl ?_ ?_ <;> intro h
    ·revert a; revert Z; refine go 7 ?_; intro Z hZ Z hZ a S
     first | (refine wv S (q07 S rfl rfl rfl (by first | omega | (simp only [qaA, qaC, qaD]; omega))) ?_; clear S a; intro a S) | (refine wv S (q0t S rfl rfl rfl (by first | omega | (simp only [qaA, qaC, qaD]; omega))) ?_; clear S a; intro a S)
     revert a; refine go 2 ?_; intro a S
     refine wgd S ?_ ?_
     ·(clear S; intro h S)
      revert a; refine go 4 ?_; intro a S
      first | (refine wv S (q07 S rfl rfl rfl (by first | omega | (simp only [qaA, qaC, qaD]; omega))) ?_; clear S a; intro a S) | (refine wv S (q0t S rfl rfl rfl (by first | omega | (simp only [qaA, qaC, qaD]; omega))) ?_; clear S a; intro a S)
      revert a; revert Z; refine go 5 ?_; intro a S
      refine q00 S rfl ?_ ?_ <;> intro h
      ·revert a; refine go 4 ?_; intro a S
       refine wp_ret (fr1 S Tryz.results117 ?_)
       exact q2u
      revert a; revert Z; refine go 7 ?_; intro a S
      change ∃ m', _ ∧ _
      exact qk7
     (clear S a; intro h a S)
     revert a; revert Z; refine go 6 ?_; intro a S
     refine q0h S rfl ?_
     revert a; refine go 4 ?_; intro a S
     refine wp_ret (fr1 S Tryz.results117 ?_)
     exact q2u
    (refine wp_exit ?_; conv => whnf)
    clear hZ Z
    revert a; revert Z; refine go 8 ?_; intro Z hZ a S
    refine q00 S rfl ?_ ?_ <;> intro h
    ·revert a; refine go 4 ?_; intro a S
     refine wp_ret (fr1 S Tryz.results117 ?_)
     exact q2u
    revert a; revert Z; refine go 6 ?_; intro a S
    refine wp_ret (fr1 S Tryz.results117 ?_)
    exact q2u
   (clear S a; intro h a S)
   revert a; revert Z; refine go 9 ?_; intro a S
   refine q0h S rfl ?_
   revert a; refine go 4 ?_; intro a S
   refine wp_ret (fr1 S Tryz.results117 ?_)
   exact q2u
  revert a; revert Z; refine go 3 ?_; intro Z hZ a S
  (refine wp_seq_k ?_; intro Z hZ)
  (have hS2 : St 46 [(0, .string (bs s)), (3, .string (bs d))] w0 F [] F [] a w0 := (by first | (rw [← hd, qcb (by omega) (by omega)]; exact S.keep ⟨rfl, rfl, trivial⟩) | (rw [← hd, qgg (by omega)]; exact S.keep ⟨rfl, rfl, trivial⟩) | (rw [← hd, qcg (by omega)]; exact S.keep ⟨rfl, rfl, trivial⟩)); clear S; have S := hS2; clear hS2)
  revert a; refine go 4 ?_; intro a S
  refine wgd S ?_ ?_
  ·(clear S; intro h S)
   revert a; refine go 2 ?_; intro a S
   (have hdl : 0 < d.length := List.length_pos_iff.2 (by assumption)); (refine wv S (q07 (i := 0) S rfl rfl rfl (by omega)) ?_; clear S a; intro a S)
   revert a; refine go 4 ?_; intro a S
   refine wgd S ?_ ?_
   ·(clear S; intro h S)
    revert a; revert Z; refine go 8 ?_; intro a S
    refine q00 S rfl ?_ ?_ <;> intro h
    ·revert a; refine go 4 ?_; intro a S
     refine wp_ret (fr1 S Tryz.results117 ?_)
     exact q2u
    revert a; revert Z; refine go 8 ?_; intro Z hZ a S
    refine q04 (fun m a w' => ∃ (i : Nat), m = d.length - i ∧ i ≤ d.length ∧ (∀ j, j < i → isD (d.getD j 0) = true) ∧ St 46 [(3, .string (bs d)), (4, .int .i64 i)] w0 F [] F [] a w') ?_ ?_
    ·(refine ⟨d.length, 0, rfl, Nat.zero_le _, (fun j hj => absurd hj (by omega)), ?_⟩; refine S.keep ?_; exact zk)
    (clear S; rintro m a w ⟨i, rfl, hi, hall, S⟩)
    revert a; refine go 8 ?_; intro Z hZ a S
    refine q00 S rfl ?_ ?_ <;> intro h
    ·revert a; revert Z; refine go 7 ?_; intro Z hZ Z hZ a S
     first | (refine wv S (q07 S rfl rfl rfl (by first | omega | (simp only [qaA, qaC, qaD]; omega))) ?_; clear S a; intro a S) | (refine wv S (q0t S rfl rfl rfl (by first | omega | (simp only [qaA, qaC, qaD]; omega))) ?_; clear S a; intro a S)
     revert a; refine go 2 ?_; intro a S
     refine wgd S ?_ ?_
     ·(clear S; intro h S)
      revert a; refine go 4 ?_; intro a S
      first | (refine wv S (q07 S rfl rfl rfl (by first | omega | (simp only [qaA, qaC, qaD]; omega))) ?_; clear S a; intro a S) | (refine wv S (q0t S rfl rfl rfl (by first | omega | (simp only [qaA, qaC, qaD]; omega))) ?_; clear S a; intro a S)
      revert a; revert Z; refine go 5 ?_; intro a S
      refine q00 S rfl ?_ ?_ <;> intro h
      ·revert a; refine go 4 ?_; intro a S
       refine wp_ret (fr1 S Tryz.results117 ?_)
       exact q2u
      revert a; revert Z; refine go 7 ?_; intro a S
      change ∃ m', _ ∧ _
      exact qk7
     (clear S a; intro h a S)
     revert a; revert Z; refine go 6 ?_; intro a S
     refine q0h S rfl ?_
     revert a; refine go 4 ?_; intro a S
     refine wp_ret (fr1 S Tryz.results117 ?_)
     exact q2u
    (refine wp_exit ?_; conv => whnf)
    clear hZ Z
    revert a; revert Z; refine go 8 ?_; intro Z hZ a S
    refine q00 S rfl ?_ ?_ <;> intro h
    ·revert a; refine go 4 ?_; intro a S
     refine wp_ret (fr1 S Tryz.results117 ?_)
     exact q2u
    revert a; revert Z; refine go 6 ?_; intro a S
    refine wp_ret (fr1 S Tryz.results117 ?_)
    exact q2u
   (clear S a; intro h a S)
   revert a; revert Z; refine go 6 ?_; intro a S
   refine q03 S rfl ?_
   revert a; revert Z; refine go 8 ?_; intro Z hZ a S
   refine q04 (fun m a w' => ∃ (i : Nat), m = d.length - i ∧ i ≤ d.length ∧ (∀ j, j < i → isD (d.getD j 0) = true) ∧ St 46 [(3, .string (bs d)), (4, .int .i64 i)] w0 F [] F [] a w') ?_ ?_
   ·(refine ⟨d.length, 0, rfl, Nat.zero_le _, (fun j hj => absurd hj (by omega)), ?_⟩; refine S.keep ?_; exact zk)
   (clear S; rintro m a w ⟨i, rfl, hi, hall, S⟩)
   revert a; refine go 8 ?_; intro Z hZ a S
   refine q00 S rfl ?_ ?_ <;> intro h
   ·revert a; revert Z; refine go 7 ?_; intro Z hZ Z hZ a S
    first | (refine wv S (q07 S rfl rfl rfl (by first | omega | (simp only [qaA, qaC, qaD]; omega))) ?_; clear S a; intro a S) | (refine wv S (q0t S rfl rfl rfl (by first | omega | (simp only [qaA, qaC, qaD]; omega))) ?_; clear S a; intro a S)
    revert a; refine go 2 ?_; intro a S
    refine wgd S ?_ ?_
    ·(clear S; intro h S)
     revert a; refine go 4 ?_; intro a S
     first | (refine wv S (q07 S rfl rfl rfl (by first | omega | (simp only [qaA, qaC, qaD]; omega))) ?_; clear S a; intro a S) | (refine wv S (q0t S rfl rfl rfl (by first | omega | (simp only [qaA, qaC, qaD]; omega))) ?_; clear S a; intro a S)
     revert a; revert Z; refine go 5 ?_; intro a S
     refine q00 S rfl ?_ ?_ <;> intro h
     ·revert a; refine go 4 ?_; intro a S
      refine wp_ret (fr1 S Tryz.results117 ?_)
      exact q2u
     revert a; revert Z; refine go 7 ?_; intro a S
     change ∃ m', _ ∧ _
     exact qk7
    (clear S a; intro h a S)
    revert a; revert Z; refine go 6 ?_; intro a S
    refine q0h S rfl ?_
    revert a; refine go 4 ?_; intro a S
    refine wp_ret (fr1 S Tryz.results117 ?_)
    exact q2u
   (refine wp_exit ?_; conv => whnf)
   clear hZ Z
   revert a; revert Z; refine go 8 ?_; intro Z hZ a S
   refine q00 S rfl ?_ ?_ <;> intro h
   ·revert a; refine go 4 ?_; intro a S
    refine wp_ret (fr1 S Tryz.results117 ?_)
    exact q2u
   revert a; revert Z; refine go 6 ?_; intro a S
   refine wp_ret (fr1 S Tryz.results117 ?_)
   exact q2u
  (clear S a; intro h a S)
  revert a; revert Z; refine go 9 ?_; intro a S
  refine q0h S rfl ?_
  revert a; refine go 4 ?_; intro a S
  refine wp_ret (fr1 S Tryz.results117 ?_)
  exact q2u
 (clear S a; intro h a S)
 revert a; revert Z; refine go 5 ?_; intro a S
 refine q03 S rfl ?_
 revert a; revert Z; refine go 3 ?_; intro Z hZ a S
 (refine wp_seq_k ?_; intro Z hZ)
 (have hS2 : St 46 [(0, .string (bs s)), (3, .string (bs d))] w0 F [] F [] a w0 := (by first | (rw [← hd, qcb (by omega) (by omega)]; exact S.keep ⟨rfl, rfl, trivial⟩) | (rw [← hd, qgg (by omega)]; exact S.keep ⟨rfl, rfl, trivial⟩) | (rw [← hd, qcg (by omega)]; exact S.keep ⟨rfl, rfl, trivial⟩)); clear S; have S := hS2; clear hS2)
 revert a; refine go 4 ?_; intro a S
 refine wgd S ?_ ?_
 ·(clear S; intro h S)
  revert a; refine go 2 ?_; intro a S
  (have hdl : 0 < d.length := List.length_pos_iff.2 (by assumption)); (refine wv S (q07 (i := 0) S rfl rfl rfl (by omega)) ?_; clear S a; intro a S)
  revert a; refine go 4 ?_; intro a S
  refine wgd S ?_ ?_
  ·(clear S; intro h S)
   revert a; revert Z; refine go 8 ?_; intro a S
   refine q00 S rfl ?_ ?_ <;> intro h
   ·revert a; refine go 4 ?_; intro a S
    refine wp_ret (fr1 S Tryz.results117 ?_)
    exact q2u
   revert a; revert Z; refine go 8 ?_; intro Z hZ a S
   refine q04 (fun m a w' => ∃ (i : Nat), m = d.length - i ∧ i ≤ d.length ∧ (∀ j, j < i → isD (d.getD j 0) = true) ∧ St 46 [(3, .string (bs d)), (4, .int .i64 i)] w0 F [] F [] a w') ?_ ?_
   ·(refine ⟨d.length, 0, rfl, Nat.zero_le _, (fun j hj => absurd hj (by omega)), ?_⟩; refine S.keep ?_; exact zk)
   (clear S; rintro m a w ⟨i, rfl, hi, hall, S⟩)
   revert a; refine go 8 ?_; intro Z hZ a S
   refine q00 S rfl ?_ ?_ <;> intro h
   ·revert a; revert Z; refine go 7 ?_; intro Z hZ Z hZ a S
    first | (refine wv S (q07 S rfl rfl rfl (by first | omega | (simp only [qaA, qaC, qaD]; omega))) ?_; clear S a; intro a S) | (refine wv S (q0t S rfl rfl rfl (by first | omega | (simp only [qaA, qaC, qaD]; omega))) ?_; clear S a; intro a S)
    revert a; refine go 2 ?_; intro a S
    refine wgd S ?_ ?_
    ·(clear S; intro h S)
     revert a; refine go 4 ?_; intro a S
     first | (refine wv S (q07 S rfl rfl rfl (by first | omega | (simp only [qaA, qaC, qaD]; omega))) ?_; clear S a; intro a S) | (refine wv S (q0t S rfl rfl rfl (by first | omega | (simp only [qaA, qaC, qaD]; omega))) ?_; clear S a; intro a S)
     revert a; revert Z; refine go 5 ?_; intro a S
     refine q00 S rfl ?_ ?_ <;> intro h
     ·revert a; refine go 4 ?_; intro a S
      refine wp_ret (fr1 S Tryz.results117 ?_)
      exact q2u
     revert a; revert Z; refine go 7 ?_; intro a S
     change ∃ m', _ ∧ _
     exact qk7
    (clear S a; intro h a S)
    revert a; revert Z; refine go 6 ?_; intro a S
    refine q0h S rfl ?_
    revert a; refine go 4 ?_; intro a S
    refine wp_ret (fr1 S Tryz.results117 ?_)
    exact q2u
   (refine wp_exit ?_; conv => whnf)
   clear hZ Z
   revert a; revert Z; refine go 8 ?_; intro Z hZ a S
   refine q00 S rfl ?_ ?_ <;> intro h
   ·revert a; refine go 4 ?_; intro a S
    refine wp_ret (fr1 S Tryz.results117 ?_)
    exact q2u
   revert a; revert Z; refine go 6 ?_; intro a S
   refine wp_ret (fr1 S Tryz.results117 ?_)
   exact q2u
  (clear S a; intro h a S)
  revert a; revert Z; refine go 6 ?_; intro a S
  refine q03 S rfl ?_
  revert a; revert Z; refine go 8 ?_; intro Z hZ a S
  refine q04 (fun m a w' => ∃ (i : Nat), m = d.length - i ∧ i ≤ d.length ∧ (∀ j, j < i → isD (d.getD j 0) = true) ∧ St 46 [(3, .string (bs d)), (4, .int .i64 i)] w0 F [] F [] a w') ?_ ?_
  ·(refine ⟨d.length, 0, rfl, Nat.zero_le _, (fun j hj => absurd hj (by omega)), ?_⟩; refine S.keep ?_; exact zk)
  (clear S; rintro m a w ⟨i, rfl, hi, hall, S⟩)
  revert a; refine go 8 ?_; intro Z hZ a S
  refine q00 S rfl ?_ ?_ <;> intro h
  ·revert a; revert Z; refine go 7 ?_; intro Z hZ Z hZ a S
   first | (refine wv S (q07 S rfl rfl rfl (by first | omega | (simp only [qaA, qaC, qaD]; omega))) ?_; clear S a; intro a S) | (refine wv S (q0t S rfl rfl rfl (by first | omega | (simp only [qaA, qaC, qaD]; omega))) ?_; clear S a; intro a S)
   revert a; refine go 2 ?_; intro a S
   refine wgd S ?_ ?_
   ·(clear S; intro h S)
    revert a; refine go 4 ?_; intro a S
    first | (refine wv S (q07 S rfl rfl rfl (by first | omega | (simp only [qaA, qaC, qaD]; omega))) ?_; clear S a; intro a S) | (refine wv S (q0t S rfl rfl rfl (by first | omega | (simp only [qaA, qaC, qaD]; omega))) ?_; clear S a; intro a S)
    revert a; revert Z; refine go 5 ?_; intro a S
    refine q00 S rfl ?_ ?_ <;> intro h
    ·revert a; refine go 4 ?_; intro a S
     refine wp_ret (fr1 S Tryz.results117 ?_)
     exact q2u
    revert a; revert Z; refine go 7 ?_; intro a S
    change ∃ m', _ ∧ _
    exact qk7
   (clear S a; intro h a S)
   revert a; revert Z; refine go 6 ?_; intro a S
   refine q0h S rfl ?_
   revert a; refine go 4 ?_; intro a S
   refine wp_ret (fr1 S Tryz.results117 ?_)
   exact q2u
  (refine wp_exit ?_; conv => whnf)
  clear hZ Z
  revert a; revert Z; refine go 8 ?_; intro Z hZ a S
  refine q00 S rfl ?_ ?_ <;> intro h
  ·revert a; refine go 4 ?_; intro a S
   refine wp_ret (fr1 S Tryz.results117 ?_)
   exact q2u
  revert a; revert Z; refine go 6 ?_; intro a S
  refine wp_ret (fr1 S Tryz.results117 ?_)
  exact q2u
 (clear S a; intro h a S)
 revert a; revert Z; refine go 9 ?_; intro a S
 refine q0h S rfl ?_
 revert a; refine go 4 ?_; intro a S
 refine wp_ret (fr1 S Tryz.results117 ?_)
 exact q2u
theorem qgq (A j : Nat) : A / 10 ^ j = 10 * (A / 10 ^ (j + 1)) + dig 10 A j := by
 rw [Nat.pow_succ, ← Nat.div_div_eq_div_mul]; exact (Nat.div_add_mod _ _).symm
theorem u4r (C e : Nat) : C / 10 ^ e = C / 10 ^ (e + 1) * 10 + dig 10 C e := by rw [qgq C e, Nat.mul_comm]
theorem qm4 (s : List UInt8) : (q1w s).natAbs = q14 (q0m s) := by
 unfold q1w toZ
 cases q34 s <;> simp
theorem q1r {s : List UInt8} (h : q0p s = 0) : nd 10 (q1w s).natAbs ≤ 200 := by
 obtain ⟨h1, h2, _⟩ := q1h h
 rw [qm4]
 exact qky (Nat.lt_of_lt_of_le (q2o _ h1) (Nat.pow_le_pow_right (by decide) h2)) t2
def qdr : List UInt8 := [45, 57, 50, 50, 51, 51, 55, 50, 48, 51, 54, 56, 53, 52, 55, 55, 53, 56, 48, 56]
def q51 : List UInt8 := [57, 50, 50, 51, 51, 55, 50, 48, 51, 54, 56, 53, 52, 55, 55, 53, 56, 48, 55]
theorem q4w : q0p qdr = 0 ∧ q1w qdr = -9223372036854775808 := by decide +kernel
theorem q3f : q0p q51 = 0 ∧ q1w q51 = 9223372036854775807 := by decide +kernel
theorem q97 {A C : Nat} : 0 < q4j A C ↔ C < A := by
 unfold q4j; split
 ·constructor <;> intro h <;> omega
 ·split
  ·constructor <;> intro h <;> omega
  ·constructor <;> intro h <;> omega
theorem qi8 {x : Int} (h : x < 0) : q41 x = true ↔ x.natAbs ≤ 9223372036854775808 := by unfold q41; simp; omega
theorem qho {x : Int} (h : ¬ x < 0) : q41 x = true ↔ x.natAbs ≤ 9223372036854775807 := by unfold q41; simp; omega
theorem qpl {N e : Nat} : N / 10 ^ e = 10 * (N / 10 ^ (e + 1)) + dig 10 N e := by rw [u4r N e, Nat.mul_comm]
theorem q8e (N e : Nat) : N / 10 ^ e ≤ N := Nat.div_le_self _ _
theorem u1g (s : List UInt8) (F : q01) (hs : s.length ≤ 1000000) (hck : q0p s = 0) (x : Int) (hx : q1w s = x) (hsg : x < 0) (hN : x.natAbs ≤ 9223372036854775808) : Ct Tryz.prog 76 [.string (bs s)] F [] (fun _ _ u => u = qqn (x, 0)) := by
 have hn := q1r hck
 have hlo := q1r q4w.1
 have hhi := q1r q3f.1
 have hof := q8t s F hck
 have hlv : (q1w qdr).natAbs = 9223372036854775808 := by rw [q4w.2]; rfl
 have hhv : (q1w q51).natAbs = 9223372036854775807 := by rw [q3f.2]; rfl
 have hdb : decide (x < 0) = true := by simpa using hsg
 rw [hx] at hof hn
 clear hx
 refine Ct.enter Tryz.func76 rfl Tryz.ntmps76 rfl fun w0 a S => ?_
 revert a; refine go 7 ?_; intro Z hZ a S
 (refine wc0 S (q5h s F (by omega)) ?_; clear S a; intro v a w hv S; subst hv)
 revert a; revert Z; refine go 9 ?_; intro Z hZ a S
 refine q0l S rfl (fun h => ?_) (fun h => ?_)
 ·(skip; (try simp only [tq] at h); exact absurd hck h)
 (try simp only [tq] at h)
 revert a; revert Z; refine go 4 ?_; intro Z hZ a S
 (refine wcF S (hof) ?_; clear S a; intro v1 F1 a w hv1 hF1 S; have hv10 := hv1; obtain ⟨p1, rfl, hp1⟩ := hv10; rw [hdb] at S; have hp10 := hp1; obtain ⟨xo, xc, rfl, hxc, hxp⟩ := hp10)
 (refine q0a S rfl rfl rfl rfl ?_; clear S a; intro b5 a w S)
 (refine wso S rfl rfl ?_; clear S; intro w S)
 revert a; revert Z; refine go 3 ?_; intro Z hZ a S
 (refine wcF S (q8t qdr F1 q4w.1) ?_; clear S a; intro v2 F2 a w hv2 hF2 S; have hv20 := hv2; obtain ⟨p2, rfl, hp2⟩ := hv20; have hp20 := hp2; obtain ⟨lo, lc, rfl, -, -⟩ := hp20; generalize hlb : decide (q1w qdr < 0) = lb at *)
 (refine q0a S rfl rfl rfl rfl ?_; clear S a; intro b6 a w S)
 (refine wso S rfl rfl ?_; clear S; intro w S)
 revert a; revert Z; refine go 3 ?_; intro Z hZ a S
 (refine wcF S (q8t q51 F2 q3f.1) ?_; clear S a; intro v3 F3 a w hv3 hF3 S; have hv30 := hv3; obtain ⟨p3, rfl, hp3⟩ := hv30; have hp30 := hp3; obtain ⟨ho, hc, rfl, -, -⟩ := hp30; generalize hhb : decide (q1w q51 < 0) = hb at *; have hF13 : ∀ b o, F1 b = some o → F3 b = some o := fun b o h => hF3 _ _ (hF2 _ _ h))
 (refine q0a S rfl rfl rfl rfl ?_; clear S a; intro b7 a w S)
 (refine wso S rfl rfl ?_; clear S; intro w S)
 revert a; revert Z; refine go 6 ?_; intro Z hZ Z hZ a S
 skip
 revert a; refine go 6 ?_; intro a S
 (refine wc0 S (qi6 _ _ x.natAbs (q1w qdr).natAbs _ _ _ _ F3 (q33 t2 _) (q33 t2 _) (by omega) (by omega) (hp1.mono hF13) (hp2.mono hF3)) ?_; clear S a; intro v a w hv S; subst hv)
 refine q1j S rfl rfl rfl ?_
 (refine wv S (q0j (c := false) (q09 S rfl) (by exact decide_eq_false (fun h9 => by have := q97.1 h9; rw [hlv] at this; omega))) ?_; clear S a; intro a S)
 revert a; refine go 6 ?_; intro a S
 skip
 revert a; revert Z; refine go 13 ?_; intro a S
 refine q03 S rfl ?_
 revert a; revert Z; refine go 16 ?_; intro Z hZ a S
 refine q04 (fun m a w' => ∃ (e : Nat), m = e ∧ e ≤ nd 10 x.natAbs ∧ St 65 [(5, .pointer (some ⟨b5, 0, none⟩)), (8, .int .i64 (-((x.natAbs / 10 ^ e : Nat) : Int))), (9, .int .i64 ((e : Int) - 1))] w0 F [] F3 [[(b7, .cells ⟨[.bool hb, .slice ho (nd 10 (q1w q51).natAbs) hc]⟩ 162 (0, 0))], [(b6, .cells ⟨[.bool lb, .slice lo (nd 10 (q1w qdr).natAbs) lc]⟩ 162 (0, 0))], [(b5, .cells ⟨[.bool true, .slice xo (nd 10 x.natAbs) xc]⟩ 162 (0, 0))]] a w') ?_ ?_
 ·(refine ⟨_, nd 10 x.natAbs, rfl, Nat.le_refl _, ?_⟩; rw [Nat.div_eq_of_lt (q33 t2 _)]; refine S.keep ⟨rfl, rfl, rfl, trivial⟩)
 (clear S; rintro m a w ⟨e, rfl, he, S⟩)
 revert a; refine go 6 ?_; intro Z hZ a S
 refine q00 S rfl ?_ ?_ <;> intro h
 ·revert a; revert Z; refine go 4 ?_; intro Z hZ a S
  (refine wp_seq_k ?_; intro Z hZ)
  (obtain ⟨k, rfl⟩ : ∃ k, m = k + 1 := ⟨m - 1, by omega⟩; have htd := qpl (N := x.natAbs) (e := k); have hdl := q2z t2 x.natAbs k; have hle := q8e x.natAbs k; generalize x.natAbs / 10 ^ (k + 1) = q at *; obtain ⟨bx, ox, rfl, hcx⟩ := hxp (by omega); have hce := (qp8 hcx (j := k) (by omega)).mono hF13; replace S := S.keep (L' := [(5, .pointer (some ⟨b5, 0, none⟩)), (8, .int .i64 (-(q : Int))), (9, .int .i64 (k : Int))]) ⟨rfl, rfl, reg (by omega), trivial⟩)
  revert a; refine go 3 ?_; intro a S
  skip
  revert a; revert Z; refine go 2 ?_; intro a S
  refine q0h S rfl ?_
  revert a; refine go 2 ?_; intro a S
  (refine wv S (q8r S rfl rfl rfl (by first | omega | (simp only [qaA, qaC, qaD]; omega))) ?_; clear S a; intro a S)
  revert a; revert Z; refine go 14 ?_; intro a S
  change ∃ m', _ ∧ _
  (refine ⟨k, by omega, k, rfl, by omega, ?_⟩; refine S.keep ⟨rfl, reg (by rw [htd]; omega), reg (by omega), trivial⟩)
 (refine wp_exit ?_; conv => whnf)
 clear hZ Z
 revert a; revert Z; refine go 7 ?_; intro a S
 refine wp_ret (fr2 S Tryz.results76 ?_)
 (have e0 : m = 0 := (by omega); subst e0; refine congrArg (fun z => qqn (z, 0)) ?_; rw [Nat.pow_zero, Nat.div_one]; omega)
theorem u2r (s : List UInt8) (F : q01) (hs : s.length ≤ 1000000) (hck : q0p s = 0) (x : Int) (hx : q1w s = x) (hsg : x < 0) (hN : 9223372036854775808 < x.natAbs) : Ct Tryz.prog 76 [.string (bs s)] F [] (fun _ _ u => u = qqn (0, 80)) := by
 have hn := q1r hck
 have hlo := q1r q4w.1
 have hhi := q1r q3f.1
 have hof := q8t s F hck
 have hlv : (q1w qdr).natAbs = 9223372036854775808 := by rw [q4w.2]; rfl
 have hhv : (q1w q51).natAbs = 9223372036854775807 := by rw [q3f.2]; rfl
 have hdb : decide (x < 0) = true := by simpa using hsg
 rw [hx] at hof hn
 clear hx
 refine Ct.enter Tryz.func76 rfl Tryz.ntmps76 rfl fun w0 a S => ?_
 revert a; refine go 7 ?_; intro Z hZ a S
 (refine wc0 S (q5h s F (by omega)) ?_; clear S a; intro v a w hv S; subst hv)
 revert a; revert Z; refine go 9 ?_; intro Z hZ a S
 refine q0l S rfl (fun h => ?_) (fun h => ?_)
 ·(skip; (try simp only [tq] at h); exact absurd hck h)
 (try simp only [tq] at h)
 revert a; revert Z; refine go 4 ?_; intro Z hZ a S
 (refine wcF S (hof) ?_; clear S a; intro v1 F1 a w hv1 hF1 S; have hv10 := hv1; obtain ⟨p1, rfl, hp1⟩ := hv10; rw [hdb] at S; have hp10 := hp1; obtain ⟨xo, xc, rfl, hxc, hxp⟩ := hp10)
 (refine q0a S rfl rfl rfl rfl ?_; clear S a; intro b5 a w S)
 (refine wso S rfl rfl ?_; clear S; intro w S)
 revert a; revert Z; refine go 3 ?_; intro Z hZ a S
 (refine wcF S (q8t qdr F1 q4w.1) ?_; clear S a; intro v2 F2 a w hv2 hF2 S; have hv20 := hv2; obtain ⟨p2, rfl, hp2⟩ := hv20; have hp20 := hp2; obtain ⟨lo, lc, rfl, -, -⟩ := hp20; generalize hlb : decide (q1w qdr < 0) = lb at *)
 (refine q0a S rfl rfl rfl rfl ?_; clear S a; intro b6 a w S)
 (refine wso S rfl rfl ?_; clear S; intro w S)
 revert a; revert Z; refine go 3 ?_; intro Z hZ a S
 (refine wcF S (q8t q51 F2 q3f.1) ?_; clear S a; intro v3 F3 a w hv3 hF3 S; have hv30 := hv3; obtain ⟨p3, rfl, hp3⟩ := hv30; have hp30 := hp3; obtain ⟨ho, hc, rfl, -, -⟩ := hp30; generalize hhb : decide (q1w q51 < 0) = hb at *; have hF13 : ∀ b o, F1 b = some o → F3 b = some o := fun b o h => hF3 _ _ (hF2 _ _ h))
 (refine q0a S rfl rfl rfl rfl ?_; clear S a; intro b7 a w S)
 (refine wso S rfl rfl ?_; clear S; intro w S)
 revert a; revert Z; refine go 6 ?_; intro Z hZ Z hZ a S
 skip
 revert a; refine go 6 ?_; intro a S
 (refine wc0 S (qi6 _ _ x.natAbs (q1w qdr).natAbs _ _ _ _ F3 (q33 t2 _) (q33 t2 _) (by omega) (by omega) (hp1.mono hF13) (hp2.mono hF3)) ?_; clear S a; intro v a w hv S; subst hv)
 refine q1j S rfl rfl rfl ?_
 (refine wv S (q0j (c := true) (q09 S rfl) (by exact decide_eq_true (q97.2 (by rw [hlv]; omega)))) ?_; clear S a; intro a S)
 revert a; revert Z; refine go 14 ?_; intro a S
 refine q0h S rfl ?_
 revert a; refine go 5 ?_; intro a S
 refine wp_ret (fr2 S Tryz.results76 ?_)
 rfl
theorem u2h (s : List UInt8) (F : q01) (hs : s.length ≤ 1000000) (hck : q0p s = 0) (x : Int) (hx : q1w s = x) (hsg : ¬ x < 0) (hN : x.natAbs ≤ 9223372036854775807) : Ct Tryz.prog 76 [.string (bs s)] F [] (fun _ _ u => u = qqn (x, 0)) := by
 have hn := q1r hck
 have hlo := q1r q4w.1
 have hhi := q1r q3f.1
 have hof := q8t s F hck
 have hlv : (q1w qdr).natAbs = 9223372036854775808 := by rw [q4w.2]; rfl
 have hhv : (q1w q51).natAbs = 9223372036854775807 := by rw [q3f.2]; rfl
 have hdb : decide (x < 0) = false := by simpa using hsg
 rw [hx] at hof hn
 clear hx
 refine Ct.enter Tryz.func76 rfl Tryz.ntmps76 rfl fun w0 a S => ?_
 revert a; refine go 7 ?_; intro Z hZ a S
 (refine wc0 S (q5h s F (by omega)) ?_; clear S a; intro v a w hv S; subst hv)
 revert a; revert Z; refine go 9 ?_; intro Z hZ a S
 refine q0l S rfl (fun h => ?_) (fun h => ?_)
 ·(skip; (try simp only [tq] at h); exact absurd hck h)
 (try simp only [tq] at h)
 revert a; revert Z; refine go 4 ?_; intro Z hZ a S
 (refine wcF S (hof) ?_; clear S a; intro v1 F1 a w hv1 hF1 S; have hv10 := hv1; obtain ⟨p1, rfl, hp1⟩ := hv10; rw [hdb] at S; have hp10 := hp1; obtain ⟨xo, xc, rfl, hxc, hxp⟩ := hp10)
 (refine q0a S rfl rfl rfl rfl ?_; clear S a; intro b5 a w S)
 (refine wso S rfl rfl ?_; clear S; intro w S)
 revert a; revert Z; refine go 3 ?_; intro Z hZ a S
 (refine wcF S (q8t qdr F1 q4w.1) ?_; clear S a; intro v2 F2 a w hv2 hF2 S; have hv20 := hv2; obtain ⟨p2, rfl, hp2⟩ := hv20; have hp20 := hp2; obtain ⟨lo, lc, rfl, -, -⟩ := hp20; generalize hlb : decide (q1w qdr < 0) = lb at *)
 (refine q0a S rfl rfl rfl rfl ?_; clear S a; intro b6 a w S)
 (refine wso S rfl rfl ?_; clear S; intro w S)
 revert a; revert Z; refine go 3 ?_; intro Z hZ a S
 (refine wcF S (q8t q51 F2 q3f.1) ?_; clear S a; intro v3 F3 a w hv3 hF3 S; have hv30 := hv3; obtain ⟨p3, rfl, hp3⟩ := hv30; have hp30 := hp3; obtain ⟨ho, hc, rfl, -, -⟩ := hp30; generalize hhb : decide (q1w q51 < 0) = hb at *; have hF13 : ∀ b o, F1 b = some o → F3 b = some o := fun b o h => hF3 _ _ (hF2 _ _ h))
 (refine q0a S rfl rfl rfl rfl ?_; clear S a; intro b7 a w S)
 (refine wso S rfl rfl ?_; clear S; intro w S)
 revert a; revert Z; refine go 6 ?_; intro Z hZ Z hZ a S
 skip
 revert a; refine go 11 ?_; intro a S
 skip
 revert a; refine go 9 ?_; intro a S
 (refine wc0 S (qi6 _ _ x.natAbs (q1w q51).natAbs _ _ _ _ F3 (q33 t2 _) (q33 t2 _) (by omega) (by omega) (hp1.mono hF13) hp3) ?_; clear S a; intro v a w hv S; subst hv)
 refine q1j S rfl rfl rfl ?_
 (refine wv S (q0j (c := false) (q09 S rfl) (by exact decide_eq_false (fun h9 => by have := q97.1 h9; rw [hhv] at this; omega))) ?_; clear S a; intro a S)
 revert a; revert Z; refine go 5 ?_; intro a S
 refine q03 S rfl ?_
 revert a; revert Z; refine go 16 ?_; intro Z hZ a S
 refine q04 (fun m a w' => ∃ (e : Nat), m = e ∧ e ≤ nd 10 x.natAbs ∧ St 65 [(5, .pointer (some ⟨b5, 0, none⟩)), (8, .int .i64 (((x.natAbs / 10 ^ e : Nat) : Int))), (9, .int .i64 ((e : Int) - 1))] w0 F [] F3 [[(b7, .cells ⟨[.bool hb, .slice ho (nd 10 (q1w q51).natAbs) hc]⟩ 162 (0, 0))], [(b6, .cells ⟨[.bool lb, .slice lo (nd 10 (q1w qdr).natAbs) lc]⟩ 162 (0, 0))], [(b5, .cells ⟨[.bool false, .slice xo (nd 10 x.natAbs) xc]⟩ 162 (0, 0))]] a w') ?_ ?_
 ·(refine ⟨_, nd 10 x.natAbs, rfl, Nat.le_refl _, ?_⟩; rw [Nat.div_eq_of_lt (q33 t2 _)]; refine S.keep ⟨rfl, rfl, rfl, trivial⟩)
 (clear S; rintro m a w ⟨e, rfl, he, S⟩)
 revert a; refine go 6 ?_; intro Z hZ a S
 refine q00 S rfl ?_ ?_ <;> intro h
 ·revert a; revert Z; refine go 4 ?_; intro Z hZ a S
  (refine wp_seq_k ?_; intro Z hZ)
  (obtain ⟨k, rfl⟩ : ∃ k, m = k + 1 := ⟨m - 1, by omega⟩; have htd := qpl (N := x.natAbs) (e := k); have hdl := q2z t2 x.natAbs k; have hle := q8e x.natAbs k; generalize x.natAbs / 10 ^ (k + 1) = q at *; obtain ⟨bx, ox, rfl, hcx⟩ := hxp (by omega); have hce := (qp8 hcx (j := k) (by omega)).mono hF13; replace S := S.keep (L' := [(5, .pointer (some ⟨b5, 0, none⟩)), (8, .int .i64 ((q : Int))), (9, .int .i64 (k : Int))]) ⟨rfl, rfl, reg (by omega), trivial⟩)
  revert a; refine go 3 ?_; intro a S
  skip
  revert a; revert Z; refine go 2 ?_; intro a S
  refine q03 S rfl ?_
  revert a; refine go 2 ?_; intro a S
  (refine wv S (q8r S rfl rfl rfl (by first | omega | (simp only [qaA, qaC, qaD]; omega))) ?_; clear S a; intro a S)
  revert a; revert Z; refine go 14 ?_; intro a S
  change ∃ m', _ ∧ _
  (refine ⟨k, by omega, k, rfl, by omega, ?_⟩; refine S.keep ⟨rfl, reg (by rw [htd]; omega), reg (by omega), trivial⟩)
 (refine wp_exit ?_; conv => whnf)
 clear hZ Z
 revert a; revert Z; refine go 7 ?_; intro a S
 refine wp_ret (fr2 S Tryz.results76 ?_)
 (have e0 : m = 0 := (by omega); subst e0; refine congrArg (fun z => qqn (z, 0)) ?_; rw [Nat.pow_zero, Nat.div_one]; exact Int.natAbs_of_nonneg (by omega))
theorem u13 (s : List UInt8) (F : q01) (hs : s.length ≤ 1000000) (hck : q0p s = 0) (x : Int) (hx : q1w s = x) (hsg : ¬ x < 0) (hN : 9223372036854775807 < x.natAbs) : Ct Tryz.prog 76 [.string (bs s)] F [] (fun _ _ u => u = qqn (0, 80)) := by
 have hn := q1r hck
 have hlo := q1r q4w.1
 have hhi := q1r q3f.1
 have hof := q8t s F hck
 have hlv : (q1w qdr).natAbs = 9223372036854775808 := by rw [q4w.2]; rfl
 have hhv : (q1w q51).natAbs = 9223372036854775807 := by rw [q3f.2]; rfl
 have hdb : decide (x < 0) = false := by simpa using hsg
 rw [hx] at hof hn
 clear hx
 refine Ct.enter Tryz.func76 rfl Tryz.ntmps76 rfl fun w0 a S => ?_
 revert a; refine go 7 ?_; intro Z hZ a S
 (refine wc0 S (q5h s F (by omega)) ?_; clear S a; intro v a w hv S; subst hv)
 revert a; revert Z; refine go 9 ?_; intro Z hZ a S
 refine q0l S rfl (fun h => ?_) (fun h => ?_)
 ·(skip; (try simp only [tq] at h); exact absurd hck h)
 (try simp only [tq] at h)
 revert a; revert Z; refine go 4 ?_; intro Z hZ a S
 (refine wcF S (hof) ?_; clear S a; intro v1 F1 a w hv1 hF1 S; have hv10 := hv1; obtain ⟨p1, rfl, hp1⟩ := hv10; rw [hdb] at S; have hp10 := hp1; obtain ⟨xo, xc, rfl, hxc, hxp⟩ := hp10)
 (refine q0a S rfl rfl rfl rfl ?_; clear S a; intro b5 a w S)
 (refine wso S rfl rfl ?_; clear S; intro w S)
 revert a; revert Z; refine go 3 ?_; intro Z hZ a S
 (refine wcF S (q8t qdr F1 q4w.1) ?_; clear S a; intro v2 F2 a w hv2 hF2 S; have hv20 := hv2; obtain ⟨p2, rfl, hp2⟩ := hv20; have hp20 := hp2; obtain ⟨lo, lc, rfl, -, -⟩ := hp20; generalize hlb : decide (q1w qdr < 0) = lb at *)
 (refine q0a S rfl rfl rfl rfl ?_; clear S a; intro b6 a w S)
 (refine wso S rfl rfl ?_; clear S; intro w S)
 revert a; revert Z; refine go 3 ?_; intro Z hZ a S
 (refine wcF S (q8t q51 F2 q3f.1) ?_; clear S a; intro v3 F3 a w hv3 hF3 S; have hv30 := hv3; obtain ⟨p3, rfl, hp3⟩ := hv30; have hp30 := hp3; obtain ⟨ho, hc, rfl, -, -⟩ := hp30; generalize hhb : decide (q1w q51 < 0) = hb at *; have hF13 : ∀ b o, F1 b = some o → F3 b = some o := fun b o h => hF3 _ _ (hF2 _ _ h))
 (refine q0a S rfl rfl rfl rfl ?_; clear S a; intro b7 a w S)
 (refine wso S rfl rfl ?_; clear S; intro w S)
 revert a; revert Z; refine go 6 ?_; intro Z hZ Z hZ a S
 skip
 revert a; refine go 11 ?_; intro a S
 skip
 revert a; refine go 9 ?_; intro a S
 (refine wc0 S (qi6 _ _ x.natAbs (q1w q51).natAbs _ _ _ _ F3 (q33 t2 _) (q33 t2 _) (by omega) (by omega) (hp1.mono hF13) hp3) ?_; clear S a; intro v a w hv S; subst hv)
 refine q1j S rfl rfl rfl ?_
 (refine wv S (q0j (c := true) (q09 S rfl) (by exact decide_eq_true (q97.2 (by rw [hhv]; omega)))) ?_; clear S a; intro a S)
 revert a; revert Z; refine go 5 ?_; intro a S
 refine q0h S rfl ?_
 revert a; refine go 5 ?_; intro a S
 refine wp_ret (fr2 S Tryz.results76 ?_)
 rfl
theorem qxa (s : List UInt8) (F : q01) (hs : s.length ≤ 1000000) (hck : ¬ q0p s = 0) : Ct Tryz.prog 76 [.string (bs s)] F [] (fun _ _ u => u = qqn (0, q0p s)) := by
 refine Ct.enter Tryz.func76 rfl Tryz.ntmps76 rfl fun w0 a S => ?_
 revert a; refine go 7 ?_; intro Z hZ a S
 (refine wc0 S (q5h s F (by omega)) ?_; clear S a; intro v a w hv S; subst hv)
 revert a; revert Z; refine go 9 ?_; intro Z hZ a S
 refine q0l S rfl (fun h => ?_) (fun h => ?_)
 ·(try simp only [tq] at h)
  revert a; refine go 6 ?_; intro a S
  refine wp_ret (fr2 S Tryz.results76 ?_)
  rfl
 (skip; (try simp only [tq] at h); exact absurd h hck)
theorem u2a (s : List UInt8) (F : q01) (hs : s.length ≤ 1000000) : Ct Tryz.prog 76 [.string (bs s)] F [] (fun _ _ u => u = qqn (qgu s)) := by
 unfold qgu
 by_cases hck : q0p s = 0
 ·rw [if_pos hck]
  by_cases hsg : q1w s < 0
  ·by_cases hf : q41 (q1w s) = true
   ·rw [if_pos hf]; exact u1g s F hs hck _ rfl hsg ((qi8 hsg).1 hf)
   ·rw [if_neg hf]; exact u2r s F hs hck _ rfl hsg (Nat.lt_of_not_le fun h => hf ((qi8 hsg).2 h))
  ·by_cases hf : q41 (q1w s) = true
   ·rw [if_pos hf]; exact u2h s F hs hck _ rfl hsg ((qho hsg).1 hf)
   ·rw [if_neg hf]; exact u13 s F hs hck _ rfl hsg (Nat.lt_of_not_le fun h => hf ((qho hsg).2 h))
 ·rw [if_neg hck]; exact qxa s F hs hck
