/- Walks. -/
import Derived.Test.YtbhipiepfclneaaGreatDoorKGroupPlays09
set_option maxHeartbeats 8000000
namespace Go.Proofs.YtbhipiepfclneaaGreatDoor
open Go Go.Wk Go.Un Go.De Go.Num
set_option linter.unusedSimpArgs false
set_option linter.unusedVariables false
attribute [local irreducible] Go.wpList Go.Code.wp Go.wpStill Go.Wk.q26 Go.bodyPost Go.Calls Go.Wk.Ct Go.Wk.q0u Go.Wk.wpG Go.Wk.wpM
theorem qxy (s t : List UInt8) : (!Op.bytesLess s t && !(s == t)) = Op.bytesLess t s := by
 by_cases h : Op.bytesLess s t = true
 ·have h2 : Op.bytesLess t s = false := by
   cases h3 : Op.bytesLess t s with
   | false => rfl
   | true => have := q5o h h3; rw [q9d] at this; cases this
  rw [h, h2]; rfl
 ·have h1 : Op.bytesLess s t = false := by simpa using h
  rw [h1]
  by_cases h2 : s = t
  ·subst h2; rw [q9d]; simp
  ·cases h3 : Op.bytesLess t s with
   | true => simp [h2]
   | false => exact absurd (qch s t h1 h3) h2
theorem qvc {s : List UInt8} (h : 0 < s.length) (h2 : (s.getD 0 0).toNat = 45) : q0m s = s.drop 1 := by
 unfold q0m
 cases s with
 | nil => cases h
 | cons c r =>
  have : c = 45 := UInt8.toNat_inj.1 (by simpa using h2)
  rw [if_pos (by rw [this]; rfl)]
theorem qf8 {s : List UInt8} (h2 : ¬ (s.getD 0 0).toNat = 45) : q0m s = s := by
 unfold q0m
 cases s with
 | nil => rfl
 | cons c r =>
  rw [if_neg]
  intro e
  simp only [List.head?_cons, Option.some.injEq] at e
  exact h2 (by rw [e]; rfl)
theorem u4p {s : List UInt8} (h : 0 < s.length) (h2 : (s.getD 0 0).toNat = 45) : q34 s = true := by
 unfold q34
 cases s with
 | nil => cases h
 | cons c r =>
  have : c = 45 := UInt8.toNat_inj.1 (by simpa using h2)
  rw [this]; rfl
theorem u56 {s : List UInt8} (h2 : ¬ (s.getD 0 0).toNat = 45) : ¬ q34 s = true := by
 unfold q34
 cases s with
 | nil => decide
 | cons c r =>
  intro e
  simp only [List.head?_cons, Option.some.injEq, decide_eq_true_eq] at e
  exact h2 (by rw [e]; rfl)
theorem qwd {e : TypeId} {b : Nat} {n : Nat} {c : UInt8} (h : c.toNat = 48 + n) : q0u e 1 (.slice (some ⟨b, 0, none⟩) 1 1) 1 ([c].map fun b => Value.int .u8 b.toNat) [(b, .cells ⟨[.int .u8 (48 + (n : Int))]⟩ e (0, 0))] := by
 have := q96 (e := e) (sz := 1) (q := 1) (b := b) (cap := 1) (xs := [Value.int .u8 (48 + (n : Int))]) (ex := []) rfl (Nat.le_refl _) (by decide) rfl
 rw [show ([c].map fun b => Value.int .u8 b.toNat) = [Value.int .u8 (48 + (n : Int))] from (by simp [h])]
 exact this
theorem u47 (c : UInt8) : -9223372036854775808 ≤ (c.toNat : Int) ∧ (c.toNat : Int) ≤ 9223372036854775807 := by have := c.toNat_lt; omega
theorem q1c (F : q01) (s : List UInt8) (i : Nat) (hs : s.length ≤ 1000000) (hd : s.all isD = true) : Ct Tryz.prog 149 [.string (bs s), .int .i64 (i : Int)] F [] (fun _ _ u => u = .int .i64 ((dig 10 (q14 s) i : Nat) : Int)) := by
 refine Ct.enter Tryz.func149 rfl Tryz.ntmps149 rfl fun w0 a S => ?_
 revert a; refine go 12 ?_; intro Z hZ a S
 refine q00 S rfl ?_ ?_ <;> intro h
 ·revert a; refine go 4 ?_; intro a S
  refine wp_ret (fr1 S Tryz.results149 ?_)
  (congr 1; first | (rw [qn4 hd (by omega)]; rfl) | (rw [hdg, ← hdv]; done))
 refine wp_skip ?_
 (refine hZ _ _ ?_; clear hZ Z)
 (refine wp_seq_k ?_; intro Z hZ)
 (have hdg := qlj hd (j := i) (by omega); have hdv := qcn (q4v hd (k := s.length - 1 - i) (by omega)); have hu9 := (s.getD (s.length - 1 - i) 0).toNat_lt)
 revert a; refine go 4 ?_; intro a S
 (refine wv S (q1a S rfl rfl rfl (by first | omega | exact u47 _)) ?_; clear S a; intro a S)
 revert a; refine go 1 ?_; intro a S
 (refine wv S (q1a S rfl rfl rfl (by first | omega | exact u47 _)) ?_; clear S a; intro a S)
 (refine wv S (by rw [show ((s.length : Int) - 1 - (i : Int)) = ((s.length - 1 - i : Nat) : Int) by omega] at S; exact q07 (i := s.length - 1 - i) S rfl rfl rfl (by omega)) ?_; clear S a; intro a S)
 (refine wv S (q1l S rfl rfl (by first | omega | exact u47 _)) ?_; clear S a; intro a S)
 (refine wv S (q1a S rfl rfl rfl (by first | omega | exact u47 _)) ?_; clear S a; intro a S)
 revert a; revert Z; refine go 3 ?_; intro a S
 refine wp_ret (fr1 S Tryz.results149 ?_)
 (congr 1; first | (rw [qn4 hd (by omega)]; rfl) | (rw [hdg, ← hdv]; done))
def u8v (l : List UInt8) : List Value := l.map fun b => Value.int .u8 (b.toNat : Int)
theorem qqg (l m : List UInt8) : u8v (l ++ m) = u8v l ++ u8v m := List.map_append
theorem u0s {p : Prop} (h : p := by (refine ⟨j, by omega, j, v, g, rfl, by omega, ?_, ?_⟩; rotate_left 1; (refine S.keep ⟨rfl, rfl, reg (by omega), trivial⟩); rw [show n + 1 - j = (n + 1 - (j + 1)) + 1 by omega, List.take_add_one, hrv, qqg]; exact hown)) : p := h
theorem qnr (F : q01) (S0 k : Nat) (v : Value) (hk : 0 < k) (hkl : k ≤ 1000000) (hS : S0 < 10 ^ k) (hv : SlC F v k (u8v (rdg S0 k))) : Ct Tryz.prog 150 [v] F [] (fun _ _ u => u = .string (bs (Lib.decDigits S0))) := by
 obtain ⟨ao, cap, rfl, hcap, hcel⟩ := hv
 obtain ⟨bq, oq, rfl, hcl⟩ := hcel hk
 clear hcel
 refine Ct.enter Tryz.func150 rfl Tryz.ntmps150 rfl fun w0 a S => ?_
 revert a; refine go 12 ?_; intro Z hZ a S
 refine q04 (fun m a w' => ∃ (n : Nat), n = m ∧ n < k ∧ S0 < 10 ^ (n + 1) ∧ St 35 [(0, .slice (some ⟨bq, oq, none⟩) k cap), (3, .int .i64 ((n + 1 : Nat) : Int))] w0 F [] F [] a w') ?_ ?_
 ·(refine ⟨k - 1, k - 1, rfl, by omega, by rw [show k - 1 + 1 = k by omega]; exact hS, ?_⟩; rw [show k - 1 + 1 = k by omega]; (refine S.keep ?_; exact zk))
 (clear S; rintro m a w ⟨n, rfl, hn, hS2, S⟩; have hcq : Cel F bq (oq + n * 1) (.int .u8 ((48 + dig 10 S0 n : Nat) : Int)) := (by have h9 := hcl n (.int .u8 ((48 + dig 10 S0 n : Nat) : Int)) (by unfold u8v; rw [List.getElem?_map, qfg hn]; show some (Value.int .u8 ((UInt8.ofNat (48 + dig 10 S0 n)).toNat : Int)) = _; rw [qel]); simpa using h9))
 revert a; refine go 5 ?_; intro Z hZ Z hZ a S
 refine wgd S ?_ ?_
 ·(clear S; intro h S)
  revert a; refine go 5 ?_; intro a S
  (rw [show (((n + 1 : Nat) : Int) - 1) = ((n : Nat) : Int) by omega] at S)
  revert a; refine go 3 ?_; intro a S
  (refine wv S (q05 S rfl rfl hcq) ?_; clear S a; intro a S)
  revert a; revert Z; refine go 5 ?_; intro a S
  refine q00 S rfl ?_ ?_ <;> intro h
  ·revert a; revert Z; refine go 8 ?_; intro a S
   change ∃ m', _ ∧ _
   (obtain ⟨n, rfl⟩ : ∃ j, n = j + 1 := ⟨n - 1, by omega⟩; refine ⟨n, by omega, n, rfl, by omega, qq7 hS2 (by omega), ?_⟩; refine S.keep ⟨rfl, reg (by omega), trivial⟩)
  (refine wp_exit ?_; conv => whnf)
  clear hZ Z
  revert a; revert Z; refine go 13 ?_; intro Z hZ a S
  refine q04 (fun m a w' => ∃ (j : Nat) (v : Value) (g : Grp), j = m ∧ j ≤ n + 1 ∧ q0u 5 1 v (n + 1 - j) (u8v ((rdg S0 (n + 1)).reverse.take (n + 1 - j))) g ∧ St 35 [(0, .slice (some ⟨bq, oq, none⟩) k cap), (4, v), (5, .int .i64 ((j : Int) - 1))] w0 F [] F [g] a w') ?_ ?_
  ·(refine ⟨n + 1, n + 1, _, [], rfl, Nat.le_refl _, (by rw [Nat.sub_self]; exact q0u.nil _ _), ?_⟩; replace S := S.nilg; refine S.keep ⟨rfl, rfl, reg (by omega), trivial⟩)
  (clear S; rintro m a w ⟨j, v, g, rfl, hj, hown, S⟩)
  revert a; refine go 6 ?_; intro Z hZ a S
  refine q00 S rfl ?_ ?_ <;> intro h
  ·revert a; revert Z; refine go 4 ?_; intro Z hZ a S
   (obtain ⟨j, rfl⟩ : ∃ q, j = q + 1 := ⟨j - 1, by omega⟩; have hrv : (rdg S0 (n + 1)).reverse[n + 1 - (j + 1)]? = some (UInt8.ofNat (48 + dig 10 S0 j)) := (by rw [List.getElem?_reverse (by rw [q87]; omega), q87, show n + 1 - 1 - (n + 1 - (j + 1)) = j by omega, qfg (by omega)]); have hcj : Cel F bq (oq + j * 1) (.int .u8 ((UInt8.ofNat (48 + dig 10 S0 j)).toNat : Int)) := (by have h9 := hcl j _ (by unfold u8v; rw [List.getElem?_map, qfg (show j < k by omega)]; rfl); simpa using h9); rw [show (((j + 1 : Nat) : Int) - 1) = (j : Int) by omega] at S)
   revert a; refine go 5 ?_; intro a S
   (refine wv S (q05 S rfl rfl hcj) ?_; clear S a; intro a S)
   (refine q0s S rfl rfl rfl rfl rfl rfl rfl rfl rfl rfl rfl (fun _ => rfl) hown (by rfl) (by simp [Value.cells, splice, splice]) (by simp [Value.cells, Value.oneCell', splice, splice]) rfl (by rfl) (by rfl) rfl (by omega) (by omega) ?_; clear hown S a; intro v u g a w hown S)
   revert a; revert Z; refine go 8 ?_; intro a S
   change ∃ m', _ ∧ _
   exact u0s
  (refine wp_exit ?_; conv => whnf)
  clear hZ Z
  (refine hZ _ _ ?_; clear hZ Z)
  (refine wp_seq_k ?_; intro Z hZ)
  (obtain rfl : j = 0 := (by omega); rw [Nat.sub_zero, List.take_of_length_le (by rw [List.length_reverse, q87]; omega), qh6 n S0 hS2 (by rcases Nat.eq_zero_or_pos n with h9 | h9; exact .inl h9; exact .inr (by omega))] at hown)
  revert a; refine go 2 ?_; intro a S
  (refine wv S (qce S rfl rfl hown) ?_; clear S a; intro a S)
  revert a; revert Z; refine go 3 ?_; intro a S
  refine wp_ret (fr1 S Tryz.results150 ?_)
  rfl
 (clear S a; intro h a S)
 revert a; revert Z; refine go 8 ?_; intro a S
 refine q03 S rfl ?_
 (refine wp_exit ?_; conv => whnf)
 clear hZ Z
 revert a; revert Z; refine go 13 ?_; intro Z hZ a S
 refine q04 (fun m a w' => ∃ (j : Nat) (v : Value) (g : Grp), j = m ∧ j ≤ n + 1 ∧ q0u 5 1 v (n + 1 - j) (u8v ((rdg S0 (n + 1)).reverse.take (n + 1 - j))) g ∧ St 35 [(0, .slice (some ⟨bq, oq, none⟩) k cap), (4, v), (5, .int .i64 ((j : Int) - 1))] w0 F [] F [g] a w') ?_ ?_
 ·(refine ⟨n + 1, n + 1, _, [], rfl, Nat.le_refl _, (by rw [Nat.sub_self]; exact q0u.nil _ _), ?_⟩; replace S := S.nilg; refine S.keep ⟨rfl, rfl, reg (by omega), trivial⟩)
 (clear S; rintro m a w ⟨j, v, g, rfl, hj, hown, S⟩)
 revert a; refine go 6 ?_; intro Z hZ a S
 refine q00 S rfl ?_ ?_ <;> intro h
 ·revert a; revert Z; refine go 4 ?_; intro Z hZ a S
  (obtain ⟨j, rfl⟩ : ∃ q, j = q + 1 := ⟨j - 1, by omega⟩; have hrv : (rdg S0 (n + 1)).reverse[n + 1 - (j + 1)]? = some (UInt8.ofNat (48 + dig 10 S0 j)) := (by rw [List.getElem?_reverse (by rw [q87]; omega), q87, show n + 1 - 1 - (n + 1 - (j + 1)) = j by omega, qfg (by omega)]); have hcj : Cel F bq (oq + j * 1) (.int .u8 ((UInt8.ofNat (48 + dig 10 S0 j)).toNat : Int)) := (by have h9 := hcl j _ (by unfold u8v; rw [List.getElem?_map, qfg (show j < k by omega)]; rfl); simpa using h9); rw [show (((j + 1 : Nat) : Int) - 1) = (j : Int) by omega] at S)
  revert a; refine go 5 ?_; intro a S
  (refine wv S (q05 S rfl rfl hcj) ?_; clear S a; intro a S)
  (refine q0s S rfl rfl rfl rfl rfl rfl rfl rfl rfl rfl rfl (fun _ => rfl) hown (by rfl) (by simp [Value.cells, splice, splice]) (by simp [Value.cells, Value.oneCell', splice, splice]) rfl (by rfl) (by rfl) rfl (by omega) (by omega) ?_; clear hown S a; intro v u g a w hown S)
  revert a; revert Z; refine go 8 ?_; intro a S
  change ∃ m', _ ∧ _
  exact u0s
 (refine wp_exit ?_; conv => whnf)
 clear hZ Z
 (refine hZ _ _ ?_; clear hZ Z)
 (refine wp_seq_k ?_; intro Z hZ)
 (obtain rfl : j = 0 := (by omega); rw [Nat.sub_zero, List.take_of_length_le (by rw [List.length_reverse, q87]; omega), qh6 n S0 hS2 (by rcases Nat.eq_zero_or_pos n with h9 | h9; exact .inl h9; exact .inr (by omega))] at hown)
 revert a; refine go 2 ?_; intro a S
 (refine wv S (qce S rfl rfl hown) ?_; clear S a; intro a S)
 revert a; revert Z; refine go 3 ?_; intro a S
 refine wp_ret (fr1 S Tryz.results150 ?_)
 rfl
theorem u0b (S k : Nat) : u8v (rdg S (k + 1)) = u8v (rdg S k) ++ [.int .u8 ((48 + dig 10 S k : Nat) : Int)] := by
 rw [qtw, qqg]
 congr 1
 show [Value.int .u8 ((UInt8.ofNat (48 + dig 10 S k)).toNat : Int)] = _
 rw [qel]
theorem qmk {e : TypeId} {v : Value} {S i : Nat} {x : Int} {g : Grp} (hown : q0u e 1 v (i + 1) (u8v (rdg S i) ++ [.int .u8 x]) g) (h : x = 48 + ((dig 10 S i : Nat) : Int)) : q0u e 1 v (i + 1) (u8v (rdg S (i + 1))) g := by
 subst h
 rw [u0b]
 rw [show ((48 + dig 10 S i : Nat) : Int) = 48 + ((dig 10 S i : Nat) : Int) by omega]
 exact hown
theorem qxk {p : Prop} (h : p := by (have hiM : i < M + 1 := (by rcases Nat.lt_or_ge i (M + 1) with h9 | h9; exact h9; exfalso; obtain rfl : i = M + 1 := (by omega); omega); refine ⟨M + 1 - (i + 1), by omega, i + 1, v, g, rfl, by omega, ?_, ?_⟩; rotate_left 1; (refine S.keep ⟨rfl, rfl, rfl, reg (by rw [hcs]; omega), reg (by omega), trivial⟩); refine qmk hown ?_; rw [← hds]; omega)) : p := h
theorem qd1 (F : q01) (s t : List UInt8) (hs : s.length ≤ 900000) (ht : t.length ≤ 900000) (h0 : 0 < s.length) (d1 : s.all isD = true) (d2 : t.all isD = true) : Ct Tryz.prog 113 [.string (bs s), .string (bs t)] F [] (fun _ _ u => u = .string (bs (Lib.decDigits (q14 s + q14 t)))) := by
 have hA := q2o s d1
 have hB := q2o t d2
 generalize hM : max s.length t.length = M
 have hA2 : q14 s < 10 ^ M := Nat.lt_of_lt_of_le hA (qfk (by omega))
 have hB2 : q14 t < 10 ^ M := Nat.lt_of_lt_of_le hB (qfk (by omega))
 have hc9 := u30 hA2 hB2
 refine Ct.enter Tryz.func113 rfl Tryz.ntmps113 rfl fun w0 a S => ?_
 revert a; refine go 18 ?_; intro Z hZ a S
 refine q04 (fun m a w' => ∃ (i : Nat) (v : Value) (g : Grp), m = M + 1 - i ∧ i ≤ M + 1 ∧ q0u 5 1 v i (u8v (rdg (q14 s + q14 t) i)) g ∧ St 45 [(0, .string (bs s)), (1, .string (bs t)), (5, v), (6, .int .i64 ((cy 10 (q14 s) (q14 t) i : Nat) : Int)), (7, .int .i64 (i : Int))] w0 F [] F [g] a w') ?_ ?_
 ·(refine ⟨M + 1, 0, _, [], rfl, Nat.zero_le _, q0u.nil _ _, ?_⟩; rw [qqa]; replace S := S.nilg; refine S.keep ?_; exact zk)
 (clear S; rintro m a w ⟨i, v, g, rfl, hi, hown, S⟩; have hcy := u2l p10 (A := q14 s) (B := q14 t) (k := i); have hdA := q2z p10 (q14 s) i; have hdC := q2z p10 (q14 t) i; have hds := qm1 p10 (A := q14 s) (B := q14 t) (k := i); have hcs := qng p10 (A := q14 s) (B := q14 t) (k := i))
 revert a; refine go 7 ?_; intro Z hZ Z hZ a S
 refine wgd S ?_ ?_
 ·(clear S; intro h S)
  revert a; refine go 9 ?_; intro a S
  refine wgd S ?_ ?_
  ·(clear S; intro h S)
   revert a; revert Z; refine go 6 ?_; intro a S
   refine q00 S rfl ?_ ?_ <;> intro h
   ·revert a; revert Z; refine go 7 ?_; intro Z hZ Z hZ a S
    (first | (refine wc0 S (q1c F s i (by omega) d1) ?_; clear S a; intro v9 a w hv9 S; subst hv9; done) | (refine wc0 S (q1c F s i (by omega) d1) ?_; clear S a; intro v9 a w hv9 S; subst hv9) | (refine wc0 S (q1c F t i (by omega) d2) ?_; clear S a; intro v9 a w hv9 S; subst hv9))
    revert a; refine go 2 ?_; intro a S
    (first | (refine wc0 S (q1c F s i (by omega) d1) ?_; clear S a; intro v9 a w hv9 S; subst hv9; done) | (refine wc0 S (q1c F s i (by omega) d1) ?_; clear S a; intro v9 a w hv9 S; subst hv9) | (refine wc0 S (q1c F t i (by omega) d2) ?_; clear S a; intro v9 a w hv9 S; subst hv9))
    revert a; revert Z; refine go 9 ?_; intro Z hZ a S
    (refine wv S (q8j S rfl rfl rfl (by first | omega | (simp only [qaA, qaC, qaD]; omega))) ?_; clear S a; intro a S)
    revert a; refine go 1 ?_; intro a S
    first | (refine wv S (q3k S rfl rfl (by first | omega | (simp only [qaA, qaC, qaD]; omega))) ?_; clear S a; intro a S) | (refine wv S (q4s S rfl rfl) ?_; clear S a; intro a S)
    (refine q0s S rfl rfl rfl rfl rfl rfl rfl rfl rfl rfl rfl (fun _ => rfl) hown (by rfl) (by simp [Value.cells, splice, splice]) (by simp [Value.cells, Value.oneCell', splice, splice]) rfl (by rfl) (by rfl) rfl (by omega) (by omega) ?_; clear hown S a; intro v u g a w hown S)
    revert a; revert Z; refine go 5 ?_; intro a S
    (refine wv S (q5n S rfl rfl rfl (by first | omega | (simp only [qaA, qaC, qaD]; omega))) ?_; clear S a; intro a S)
    revert a; revert Z; refine go 8 ?_; intro a S
    change ∃ m', _ ∧ _
    exact qxk
   (refine wp_exit ?_; conv => whnf)
   clear hZ Z
   (refine hZ _ _ ?_; clear hZ Z)
   (refine wp_seq_k ?_; intro Z hZ)
   (obtain ⟨vo, vc, rfl, -⟩ := hown.at; replace S := St.freeze (G1 := []) S; (simp only [qaG] at S); have hsl := hown.slC F)
   revert a; refine go 2 ?_; intro a S
   (refine wc0 S (qnr _ (q14 s + q14 t) i _ (by omega) (by omega) (u1i (Nat.lt_of_lt_of_le hA (qfk (by omega))) (Nat.lt_of_lt_of_le hB (qfk (by omega))) (by omega)) hsl) ?_; clear S a; intro v9 a w hv9 S; subst hv9)
   revert a; revert Z; refine go 3 ?_; intro a S
   refine wp_ret (fr1 S Tryz.results113 ?_)
   rfl
  (clear S a; intro h a S)
  revert a; revert Z; refine go 4 ?_; intro a S
  refine q0h S rfl ?_
  revert a; revert Z; refine go 7 ?_; intro Z hZ Z hZ a S
  (first | (refine wc0 S (q1c F s i (by omega) d1) ?_; clear S a; intro v9 a w hv9 S; subst hv9; done) | (refine wc0 S (q1c F s i (by omega) d1) ?_; clear S a; intro v9 a w hv9 S; subst hv9) | (refine wc0 S (q1c F t i (by omega) d2) ?_; clear S a; intro v9 a w hv9 S; subst hv9))
  revert a; refine go 2 ?_; intro a S
  (first | (refine wc0 S (q1c F s i (by omega) d1) ?_; clear S a; intro v9 a w hv9 S; subst hv9; done) | (refine wc0 S (q1c F s i (by omega) d1) ?_; clear S a; intro v9 a w hv9 S; subst hv9) | (refine wc0 S (q1c F t i (by omega) d2) ?_; clear S a; intro v9 a w hv9 S; subst hv9))
  revert a; revert Z; refine go 9 ?_; intro Z hZ a S
  (refine wv S (q8j S rfl rfl rfl (by first | omega | (simp only [qaA, qaC, qaD]; omega))) ?_; clear S a; intro a S)
  revert a; refine go 1 ?_; intro a S
  first | (refine wv S (q3k S rfl rfl (by first | omega | (simp only [qaA, qaC, qaD]; omega))) ?_; clear S a; intro a S) | (refine wv S (q4s S rfl rfl) ?_; clear S a; intro a S)
  (refine q0s S rfl rfl rfl rfl rfl rfl rfl rfl rfl rfl rfl (fun _ => rfl) hown (by rfl) (by simp [Value.cells, splice, splice]) (by simp [Value.cells, Value.oneCell', splice, splice]) rfl (by rfl) (by rfl) rfl (by omega) (by omega) ?_; clear hown S a; intro v u g a w hown S)
  revert a; revert Z; refine go 5 ?_; intro a S
  (refine wv S (q5n S rfl rfl rfl (by first | omega | (simp only [qaA, qaC, qaD]; omega))) ?_; clear S a; intro a S)
  revert a; revert Z; refine go 8 ?_; intro a S
  change ∃ m', _ ∧ _
  exact qxk
 (clear S a; intro h a S)
 revert a; revert Z; refine go 10 ?_; intro a S
 refine q0h S rfl ?_
 revert a; revert Z; refine go 7 ?_; intro Z hZ Z hZ a S
 (first | (refine wc0 S (q1c F s i (by omega) d1) ?_; clear S a; intro v9 a w hv9 S; subst hv9; done) | (refine wc0 S (q1c F s i (by omega) d1) ?_; clear S a; intro v9 a w hv9 S; subst hv9) | (refine wc0 S (q1c F t i (by omega) d2) ?_; clear S a; intro v9 a w hv9 S; subst hv9))
 revert a; refine go 2 ?_; intro a S
 (first | (refine wc0 S (q1c F s i (by omega) d1) ?_; clear S a; intro v9 a w hv9 S; subst hv9; done) | (refine wc0 S (q1c F s i (by omega) d1) ?_; clear S a; intro v9 a w hv9 S; subst hv9) | (refine wc0 S (q1c F t i (by omega) d2) ?_; clear S a; intro v9 a w hv9 S; subst hv9))
 revert a; revert Z; refine go 9 ?_; intro Z hZ a S
 (refine wv S (q8j S rfl rfl rfl (by first | omega | (simp only [qaA, qaC, qaD]; omega))) ?_; clear S a; intro a S)
 revert a; refine go 1 ?_; intro a S
 first | (refine wv S (q3k S rfl rfl (by first | omega | (simp only [qaA, qaC, qaD]; omega))) ?_; clear S a; intro a S) | (refine wv S (q4s S rfl rfl) ?_; clear S a; intro a S)
 (refine q0s S rfl rfl rfl rfl rfl rfl rfl rfl rfl rfl rfl (fun _ => rfl) hown (by rfl) (by simp [Value.cells, splice, splice]) (by simp [Value.cells, Value.oneCell', splice, splice]) rfl (by rfl) (by rfl) rfl (by omega) (by omega) ?_; clear hown S a; intro v u g a w hown S)
 revert a; revert Z; refine go 5 ?_; intro a S
 (refine wv S (q5n S rfl rfl rfl (by first | omega | (simp only [qaA, qaC, qaD]; omega))) ?_; clear S a; intro a S)
 revert a; revert Z; refine go 8 ?_; intro a S
 change ∃ m', _ ∧ _
 exact qxk
theorem u1f {p : Prop} (h : p := by (refine ⟨s.length - (i + 1), by omega, i + 1, v, g, rfl, by omega, ?_, ?_⟩; rotate_left 1; (first | (refine S.keep ⟨rfl, rfl, rfl, reg (by rw [hbs, if_pos (by omega)]; rfl), reg (by omega), trivial⟩) | (refine S.keep ⟨rfl, rfl, rfl, reg (by rw [hbs, if_neg (by omega)]; rfl), reg (by omega), trivial⟩)); refine qmk hown ?_; rw [hds]; first | (rw [if_pos (by omega)]; omega) | (rw [if_neg (by omega)]; omega))) : p := h
theorem qd8 (F : q01) (s t : List UInt8) (hs : s.length ≤ 900000) (ht : t.length ≤ 900000) (h0 : 0 < s.length) (d1 : s.all isD = true) (d2 : t.all isD = true) (hle : q14 t ≤ q14 s) : Ct Tryz.prog 116 [.string (bs s), .string (bs t)] F [] (fun _ _ u => u = .string (bs (Lib.decDigits (q14 s - q14 t)))) := by
 have hA := q2o s d1
 refine Ct.enter Tryz.func116 rfl Tryz.ntmps116 rfl fun w0 a S => ?_
 revert a; refine go 18 ?_; intro Z hZ a S
 refine q04 (fun m a w' => ∃ (i : Nat) (v : Value) (g : Grp), m = s.length - i ∧ i ≤ s.length ∧ q0u 5 1 v i (u8v (rdg (q14 s - q14 t) i)) g ∧ St 36 [(0, .string (bs s)), (1, .string (bs t)), (5, v), (6, .int .i64 ((bw 10 (q14 s) (q14 t) i : Nat) : Int)), (7, .int .i64 (i : Int))] w0 F [] F [g] a w') ?_ ?_
 ·(refine ⟨s.length, 0, _, [], rfl, Nat.zero_le _, q0u.nil _ _, ?_⟩; rw [qld]; replace S := S.nilg; refine S.keep ?_; exact zk)
 (clear S; rintro m a w ⟨i, v, g, rfl, hi, hown, S⟩; have hbw : bw 10 (q14 s) (q14 t) i ≤ 1 := (by unfold bw; split <;> omega); have hdA := q2z p10 (q14 s) i; have hdC := q2z p10 (q14 t) i; have hds := qoj p10 hle (k := i); have hbs := qm2 p10 (A := q14 s) (B := q14 t) (k := i))
 revert a; refine go 8 ?_; intro Z hZ a S
 refine q00 S rfl ?_ ?_ <;> intro h
 ·revert a; revert Z; refine go 7 ?_; intro Z hZ Z hZ a S
  (first | (refine wc0 S (q1c F s i (by omega) d1) ?_; clear S a; intro v9 a w hv9 S; subst hv9) | (refine wc0 S (q1c F t i (by omega) d2) ?_; clear S a; intro v9 a w hv9 S; subst hv9))
  revert a; refine go 2 ?_; intro a S
  (first | (refine wc0 S (q1c F s i (by omega) d1) ?_; clear S a; intro v9 a w hv9 S; subst hv9) | (refine wc0 S (q1c F t i (by omega) d2) ?_; clear S a; intro v9 a w hv9 S; subst hv9))
  revert a; revert Z; refine go 16 ?_; intro Z hZ a S
  refine q00 S rfl ?_ ?_ <;> intro h
  ·revert a; revert Z; refine go 14 ?_; intro a S
   first | (refine wv S (q3k S rfl rfl (by first | omega | (simp only [qaA, qaC, qaD]; omega))) ?_; clear S a; intro a S) | (refine wv S (q4s S rfl rfl) ?_; clear S a; intro a S)
   (refine q0s S rfl rfl rfl rfl rfl rfl rfl rfl rfl rfl rfl (fun _ => rfl) hown (by rfl) (by simp [Value.cells, splice, splice]) (by simp [Value.cells, Value.oneCell', splice, splice]) rfl (by rfl) (by rfl) rfl (by omega) (by omega) ?_; clear hown S a; intro v u g a w hown S)
   revert a; revert Z; refine go 8 ?_; intro a S
   change ∃ m', _ ∧ _
   exact u1f
  revert a; revert Z; refine go 6 ?_; intro a S
  first | (refine wv S (q3k S rfl rfl (by first | omega | (simp only [qaA, qaC, qaD]; omega))) ?_; clear S a; intro a S) | (refine wv S (q4s S rfl rfl) ?_; clear S a; intro a S)
  (refine q0s S rfl rfl rfl rfl rfl rfl rfl rfl rfl rfl rfl (fun _ => rfl) hown (by rfl) (by simp [Value.cells, splice, splice]) (by simp [Value.cells, Value.oneCell', splice, splice]) rfl (by rfl) (by rfl) rfl (by omega) (by omega) ?_; clear hown S a; intro v u g a w hown S)
  revert a; revert Z; refine go 8 ?_; intro a S
  change ∃ m', _ ∧ _
  exact u1f
 (refine wp_exit ?_; conv => whnf)
 clear hZ Z
 (refine hZ _ _ ?_; clear hZ Z)
 (refine wp_seq_k ?_; intro Z hZ)
 (obtain ⟨vo, vc, rfl, -⟩ := hown.at; replace S := St.freeze (G1 := []) S; (simp only [qaG] at S); have hsl := hown.slC F)
 revert a; refine go 2 ?_; intro a S
 (refine wc0 S (qnr _ (q14 s - q14 t) i _ (by omega) (by omega) (by rw [show i = s.length by omega]; omega) hsl) ?_; clear S a; intro v9 a w hv9 S; subst hv9)
 revert a; revert Z; refine go 3 ?_; intro a S
 refine wp_ret (fr1 S Tryz.results116 ?_)
 rfl
theorem u02 {p : Prop} (h : p := by (congr 1; first | (rw [← qkr (by omega)]; simp; done) | (have h9 : (Lib.decDigits A).length = (Lib.decDigits B).length := (by omega); rw [← qgy h9]; exact qxy _ _))) : p := h
theorem qot (F : q01) (A B : Nat) (hA : (Lib.decDigits A).length ≤ 1000000) (hB : (Lib.decDigits B).length ≤ 1000000) : Ct Tryz.prog 115 [.string (bs (Lib.decDigits A)), .string (bs (Lib.decDigits B))] F [] (fun _ _ u => u = .bool (decide (B < A))) := by
 refine Ct.enter Tryz.func115 rfl Tryz.ntmps115 rfl fun w0 a S => ?_
 revert a; refine go 13 ?_; intro Z hZ a S
 refine q00 S rfl ?_ ?_ <;> intro h
 ·revert a; refine go 9 ?_; intro a S
  refine wp_ret (fr1 S Tryz.results115 ?_)
  exact u02
 revert a; revert Z; refine go 5 ?_; intro Z hZ a S
 (refine wv S (qpt S rfl rfl rfl) ?_; clear S a; intro a S)
 revert a; revert Z; refine go 3 ?_; intro a S
 refine wp_ret (fr1 S Tryz.results115 ?_)
 exact u02
theorem qyl (F : q01) (s : List UInt8) (h0 : 0 < s.length) (hs : s.length ≤ 1000000) : Ct Tryz.prog 114 [.string (bs s)] F [] (fun _ _ u => u = .string (bs (q0m s))) := by
 refine Ct.enter Tryz.func114 rfl Tryz.ntmps114 rfl fun w0 a S => ?_
 revert a; refine go 7 ?_; intro Z hZ Z hZ a S
 (refine wv S (q07 (i := 0) S rfl rfl rfl (by omega)) ?_; clear S a; intro a S)
 revert a; revert Z; refine go 3 ?_; intro a S
 refine q00 S rfl ?_ ?_ <;> intro h
 ·revert a; refine go 2 ?_; intro Z hZ a S
  (refine wv S (q1p S rfl rfl rfl (by first | omega | (simp only [qaA, qaC, qaD]; omega))) ?_; clear S a; intro a S)
  (rw [show Int.toNat 1 = 1 from rfl] at S)
  revert a; revert Z; refine go 3 ?_; intro a S
  refine wp_ret (fr1 S Tryz.results114 ?_)
  (congr 2; first | (rw [qvc h0 (by omega)]; done) | (rw [qf8 (by omega)]; done))
 revert a; revert Z; refine go 7 ?_; intro a S
 refine wp_ret (fr1 S Tryz.results114 ?_)
 (congr 2; first | (rw [qvc h0 (by omega)]; done) | (rw [qf8 (by omega)]; done))
theorem qrt {l : List (List UInt8)} {k : Nat} {s : List UInt8} (h : l[k]? = some s) : upN (l.drop k) = (if q34 s = true then 0 else q14 (q0m s)) + upN (l.drop (k + 1)) ∧ qfi (l.drop k) = (if q34 s = true then q14 (q0m s) else 0) + qfi (l.drop (k + 1)) := by
 obtain ⟨h1, rfl⟩ := List.getElem?_eq_some_iff.1 h
 rw [List.drop_eq_getElem_cons h1]; exact ⟨rfl, rfl⟩
theorem q3v {N M k : Nat} (h : N < 10 ^ (M + k)) (hM : M ≠ 0) : (Lib.decDigits N).length ≤ M + k := (q4f (by omega)).2 h
theorem q84 {U x M k : Nat} (hU : U < 10 ^ (M + k)) (hx : x < 10 ^ M) : U + x < 10 ^ (M + (k + 1)) := by
 have h1 : 10 ^ M ≤ 10 ^ (M + k) := Nat.pow_le_pow_right (by decide) (by omega)
 rw [show M + (k + 1) = (M + k) + 1 by omega, Nat.pow_succ]
 omega
theorem qio {U M k : Nat} (hU : U < 10 ^ (M + k)) : U < 10 ^ (M + (k + 1)) := Nat.lt_of_lt_of_le hU (Nat.pow_le_pow_right (by decide) (by omega))
theorem u0w {p : Prop} (h : p := by (rw [← hao] at S; first | (have hng : q34 s = true := u4p hp0 (by omega); rw [if_pos hng] at hd1 hd2; refine ⟨l.length - (k + 1), by omega, k + 1, U, D + q14 (q0m s), rfl, by omega, by omega, by omega, qio hU, q84 hD hbv, ?_⟩; (refine S.keep ?_; exact zk); done) | (have hng : ¬ q34 s = true := u56 (by omega); rw [if_neg hng] at hd1 hd2; rw [qf8 (by omega)] at hd1 hbv; refine ⟨l.length - (k + 1), by omega, k + 1, U + q14 s, D, rfl, by omega, by omega, by omega, q84 hU hbv, qio hD, ?_⟩; (refine S.keep ?_; exact zk); done))) : p := h
theorem qyu {p : Prop} (h : p := by (congr 2; rw [← que l, ← hu9, ← hd9]; first | (rw [u4s (by omega)]; done) | (have hUD : U = D := u41 (by assumption); rw [hUD, u4z]; done) | (have h8 : ¬ U = D := (fun e => absurd (congrArg Lib.decDigits e) (by assumption)); rw [qwj (by omega)]; done))) : p := h
theorem u28 (F : q01) (v : Value) (l : List (List UInt8)) (hv : LiM F 1 StR v l) (hl : l.length ≤ 100000) (hc : ∀ s ∈ l, q0p s = 0) : Ct Tryz.prog 74 [v] F [] (fun _ _ u => u = .string (bs (zT (qdp l)))) := by
 obtain ⟨M, hM⟩ : ∃ M, M = 200 := ⟨_, rfl⟩
 obtain ⟨ao, cap, rfl, hcap, hpos⟩ := hv
 refine Ct.enter Tryz.func74 rfl Tryz.ntmps74 rfl fun w0 a S => ?_
 revert a; refine go 15 ?_; intro Z hZ a S
 refine q04 (fun m a w' => ∃ (k U D : Nat), m = l.length - k ∧ k ≤ l.length ∧ U + upN (l.drop k) = upN l ∧ D + qfi (l.drop k) = qfi l ∧ U < 10 ^ (M + k) ∧ D < 10 ^ (M + k) ∧ St 44 [(0, .slice ao l.length cap), (3, .string (bs (Lib.decDigits U))), (4, .string (bs (Lib.decDigits D))), (5, .int .i64 (k : Int))] w0 F [] F [] a w') ?_ ?_
 ·(refine ⟨l.length, 0, 0, 0, by omega, Nat.zero_le _, Nat.zero_add _, Nat.zero_add _, Nat.pow_pos (by decide), Nat.pow_pos (by decide), ?_⟩; rw [q1t (by decide)]; refine S.keep ?_; exact zk)
 (clear S; rintro m a w ⟨k, U, D, rfl, hk, hu, hd, hU, hD, S⟩)
 revert a; refine go 8 ?_; intro Z hZ a S
 refine q00 S rfl ?_ ?_ <;> intro h
 ·revert a; revert Z; refine go 4 ?_; intro Z hZ a S
  (refine wp_seq_k ?_; intro Z hZ)
  (obtain ⟨b8, o8, hao, s, cs1, hx, hcc, hR1⟩ := LiM.pos hpos (k := k) (by omega); rw [hao] at S; obtain rfl : cs1 = _ := hR1; have hc1 : Cel F b8 (o8 + k * 1) (.string (bs s)) := hcc 0 _ rfl; have hck := hc s (List.mem_of_getElem? hx); obtain ⟨hall, hl2, hne⟩ := q1h hck; have hbl := q7w s; have hp0 := q7e hck; have hsl := q46 hck; have hb0 := List.length_pos_iff.2 hne; obtain ⟨hd1, hd2⟩ := qrt hx; have hbv : q14 (q0m s) < 10 ^ M := Nat.lt_of_lt_of_le (q2o _ hall) (Nat.pow_le_pow_right (by decide) (by omega)))
  revert a; refine go 4 ?_; intro a S
  (refine wv S (q05 S rfl rfl hc1) ?_; clear S a; intro a S)
  (refine wv S (q07 (i := 0) S rfl rfl rfl (by omega)) ?_; clear S a; intro a S)
  revert a; revert Z; refine go 3 ?_; intro a S
  refine q00 S rfl ?_ ?_ <;> intro h
  ·revert a; refine go 5 ?_; intro a S
   (refine wv S (q05 S rfl rfl hc1) ?_; clear S a; intro a S)
   (refine wc0 S (qyl F s hp0 (by omega)) ?_; clear S a; intro v a w hv S; subst hv)
   (have hU1 := q3v hU (by omega); have hD1 := q3v hD (by omega); have hdU := q4c U; have hdD := q4c D; first | (refine wc0 S (qd1 F (Lib.decDigits D) (q0m s) (by omega) (by omega) hdD (q35 D) hall) ?_; clear S a; intro v9 a w hv9 S; subst hv9; rw [q21] at S) | (have hbs : q0m s = s := qf8 (by omega); refine wc0 S (qd1 F (Lib.decDigits U) s (by omega) (by omega) hdU (q35 U) (by rw [← hbs]; exact hall)) ?_; clear S a; intro v9 a w hv9 S; subst hv9; rw [q21] at S))
   revert a; revert Z; refine go 8 ?_; intro a S
   change ∃ m', _ ∧ _
   exact u0w
  revert a; refine go 5 ?_; intro a S
  (refine wv S (q05 S rfl rfl hc1) ?_; clear S a; intro a S)
  (have hU1 := q3v hU (by omega); have hD1 := q3v hD (by omega); have hdU := q4c U; have hdD := q4c D; first | (refine wc0 S (qd1 F (Lib.decDigits D) (q0m s) (by omega) (by omega) hdD (q35 D) hall) ?_; clear S a; intro v9 a w hv9 S; subst hv9; rw [q21] at S) | (have hbs : q0m s = s := qf8 (by omega); refine wc0 S (qd1 F (Lib.decDigits U) s (by omega) (by omega) hdU (q35 U) (by rw [← hbs]; exact hall)) ?_; clear S a; intro v9 a w hv9 S; subst hv9; rw [q21] at S))
  revert a; revert Z; refine go 8 ?_; intro a S
  change ∃ m', _ ∧ _
  exact u0w
 (refine wp_exit ?_; conv => whnf)
 clear hZ Z
 revert a; revert Z; refine go 2 ?_; intro Z hZ a S
 (refine wp_seq_k ?_; intro Z hZ)
 (obtain rfl : k = l.length := (by omega); rw [List.drop_length] at hu hd; have hu9 : U = upN l := hu; have hd9 : D = qfi l := hd)
 revert a; refine go 3 ?_; intro a S
 (have hU1 := q3v hU (by omega); have hD1 := q3v hD (by omega); refine wc0 S (qot F U D (by omega) (by omega)) ?_; clear S a; intro v9 a w hv9 S; subst hv9)
 revert a; revert Z; refine go 2 ?_; intro a S
 refine q00 S rfl ?_ ?_ <;> intro h
 ·revert a; refine go 3 ?_; intro Z hZ a S
  (first | (refine wc0 S (qd8 F (Lib.decDigits U) (Lib.decDigits D) (by omega) (by omega) (q4c U) (q35 U) (q35 D) (by rw [q21, q21]; omega)) ?_; clear S a; intro v9 a w hv9 S; subst hv9; rw [q21, q21] at S) | (refine wc0 S (qd8 F (Lib.decDigits D) (Lib.decDigits U) (by omega) (by omega) (q4c D) (q35 D) (q35 U) (by rw [q21, q21]; omega)) ?_; clear S a; intro v9 a w hv9 S; subst hv9; rw [q21, q21] at S))
  revert a; revert Z; refine go 3 ?_; intro a S
  refine wp_ret (fr1 S Tryz.results74 ?_)
  exact qyu
 revert a; revert Z; refine go 9 ?_; intro Z hZ a S
 refine q00 S rfl ?_ ?_ <;> intro h
 ·revert a; refine go 4 ?_; intro a S
  refine wp_ret (fr1 S Tryz.results74 ?_)
  exact qyu
 refine wp_skip ?_
 (refine hZ _ _ ?_; clear hZ Z)
 (refine wp_seq_k ?_; intro Z hZ)
 (have h12 := q6j (show D - U ≤ D by omega); have hD12 := q3v hD (by omega))
 revert a; refine go 3 ?_; intro a S
 (first | (refine wc0 S (qd8 F (Lib.decDigits U) (Lib.decDigits D) (by omega) (by omega) (q4c U) (q35 U) (q35 D) (by rw [q21, q21]; omega)) ?_; clear S a; intro v9 a w hv9 S; subst hv9; rw [q21, q21] at S) | (refine wc0 S (qd8 F (Lib.decDigits D) (Lib.decDigits U) (by omega) (by omega) (q4c D) (q35 D) (q35 U) (by rw [q21, q21]; omega)) ?_; clear S a; intro v9 a w hv9 S; subst hv9; rw [q21, q21] at S))
 (refine wv S (qbm S rfl rfl rfl (by first | omega | (simp only [qaA, qaC, qaD]; omega))) ?_; clear S a; intro a S)
 revert a; revert Z; refine go 3 ?_; intro a S
 refine wp_ret (fr1 S Tryz.results74 ?_)
 exact qyu
theorem u1d {n : Int} (h : n < 0) : zT n = [45] ++ zT (-n) := by
 unfold zT
 rw [if_pos h, if_neg (by omega), show (-n).natAbs = n.natAbs by omega]; rfl
theorem qvx (n : Nat) : zT (n : Int) = Lib.decDigits n := by
 unfold zT
 rw [if_neg (by omega)]; rfl
theorem qby {n : Nat} (h : n ≤ 9223372036854775807) : (Lib.decDigits n).length ≤ 19 := (q4f (by decide)).2 (Nat.lt_of_le_of_lt h (by decide))
theorem u43 {p : Prop} (h : p := by (congr 2; first | (rw [q1t (by omega)]; done) | (rw [q4y (u := n) (by omega), q1t (u := n % 10) (by omega)]; done))) : p := h
theorem qm5 : ∀ (q : Nat) (F : q01) (n : Nat), n < q → n ≤ 9223372036854775807 → Ct Tryz.prog 73 [.int .i64 (n : Int)] F [] (fun _ _ u => u = .string (bs (Lib.decDigits n))) := by
 intro q
 induction q with
 | zero => intro F n h; omega
 | succ q ih =>
 intro F n hq hn
 refine Ct.enter Tryz.func73 rfl Tryz.ntmps73 rfl fun w0 a S => ?_
 revert a; refine go 10 ?_; intro Z hZ a S
 refine q0l S rfl (fun h => ?_) (fun h => ?_)
 ·(skip; (try simp only [tq] at h); omega)
 (try simp only [tq] at h)
 revert a; revert Z; refine go 8 ?_; intro Z hZ a S
 refine q0l S rfl (fun h => ?_) (fun h => ?_)
 ·(skip; (try simp only [tq] at h); omega)
 (try simp only [tq] at h)
 revert a; revert Z; refine go 8 ?_; intro Z hZ a S
 refine q00 S rfl ?_ ?_ <;> intro h
 ·revert a; refine go 3 ?_; intro Z hZ a S
  first | (refine wv S (q3k S rfl rfl (by first | omega | (simp only [qaA, qaC, qaD]; omega))) ?_; clear S a; intro a S) | (refine wv S (q4s S rfl rfl) ?_; clear S a; intro a S)
  (refine q0d S rfl rfl rfl rfl rfl rfl (by rfl) (by simp [Value.cells, splice, splice]) rfl (by rfl) (by rfl) ?_; clear S a; intro b16 a w hown S)
  (have hown : q0u 5 1 (.slice (some ⟨b16, 0, none⟩) 1 1) 1 ([UInt8.ofNat (48 + n)].map fun b => Value.int .u8 b.toNat) [(b16, .cells ⟨List.flatMap (fun x => x.cells.toList) [Value.int .u8 (48 + (n : Int))]⟩ 5 (0, 0))] := qwd (by rw [UInt8.toNat_ofNat']; omega); refine wv S (qce S rfl rfl hown) ?_; clear S a; intro a S)
  revert a; revert Z; refine go 3 ?_; intro a S
  refine wp_ret (fr1 S Tryz.results73 ?_)
  exact u43
 refine wp_skip ?_
 (refine hZ _ _ ?_; clear hZ Z)
 (refine wp_seq_k ?_; intro Z hZ)
 (have hl1 := qby (n := n / 10) (by omega); have hl2 := qby (n := n % 10) (by omega))
 revert a; refine go 2 ?_; intro a S
 (refine wv S (q5n S rfl rfl rfl (by first | omega | (simp only [qaA, qaC, qaD]; omega))) ?_; clear S a; intro a S)
 (rw [show ((n : Int) / 10) = ((n / 10 : Nat) : Int) by omega] at S)
 (first | (refine wc0 S (ih F (n / 10) (by omega) (by omega)) ?_; clear S a; intro v9 a w hv9 S; subst hv9) | (refine wc0 S (ih F (n % 10) (by omega) (by omega)) ?_; clear S a; intro v9 a w hv9 S; subst hv9))
 revert a; refine go 1 ?_; intro a S
 (refine wv S (q8j S rfl rfl rfl (by first | omega | (simp only [qaA, qaC, qaD]; omega))) ?_; clear S a; intro a S)
 (rw [show ((n : Int) % 10) = ((n % 10 : Nat) : Int) by omega] at S)
 (first | (refine wc0 S (ih F (n / 10) (by omega) (by omega)) ?_; clear S a; intro v9 a w hv9 S; subst hv9) | (refine wc0 S (ih F (n % 10) (by omega) (by omega)) ?_; clear S a; intro v9 a w hv9 S; subst hv9))
 (refine wv S (qbm S rfl rfl rfl (by first | omega | (simp only [qaA, qaC, qaD]; omega))) ?_; clear S a; intro a S)
 revert a; revert Z; refine go 3 ?_; intro a S
 refine wp_ret (fr1 S Tryz.results73 ?_)
 exact u43
theorem qm6 (F : q01) : Ct Tryz.prog 73 [.int .i64 (-9223372036854775808)] F [] (fun _ _ u => u = .string (bs (zT (-9223372036854775808)))) := by
 refine Ct.enter Tryz.func73 rfl Tryz.ntmps73 rfl fun w0 a S => ?_
 revert a; refine go 7 ?_; intro Z hZ Z hZ a S
 (refine wv S (q0j (c := true) (q09 S rfl) (by rfl)) ?_; clear S a; intro a S)
 revert a; revert Z; refine go 2 ?_; intro a S
 refine q0h S rfl ?_
 revert a; refine go 4 ?_; intro a S
 refine wp_ret (fr1 S Tryz.results73 ?_)
 (first | (congr 2; decide +kernel))
theorem qo7 (F : q01) (n : Int) (h0 : n < 0) (h1 : -9223372036854775808 < n) : Ct Tryz.prog 73 [.int .i64 n] F [] (fun _ _ u => u = .string (bs (zT n))) := by
 have hr := qm5 (n.natAbs + 1) F n.natAbs (Nat.lt_succ_self _) (by omega)
 have hl1 := qby (n := n.natAbs) (by omega)
 refine Ct.enter Tryz.func73 rfl Tryz.ntmps73 rfl fun w0 a S => ?_
 revert a; refine go 10 ?_; intro Z hZ a S
 refine q0l S rfl (fun h => ?_) (fun h => ?_)
 ·(skip; (try simp only [tq] at h); omega)
 (try simp only [tq] at h)
 revert a; revert Z; refine go 8 ?_; intro Z hZ a S
 refine q0l S rfl (fun h => ?_) (fun h => ?_)
 ·(try simp only [tq] at h)
  revert a; refine go 2 ?_; intro Z hZ a S
  (refine wv S (qwg S rfl rfl (by omega)) ?_; clear S a; intro a S)
  (rw [show (-n) = ((n.natAbs : Nat) : Int) by omega] at S)
  (refine wc0 S (hr) ?_; clear S a; intro v a w hv S; subst hv)
  (refine wv S (qbm S rfl rfl rfl (by first | omega | (simp only [qaA, qaC, qaD]; omega))) ?_; clear S a; intro a S)
  revert a; revert Z; refine go 3 ?_; intro a S
  refine wp_ret (fr1 S Tryz.results73 ?_)
  (first | (congr 2; rw [u1d (by omega), show (-n) = ((n.natAbs : Nat) : Int) by omega, qvx]; done))
 (skip; (try simp only [tq] at h); omega)
theorem u3y (F : q01) (n : Int) (h : i64 n) : Ct Tryz.prog 73 [.int .i64 n] F [] (fun _ _ u => u = .string (bs (zT n))) := by
 have h1 := h.1
 by_cases h0 : 0 ≤ n
 ·obtain ⟨m, rfl⟩ := Int.eq_ofNat_of_zero_le h0
  rw [qvx]
  exact qm5 (m + 1) F m (Nat.lt_succ_self _) (by have := h.2; omega)
 ·by_cases hm : n = -9223372036854775808
  ·subst hm; exact qm6 F
  ·exact qo7 F n (by omega) (by omega)
