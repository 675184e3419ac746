/- Walks. -/
import Derived.Test.YtbhipiepfclneaaGreatDoorQ07
set_option maxHeartbeats 2000000
namespace Go.Proofs.YtbhipiepfclneaaGreatDoor
open Go Go.Wk Go.Num
set_option linter.unusedSimpArgs false
set_option linter.unusedVariables false
attribute [local irreducible] Go.wpList Go.Code.wp Go.wpStill Go.Wk.q26 Go.bodyPost Go.Calls Go.Wk.Ct Go.Wk.q0u Go.wpListIn Go.Code.wpIn Go.CallsIn Go.bodyPostM Go.Wk.q9q Go.Wk.wpG
def qre (s p : List UInt8) : Bool := if p.length ≤ s.length then s.take p.length == p else false
theorem qiz (s p : List UInt8) (F : q01) (hs : s.length ≤ 140737488355328) (hp : p.length ≤ 140737488355328) : Ct Tryz.prog 137 [.string (bs s), .string (bs p)] F [] (fun _ _ u => u = .bool (qre s p)) := by
 refine Ct.enter Tryz.func137 rfl Tryz.ntmps137 rfl fun w0 a S => ?_
 revert a; refine go 11 ?_; intro Z hZ a S
 refine wgd S ?_ ?_
 ·(clear S; intro h S)
  revert a; refine go 6 ?_; intro a S
  (refine wv S (q5l S rfl rfl rfl (by first | omega | (simp only [qaA, qaC, qaD]; omega))) ?_; clear S a; intro a S)
  revert a; revert Z; refine go 8 ?_; intro a S
  refine wp_ret (fr1 S Tryz.results137 ?_)
  (unfold qre; first | (rw [if_pos h]; rfl) | (rw [if_neg (by omega)]))
 (clear S a; intro h a S)
 revert a; revert Z; refine go 9 ?_; intro a S
 refine wp_ret (fr1 S Tryz.results137 ?_)
 (unfold qre; first | (rw [if_pos h]; rfl) | (rw [if_neg (by omega)]))
theorem qc3 (s p : List UInt8) (F : q01) (hs : s.length ≤ 140737488355328) (hp : p.length ≤ 140737488355328) : Ct Tryz.prog 134 [.string (bs s), .string (bs p)] F [] (fun _ _ u => u = .string (bs (if qre s p = true then s.drop p.length else s))) := by
 refine Ct.enter Tryz.func134 rfl Tryz.ntmps134 rfl fun w0 a S => ?_
 revert a; refine go 8 ?_; intro Z hZ Z hZ a S
 (refine wc0 S (qiz s p F hs hp) ?_; clear S a; intro v a w hv S; subst hv)
 revert a; revert Z; refine go 2 ?_; intro a S
 refine q00 S rfl ?_ ?_ <;> intro h
 ·revert a; refine go 4 ?_; intro Z hZ a S
  (have hpl : p.length ≤ s.length := (by unfold qre at h; split at h; assumption; cases h)); (refine wv S (q1p S rfl rfl rfl (by omega)) ?_; clear S a; intro a S)
  revert a; revert Z; refine go 3 ?_; intro a S
  refine wp_ret (fr1 S Tryz.results134 ?_)
  (first | (rw [if_pos h]; rfl) | (rw [if_neg (by simp [h])]))
 revert a; revert Z; refine go 7 ?_; intro a S
 refine wp_ret (fr1 S Tryz.results134 ?_)
 (first | (rw [if_pos h]; rfl) | (rw [if_neg (by simp [h])]))
theorem qnv (s : List UInt8) : (if qre s [45] = true then s.drop [45].length else s) = q0m s := by
 unfold qre q0m
 cases s with
 | nil => rfl
 | cons c r => by_cases h : c = 45 <;> simp [h]
theorem qbf (s : List UInt8) (F : q01) (hs : s.length ≤ 140737488355328) : Ct Tryz.prog 95 [.string (bs s), .string (bs [45])] F [] (fun _ _ u => u = .string (bs (q0m s))) := by
 rw [← qnv]
 refine Ct.enter Tryz.func95 rfl Tryz.ntmps95 rfl fun w0 a S => ?_
 revert a; refine go 7 ?_; intro Z hZ a S
 (refine wc0 S (qc3 s [45] F hs (by decide)) ?_; clear S a; intro v a w hv S; subst hv)
 revert a; revert Z; refine go 3 ?_; intro a S
 refine wp_ret (fr1 S Tryz.results95 ?_)
 rfl
theorem q39 (c : UInt8) : isD c = true ↔ (48 ≤ c.toNat ∧ c.toNat ≤ 57) := by unfold isD; simp
theorem q4l {l : List UInt8} {k : Nat} (h : ∀ j, j < k → isD (l.getD j 0) = true) (hk : k = l.length) : l.all isD = true := by
 subst hk
 rw [List.all_eq_true]
 intro x hx
 obtain ⟨j, hj, rfl⟩ := List.getElem_of_mem hx
 have := h j hj
 rwa [List.getD_eq_getElem?_getD, List.getElem?_eq_getElem hj] at this
theorem qyg {l : List UInt8} {j : Nat} (hj : j < l.length) (h : ¬ isD (l.getD j 0) = true) : ¬ l.all isD = true := fun h2 => h (q4v h2 hj)
theorem q5k {l : List UInt8} (h : l ≠ []) : l.head? = some (l.getD 0 0) := by
 cases l with
 | nil => exact absurd rfl h
 | cons c r => rfl
theorem qqb {c : UInt8} {n : Nat} (hn : n < 256) : c = UInt8.ofNat n ↔ c.toNat = n := by
 constructor
 ·rintro rfl; rw [UInt8.toNat_ofNat']; exact Nat.mod_eq_of_lt hn
 ·intro h; rw [← h, UInt8.ofNat_toNat]
def ckD (s d : List UInt8) : Int := if d = [] ∨ (d.head? = some 48 ∧ s ≠ [48]) then 4 else if d.all isD = true then (if 200 < d.length then 80 else 0) else 4
theorem qi9 {s d : List UInt8} (h : d = []) : (4 : Int) = ckD s d := by unfold ckD; rw [if_pos (Or.inl h)]
theorem qnq {s d : List UInt8} (h0 : d ≠ []) (h : (d.getD 0 0).toNat = 48) (h2 : s ≠ [48]) : (4 : Int) = ckD s d := by
 unfold ckD
 rw [if_pos (Or.inr ⟨by rw [q5k h0]; exact congrArg some ((qqb (n := 48) (by decide)).2 h), h2⟩)]
theorem qv9 {s d : List UInt8} {j : Nat} (hj : j < d.length) (h : ¬ isD (d.getD j 0) = true) : (4 : Int) = ckD s d := by
 unfold ckD
 rw [if_neg (qyg hj h)]; split <;> rfl
theorem qp2 {s d : List UInt8} (h0 : d ≠ []) (h1 : (d.getD 0 0).toNat = 48 → s = [48]) (h2 : d.all isD = true) (h3 : 200 < d.length) : (80 : Int) = ckD s d := by
 unfold ckD
 rw [if_neg (by rintro (h9 | ⟨h9, h10⟩); exact h0 h9; rw [q5k h0] at h9; exact h10 (h1 ((qqb (n := 48) (by decide)).1 (Option.some.inj h9)))), if_pos h2, if_pos h3]
theorem u2u {s d : List UInt8} (h0 : d ≠ []) (h1 : (d.getD 0 0).toNat = 48 → s = [48]) (h2 : d.all isD = true) (h3 : ¬ 200 < d.length) : (0 : Int) = ckD s d := by
 unfold ckD
 rw [if_neg (by rintro (h9 | ⟨h9, h10⟩); exact h0 h9; rw [q5k h0] at h9; exact h10 (h1 ((qqb (n := 48) (by decide)).1 (Option.some.inj h9)))), if_pos h2, if_neg h3]
theorem q3x {p : Prop} (h : p := by (rw [hck]; refine congrArg _ ?_; first | exact qi9 (by assumption) | exact qnq (by assumption) (by omega) (by assumption) | exact qv9 (j := i) (by omega) (by rw [q39]; omega) | exact qp2 (by assumption) (by first | (intro; assumption) | (intro; omega)) (q4l hall (by omega)) (by omega) | exact u2u (by assumption) (by first | (intro; assumption) | (intro; omega)) (q4l hall (by omega)) (by omega))) : p := h
theorem qq1 {p : Prop} (h : p := by (refine ⟨d.length - (i + 1), by omega, i + 1, rfl, by omega, ?_, ?_⟩; rotate_left 1; (refine S.keep ?_; exact zk); intro j hj; rcases Nat.lt_succ_iff_lt_or_eq.1 hj with h9 | h9; exact hall j h9; subst h9; rw [q39]; omega)) : p := h
theorem qbv (s : List UInt8) (F : q01) (hs : s.length ≤ 140737488355328) : Ct Tryz.prog 59 [.string (bs s)] F [] (fun _ _ u => u = .int .i64 (q0p s)) := by
 have hbl := q7w s
 have htd := qbf s F hs
 have hck : q0p s = ckD s (q0m s) := rfl
 generalize hd : q0m s = d at *
 refine Ct.enter Tryz.func59 rfl Tryz.ntmps59 rfl fun w0 a S => ?_
 revert a; refine go 6 ?_; intro Z hZ a S
 (refine wc0 S (htd) ?_; clear S a; intro v a w hv S; subst hv)
 revert a; revert Z; refine go 8 ?_; intro Z hZ Z hZ a S
 refine wgd S ?_ ?_
 ·(clear S; intro h S)
  revert a; refine go 2 ?_; intro a S
  (have hdl : 0 < d.length := List.length_pos_iff.2 (by assumption)); (refine wv S (q07 (i := 0) S rfl rfl rfl (by omega)) ?_; clear S a; intro a S)
  revert a; refine go 4 ?_; intro a S
  refine wgd S ?_ ?_
  ·(clear S; intro h S)
   revert a; revert Z; refine go 8 ?_; intro a S
   refine q00 S rfl ?_ ?_ <;> intro h
   ·revert a; refine go 4 ?_; intro a S
    refine wp_ret (fr1 S Tryz.results59 ?_)
    exact q3x
   revert a; revert Z; refine go 10 ?_; intro Z hZ a S
   refine q04 (fun m a w' => ∃ (i : Nat), m = d.length - i ∧ i ≤ d.length ∧ (∀ j, j < i → isD (d.getD j 0) = true) ∧ St 37 [(3, .string (bs d)), (19, .int .i64 d.length), (20, .int .i64 i)] w0 F [] F [] a w') ?_ ?_
   ·(refine ⟨d.length, 0, rfl, Nat.zero_le _, (fun j hj => absurd hj (by omega)), ?_⟩; refine S.keep ?_; exact zk)
   (clear S; rintro m a w ⟨i, rfl, hi, hall, S⟩)
   revert a; refine go 5 ?_; intro Z hZ a S
   refine q00 S rfl ?_ ?_ <;> intro h
   ·revert a; revert Z; refine go 12 ?_; intro Z hZ Z hZ a S
    first | (refine wv S (q07 S rfl rfl rfl (by first | omega | (simp only [qaA, qaC, qaD]; omega))) ?_; clear S a; intro a S) | (refine wv S (q0t S rfl rfl rfl (by first | omega | (simp only [qaA, qaC, qaD]; omega))) ?_; clear S a; intro a S)
    revert a; refine go 2 ?_; intro a S
    refine wgd S ?_ ?_
    ·(clear S; intro h S)
     revert a; refine go 4 ?_; intro a S
     first | (refine wv S (q07 S rfl rfl rfl (by first | omega | (simp only [qaA, qaC, qaD]; omega))) ?_; clear S a; intro a S) | (refine wv S (q0t S rfl rfl rfl (by first | omega | (simp only [qaA, qaC, qaD]; omega))) ?_; clear S a; intro a S)
     revert a; revert Z; refine go 5 ?_; intro a S
     refine q00 S rfl ?_ ?_ <;> intro h
     ·revert a; refine go 4 ?_; intro a S
      refine wp_ret (fr1 S Tryz.results59 ?_)
      exact q3x
     revert a; revert Z; refine go 6 ?_; intro a S
     change ∃ m', _ ∧ _
     exact qq1
    (clear S a; intro h a S)
    revert a; revert Z; refine go 6 ?_; intro a S
    refine q0h S rfl ?_
    revert a; refine go 4 ?_; intro a S
    refine wp_ret (fr1 S Tryz.results59 ?_)
    exact q3x
   (refine wp_exit ?_; conv => whnf)
   clear hZ Z
   revert a; revert Z; refine go 8 ?_; intro Z hZ a S
   refine q00 S rfl ?_ ?_ <;> intro h
   ·revert a; refine go 4 ?_; intro a S
    refine wp_ret (fr1 S Tryz.results59 ?_)
    exact q3x
   revert a; revert Z; refine go 6 ?_; intro a S
   refine wp_ret (fr1 S Tryz.results59 ?_)
   exact q3x
  (clear S a; intro h a S)
  revert a; revert Z; refine go 6 ?_; intro a S
  refine q03 S rfl ?_
  revert a; revert Z; refine go 10 ?_; intro Z hZ a S
  refine q04 (fun m a w' => ∃ (i : Nat), m = d.length - i ∧ i ≤ d.length ∧ (∀ j, j < i → isD (d.getD j 0) = true) ∧ St 37 [(3, .string (bs d)), (19, .int .i64 d.length), (20, .int .i64 i)] w0 F [] F [] a w') ?_ ?_
  ·(refine ⟨d.length, 0, rfl, Nat.zero_le _, (fun j hj => absurd hj (by omega)), ?_⟩; refine S.keep ?_; exact zk)
  (clear S; rintro m a w ⟨i, rfl, hi, hall, S⟩)
  revert a; refine go 5 ?_; intro Z hZ a S
  refine q00 S rfl ?_ ?_ <;> intro h
  ·revert a; revert Z; refine go 12 ?_; intro Z hZ Z hZ a S
   first | (refine wv S (q07 S rfl rfl rfl (by first | omega | (simp only [qaA, qaC, qaD]; omega))) ?_; clear S a; intro a S) | (refine wv S (q0t S rfl rfl rfl (by first | omega | (simp only [qaA, qaC, qaD]; omega))) ?_; clear S a; intro a S)
   revert a; refine go 2 ?_; intro a S
   refine wgd S ?_ ?_
   ·(clear S; intro h S)
    revert a; refine go 4 ?_; intro a S
    first | (refine wv S (q07 S rfl rfl rfl (by first | omega | (simp only [qaA, qaC, qaD]; omega))) ?_; clear S a; intro a S) | (refine wv S (q0t S rfl rfl rfl (by first | omega | (simp only [qaA, qaC, qaD]; omega))) ?_; clear S a; intro a S)
    revert a; revert Z; refine go 5 ?_; intro a S
    refine q00 S rfl ?_ ?_ <;> intro h
    ·revert a; refine go 4 ?_; intro a S
     refine wp_ret (fr1 S Tryz.results59 ?_)
     exact q3x
    revert a; revert Z; refine go 6 ?_; intro a S
    change ∃ m', _ ∧ _
    exact qq1
   (clear S a; intro h a S)
   revert a; revert Z; refine go 6 ?_; intro a S
   refine q0h S rfl ?_
   revert a; refine go 4 ?_; intro a S
   refine wp_ret (fr1 S Tryz.results59 ?_)
   exact q3x
  (refine wp_exit ?_; conv => whnf)
  clear hZ Z
  revert a; revert Z; refine go 8 ?_; intro Z hZ a S
  refine q00 S rfl ?_ ?_ <;> intro h
  ·revert a; refine go 4 ?_; intro a S
   refine wp_ret (fr1 S Tryz.results59 ?_)
   exact q3x
  revert a; revert Z; refine go 6 ?_; intro a S
  refine wp_ret (fr1 S Tryz.results59 ?_)
  exact q3x
 (clear S a; intro h a S)
 revert a; revert Z; refine go 9 ?_; intro a S
 refine q0h S rfl ?_
 revert a; refine go 4 ?_; intro a S
 refine wp_ret (fr1 S Tryz.results59 ?_)
 exact q3x
def qub (F : q01) (u : Value) (neg : Bool) (N : Nat) : Prop := ∃ ps, u = .agg ⟨[.bool neg, ps]⟩ ∧ Mag F ps N
theorem qub.mono {F F' : q01} {u : Value} {neg N} (hF : ∀ b o, F b = some o → F' b = some o) (h : qub F u neg N) : qub F' u neg N := by
 obtain ⟨ps, h1, h2⟩ := h; exact ⟨ps, h1, h2.mono hF⟩
theorem qcn {c : UInt8} (h : isD c = true) : ((c.toNat : Int) - 48) = ((dv c : Nat) : Int) := by
 have := (q39 c).1 h; unfold dv; omega
theorem qji {e : TypeId} {v : Value} {k : Nat} {f : Nat → Nat} {gr : Grp} {x : Value} (h : q0u e 1 v (k + 1) (cel k f ++ [x]) gr) (hx : x = .int .i64 ((f k : Nat) : Int)) : q0u e 1 v (k + 1) (cel (k + 1) f) gr := by
 rw [qss, ← hx]; exact h
theorem u46 (s : List UInt8) (F : q01) (hck : q0p s = 0) : Ct Tryz.prog 60 [.string (bs s)] F [] (fun F' _ u => qub F' u (q34 s) (q14 (q0m s))) := by
 obtain ⟨hall, hlen, hne⟩ := q1h hck
 have hsl : s.length ≤ 201 := by
  have h1 : s.length ≤ (q0m s).length + 1 := by unfold q0m; split <;> simp; omega
  omega
 have htd := qbf s F (by omega)
 have hneg : decide (((q0m s).length : Int) < (s.length : Int)) = q34 s := by
  unfold q34; simp only [Int.ofNat_lt, qsq]
 generalize hd : q0m s = d at *
 refine Ct.enter Tryz.func60 rfl Tryz.ntmps60 rfl fun w0 a S => ?_
 refine q1i fun Z hZ => ?_
 (refine q0a S rfl rfl rfl rfl ?_; clear S a; intro b1 a w S)
 revert a; revert Z; refine go 4 ?_; intro Z hZ a S
 (refine wc0 S (htd) ?_; clear S a; intro v a w hv S; subst hv)
 revert a; revert Z; refine go 10 ?_; intro Z hZ a S
 (refine q0a S rfl rfl rfl rfl ?_; clear S a; intro b2 a w S)
 (refine wso S rfl rfl ?_; clear S; intro w S)
 revert a; revert Z; refine go 10 ?_; intro Z hZ a S
 refine q04 (fun m a w' => ∃ (e : Int) (c : Nat) (v : Value) (g : Grp), m = e.toNat ∧ e + 9 * c = d.length ∧ -9 < e ∧ q0u 2 1 v c (cel c (dig 1000000000 (q14 d))) g ∧ St 49 [(2, .pointer (some ⟨b1, 0, none⟩)), (4, .pointer (some ⟨b2, 0, none⟩)), (3, .string (bs d)), (5, .int .i64 e)] w0 F [] F [g, [(b2, .cells ⟨[.bool (q34 s), v]⟩ 86 (0, 0))], [(b1, .cells ⟨[.bool false, .slice none 0 0]⟩ 86 (0, 0))]] a w') ?_ ?_
 ·(refine ⟨_, (d.length : Int), 0, _, _, rfl, by omega, by omega, q0u.nil _ _, ?_⟩; replace S := S.nilg; rw [hneg] at S; refine S.keep ?_; exact zk)
 (clear S; rintro m a w ⟨e, c, v, g, rfl, he, he9, hown, S⟩)
 revert a; refine go 6 ?_; intro Z hZ a S
 refine q00 S rfl ?_ ?_ <;> intro h
 ·revert a; revert Z; refine go 9 ?_; intro Z hZ Z hZ a S
  revert a; refine go 3 ?_; intro Z hZ a S
  first | (refine wv S (qo9 S rfl rfl rfl) ?_; clear S a; intro a S) | (refine wv S (qmu S rfl rfl rfl) ?_; clear S a; intro a S)
  revert a; revert Z; refine go 4 ?_; intro a S
  refine q04 (fun m a w' => ∃ (i n : Nat), m = e.toNat - i ∧ (e - 9).toNat ≤ i ∧ i ≤ e.toNat ∧ q14 (d.take i) = q14 (d.take (e - 9).toNat) * 10 ^ (i - (e - 9).toNat) + n ∧ n < 10 ^ (i - (e - 9).toNat) ∧ St 49 [(2, .pointer (some ⟨b1, 0, none⟩)), (4, .pointer (some ⟨b2, 0, none⟩)), (3, .string (bs d)), (5, .int .i64 e), (6, .int .i64 n), (7, .int .i64 i)] w0 F [] F [g, [(b2, .cells ⟨[.bool (q34 s), v]⟩ 86 (0, 0))], [(b1, .cells ⟨[.bool false, .slice none 0 0]⟩ 86 (0, 0))]] a w') ?_ ?_
  ·(refine ⟨_, (e - 9).toNat, 0, rfl, Nat.le_refl _, by omega, by simp, by simp, ?_⟩; refine S.keep ?_; exact zk)
  (clear S; rintro m a w ⟨i, n, rfl, hi1, hi2, hdec, hnl, S⟩)
  revert a; refine go 7 ?_; intro Z hZ a S
  refine q00 S rfl ?_ ?_ <;> intro h
  ·revert a; revert Z; refine go 4 ?_; intro Z hZ a S
   (have hisd := q4v hall (k := i) (by omega); have hdv := qcn hisd; have hdl := qh8 hisd; have hn9 : n < 10 ^ 9 := Nat.lt_of_lt_of_le hnl (Nat.pow_le_pow_right (by decide) (by omega)); have hisd2 := (q39 _).1 hisd)
   revert a; refine go 2 ?_; intro a S
   (refine wv S (q8r S rfl rfl rfl (by first | omega | (simp only [qaA, qaC, qaD]; omega))) ?_; clear S a; intro a S)
   revert a; refine go 2 ?_; intro a S
   (refine wv S (q07 (i := i) S rfl rfl rfl (by omega)) ?_; clear S a; intro a S)
   (refine wv S (qh5 S rfl rfl rfl (by first | omega | (simp only [qaA, qaC, qaD]; omega))) ?_; clear S a; intro a S)
   (refine wv S (q1l S rfl rfl (by first | omega | (simp only [qaA, qaC, qaD]; omega))) ?_; clear S a; intro a S)
   revert a; revert Z; refine go 9 ?_; intro a S
   change ∃ m', _ ∧ _
   (refine ⟨_, by omega, i + 1, 10 * n + dv (d.getD i 0), rfl, by omega, by omega, ?_, ?_, ?_⟩; rotate_left 2; (rw [hdv] at S; refine S.keep ?_; exact zk); (rw [q65 (by omega), show i + 1 - (e - 9).toNat = (i - (e - 9).toNat) + 1 by omega, Nat.pow_succ]; exact qqy hdec); (rw [show i + 1 - (e - 9).toNat = (i - (e - 9).toNat) + 1 by omega, Nat.pow_succ]; omega))
  (refine wp_exit ?_; conv => whnf)
  clear hZ Z
  revert a; revert Z; refine go 5 ?_; intro a S
  (refine q0s S rfl rfl rfl rfl rfl rfl rfl rfl rfl rfl rfl (fun _ => rfl) hown (by rfl) (by simp [Value.cells, splice, splice]) (by simp [Value.cells, Value.oneCell', splice, splice]) rfl (by rfl) (by rfl) rfl (by omega) (by omega) ?_; clear hown S a; intro v u g a w hown S)
  revert a; refine go 1 ?_; intro a S
  (refine q0e S rfl rfl rfl rfl rfl hown.oneCell (by simp) ?_; clear S; intro w S)
  revert a; revert Z; refine go 7 ?_; intro a S
  change ∃ m', _ ∧ _
  (refine ⟨_, by omega, e - 9, c + 1, v, g, rfl, by omega, by omega, qji hown (congrArg _ ?_), ?_⟩; rotate_left 1; (refine S.keep ?_; exact zk); rw [qp0 hall (e := e.toNat) (by omega)]; have hie : i = e.toNat := (by omega); subst hie; rw [u50 (f := (e - 9).toNat) (by omega) hdec hnl])
 (refine wp_exit ?_; conv => whnf)
 clear hZ Z
 (refine hZ _ _ ?_; clear hZ Z)
 (refine wp_seq_k ?_; intro Z hZ)
 (replace S := St.freeze (G1 := []) S; simp only [qaG] at S; have hsl3 := hown.slC F; have hlt : q14 d < 1000000000 ^ c := Nat.lt_of_lt_of_le (q2o d hall) (by rw [show (1000000000 : Nat) = 10 ^ 9 by decide, ← Nat.pow_mul]; exact Nat.pow_le_pow_right (by decide) (by omega)))
 revert a; refine go 3 ?_; intro a S
 (refine wc0 S (qp7 (q14 d) c _ _ hlt (by omega) hsl3) ?_; clear S a; intro u a w hu S; have hu0 := hu; obtain ⟨uo, uc, rfl, hu1, hu2⟩ := hu)
 revert a; refine go 1 ?_; intro a S
 (refine q0e S rfl rfl rfl rfl rfl rfl (by first | (simp; done) | (simp [Value.cells]; done) | exact Nat.le_of_ble_eq_true rfl) ?_; clear S; intro w S)
 revert a; revert Z; refine go 4 ?_; intro Z hZ a S
 (refine wso S rfl rfl ?_; clear S; intro w S)
 revert a; revert Z; refine go 2 ?_; intro a S
 refine wp_ret (q08 S (q0c Tryz.results60 (RV.cellO S rfl (by rfl))) ?_)
 exact ⟨_, rfl, hu0⟩
theorem quw (x : Int) (F : q01) : Ct Tryz.prog 140 [.int .i64 x] F [] (fun _ _ u => u = .bool false) := by
 refine Ct.enter Tryz.func140 rfl Tryz.ntmps140 rfl fun w0 a S => ?_
 revert a; refine go 11 ?_; intro a S
 refine wp_ret (fr1 S Tryz.results140 ?_)
 (simp)
theorem qvn (x : Int) (F : q01) : Ct Tryz.prog 141 [.int .i64 x] F [] (fun _ _ u => u = .bool false) := by
 refine Ct.enter Tryz.func141 rfl Tryz.ntmps141 rfl fun w0 a S => ?_
 revert a; refine go 11 ?_; intro a S
 refine wp_ret (fr1 S Tryz.results141 ?_)
 (simp)
def q4j (x y : Int) : Int := if x < y then -1 else if y < x then 1 else 0
theorem qbw (x y : Int) (F : q01) : Ct Tryz.prog 102 [.int .i64 x, .int .i64 y] F [] (fun _ _ u => u = .int .i64 (q4j x y)) := by
 refine Ct.enter Tryz.func102 rfl Tryz.ntmps102 rfl fun w0 a S => ?_
 revert a; refine go 6 ?_; intro Z hZ a S
 (refine wc0 S (quw _ F) ?_; clear S a; intro v a w hv S; subst hv)
 revert a; revert Z; refine go 5 ?_; intro Z hZ a S
 (refine wc0 S (quw _ F) ?_; clear S a; intro v a w hv S; subst hv)
 revert a; revert Z; refine go 8 ?_; intro Z hZ a S
 refine q0l S rfl (fun h => ?_) (fun h => ?_)
 ·(skip; (try simp only [tq] at h); cases h)
 (try simp only [tq] at h)
 revert a; revert Z; refine go 7 ?_; intro Z hZ a S
 refine q0l S rfl (fun h => ?_) (fun h => ?_)
 ·(skip; (try simp only [tq] at h); cases h)
 (try simp only [tq] at h)
 revert a; revert Z; refine go 9 ?_; intro Z hZ a S
 refine q00 S rfl ?_ ?_ <;> intro h
 ·revert a; refine go 4 ?_; intro a S
  refine wp_ret (fr1 S Tryz.results102 ?_)
  (unfold q4j; (repeat (first | rw [if_pos (by assumption)] | rw [if_neg (by omega)])))
 revert a; revert Z; refine go 9 ?_; intro Z hZ a S
 refine q00 S rfl ?_ ?_ <;> intro h
 ·revert a; refine go 4 ?_; intro a S
  refine wp_ret (fr1 S Tryz.results102 ?_)
  (unfold q4j; (repeat (first | rw [if_pos (by assumption)] | rw [if_neg (by omega)])))
 revert a; revert Z; refine go 6 ?_; intro a S
 refine wp_ret (fr1 S Tryz.results102 ?_)
 (unfold q4j; (repeat (first | rw [if_pos (by assumption)] | rw [if_neg (by omega)])))
theorem qjo (x y : Int) (F : q01) : Ct Tryz.prog 103 [.int .i64 x, .int .i64 y] F [] (fun _ _ u => u = .int .i64 (q4j x y)) := by
 refine Ct.enter Tryz.func103 rfl Tryz.ntmps103 rfl fun w0 a S => ?_
 revert a; refine go 6 ?_; intro Z hZ a S
 (refine wc0 S (qvn _ F) ?_; clear S a; intro v a w hv S; subst hv)
 revert a; revert Z; refine go 5 ?_; intro Z hZ a S
 (refine wc0 S (qvn _ F) ?_; clear S a; intro v a w hv S; subst hv)
 revert a; revert Z; refine go 8 ?_; intro Z hZ a S
 refine q0l S rfl (fun h => ?_) (fun h => ?_)
 ·(skip; (try simp only [tq] at h); cases h)
 (try simp only [tq] at h)
 revert a; revert Z; refine go 7 ?_; intro Z hZ a S
 refine q0l S rfl (fun h => ?_) (fun h => ?_)
 ·(skip; (try simp only [tq] at h); cases h)
 (try simp only [tq] at h)
 revert a; revert Z; refine go 9 ?_; intro Z hZ a S
 refine q00 S rfl ?_ ?_ <;> intro h
 ·revert a; refine go 4 ?_; intro a S
  refine wp_ret (fr1 S Tryz.results103 ?_)
  (unfold q4j; (repeat (first | rw [if_pos (by assumption)] | rw [if_neg (by omega)])))
 revert a; revert Z; refine go 9 ?_; intro Z hZ a S
 refine q00 S rfl ?_ ?_ <;> intro h
 ·revert a; refine go 4 ?_; intro a S
  refine wp_ret (fr1 S Tryz.results103 ?_)
  (unfold q4j; (repeat (first | rw [if_pos (by assumption)] | rw [if_neg (by omega)])))
 revert a; revert Z; refine go 6 ?_; intro a S
 refine wp_ret (fr1 S Tryz.results103 ?_)
 (unfold q4j; (repeat (first | rw [if_pos (by assumption)] | rw [if_neg (by omega)])))
theorem qbk (v : Value) (F : q01) : Ct Tryz.prog 61 [v] F [] (fun _ G' u => ∃ bx, u = .func (.func 97) ⟨[]⟩ ⟨[.pointer (some ⟨bx, 0, none⟩)]⟩ ∧ G' = [[(bx, .cells ⟨v.cells.toList⟩ 42 (0, 0))]]) := by
 refine Ct.enter Tryz.func61 rfl Tryz.ntmps61 rfl fun w0 a S => ?_
 refine q1i fun Z hZ => ?_
 (refine wbx S ?_; clear S a; intro b a w S)
 revert a; revert Z; refine go 8 ?_; intro a S
 refine wp_ret (fr1 S Tryz.results61 ?_)
 exact ⟨_, rfl, rfl⟩
theorem qav (b A j : Nat) : A / b ^ j = b * (A / b ^ (j + 1)) + dig b A j := by
 rw [Nat.pow_succ, ← Nat.div_div_eq_div_mul]; exact (Nat.div_add_mod _ _).symm
theorem qeu {b A C j : Nat} (h : A / b ^ j < C / b ^ j) : A < C := by
 rcases Nat.lt_or_ge A C with h1 | h1
 ·exact h1
 ·have := Nat.div_le_div_right (c := b ^ j) h1; omega
theorem qi7 {b A C : Nat} (hb : 2 ≤ b) (h : nd b A < nd b C) : A < C := by
 have hC : 0 < C := by
  rcases Nat.eq_zero_or_pos C with e | e
  ·subst e; rw [qd7] at h; omega
  ·exact e
 exact Nat.lt_of_lt_of_le (q33 hb A) (Nat.le_trans (Nat.pow_le_pow_right (by omega) (by omega)) (qem hb hC))
theorem qza {A C : Nat} (h : ¬ ((nd 1000000000 A : Int) = (nd 1000000000 C : Int))) : q4j (nd 1000000000 A) (nd 1000000000 C) = q4j A C := by
 have hne : nd 1000000000 A ≠ nd 1000000000 C := fun e => h (by rw [e])
 unfold q4j
 rcases Nat.lt_or_gt_of_ne hne with h1 | h1
 ·have := qi7 b2 h1
  rw [if_pos (by omega), if_pos (by omega)]
 ·have := qi7 b2 h1
  rw [if_neg (by omega), if_pos (by omega), if_neg (by omega), if_pos (by omega)]
theorem qu6 {b A C j : Nat} (h : A / b ^ (j + 1) = C / b ^ (j + 1)) (hd : ((dig b A j : Nat) : Int) = ((dig b C j : Nat) : Int)) : A / b ^ j = C / b ^ j := by
 rw [qav, qav b C, h]; omega
theorem qga {b A C j : Nat} (h : A / b ^ (j + 1) = C / b ^ (j + 1)) (hd : ¬ ((dig b A j : Nat) : Int) = ((dig b C j : Nat) : Int)) : q4j (dig b A j) (dig b C j) = q4j A C := by
 have e1 := qav b A j
 have e2 := qav b C j
 rw [h] at e1
 unfold q4j
 have hne : dig b A j ≠ dig b C j := fun e => hd (by rw [e])
 rcases Nat.lt_or_gt_of_ne hne with h1 | h1
 ·have := qeu (b := b) (j := j) (A := A) (C := C) (by omega)
  rw [if_pos (by omega), if_pos (by omega)]
 ·have := qeu (b := b) (j := j) (A := C) (C := A) (by omega)
  rw [if_neg (by omega), if_pos (by omega), if_neg (by omega), if_pos (by omega)]
theorem qx5 (A C : Nat) (v u : Value) (F : q01) (hlA : nd 1000000000 A ≤ 1000000) (hlC : nd 1000000000 C ≤ 1000000) (hv : Mag F v A) (hu : Mag F u C) : Ct Tryz.prog 67 [v, u] F [] (fun _ _ r => r = .int .i64 (q4j A C)) := by
 obtain ⟨ao, ca, rfl, hca, hpa⟩ := hv
 obtain ⟨co, cc, rfl, hcc, hpc⟩ := hu
 refine Ct.enterM Tryz.func67 rfl Tryz.ntmps67 rfl fun w0 a S => ?_
 (refine wpIn_seq_k ?_; intro Z hZ)
 refine q0o rfl ?_
 (refine wbx S ?_; clear S a; intro b3 a w S)
 (refine q0a S rfl rfl rfl rfl ?_; clear S a; intro b4 a w S)
 revert a; revert Z; refine go 2 ?_; intro a S
 iterate 2 (refine wpIn_seq_k ?_; intro Z hZ)
 refine q0o rfl ?_
 revert a; revert Z; refine go 7 ?_; intro a S
 refine q3c S rfl (fun h => ?_) (fun h => ?_)
 ·(try simp only [tq] at h)
  (refine wpIn_seq_k ?_; intro Z hZ)
  refine q0o rfl ?_
  revert a; refine go 4 ?_; intro a S
  (refine wc0 S (qbw _ _ F) ?_; clear S a; intro v a w hv S; subst hv)
  (refine q0e S rfl rfl rfl rfl rfl rfl (by first | (simp; done) | (simp [Value.cells]; done) | exact Nat.le_of_ble_eq_true rfl) ?_; clear S; intro w S)
  revert a; revert Z; refine go 2 ?_; intro a S
  refine wpIn_ret ?_
  refine qhi S (q0c Tryz.results67 (RV.cell1O S rfl (by rfl))) ?_
  (rw [qza h])
 (try simp only [tq] at h)
 refine wpIn_skip ?_
 (refine hZ _ _ ?_; clear hZ Z)
 iterate 2 (refine wpIn_seq_k ?_; intro Z hZ)
 refine q0o rfl ?_
 revert a; refine go 1 ?_; intro a S
 (refine qag S rfl rfl rfl rfl rfl rfl (qbk _ F) rfl ?_; clear S a; intro bx F5 a w hF5 hbx S; have hbox := hbx 0 _ rfl)
 revert a; revert Z; refine go 2 ?_; intro a S
 refine wpIn_block ?_
 refine qhj S rfl rfl rfl rfl (qix bx (nd 1000000000 A) (dig 1000000000 A) F5 ao ca (by omega) hbox (fun h0 => by obtain ⟨b, off, h1, h2⟩ := hpa h0; exact ⟨b, off, h1, h2.mono hF5⟩)) (fun j F2 G2 => F5 = F2 ∧ G2 = [[(b4, .cells ⟨[.int .i64 0]⟩ 3 (0, 0))], [(b3, .cells ⟨[.slice co (nd 1000000000 C) cc]⟩ 42 (0, 0))]] ∧ A / 1000000000 ^ j = C / 1000000000 ^ j) (fun F2 G2 => F5 = F2 ∧ G2 = [[(b4, .cells ⟨[.int .i64 (q4j A C)]⟩ 3 (0, 0))], [(b3, .cells ⟨[.slice co (nd 1000000000 C) cc]⟩ 42 (0, 0))]]) (⟨rfl, rfl, by rw [Nat.div_eq_of_lt (q33 b2 A), Nat.div_eq_of_lt (by have := q33 b2 C; rw [show nd 1000000000 C = nd 1000000000 A by omega] at this; exact this)]⟩) (fun j => [(5, .int .i64 (j : Int)), (6, .int .i64 ((dig 1000000000 A j : Nat) : Int)), (3, .pointer (some ⟨b3, 0, none⟩)), (4, .pointer (some ⟨b4, 0, none⟩))]) ?_ ?_ ?_ ?_
 ·(clear S; intro r j w F1 G1 a KA S hKA)
  (refine wpIn_seq_k ?_; intro Z hZ)
  refine q0o rfl ?_
  revert a; revert Z; refine go 3 ?_; intro a S
  refine q0o rfl ?_
  revert a; refine go 2 ?_; intro a S
  (refine hKA _ ?_; refine S.keep ?_; exact zk)
 ·(clear S; intro r j w F1 G1 a hj hF1 hI S)
  (obtain ⟨rfl, rfl, he⟩ := hI; obtain ⟨bc, offc, rfl, hcs⟩ := hpc (by omega); have hcf := (qp8 hcs (j := j) (by omega)).mono hF5)
  refine wpIn_block ?_
  (refine wpIn_seq_k ?_; intro Z hZ)
  refine q0o rfl ?_
  revert a; revert Z; refine go 8 ?_; intro a S
  refine q3c S rfl (fun h => ?_) (fun h => ?_)
  ·(try simp only [tq] at h)
   (refine wpIn_seq_k ?_; intro Z hZ)
   refine q0o rfl ?_
   revert a; refine go 5 ?_; intro a S
   (refine wc0 S (qjo _ _ F5) ?_; clear S a; intro v a w hv S; subst hv)
   (refine q0e S rfl rfl rfl rfl rfl rfl (by first | (simp; done) | (simp [Value.cells]; done) | exact Nat.le_of_ble_eq_true rfl) ?_; clear S; intro w S)
   revert a; revert Z; refine go 2 ?_; intro a S
   refine wpIn_ret ?_
   skip
   refine qn8 S.tr ?_
   exact ⟨rfl, by rw [← qga he h]; rfl⟩
  (try simp only [tq] at h)
  refine wpIn_skip ?_
  skip
  refine q5j S.tr ?_
  exact ⟨rfl, rfl, qu6 he h⟩
 ·(clear S; intro D F1 G1 a w hF1 hI S)
  (obtain ⟨rfl, rfl, he⟩ := hI)
  (refine hZ _ _ ?_; clear hZ Z)
  (refine wpIn_seq_k ?_; intro Z hZ)
  refine q0o rfl ?_
  (refine q0e S rfl rfl rfl rfl rfl rfl (by first | (simp; done) | (simp [Value.cells]; done) | exact Nat.le_of_ble_eq_true rfl) ?_; clear S; intro w S)
  revert a; revert Z; refine go 2 ?_; intro a S
  refine wpIn_ret ?_
  (refine q76 S fun w S => ?_; try (dsimp only at S))
  refine ⟨_, q0c Tryz.results67 (RV.cell1O S rfl (by rfl)), ?_⟩
  (first | rfl | (have he2 : A = C := (by simpa using he); subst he2; unfold q4j; rw [if_neg (by omega), if_neg (by omega)]))
 (clear S; intro D F1 G1 a w hF1 hI S)
 (obtain ⟨rfl, rfl⟩ := hI)
 (refine q76 S fun w S => ?_; try (dsimp only at S))
 refine ⟨_, q0c Tryz.results67 (RV.cell1O S rfl (by rfl)), ?_⟩
 (first | rfl | (have he2 : A = C := (by simpa using he); subst he2; unfold q4j; rw [if_neg (by omega), if_neg (by omega)]))
def qkc (n1 : Bool) (A : Nat) (n2 : Bool) (C : Nat) : Bool × Nat := if n1 = n2 then (n1, A + C) else if 0 ≤ q4j A C then (n1, A - C) else (n2, C - A)
def toZ (x : Bool × Nat) : Int := if x.1 then -(x.2 : Int) else x.2
theorem qr9 (n1 : Bool) (A : Nat) (n2 : Bool) (C : Nat) : toZ (qkc n1 A n2 C) = toZ (n1, A) + toZ (n2, C) := by
 unfold qkc toZ q4j
 by_cases h1 : (A : Int) < C
 ·rw [if_pos h1]; cases n1 <;> cases n2 <;> simp <;> omega
 ·rw [if_neg h1]
  by_cases h2 : (C : Int) < A
  ·rw [if_pos h2]; cases n1 <;> cases n2 <;> simp <;> omega
  ·rw [if_neg h2]; cases n1 <;> cases n2 <;> simp <;> omega
def u9f (F : q01) (u : Value) (x : Bool × Nat) : Prop := qub F u x.1 x.2
theorem qu7 {A C : Nat} (h : 0 ≤ q4j A C) : C ≤ A := by
 unfold q4j at h; split at h; omega; omega
theorem quq {A C : Nat} (h : ¬ 0 ≤ q4j A C) : A ≤ C := by
 unfold q4j at h; split at h; omega; split at h <;> omega
theorem qgz {p : Prop} (h : p := by (first | (rw [show qkc n1 A n2 C = (n1, A + C) from (by unfold qkc; rw [if_pos (by assumption)])]; exact ⟨_, rfl, hv⟩) | (rw [show qkc n1 A n2 C = (n1, A - C) from (by unfold qkc; rw [if_neg (by assumption), if_pos (by assumption)])]; exact ⟨_, rfl, hv⟩) | (rw [show qkc n1 A n2 C = (n2, C - A) from (by unfold qkc; rw [if_neg (by assumption), if_neg (by assumption)])]; exact ⟨_, rfl, hv⟩))) : p := h
theorem u4j (n1 : Bool) (A : Nat) (n2 : Bool) (C : Nat) (v u : Value) (F : q01) (hlA : nd 1000000000 A ≤ 1000000) (hlC : nd 1000000000 C ≤ 1000000) (hv : qub F v n1 A) (hu : qub F u n2 C) : Ct Tryz.prog 39 [v, u] F [] (fun F' _ r => u9f F' r (qkc n1 A n2 C)) := by
 obtain ⟨pv, rfl, hpv⟩ := hv
 obtain ⟨pu, rfl, hpu⟩ := hu
 have hv0 := hpv
 have hu0 := hpu
 obtain ⟨ao, ca, rfl, -, -⟩ := hv0
 obtain ⟨co, cc, rfl, -, -⟩ := hu0
 refine Ct.enter Tryz.func39 rfl Tryz.ntmps39 rfl fun w0 a S => ?_
 refine q1i fun Z hZ => ?_
 (refine wbx S ?_; clear S a; intro b2 a w S)
 (refine wbx S ?_; clear S a; intro b3 a w S)
 (refine q0a S rfl rfl rfl rfl ?_; clear S a; intro b a w S)
 revert a; revert Z; refine go 13 ?_; intro Z hZ a S
 refine q00 S rfl ?_ ?_ <;> intro h
 ·(refine wp_seq_k ?_; intro Z hZ)
  (refine q5v [0, 1, 2, 3, 4, 5, 7] [1] [b2, b3] S mixed (by kernel_rfl) ?_; clear S; intro w S)
  refine q0r rfl rfl ?_
  (refine q2t S rfl rfl rfl rfl (fun _ S => q0w S rfl rfl rfl inferInstance rfl) ?_; clear S a; intro a S)
  refine q0y ?_
  first | (refine q0q S rfl rfl rfl rfl rfl (fun w' hw => hw.1) (fun w' S => q0f S rfl rfl (by rfl)) ?_; clear S a; intro a S) | (refine q0q S rfl rfl rfl rfl rfl (fun w' hw => hw.1) (fun w' S => q1v S rfl rfl (by rfl)) ?_; clear S a; intro a S) | (refine q0q S rfl rfl rfl rfl rfl (fun w' hw => hw.2.1) (fun w' S => q0f S rfl rfl (by rfl)) ?_; clear S a; intro a S) | (refine q0q S rfl rfl rfl rfl rfl (fun w' hw => hw.2.1) (fun w' S => q1v S rfl rfl (by rfl)) ?_; clear S a; intro a S)
  refine q0r rfl rfl ?_
  (refine q2t S rfl rfl rfl rfl (fun _ S => q0w S rfl rfl rfl inferInstance rfl) ?_; clear S a; intro a S)
  refine q0y ?_
  refine q0r rfl rfl ?_
  first | (refine q8u S rfl rfl rfl rfl (q0f S rfl rfl (by rfl)) ?_; clear S a; intro a S) | (refine q8u S rfl rfl rfl rfl (q05 S rfl rfl (by assumption)) ?_; clear S a; intro a S)
  refine q0y ?_
  refine q0r rfl rfl ?_
  (refine q2t S rfl rfl rfl rfl (fun _ S => q0w S rfl rfl rfl inferInstance rfl) ?_; clear S a; intro a S)
  refine q0y ?_
  refine q0r rfl rfl ?_
  first | (refine q8u S rfl rfl rfl rfl (q0f S rfl rfl (by rfl)) ?_; clear S a; intro a S) | (refine q8u S rfl rfl rfl rfl (q05 S rfl rfl (by assumption)) ?_; clear S a; intro a S)
  refine q0y ?_
  refine q2q rfl ⟨S.has inferInstance, S.has inferInstance, trivial⟩ ?_
  (refine wcF S (u1r A C _ _ F hlA hlC hpv hpu) ?_; clear S a; intro v F1 a w hv hF1 S; have hv0 := hv; obtain ⟨ro, rc, rfl, -, -⟩ := hv0)
  refine wpList_nil ?_
  refine q0r rfl rfl ?_
  (refine q2t S rfl rfl rfl rfl (fun _ S => q74 S rfl rfl rfl) ?_; clear S a; intro a S)
  refine q0y ?_
  refine q2q rfl ⟨S.has inferInstance, S.has inferInstance, trivial⟩ ?_
  (refine wso S rfl rfl ?_; clear S; intro w S)
  refine wpList_nil ?_
  refine q5s ⟨S.has inferInstance, S.has inferInstance, trivial⟩ ?_
  (refine hZ _ _ ?_; clear hZ Z)
  refine wp_ret (q08 S (q0c Tryz.results39 (RV.cellO S rfl (by rfl))) ?_)
  exact qgz
 revert a; refine go 5 ?_; intro Z hZ a S
 (refine wc0 S (qx5 A C _ _ F hlA hlC hpv hpu) ?_; clear S a; intro v a w hv S; subst hv)
 revert a; revert Z; refine go 4 ?_; intro a S
 refine q00 S rfl ?_ ?_ <;> intro h
 ·(refine wp_seq_k ?_; intro Z hZ)
  (refine q5v [0, 1, 2, 3, 4, 5, 7] [1] [b2, b3] S mixed (by kernel_rfl) ?_; clear S; intro w S)
  refine q0r rfl rfl ?_
  (refine q2t S rfl rfl rfl rfl (fun _ S => q0w S rfl rfl rfl inferInstance rfl) ?_; clear S a; intro a S)
  refine q0y ?_
  first | (refine q0q S rfl rfl rfl rfl rfl (fun w' hw => hw.1) (fun w' S => q0f S rfl rfl (by rfl)) ?_; clear S a; intro a S) | (refine q0q S rfl rfl rfl rfl rfl (fun w' hw => hw.1) (fun w' S => q1v S rfl rfl (by rfl)) ?_; clear S a; intro a S) | (refine q0q S rfl rfl rfl rfl rfl (fun w' hw => hw.2.1) (fun w' S => q0f S rfl rfl (by rfl)) ?_; clear S a; intro a S) | (refine q0q S rfl rfl rfl rfl rfl (fun w' hw => hw.2.1) (fun w' S => q1v S rfl rfl (by rfl)) ?_; clear S a; intro a S)
  refine q0r rfl rfl ?_
  (refine q2t S rfl rfl rfl rfl (fun _ S => q0w S rfl rfl rfl inferInstance rfl) ?_; clear S a; intro a S)
  refine q0y ?_
  refine q0r rfl rfl ?_
  first | (refine q8u S rfl rfl rfl rfl (q0f S rfl rfl (by rfl)) ?_; clear S a; intro a S) | (refine q8u S rfl rfl rfl rfl (q05 S rfl rfl (by assumption)) ?_; clear S a; intro a S)
  refine q0y ?_
  refine q0r rfl rfl ?_
  (refine q2t S rfl rfl rfl rfl (fun _ S => q0w S rfl rfl rfl inferInstance rfl) ?_; clear S a; intro a S)
  refine q0y ?_
  refine q0r rfl rfl ?_
  first | (refine q8u S rfl rfl rfl rfl (q0f S rfl rfl (by rfl)) ?_; clear S a; intro a S) | (refine q8u S rfl rfl rfl rfl (q05 S rfl rfl (by assumption)) ?_; clear S a; intro a S)
  refine q0y ?_
  refine q2q rfl ⟨S.has inferInstance, S.has inferInstance, trivial⟩ ?_
  (first | (refine wcF S (qdi A C _ _ F (qu7 h) hlA hlC hpv hpu) ?_; clear S a; intro v F1 a w hv hF1 S; have hv0 := hv; obtain ⟨ro, rc, rfl, -, -⟩ := hv0) | (refine wcF S (qdi C A _ _ F (quq h) hlC hlA hpu hpv) ?_; clear S a; intro v F1 a w hv hF1 S; have hv0 := hv; obtain ⟨ro, rc, rfl, -, -⟩ := hv0))
  refine wpList_nil ?_
  refine q0r rfl rfl ?_
  (refine q2t S rfl rfl rfl rfl (fun _ S => q74 S rfl rfl rfl) ?_; clear S a; intro a S)
  refine q0y ?_
  refine q2q rfl ⟨S.has inferInstance, S.has inferInstance, trivial⟩ ?_
  (refine wso S rfl rfl ?_; clear S; intro w S)
  refine wpList_nil ?_
  refine q5s ⟨S.has inferInstance, S.has inferInstance, trivial⟩ ?_
  (refine hZ _ _ ?_; clear hZ Z)
  refine wp_ret (q08 S (q0c Tryz.results39 (RV.cellO S rfl (by rfl))) ?_)
  exact qgz
 refine wp_skip ?_
 (refine hZ _ _ ?_; clear hZ Z)
 (refine wp_seq_k ?_; intro Z hZ)
 (refine q5v [0, 1, 2, 3, 4, 5, 7] [1] [b2, b3] S mixed (by kernel_rfl) ?_; clear S; intro w S)
 refine q0r rfl rfl ?_
 (refine q2t S rfl rfl rfl rfl (fun _ S => q0w S rfl rfl rfl inferInstance rfl) ?_; clear S a; intro a S)
 refine q0y ?_
 first | (refine q0q S rfl rfl rfl rfl rfl (fun w' hw => hw.1) (fun w' S => q0f S rfl rfl (by rfl)) ?_; clear S a; intro a S) | (refine q0q S rfl rfl rfl rfl rfl (fun w' hw => hw.1) (fun w' S => q1v S rfl rfl (by rfl)) ?_; clear S a; intro a S) | (refine q0q S rfl rfl rfl rfl rfl (fun w' hw => hw.2.1) (fun w' S => q0f S rfl rfl (by rfl)) ?_; clear S a; intro a S) | (refine q0q S rfl rfl rfl rfl rfl (fun w' hw => hw.2.1) (fun w' S => q1v S rfl rfl (by rfl)) ?_; clear S a; intro a S)
 refine q0r rfl rfl ?_
 (refine q2t S rfl rfl rfl rfl (fun _ S => q0w S rfl rfl rfl inferInstance rfl) ?_; clear S a; intro a S)
 refine q0y ?_
 refine q0r rfl rfl ?_
 first | (refine q8u S rfl rfl rfl rfl (q0f S rfl rfl (by rfl)) ?_; clear S a; intro a S) | (refine q8u S rfl rfl rfl rfl (q05 S rfl rfl (by assumption)) ?_; clear S a; intro a S)
 refine q0y ?_
 refine q0r rfl rfl ?_
 (refine q2t S rfl rfl rfl rfl (fun _ S => q0w S rfl rfl rfl inferInstance rfl) ?_; clear S a; intro a S)
 refine q0y ?_
 refine q0r rfl rfl ?_
 first | (refine q8u S rfl rfl rfl rfl (q0f S rfl rfl (by rfl)) ?_; clear S a; intro a S) | (refine q8u S rfl rfl rfl rfl (q05 S rfl rfl (by assumption)) ?_; clear S a; intro a S)
 refine q0y ?_
 refine q2q rfl ⟨S.has inferInstance, S.has inferInstance, trivial⟩ ?_
 (first | (refine wcF S (qdi A C _ _ F (qu7 h) hlA hlC hpv hpu) ?_; clear S a; intro v F1 a w hv hF1 S; have hv0 := hv; obtain ⟨ro, rc, rfl, -, -⟩ := hv0) | (refine wcF S (qdi C A _ _ F (quq h) hlC hlA hpu hpv) ?_; clear S a; intro v F1 a w hv hF1 S; have hv0 := hv; obtain ⟨ro, rc, rfl, -, -⟩ := hv0))
 refine wpList_nil ?_
 refine q0r rfl rfl ?_
 (refine q2t S rfl rfl rfl rfl (fun _ S => q74 S rfl rfl rfl) ?_; clear S a; intro a S)
 refine q0y ?_
 refine q2q rfl ⟨S.has inferInstance, S.has inferInstance, trivial⟩ ?_
 (refine wso S rfl rfl ?_; clear S; intro w S)
 refine wpList_nil ?_
 refine q5s ⟨S.has inferInstance, S.has inferInstance, trivial⟩ ?_
 (refine hZ _ _ ?_; clear hZ Z)
 refine wp_ret (q08 S (q0c Tryz.results39 (RV.cellO S rfl (by rfl))) ?_)
 exact qgz
def q66 (s t : List UInt8) : Int := if q0p s = 0 then q0p t else q0p s
def qlb (F : q01) (u : Value) (s t : List UInt8) : Prop :=
 if q66 s t = 0 then ∃ p q, u = .tuple ⟨[.agg ⟨[.bool (q34 s), p]⟩, .agg ⟨[.bool (q34 t), q]⟩, .int .i64 0]⟩ ∧ Mag F p (q14 (q0m s)) ∧ Mag F q (q14 (q0m t))
 else u = .tuple ⟨[.agg ⟨[.bool false, .slice none 0 0]⟩, .agg ⟨[.bool false, .slice none 0 0]⟩, .int .i64 (q66 s t)]⟩
theorem qpj {p : Prop} (h : p := by (first | (unfold qlb; rw [if_pos (by unfold q66; rw [if_pos (hc1 (by omega))]; exact hc2 (by omega))]; exact ⟨_, _, rfl, hpp.mono hF2, hpq⟩) | (have hbe : q66 s t = q0p x := (by unfold q66; rcases hx0 with ⟨h8, rfl⟩ | ⟨h8, rfl⟩; (rw [if_neg h]); (rw [if_pos (hc1 (by omega))])); unfold qlb; rw [if_neg (by rw [hbe]; exact h), hbe]; rfl))) : p := h
theorem qvo (s t : List UInt8) (F : q01) (hs : s.length ≤ 1000000000) (ht : t.length ≤ 1000000000) : Ct Tryz.prog 37 [.string (bs s), .string (bs t)] F [] (fun F' _ u => qlb F' u s t) := by
 refine Ct.enter Tryz.func37 rfl Tryz.ntmps37 rfl fun w0 a S => ?_
 refine q1i fun Z hZ => ?_
 (refine q0a S rfl rfl rfl rfl ?_; clear S a; intro b4 a w S)
 (refine q0a S rfl rfl rfl rfl ?_; clear S a; intro b5 a w S)
 revert a; revert Z; refine go 7 ?_; intro Z hZ Z hZ a S
 (refine wv S (qn9 S rfl rfl rfl (by simp [Value.cells]) rfl) ?_; clear S a; intro a S)
 revert a; revert Z; refine go 4 ?_; intro a S
 refine q04 (fun m a w' => ∃ (i : Nat), m = 2 - i ∧ i ≤ 2 ∧ (0 < i → q0p s = 0) ∧ (1 < i → q0p t = 0) ∧ St 28 [(0, .string (bs s)), (1, .string (bs t)), (4, .pointer (some ⟨b4, 0, none⟩)), (5, .pointer (some ⟨b5, 0, none⟩)), (12, .agg ⟨[.string (bs s), .string (bs t)]⟩), (13, .int .i64 i)] w0 F [] F [[(b5, .cells ⟨[.bool false, .slice none 0 0]⟩ 86 (0, 0))], [(b4, .cells ⟨[.bool false, .slice none 0 0]⟩ 86 (0, 0))]] a w') ?_ ?_
 ·(refine ⟨2, 0, rfl, by omega, by omega, by omega, ?_⟩; refine S.keep ?_; exact zk)
 (clear S; rintro m a w ⟨i, rfl, hi, hc1, hc2, S⟩)
 revert a; refine go 5 ?_; intro Z hZ a S
 refine q00 S rfl ?_ ?_ <;> intro h
 ·revert a; revert Z; refine go 5 ?_; intro Z hZ Z hZ a S
  (obtain ⟨x, hxe, hx, hx0⟩ : ∃ x : List UInt8, ([.string (bs s), .string (bs t)] : List Value)[i]? = some (.string (bs x)) ∧ x.length ≤ 1000000000000 ∧ ((i = 0 ∧ x = s) ∨ (i = 1 ∧ x = t)) := (by rcases Nat.lt_or_ge i 1 with h9 | h9; (have h8 : i = 0 := (by omega); subst h8; exact ⟨s, rfl, by omega, Or.inl ⟨rfl, rfl⟩⟩); (have h8 : i = 1 := (by omega); subst h8; exact ⟨t, rfl, by omega, Or.inr ⟨rfl, rfl⟩⟩))); (refine wv S (qma S rfl rfl rfl (by omega) hxe) ?_; clear S a; intro a S)
  revert a; revert Z; refine go 5 ?_; intro Z hZ a S
  (refine wc0 S (qbv x F (by omega)) ?_; clear S a; intro v a w hv S; subst hv)
  revert a; revert Z; refine go 8 ?_; intro a S
  refine q00 S rfl ?_ ?_ <;> intro h
  ·revert a; refine go 4 ?_; intro Z hZ a S
   iterate 2 (refine wso S rfl rfl ?_; clear S; intro w S)
   revert a; revert Z; refine go 3 ?_; intro a S
   refine wp_ret (q08 S (q6x Tryz.results37 (RV.cellO S rfl (by rfl)) (RV.cellO S rfl (by rfl)) (RV.tmp S rfl)) ?_)
   exact qpj
  revert a; revert Z; refine go 6 ?_; intro a S
  change ∃ m', _ ∧ _
  (refine ⟨2 - (i + 1), by omega, i + 1, rfl, by omega, ?_, ?_, ?_⟩; rotate_left 2; (refine S.keep ?_; exact zk); (intro h8; rcases hx0 with ⟨h9, rfl⟩ | ⟨h9, rfl⟩; exact h; exact hc1 (by omega)); (intro h8; rcases hx0 with ⟨h9, rfl⟩ | ⟨h9, rfl⟩; omega; exact h))
 (refine wp_exit ?_; conv => whnf)
 clear hZ Z
 revert a; revert Z; refine go 3 ?_; intro Z hZ a S
 (first | (refine wcF S (u46 t F1 hct) ?_; clear S a; intro v2 F2 a w hv2 hF2 S; obtain ⟨pq, rfl, hpq⟩ := hv2; have hpq0 := hpq; obtain ⟨qo, qc, rfl, -, -⟩ := hpq0) | (refine wcF S (u46 s F (hc1 (by omega))) ?_; clear S a; intro v F1 a w hv hF1 S; have hct := hc2 (by omega); obtain ⟨pp, rfl, hpp⟩ := hv; have hpp0 := hpp; obtain ⟨po, pc, rfl, -, -⟩ := hpp0))
 revert a; refine go 1 ?_; intro a S
 (first | (refine wcF S (u46 t F1 hct) ?_; clear S a; intro v2 F2 a w hv2 hF2 S; obtain ⟨pq, rfl, hpq⟩ := hv2; have hpq0 := hpq; obtain ⟨qo, qc, rfl, -, -⟩ := hpq0) | (refine wcF S (u46 s F (hc1 (by omega))) ?_; clear S a; intro v F1 a w hv hF1 S; have hct := hc2 (by omega); obtain ⟨pp, rfl, hpp⟩ := hv; have hpp0 := hpp; obtain ⟨po, pc, rfl, -, -⟩ := hpp0))
 iterate 2 (refine wso S rfl rfl ?_; clear S; intro w S)
 revert a; revert Z; refine go 3 ?_; intro a S
 refine wp_ret (q08 S (q6x Tryz.results37 (RV.cellO S rfl (by rfl)) (RV.cellO S rfl (by rfl)) (RV.tmp S rfl)) ?_)
 exact qpj
theorem q3b (b : Nat) (p v : Value) (k : Nat) (l s : List UInt8) (g : Grp) (F : q01) (hp : qzm b p) (hown : q0u 5 1 v k (u8c l) g) (hs : 0 < s.length) (hk : k + s.length ≤ 1000000000) :
  Ct Tryz.prog 63 [.pointer (some ⟨b, 0, none⟩), .string (bs s)] F [q1x b p v, g] (fun _ G' _ => ∃ v' g', G' = [q1x b (.pointer (some ⟨b, 0, none⟩)) v', g'] ∧ q0u 5 1 v' (k + s.length) (u8c (l ++ s)) g') := by
 refine Ct.enter Tryz.func63 rfl Tryz.ntmps63 rfl fun w0 a S => ?_
 revert a; refine go 7 ?_; intro Z hZ a S
 (refine q02 (Gs := [q1x b p v]) (Gr := [g]) S rfl rfl rfl rfl rfl rfl (q6i b p v F hp) rfl (by simp) ?_; clear S a; intro u G1 a w hv1 S; subst hv1; replace S : St _ _ _ _ _ _ [[(b, .cells ⟨[.pointer (some ⟨b, 0, none⟩), v]⟩ 109 (0, 0))], g] _ _ := S)
 revert a; revert Z; refine go 9 ?_; intro Z hZ a S
 (refine q71 S rfl rfl rfl rfl rfl rfl hown (by rfl) (by omega) (by omega) (by omega) ?_; clear hown S a; intro v1 g1 a w hown S)
 revert a; refine go 2 ?_; intro a S
 (refine q0e S rfl rfl rfl rfl rfl hown.oneCell (by simp) ?_; clear S; intro w S)
 revert a; revert Z; refine go 9 ?_; intro a S
 refine wp_ret (fr2 S Tryz.results63 ?_)
 (refine ⟨_, _, rfl, ?_⟩; unfold u8c; rw [List.map_append]; exact hown)
theorem qtx (b : Nat) (p v : Value) (k : Nat) (l : List UInt8) (g : Grp) (F : q01) (hown : q0u 5 1 v k (u8c l) g) :
  Ct Tryz.prog 64 [.pointer (some ⟨b, 0, none⟩)] F [q1x b p v, g] (fun _ G' u => u = .int .i64 k ∧ G' = [q1x b p v, g]) := by
 obtain ⟨ao, cap, rfl, -, -, -⟩ := hown.at
 (refine Ct.enter Tryz.func64 rfl Tryz.ntmps64 rfl fun w0 a S => ?_); replace S : St _ _ _ _ _ _ [[(b, .cells ⟨[p, .slice ao k cap]⟩ 109 (0, 0))], g] _ _ := S
 revert a; refine go 13 ?_; intro a S
 refine wp_ret (fr1 S Tryz.results64 ?_)
 exact ⟨rfl, rfl⟩
theorem q8h (b : Nat) (p v : Value) (k : Nat) (l : List UInt8) (g : Grp) (F : q01) (hk : k ≤ 1000000000) (h0 : 0 < k) (hown : q0u 5 1 v k (u8c l) g) :
  Ct Tryz.prog 65 [.pointer (some ⟨b, 0, none⟩)] F [q1x b p v, g] (fun _ _ u => u = .string (bs l)) := by
 obtain ⟨ao, cap, rfl, hcap, -, hpos⟩ := hown.at
 obtain ⟨br, rfl⟩ := hpos h0
 (refine Ct.enter Tryz.func65 rfl Tryz.ntmps65 rfl fun w0 a S => ?_); replace S : St _ _ _ _ _ _ [[(b, .cells ⟨[p, .slice (some ⟨br, 0, none⟩) k cap]⟩ 109 (0, 0))], g] _ _ := S
 revert a; refine go 4 ?_; intro a S
 (refine wp_seq_k ?_; intro Z hZ)
 (refine q5v [0, 1, 2, 3, 4, 5, 6, 7, 8, 9] [3, 4, 8, 9] [b] S mixed (by kernel_rfl) ?_; clear S; intro w S)
 refine q0r rfl rfl ?_
 (refine q2t S rfl rfl rfl rfl (fun _ S => q09 S rfl) ?_; clear S a; intro a S)
 refine q0y ?_
 refine q0r rfl rfl ?_
 (refine q2t S rfl rfl rfl rfl (fun _ S => q2i S rfl rfl) ?_; clear S a; intro a S)
 refine q0y ?_
 refine q0r rfl rfl ?_
 (refine q2t S rfl rfl rfl rfl (fun _ S => q0w S rfl rfl rfl inferInstance rfl) ?_; clear S a; intro a S)
 refine q0y ?_
 first | (refine q0q S rfl rfl rfl rfl rfl (fun w' hw => hw.1) (fun w' S => q0f S rfl rfl (by rfl)) ?_; clear S a; intro a S) | (refine q0q S rfl rfl rfl rfl rfl (fun w' hw => hw.1) (fun w' S => q1v S rfl rfl (by rfl)) ?_; clear S a; intro a S)
 (refine q0q S rfl rfl rfl rfl rfl (fun w' hw => hw.1) (fun w' S => q8o S rfl rfl (by omega)) ?_; clear S a; intro a S)
 refine q0r rfl rfl ?_
 (refine q2t S rfl rfl rfl rfl (fun _ S => q09 S rfl) ?_; clear S a; intro a S)
 refine q0y ?_
 refine q0r rfl rfl ?_
 (refine q2t S rfl rfl rfl rfl (fun _ S => q2i S rfl rfl) ?_; clear S a; intro a S)
 refine q0y ?_
 refine q0r rfl rfl ?_
 (refine q2t S rfl rfl rfl rfl (fun _ S => q0w S rfl rfl rfl inferInstance rfl) ?_; clear S a; intro a S)
 refine q0y ?_
 first | (refine q0q S rfl rfl rfl rfl rfl (fun w' hw => hw.1) (fun w' S => q0f S rfl rfl (by rfl)) ?_; clear S a; intro a S) | (refine q0q S rfl rfl rfl rfl rfl (fun w' hw => hw.1) (fun w' S => q1v S rfl rfl (by rfl)) ?_; clear S a; intro a S)
 (refine q0q S rfl rfl rfl rfl rfl (fun w' hw => hw.1) (fun w' S => q7n S rfl rfl) ?_; clear S a; intro a S)
 refine q2q rfl ⟨S.has inferInstance, trivial⟩ ?_
 (refine q4x S rfl rfl rfl rfl rfl rfl hown (by kernel_rfl) h0 (by omega) ?_; clear S a; intro a w S)
 refine wpList_nil ?_
 refine q2q rfl ⟨S.has inferInstance, trivial⟩ ?_
 revert a; refine go 2 ?_; intro a S
 refine q5s ⟨S.has inferInstance, trivial⟩ ?_
 (refine hZ _ _ ?_; clear hZ Z)
 refine wp_ret (fr1 S Tryz.results65 ?_)
 rfl
