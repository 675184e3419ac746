/- Walks: form, fits, Check. Walks: the law's own copies of what came in: Own, bindings. Walk: bindings. Walk: vars: the names of an expression's variables. -/
import Derived.Test.YtigblodhdfnleaaGreatDoorEwE
import Derived.Test.YtigblodhdfnleaaGreatDoorEwA
namespace Go.Proofs.YtigblodhdfnleaaGreatDoor
open Go Go.Wk Go.Un Go.De Go.Num
set_option linter.unusedSimpArgs false
set_option linter.unusedVariables false
attribute [local irreducible] Go.wpList Go.Code.wp Go.wpStill Go.Wk.wpPre Go.bodyPost Go.Calls Go.Wk.Ct Go.Wk.OwnS
attribute [local irreducible] Go.Wk.wpG Go.Wk.wpM

theorem bd {b : Bool} {p : Prop} [Decidable p] (h : b = true ↔ p) : b = decide p := by rw [Bool.eq_iff_iff, decide_eq_true_eq]; exact h
theorem rF1 {h : VH} {n : Nat} (k : h.k = 1) : rformH h n = decide ((h.n = 0 ∨ h.n = 1) ∧ h.s = [] ∧ n = 0) := by unfold rformH; rw [if_pos k]
theorem rF2 {h : VH} {n : Nat} (k : h.k = 2) : rformH h n = decide (h.s = [] ∧ n = 0) := by unfold rformH; rw [if_neg (by omega), if_pos k]
theorem rF3 {h : VH} {n : Nat} (k : h.k = 3) : rformH h n = (decide (h.n = 0 ∧ n = 0) && rnum h.s) := by unfold rformH; rw [if_neg (by omega), if_neg (by omega), if_pos k]
theorem rF4 {h : VH} {n : Nat} (k : h.k = 4) : rformH h n = decide (h.n = 0 ∧ n = 0) := by unfold rformH; rw [if_neg (by omega), if_neg (by omega), if_neg (by omega), if_pos k]
theorem rF5 {h : VH} {n : Nat} (k : h.k = 5) : rformH h n = decide (h.n = 0 ∧ h.s = [] ∧ n ≠ 1) := by unfold rformH; rw [if_neg (by omega), if_neg (by omega), if_neg (by omega), if_neg (by omega), if_pos k]
theorem rF6 {h : VH} {n : Nat} (k : h.k = 6) : rformH h n = (decide (h.n = 0) && rnamesS h.s) := by unfold rformH; rw [if_neg (by omega), if_neg (by omega), if_neg (by omega), if_neg (by omega), if_neg (by omega), if_pos k]
theorem rF0 {h : VH} {n : Nat} (k : h.k ≠ 1 ∧ h.k ≠ 2 ∧ h.k ≠ 3 ∧ h.k ≠ 4 ∧ h.k ≠ 5 ∧ h.k ≠ 6) : rformH h n = false := by unfold rformH; rw [if_neg k.1, if_neg k.2.1, if_neg k.2.2.1, if_neg k.2.2.2.1, if_neg k.2.2.2.2.1, if_neg k.2.2.2.2.2]
theorem rformL_drop {l : Vf} {k : Nat} {x : Vv} (h : l.get? k = some x) : rformL (l.drop k) = ((rformH x.1 x.2.len && rformL x.2) && rformL (l.drop (k + 1))) := by rw [Rose.drop_get h]; rfl
theorem rfitsL_drop {l : Vf} {k : Nat} {x : Vv} (h : l.get? k = some x) : rfitsL (l.drop k) = ((rfitsH x.1 x.2.len && rfitsL x.2) && rfitsL (l.drop (k + 1))) := by rw [Rose.drop_get h]; rfl
theorem zzEwF0 {p : Prop} (h : p := by (congr 1; rw [← hfp]; first | (rw [(by assumption : t = false), Bool.false_and]; done) | (rw [Rose.drop_len (by omega)]; exact (Bool.and_true _).symm) | trace_state)) : p := h
theorem zzEwF1 {p : Prop} (h : p := by (apply Exists.intro; apply And.intro; rotate_left 1; (refine S.keep ?_; repeat (first | exact trivial | refine ⟨rfl, ?_⟩)); first | (rw [rF0 (show xk ≠ 1 ∧ xk ≠ 2 ∧ xk ≠ 3 ∧ xk ≠ 4 ∧ xk ≠ 5 ∧ xk ≠ 6 by omega)]; done) | (rw [rF1 (show xk = 1 by omega)]; exact (decide_eq_false (fun h9 => by dsimp only at h9; omega)).symm) | (rw [rF1 (show xk = 1 by omega)]; dsimp only; (refine bd ?_; by_cases hxs : xs = []; ((simp only [hxs, beq_iff_eq, bne_iff_ne, ne_eq, true_and, and_true, Bool.false_eq_true]) <;> first | omega | exact absurd hxs (by assumption)); ((simp only [hxs, beq_iff_eq, bne_iff_ne, ne_eq, false_and, and_false, Bool.false_eq_true, iff_false, iff_true]) <;> first | omega | exact absurd (by assumption) hxs)); done) | (rw [rF2 (show xk = 2 by omega)]; exact (decide_eq_false (fun h9 => by dsimp only at h9; omega)).symm) | (rw [rF2 (show xk = 2 by omega)]; dsimp only; (refine bd ?_; by_cases hxs : xs = []; ((simp only [hxs, beq_iff_eq, bne_iff_ne, ne_eq, true_and, and_true, Bool.false_eq_true]) <;> first | omega | exact absurd hxs (by assumption)); ((simp only [hxs, beq_iff_eq, bne_iff_ne, ne_eq, false_and, and_false, Bool.false_eq_true, iff_false, iff_true]) <;> first | omega | exact absurd (by assumption) hxs)); done) | (rw [rF3 (show xk = 3 by omega)]; dsimp only; first | (rw [decide_eq_true (by omega), Bool.true_and]; done) | (rw [decide_eq_false (by omega), Bool.false_and]; done)) | (rw [rF4 (show xk = 4 by omega)]; exact (decide_eq_false (fun h9 => by dsimp only at h9; omega)).symm) | (rw [rF4 (show xk = 4 by omega)]; dsimp only; (refine bd ?_; by_cases hxs : xs = []; ((simp only [hxs, beq_iff_eq, bne_iff_ne, ne_eq, true_and, and_true, Bool.false_eq_true]) <;> first | omega | exact absurd hxs (by assumption)); ((simp only [hxs, beq_iff_eq, bne_iff_ne, ne_eq, false_and, and_false, Bool.false_eq_true, iff_false, iff_true]) <;> first | omega | exact absurd (by assumption) hxs)); done) | (rw [rF5 (show xk = 5 by omega)]; exact (decide_eq_false (fun h9 => by dsimp only at h9; omega)).symm) | (rw [rF5 (show xk = 5 by omega)]; dsimp only; (refine bd ?_; by_cases hxs : xs = []; ((simp only [hxs, beq_iff_eq, bne_iff_ne, ne_eq, true_and, and_true, Bool.false_eq_true]) <;> first | omega | exact absurd hxs (by assumption)); ((simp only [hxs, beq_iff_eq, bne_iff_ne, ne_eq, false_and, and_false, Bool.false_eq_true, iff_false, iff_true]) <;> first | omega | exact absurd (by assumption) hxs)); done) | (rw [rF6 (show xk = 6 by omega)]; dsimp only; first | (rw [decide_eq_true (by omega), Bool.true_and]; done) | (rw [decide_eq_false (by omega), Bool.false_and]; done)) | trace_state)) : p := h
set_option maxRecDepth 20000 in
set_option maxHeartbeats 16000000 in
theorem rformCt : ∀ (n : Nat) (F : Heap) (x : Vv) (cs : List Value), x.2.size < n → VaC F cs x.1 x.2 → Ct Tryz.prog 31 [.agg ⟨cs⟩] F [] (fun _ _ u => u = .bool (rformH x.1 x.2.len && rformL x.2)) := by
  intro n
  induction n with
  | zero => intro F x cs hn; omega
  | succ n ih =>
  intro F x cs hn hV
  obtain ⟨⟨xk, xn, xs⟩, xl⟩ := x
  obtain ⟨v1, rfl, ⟨ao, cap, rfl, hcap, hpos⟩, hs1⟩ := hV
  dsimp only at *
  refine Ct.enter Tryz.func31 rfl Tryz.ntmps31 rfl fun w0 a S => ?_
  refine wp_sr fun Z hZ => ?_
  (refine wpl_box S rfl rfl rfl rfl rfl ?_; clear S a; intro b1 a w S)
  (revert S a; revert hZ Z; refine go10 7 ?_; intro a S)
  (refine wp_seq_k ?_; intro Z hZ)
  replace hZ : ∀ (a' : Act) (w' : World), (∃ (t : Bool), t = rformH ⟨xk, xn, xs⟩ xl.len ∧ St 109 [(1, ptr b1), (3, .bool t)] w0 F [] F [[(b1, .cells ⟨[.int .u8 (xk : Int), .int .i64 xn, .string (bs xs), .slice ao xl.len cap]⟩ 26 (0, 0))]] a' w') → Z a' w' := (by
   (intro a w hM; refine hZ _ _ ?_; clear hZ Z; clear S; obtain ⟨t, ht, S⟩ := hM)
   (revert S a; refine go01 6 ?_; intro Z hZ a S)
   refine wpc_loop (fun m a w' => ∃ (k : Nat) (t : Bool), m = xl.len - k ∧ k ≤ xl.len ∧ (t && rformL (xl.drop k)) = (rformH ⟨xk, xn, xs⟩ xl.len && rformL xl) ∧ St 109 [(1, ptr b1), (3, .bool t), (4, .int .i64 (k : Int))] w0 F [] F [[(b1, .cells ⟨[.int .u8 (xk : Int), .int .i64 xn, .string (bs xs), .slice ao xl.len cap]⟩ 26 (0, 0))]] a w') ?_ ?_
   · (refine ⟨xl.len, 0, t, by omega, Nat.zero_le _, by rw [ht]; rfl, ?_⟩; refine S.keep ?_; repeat (first | exact trivial | refine ⟨rfl, ?_⟩))
   (clear S; rintro m a w ⟨k, t, rfl, hkl, hfp, S⟩)
   (revert S a; refine go02 8 ?_; intro Z hZ Z hZ a S)
   refine wpl_guard S rfl rfl rfl rfl rfl ?_ ?_
   · (clear S; intro h S; (try simp only [tq] at h))
     (revert S a; revert hZ Z; refine go10 4 ?_; intro a S)
     refine wpc_split S rfl (fun h => ?_) (fun h => ?_)
     · (skip; (try simp only [tq] at h))
       (revert S a; revert hZ Z; refine go11 4 ?_; intro Z hZ a S)
       (obtain ⟨b8, o8, hao, x, cs1, v1, hx, hc1, hw9, hT1⟩ := TrM.pos hpos (k := k) (by omega); rw [hao] at S; have hxs := Rose.size_get hx; have hT1c := hT1; obtain ⟨a91, c91, rfl, -⟩ := hT1c; have hw9c := hw9.1; subst hw9c; (simp only [List.cons_append, List.nil_append] at hc1))
       (revert S a; refine go00 6 ?_; intro a S)
       (refine wpl_call0 S rfl rfl rfl rfl rfl rfl (ih F x _ (by omega) ⟨_, rfl, hT1, hw9.2⟩) rfl ?_; clear S a; intro v a w hv S; subst hv)
       (revert S a; revert hZ Z; refine go10 8 ?_; intro a S)
       change ∃ m', _ ∧ _
       (have ht1 : t = true := (by assumption); rw [← hao] at S; refine ⟨xl.len - (k + 1), by omega, k + 1, (rformH x.1 x.2.len && rformL x.2), rfl, by omega, ?_, ?_⟩; rotate_left 1; (refine S.keep ?_; repeat (first | exact trivial | refine ⟨rfl, ?_⟩)); rw [← hfp, rformL_drop hx, ht1, Bool.true_and])
     (skip; (try simp only [tq] at h))
     (refine wp_exit ?_; conv => whnf)
     clear hZ Z
     (revert S a; revert hZ Z; refine go10 6 ?_; intro a S)
     refine wp_ret (fin_ret S (results1 Tryz.results31 (RV.tmp S rfl)) ?_)
     exact zzEwF0
   (intro h; clear S a; intro a S; (try simp only [tq] at h))
   (revert S a; revert hZ Z; refine go10 3 ?_; intro a S)
   refine wpc_false S rfl ?_
   (refine wp_exit ?_; conv => whnf)
   clear hZ Z
   (revert S a; revert hZ Z; refine go10 6 ?_; intro a S)
   refine wp_ret (fin_ret S (results1 Tryz.results31 (RV.tmp S rfl)) ?_)
   (congr 1; rw [← hfp]; first | (rw [(by assumption : t = false), Bool.false_and]; done) | (rw [Rose.drop_len (by omega)]; exact (Bool.and_true _).symm) | trace_state))
  (revert S a; refine go00 11 ?_; intro a S)
  refine wpc_split S rfl (fun h => ?_) (fun h => ?_)
  · (skip; (try simp only [tq] at h))
    (revert S a; refine go00 5 ?_; intro a S)
    refine wpl_guard S rfl rfl rfl rfl rfl ?_ ?_
    · (clear S; intro h S; (try simp only [tq] at h))
      (revert S a; refine go00 7 ?_; intro a S)
      refine wpl_guard S rfl rfl rfl rfl rfl ?_ ?_
      · (clear S; intro h S; (try simp only [tq] at h))
        (revert S a; refine go00 7 ?_; intro a S)
        refine wpl_guard S rfl rfl rfl rfl rfl ?_ ?_
        · (clear S; intro h S; (try simp only [tq] at h))
          (revert S a; refine go00 10 ?_; intro a S)
          (refine hZ _ _ ?_)
          exact zzEwF1
        (intro h; clear S a; intro a S; (try simp only [tq] at h))
        (revert S a; refine go00 6 ?_; intro a S)
        (refine hZ _ _ ?_)
        exact zzEwF1
      (intro h; clear S a; intro a S; (try simp only [tq] at h))
      (revert S a; refine go00 11 ?_; intro a S)
      (refine hZ _ _ ?_)
      exact zzEwF1
    (intro h; clear S a; intro a S; (try simp only [tq] at h))
    (revert S a; refine go00 12 ?_; intro a S)
    refine wpl_guard S rfl rfl rfl rfl rfl ?_ ?_
    · (clear S; intro h S; (try simp only [tq] at h))
      (revert S a; refine go00 10 ?_; intro a S)
      (refine hZ _ _ ?_)
      exact zzEwF1
    (intro h; clear S a; intro a S; (try simp only [tq] at h))
    (revert S a; refine go00 6 ?_; intro a S)
    (refine hZ _ _ ?_)
    exact zzEwF1
  (skip; (try simp only [tq] at h))
  (revert S a; refine go00 5 ?_; intro a S)
  refine wpc_split S rfl (fun h => ?_) (fun h => ?_)
  · (skip; (try simp only [tq] at h))
    (revert S a; refine go00 5 ?_; intro a S)
    refine wpl_guard S rfl rfl rfl rfl rfl ?_ ?_
    · (clear S; intro h S; (try simp only [tq] at h))
      (revert S a; refine go00 10 ?_; intro a S)
      (refine hZ _ _ ?_)
      exact zzEwF1
    (intro h; clear S a; intro a S; (try simp only [tq] at h))
    (revert S a; refine go00 6 ?_; intro a S)
    (refine hZ _ _ ?_)
    exact zzEwF1
  (skip; (try simp only [tq] at h))
  (revert S a; refine go00 5 ?_; intro a S)
  refine wpc_split S rfl (fun h => ?_) (fun h => ?_)
  · (skip; (try simp only [tq] at h))
    (revert S a; refine go00 5 ?_; intro a S)
    refine wpl_guard S rfl rfl rfl rfl rfl ?_ ?_
    · (clear S; intro h S; (try simp only [tq] at h))
      (revert S a; refine go00 9 ?_; intro a S)
      refine wpl_guard S rfl rfl rfl rfl rfl ?_ ?_
      · (clear S; intro h S; (try simp only [tq] at h))
        (revert S a; refine go00 4 ?_; intro a S)
        (refine wpl_call0 S rfl rfl rfl rfl rfl rfl (rnumberCt F xs hs1) rfl ?_; clear S a; intro v a w hv S; subst hv)
        (revert S a; refine go00 3 ?_; intro a S)
        (refine hZ _ _ ?_)
        exact zzEwF1
      (intro h; clear S a; intro a S; (try simp only [tq] at h))
      (revert S a; refine go00 5 ?_; intro a S)
      (refine hZ _ _ ?_)
      exact zzEwF1
    (intro h; clear S a; intro a S; (try simp only [tq] at h))
    (revert S a; refine go00 11 ?_; intro a S)
    (refine hZ _ _ ?_)
    exact zzEwF1
  (skip; (try simp only [tq] at h))
  (revert S a; refine go00 5 ?_; intro a S)
  refine wpc_split S rfl (fun h => ?_) (fun h => ?_)
  · (skip; (try simp only [tq] at h))
    (revert S a; refine go00 5 ?_; intro a S)
    refine wpl_guard S rfl rfl rfl rfl rfl ?_ ?_
    · (clear S; intro h S; (try simp only [tq] at h))
      (revert S a; refine go00 10 ?_; intro a S)
      (refine hZ _ _ ?_)
      exact zzEwF1
    (intro h; clear S a; intro a S; (try simp only [tq] at h))
    (revert S a; refine go00 6 ?_; intro a S)
    (refine hZ _ _ ?_)
    exact zzEwF1
  (skip; (try simp only [tq] at h))
  (revert S a; refine go00 5 ?_; intro a S)
  refine wpc_split S rfl (fun h => ?_) (fun h => ?_)
  · (skip; (try simp only [tq] at h))
    (revert S a; refine go00 5 ?_; intro a S)
    refine wpl_guard S rfl rfl rfl rfl rfl ?_ ?_
    · (clear S; intro h S; (try simp only [tq] at h))
      (revert S a; refine go00 7 ?_; intro a S)
      refine wpl_guard S rfl rfl rfl rfl rfl ?_ ?_
      · (clear S; intro h S; (try simp only [tq] at h))
        (revert S a; refine go00 10 ?_; intro a S)
        (refine hZ _ _ ?_)
        exact zzEwF1
      (intro h; clear S a; intro a S; (try simp only [tq] at h))
      (revert S a; refine go00 6 ?_; intro a S)
      (refine hZ _ _ ?_)
      exact zzEwF1
    (intro h; clear S a; intro a S; (try simp only [tq] at h))
    (revert S a; refine go00 11 ?_; intro a S)
    (refine hZ _ _ ?_)
    exact zzEwF1
  (skip; (try simp only [tq] at h))
  (revert S a; refine go00 5 ?_; intro a S)
  refine wpc_split S rfl (fun h => ?_) (fun h => ?_)
  · (skip; (try simp only [tq] at h))
    (revert S a; refine go00 5 ?_; intro a S)
    refine wpl_guard S rfl rfl rfl rfl rfl ?_ ?_
    · (clear S; intro h S; (try simp only [tq] at h))
      (revert S a; refine go00 4 ?_; intro a S)
      (refine wpl_call0 S rfl rfl rfl rfl rfl rfl (rnamesCt F xs hs1) rfl ?_; clear S a; intro v a w hv S; subst hv)
      (revert S a; refine go00 3 ?_; intro a S)
      (refine hZ _ _ ?_)
      exact zzEwF1
    (intro h; clear S a; intro a S; (try simp only [tq] at h))
    (revert S a; refine go00 5 ?_; intro a S)
    (refine hZ _ _ ?_)
    exact zzEwF1
  (skip; (try simp only [tq] at h))
  refine wp_skip ?_
  (refine hZ _ _ ?_)
  exact zzEwF1
theorem rG3 {h : VH} {n : Nat} (k : h.k = 3) : rfitsH h n = decide (rdig h.s ≤ 200) := by unfold rfitsH; rw [if_pos k]
theorem rG4 {h : VH} {n : Nat} (k : h.k = 4) : rfitsH h n = decide (h.s.length ≤ 4096) := by unfold rfitsH; rw [if_neg (by omega), if_pos k]
theorem rG5 {h : VH} {n : Nat} (k : h.k = 5) : rfitsH h n = decide (n ≤ 16) := by unfold rfitsH; rw [if_neg (by omega), if_neg (by omega), if_pos k]
theorem rG6 {h : VH} {n : Nat} (k : h.k = 6) : rfitsH h n = decide (n ≤ 8) := by unfold rfitsH; rw [if_neg (by omega), if_neg (by omega), if_neg (by omega), if_pos k]
theorem rG0 {h : VH} {n : Nat} (k : h.k ≠ 3 ∧ h.k ≠ 4 ∧ h.k ≠ 5 ∧ h.k ≠ 6) : rfitsH h n = true := by unfold rfitsH; rw [if_neg k.1, if_neg k.2.1, if_neg k.2.2.1, if_neg k.2.2.2]
theorem rnum_ne {s : List UInt8} (h : rnum s = true) : s ≠ [] := by
  rintro rfl
  exact absurd h (by decide)
theorem rformL_get : ∀ {l : Vf} {k : Nat} {x : Vv}, rformL l = true → l.get? k = some x → (rformH x.1 x.2.len && rformL x.2) = true
  | .cons h L r, 0, x, hf, e => by
    cases e
    unfold rformL at hf
    rw [Bool.and_eq_true] at hf
    exact hf.1
  | .cons h L r, k + 1, x, hf, e => by
    unfold rformL at hf
    rw [Bool.and_eq_true] at hf
    exact rformL_get (l := r) hf.2 e
theorem zzEwF2 {p : Prop} (h : p := by (apply Exists.intro; apply And.intro; rotate_left 1; (refine S.keep ?_; repeat (first | exact trivial | refine ⟨rfl, ?_⟩)); first | (rw [rG0 (show xk ≠ 3 ∧ xk ≠ 4 ∧ xk ≠ 5 ∧ xk ≠ 6 by omega)]; done) | (rw [rG3 (show xk = 3 by omega)]; done) | (rw [rG4 (show xk = 4 by omega)]; (try dsimp only); exact decide_eq_decide.2 (by omega)) | (rw [rG5 (show xk = 5 by omega)]; (try dsimp only); exact decide_eq_decide.2 (by omega)) | (rw [rG6 (show xk = 6 by omega)]; (try dsimp only); exact decide_eq_decide.2 (by omega)) | trace_state)) : p := h
set_option maxRecDepth 20000 in
set_option maxHeartbeats 16000000 in
theorem rfitsCt : ∀ (n : Nat) (F : Heap) (x : Vv) (cs : List Value), x.2.size < n → (rformH x.1 x.2.len && rformL x.2) = true → VaC F cs x.1 x.2 → Ct Tryz.prog 32 [.agg ⟨cs⟩] F [] (fun _ _ u => u = .bool (rfitsH x.1 x.2.len && rfitsL x.2)) := by
  intro n
  induction n with
  | zero => intro F x cs hn; omega
  | succ n ih =>
  intro F x cs hn hf hV
  obtain ⟨⟨xk, xn, xs⟩, xl⟩ := x
  obtain ⟨v1, rfl, ⟨ao, cap, rfl, hcap, hpos⟩, hs1⟩ := hV
  dsimp only at *
  rw [Bool.and_eq_true] at hf
  have hne : xk = 3 → xs ≠ [] := fun h3 => by
    have h1 := hf.1
    rw [rF3 h3, Bool.and_eq_true] at h1
    exact rnum_ne h1.2
  refine Ct.enter Tryz.func32 rfl Tryz.ntmps32 rfl fun w0 a S => ?_
  refine wp_sr fun Z hZ => ?_
  (refine wpl_box S rfl rfl rfl rfl rfl ?_; clear S a; intro b1 a w S)
  (revert S a; revert hZ Z; refine go10 7 ?_; intro a S)
  (refine wp_seq_k ?_; intro Z hZ)
  replace hZ : ∀ (a' : Act) (w' : World), (∃ (t : Bool), t = rfitsH ⟨xk, xn, xs⟩ xl.len ∧ St 48 [(1, ptr b1), (3, .bool t)] w0 F [] F [[(b1, .cells ⟨[.int .u8 (xk : Int), .int .i64 xn, .string (bs xs), .slice ao xl.len cap]⟩ 26 (0, 0))]] a' w') → Z a' w' := (by
   (intro a w hM; refine hZ _ _ ?_; clear hZ Z; clear S; obtain ⟨t, ht, S⟩ := hM)
   (revert S a; refine go01 6 ?_; intro Z hZ a S)
   refine wpc_loop (fun m a w' => ∃ (k : Nat) (t : Bool), m = xl.len - k ∧ k ≤ xl.len ∧ (t && rfitsL (xl.drop k)) = (rfitsH ⟨xk, xn, xs⟩ xl.len && rfitsL xl) ∧ St 48 [(1, ptr b1), (3, .bool t), (4, .int .i64 (k : Int))] w0 F [] F [[(b1, .cells ⟨[.int .u8 (xk : Int), .int .i64 xn, .string (bs xs), .slice ao xl.len cap]⟩ 26 (0, 0))]] a w') ?_ ?_
   · (refine ⟨xl.len, 0, t, by omega, Nat.zero_le _, by rw [ht]; rfl, ?_⟩; refine S.keep ?_; repeat (first | exact trivial | refine ⟨rfl, ?_⟩))
   (clear S; rintro m a w ⟨k, t, rfl, hkl, hfp, S⟩)
   (revert S a; refine go02 8 ?_; intro Z hZ Z hZ a S)
   refine wpl_guard S rfl rfl rfl rfl rfl ?_ ?_
   · (clear S; intro h S; (try simp only [tq] at h))
     (revert S a; revert hZ Z; refine go10 4 ?_; intro a S)
     refine wpc_split S rfl (fun h => ?_) (fun h => ?_)
     · (skip; (try simp only [tq] at h))
       (revert S a; revert hZ Z; refine go11 4 ?_; intro Z hZ a S)
       (obtain ⟨b8, o8, hao, x, cs1, v1, hx, hc1, hw9, hT1⟩ := TrM.pos hpos (k := k) (by omega); rw [hao] at S; have hxs := Rose.size_get hx; have hT1c := hT1; obtain ⟨a91, c91, rfl, -⟩ := hT1c; have hw9c := hw9.1; subst hw9c; (simp only [List.cons_append, List.nil_append] at hc1))
       (revert S a; refine go00 6 ?_; intro a S)
       (refine wpl_call0 S rfl rfl rfl rfl rfl rfl (ih F x _ (by omega) (rformL_get hf.2 hx) ⟨_, rfl, hT1, hw9.2⟩) rfl ?_; clear S a; intro v a w hv S; subst hv)
       (revert S a; revert hZ Z; refine go10 8 ?_; intro a S)
       change ∃ m', _ ∧ _
       (have ht1 : t = true := (by assumption); rw [← hao] at S; refine ⟨xl.len - (k + 1), by omega, k + 1, (rfitsH x.1 x.2.len && rfitsL x.2), rfl, by omega, ?_, ?_⟩; rotate_left 1; (refine S.keep ?_; repeat (first | exact trivial | refine ⟨rfl, ?_⟩)); rw [← hfp, rfitsL_drop hx, ht1, Bool.true_and])
     (skip; (try simp only [tq] at h))
     (refine wp_exit ?_; conv => whnf)
     clear hZ Z
     (revert S a; revert hZ Z; refine go10 6 ?_; intro a S)
     refine wp_ret (fin_ret S (results1 Tryz.results32 (RV.tmp S rfl)) ?_)
     exact zzEwF0
   (intro h; clear S a; intro a S; (try simp only [tq] at h))
   (revert S a; revert hZ Z; refine go10 3 ?_; intro a S)
   refine wpc_false S rfl ?_
   (refine wp_exit ?_; conv => whnf)
   clear hZ Z
   (revert S a; revert hZ Z; refine go10 6 ?_; intro a S)
   refine wp_ret (fin_ret S (results1 Tryz.results32 (RV.tmp S rfl)) ?_)
   (congr 1; rw [← hfp]; first | (rw [(by assumption : t = false), Bool.false_and]; done) | (rw [Rose.drop_len (by omega)]; exact (Bool.and_true _).symm) | trace_state))
  (revert S a; refine go00 11 ?_; intro a S)
  refine wpc_split S rfl (fun h => ?_) (fun h => ?_)
  · (skip; (try simp only [tq] at h))
    (revert S a; refine go00 3 ?_; intro a S)
    (refine wpl_call0 S rfl rfl rfl rfl rfl rfl (rdigitsCt F xs (hne (by omega)) hs1) rfl ?_; clear S a; intro v a w hv S; subst hv)
    (revert S a; refine go00 3 ?_; intro a S)
    (refine hZ _ _ ?_)
    exact zzEwF2
  (skip; (try simp only [tq] at h))
  (revert S a; refine go00 5 ?_; intro a S)
  refine wpc_split S rfl (fun h => ?_) (fun h => ?_)
  · (skip; (try simp only [tq] at h))
    (revert S a; refine go00 7 ?_; intro a S)
    (refine hZ _ _ ?_)
    exact zzEwF2
  (skip; (try simp only [tq] at h))
  (revert S a; refine go00 5 ?_; intro a S)
  refine wpc_split S rfl (fun h => ?_) (fun h => ?_)
  · (skip; (try simp only [tq] at h))
    (revert S a; refine go00 7 ?_; intro a S)
    (refine hZ _ _ ?_)
    exact zzEwF2
  (skip; (try simp only [tq] at h))
  (revert S a; refine go00 5 ?_; intro a S)
  refine wpc_split S rfl (fun h => ?_) (fun h => ?_)
  · (skip; (try simp only [tq] at h))
    (revert S a; refine go00 7 ?_; intro a S)
    (refine hZ _ _ ?_)
    exact zzEwF2
  (skip; (try simp only [tq] at h))
  refine wp_skip ?_
  (refine hZ _ _ ?_)
  exact zzEwF2
theorem zzEwF3 {p : Prop} (h : p := by (congr 1; unfold rcheckV; first | (rw [if_pos (by omega)]; done) | (rw [if_neg (by omega), if_pos (by assumption)]; done) | (rw [if_neg (by omega), if_neg (by rw [(by assumption : (rformH x.1 x.2.len && rformL x.2) = true)]; decide), if_pos (by assumption)]; done) | (rw [if_neg (by omega), if_neg (by rw [(by assumption : (rformH x.1 x.2.len && rformL x.2) = true)]; decide), if_neg (by rw [(by assumption : (rfitsH x.1 x.2.len && rfitsL x.2) = true)]; decide)]; done) | trace_state)) : p := h
theorem rcheckCt (F : Heap) (x : Vv) (cs : List Value) (hz : x.2.size ≤ 1000000000) (hV : VaC F cs x.1 x.2) : Ct Tryz.prog 14 [.agg ⟨cs⟩] F [] (fun _ _ u => u = .int .i64 (rcheckV x.1 x.2)) := by
  have hdp := rdepthCt (x.2.size + 1) F x cs (Nat.lt_succ_self _) hz hV
  have hfm := rformCt (x.2.size + 1) F x cs (Nat.lt_succ_self _) hV
  have hft := fun h => rfitsCt (x.2.size + 1) F x cs (Nat.lt_succ_self _) h hV
  have hdn := dpN_R x.2
  obtain ⟨a1, c1, rfl, -, -⟩ := vac_slc hV
  refine Ct.enter Tryz.func14 rfl Tryz.ntmps14 rfl fun w0 a S => ?_
  refine wp_sr fun Z hZ => ?_
  (refine wpl_box S rfl rfl rfl rfl rfl ?_; clear S a; intro b1 a w S)
  (revert S a; revert hZ Z; refine go12 6 ?_; intro Z hZ Z hZ a S)
  (refine wpl_call0 S rfl rfl rfl rfl rfl rfl (hdp) rfl ?_; clear S a; intro v a w hv S; subst hv)
  (revert S a; revert hZ Z; refine go10 3 ?_; intro a S)
  refine wpc_split S rfl (fun h => ?_) (fun h => ?_)
  · (skip; (try simp only [tq] at h))
    (revert S a; refine go00 4 ?_; intro a S)
    refine wp_ret (fin_ret S (results1 Tryz.results14 (RV.tmp S rfl)) ?_)
    exact zzEwF3
  (skip; (try simp only [tq] at h))
  (revert S a; revert hZ Z; refine go12 5 ?_; intro Z hZ Z hZ a S)
  (refine wpl_call0 S rfl rfl rfl rfl rfl rfl (hfm) rfl ?_; clear S a; intro v a w hv S; subst hv)
  (revert S a; revert hZ Z; refine go10 3 ?_; intro a S)
  refine wpc_split S rfl (fun h => ?_) (fun h => ?_)
  · (skip; (try simp only [tq] at h))
    (revert S a; refine go00 4 ?_; intro a S)
    refine wp_ret (fin_ret S (results1 Tryz.results14 (RV.tmp S rfl)) ?_)
    exact zzEwF3
  (skip; (try simp only [tq] at h))
  (revert S a; revert hZ Z; refine go12 5 ?_; intro Z hZ Z hZ a S)
  (refine wpl_call0 S rfl rfl rfl rfl rfl rfl (hft (by assumption)) rfl ?_; clear S a; intro v a w hv S; subst hv)
  (revert S a; revert hZ Z; refine go10 3 ?_; intro a S)
  refine wpc_split S rfl (fun h => ?_) (fun h => ?_)
  · (skip; (try simp only [tq] at h))
    (revert S a; refine go00 4 ?_; intro a S)
    refine wp_ret (fin_ret S (results1 Tryz.results14 (RV.tmp S rfl)) ?_)
    exact zzEwF3
  (skip; (try simp only [tq] at h))
  (revert S a; revert hZ Z; refine go10 6 ?_; intro a S)
  refine wp_ret (fin_ret S (results1 Tryz.results14 (RV.tmp S rfl)) ?_)
  exact zzEwF3
end Go.Proofs.YtigblodhdfnleaaGreatDoor
namespace Go.Proofs.YtigblodhdfnleaaGreatDoor
open Go Go.Wk Go.Un Go.De Go.Num
set_option linter.unusedSimpArgs false
set_option linter.unusedVariables false
attribute [local irreducible] Go.wpList Go.Code.wp Go.wpStill Go.Wk.wpPre Go.bodyPost Go.Calls Go.Wk.Ct Go.Wk.OwnS
attribute [local irreducible] Go.Wk.wpG Go.Wk.wpM

set_option maxHeartbeats 8000000 in
theorem rownCt : ∀ (n : Nat) (F : Heap) (l : Vf) (v : Value), l.size < n → l.size ≤ 1000000000 → TrS F 4 VhR v l → Ct Tryz.prog 33 [v] F [] (fun F' _ u => TrS F' 4 VhR u l) := by
  intro n
  induction n with
  | zero => intro F l v hn; omega
  | succ n ih =>
  intro F l v hn hz hv
  have hll := Rose.len_size l
  obtain ⟨ao, cap, rfl, hcap, hpos⟩ := hv
  refine Ct.enter Tryz.func33 rfl Tryz.ntmps33 rfl fun w0 a S => ?_
  (revert S a; refine go01 14 ?_; intro Z hZ a S)
  refine wpc_loop (fun m a w' => ∃ (i : Nat) (v : Value) (g : Grp) (xs : List Value) (F3 : Heap), m = l.len - i ∧ i ≤ l.len ∧ (∀ b o, F b = some o → F3 b = some o) ∧ OwnS 26 4 v i xs g ∧ LiC F3 4 (RoR 4 VhR) xs ((kids l).take i) ∧ St 25 [(0, .slice ao l.len cap), (3, v), (4, .int .i64 (i : Int))] w0 F [] F3 (g :: []) a w') ?_ ?_
  · (replace S := S.nilg; refine ⟨l.len, 0, .slice none 0 0, [], [], F, by omega, Nat.zero_le _, fun _ _ h => h, OwnS.nil _ _, rfl, ?_⟩; refine S.keep ?_; repeat (first | exact trivial | refine ⟨rfl, ?_⟩))
  (clear S; rintro m a w ⟨i, v, g, xs, F3, rfl, hil, hF3, hown, hfc, S⟩)
  (revert S a; refine go01 8 ?_; intro Z hZ a S)
  refine wpc_split S rfl (fun h => ?_) (fun h => ?_)
  · (skip; (try simp only [tq] at h))
    (revert S a; revert hZ Z; refine go11 4 ?_; intro Z hZ a S)
    (refine wp_seq_k ?_; intro Z hZ)
    (obtain ⟨b8, o8, hao, x, cs1, v1, hx, hc1, hw9, hT1⟩ := TrM.pos hpos (k := i) (by omega); rw [hao] at S; replace hc1 := Cels.mono hF3 hc1; replace hT1 := hT1.mono hF3; have hxs := Rose.size_get hx; have hT1c := hT1; obtain ⟨a91, c91, rfl, -⟩ := hT1c; have hw9c := hw9.1; subst hw9c; (simp only [List.cons_append, List.nil_append] at hc1))
    (revert S a; refine go00 5 ?_; intro a S)
    (refine wpl_alloc S rfl rfl rfl rfl ?_; clear S a; intro b5 a w S)
    (refine wpl_storeO S rfl rfl rfl rfl rfl (by rfl) (by simp [Value.cells, Value.oneCell', splice]) (by rfl) ?_; clear S; intro w S)
    (revert S a; revert hZ Z; refine go11 5 ?_; intro Z hZ a S)
    (refine wpl_callF S rfl rfl rfl rfl rfl rfl (ih F3 x.2 _ (by omega) (by omega) hT1) rfl ?_; clear S a; intro u9 F4 a w hv9 hF4 S; have hv9c := hv9; obtain ⟨a4, c4, rfl, -⟩ := hv9c)
    (revert S a; refine go00 1 ?_; intro a S)
    (refine wpl_store1 S rfl rfl rfl rfl rfl rfl (by first | (simp; done) | (simp [Value.cells]; done) | exact Nat.le_of_ble_eq_true rfl) ?_; clear S; intro w S)
    (revert S a; revert hZ Z; refine go10 2 ?_; intro a S)
    (obtain ⟨aoK, capK, rfl, -⟩ := hown.at)
    (revert S a; refine go00 3 ?_; intro a S)
    (refine wpl_append S rfl rfl rfl rfl rfl rfl rfl rfl rfl rfl rfl (fun _ => rfl) hown (by rfl) (by simp [Value.cells, splice, splice]) (by simp [Value.cells, Value.oneCell', splice, splice]) rfl (by rfl) (by rfl) rfl (by omega) (by omega) ?_; clear hown S a; intro v u g a w hown S)
    (revert S a; revert hZ Z; refine go10 8 ?_; intro a S)
    change ∃ m', _ ∧ _
    (rw [← hao] at S; replace S := St.pullB b5 S; replace S := S.drop1; refine ⟨l.len - (i + 1), by omega, i + 1, _, _, _, F4, rfl, by omega, fun b o h => hF4 _ _ (hF3 _ _ h), hown, ?_, ?_⟩; rotate_left 1; (refine S.keep ?_; repeat (first | exact trivial | refine ⟨rfl, ?_⟩)); (show LiC F4 4 (RoR 4 VhR) (xs ++ ([.int .u8 (x.1.k : Int), .int .i64 x.1.n, .string (bs x.1.s), .slice a4 x.2.len c4] : List Value)) _; rw [List.take_add_one, kids_get, hx]; exact LiC.app (hfc.mono hF4) (LiC.one rfl ⟨[_, _, _], _, rfl, rfl, hw9, hv9⟩)))
  (skip; (try simp only [tq] at h))
  (refine wp_exit ?_; conv => whnf)
  clear hZ Z
  (revert S a; revert hZ Z; refine go10 6 ?_; intro a S)
  refine wp_ret ?_
  (have hii : i = l.len := (by omega); have hle := add_le (G1 := []) S; replace S := St.freeze (G1 := []) S; (simp only [List.nil_append] at S hle))
  refine fin_ret S (results1 Tryz.results33 (RV.tmp S rfl)) ?_
  (rw [List.take_of_length_le (by rw [kids_len]; omega)] at hfc; exact trs_kids (LiC.lim hown hfc (by rw [kids_len]; omega) hle (by omega)))
end Go.Proofs.YtigblodhdfnleaaGreatDoor
namespace Go.Proofs.YtigblodhdfnleaaGreatDoor
open Go Go.Wk Go.Un Go.De Go.Num
set_option linter.unusedSimpArgs false
set_option linter.unusedVariables false
attribute [local irreducible] Go.wpList Go.Code.wp Go.wpStill Go.Wk.wpPre Go.bodyPost Go.Calls Go.Wk.Ct Go.Wk.OwnS
attribute [local irreducible] Go.Wk.wpG Go.Wk.wpM

theorem trv_one {F : Heap} {v : Value} {x : Vv} (h : TrS F 4 VhR v (.cons x.1 x.2 .nil)) : ∃ b o cap a1 c1, v = .slice (some ⟨b, o, none⟩) 1 cap ∧ Cels F b (o + 0 * 4) [.int .u8 (x.1.k : Int), .int .i64 x.1.n, .string (bs x.1.s), .slice a1 x.2.len c1] ∧ VaC F [.int .u8 (x.1.k : Int), .int .i64 x.1.n, .string (bs x.1.s), .slice a1 x.2.len c1] x.1 x.2 := by
  obtain ⟨ao, cap, rfl, -, hpos⟩ := h
  obtain ⟨b, o, rfl, y, cs, u, hy, hc, ⟨rfl, hs⟩, hT⟩ := TrM.pos hpos (k := 0) (show 0 < 1 by decide)
  cases hy
  have hTc := hT
  obtain ⟨a1, c1, rfl, -⟩ := hTc
  exact ⟨b, o, cap, a1, c1, rfl, hc, _, rfl, hT, hs⟩
set_option maxHeartbeats 8000000 in
theorem lbindCt (F : Heap) (vs : List Bd) (vv : Value) (hn : vs.length ≤ 1000000) (hz : ∀ x ∈ vs, x.2.2.size ≤ 100000000) (hv : LiM F 5 BdR vv vs) : Ct Tryz.prog 15 [vv] F [] (fun F' G' u => ∃ g xs, G' = [g] ∧ OwnS 62 5 u vs.length xs g ∧ LiC F' 5 BdR xs vs) := by
  obtain ⟨ao, cap, rfl, hcap, hpos⟩ := hv
  refine Ct.enter Tryz.func15 rfl Tryz.ntmps15 rfl fun w0 a S => ?_
  (revert S a; refine go01 14 ?_; intro Z hZ a S)
  refine wpc_loop (fun m a w' => ∃ (i : Nat) (v : Value) (g : Grp) (xs : List Value) (F3 : Heap), m = vs.length - i ∧ i ≤ vs.length ∧ (∀ b o, F b = some o → F3 b = some o) ∧ OwnS 62 5 v i xs g ∧ LiC F3 5 BdR xs (vs.take i) ∧ St 30 [(0, .slice ao vs.length cap), (3, v), (4, .int .i64 (i : Int))] w0 F [] F3 (g :: []) a w') ?_ ?_
  · (replace S := S.nilg; refine ⟨vs.length, 0, .slice none 0 0, [], [], F, by omega, Nat.zero_le _, fun _ _ h => h, OwnS.nil _ _, rfl, ?_⟩; refine S.keep ?_; repeat (first | exact trivial | refine ⟨rfl, ?_⟩))
  (clear S; rintro m a w ⟨i, v, g, xs, F3, rfl, hil, hF3, hown, hfc, S⟩)
  (revert S a; refine go01 8 ?_; intro Z hZ a S)
  refine wpc_split S rfl (fun h => ?_) (fun h => ?_)
  · (skip; (try simp only [tq] at h))
    (revert S a; revert hZ Z; refine go11 4 ?_; intro Z hZ a S)
    (obtain ⟨b8, o8, hao, x, cs1, hx, hc1, c9, rfl, hVx⟩ := LiM.pos hpos (k := i) (by omega); rw [hao] at S; replace hc1 := Cels.mono hF3 hc1; replace hVx := hVx.mono hF3; have hzx := hz x (List.mem_of_getElem? hx); have hVc := hVx; obtain ⟨a91, c91, rfl, -, -⟩ := vac_slc hVc; have hc2 := Cels.drop hc1 1; obtain ⟨aoK, capK, rfl, -⟩ := hown.at)
    (refine wpc_mixM [0, 1, 2, 3, 4, 5, 6, 7, 8, 9, 10, 13, 15] [5, 10] [] (.one 0 (.one 1 (.one 2 (.one 3 (.one 4 (.one 5 (.one 6 (.one 7 (.one 8 (.one 9 (.one 10 (.one 11 (.one 12 (.one 13 (.one 14 (.one 15 (.one 16 (.one 17 (.one 18 .nil))))))))))))))))))) [] S mixed (by kernel_rfl) ?_; clear S; intro w S)
    iterate 3 (refine wpm_p S rfl rfl rfl (want_none _ rfl) rfl rfl ?_; clear S a; intro a S)
    (refine wpm_i S rfl rfl rfl (want_none _ rfl) rfl rfl ?_; clear S a; intro a S)
    (refine wpm_f S rfl rfl rfl (want_none _ rfl) rfl rfl ?_; clear S a; intro a S)
    (refine wpm_lateF S rfl rfl rfl (want_none _ rfl) rfl rfl (fun w' S => sv_loadF S rfl rfl (hc1 0 _ rfl)) ?_; clear S a; intro a S)
    iterate 2 (refine wpm_p S rfl rfl rfl (want_none _ rfl) rfl rfl ?_; clear S a; intro a S)
    (refine wpm_i S rfl rfl rfl (want_none _ rfl) rfl rfl ?_; clear S a; intro a S)
    (refine wpm_f S rfl rfl rfl (want_none _ rfl) rfl rfl ?_; clear S a; intro a S)
    (refine wpm_lateF S rfl rfl rfl (want_none _ rfl) rfl rfl (fun w' S => sv_loadAF S rfl rfl hc2 (by rfl)) ?_; clear S a; intro a S)
    refine wpm_eff rfl rfl (kwa S) ?_
    (refine wpl_buildSlice S rfl rfl rfl rfl rfl rfl (by rfl) (by simp [Value.cells, splice]) rfl (by rfl) (by rfl) ?_; clear S a; intro b22 a w hown2 S; have S' := frz1 S; clear S; obtain ⟨F22, hF22, hb22, S⟩ := S'; have k22 : TrS F22 4 VhR (.slice (some ⟨b22, 0, none⟩) 1 1) (.cons x.2.1 x.2.2 .nil) := trs_lim (lim_of (l := ([x.2] : List Vv)) hb22 (LiC.one rfl (Mon.h hF22 (vac_ror hVx))) (show 1 ≤ _ by decide)))
    refine wpList_nil ?_
    refine wpm_eff rfl rfl (kwa S) ?_
    (refine wpl_callF S rfl rfl rfl rfl rfl rfl (rownCt (x.2.2.size + 2) F22 _ _ (by simp only [Rose.size]; omega) (by simp only [Rose.size]; omega) k22) rfl ?_; clear S a; intro u9 F23 a w hv9 hF23 S; obtain ⟨be, oe, ce, ae, ne, rfl, hce, hVe⟩ := trv_one hv9)
    refine wpList_nil ?_
    (refine wpm_i S rfl rfl rfl (want_none _ rfl) rfl rfl ?_; clear S a; intro a S)
    refine wpm_eff rfl rfl (kwa S) ?_
    (refine wpl_v S rfl rfl rfl (sv_loadAF S rfl rfl hce (by rfl)) ?_; clear S a; intro a S)
    refine wpList_nil ?_
    (refine wpm_b S rfl rfl rfl (want_none _ rfl) rfl rfl ?_; clear S a; intro a S)
    refine wpm_eff rfl rfl (kwa S) ?_
    (refine wpl_buildSlice S rfl rfl rfl rfl rfl rfl (by rfl) (by simp [Value.cells, splice, splice]) rfl (by rfl) (by rfl) ?_; clear S a; intro b27 a w hown2 S)
    refine wpList_nil ?_
    refine wpm_eff rfl rfl (kwa S) ?_
    (refine wpl_appendOwn S rfl rfl rfl rfl rfl rfl hown hown2 (by rfl) (by simp [Value.cells, Value.oneCell', splice, splice]) (by omega) (by omega) ?_; clear hown S a; intro v g a w hown S)
    refine wpList_nil ?_
    refine wpm_eff rfl rfl (kwa S) ?_
    (revert S a; refine go00 2 ?_; intro a S)
    refine wpm_nil (kwa S) ?_
    (revert S a; revert hZ Z; refine go10 6 ?_; intro a S)
    change ∃ m', _ ∧ _
    (rw [← hao] at S; refine ⟨vs.length - (i + 1), by omega, i + 1, _, _, _, F23, rfl, by omega, fun b o h => hF23 _ _ (hF22 _ _ (hF3 _ _ h)), hown, ?_, ?_⟩; rotate_left 1; (refine S.keep ?_; repeat (first | exact trivial | refine ⟨rfl, ?_⟩)); (rw [List.take_add_one, hx]; exact LiC.app ((hfc.mono hF22).mono hF23) (LiC.one rfl ⟨_, rfl, hVe⟩)))
  (skip; (try simp only [tq] at h))
  (refine wp_exit ?_; conv => whnf)
  clear hZ Z
  (revert S a; revert hZ Z; refine go10 6 ?_; intro a S)
  refine wp_ret (fin_ret S (results1 Tryz.results15 (RV.tmp S rfl)) ?_)
  (have hii : i = vs.length := (by omega); rw [List.take_of_length_le (by omega)] at hfc; rw [hii] at hown; exact ⟨_, _, rfl, hown, hfc⟩)
theorem bdr_one {F : Heap} : ∀ {vs : List Bd} {xs : List Value}, LiC F 5 BdR xs vs → ∀ u ∈ xs, u.oneCell' = true
  | [], xs, h, u, hu => by rw [show xs = [] from h] at hu; cases hu
  | x :: r, xs, ⟨cs, ys, h1, _, ⟨c, h3, h4⟩, h5⟩, u, hu => by
    subst h1
    rcases List.mem_append.1 hu with hu | hu
    · obtain ⟨a1, c1, rfl, -, -⟩ := vac_slc h4
      subst h3
      simp only [List.mem_cons, List.not_mem_nil, or_false] at hu
      rcases hu with rfl | rfl | rfl | rfl | rfl <;> rfl
    · exact bdr_one h5 u hu
theorem lic_strs {F : Heap} : ∀ k : List (List UInt8), LiC F 1 StR (strs k) k
  | [] => rfl
  | x :: r => ⟨[_], strs r, rfl, rfl, rfl, lic_strs r⟩
end Go.Proofs.YtigblodhdfnleaaGreatDoor
namespace Go.Proofs.YtigblodhdfnleaaGreatDoor
open Go Go.Wk Go.Un Go.De Go.Num
set_option linter.unusedSimpArgs false
set_option linter.unusedVariables false
attribute [local irreducible] Go.wpList Go.Code.wp Go.wpStill Go.Wk.wpPre Go.bodyPost Go.Calls Go.Wk.Ct Go.Wk.OwnS
attribute [local irreducible] Go.Wk.wpG Go.Wk.wpM

theorem namesL_drop {l : Ef} {k : Nat} {x : Ex} (h : l.get? k = some x) : namesL (l.drop k) = namesE x.1 x.2 ++ namesL (l.drop (k + 1)) := by rw [Rose.drop_get h]; rfl
theorem namesL_len : ∀ l : Ef, (namesL l).length ≤ l.size
  | .nil => Nat.le_refl _
  | .cons h L r => by
    have := namesL_len L
    have := namesL_len r
    unfold namesL
    rw [List.length_append]
    simp only [Rose.size]
    split
    · rw [List.length_singleton]; omega
    · omega
theorem namesE_len (x : Ex) : (namesE x.1 x.2).length ≤ x.2.size + 1 := by
  have := namesL_len x.2
  unfold namesE
  split
  · rw [List.length_singleton]; omega
  · omega
section
variable {n : Sz} {L : List (Nat × Value)} {w0 : World} {F0 : Heap} {K0 : List Nat} {F : Heap} {A B : List Grp} {a : Act} {w : World}
theorem rotG (S : St n L w0 F0 K0 F (A ++ B) a w) : St n L w0 F0 K0 F (B ++ A) a w := ⟨S.fr, S.tr.perm (by rw [List.flatten_append, List.flatten_append]; exact List.perm_append_comm)⟩
theorem dropG (S : St n L w0 F0 K0 F (A ++ B) a w) : St n L w0 F0 K0 F A a w := ⟨S.fr, S.tr.sub (by rw [List.flatten_append]; exact List.sublist_append_left _ _)⟩
theorem permG {A B : List Grp} : (A ++ B).flatten.Perm (A.flatten ++ B.flatten) := by rw [List.flatten_append]
end
def OwN (v : Value) (k : List (List UInt8)) (g : Grp) : Prop := OwnS 9 1 v k.length (strs k) g
theorem OwN.cast {v : Value} {k m : List (List UInt8)} {g : Grp} (h : OwN v k g) (e : k = m) : OwN v m g := by rw [← e]; exact h
theorem zzEwI0 {p : Prop} (h : p := by (refine ⟨_, rfl, ?_⟩; first | (have e : namesE eh xl = [eh.nm] := (if_pos (by omega)); rw [e]; show OwnS _ 1 _ (k0 ++ [eh.nm]).length (strs (k0 ++ [eh.nm])) _; rw [List.length_append, show strs (k0 ++ [eh.nm]) = strs k0 ++ [.string (bs eh.nm)] from List.map_append ..]; exact hown) | (have e : namesE eh xl = namesL xl := (if_neg (by omega)); rw [e, ← hks, Rose.drop_len (by omega)]; exact hown3.cast (List.append_nil _).symm) | trace_state)) : p := h
set_option maxHeartbeats 8000000 in
theorem lvarsCt : ∀ (n : Nat) (F : Heap) (x : Ex) (cs : List Value) (v0 : Value) (k0 : List (List UInt8)) (g0 : Grp), x.2.size < n → k0.length + x.2.size ≤ 1000000000 → ExC F cs x.1 x.2 → OwN v0 k0 g0 → Ct Tryz.prog 16 [v0, .agg ⟨cs⟩] F [g0] (fun _ G' u => ∃ g', G' = [g'] ∧ OwN u (k0 ++ namesE x.1 x.2) g') := by
  intro n
  induction n with
  | zero => intro F x cs v0 k0 g0 hn; omega
  | succ n ih =>
  intro F x cs v0 k0 g0 hn hk0 hX hown0
  obtain ⟨eh, xl⟩ := x
  obtain ⟨a1, n1, c1, ao, cap, rfl, hT2, hT3⟩ := exc_slc hX
  obtain ⟨_, _, e9, hcap, hpos⟩ := hT3
  cases e9
  dsimp only at *
  have hown : OwnS 9 1 v0 k0.length (strs k0) g0 := hown0
  have hnl := namesL_len xl
  refine Ct.enter Tryz.func16 rfl Tryz.ntmps16 rfl fun w0 a S => ?_
  refine wp_sr fun Z hZ => ?_
  (refine wpl_box S rfl rfl rfl rfl rfl ?_; clear S a; intro b3 a w S)
  (revert S a; revert hZ Z; refine go11 10 ?_; intro Z hZ a S)
  refine wpc_split S rfl (fun h => ?_) (fun h => ?_)
  · (skip; (try simp only [tq] at h))
    (refine wp_seq_k ?_; intro Z hZ)
    (obtain ⟨aoK, capK, rfl, -⟩ := hown.at)
    (revert S a; refine go00 4 ?_; intro a S)
    (refine wpl_append S rfl rfl rfl rfl rfl rfl rfl rfl rfl rfl rfl (fun _ => rfl) hown (by rfl) (by simp [Value.cells, splice, splice]) (by simp [Value.cells, Value.oneCell', splice, splice]) rfl (by rfl) (by rfl) rfl (by omega) (by omega) ?_; clear hown S a; intro v u g a w hown S)
    (revert S a; revert hZ Z; refine go10 3 ?_; intro a S)
    refine wp_ret ?_
    (first | (replace S := dropG (A := [g]) (B := [[(b3, _)]]) S) | (replace S := S.drop1))
    refine fin_ret S (results1 Tryz.results16 (RV.tmp S rfl)) ?_
    exact zzEwI0
  (skip; (try simp only [tq] at h))
  (revert S a; revert hZ Z; refine go11 8 ?_; intro Z hZ a S)
  refine wpc_loop (fun m a w' => ∃ (i : Nat) (v : Value) (k3 : List (List UInt8)) (g : Grp) (F3 : Heap), m = xl.len - i ∧ i ≤ xl.len ∧ (∀ b o, F b = some o → F3 b = some o) ∧ OwN v k3 g ∧ k3 ++ namesL (xl.drop i) = k0 ++ namesL xl ∧ k3.length + (xl.drop i).size ≤ 1000000000 ∧ St 29 [(0, v), (3, ptr b3), (5, .int .i64 (i : Int))] w0 F (keys [g0]) F3 [g, [(b3, .cells ⟨[.int .u8 (eh.k : Int), .int .i64 eh.l, .int .i64 eh.c, .string (bs eh.nm), .int .u8 (eh.v.k : Int), .int .i64 eh.v.n, .string (bs eh.v.s), .slice a1 n1 c1, .slice ao xl.len cap]⟩ 34 (0, 0))]] a w') ?_ ?_
  · (replace S := rotG (A := [[(b3, _)]]) (B := [g0]) S; refine ⟨xl.len, 0, v0, k0, g0, F, by omega, Nat.zero_le _, fun _ _ h => h, hown0, rfl, hk0, ?_⟩; refine S.keep ?_; repeat (first | exact trivial | refine ⟨rfl, ?_⟩))
  (clear S; rintro m a w ⟨i, v, k3, g, F3, rfl, hil, hF3, hown3, hks, hkn, S⟩)
  (revert S a; refine go01 9 ?_; intro Z hZ a S)
  refine wpc_split S rfl (fun h => ?_) (fun h => ?_)
  · (skip; (try simp only [tq] at h))
    (revert S a; revert hZ Z; refine go11 4 ?_; intro Z hZ a S)
    (obtain ⟨b8, o8, hao, x, cs1, v1, hx, hc1, hw9, hT1⟩ := TrM.pos hpos (k := i) (by omega); rw [hao] at S; have hxs := Rose.size_get hx; have hnx := namesE_len x; have hdz : (xl.drop i).size = x.2.size + (xl.drop (i + 1)).size + 1 := (by rw [Rose.drop_get hx]; rfl); have hXx := (exc_of hw9 hT1).mono hF3; replace hc1 := Cels.mono hF3 hc1; have hxc := hXx; obtain ⟨a91, n91, c91, a92, c92, exx, -, -⟩ := exc_slc hxc; rw [exx] at hc1 hXx)
    (revert S a; refine go00 6 ?_; intro a S)
    (refine wpl_v S rfl rfl rfl (sv_loadAF S rfl rfl hc1 (by rfl)) ?_; clear S a; intro a S)
    (refine wpl_call (Gs := [g]) (Gr := [[(b3, _)]]) S rfl rfl rfl rfl rfl rfl (ih F3 x _ _ k3 g (by omega) (by omega) hXx hown3) rfl (permG (A := [g]) (B := [[(b3, _)]])) ?_; clear S a; intro u9 F4 G4 a w hv hF4 S; obtain ⟨g9, rfl, hown9⟩ := hv)
    (revert S a; revert hZ Z; refine go10 8 ?_; intro a S)
    change ∃ m', _ ∧ _
    (rw [← hao] at S; refine ⟨xl.len - (i + 1), by omega, i + 1, u9, _, g9, F4, rfl, by omega, fun b o h => hF4 _ _ (hF3 _ _ h), hown9, by rw [List.append_assoc, ← namesL_drop hx, hks], by rw [List.length_append]; omega, ?_⟩; refine S.keep ?_; repeat (first | exact trivial | refine ⟨rfl, ?_⟩))
  (skip; (try simp only [tq] at h))
  (refine wp_exit ?_; conv => whnf)
  clear hZ Z
  (revert S a; revert hZ Z; refine go10 6 ?_; intro a S)
  refine wp_ret ?_
  (first | (replace S := dropG (A := [g]) (B := [[(b3, _)]]) S) | (replace S := S.drop1))
  refine fin_ret S (results1 Tryz.results16 (RV.tmp S rfl)) ?_
  exact zzEwI0
end Go.Proofs.YtigblodhdfnleaaGreatDoor
