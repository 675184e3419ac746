/- The walks of strings.TrimPrefix, and of Check and of of package big: what is a number, and the digits of the number that a text is. The walk of of of package big: the digits of the number that a text is. The walks of cmp.Compare, slices.Backward and of sizes of package big: which of two magnitudes is the greater one. -/
import Derived.Test.YtigblodhdfnleaaGreatDoorDec
namespace Go.Proofs.YtigblodhdfnleaaGreatDoor
open Go Go.Wk Go.Num
set_option linter.unusedSimpArgs false
set_option linter.unusedVariables false
attribute [local irreducible] Go.wpList Go.Code.wp Go.wpStill Go.Wk.wpPre Go.bodyPost Go.Calls Go.Wk.Ct Go.Wk.OwnS

def hasP (s p : List UInt8) : Bool := if p.length ≤ s.length then s.take p.length == p else false
set_option maxHeartbeats 1000000 in
theorem hasPrefixCt (s p : List UInt8) (F : Heap) (hs : s.length ≤ 140737488355328) (hp : p.length ≤ 140737488355328) : Ct Tryz.prog 144 [.string (bs s), .string (bs p)] F [] (fun _ _ u => u = .bool (hasP s p)) := by
  refine Ct.enter Tryz.func144 rfl Tryz.ntmps144 rfl fun w0 a S => ?_
  refine wp_sr fun Kq1 hKq1 => ?_
  (refine wpl_p S rfl rfl rfl ?_; clear S a; intro a S)
  (refine wpList_nil (hKq1 _ _ (wp_sr fun Kq2 hKq2 => ?_)); try clear hKq1 Kq1)
  (refine wpl_p S rfl rfl rfl ?_; clear S a; intro a S)
  (refine wpl_s S rfl rfl rfl ?_; clear S a; intro a S)
  (refine wpl_p S rfl rfl rfl ?_; clear S a; intro a S)
  (refine wpl_s S rfl rfl rfl ?_; clear S a; intro a S)
  iterate 2 (refine wpl_p S rfl rfl rfl ?_; clear S a; intro a S)
  refine wpl_guard S rfl rfl rfl rfl rfl ?_ ?_
  · (intro h S'; clear S; have S := S'; clear S'; (try simp only [tq] at h))
    (refine wpl_p S rfl rfl rfl ?_; clear S a; intro a S)
    refine wpl_take S rfl rfl rfl ?_
    (refine wpl_p S rfl rfl rfl ?_; clear S a; intro a S)
    refine wpl_take S rfl rfl rfl ?_
    (refine wpl_s S rfl rfl rfl ?_; clear S a; intro a S)
    refine wpl_take S rfl rfl rfl ?_
    (refine wpl_v S rfl rfl rfl (sv_sliceS_hi S rfl rfl rfl (by first | omega | (simp only [List.length_append, List.length_cons, List.length_nil]; omega))) ?_; clear S a; intro a S)
    refine wpl_take S rfl rfl rfl ?_
    (refine wpl_p S rfl rfl rfl ?_; clear S a; intro a S)
    refine wpl_take S rfl rfl rfl ?_
    iterate 3 (refine wpl_p S rfl rfl rfl ?_; clear S a; intro a S)
    (refine wpList_nil (hKq2 _ _ ?_); try clear hKq2 Kq2)
    refine wp_ret (fin_ret S (results1 Tryz.results144 (RV.tmp S rfl)) ?_)
    (unfold hasP; first | (rw [if_pos h]; rfl) | (rw [if_neg (by omega)]))
  (intro h; clear S a; intro a S; (try simp only [tq] at h))
  iterate 5 (refine wpl_skip S rfl rfl rfl rfl rfl ?_; clear S a; intro a S)
  iterate 2 (refine wpl_p S rfl rfl rfl ?_; clear S a; intro a S)
  (refine wpList_nil (hKq2 _ _ ?_); try clear hKq2 Kq2)
  refine wp_ret (fin_ret S (results1 Tryz.results144 (RV.tmp S rfl)) ?_)
  (unfold hasP; first | (rw [if_pos h]; rfl) | (rw [if_neg (by omega)]))

set_option maxHeartbeats 1000000 in
theorem trimPrefixCt0 (s p : List UInt8) (F : Heap) (hs : s.length ≤ 140737488355328) (hp : p.length ≤ 140737488355328) : Ct Tryz.prog 128 [.string (bs s), .string (bs p)] F [] (fun _ _ u => u = .string (bs (if hasP s p = true then s.drop p.length else s))) := by
  refine Ct.enter Tryz.func128 rfl Tryz.ntmps128 rfl fun w0 a S => ?_
  refine wp_sr fun Kq1 hKq1 => ?_
  (refine wpl_p S rfl rfl rfl ?_; clear S a; intro a S)
  (refine wpList_nil (hKq1 _ _ (wp_seq_k fun Kq2 hKq2 => ?_)); try clear hKq1 Kq1)
  refine wp_sr fun Kq3 hKq3 => ?_
  iterate 2 (refine wpl_p S rfl rfl rfl ?_; clear S a; intro a S)
  (refine wpl_call0 S rfl rfl rfl rfl rfl rfl (hasPrefixCt s p F hs hp) rfl ?_; clear S a; intro v a w hv S; subst hv)
  (refine wpList_nil (hKq3 _ _ ?_); try clear hKq3 Kq3)
  refine wpc_split S rfl (fun h => ?_) (fun h => ?_)
  · (skip; (try simp only [tq] at h))
    refine wp_sr fun Kq4 hKq4 => ?_
    iterate 2 (refine wpl_p S rfl rfl rfl ?_; clear S a; intro a S)
    (refine wpl_s S rfl rfl rfl ?_; clear S a; intro a S)
    (have hpl : p.length ≤ s.length := (by unfold hasP at h; split at h; assumption; cases h)); (refine wpl_v S rfl rfl rfl (sv_sliceS_lo S rfl rfl rfl (by omega)) ?_; clear S a; intro a S)
    (refine wpl_p S rfl rfl rfl ?_; clear S a; intro a S)
    (refine wpList_nil (hKq4 _ _ ?_); try clear hKq4 Kq4)
    refine wp_ret (fin_ret S (results1 Tryz.results128 (RV.tmp S rfl)) ?_)
    (first | (rw [if_pos h]; rfl) | (rw [if_neg (by simp [h])]))
  (skip; (try simp only [tq] at h))
  refine wp_skip ?_
  (refine hKq2 _ _ ?_; try (clear hKq2 Kq2))
  refine wp_sr fun Kq4 hKq4 => ?_
  iterate 2 (refine wpl_p S rfl rfl rfl ?_; clear S a; intro a S)
  (refine wpList_nil (hKq4 _ _ ?_); try clear hKq4 Kq4)
  refine wp_ret (fin_ret S (results1 Tryz.results128 (RV.tmp S rfl)) ?_)
  (first | (rw [if_pos h]; rfl) | (rw [if_neg (by simp [h])]))

theorem trim_dash (s : List UInt8) : (if hasP s [45] = true then s.drop [45].length else s) = bodyS s := by
  unfold hasP bodyS
  cases s with
  | nil => rfl
  | cons c r => by_cases h : c = 45 <;> simp [h]

set_option maxHeartbeats 1000000 in
theorem trimDashCt (s : List UInt8) (F : Heap) (hs : s.length ≤ 140737488355328) : Ct Tryz.prog 106 [.string (bs s), .string (bs [45])] F [] (fun _ _ u => u = .string (bs (bodyS s))) := by
  rw [← trim_dash]
  refine Ct.enter Tryz.func106 rfl Tryz.ntmps106 rfl fun w0 a S => ?_
  refine wp_sr fun Kq1 hKq1 => ?_
  (refine wpl_p S rfl rfl rfl ?_; clear S a; intro a S)
  (refine wpList_nil (hKq1 _ _ (wp_sr fun Kq2 hKq2 => ?_)); try clear hKq1 Kq1)
  iterate 2 (refine wpl_p S rfl rfl rfl ?_; clear S a; intro a S)
  (refine wpl_call0 S rfl rfl rfl rfl rfl rfl (trimPrefixCt0 s [45] F hs (by decide)) rfl ?_; clear S a; intro v a w hv S; subst hv)
  (refine wpl_p S rfl rfl rfl ?_; clear S a; intro a S)
  (refine wpList_nil (hKq2 _ _ ?_); try clear hKq2 Kq2)
  exact wp_ret (fin_ret S (results1 Tryz.results106 (RV.tmp S rfl)) rfl)

theorem isD_iff (c : UInt8) : isD c = true ↔ (48 ≤ c.toNat ∧ c.toNat ≤ 57) := by unfold isD; simp
theorem all_of_take {l : List UInt8} {k : Nat} (h : ∀ j, j < k → isD (l.getD j 0) = true) (hk : k = l.length) : l.all isD = true := by
  subst hk
  rw [List.all_eq_true]
  intro x hx
  obtain ⟨j, hj, rfl⟩ := List.getElem_of_mem hx
  have := h j hj
  rwa [List.getD_eq_getElem?_getD, List.getElem?_eq_getElem hj] at this
theorem not_all {l : List UInt8} {j : Nat} (hj : j < l.length) (h : ¬ isD (l.getD j 0) = true) : ¬ l.all isD = true := fun h2 => h (all_getD h2 hj)
theorem head_getD {l : List UInt8} (h : l ≠ []) : l.head? = some (l.getD 0 0) := by
  cases l with
  | nil => exact absurd rfl h
  | cons c r => rfl
theorem u8_eq {c : UInt8} {n : Nat} (hn : n < 256) : c = UInt8.ofNat n ↔ c.toNat = n := by
  constructor
  · rintro rfl; rw [UInt8.toNat_ofNat']; exact Nat.mod_eq_of_lt hn
  · intro h; rw [← h, UInt8.ofNat_toNat]

def ckD (s d : List UInt8) : Int := if d = [] ∨ (d.head? = some 48 ∧ s ≠ [48]) then 4 else if d.all isD = true then (if 200 < d.length then 80 else 0) else 4
theorem ck_empty {s d : List UInt8} (h : d = []) : (4 : Int) = ckD s d := by unfold ckD; rw [if_pos (Or.inl h)]
theorem ck_zero {s d : List UInt8} (h0 : d ≠ []) (h : (d.getD 0 0).toNat = 48) (h2 : s ≠ [48]) : (4 : Int) = ckD s d := by
  unfold ckD
  rw [if_pos (Or.inr ⟨by rw [head_getD h0]; exact congrArg some ((u8_eq (n := 48) (by decide)).2 h), h2⟩)]
theorem ck_bad {s d : List UInt8} {j : Nat} (hj : j < d.length) (h : ¬ isD (d.getD j 0) = true) : (4 : Int) = ckD s d := by
  unfold ckD
  rw [if_neg (not_all hj h)]; split <;> rfl
theorem ck_over {s d : List UInt8} (h0 : d ≠ []) (h1 : (d.getD 0 0).toNat = 48 → s = [48]) (h2 : d.all isD = true) (h3 : 200 < d.length) : (80 : Int) = ckD s d := by
  unfold ckD
  rw [if_neg (by rintro (h9 | ⟨h9, h10⟩); exact h0 h9; rw [head_getD h0] at h9; exact h10 (h1 ((u8_eq (n := 48) (by decide)).1 (Option.some.inj h9)))), if_pos h2, if_pos h3]
theorem ck_ok {s d : List UInt8} (h0 : d ≠ []) (h1 : (d.getD 0 0).toNat = 48 → s = [48]) (h2 : d.all isD = true) (h3 : ¬ 200 < d.length) : (0 : Int) = ckD s d := by
  unfold ckD
  rw [if_neg (by rintro (h9 | ⟨h9, h10⟩); exact h0 h9; rw [head_getD h0] at h9; exact h10 (h1 ((u8_eq (n := 48) (by decide)).1 (Option.some.inj h9)))), if_pos h2, if_neg h3]

set_option maxHeartbeats 1000000 in
theorem checkCt (s : List UInt8) (F : Heap) (hs : s.length ≤ 140737488355328) : Ct Tryz.prog 93 [.string (bs s)] F [] (fun _ _ u => u = .int .i64 (checkS s)) := by
  have hbl := bodyS_len s
  have htd := trimDashCt s F hs
  have hck : checkS s = ckD s (bodyS s) := rfl
  generalize hd : bodyS s = d at *
  refine Ct.enter Tryz.func93 rfl Tryz.ntmps93 rfl fun w0 a S => ?_
  refine wp_sr fun Kq1 hKq1 => ?_
  (refine wpl_p S rfl rfl rfl ?_; clear S a; intro a S)
  (refine wpList_nil (hKq1 _ _ (wp_sr fun Kq2 hKq2 => ?_)); try clear hKq1 Kq1)
  (refine wpl_p S rfl rfl rfl ?_; clear S a; intro a S)
  (refine wpl_call0 S rfl rfl rfl rfl rfl rfl (htd) rfl ?_; clear S a; intro v a w hv S; subst hv)
  (refine wpl_p S rfl rfl rfl ?_; clear S a; intro a S)
  (refine wpList_nil (hKq2 _ _ (wp_seq_k fun Kq3 hKq3 => ?_)); try clear hKq2 Kq2)
  refine wp_sr fun Kq4 hKq4 => ?_
  iterate 3 (refine wpl_p S rfl rfl rfl ?_; clear S a; intro a S)
  refine wpl_guard S rfl rfl rfl rfl rfl ?_ ?_
  · (intro h S'; clear S; have S := S'; clear S'; (try simp only [tq] at h))
    (refine wpl_p S rfl rfl rfl ?_; clear S a; intro a S)
    refine wpl_take S rfl rfl rfl ?_
    (have hdl : 0 < d.length := List.length_pos_iff.2 (by assumption)); (refine wpl_v S rfl rfl rfl (sv_indexSN (i := 0) S rfl rfl rfl (by omega)) ?_; clear S a; intro a S)
    refine wpl_take S rfl rfl rfl ?_
    (refine wpl_p S rfl rfl rfl ?_; clear S a; intro a S)
    refine wpl_take S rfl rfl rfl ?_
    (refine wpl_p S rfl rfl rfl ?_; clear S a; intro a S)
    refine wpl_guard S rfl rfl rfl rfl rfl ?_ ?_
    · (intro h S'; clear S; have S := S'; clear S'; (try simp only [tq] at h))
      (refine wpl_p S rfl rfl rfl ?_; clear S a; intro a S)
      refine wpl_take S rfl rfl rfl ?_
      (refine wpl_p S rfl rfl rfl ?_; clear S a; intro a S)
      refine wpl_take S rfl rfl rfl ?_
      iterate 2 (refine wpl_p S rfl rfl rfl ?_; clear S a; intro a S)
      (refine wpList_nil (hKq4 _ _ ?_); try clear hKq4 Kq4)
      refine wpc_split S rfl (fun h => ?_) (fun h => ?_)
      · (skip; (try simp only [tq] at h))
        refine wp_sr fun Kq5 hKq5 => ?_
        (refine wpl_p S rfl rfl rfl ?_; clear S a; intro a S)
        (refine wpList_nil (hKq5 _ _ ?_); try clear hKq5 Kq5)
        refine wp_ret (fin_ret S (results1 Tryz.results93 (RV.tmp S rfl)) ?_)
        (rw [hck]; refine congrArg _ ?_; first | exact ck_empty (by assumption) | exact ck_zero (by assumption) (by omega) (by assumption) | exact ck_bad (j := i) (by omega) (by rw [isD_iff]; omega) | exact ck_over (by assumption) (by first | (intro; assumption) | (intro; omega)) (all_of_take hall (by omega)) (by omega) | exact ck_ok (by assumption) (by first | (intro; assumption) | (intro; omega)) (all_of_take hall (by omega)) (by omega))
      (skip; (try simp only [tq] at h))
      refine wp_skip ?_
      (refine hKq3 _ _ ?_; try (clear hKq3 Kq3))
      (refine wp_seq_k ?_; intro Kq5 hKq5)
      refine wp_sr fun Kq6 hKq6 => ?_
      (refine wpl_p S rfl rfl rfl ?_; clear S a; intro a S)
      (refine wpl_s S rfl rfl rfl ?_; clear S a; intro a S)
      (refine wpl_p S rfl rfl rfl ?_; clear S a; intro a S)
      (refine wpList_nil (hKq6 _ _ ?_); try clear hKq6 Kq6)
      refine wp_block ?_
      refine wpc_loop (fun m a w' => ∃ (i : Nat), m = d.length - i ∧ i ≤ d.length ∧ (∀ j, j < i → isD (d.getD j 0) = true) ∧ St 37 [(3, .string (bs d)), (19, .int .i64 d.length), (20, .int .i64 i)] w0 F [] F [] a w') ?_ ?_
      · (refine ⟨d.length, 0, rfl, Nat.zero_le _, (fun j hj => absurd hj (by omega)), ?_⟩; refine S.keep ?_; repeat (first | exact trivial | refine ⟨rfl, ?_⟩))
      (clear S; rintro m a w ⟨i, rfl, hi, hall, S⟩)
      refine wp_sr fun Kq7 hKq7 => ?_
      (refine wpl_p S rfl rfl rfl ?_; clear S a; intro a S)
      (refine wpList_nil (hKq7 _ _ (wp_seq_k fun Kq8 hKq8 => ?_)); try clear hKq7 Kq7)
      refine wpc_split S rfl (fun h => ?_) (fun h => ?_)
      · (skip; (try simp only [tq] at h))
        refine wp_skip ?_
        (refine hKq8 _ _ ?_; try (clear hKq8 Kq8))
        (refine wp_seq_k ?_; intro Kq9 hKq9)
        refine wp_block ?_
        refine wp_sr fun Kq10 hKq10 => ?_
        iterate 2 (refine wpl_p S rfl rfl rfl ?_; clear S a; intro a S)
        (refine wpList_nil (hKq10 _ _ (wp_sr fun Kq11 hKq11 => ?_)); try clear hKq10 Kq10)
        iterate 2 (refine wpl_p S rfl rfl rfl ?_; clear S a; intro a S)
        first | (refine wpl_v S rfl rfl rfl (sv_indexSN S rfl rfl rfl (by first | omega | (simp only [List.length_append, List.length_cons, List.length_nil]; omega))) ?_; clear S a; intro a S) | (refine wpl_v S rfl rfl rfl (sv_indexS S rfl rfl rfl (by first | omega | (simp only [List.length_append, List.length_cons, List.length_nil]; omega))) ?_; clear S a; intro a S)
        iterate 2 (refine wpl_p S rfl rfl rfl ?_; clear S a; intro a S)
        refine wpl_guard S rfl rfl rfl rfl rfl ?_ ?_
        · (intro h S'; clear S; have S := S'; clear S'; (try simp only [tq] at h))
          (refine wpl_p S rfl rfl rfl ?_; clear S a; intro a S)
          refine wpl_take S rfl rfl rfl ?_
          (refine wpl_p S rfl rfl rfl ?_; clear S a; intro a S)
          refine wpl_take S rfl rfl rfl ?_
          first | (refine wpl_v S rfl rfl rfl (sv_indexSN S rfl rfl rfl (by first | omega | (simp only [List.length_append, List.length_cons, List.length_nil]; omega))) ?_; clear S a; intro a S) | (refine wpl_v S rfl rfl rfl (sv_indexS S rfl rfl rfl (by first | omega | (simp only [List.length_append, List.length_cons, List.length_nil]; omega))) ?_; clear S a; intro a S)
          refine wpl_take S rfl rfl rfl ?_
          iterate 2 (refine wpl_p S rfl rfl rfl ?_; clear S a; intro a S)
          (refine wpList_nil (hKq11 _ _ ?_); try clear hKq11 Kq11)
          refine wpc_split S rfl (fun h => ?_) (fun h => ?_)
          · (skip; (try simp only [tq] at h))
            refine wp_sr fun Kq12 hKq12 => ?_
            (refine wpl_p S rfl rfl rfl ?_; clear S a; intro a S)
            (refine wpList_nil (hKq12 _ _ ?_); try clear hKq12 Kq12)
            refine wp_ret (fin_ret S (results1 Tryz.results93 (RV.tmp S rfl)) ?_)
            (rw [hck]; refine congrArg _ ?_; first | exact ck_empty (by assumption) | exact ck_zero (by assumption) (by omega) (by assumption) | exact ck_bad (j := i) (by omega) (by rw [isD_iff]; omega) | exact ck_over (by assumption) (by first | (intro; assumption) | (intro; omega)) (all_of_take hall (by omega)) (by omega) | exact ck_ok (by assumption) (by first | (intro; assumption) | (intro; omega)) (all_of_take hall (by omega)) (by omega))
          (skip; (try simp only [tq] at h))
          refine wp_skip ?_
          (refine hKq9 _ _ ?_; try (clear hKq9 Kq9))
          refine wp_region_lit ?_
          (refine wpl_a S rfl rfl rfl ?_; clear S a; intro a S)
          (refine wpl_p S rfl rfl rfl ?_; clear S a; intro a S)
          refine wpList_nil ?_
          change ∃ m', _ ∧ _
          (refine ⟨d.length - (i + 1), by omega, i + 1, rfl, by omega, ?_, ?_⟩; rotate_left 1; (refine S.keep ?_; repeat (first | exact trivial | refine ⟨rfl, ?_⟩)); intro j hj; rcases Nat.lt_succ_iff_lt_or_eq.1 hj with h9 | h9; exact hall j h9; subst h9; rw [isD_iff]; omega)
        (intro h; clear S a; intro a S; (try simp only [tq] at h))
        iterate 3 (refine wpl_skip S rfl rfl rfl rfl rfl ?_; clear S a; intro a S)
        (refine wpl_p S rfl rfl rfl ?_; clear S a; intro a S)
        (refine wpList_nil (hKq11 _ _ ?_); try clear hKq11 Kq11)
        refine wpc_true S rfl ?_
        refine wp_sr fun Kq12 hKq12 => ?_
        (refine wpl_p S rfl rfl rfl ?_; clear S a; intro a S)
        (refine wpList_nil (hKq12 _ _ ?_); try clear hKq12 Kq12)
        refine wp_ret (fin_ret S (results1 Tryz.results93 (RV.tmp S rfl)) ?_)
        (rw [hck]; refine congrArg _ ?_; first | exact ck_empty (by assumption) | exact ck_zero (by assumption) (by omega) (by assumption) | exact ck_bad (j := i) (by omega) (by rw [isD_iff]; omega) | exact ck_over (by assumption) (by first | (intro; assumption) | (intro; omega)) (all_of_take hall (by omega)) (by omega) | exact ck_ok (by assumption) (by first | (intro; assumption) | (intro; omega)) (all_of_take hall (by omega)) (by omega))
      (skip; (try simp only [tq] at h))
      refine wp_exit ?_
      (refine hKq5 _ _ ?_; try (clear hKq5 Kq5))
      (refine wp_seq_k ?_; intro Kq9 hKq9)
      refine wp_sr fun Kq10 hKq10 => ?_
      (refine wpl_p S rfl rfl rfl ?_; clear S a; intro a S)
      (refine wpl_s S rfl rfl rfl ?_; clear S a; intro a S)
      (refine wpl_p S rfl rfl rfl ?_; clear S a; intro a S)
      (refine wpList_nil (hKq10 _ _ ?_); try clear hKq10 Kq10)
      refine wpc_split S rfl (fun h => ?_) (fun h => ?_)
      · (skip; (try simp only [tq] at h))
        refine wp_sr fun Kq11 hKq11 => ?_
        (refine wpl_p S rfl rfl rfl ?_; clear S a; intro a S)
        (refine wpList_nil (hKq11 _ _ ?_); try clear hKq11 Kq11)
        refine wp_ret (fin_ret S (results1 Tryz.results93 (RV.tmp S rfl)) ?_)
        (rw [hck]; refine congrArg _ ?_; first | exact ck_empty (by assumption) | exact ck_zero (by assumption) (by omega) (by assumption) | exact ck_bad (j := i) (by omega) (by rw [isD_iff]; omega) | exact ck_over (by assumption) (by first | (intro; assumption) | (intro; omega)) (all_of_take hall (by omega)) (by omega) | exact ck_ok (by assumption) (by first | (intro; assumption) | (intro; omega)) (all_of_take hall (by omega)) (by omega))
      (skip; (try simp only [tq] at h))
      refine wp_skip ?_
      (refine hKq9 _ _ ?_; try (clear hKq9 Kq9))
      refine wp_sr fun Kq11 hKq11 => ?_
      (refine wpl_p S rfl rfl rfl ?_; clear S a; intro a S)
      (refine wpList_nil (hKq11 _ _ ?_); try clear hKq11 Kq11)
      refine wp_ret (fin_ret S (results1 Tryz.results93 (RV.tmp S rfl)) ?_)
      (rw [hck]; refine congrArg _ ?_; first | exact ck_empty (by assumption) | exact ck_zero (by assumption) (by omega) (by assumption) | exact ck_bad (j := i) (by omega) (by rw [isD_iff]; omega) | exact ck_over (by assumption) (by first | (intro; assumption) | (intro; omega)) (all_of_take hall (by omega)) (by omega) | exact ck_ok (by assumption) (by first | (intro; assumption) | (intro; omega)) (all_of_take hall (by omega)) (by omega))
    (intro h; clear S a; intro a S; (try simp only [tq] at h))
    (refine wpl_skip S rfl rfl rfl rfl rfl ?_; clear S a; intro a S)
    refine wpl_take S rfl rfl rfl ?_
    iterate 2 (refine wpl_p S rfl rfl rfl ?_; clear S a; intro a S)
    (refine wpList_nil (hKq4 _ _ ?_); try clear hKq4 Kq4)
    refine wpc_false S rfl ?_
    refine wp_skip ?_
    (refine hKq3 _ _ ?_; try (clear hKq3 Kq3))
    (refine wp_seq_k ?_; intro Kq5 hKq5)
    refine wp_sr fun Kq6 hKq6 => ?_
    (refine wpl_p S rfl rfl rfl ?_; clear S a; intro a S)
    (refine wpl_s S rfl rfl rfl ?_; clear S a; intro a S)
    (refine wpl_p S rfl rfl rfl ?_; clear S a; intro a S)
    (refine wpList_nil (hKq6 _ _ ?_); try clear hKq6 Kq6)
    refine wp_block ?_
    refine wpc_loop (fun m a w' => ∃ (i : Nat), m = d.length - i ∧ i ≤ d.length ∧ (∀ j, j < i → isD (d.getD j 0) = true) ∧ St 37 [(3, .string (bs d)), (19, .int .i64 d.length), (20, .int .i64 i)] w0 F [] F [] a w') ?_ ?_
    · (refine ⟨d.length, 0, rfl, Nat.zero_le _, (fun j hj => absurd hj (by omega)), ?_⟩; refine S.keep ?_; repeat (first | exact trivial | refine ⟨rfl, ?_⟩))
    (clear S; rintro m a w ⟨i, rfl, hi, hall, S⟩)
    refine wp_sr fun Kq7 hKq7 => ?_
    (refine wpl_p S rfl rfl rfl ?_; clear S a; intro a S)
    (refine wpList_nil (hKq7 _ _ (wp_seq_k fun Kq8 hKq8 => ?_)); try clear hKq7 Kq7)
    refine wpc_split S rfl (fun h => ?_) (fun h => ?_)
    · (skip; (try simp only [tq] at h))
      refine wp_skip ?_
      (refine hKq8 _ _ ?_; try (clear hKq8 Kq8))
      (refine wp_seq_k ?_; intro Kq9 hKq9)
      refine wp_block ?_
      refine wp_sr fun Kq10 hKq10 => ?_
      iterate 2 (refine wpl_p S rfl rfl rfl ?_; clear S a; intro a S)
      (refine wpList_nil (hKq10 _ _ (wp_sr fun Kq11 hKq11 => ?_)); try clear hKq10 Kq10)
      iterate 2 (refine wpl_p S rfl rfl rfl ?_; clear S a; intro a S)
      first | (refine wpl_v S rfl rfl rfl (sv_indexSN S rfl rfl rfl (by first | omega | (simp only [List.length_append, List.length_cons, List.length_nil]; omega))) ?_; clear S a; intro a S) | (refine wpl_v S rfl rfl rfl (sv_indexS S rfl rfl rfl (by first | omega | (simp only [List.length_append, List.length_cons, List.length_nil]; omega))) ?_; clear S a; intro a S)
      iterate 2 (refine wpl_p S rfl rfl rfl ?_; clear S a; intro a S)
      refine wpl_guard S rfl rfl rfl rfl rfl ?_ ?_
      · (intro h S'; clear S; have S := S'; clear S'; (try simp only [tq] at h))
        (refine wpl_p S rfl rfl rfl ?_; clear S a; intro a S)
        refine wpl_take S rfl rfl rfl ?_
        (refine wpl_p S rfl rfl rfl ?_; clear S a; intro a S)
        refine wpl_take S rfl rfl rfl ?_
        first | (refine wpl_v S rfl rfl rfl (sv_indexSN S rfl rfl rfl (by first | omega | (simp only [List.length_append, List.length_cons, List.length_nil]; omega))) ?_; clear S a; intro a S) | (refine wpl_v S rfl rfl rfl (sv_indexS S rfl rfl rfl (by first | omega | (simp only [List.length_append, List.length_cons, List.length_nil]; omega))) ?_; clear S a; intro a S)
        refine wpl_take S rfl rfl rfl ?_
        iterate 2 (refine wpl_p S rfl rfl rfl ?_; clear S a; intro a S)
        (refine wpList_nil (hKq11 _ _ ?_); try clear hKq11 Kq11)
        refine wpc_split S rfl (fun h => ?_) (fun h => ?_)
        · (skip; (try simp only [tq] at h))
          refine wp_sr fun Kq12 hKq12 => ?_
          (refine wpl_p S rfl rfl rfl ?_; clear S a; intro a S)
          (refine wpList_nil (hKq12 _ _ ?_); try clear hKq12 Kq12)
          refine wp_ret (fin_ret S (results1 Tryz.results93 (RV.tmp S rfl)) ?_)
          (rw [hck]; refine congrArg _ ?_; first | exact ck_empty (by assumption) | exact ck_zero (by assumption) (by omega) (by assumption) | exact ck_bad (j := i) (by omega) (by rw [isD_iff]; omega) | exact ck_over (by assumption) (by first | (intro; assumption) | (intro; omega)) (all_of_take hall (by omega)) (by omega) | exact ck_ok (by assumption) (by first | (intro; assumption) | (intro; omega)) (all_of_take hall (by omega)) (by omega))
        (skip; (try simp only [tq] at h))
        refine wp_skip ?_
        (refine hKq9 _ _ ?_; try (clear hKq9 Kq9))
        refine wp_region_lit ?_
        (refine wpl_a S rfl rfl rfl ?_; clear S a; intro a S)
        (refine wpl_p S rfl rfl rfl ?_; clear S a; intro a S)
        refine wpList_nil ?_
        change ∃ m', _ ∧ _
        (refine ⟨d.length - (i + 1), by omega, i + 1, rfl, by omega, ?_, ?_⟩; rotate_left 1; (refine S.keep ?_; repeat (first | exact trivial | refine ⟨rfl, ?_⟩)); intro j hj; rcases Nat.lt_succ_iff_lt_or_eq.1 hj with h9 | h9; exact hall j h9; subst h9; rw [isD_iff]; omega)
      (intro h; clear S a; intro a S; (try simp only [tq] at h))
      iterate 3 (refine wpl_skip S rfl rfl rfl rfl rfl ?_; clear S a; intro a S)
      (refine wpl_p S rfl rfl rfl ?_; clear S a; intro a S)
      (refine wpList_nil (hKq11 _ _ ?_); try clear hKq11 Kq11)
      refine wpc_true S rfl ?_
      refine wp_sr fun Kq12 hKq12 => ?_
      (refine wpl_p S rfl rfl rfl ?_; clear S a; intro a S)
      (refine wpList_nil (hKq12 _ _ ?_); try clear hKq12 Kq12)
      refine wp_ret (fin_ret S (results1 Tryz.results93 (RV.tmp S rfl)) ?_)
      (rw [hck]; refine congrArg _ ?_; first | exact ck_empty (by assumption) | exact ck_zero (by assumption) (by omega) (by assumption) | exact ck_bad (j := i) (by omega) (by rw [isD_iff]; omega) | exact ck_over (by assumption) (by first | (intro; assumption) | (intro; omega)) (all_of_take hall (by omega)) (by omega) | exact ck_ok (by assumption) (by first | (intro; assumption) | (intro; omega)) (all_of_take hall (by omega)) (by omega))
    (skip; (try simp only [tq] at h))
    refine wp_exit ?_
    (refine hKq5 _ _ ?_; try (clear hKq5 Kq5))
    (refine wp_seq_k ?_; intro Kq9 hKq9)
    refine wp_sr fun Kq10 hKq10 => ?_
    (refine wpl_p S rfl rfl rfl ?_; clear S a; intro a S)
    (refine wpl_s S rfl rfl rfl ?_; clear S a; intro a S)
    (refine wpl_p S rfl rfl rfl ?_; clear S a; intro a S)
    (refine wpList_nil (hKq10 _ _ ?_); try clear hKq10 Kq10)
    refine wpc_split S rfl (fun h => ?_) (fun h => ?_)
    · (skip; (try simp only [tq] at h))
      refine wp_sr fun Kq11 hKq11 => ?_
      (refine wpl_p S rfl rfl rfl ?_; clear S a; intro a S)
      (refine wpList_nil (hKq11 _ _ ?_); try clear hKq11 Kq11)
      refine wp_ret (fin_ret S (results1 Tryz.results93 (RV.tmp S rfl)) ?_)
      (rw [hck]; refine congrArg _ ?_; first | exact ck_empty (by assumption) | exact ck_zero (by assumption) (by omega) (by assumption) | exact ck_bad (j := i) (by omega) (by rw [isD_iff]; omega) | exact ck_over (by assumption) (by first | (intro; assumption) | (intro; omega)) (all_of_take hall (by omega)) (by omega) | exact ck_ok (by assumption) (by first | (intro; assumption) | (intro; omega)) (all_of_take hall (by omega)) (by omega))
    (skip; (try simp only [tq] at h))
    refine wp_skip ?_
    (refine hKq9 _ _ ?_; try (clear hKq9 Kq9))
    refine wp_sr fun Kq11 hKq11 => ?_
    (refine wpl_p S rfl rfl rfl ?_; clear S a; intro a S)
    (refine wpList_nil (hKq11 _ _ ?_); try clear hKq11 Kq11)
    refine wp_ret (fin_ret S (results1 Tryz.results93 (RV.tmp S rfl)) ?_)
    (rw [hck]; refine congrArg _ ?_; first | exact ck_empty (by assumption) | exact ck_zero (by assumption) (by omega) (by assumption) | exact ck_bad (j := i) (by omega) (by rw [isD_iff]; omega) | exact ck_over (by assumption) (by first | (intro; assumption) | (intro; omega)) (all_of_take hall (by omega)) (by omega) | exact ck_ok (by assumption) (by first | (intro; assumption) | (intro; omega)) (all_of_take hall (by omega)) (by omega))
  (intro h; clear S a; intro a S; (try simp only [tq] at h))
  iterate 3 (refine wpl_skip S rfl rfl rfl rfl rfl ?_; clear S a; intro a S)
  iterate 2 (refine wpl_skipU S rfl rfl rfl rfl rfl ?_; clear S a; intro a S)
  (refine wpl_skip S rfl rfl rfl rfl rfl ?_; clear S a; intro a S)
  (refine wpl_p S rfl rfl rfl ?_; clear S a; intro a S)
  (refine wpList_nil (hKq4 _ _ ?_); try clear hKq4 Kq4)
  refine wpc_true S rfl ?_
  refine wp_sr fun Kq5 hKq5 => ?_
  (refine wpl_p S rfl rfl rfl ?_; clear S a; intro a S)
  (refine wpList_nil (hKq5 _ _ ?_); try clear hKq5 Kq5)
  refine wp_ret (fin_ret S (results1 Tryz.results93 (RV.tmp S rfl)) ?_)
  (rw [hck]; refine congrArg _ ?_; first | exact ck_empty (by assumption) | exact ck_zero (by assumption) (by omega) (by assumption) | exact ck_bad (j := i) (by omega) (by rw [isD_iff]; omega) | exact ck_over (by assumption) (by first | (intro; assumption) | (intro; omega)) (all_of_take hall (by omega)) (by omega) | exact ck_ok (by assumption) (by first | (intro; assumption) | (intro; omega)) (all_of_take hall (by omega)) (by omega))
end Go.Proofs.YtigblodhdfnleaaGreatDoor
namespace Go.Proofs.YtigblodhdfnleaaGreatDoor
open Go Go.Wk Go.Num
set_option linter.unusedSimpArgs false
set_option linter.unusedVariables false
attribute [local irreducible] Go.wpList Go.Code.wp Go.wpStill Go.Wk.wpPre Go.bodyPost Go.Calls Go.Wk.Ct Go.Wk.OwnS

/-- The value u is a number of package big: its sign, and the digits of N. -/
def NumV (F : Heap) (u : Value) (neg : Bool) (N : Nat) : Prop := ∃ ps, u = .agg ⟨[.bool neg, ps]⟩ ∧ Mag F ps N
theorem NumV.mono {F F' : Heap} {u : Value} {neg N} (hF : ∀ b o, F b = some o → F' b = some o) (h : NumV F u neg N) : NumV F' u neg N := by
  obtain ⟨ps, h1, h2⟩ := h; exact ⟨ps, h1, h2.mono hF⟩
theorem dv_cast {c : UInt8} (h : isD c = true) : ((c.toNat : Int) - 48) = ((dv c : Nat) : Int) := by
  have := (isD_iff c).1 h; unfold dv; omega
theorem own_snoc {e : TypeId} {v : Value} {k : Nat} {f : Nat → Nat} {gr : Grp} {x : Value} (h : OwnS e 1 v (k + 1) (cel k f ++ [x]) gr) (hx : x = .int .i64 ((f k : Nat) : Int)) : OwnS e 1 v (k + 1) (cel (k + 1) f) gr := by
  rw [cel_succ, ← hx]; exact h

set_option maxHeartbeats 2000000 in
theorem ofCt (s : List UInt8) (F : Heap) (hck : checkS s = 0) : Ct Tryz.prog 94 [.string (bs s)] F [] (fun F' _ u => NumV F' u (negS s) (decV (bodyS s))) := by
  obtain ⟨hall, hlen, hne⟩ := check_digits hck
  have hsl : s.length ≤ 201 := by
    have h1 : s.length ≤ (bodyS s).length + 1 := by unfold bodyS; split <;> simp; omega
    omega
  have htd := trimDashCt s F (by omega)
  have hneg : decide (((bodyS s).length : Int) < (s.length : Int)) = negS s := by
    unfold negS; simp only [Int.ofNat_lt, bodyS_lt]
  generalize hd : bodyS s = d at *
  refine Ct.enter Tryz.func94 rfl Tryz.ntmps94 rfl fun w0 a S => ?_
  refine wp_sr fun Kq1 hKq1 => ?_
  (refine wpl_alloc S rfl rfl rfl rfl ?_; clear S a; intro b1 a w S)
  (refine wpList_nil (hKq1 _ _ (wp_sr fun Kq2 hKq2 => ?_)); try clear hKq1 Kq1)
  (refine wpl_p S rfl rfl rfl ?_; clear S a; intro a S)
  (refine wpl_call0 S rfl rfl rfl rfl rfl rfl (htd) rfl ?_; clear S a; intro v a w hv S; subst hv)
  (refine wpl_p S rfl rfl rfl ?_; clear S a; intro a S)
  (refine wpList_nil (hKq2 _ _ (wp_sr fun Kq3 hKq3 => ?_)); try clear hKq2 Kq2)
  (refine wpl_p S rfl rfl rfl ?_; clear S a; intro a S)
  (refine wpl_s S rfl rfl rfl ?_; clear S a; intro a S)
  (refine wpl_p S rfl rfl rfl ?_; clear S a; intro a S)
  (refine wpl_s S rfl rfl rfl ?_; clear S a; intro a S)
  (refine wpl_p S rfl rfl rfl ?_; clear S a; intro a S)
  (refine wpl_b S rfl rfl rfl ?_; clear S a; intro a S)
  (refine wpl_alloc S rfl rfl rfl rfl ?_; clear S a; intro b2 a w S)
  (refine wpl_storeO S rfl rfl rfl rfl rfl (by rfl) (by simp [Value.cells, Value.oneCell', splice]) (by rfl) ?_; clear S; intro w S)
  (refine wpList_nil (hKq3 _ _ (wp_seq_k fun Kq4 hKq4 => ?_)); try clear hKq3 Kq3)
  refine wp_sr fun Kq5 hKq5 => ?_
  (refine wpl_p S rfl rfl rfl ?_; clear S a; intro a S)
  (refine wpl_s S rfl rfl rfl ?_; clear S a; intro a S)
  (refine wpl_p S rfl rfl rfl ?_; clear S a; intro a S)
  (refine wpList_nil (hKq5 _ _ ?_); try clear hKq5 Kq5)
  refine wp_block ?_
  refine wpc_loop (fun m a w' => ∃ (e : Int) (c : Nat) (v : Value) (g : Grp), m = e.toNat ∧ e + 9 * c = d.length ∧ -9 < e ∧ OwnS 2 1 v c (cel c (dig 1000000000 (decV d))) g ∧ St 49 [(2, .pointer (some ⟨b1, 0, none⟩)), (4, .pointer (some ⟨b2, 0, none⟩)), (3, .string (bs d)), (5, .int .i64 e)] w0 F [] F [g, [(b2, .cells ⟨[.bool (negS s), v]⟩ 93 (0, 0))], [(b1, .cells ⟨[.bool false, .slice none 0 0]⟩ 93 (0, 0))]] a w') ?_ ?_
  · (refine ⟨_, (d.length : Int), 0, _, _, rfl, by omega, by omega, OwnS.nil _ _, ?_⟩; replace S := S.nilg; rw [hneg] at S; refine S.keep ?_; repeat (first | exact trivial | refine ⟨rfl, ?_⟩))
  (clear S; rintro m a w ⟨e, c, v, g, rfl, he, he9, hown, S⟩)
  (refine wp_seq_k ?_; intro Kq6 hKq6)
  refine wp_sr fun Kq7 hKq7 => ?_
  iterate 2 (refine wpl_p S rfl rfl rfl ?_; clear S a; intro a S)
  (refine wpList_nil (hKq7 _ _ ?_); try clear hKq7 Kq7)
  refine wpc_split S rfl (fun h => ?_) (fun h => ?_)
  · (skip; (try simp only [tq] at h))
    refine wp_skip ?_
    (refine hKq6 _ _ ?_; try (clear hKq6 Kq6))
    (refine wp_seq_k ?_; intro Kq8 hKq8)
    refine wp_block ?_
    refine wp_sr fun Kq9 hKq9 => ?_
    (refine wpl_p S rfl rfl rfl ?_; clear S a; intro a S)
    (refine wpList_nil (hKq9 _ _ (wp_seq_k fun Kq10 hKq10 => ?_)); try clear hKq9 Kq9)
    refine wp_sr fun Kq11 hKq11 => ?_
    (refine wpl_p S rfl rfl rfl ?_; clear S a; intro a S)
    (refine wpl_s S rfl rfl rfl ?_; clear S a; intro a S)
    first | (refine wpl_v S rfl rfl rfl (sv_maxN S rfl rfl rfl) ?_; clear S a; intro a S) | (refine wpl_v S rfl rfl rfl (sv_max0 S rfl rfl rfl) ?_; clear S a; intro a S)
    (refine wpl_p S rfl rfl rfl ?_; clear S a; intro a S)
    (refine wpList_nil (hKq11 _ _ ?_); try clear hKq11 Kq11)
    refine wp_block ?_
    refine wpc_loop (fun m a w' => ∃ (i n : Nat), m = e.toNat - i ∧ (e - 9).toNat ≤ i ∧ i ≤ e.toNat ∧ decV (d.take i) = decV (d.take (e - 9).toNat) * 10 ^ (i - (e - 9).toNat) + n ∧ n < 10 ^ (i - (e - 9).toNat) ∧ St 49 [(2, .pointer (some ⟨b1, 0, none⟩)), (4, .pointer (some ⟨b2, 0, none⟩)), (3, .string (bs d)), (5, .int .i64 e), (6, .int .i64 n), (7, .int .i64 i)] w0 F [] F [g, [(b2, .cells ⟨[.bool (negS s), v]⟩ 93 (0, 0))], [(b1, .cells ⟨[.bool false, .slice none 0 0]⟩ 93 (0, 0))]] a w') ?_ ?_
    · (refine ⟨_, (e - 9).toNat, 0, rfl, Nat.le_refl _, by omega, by simp, by simp, ?_⟩; refine S.keep ?_; repeat (first | exact trivial | refine ⟨rfl, ?_⟩))
    (clear S; rintro m a w ⟨i, n, rfl, hi1, hi2, hdec, hnl, S⟩)
    (refine wp_seq_k ?_; intro Kq12 hKq12)
    refine wp_sr fun Kq13 hKq13 => ?_
    iterate 3 (refine wpl_p S rfl rfl rfl ?_; clear S a; intro a S)
    (refine wpList_nil (hKq13 _ _ ?_); try clear hKq13 Kq13)
    refine wpc_split S rfl (fun h => ?_) (fun h => ?_)
    · (skip; (try simp only [tq] at h))
      refine wp_skip ?_
      (refine hKq12 _ _ ?_; try (clear hKq12 Kq12))
      (refine wp_seq_k ?_; intro Kq14 hKq14)
      refine wp_block ?_
      (have hisd := all_getD hall (k := i) (by omega); have hdv := dv_cast hisd; have hdl := dv_lt hisd; have hn9 : n < 10 ^ 9 := Nat.lt_of_lt_of_le hnl (Nat.pow_le_pow_right (by decide) (by omega)); have hisd2 := (isD_iff _).1 hisd)
      refine wp_region_lit ?_
      (refine wpl_p S rfl rfl rfl ?_; clear S a; intro a S)
      (refine wpl_v S rfl rfl rfl (sv_mul S rfl rfl rfl (by first | omega | (simp only [List.length_append, List.length_cons, List.length_nil]; omega))) ?_; clear S a; intro a S)
      iterate 2 (refine wpl_p S rfl rfl rfl ?_; clear S a; intro a S)
      (refine wpl_v S rfl rfl rfl (sv_indexSN (i := i) S rfl rfl rfl (by omega)) ?_; clear S a; intro a S)
      (refine wpl_v S rfl rfl rfl (sv_sub8 S rfl rfl rfl (by first | omega | (simp only [List.length_append, List.length_cons, List.length_nil]; omega))) ?_; clear S a; intro a S)
      (refine wpl_v S rfl rfl rfl (sv_conv_i64 S rfl rfl (by first | omega | (simp only [List.length_append, List.length_cons, List.length_nil]; omega))) ?_; clear S a; intro a S)
      (refine wpl_a S rfl rfl rfl ?_; clear S a; intro a S)
      (refine wpl_p S rfl rfl rfl ?_; clear S a; intro a S)
      (refine wpList_nil (hKq14 _ _ ?_); try clear hKq14 Kq14)
      refine wp_region_lit ?_
      (refine wpl_p S rfl rfl rfl ?_; clear S a; intro a S)
      (refine wpl_a S rfl rfl rfl ?_; clear S a; intro a S)
      (refine wpl_p S rfl rfl rfl ?_; clear S a; intro a S)
      refine wpList_nil ?_
      change ∃ m', _ ∧ _
      (refine ⟨_, by omega, i + 1, 10 * n + dv (d.getD i 0), rfl, by omega, by omega, ?_, ?_, ?_⟩; rotate_left 2; (rw [hdv] at S; refine S.keep ?_; repeat (first | exact trivial | refine ⟨rfl, ?_⟩)); (rw [decV_take_succ (by omega), show i + 1 - (e - 9).toNat = (i - (e - 9).toNat) + 1 by omega, Nat.pow_succ]; exact dec_step hdec); (rw [show i + 1 - (e - 9).toNat = (i - (e - 9).toNat) + 1 by omega, Nat.pow_succ]; omega))
    (skip; (try simp only [tq] at h))
    refine wp_exit ?_
    (refine hKq10 _ _ ?_; try (clear hKq10 Kq10))
    refine wp_region_lit ?_
    (refine wpl_f S rfl rfl rfl ?_; clear S a; intro a S)
    (refine wpl_l S rfl rfl rfl ?_; clear S a; intro a S)
    (refine wpl_p S rfl rfl rfl ?_; clear S a; intro a S)
    (refine wpl_append S rfl rfl rfl rfl rfl rfl rfl rfl rfl rfl rfl (fun _ => rfl) hown (by rfl) (by simp [Value.cells, splice, splice]) (by simp [Value.cells, Value.oneCell', splice, splice]) rfl (by rfl) (by rfl) rfl (by omega) (by omega) ?_; clear hown S a; intro v u g a w hown S)
    (refine wpl_f S rfl rfl rfl ?_; clear S a; intro a S)
    (refine wpl_store1 S rfl rfl rfl rfl rfl hown.oneCell (by simp) ?_; clear S; intro w S)
    (refine wpList_nil (hKq8 _ _ ?_); try clear hKq8 Kq8)
    refine wp_region_lit ?_
    (refine wpl_p S rfl rfl rfl ?_; clear S a; intro a S)
    (refine wpl_s S rfl rfl rfl ?_; clear S a; intro a S)
    (refine wpl_p S rfl rfl rfl ?_; clear S a; intro a S)
    refine wpList_nil ?_
    change ∃ m', _ ∧ _
    (refine ⟨_, by omega, e - 9, c + 1, v, g, rfl, by omega, by omega, own_snoc hown (congrArg _ ?_), ?_⟩; rotate_left 1; (refine S.keep ?_; repeat (first | exact trivial | refine ⟨rfl, ?_⟩)); rw [dig_chunk hall (e := e.toNat) (by omega)]; have hie : i = e.toNat := (by omega); subst hie; rw [chunk (f := (e - 9).toNat) (by omega) hdec hnl])
  (skip; (try simp only [tq] at h))
  refine wp_exit ?_
  (refine hKq4 _ _ ?_; try (clear hKq4 Kq4))
  (refine wp_seq_k ?_; intro Kq8 hKq8)
  (replace S := St.freeze (G1 := []) S; simp only [List.nil_append] at S; have hsl3 := hown.slC F; have hlt : decV d < 1000000000 ^ c := Nat.lt_of_lt_of_le (decV_lt d hall) (by rw [show (1000000000 : Nat) = 10 ^ 9 by decide, ← Nat.pow_mul]; exact Nat.pow_le_pow_right (by decide) (by omega)))
  refine wp_region_lit ?_
  (refine wpl_f S rfl rfl rfl ?_; clear S a; intro a S)
  (refine wpl_l S rfl rfl rfl ?_; clear S a; intro a S)
  (refine wpl_call0 S rfl rfl rfl rfl rfl rfl (trimCt (decV d) c _ _ hlt (by omega) hsl3) rfl ?_; clear S a; intro u a w hu S; have hu0 := hu; obtain ⟨uo, uc, rfl, hu1, hu2⟩ := hu)
  (refine wpl_f S rfl rfl rfl ?_; clear S a; intro a S)
  (refine wpl_store1 S rfl rfl rfl rfl rfl rfl (by first | (simp; done) | (simp [Value.cells]; done) | exact Nat.le_of_ble_eq_true rfl) ?_; clear S; intro w S)
  (refine wpList_nil (hKq8 _ _ (wp_sr fun Kq9 hKq9 => ?_)); try clear hKq8 Kq8)
  (refine wpl_l S rfl rfl rfl ?_; clear S a; intro a S)
  (refine wpl_storeO S rfl rfl rfl rfl rfl (by rfl) (by simp [Value.cells, Value.oneCell', splice]) (by rfl) ?_; clear S; intro w S)
  (refine wpList_nil (hKq9 _ _ ?_); try clear hKq9 Kq9)
  refine wp_ret (fin_ret S (results1 Tryz.results94 (RV.cellO S rfl (by rfl))) ?_)
  exact ⟨_, rfl, hu0⟩
end Go.Proofs.YtigblodhdfnleaaGreatDoor
namespace Go.Proofs.YtigblodhdfnleaaGreatDoor
open Go Go.Wk Go.Num
set_option linter.unusedSimpArgs false
set_option linter.unusedVariables false
attribute [local irreducible] Go.wpList Go.Code.wp Go.wpStill Go.Wk.wpPre Go.bodyPost Go.Calls Go.Wk.Ct Go.Wk.OwnS
attribute [local irreducible] Go.wpListIn Go.Code.wpIn Go.CallsIn Go.bodyPostM Go.Wk.roundP

set_option maxHeartbeats 1000000 in
theorem isNaN1 (x : Int) (F : Heap) : Ct Tryz.prog 147 [.int .i64 x] F [] (fun _ _ u => u = .bool false) := by
  refine Ct.enter Tryz.func147 rfl Tryz.ntmps147 rfl fun w0 a S => ?_
  refine wp_sr fun Kq1 hKq1 => ?_
  (refine wpl_p S rfl rfl rfl ?_; clear S a; intro a S)
  (refine wpList_nil (hKq1 _ _ (wp_sr fun Kq2 hKq2 => ?_)); try clear hKq1 Kq1)
  iterate 4 (refine wpl_p S rfl rfl rfl ?_; clear S a; intro a S)
  (refine wpList_nil (hKq2 _ _ ?_); try clear hKq2 Kq2)
  refine wp_ret (fin_ret S (results1 Tryz.results147 (RV.tmp S rfl)) ?_)
  (simp)
set_option maxHeartbeats 1000000 in
theorem isNaN2 (x : Int) (F : Heap) : Ct Tryz.prog 148 [.int .i64 x] F [] (fun _ _ u => u = .bool false) := by
  refine Ct.enter Tryz.func148 rfl Tryz.ntmps148 rfl fun w0 a S => ?_
  refine wp_sr fun Kq1 hKq1 => ?_
  (refine wpl_p S rfl rfl rfl ?_; clear S a; intro a S)
  (refine wpList_nil (hKq1 _ _ (wp_sr fun Kq2 hKq2 => ?_)); try clear hKq1 Kq1)
  iterate 4 (refine wpl_p S rfl rfl rfl ?_; clear S a; intro a S)
  (refine wpList_nil (hKq2 _ _ ?_); try clear hKq2 Kq2)
  refine wp_ret (fin_ret S (results1 Tryz.results148 (RV.tmp S rfl)) ?_)
  (simp)
def cmpI (x y : Int) : Int := if x < y then -1 else if y < x then 1 else 0
set_option maxHeartbeats 1000000 in
theorem compare1 (x y : Int) (F : Heap) : Ct Tryz.prog 121 [.int .i64 x, .int .i64 y] F [] (fun _ _ u => u = .int .i64 (cmpI x y)) := by
  refine Ct.enter Tryz.func121 rfl Tryz.ntmps121 rfl fun w0 a S => ?_
  refine wp_sr fun Kq1 hKq1 => ?_
  (refine wpl_p S rfl rfl rfl ?_; clear S a; intro a S)
  (refine wpList_nil (hKq1 _ _ (wp_sr fun Kq2 hKq2 => ?_)); try clear hKq1 Kq1)
  (refine wpl_p S rfl rfl rfl ?_; clear S a; intro a S)
  (refine wpl_call0 S rfl rfl rfl rfl rfl rfl (isNaN1 _ F) rfl ?_; clear S a; intro v a w hv S; subst hv)
  (refine wpl_p S rfl rfl rfl ?_; clear S a; intro a S)
  (refine wpList_nil (hKq2 _ _ (wp_sr fun Kq3 hKq3 => ?_)); try clear hKq2 Kq2)
  (refine wpl_p S rfl rfl rfl ?_; clear S a; intro a S)
  (refine wpl_call0 S rfl rfl rfl rfl rfl rfl (isNaN1 _ F) rfl ?_; clear S a; intro v a w hv S; subst hv)
  (refine wpl_p S rfl rfl rfl ?_; clear S a; intro a S)
  (refine wpList_nil (hKq3 _ _ (wp_seq_k fun Kq4 hKq4 => ?_)); try clear hKq3 Kq3)
  refine wp_sr fun Kq5 hKq5 => ?_
  (refine wpl_p S rfl rfl rfl ?_; clear S a; intro a S)
  (refine wpList_nil (hKq5 _ _ ?_); try clear hKq5 Kq5)
  refine wpc_split S rfl (fun h => ?_) (fun h => ?_)
  · (skip; (try simp only [tq] at h); cases h)
  (skip; (try simp only [tq] at h))
  refine wp_skip ?_
  (refine hKq4 _ _ ?_; try (clear hKq4 Kq4))
  (refine wp_seq_k ?_; intro Kq6 hKq6)
  refine wp_sr fun Kq7 hKq7 => ?_
  (refine wpl_p S rfl rfl rfl ?_; clear S a; intro a S)
  (refine wpList_nil (hKq7 _ _ ?_); try clear hKq7 Kq7)
  refine wpc_split S rfl (fun h => ?_) (fun h => ?_)
  · (skip; (try simp only [tq] at h); cases h)
  (skip; (try simp only [tq] at h))
  refine wp_skip ?_
  (refine hKq6 _ _ ?_; try (clear hKq6 Kq6))
  (refine wp_seq_k ?_; intro Kq8 hKq8)
  refine wp_sr fun Kq9 hKq9 => ?_
  iterate 3 (refine wpl_p S rfl rfl rfl ?_; clear S a; intro a S)
  (refine wpList_nil (hKq9 _ _ ?_); try clear hKq9 Kq9)
  refine wpc_split S rfl (fun h => ?_) (fun h => ?_)
  · (skip; (try simp only [tq] at h))
    refine wp_sr fun Kq10 hKq10 => ?_
    (refine wpl_p S rfl rfl rfl ?_; clear S a; intro a S)
    (refine wpList_nil (hKq10 _ _ ?_); try clear hKq10 Kq10)
    refine wp_ret (fin_ret S (results1 Tryz.results121 (RV.tmp S rfl)) ?_)
    (unfold cmpI; (repeat (first | rw [if_pos (by assumption)] | rw [if_neg (by omega)])))
  (skip; (try simp only [tq] at h))
  refine wp_skip ?_
  (refine hKq8 _ _ ?_; try (clear hKq8 Kq8))
  (refine wp_seq_k ?_; intro Kq10 hKq10)
  refine wp_sr fun Kq11 hKq11 => ?_
  iterate 3 (refine wpl_p S rfl rfl rfl ?_; clear S a; intro a S)
  (refine wpList_nil (hKq11 _ _ ?_); try clear hKq11 Kq11)
  refine wpc_split S rfl (fun h => ?_) (fun h => ?_)
  · (skip; (try simp only [tq] at h))
    refine wp_sr fun Kq12 hKq12 => ?_
    (refine wpl_p S rfl rfl rfl ?_; clear S a; intro a S)
    (refine wpList_nil (hKq12 _ _ ?_); try clear hKq12 Kq12)
    refine wp_ret (fin_ret S (results1 Tryz.results121 (RV.tmp S rfl)) ?_)
    (unfold cmpI; (repeat (first | rw [if_pos (by assumption)] | rw [if_neg (by omega)])))
  (skip; (try simp only [tq] at h))
  refine wp_skip ?_
  (refine hKq10 _ _ ?_; try (clear hKq10 Kq10))
  refine wp_sr fun Kq12 hKq12 => ?_
  (refine wpl_p S rfl rfl rfl ?_; clear S a; intro a S)
  (refine wpList_nil (hKq12 _ _ ?_); try clear hKq12 Kq12)
  refine wp_ret (fin_ret S (results1 Tryz.results121 (RV.tmp S rfl)) ?_)
  (unfold cmpI; (repeat (first | rw [if_pos (by assumption)] | rw [if_neg (by omega)])))
set_option maxHeartbeats 1000000 in
theorem compare2 (x y : Int) (F : Heap) : Ct Tryz.prog 122 [.int .i64 x, .int .i64 y] F [] (fun _ _ u => u = .int .i64 (cmpI x y)) := by
  refine Ct.enter Tryz.func122 rfl Tryz.ntmps122 rfl fun w0 a S => ?_
  refine wp_sr fun Kq1 hKq1 => ?_
  (refine wpl_p S rfl rfl rfl ?_; clear S a; intro a S)
  (refine wpList_nil (hKq1 _ _ (wp_sr fun Kq2 hKq2 => ?_)); try clear hKq1 Kq1)
  (refine wpl_p S rfl rfl rfl ?_; clear S a; intro a S)
  (refine wpl_call0 S rfl rfl rfl rfl rfl rfl (isNaN2 _ F) rfl ?_; clear S a; intro v a w hv S; subst hv)
  (refine wpl_p S rfl rfl rfl ?_; clear S a; intro a S)
  (refine wpList_nil (hKq2 _ _ (wp_sr fun Kq3 hKq3 => ?_)); try clear hKq2 Kq2)
  (refine wpl_p S rfl rfl rfl ?_; clear S a; intro a S)
  (refine wpl_call0 S rfl rfl rfl rfl rfl rfl (isNaN2 _ F) rfl ?_; clear S a; intro v a w hv S; subst hv)
  (refine wpl_p S rfl rfl rfl ?_; clear S a; intro a S)
  (refine wpList_nil (hKq3 _ _ (wp_seq_k fun Kq4 hKq4 => ?_)); try clear hKq3 Kq3)
  refine wp_sr fun Kq5 hKq5 => ?_
  (refine wpl_p S rfl rfl rfl ?_; clear S a; intro a S)
  (refine wpList_nil (hKq5 _ _ ?_); try clear hKq5 Kq5)
  refine wpc_split S rfl (fun h => ?_) (fun h => ?_)
  · (skip; (try simp only [tq] at h); cases h)
  (skip; (try simp only [tq] at h))
  refine wp_skip ?_
  (refine hKq4 _ _ ?_; try (clear hKq4 Kq4))
  (refine wp_seq_k ?_; intro Kq6 hKq6)
  refine wp_sr fun Kq7 hKq7 => ?_
  (refine wpl_p S rfl rfl rfl ?_; clear S a; intro a S)
  (refine wpList_nil (hKq7 _ _ ?_); try clear hKq7 Kq7)
  refine wpc_split S rfl (fun h => ?_) (fun h => ?_)
  · (skip; (try simp only [tq] at h); cases h)
  (skip; (try simp only [tq] at h))
  refine wp_skip ?_
  (refine hKq6 _ _ ?_; try (clear hKq6 Kq6))
  (refine wp_seq_k ?_; intro Kq8 hKq8)
  refine wp_sr fun Kq9 hKq9 => ?_
  iterate 3 (refine wpl_p S rfl rfl rfl ?_; clear S a; intro a S)
  (refine wpList_nil (hKq9 _ _ ?_); try clear hKq9 Kq9)
  refine wpc_split S rfl (fun h => ?_) (fun h => ?_)
  · (skip; (try simp only [tq] at h))
    refine wp_sr fun Kq10 hKq10 => ?_
    (refine wpl_p S rfl rfl rfl ?_; clear S a; intro a S)
    (refine wpList_nil (hKq10 _ _ ?_); try clear hKq10 Kq10)
    refine wp_ret (fin_ret S (results1 Tryz.results122 (RV.tmp S rfl)) ?_)
    (unfold cmpI; (repeat (first | rw [if_pos (by assumption)] | rw [if_neg (by omega)])))
  (skip; (try simp only [tq] at h))
  refine wp_skip ?_
  (refine hKq8 _ _ ?_; try (clear hKq8 Kq8))
  (refine wp_seq_k ?_; intro Kq10 hKq10)
  refine wp_sr fun Kq11 hKq11 => ?_
  iterate 3 (refine wpl_p S rfl rfl rfl ?_; clear S a; intro a S)
  (refine wpList_nil (hKq11 _ _ ?_); try clear hKq11 Kq11)
  refine wpc_split S rfl (fun h => ?_) (fun h => ?_)
  · (skip; (try simp only [tq] at h))
    refine wp_sr fun Kq12 hKq12 => ?_
    (refine wpl_p S rfl rfl rfl ?_; clear S a; intro a S)
    (refine wpList_nil (hKq12 _ _ ?_); try clear hKq12 Kq12)
    refine wp_ret (fin_ret S (results1 Tryz.results122 (RV.tmp S rfl)) ?_)
    (unfold cmpI; (repeat (first | rw [if_pos (by assumption)] | rw [if_neg (by omega)])))
  (skip; (try simp only [tq] at h))
  refine wp_skip ?_
  (refine hKq10 _ _ ?_; try (clear hKq10 Kq10))
  refine wp_sr fun Kq12 hKq12 => ?_
  (refine wpl_p S rfl rfl rfl ?_; clear S a; intro a S)
  (refine wpList_nil (hKq12 _ _ ?_); try clear hKq12 Kq12)
  refine wp_ret (fin_ret S (results1 Tryz.results122 (RV.tmp S rfl)) ?_)
  (unfold cmpI; (repeat (first | rw [if_pos (by assumption)] | rw [if_neg (by omega)])))

set_option maxHeartbeats 1000000 in
theorem backwardCt (v : Value) (F : Heap) : Ct Tryz.prog 95 [v] F [] (fun _ G' u => ∃ bx, u = .func (.func 115) ⟨[]⟩ ⟨[.pointer (some ⟨bx, 0, none⟩)]⟩ ∧ G' = [[(bx, .cells ⟨v.cells.toList⟩ 91 (0, 0))]]) := by
  refine Ct.enter Tryz.func95 rfl Tryz.ntmps95 rfl fun w0 a S => ?_
  refine wp_sr fun Kq1 hKq1 => ?_
  (refine wpl_box S rfl rfl rfl rfl rfl ?_; clear S a; intro b a w S)
  (refine wpl_p S rfl rfl rfl ?_; clear S a; intro a S)
  (refine wpList_nil (hKq1 _ _ (wp_sr fun Kq2 hKq2 => ?_)); try clear hKq1 Kq1)
  iterate 2 (refine wpl_p S rfl rfl rfl ?_; clear S a; intro a S)
  (refine wpList_nil (hKq2 _ _ ?_); try clear hKq2 Kq2)
  refine wp_ret (fin_ret S (results1 Tryz.results95 (RV.tmp S rfl)) ?_)
  exact ⟨_, rfl, rfl⟩

theorem div_eq (b A j : Nat) : A / b ^ j = b * (A / b ^ (j + 1)) + dig b A j := by
  rw [Nat.pow_succ, ← Nat.div_div_eq_div_mul]; exact (Nat.div_add_mod _ _).symm
theorem lt_of_div {b A C j : Nat} (h : A / b ^ j < C / b ^ j) : A < C := by
  rcases Nat.lt_or_ge A C with h1 | h1
  · exact h1
  · have := Nat.div_le_div_right (c := b ^ j) h1; omega
theorem lt_of_nd {b A C : Nat} (hb : 2 ≤ b) (h : nd b A < nd b C) : A < C := by
  have hC : 0 < C := by
    rcases Nat.eq_zero_or_pos C with e | e
    · subst e; rw [nd_zero] at h; omega
    · exact e
  exact Nat.lt_of_lt_of_le (lt_nd hb A) (Nat.le_trans (Nat.pow_le_pow_right (by omega) (by omega)) (le_pow_nd hb hC))
theorem cmp_len {A C : Nat} (h : ¬ ((nd 1000000000 A : Int) = (nd 1000000000 C : Int))) : cmpI (nd 1000000000 A) (nd 1000000000 C) = cmpI A C := by
  have hne : nd 1000000000 A ≠ nd 1000000000 C := fun e => h (by rw [e])
  unfold cmpI
  rcases Nat.lt_or_gt_of_ne hne with h1 | h1
  · have := lt_of_nd b2 h1
    rw [if_pos (by omega), if_pos (by omega)]
  · have := lt_of_nd b2 h1
    rw [if_neg (by omega), if_pos (by omega), if_neg (by omega), if_pos (by omega)]
theorem top_eq {b A C j : Nat} (h : A / b ^ (j + 1) = C / b ^ (j + 1)) (hd : ((dig b A j : Nat) : Int) = ((dig b C j : Nat) : Int)) : A / b ^ j = C / b ^ j := by
  rw [div_eq, div_eq b C, h]; omega
theorem cmp_dig {b A C j : Nat} (h : A / b ^ (j + 1) = C / b ^ (j + 1)) (hd : ¬ ((dig b A j : Nat) : Int) = ((dig b C j : Nat) : Int)) : cmpI (dig b A j) (dig b C j) = cmpI A C := by
  have e1 := div_eq b A j
  have e2 := div_eq b C j
  rw [h] at e1
  unfold cmpI
  have hne : dig b A j ≠ dig b C j := fun e => hd (by rw [e])
  rcases Nat.lt_or_gt_of_ne hne with h1 | h1
  · have := lt_of_div (b := b) (j := j) (A := A) (C := C) (by omega)
    rw [if_pos (by omega), if_pos (by omega)]
  · have := lt_of_div (b := b) (j := j) (A := C) (C := A) (by omega)
    rw [if_neg (by omega), if_pos (by omega), if_neg (by omega), if_pos (by omega)]

set_option maxHeartbeats 2000000 in
theorem sizesCt (A C : Nat) (v u : Value) (F : Heap) (hlA : nd 1000000000 A ≤ 1000000) (hlC : nd 1000000000 C ≤ 1000000) (hv : Mag F v A) (hu : Mag F u C) : Ct Tryz.prog 102 [v, u] F [] (fun _ _ r => r = .int .i64 (cmpI A C)) := by
  obtain ⟨ao, ca, rfl, hca, hpa⟩ := hv
  obtain ⟨co, cc, rfl, hcc, hpc⟩ := hu
  refine Ct.enterM Tryz.func102 rfl Tryz.ntmps102 rfl fun w0 a S => ?_
  (refine wpIn_seq_k ?_; intro Kq1 hKq1)
  refine wpi_region rfl ?_
  (refine wpl_box S rfl rfl rfl rfl rfl ?_; clear S a; intro b3 a w S)
  (refine wpl_alloc S rfl rfl rfl rfl ?_; clear S a; intro b4 a w S)
  (refine wpList_nil (hKq1 _ _ ?_); try clear hKq1 Kq1)
  (refine wpIn_seq_k ?_; intro Kq2 hKq2)
  (refine wpIn_seq_k ?_; intro Kq3 hKq3)
  refine wpi_region rfl ?_
  (refine wpl_p S rfl rfl rfl ?_; clear S a; intro a S)
  (refine wpl_n S rfl rfl rfl ?_; clear S a; intro a S)
  (refine wpl_l S rfl rfl rfl ?_; clear S a; intro a S)
  (refine wpl_n S rfl rfl rfl ?_; clear S a; intro a S)
  (refine wpl_p S rfl rfl rfl ?_; clear S a; intro a S)
  (refine wpList_nil (hKq3 _ _ ?_); try clear hKq3 Kq3)
  refine wpi_split S rfl (fun h => ?_) (fun h => ?_)
  · (skip; (try simp only [tq] at h))
    (refine wpIn_seq_k ?_; intro Kq4 hKq4)
    refine wpi_region rfl ?_
    (refine wpl_p S rfl rfl rfl ?_; clear S a; intro a S)
    (refine wpl_n S rfl rfl rfl ?_; clear S a; intro a S)
    (refine wpl_l S rfl rfl rfl ?_; clear S a; intro a S)
    (refine wpl_n S rfl rfl rfl ?_; clear S a; intro a S)
    (refine wpl_call0 S rfl rfl rfl rfl rfl rfl (compare1 _ _ F) rfl ?_; clear S a; intro v a w hv S; subst hv)
    (refine wpl_store1 S rfl rfl rfl rfl rfl rfl (by first | (simp; done) | (simp [Value.cells]; done) | exact Nat.le_of_ble_eq_true rfl) ?_; clear S; intro w S)
    (refine wpList_nil (hKq4 _ _ ?_); try clear hKq4 Kq4)
    refine wpIn_ret ?_
    refine fin_retN S (results1 Tryz.results102 (RV.cell1O S rfl (by rfl))) ?_
    (rw [cmp_len h])
  (skip; (try simp only [tq] at h))
  refine wpIn_skip ?_
  (refine hKq2 _ _ ?_; try (clear hKq2 Kq2))
  (refine wpIn_seq_k ?_; intro Kq4 hKq4)
  (refine wpIn_seq_k ?_; intro Kq5 hKq5)
  refine wpi_region rfl ?_
  (refine wpl_p S rfl rfl rfl ?_; clear S a; intro a S)
  (refine wpl_callFrz S rfl rfl rfl rfl rfl rfl (backwardCt _ F) rfl ?_; clear S a; intro bx F5 a w hF5 hbx S; have hbox := hbx 0 _ rfl)
  (refine wpList_nil (hKq5 _ _ ?_); try clear hKq5 Kq5)
  refine wpIn_block ?_
  refine wpi_back S rfl rfl rfl rfl (backIter bx (nd 1000000000 A) (dig 1000000000 A) F5 ao ca (by omega) hbox (fun h0 => by obtain ⟨b, off, h1, h2⟩ := hpa h0; exact ⟨b, off, h1, h2.mono hF5⟩)) (fun j F2 G2 => F5 = F2 ∧ G2 = [[(b4, .cells ⟨[.int .i64 0]⟩ 3 (0, 0))], [(b3, .cells ⟨[.slice co (nd 1000000000 C) cc]⟩ 91 (0, 0))]] ∧ A / 1000000000 ^ j = C / 1000000000 ^ j) (fun F2 G2 => F5 = F2 ∧ G2 = [[(b4, .cells ⟨[.int .i64 (cmpI A C)]⟩ 3 (0, 0))], [(b3, .cells ⟨[.slice co (nd 1000000000 C) cc]⟩ 91 (0, 0))]]) (⟨rfl, rfl, by rw [Nat.div_eq_of_lt (lt_nd b2 A), Nat.div_eq_of_lt (by have := lt_nd b2 C; rw [show nd 1000000000 C = nd 1000000000 A by omega] at this; exact this)]⟩) (fun j => [(5, .int .i64 (j : Int)), (6, .int .i64 ((dig 1000000000 A j : Nat) : Int)), (3, .pointer (some ⟨b3, 0, none⟩)), (4, .pointer (some ⟨b4, 0, none⟩))]) ?_ ?_ ?_ ?_
  · (clear S; intro r j w F1 G1 a KA S hKA)
    (refine wpIn_seq_k ?_; intro Kq6 hKq6)
    refine wpi_region rfl ?_
    (refine wpl_p S rfl rfl rfl ?_; clear S a; intro a S)
    (refine wpList_nil (hKq6 _ _ ?_); try clear hKq6 Kq6)
    refine wpi_region rfl ?_
    (refine wpl_p S rfl rfl rfl ?_; clear S a; intro a S)
    refine wpList_nil ?_
    (refine hKA _ ?_; refine S.keep ?_; repeat (first | exact trivial | refine ⟨rfl, ?_⟩))
  · (clear S; intro r j w F1 G1 a hj hF1 hI S)
    (obtain ⟨rfl, rfl, he⟩ := hI; obtain ⟨bc, offc, rfl, hcs⟩ := hpc (by omega); have hcf := (celN hcs (j := j) (by omega)).mono hF5)
    refine wpIn_block ?_
    (refine wpIn_seq_k ?_; intro Kq7 hKq7)
    refine wpi_region rfl ?_
    (refine wpl_p S rfl rfl rfl ?_; clear S a; intro a S)
    (refine wpl_l S rfl rfl rfl ?_; clear S a; intro a S)
    (refine wpl_p S rfl rfl rfl ?_; clear S a; intro a S)
    (refine wpl_i S rfl rfl rfl ?_; clear S a; intro a S)
    (refine wpl_l S rfl rfl rfl ?_; clear S a; intro a S)
    (refine wpl_p S rfl rfl rfl ?_; clear S a; intro a S)
    (refine wpList_nil (hKq7 _ _ ?_); try clear hKq7 Kq7)
    refine wpi_split S rfl (fun h => ?_) (fun h => ?_)
    · (skip; (try simp only [tq] at h))
      (refine wpIn_seq_k ?_; intro Kq8 hKq8)
      refine wpi_region rfl ?_
      (refine wpl_p S rfl rfl rfl ?_; clear S a; intro a S)
      (refine wpl_l S rfl rfl rfl ?_; clear S a; intro a S)
      (refine wpl_p S rfl rfl rfl ?_; clear S a; intro a S)
      (refine wpl_i S rfl rfl rfl ?_; clear S a; intro a S)
      (refine wpl_l S rfl rfl rfl ?_; clear S a; intro a S)
      (refine wpl_call0 S rfl rfl rfl rfl rfl rfl (compare2 _ _ F5) rfl ?_; clear S a; intro v a w hv S; subst hv)
      (refine wpl_store1 S rfl rfl rfl rfl rfl rfl (by first | (simp; done) | (simp [Value.cells]; done) | exact Nat.le_of_ble_eq_true rfl) ?_; clear S; intro w S)
      (refine wpList_nil (hKq8 _ _ ?_); try clear hKq8 Kq8)
      refine wpIn_ret ?_
      skip
      refine round_ret S.tr ?_
      exact ⟨rfl, by rw [← cmp_dig he h]; rfl⟩
    (skip; (try simp only [tq] at h))
    refine wpIn_skip ?_
    skip
    refine round_normal S.tr ?_
    exact ⟨rfl, rfl, top_eq he h⟩
  · (clear S; intro D F1 G1 a w hF1 hI S)
    (obtain ⟨rfl, rfl, he⟩ := hI)
    (refine hKq4 _ _ ?_; try (clear hKq4 Kq4))
    (refine wpIn_seq_k ?_; intro Kq8 hKq8)
    refine wpi_region rfl ?_
    (refine wpl_store1 S rfl rfl rfl rfl rfl rfl (by first | (simp; done) | (simp [Value.cells]; done) | exact Nat.le_of_ble_eq_true rfl) ?_; clear S; intro w S)
    (refine wpList_nil (hKq8 _ _ ?_); try clear hKq8 Kq8)
    refine wpIn_ret ?_
    (refine fin_retM S fun w S => ?_; try (dsimp only at S))
    refine ⟨_, results1 Tryz.results102 (RV.cell1O S rfl (by rfl)), ?_⟩
    (first | rfl | (have he2 : A = C := (by simpa using he); subst he2; unfold cmpI; rw [if_neg (by omega), if_neg (by omega)]))
  (clear S; intro D F1 G1 a w hF1 hI S)
  (obtain ⟨rfl, rfl⟩ := hI)
  (refine fin_retM S fun w S => ?_; try (dsimp only at S))
  refine ⟨_, results1 Tryz.results102 (RV.cell1O S rfl (by rfl)), ?_⟩
  (first | rfl | (have he2 : A = C := (by simpa using he); subst he2; unfold cmpI; rw [if_neg (by omega), if_neg (by omega)]))
end Go.Proofs.YtigblodhdfnleaaGreatDoor
