/- The walk of over of package big: the quotient and the rest of two magnitudes. -/
import Derived.Test.YtmmpbpfdnpgklaaDoorMul
import Derived.Test.YtmmpbpfdnpgklaaDoorWk12
import Derived.Test.YtmmpbpfdnpgklaaDoorDivM
namespace Go.Proofs.YtmmpbpfdnpgklaaDoor
open Go Go.Wk Go.Num
set_option linter.unusedSimpArgs false
set_option linter.unusedVariables false
attribute [local irreducible] Go.wpList Go.Code.wp Go.wpStill Go.Wk.wpPre Go.bodyPost Go.Calls Go.Wk.Ct Go.Wk.OwnS
attribute [local irreducible] Go.wpListIn Go.Code.wpIn Go.CallsIn Go.bodyPostM Go.Wk.roundP Go.Wk.wpG Go.Wk.wpM

theorem dig_push0 {r a : Nat} (ha : a < 1000000000) : dig 1000000000 (r * 1000000000 + a) 0 = a := by
  unfold dig; rw [Nat.pow_zero, Nat.div_one]; omega
theorem dig_push {r a j : Nat} (ha : a < 1000000000) : dig 1000000000 (r * 1000000000 + a) (j + 1) = dig 1000000000 r j := by
  unfold dig
  rw [Nat.pow_succ', ← Nat.div_div_eq_div_mul, show (r * 1000000000 + a) / 1000000000 = r by omega]
theorem cel_push {k r a : Nat} (ha : a < 1000000000) : [Value.int .i64 ((a : Nat) : Int)] ++ cel k (dig 1000000000 r) = cel (k + 1) (dig 1000000000 (r * 1000000000 + a)) := by
  rw [cel_cons, dig_push0 ha, show (fun j => dig 1000000000 (r * 1000000000 + a) (j + 1)) = dig 1000000000 r from funext fun j => dig_push ha]
  rfl
theorem push_lt {r a k : Nat} (ha : a < 1000000000) (h : r < 1000000000 ^ k) : r * 1000000000 + a < 1000000000 ^ (k + 1) := by
  rw [Nat.pow_succ]
  have : (r + 1) * 1000000000 ≤ 1000000000 ^ k * 1000000000 := Nat.mul_le_mul_right _ h
  rw [Nat.add_mul] at this; omega
/-- The quotient's digits, from j on. -/
def fq (Q j i : Nat) : Nat := if j ≤ i then dig 1000000000 Q i else 0
theorem own_q {e : TypeId} {v x : Value} {K j Q : Nat} {gr : Grp} (h : OwnS e 1 v K ((cel K (fq Q (j + 1))).set j x) gr) (hx : x = .int .i64 ((dig 1000000000 Q j : Nat) : Int)) : OwnS e 1 v K (cel K (fq Q j)) gr := by
  have : (cel K (fq Q (j + 1))).set j x = cel K (fq Q j) := by
    refine List.ext_getElem? fun i => ?_
    by_cases hi : i < K
    · rw [cel_get hi, List.getElem?_set, cel_len]
      by_cases e : j = i
      · subst e; rw [if_pos rfl, if_pos hi, hx]; unfold fq; rw [if_pos (Nat.le_refl _)]
      · rw [if_neg e, cel_get hi]
        unfold fq
        by_cases h1 : j ≤ i
        · rw [if_pos h1, if_pos (by omega)]
        · rw [if_neg h1, if_neg (by omega)]
    · rw [List.getElem?_eq_none (by rw [List.length_set, cel_len]; omega), List.getElem?_eq_none (by rw [cel_len]; omega)]
  rw [this] at h; exact h
theorem half_q {R C lo hi : Nat} (h1 : C * lo ≤ R) (h2 : R < C * hi) (h3 : lo < hi) (h4 : ¬ (1 : Int) < (hi : Int) - lo) : lo = R / C := by
  have : hi = lo + 1 := by omega
  subst this
  rw [Nat.mul_comm] at h1 h2
  exact (Nat.div_eq_of_lt_le h1 h2).symm
theorem cmp_np {A C : Nat} (h : cmpI A C ≤ 0) : A ≤ C := by
  unfold cmpI at h; split at h; omega; split at h <;> omega
theorem cmp_ps {A C : Nat} (h : ¬ cmpI A C ≤ 0) : C < A := by
  unfold cmpI at h; split at h; omega; split at h <;> omega
theorem nd_one {C n m : Nat} (hn : n < 1000000000) (hC : nd 1000000000 C ≤ m) : nd 1000000000 (C * n) ≤ m + 1 := by
  have := nd_le (lt_pow_mul (lt_nd b2 C) (lc := 1) (C := n) (by simpa using hn)) b2
  omega
theorem Mag.sl {F : Heap} {v : Value} {N : Nat} (h : Mag F v N) : ∃ vo vc, v = .slice vo (nd 1000000000 N) vc ∧ nd 1000000000 N ≤ vc ∧ (0 < nd 1000000000 N → ∃ b off, vo = some ⟨b, off, none⟩ ∧ Cels F b off (cel (nd 1000000000 N) (dig 1000000000 N))) := h

set_option maxHeartbeats 8000000 in
theorem overCt (A C : Nat) (v u : Value) (F : Heap) (hC : 0 < C) (hlA : nd 1000000000 A ≤ 10000) (hlC : nd 1000000000 C ≤ 10000) (hv : Mag F v A) (hu : Mag F u C) :
    Ct Tryd.prog 65 [v, u] F [] (fun F' _ r => ∃ q s, r = .tuple ⟨[q, s]⟩ ∧ Mag F' q (A / C) ∧ Mag F' s (A % C)) := by
  have hv0 := hv
  have hu0 := hu
  obtain ⟨ao, ca, rfl, hca, hpa⟩ := hv0
  obtain ⟨co, cc, rfl, hcc, hpc⟩ := hu0
  have hQ : A / C < 1000000000 ^ nd 1000000000 A := Nat.lt_of_le_of_lt (Nat.div_le_self _ _) (lt_nd b2 A)
  have hrl : ∀ j, remJ 1000000000 A C j < C := fun j => Nat.mod_lt _ hC
  have hrK : ∀ j, nd 1000000000 (remJ 1000000000 A C j) ≤ 10000 := fun j => Nat.le_trans (nd_mono (Nat.le_of_lt (hrl j))) hlC
  have hA := lt_nd b2 A
  generalize hK : nd 1000000000 A = K at *
  generalize hKC : nd 1000000000 C = KC at *
  have hm0 : Mag F (.slice none 0 0) (remJ 1000000000 A C K) := by rw [rem_top hA]; exact ⟨none, 0, rfl, Nat.le_refl _, fun h => absurd h (Nat.lt_irrefl _)⟩
  refine Ct.enterM Tryd.func65 rfl Tryd.ntmps65 rfl fun w0 a S => ?_
  (refine wpIn_seq_k ?_; intro Kq1 hKq1)
  refine wpi_region rfl ?_
  (refine wpl_box S rfl rfl rfl rfl rfl ?_; clear S a; intro b3 a w S)
  (refine wpl_v S rfl rfl rfl (sv_pure S rfl) ?_; clear S a; intro a S)
  (refine wpl_v S rfl rfl rfl (sv_pure S rfl) ?_; clear S a; intro a S)
  refine wpList_nil ?_
  (refine hKq1 _ _ ?_; try (clear hKq1 Kq1))
  (refine wpIn_seq_k ?_; intro Kq2 hKq2)
  refine wpi_region rfl ?_
  (refine wpl_v S rfl rfl rfl (sv_pure S rfl) ?_; clear S a; intro a S)
  (refine wpl_v S rfl rfl rfl (sv_lenSl S rfl rfl) ?_; clear S a; intro a S)
  (refine wpl_makeSlice (q := K) S rfl rfl rfl rfl rfl rfl rfl (by omega) (by omega) ?_; clear S a; intro bq a w hq S)
  (refine wpl_alloc S rfl rfl rfl rfl ?_; clear S a; intro b6 a w S)
  (refine wpl_store1 S rfl rfl rfl rfl rfl rfl (by first | (simp; done) | (simp [Value.cells]; done)) ?_; clear S; intro w S)
  refine wpList_nil ?_
  (refine hKq2 _ _ ?_; try (clear hKq2 Kq2))
  (refine wpIn_seq_k ?_; intro Kq3 hKq3)
  refine wpi_region rfl ?_
  (refine wpl_alloc S rfl rfl rfl rfl ?_; clear S a; intro b7 a w S)
  refine wpList_nil ?_
  (refine hKq3 _ _ ?_; try (clear hKq3 Kq3))
  (refine wpIn_seq_k ?_; intro Kq4 hKq4)
  (refine wpIn_seq_k ?_; intro Kq5 hKq5)
  refine wpi_region rfl ?_
  (refine wpl_v S rfl rfl rfl (sv_pure S rfl) ?_; clear S a; intro a S)
  (refine wpl_callFrz S rfl rfl rfl rfl rfl rfl (backwardCt _ F) rfl ?_; clear S a; intro bx F5 a w hF5 hbx S; have hbox := hbx 0 _ rfl; have hq0 : OwnS 2 1 (.slice (some ⟨bq, 0, none⟩) K K) K (cel K (fq (A / C) K)) _ := (by rw [show cel K (fq (A / C) K) = cel K (fun _ => 0) from cel_congr fun i hi => (by unfold fq; rw [if_neg (by omega)]), ← replicate_cel]; exact hq); have hm5 := hm0.mono hF5)
  refine wpList_nil ?_
  (refine hKq5 _ _ ?_; try (clear hKq5 Kq5))
  refine wpIn_block ?_
  refine wpi_back S rfl rfl rfl rfl (backIter bx K (dig 1000000000 A) F5 ao ca (by omega) hbox (fun h0 => by obtain ⟨b, off, h1, h2⟩ := hpa h0; exact ⟨b, off, h1, h2.mono hF5⟩)) (fun j F2 G2 => (∀ b o, F5 b = some o → F2 b = some o) ∧ ∃ rv gq, G2 = [[(b7, .cells ⟨[rv]⟩ 47 (0, 0))], [(b6, .cells ⟨[.slice (some ⟨bq, 0, none⟩) K K]⟩ 47 (0, 0))], gq, [(b3, .cells ⟨[.slice co KC cc]⟩ 47 (0, 0))]] ∧ Mag F2 rv (remJ 1000000000 A C j) ∧ OwnS 2 1 (.slice (some ⟨bq, 0, none⟩) K K) K (cel K (fq (A / C) j)) gq) (fun _ _ => False) (⟨fun _ _ h => h, .slice none 0 0, _, rfl, hm5, hq0⟩) (fun j => [(8, .int .i64 (j : Int)), (9, .int .i64 ((dig 1000000000 A j : Nat) : Int)), (3, .pointer (some ⟨b3, 0, none⟩)), (6, .pointer (some ⟨b6, 0, none⟩)), (7, .pointer (some ⟨b7, 0, none⟩))]) ?_ ?_ ?_ ?_
  · (clear S; intro r j w F1 G1 a KA S hKA)
    (refine wpIn_seq_k ?_; intro Kq6 hKq6)
    refine wpi_region rfl ?_
    (refine wpl_v S rfl rfl rfl (sv_pure S rfl) ?_; clear S a; intro a S)
    refine wpList_nil ?_
    (refine hKq6 _ _ ?_; try (clear hKq6 Kq6))
    refine wpi_region rfl ?_
    (refine wpl_v S rfl rfl rfl (sv_pure S rfl) ?_; clear S a; intro a S)
    refine wpList_nil ?_
    (refine hKA _ ?_; refine S.keep ?_; repeat (first | exact trivial | refine ⟨rfl, ?_⟩))
  · (clear S; intro r j w F1 G1 a hj hF1 hI S)
    (obtain ⟨hF2, rv, gq, rfl, hrv, hq⟩ := hI; have hrv0 := hrv; obtain ⟨ro, rc, rfl, hrc, hrp⟩ := hrv0; have hdj := dig_lt b2 A j; have hrk := hrK (j + 1); have hrle := hrl (j + 1); have huF := (hu.mono hF5).mono hF2; generalize w = W0 at *; generalize hKK : keys _ = KK at S)
    refine wpIn_block ?_
    (refine wpIn_seq_k ?_; intro Kq7 hKq7)
    refine wpi_region rfl ?_
    (refine wpl_v S rfl rfl rfl (sv_pure S rfl) ?_; clear S a; intro a S)
    (refine wpl_buildSlice S rfl rfl rfl rfl rfl rfl (by rfl) (by simp [Value.cells, splice, splice]) rfl (by rfl) (by rfl) ?_; clear S a; intro b21 a w hown S)
    first | (refine wpl_v S rfl rfl rfl (sv_loadO S rfl rfl (by rfl)) ?_; clear S a; intro a S) | (refine wpl_v S rfl rfl rfl (sv_loadF S rfl rfl (by assumption)) ?_; clear S a; intro a S)
    (refine wpl_appendSl S rfl rfl rfl rfl rfl rfl hown (by rfl) (by rw [cel_len, Nat.mul_one]) hrp cel_one (by omega) (by omega) ?_; clear hown S a; intro v g a w hown S)
    (have hle := add_le (G1 := []) S; obtain ⟨vo, vc, rfl, -, -⟩ := hown.at; replace S := St.freeze (G1 := []) S; (try simp only [List.nil_append] at S); have hslg := hown.slC F1; obtain ⟨R1, hR1⟩ : ∃ R1, R1 = remJ 1000000000 A C (j + 1) * 1000000000 + dig 1000000000 A j := ⟨_, rfl⟩; have hslg2 : SlC (F1.add g) (.slice vo (1 + nd 1000000000 (remJ 1000000000 A C (j + 1))) vc) (1 + nd 1000000000 (remJ 1000000000 A C (j + 1))) (cel (1 + nd 1000000000 (remJ 1000000000 A C (j + 1))) (dig 1000000000 R1)) := (by rw [hR1, Nat.add_comm 1, ← cel_push (by omega), Nat.add_comm _ 1]; exact hslg); have hR1lt : R1 < 1000000000 ^ (1 + nd 1000000000 (remJ 1000000000 A C (j + 1))) := (by rw [hR1, Nat.add_comm 1]; exact push_lt (by omega) (lt_nd b2 _)); have hR1K : nd 1000000000 R1 ≤ 10001 := Nat.le_trans (nd_le hR1lt b2) (by omega); have hR1C : R1 < C * 1000000000 := (by omega); clear hown)
    (first | (refine wpl_call0 S rfl rfl rfl rfl rfl rfl (trimCt R1 _ _ _ hR1lt (by omega) hslg2) rfl ?_; clear S a; intro u1 a w hu1 S; have hu10 := hu1; obtain ⟨uo, uc, rfl, -, -⟩ := hu10) | (refine wpl_call0 S rfl rfl rfl rfl rfl rfl (trimCt (A / C) K _ _ hQ (by omega) hqf) rfl ?_; clear S a; intro u9 a w hu9 S))
    (refine wpl_store1 S rfl rfl rfl rfl rfl rfl (by first | (simp; done) | (simp [Value.cells]; done)) ?_; clear S; intro w S)
    refine wpList_nil ?_
    (refine hKq7 _ _ ?_; try (clear hKq7 Kq7))
    (refine wpIn_seq_k ?_; intro Kq8 hKq8)
    refine wpi_region rfl ?_
    (refine wpl_v S rfl rfl rfl (sv_pure S rfl) ?_; clear S a; intro a S)
    (refine wpl_v S rfl rfl rfl (sv_pure S rfl) ?_; clear S a; intro a S)
    refine wpList_nil ?_
    (refine hKq8 _ _ ?_; try (clear hKq8 Kq8))
    (refine wpIn_seq_k ?_; intro Kq9 hKq9)
    refine wpIn_block ?_
    refine wpi_loop (fun m a w' => ∃ (lo hi : Nat) (F3 : Heap), m = hi - lo ∧ lo < hi ∧ hi ≤ 1000000000 ∧ C * lo ≤ R1 ∧ R1 < C * hi ∧ (∀ b o, F1 b = some o → F3 b = some o) ∧ Mag F3 (.slice uo (nd 1000000000 R1) uc) R1 ∧ St 53 [(8, .int .i64 (j : Int)), (3, .pointer (some ⟨b3, 0, none⟩)), (6, .pointer (some ⟨b6, 0, none⟩)), (7, .pointer (some ⟨b7, 0, none⟩)), (10, .int .i64 (lo : Int)), (11, .int .i64 (hi : Int))] W0 F1 KK F3 [[(b7, .cells ⟨[.slice uo (nd 1000000000 R1) uc]⟩ 47 (0, 0))], [(b6, .cells ⟨[.slice (some ⟨bq, 0, none⟩) K K]⟩ 47 (0, 0))], gq, [(b3, .cells ⟨[.slice co KC cc]⟩ 47 (0, 0))]] a w') ?_ ?_
    · (refine ⟨1000000000, 0, 1000000000, F1.add g, rfl, by decide, Nat.le_refl _, by omega, hR1C, hle, hu1, ?_⟩; refine S.keep ?_; repeat (first | exact trivial | refine ⟨rfl, ?_⟩))
    · (clear S; rintro m a w ⟨lo, hi, F3, rfl, hlh, hhi, hlo, hRhi, hF3, hu3, S⟩)
      (refine wpIn_seq_k ?_; intro Kq10 hKq10)
      (refine wpIn_seq_k ?_; intro Kq11 hKq11)
      refine wpi_region rfl ?_
      (refine wpl_v S rfl rfl rfl (sv_pure S rfl) ?_; clear S a; intro a S)
      (refine wpl_v S rfl rfl rfl (sv_pure S rfl) ?_; clear S a; intro a S)
      (refine wpl_v S rfl rfl rfl (sv_sub S rfl rfl rfl (by first | omega | (simp only [List.length_append, List.length_cons, List.length_nil]; omega))) ?_; clear S a; intro a S)
      (refine wpl_v S rfl rfl rfl (sv_pure S rfl) ?_; clear S a; intro a S)
      refine wpList_nil ?_
      (refine hKq11 _ _ ?_; try (clear hKq11 Kq11))
      refine wpi_split S rfl (fun h => ?_) (fun h => ?_)
      · (skip; (try simp only [decide_eq_true_eq, decide_eq_false_iff_not, beq_iff_eq, bne_iff_ne, bne_eq_false_iff_eq, beq_eq_false_iff_ne, ne_eq, Bool.not_eq_true', Bool.not_eq_false', Bool.not_eq_true, Bool.not_eq_false, Bool.not_true, Bool.not_false, Int.ofNat_lt, Int.ofNat_le, Nat.not_lt, Nat.not_le] at h))
        refine wpIn_skip ?_
        (refine hKq10 _ _ ?_; try (clear hKq10 Kq10))
        refine wpIn_block ?_
        (refine wpIn_seq_k ?_; intro Kq12 hKq12)
        refine wpi_region rfl ?_
        (refine wpl_v S rfl rfl rfl (sv_pure S rfl) ?_; clear S a; intro a S)
        (refine wpl_v S rfl rfl rfl (sv_pure S rfl) ?_; clear S a; intro a S)
        (refine wpl_v S rfl rfl rfl (sv_add S rfl rfl rfl (by first | omega | (simp only [List.length_append, List.length_cons, List.length_nil]; omega))) ?_; clear S a; intro a S)
        (refine wpl_v S rfl rfl rfl (sv_quo S rfl rfl rfl (by first | omega | (simp only [List.length_append, List.length_cons, List.length_nil]; omega))) ?_; clear S a; intro a S)
        (refine wpl_v S rfl rfl rfl (sv_pure S rfl) ?_; clear S a; intro a S)
        refine wpList_nil ?_
        (refine hKq12 _ _ ?_; try (clear hKq12 Kq12))
        (refine wpIn_seq_k ?_; intro Kq13 hKq13)
        (obtain ⟨mid, hmid⟩ : ∃ mid, mid = (lo + hi) / 2 := ⟨_, rfl⟩; replace S := S.keep (L' := [(8, .int .i64 (j : Int)), (3, .pointer (some ⟨b3, 0, none⟩)), (6, .pointer (some ⟨b6, 0, none⟩)), (7, .pointer (some ⟨b7, 0, none⟩)), (10, .int .i64 (lo : Int)), (11, .int .i64 (hi : Int)), (12, .int .i64 (mid : Int))]) ⟨rfl, rfl, rfl, rfl, rfl, rfl, reg (by omega), trivial⟩)
        (refine wpi_mixM [0, 1, 3, 5] [0, 3] [] (.one 0 (.one 1 (.one 3 (.one 2 (.one 4 (.one 5 .nil)))))) [b3, b7] S mixed rfl (by kernel_rfl) ?_; clear S; intro w S)
        first | (refine wpm_lateO b3 S rfl rfl rfl (want_none _ rfl) rfl rfl (fun w' S => sv_loadO S rfl rfl (by rfl)) ?_; clear S a; intro a S) | (refine wpm_lateO b3 S rfl rfl rfl (want_none _ rfl) rfl rfl (fun w' S => sv_loadAO S rfl rfl (by rfl)) ?_; clear S a; intro a S)
        (refine wpm_v S rfl rfl rfl (want_none _ rfl) rfl rfl (fun w' S => sv_pure S rfl) ?_; clear S a; intro a S)
        first | (refine wpm_lateO b7 S rfl rfl rfl (want_none _ rfl) rfl rfl (fun w' S => sv_loadO S rfl rfl (by rfl)) ?_; clear S a; intro a S) | (refine wpm_lateO b7 S rfl rfl rfl (want_none _ rfl) rfl rfl (fun w' S => sv_loadAO S rfl rfl (by rfl)) ?_; clear S a; intro a S)
        refine wpm_eff rfl rfl (fun _ => ⟨fun b o h => S.tr.frz b o (by first | exact h | solve_by_elim), S.has inferInstance, S.has inferInstance, trivial⟩) ?_
        (first | (refine wpl_callF S rfl rfl rfl rfl rfl rfl (timesCt C mid _ F3 (by omega) (by omega) (huF.mono hF3)) rfl ?_; clear S a; intro t1 F4 a w ht1 hF4 S; skip) | (refine wpl_callF S rfl rfl rfl rfl rfl rfl (timesCt C lo _ F3 (by omega) (by omega) (huF.mono hF3)) rfl ?_; clear S a; intro t1 F4 a w ht1 hF4 S; skip))
        refine wpList_nil ?_
        refine wpm_eff rfl rfl (fun _ => ⟨fun b o h => S.tr.frz b o (by first | exact h | solve_by_elim), S.has inferInstance, S.has inferInstance, trivial⟩) ?_
        (refine wpl_call0 S rfl rfl rfl rfl rfl rfl (sizesCt (C * mid) R1 _ _ F4 (Nat.le_trans (nd_one (by omega) (by rw [hKC]; exact hlC)) (by omega)) (by omega) ht1 (hu3.mono hF4)) rfl ?_; clear S a; intro v a w hv S; subst hv)
        refine wpList_nil ?_
        (refine wpm_v S rfl rfl rfl (want_none _ rfl) rfl rfl (fun w' S => sv_pure S rfl) ?_; clear S a; intro a S)
        refine wpm_nil (fun _ => ⟨fun b o h => S.tr.frz b o (by first | exact h | solve_by_elim), S.has inferInstance, S.has inferInstance, trivial⟩) ?_
        (refine hKq13 _ _ ?_; try (clear hKq13 Kq13))
        refine wpi_split S rfl (fun h => ?_) (fun h => ?_)
        · (skip; (try simp only [decide_eq_true_eq, decide_eq_false_iff_not, beq_iff_eq, bne_iff_ne, bne_eq_false_iff_eq, beq_eq_false_iff_ne, ne_eq, Bool.not_eq_true', Bool.not_eq_false', Bool.not_eq_true, Bool.not_eq_false, Bool.not_true, Bool.not_false, Int.ofNat_lt, Int.ofNat_le, Nat.not_lt, Nat.not_le] at h))
          refine wpi_region rfl ?_
          (refine wpl_v S rfl rfl rfl (sv_pure S rfl) ?_; clear S a; intro a S)
          (refine wpl_v S rfl rfl rfl (sv_pure S rfl) ?_; clear S a; intro a S)
          refine wpList_nil ?_
          change ∃ m', _ ∧ _
          (first | (refine ⟨hi - mid, by omega, mid, hi, F4, rfl, by omega, hhi, cmp_np h, hRhi, (fun b o h => hF4 _ _ (hF3 _ _ h)), hu3.mono hF4, ?_⟩; refine S.keep ?_; repeat (first | exact trivial | refine ⟨rfl, ?_⟩)) | (refine ⟨mid - lo, by omega, lo, mid, F4, rfl, by omega, by omega, hlo, cmp_ps h, (fun b o h => hF4 _ _ (hF3 _ _ h)), hu3.mono hF4, ?_⟩; refine S.keep ?_; repeat (first | exact trivial | refine ⟨rfl, ?_⟩)))
        · (skip; (try simp only [decide_eq_true_eq, decide_eq_false_iff_not, beq_iff_eq, bne_iff_ne, bne_eq_false_iff_eq, beq_eq_false_iff_ne, ne_eq, Bool.not_eq_true', Bool.not_eq_false', Bool.not_eq_true, Bool.not_eq_false, Bool.not_true, Bool.not_false, Int.ofNat_lt, Int.ofNat_le, Nat.not_lt, Nat.not_le] at h))
          refine wpi_region rfl ?_
          (refine wpl_v S rfl rfl rfl (sv_pure S rfl) ?_; clear S a; intro a S)
          (refine wpl_v S rfl rfl rfl (sv_pure S rfl) ?_; clear S a; intro a S)
          refine wpList_nil ?_
          change ∃ m', _ ∧ _
          (first | (refine ⟨hi - mid, by omega, mid, hi, F4, rfl, by omega, hhi, cmp_np h, hRhi, (fun b o h => hF4 _ _ (hF3 _ _ h)), hu3.mono hF4, ?_⟩; refine S.keep ?_; repeat (first | exact trivial | refine ⟨rfl, ?_⟩)) | (refine ⟨mid - lo, by omega, lo, mid, F4, rfl, by omega, by omega, hlo, cmp_ps h, (fun b o h => hF4 _ _ (hF3 _ _ h)), hu3.mono hF4, ?_⟩; refine S.keep ?_; repeat (first | exact trivial | refine ⟨rfl, ?_⟩)))
      · (skip; (try simp only [decide_eq_true_eq, decide_eq_false_iff_not, beq_iff_eq, bne_iff_ne, bne_eq_false_iff_eq, beq_eq_false_iff_ne, ne_eq, Bool.not_eq_true', Bool.not_eq_false', Bool.not_eq_true, Bool.not_eq_false, Bool.not_true, Bool.not_false, Int.ofNat_lt, Int.ofNat_le, Nat.not_lt, Nat.not_le] at h))
        refine wpIn_exit ?_
        (refine hKq9 _ _ ?_; try (clear hKq9 Kq9))
        (refine wpIn_seq_k ?_; intro Kq12 hKq12)
        (have hlod := half_q hlo hRhi hlh (by omega); have hdd := dig_div (A := A) (j := j) b2 hC; rw [← hR1, ← hlod] at hdd; have hrd : R1 - C * lo = remJ 1000000000 A C j := (by rw [rem_step, ← hR1, hlod]; have := Nat.div_add_mod R1 C; omega))
        refine wpi_region rfl ?_
        first | (refine wpl_v S rfl rfl rfl (sv_loadO S rfl rfl (by rfl)) ?_; clear S a; intro a S) | (refine wpl_v S rfl rfl rfl (sv_loadF S rfl rfl (by assumption)) ?_; clear S a; intro a S)
        (refine wpl_v S rfl rfl rfl (sv_pure S rfl) ?_; clear S a; intro a S)
        (refine wpl_v S rfl rfl rfl (sv_pure S rfl) ?_; clear S a; intro a S)
        (refine wpl_v S rfl rfl rfl (sv_indexAddrSl S rfl rfl rfl (by first | omega | (simp only [List.length_append, List.length_cons, List.length_nil]; omega))) ?_; clear S a; intro a S)
        (refine wpl_storeOwn S rfl rfl rfl rfl rfl hq rfl (by omega) ?_; clear hq S; intro gq w hq S)
        refine wpList_nil ?_
        (refine hKq12 _ _ ?_; try (clear hKq12 Kq12))
        (refine wpi_mixM [0, 1, 2] [0, 1] [5] (.one 0 (.one 1 (.one 2 (.one 3 (.one 4 (.one 5 .nil)))))) [b7, b3] S mixed rfl (by kernel_rfl) ?_; clear S; intro w S)
        first | (refine wpm_lateO b7 S rfl rfl rfl (want_none _ rfl) rfl rfl (fun w' S => sv_loadO S rfl rfl (by rfl)) ?_; clear S a; intro a S) | (refine wpm_lateO b7 S rfl rfl rfl (want_none _ rfl) rfl rfl (fun w' S => sv_loadAO S rfl rfl (by rfl)) ?_; clear S a; intro a S)
        first | (refine wpm_lateO b3 S rfl rfl rfl (want_none _ rfl) rfl rfl (fun w' S => sv_loadO S rfl rfl (by rfl)) ?_; clear S a; intro a S) | (refine wpm_lateO b3 S rfl rfl rfl (want_none _ rfl) rfl rfl (fun w' S => sv_loadAO S rfl rfl (by rfl)) ?_; clear S a; intro a S)
        (refine wpm_v S rfl rfl rfl (want_none _ rfl) rfl rfl (fun w' S => sv_pure S rfl) ?_; clear S a; intro a S)
        refine wpm_eff rfl rfl (fun _ => ⟨fun b o h => S.tr.frz b o (by first | exact h | solve_by_elim), S.has inferInstance, S.has inferInstance, trivial⟩) ?_
        (first | (refine wpl_callF S rfl rfl rfl rfl rfl rfl (timesCt C mid _ F3 (by omega) (by omega) (huF.mono hF3)) rfl ?_; clear S a; intro t1 F4 a w ht1 hF4 S; skip) | (refine wpl_callF S rfl rfl rfl rfl rfl rfl (timesCt C lo _ F3 (by omega) (by omega) (huF.mono hF3)) rfl ?_; clear S a; intro t1 F4 a w ht1 hF4 S; skip))
        refine wpList_nil ?_
        refine wpm_eff rfl rfl (fun _ => ⟨fun b o h => S.tr.frz b o (by first | exact h | solve_by_elim), S.has inferInstance, S.has inferInstance, trivial⟩) ?_
        (refine wpl_callF S rfl rfl rfl rfl rfl rfl (minusCt R1 (C * lo) _ _ F4 hlo (by omega) (Nat.le_trans (nd_one (by omega) (by rw [hKC]; exact hlC)) (by omega)) (hu3.mono hF4) ht1) rfl ?_; clear S a; intro u8 F8 a w hu8 hF8 S; have hu80 := hu8; obtain ⟨u8o, u8c, rfl, -, -⟩ := hu80)
        refine wpList_nil ?_
        refine wpm_eff rfl rfl (fun _ => ⟨fun b o h => S.tr.frz b o (by first | exact h | solve_by_elim), S.has inferInstance, S.has inferInstance, trivial⟩) ?_
        (refine wpl_store1 S rfl rfl rfl rfl rfl rfl (by first | (simp; done) | (simp [Value.cells]; done)) ?_; clear S; intro w S)
        refine wpList_nil ?_
        refine wpm_nil (fun h => absurd h (by decide)) ?_
        subst hKK
        refine round_normal S.tr ?_
        (refine ⟨fun b o h => hF8 _ _ (hF4 _ _ (hF3 _ _ (hF2 _ _ h))), _, _, rfl, ?_, own_q hq (congrArg _ ?_)⟩; (rw [← hrd]; exact hu8); rw [hdd])
  · (clear S; intro D F1 G1 a w hF1 hI S)
    (obtain ⟨hF2, rv, gq, rfl, hrv, hq⟩ := hI; have hle9 := add_le (G1 := [[(D, .deferred (some []))], [(b7, .cells ⟨[rv]⟩ 47 (0, 0))], [(b6, .cells ⟨[.slice (some ⟨bq, 0, none⟩) K K]⟩ 47 (0, 0))]]) S; replace S := St.freeze (G1 := [[(D, .deferred (some []))], [(b7, .cells ⟨[rv]⟩ 47 (0, 0))], [(b6, .cells ⟨[.slice (some ⟨bq, 0, none⟩) K K]⟩ 47 (0, 0))]]) S; (simp only [List.cons_append, List.nil_append] at S); have hqf := hq.slC F1; rw [show cel K (fq (A / C) 0) = cel K (dig 1000000000 (A / C)) from cel_congr fun i hi => (by unfold fq; rw [if_pos (Nat.zero_le _)])] at hqf)
    (refine hKq4 _ _ ?_; try (clear hKq4 Kq4))
    (refine wpIn_seq_k ?_; intro Kq13 hKq13)
    (refine wpi_mixM [0, 2] [0, 2] [] (.one 0 (.one 2 (.one 1 (.one 3 (.one 4 .nil))))) [b6, b7] S mixed rfl (by kernel_rfl) ?_; clear S; intro w S)
    first | (refine wpm_lateO b6 S rfl rfl rfl (want_none _ rfl) rfl rfl (fun w' S => sv_loadO S rfl rfl (by rfl)) ?_; clear S a; intro a S) | (refine wpm_lateO b6 S rfl rfl rfl (want_none _ rfl) rfl rfl (fun w' S => sv_loadAO S rfl rfl (by rfl)) ?_; clear S a; intro a S)
    first | (refine wpm_lateO b7 S rfl rfl rfl (want_none _ rfl) rfl rfl (fun w' S => sv_loadO S rfl rfl (by rfl)) ?_; clear S a; intro a S) | (refine wpm_lateO b7 S rfl rfl rfl (want_none _ rfl) rfl rfl (fun w' S => sv_loadAO S rfl rfl (by rfl)) ?_; clear S a; intro a S)
    refine wpm_eff rfl rfl (fun _ => ⟨fun b o h => S.tr.frz b o (by first | exact h | solve_by_elim), S.has inferInstance, S.has inferInstance, trivial⟩) ?_
    (first | (refine wpl_call0 S rfl rfl rfl rfl rfl rfl (trimCt R1 _ _ _ hR1lt (by omega) hslg2) rfl ?_; clear S a; intro u1 a w hu1 S; have hu10 := hu1; obtain ⟨uo, uc, rfl, -, -⟩ := hu10) | (refine wpl_call0 S rfl rfl rfl rfl rfl rfl (trimCt (A / C) K _ _ hQ (by omega) hqf) rfl ?_; clear S a; intro u9 a w hu9 S))
    refine wpList_nil ?_
    refine wpm_eff rfl rfl (fun _ => ⟨fun b o h => S.tr.frz b o (by first | exact h | solve_by_elim), S.has inferInstance, S.has inferInstance, trivial⟩) ?_
    (refine wpl_v S rfl rfl rfl (sv_pure S rfl) ?_; clear S a; intro a S)
    refine wpList_nil ?_
    refine wpm_eff rfl rfl (fun _ => ⟨fun b o h => S.tr.frz b o (by first | exact h | solve_by_elim), S.has inferInstance, S.has inferInstance, trivial⟩) ?_
    (refine wpl_v S rfl rfl rfl (sv_pure S rfl) ?_; clear S a; intro a S)
    refine wpList_nil ?_
    refine wpm_nil (fun _ => ⟨fun b o h => S.tr.frz b o (by first | exact h | solve_by_elim), S.has inferInstance, S.has inferInstance, trivial⟩) ?_
    (refine hKq13 _ _ ?_; try (clear hKq13 Kq13))
    refine wpIn_ret ?_
    (refine fin_retM S fun w S => ?_; try (dsimp only at S))
    refine ⟨_, results2 Tryd.results65 (RV.tmp S rfl) (RV.tmp S rfl), ?_⟩
    (have h9 := hrv.mono hle9; rw [rem_zero] at h9; exact ⟨_, _, rfl, hu9, h9⟩)
  · (clear S; intro D F1 G1 a w hF1 hI S)
    exact hI.elim
end Go.Proofs.YtmmpbpfdnpgklaaDoor
