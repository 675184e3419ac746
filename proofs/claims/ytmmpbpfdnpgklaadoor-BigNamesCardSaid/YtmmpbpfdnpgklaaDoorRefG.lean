/- The walk of the document's answer for layer 1: Over. -/
import Derived.Test.YtmmpbpfdnpgklaaDoorRefF
namespace Go.Proofs.YtmmpbpfdnpgklaaDoor
open Go Go.Wk Go.Num
set_option linter.unusedSimpArgs false
set_option linter.unusedVariables false
attribute [local irreducible] Go.wpList Go.Code.wp Go.wpStill Go.Wk.wpPre Go.bodyPost Go.Calls Go.Wk.Ct Go.Wk.OwnS
attribute [local irreducible] Go.Wk.wpG Go.Wk.wpM

theorem cmp_lt {A C : Nat} (h : ¬ 0 ≤ cmpI A C) : A < C := by
  unfold cmpI at h; split at h; omega; split at h <;> omega
theorem over_step {R1 C n : Nat} (hC : 0 < C) (h : C ≤ R1 - n * C) : n + 1 ≤ R1 / C ∧ (n + 1) * C ≤ R1 := by
  have h2 : (n + 1) * C ≤ R1 := by rw [Nat.add_mul, Nat.one_mul]; omega
  exact ⟨(Nat.le_div_iff_mul_le hC).2 h2, h2⟩
theorem over_end {R1 C n : Nat} (hC : 0 < C) (h0 : n * C ≤ R1) (h : R1 - n * C < C) : n = R1 / C ∧ R1 - n * C = R1 % C := by
  have h1 : n = R1 / C := (Nat.div_eq_of_lt_le (by omega) (by rw [Nat.add_mul, Nat.one_mul]; omega)).symm
  refine ⟨h1, ?_⟩
  have := Nat.div_add_mod R1 C
  rw [h1, Nat.mul_comm]; omega
theorem tdiv_sign {x y : Int} : toZ (decide (x < 0) != decide (y < 0), x.natAbs / y.natAbs) = x.tdiv y := by
  by_cases h1 : x < 0 <;> by_cases h2 : y < 0
  · obtain ⟨a, rfl⟩ := Int.eq_negSucc_of_lt_zero h1
    obtain ⟨b, rfl⟩ := Int.eq_negSucc_of_lt_zero h2
    simp [toZ, Int.tdiv, h1, h2]
  · obtain ⟨a, rfl⟩ := Int.eq_negSucc_of_lt_zero h1
    obtain ⟨b, rfl⟩ := Int.eq_ofNat_of_zero_le (Int.not_lt.1 h2)
    simp [toZ, Int.tdiv, h1, h2]
  · obtain ⟨a, rfl⟩ := Int.eq_ofNat_of_zero_le (Int.not_lt.1 h1)
    obtain ⟨b, rfl⟩ := Int.eq_negSucc_of_lt_zero h2
    simp [toZ, Int.tdiv, h1, h2]
  · obtain ⟨a, rfl⟩ := Int.eq_ofNat_of_zero_le (Int.not_lt.1 h1)
    obtain ⟨b, rfl⟩ := Int.eq_ofNat_of_zero_le (Int.not_lt.1 h2)
    simp [toZ, Int.tdiv, h1, h2]
theorem tmod_sign {x y : Int} : toZ (decide (x < 0), x.natAbs % y.natAbs) = x.tmod y := by
  by_cases h1 : x < 0 <;> by_cases h2 : y < 0
  · obtain ⟨a, rfl⟩ := Int.eq_negSucc_of_lt_zero h1
    obtain ⟨b, rfl⟩ := Int.eq_negSucc_of_lt_zero h2
    simp [toZ, Int.tmod, h1, h2]
  · obtain ⟨a, rfl⟩ := Int.eq_negSucc_of_lt_zero h1
    obtain ⟨b, rfl⟩ := Int.eq_ofNat_of_zero_le (Int.not_lt.1 h2)
    simp [toZ, Int.tmod, h1, h2]
  · obtain ⟨a, rfl⟩ := Int.eq_ofNat_of_zero_le (Int.not_lt.1 h1)
    obtain ⟨b, rfl⟩ := Int.eq_negSucc_of_lt_zero h2
    simp [toZ, Int.tmod, h1, h2]
  · obtain ⟨a, rfl⟩ := Int.eq_ofNat_of_zero_le (Int.not_lt.1 h1)
    obtain ⟨b, rfl⟩ := Int.eq_ofNat_of_zero_le (Int.not_lt.1 h2)
    simp [toZ, Int.tmod, h1, h2]
theorem cel_shift {k e Q : Nat} : [Value.int .i64 ((dig 10 Q e : Nat) : Int)] ++ cel k (fun j => dig 10 Q (e + 1 + j)) = cel (k + 1) (fun j => dig 10 Q (e + j)) := by
  rw [cel_cons]
  rw [show (fun j => dig 10 Q (e + (j + 1))) = fun j => dig 10 Q (e + 1 + j) from funext fun j => by rw [Nat.add_assoc, Nat.add_comm 1 j]]
  rfl
theorem nd_sub_le {C R1 m : Nat} (h : R1 < 10 ^ m) (n : Nat) : nd 10 (R1 - n * C) ≤ m := nd_le (Nat.lt_of_le_of_lt (Nat.sub_le _ _) h) t2

set_option maxHeartbeats 4000000 in
theorem roverCt (x y : Int) (v u : Value) (F : Heap) (hy0 : y ≠ 0) (hx : nd 10 x.natAbs ≤ 10000) (hy : nd 10 y.natAbs ≤ 10000) (hv : Num10 F v x) (hu : Num10 F u y) : Ct Tryd.prog 40 [v, u] F [] (fun F' _ r => ∃ q s, r = .tuple ⟨[q, s]⟩ ∧ Num10 F' q (x.tdiv y) ∧ Num10 F' s (x.tmod y)) := by
  obtain ⟨p, rfl, hp⟩ := hv
  obtain ⟨q, rfl, hq⟩ := hu
  have hp0 := hp
  obtain ⟨ao, ca, rfl, -, hppos⟩ := hp0
  have hq0 := hq
  obtain ⟨co, cc, rfl, -, -⟩ := hq0
  have hA := lt_nd t2 x.natAbs
  have hC := lt_nd t2 y.natAbs
  unfold D10 at hp hq
  have hdiv := tdiv_sign (x := x) (y := y)
  have hmod := tmod_sign (x := x) (y := y)
  have hC0 : 0 < y.natAbs := by omega
  generalize hKA : nd 10 x.natAbs = KA at *
  generalize hKC : nd 10 y.natAbs = KC at *
  generalize hAe : x.natAbs = A at *
  generalize hCe : y.natAbs = C at *
  have hrl : ∀ j, remJ 10 A C j < C := fun j => Nat.mod_lt _ hC0
  have hrK : ∀ j, nd 10 (remJ 10 A C j) ≤ KC := fun j => nd_le (Nat.lt_trans (hrl j) hC) t2
  refine Ct.enter Tryd.func40 rfl Tryd.ntmps40 rfl fun w0 a S => ?_
  (refine wp_seq_k ?_; intro Kq1 hKq1)
  refine wp_region_lit ?_
  (refine wpl_box S rfl rfl rfl rfl rfl ?_; clear S a; intro b2 a w S)
  (refine wpl_box S rfl rfl rfl rfl rfl ?_; clear S a; intro b3 a w S)
  (refine wpl_alloc S rfl rfl rfl rfl ?_; clear S a; intro b4 a w S)
  (refine wpl_alloc S rfl rfl rfl rfl ?_; clear S a; intro b5 a w S)
  refine wpList_nil ?_
  (refine hKq1 _ _ ?_; try (clear hKq1 Kq1))
  (refine wp_seq_k ?_; intro Kq2 hKq2)
  refine wp_region_lit ?_
  (refine wpl_v S rfl rfl rfl (sv_build S rfl rfl rfl) ?_; clear S a; intro a S)
  (refine wpl_alloc S rfl rfl rfl rfl ?_; clear S a; intro b6 a w S)
  (refine wpl_storeO S rfl rfl rfl rfl rfl (by rfl) (by simp [Value.cells, Value.oneCell', splice]) (by rfl) ?_; clear S; intro w S)
  refine wpList_nil ?_
  (refine hKq2 _ _ ?_; try (clear hKq2 Kq2))
  (refine wp_seq_k ?_; intro Kq3 hKq3)
  refine wp_region_lit ?_
  (refine wpl_v S rfl rfl rfl (sv_build S rfl rfl rfl) ?_; clear S a; intro a S)
  (refine wpl_alloc S rfl rfl rfl rfl ?_; clear S a; intro b7 a w S)
  (refine wpl_storeO S rfl rfl rfl rfl rfl (by rfl) (by simp [Value.cells, Value.oneCell', splice]) (by rfl) ?_; clear S; intro w S)
  refine wpList_nil ?_
  (refine hKq3 _ _ ?_; try (clear hKq3 Kq3))
  (refine wp_seq_k ?_; intro Kq4 hKq4)
  (refine wp_seq_k ?_; intro Kq5 hKq5)
  refine wp_region_lit ?_
  (refine wpl_v S rfl rfl rfl (sv_fieldAddr S rfl rfl rfl inferInstance rfl) ?_; clear S a; intro a S)
  first | (refine wpl_v S rfl rfl rfl (sv_loadO S rfl rfl (by rfl)) ?_; clear S a; intro a S) | (refine wpl_v S rfl rfl rfl (sv_loadF S rfl rfl (by assumption)) ?_; clear S a; intro a S)
  (refine wpl_v S rfl rfl rfl (sv_lenSl S rfl rfl) ?_; clear S a; intro a S)
  (refine wpl_v S rfl rfl rfl (sv_sub S rfl rfl rfl (by first | omega | (simp only [List.length_append, List.length_cons, List.length_nil]; omega))) ?_; clear S a; intro a S)
  (refine wpl_v S rfl rfl rfl (sv_pure S rfl) ?_; clear S a; intro a S)
  refine wpList_nil ?_
  (refine hKq5 _ _ ?_; try (clear hKq5 Kq5))
  refine wp_block ?_
  refine wpc_loop (fun m a w' => ∃ (e : Nat) (F2 : Heap) (nq nr : Bool) (qo ro : Option Addr) (qc rc : Nat), m = e ∧ e ≤ KA ∧ (∀ b o, F b = some o → F2 b = some o) ∧ SlC F2 (.slice qo (KA - e) qc) (KA - e) (cel (KA - e) (fun j => dig 10 (A / C) (e + j))) ∧ SlC F2 (.slice ro (nd 10 (remJ 10 A C e)) rc) (nd 10 (remJ 10 A C e)) (cel (nd 10 (remJ 10 A C e)) (dig 10 (remJ 10 A C e))) ∧ St 61 [(2, .pointer (some ⟨b2, 0, none⟩)), (3, .pointer (some ⟨b3, 0, none⟩)), (4, .pointer (some ⟨b4, 0, none⟩)), (5, .pointer (some ⟨b5, 0, none⟩)), (6, .pointer (some ⟨b6, 0, none⟩)), (7, .pointer (some ⟨b7, 0, none⟩)), (8, .int .i64 ((e : Int) - 1))] w0 F [] F2 [[(b7, .cells ⟨[.bool nr, .slice ro (nd 10 (remJ 10 A C e)) rc]⟩ 38 (0, 0))], [(b6, .cells ⟨[.bool nq, .slice qo (KA - e) qc]⟩ 38 (0, 0))], [(b5, .cells ⟨[.bool false, .slice none 0 0]⟩ 38 (0, 0))], [(b4, .cells ⟨[.bool false, .slice none 0 0]⟩ 38 (0, 0))], [(b3, .cells ⟨[.bool (decide (y < 0)), .slice co KC cc]⟩ 38 (0, 0))], [(b2, .cells ⟨[.bool (decide (x < 0)), .slice ao KA ca]⟩ 38 (0, 0))]] a w') ?_ ?_
  · (refine ⟨KA, KA, F, false, false, none, none, 0, 0, rfl, Nat.le_refl _, (fun _ _ h => h), ?_, ?_, ?_⟩; (rw [Nat.sub_self]; exact ⟨none, 0, rfl, Nat.le_refl _, fun h => absurd h (Nat.lt_irrefl _)⟩); (rw [rem_top hA, nd_zero]; exact ⟨none, 0, rfl, Nat.le_refl _, fun h => absurd h (Nat.lt_irrefl _)⟩); rw [rem_top hA, nd_zero, Nat.sub_self]; refine S.keep ?_; repeat (first | exact trivial | refine ⟨rfl, ?_⟩))
  · (clear S; rintro m a w ⟨e, F2, nq, nr, qo, ro, qc, rc, rfl, he, hF2, hq2, hr2, S⟩)
    (refine wp_seq_k ?_; intro Kq6 hKq6)
    (refine wp_seq_k ?_; intro Kq7 hKq7)
    refine wp_region_lit ?_
    (refine wpl_v S rfl rfl rfl (sv_pure S rfl) ?_; clear S a; intro a S)
    (refine wpl_v S rfl rfl rfl (sv_pure S rfl) ?_; clear S a; intro a S)
    refine wpList_nil ?_
    (refine hKq7 _ _ ?_; try (clear hKq7 Kq7))
    refine wpc_split S rfl (fun h => ?_) (fun h => ?_)
    · (skip; (try simp only [decide_eq_true_eq, decide_eq_false_iff_not, beq_iff_eq, bne_iff_ne, bne_eq_false_iff_eq, beq_eq_false_iff_ne, ne_eq, Bool.not_eq_true', Bool.not_eq_false', Bool.not_eq_true, Bool.not_eq_false, Bool.not_true, Bool.not_false, Int.ofNat_lt, Int.ofNat_le, Nat.not_lt, Nat.not_le] at h))
      refine wp_skip ?_
      (refine hKq6 _ _ ?_; try (clear hKq6 Kq6))
      (refine wp_seq_k ?_; intro Kq8 hKq8)
      refine wp_block ?_
      (refine wp_seq_k ?_; intro Kq9 hKq9)
      (obtain ⟨e, rfl⟩ : ∃ e, m = e + 1 := ⟨m - 1, by omega⟩; have hKe : KA - e = KA - (e + 1) + 1 := (by omega); replace S := S.keep (L' := [(2, .pointer (some ⟨b2, 0, none⟩)), (3, .pointer (some ⟨b3, 0, none⟩)), (4, .pointer (some ⟨b4, 0, none⟩)), (5, .pointer (some ⟨b5, 0, none⟩)), (6, .pointer (some ⟨b6, 0, none⟩)), (7, .pointer (some ⟨b7, 0, none⟩)), (8, .int .i64 (e : Int))]) ⟨rfl, rfl, rfl, rfl, rfl, rfl, reg (by omega), trivial⟩; obtain ⟨ba, oa, rfl, hca⟩ := hppos (by omega); have hce := (celN hca (j := e) (by omega)).mono hF2; have hda := dig_lt t2 A e; have hrp := (SlC.pos hr2).2; have hrc := (SlC.pos hr2).1; have hrk := hrK (e + 1); have hrle := hrl (e + 1))
      (refine wpc_mixM [0, 1, 2, 3, 4, 6, 7, 9] [1, 4, 7] [11] (.one 0 (.one 1 (.one 2 (.one 3 (.one 4 (.one 6 (.one 7 (.one 5 (.one 8 (.one 9 (.one 10 (.one 11 .nil)))))))))))) [b2, b7] S mixed (by kernel_rfl) ?_; clear S; intro w S)
      (refine wpm_v S rfl rfl rfl (want_none _ rfl) rfl rfl (fun w' S => sv_fieldAddr S rfl rfl rfl inferInstance rfl) ?_; clear S a; intro a S)
      first | (refine wpm_lateO b2 S rfl rfl rfl (want_none _ rfl) rfl rfl (fun w' S => sv_loadO S rfl rfl (by rfl)) ?_; clear S a; intro a S) | (refine wpm_lateO b2 S rfl rfl rfl (want_none _ rfl) rfl rfl (fun w' S => sv_loadAO S rfl rfl (by rfl)) ?_; clear S a; intro a S)
      (refine wpm_v S rfl rfl rfl (want_none _ rfl) rfl rfl (fun w' S => sv_pure S rfl) ?_; clear S a; intro a S)
      (refine wpm_v S rfl rfl rfl (want_none _ rfl) rfl rfl (fun w' S => sv_indexAddrSl S rfl rfl rfl (by first | omega | (simp only [List.length_append, List.length_cons, List.length_nil]; omega))) ?_; clear S a; intro a S)
      first | (refine wpm_lateF S rfl rfl rfl (want_none _ rfl) rfl rfl (fun w' S => sv_loadF S rfl rfl (by assumption)) ?_; clear S a; intro a S) | (refine wpm_lateF S rfl rfl rfl (want_none _ rfl) rfl rfl (fun w' S => sv_loadAF S rfl rfl (by assumption) (by rfl)) ?_; clear S a; intro a S)
      (refine wpm_v S rfl rfl rfl (want_none _ rfl) rfl rfl (fun w' S => sv_fieldAddr S rfl rfl rfl inferInstance rfl) ?_; clear S a; intro a S)
      first | (refine wpm_lateO b7 S rfl rfl rfl (want_none _ rfl) rfl rfl (fun w' S => sv_loadO S rfl rfl (by rfl)) ?_; clear S a; intro a S) | (refine wpm_lateO b7 S rfl rfl rfl (want_none _ rfl) rfl rfl (fun w' S => sv_loadAO S rfl rfl (by rfl)) ?_; clear S a; intro a S)
      refine wpm_eff rfl rfl (fun _ => ⟨fun b o h => S.tr.frz b o (by first | exact h | solve_by_elim), S.has inferInstance, S.has inferInstance, trivial⟩) ?_
      (refine wpl_buildSlice S rfl rfl rfl rfl rfl rfl (by rfl) (by simp [Value.cells, splice, splice]) rfl (by rfl) (by rfl) ?_; clear S a; intro b25 a w hown S)
      refine wpList_nil ?_
      refine wpm_eff rfl rfl (fun _ => ⟨fun b o h => S.tr.frz b o (by first | exact h | solve_by_elim), S.has inferInstance, S.has inferInstance, trivial⟩) ?_
      (refine wpl_appendSl S rfl rfl rfl rfl rfl rfl hown (by rfl) (by rw [cel_len, Nat.mul_one]) hrp cel_one (by omega) (by omega) ?_; clear hown S a; intro v g a w hown S)
      (have hle := add_le (G1 := []) S; obtain ⟨vo, vc, rfl, -, -⟩ := hown.at; replace S := St.freeze (G1 := []) S; (try simp only [List.nil_append] at S); have hslg := hown.slC F2; obtain ⟨R1, hR1⟩ : ∃ R1, R1 = remJ 10 A C (e + 1) * 10 + dig 10 A e := ⟨_, rfl⟩; have hslg2 : SlC (F2.add g) (.slice vo (1 + nd 10 (remJ 10 A C (e + 1))) vc) (1 + nd 10 (remJ 10 A C (e + 1))) (cel (1 + nd 10 (remJ 10 A C (e + 1))) (dig 10 R1)) := (by rw [hR1, Nat.add_comm 1, ← cel10_push (by omega), Nat.add_comm _ 1]; exact hslg); have hR1lt : R1 < 10 ^ (1 + nd 10 (remJ 10 A C (e + 1))) := (by rw [hR1, Nat.add_comm 1]; exact push10_lt (by omega) (lt_nd t2 _)); have hR1K : R1 < 10 ^ (KC + 1) := Nat.lt_of_lt_of_le hR1lt (Nat.pow_le_pow_right (by decide) (by omega)); have hR1C : R1 < 10 * C := (by omega); clear hown)
      refine wpList_nil ?_
      (refine wpm_v S rfl rfl rfl (want_none _ rfl) rfl rfl (fun w' S => sv_build S rfl rfl rfl) ?_; clear S a; intro a S)
      refine wpm_eff rfl rfl (fun _ => ⟨fun b o h => S.tr.frz b o (by first | exact h | solve_by_elim), S.has inferInstance, S.has inferInstance, trivial⟩) ?_
      (first | (refine wpl_callF S rfl rfl rfl rfl rfl rfl (tidyCt false R1 _ _ (F2.add g) hR1lt (by omega) hslg2) rfl ?_; clear S a; intro u2 F1 a w hu hF1 S; obtain ⟨pu, rfl, hpu⟩ := hu.at; have hpu0 := hpu; obtain ⟨uo, uc, rfl, -, -⟩ := hpu0; unfold D10 at hpu) | (refine wpl_callF S rfl rfl rfl rfl rfl rfl (tidyCt _ (A / C) KA _ F2 hQlt (by omega) hqf) rfl ?_; clear S a; intro u2 F5 a w hu5 hF5 S; have hu50 := hu5; obtain ⟨p5, rfl, hp5⟩ := hu50; have hp50 := hp5; obtain ⟨u5o, u5c, rfl, -, -⟩ := hp50) | (refine wpl_callF S rfl rfl rfl rfl rfl rfl (tidyCt _ (A % C) _ _ F5 (lt_nd t2 _) (by omega) (SlC.mono hF5 hrf)) rfl ?_; clear S a; intro u3 F6 a w hu6 hF6 S; have hu60 := hu6; obtain ⟨p6, rfl, hp6⟩ := hu60; have hp60 := hp6; obtain ⟨u6o, u6c, rfl, -, -⟩ := hp60))
      refine wpList_nil ?_
      refine wpm_eff rfl rfl (fun _ => ⟨fun b o h => S.tr.frz b o (by first | exact h | solve_by_elim), S.has inferInstance, S.has inferInstance, trivial⟩) ?_
      (refine wpl_storeO S rfl rfl rfl rfl rfl (by rfl) (by simp [Value.cells, Value.oneCell', splice]) (by rfl) ?_; clear S; intro w S)
      refine wpList_nil ?_
      refine wpm_nil (fun h => absurd h (by decide)) ?_
      (refine hKq9 _ _ ?_; try (clear hKq9 Kq9))
      (refine wp_seq_k ?_; intro Kq10 hKq10)
      refine wp_region_lit ?_
      (refine wpl_v S rfl rfl rfl (sv_pure S rfl) ?_; clear S a; intro a S)
      refine wpList_nil ?_
      (refine hKq10 _ _ ?_; try (clear hKq10 Kq10))
      (refine wp_seq_k ?_; intro Kq11 hKq11)
      refine wp_block ?_
      refine wpc_loop (fun m a w' => ∃ (n : Nat) (F3 : Heap) (nr : Bool) (ro : Option Addr) (rc : Nat), m = R1 / C - n ∧ n ≤ R1 / C ∧ n * C ≤ R1 ∧ (∀ b o, F2 b = some o → F3 b = some o) ∧ SlC F3 (.slice ro (nd 10 (R1 - n * C)) rc) (nd 10 (R1 - n * C)) (cel (nd 10 (R1 - n * C)) (dig 10 (R1 - n * C))) ∧ St 61 [(2, .pointer (some ⟨b2, 0, none⟩)), (3, .pointer (some ⟨b3, 0, none⟩)), (4, .pointer (some ⟨b4, 0, none⟩)), (5, .pointer (some ⟨b5, 0, none⟩)), (6, .pointer (some ⟨b6, 0, none⟩)), (7, .pointer (some ⟨b7, 0, none⟩)), (8, .int .i64 (e : Int)), (9, .int .i64 (n : Int))] w0 F [] F3 [[(b7, .cells ⟨[.bool nr, .slice ro (nd 10 (R1 - n * C)) rc]⟩ 38 (0, 0))], [(b6, .cells ⟨[.bool nq, .slice qo (KA - (e + 1)) qc]⟩ 38 (0, 0))], [(b5, .cells ⟨[.bool false, .slice none 0 0]⟩ 38 (0, 0))], [(b4, .cells ⟨[.bool false, .slice none 0 0]⟩ 38 (0, 0))], [(b3, .cells ⟨[.bool (decide (y < 0)), .slice co KC cc]⟩ 38 (0, 0))], [(b2, .cells ⟨[.bool (decide (x < 0)), .slice (some ⟨ba, oa, none⟩) KA ca]⟩ 38 (0, 0))]] a w') ?_ ?_
      · (refine ⟨R1 / C, 0, F1, decide (toZ (false, R1) < 0), uo, uc, rfl, Nat.zero_le _, by omega, (fun b o h => hF1 b o (hle b o h)), ?_, ?_⟩; (rw [Nat.zero_mul, Nat.sub_zero]; exact hpu); rw [Nat.zero_mul, Nat.sub_zero]; refine S.keep ?_; repeat (first | exact trivial | refine ⟨rfl, ?_⟩))
      · (clear S; rintro m a w ⟨n, F3, nr3, r3, rc3, rfl, hn, hnC, hF23, hr3, S⟩; have hF3 : ∀ b o, F b = some o → F3 b = some o := fun b o h => hF23 b o (hF2 b o h); have hndr := nd_sub_le (C := C) hR1K n; have hn10 : n < 10 := Nat.lt_of_mul_lt_mul_right (a := C) (by omega))
        (refine wp_seq_k ?_; intro Kq12 hKq12)
        (refine wp_seq_k ?_; intro Kq13 hKq13)
        refine wp_region_lit ?_
        first | (refine wpl_v S rfl rfl rfl (sv_loadAO S rfl rfl (by rfl)) ?_; clear S a; intro a S) | (refine wpl_v S rfl rfl rfl (sv_loadAF S rfl rfl (by assumption) (by rfl)) ?_; clear S a; intro a S)
        first | (refine wpl_v S rfl rfl rfl (sv_loadAO S rfl rfl (by rfl)) ?_; clear S a; intro a S) | (refine wpl_v S rfl rfl rfl (sv_loadAF S rfl rfl (by assumption) (by rfl)) ?_; clear S a; intro a S)
        (refine wpl_call0 S rfl rfl rfl rfl rfl rfl (sizeCt nr3 _ (R1 - n * C) C _ KC _ _ F3 (lt_nd t2 _) hC (by omega) (by omega) hr3 (SlC.mono hF3 hq)) rfl ?_; clear S a; intro v a w hv S; subst hv)
        (refine wpl_v S rfl rfl rfl (sv_pure S rfl) ?_; clear S a; intro a S)
        refine wpList_nil ?_
        (refine hKq13 _ _ ?_; try (clear hKq13 Kq13))
        refine wpc_split S rfl (fun h => ?_) (fun h => ?_)
        · (skip; (try simp only [decide_eq_true_eq, decide_eq_false_iff_not, beq_iff_eq, bne_iff_ne, bne_eq_false_iff_eq, beq_eq_false_iff_ne, ne_eq, Bool.not_eq_true', Bool.not_eq_false', Bool.not_eq_true, Bool.not_eq_false, Bool.not_true, Bool.not_false, Int.ofNat_lt, Int.ofNat_le, Nat.not_lt, Nat.not_le] at h))
          refine wp_skip ?_
          (refine hKq12 _ _ ?_; try (clear hKq12 Kq12))
          refine wp_block ?_
          (refine wp_seq_k ?_; intro Kq14 hKq14)
          refine wp_region_lit ?_
          first | (refine wpl_v S rfl rfl rfl (sv_loadAO S rfl rfl (by rfl)) ?_; clear S a; intro a S) | (refine wpl_v S rfl rfl rfl (sv_loadAF S rfl rfl (by assumption) (by rfl)) ?_; clear S a; intro a S)
          (refine wpl_v S rfl rfl rfl (sv_fieldAddr S rfl rfl rfl inferInstance rfl) ?_; clear S a; intro a S)
          first | (refine wpl_v S rfl rfl rfl (sv_loadO S rfl rfl (by rfl)) ?_; clear S a; intro a S) | (refine wpl_v S rfl rfl rfl (sv_loadF S rfl rfl (by assumption)) ?_; clear S a; intro a S)
          (refine wpl_v S rfl rfl rfl (sv_build S rfl rfl rfl) ?_; clear S a; intro a S)
          (refine wpl_callF S rfl rfl rfl rfl rfl rfl (rminusCt nr3 false (R1 - n * C) C _ KC _ _ F3 (cmp_le (by omega)) (lt_nd t2 _) hC (by omega) (by omega) hr3 (SlC.mono hF3 hq)) rfl ?_; clear S a; intro u4 F4 a w hu4 hF4 S; have hsub : R1 - (n + 1) * C = R1 - n * C - C := (by rw [Nat.add_mul, Nat.one_mul]; omega); obtain ⟨p4, rfl, hp4⟩ := hu4.at; have hp40 := hp4; obtain ⟨u4o, u4c, rfl, -, -⟩ := hp40; unfold D10 at hp4)
          (refine wpl_storeO S rfl rfl rfl rfl rfl (by rfl) (by simp [Value.cells, Value.oneCell', splice]) (by rfl) ?_; clear S; intro w S)
          refine wpList_nil ?_
          (refine hKq14 _ _ ?_; try (clear hKq14 Kq14))
          refine wp_region_lit ?_
          (refine wpl_v S rfl rfl rfl (sv_pure S rfl) ?_; clear S a; intro a S)
          (refine wpl_v S rfl rfl rfl (sv_add S rfl rfl rfl (by first | omega | (simp only [List.length_append, List.length_cons, List.length_nil]; omega))) ?_; clear S a; intro a S)
          (refine wpl_v S rfl rfl rfl (sv_pure S rfl) ?_; clear S a; intro a S)
          refine wpList_nil ?_
          change ∃ m', _ ∧ _
          (obtain ⟨hs1, hs2⟩ := over_step hC0 (cmp_le (by omega)); refine ⟨R1 / C - (n + 1), by omega, n + 1, F4, decide (toZ (false, R1 - n * C - C) < 0), u4o, u4c, rfl, hs1, hs2, (fun b o h => hF4 b o (hF23 b o h)), ?_, ?_⟩; (rw [hsub]; exact hp4); rw [hsub]; refine S.keep ?_; repeat (first | exact trivial | refine ⟨rfl, ?_⟩))
        · (skip; (try simp only [decide_eq_true_eq, decide_eq_false_iff_not, beq_iff_eq, bne_iff_ne, bne_eq_false_iff_eq, beq_eq_false_iff_ne, ne_eq, Bool.not_eq_true', Bool.not_eq_false', Bool.not_eq_true, Bool.not_eq_false, Bool.not_true, Bool.not_false, Int.ofNat_lt, Int.ofNat_le, Nat.not_lt, Nat.not_le] at h))
          refine wp_exit ?_
          (refine hKq11 _ _ ?_; try (clear hKq11 Kq11))
          (obtain ⟨hnd0, hrd0⟩ := over_end hC0 hnC (cmp_lt (by omega)); have hnd : n = dig 10 (A / C) e := (by rw [hnd0, hR1]; exact (dig_div t2 hC0).symm); have hrd : R1 - n * C = remJ 10 A C e := (by rw [hrd0, hR1]; exact rem_step.symm); have hq3 := SlC.mono hF23 hq2; have hqp := (SlC.pos hq3).2; have hqc := (SlC.pos hq3).1; have hn9 := dig_lt t2 (A / C) e)
          refine wp_region_lit ?_
          (refine wpl_v S rfl rfl rfl (sv_pure S rfl) ?_; clear S a; intro a S)
          (refine wpl_buildSlice S rfl rfl rfl rfl rfl rfl (by rfl) (by simp [Value.cells, splice, splice]) rfl (by rfl) (by rfl) ?_; clear S a; intro b43 a w hown S)
          (refine wpl_v S rfl rfl rfl (sv_fieldAddr S rfl rfl rfl inferInstance rfl) ?_; clear S a; intro a S)
          first | (refine wpl_v S rfl rfl rfl (sv_loadO S rfl rfl (by rfl)) ?_; clear S a; intro a S) | (refine wpl_v S rfl rfl rfl (sv_loadF S rfl rfl (by assumption)) ?_; clear S a; intro a S)
          (refine wpl_appendSl S rfl rfl rfl rfl rfl rfl hown (by rfl) (by rw [cel_len, Nat.mul_one]) hqp cel_one (by omega) (by omega) ?_; clear hown S a; intro v g a w hown S)
          (refine wpl_v S rfl rfl rfl (sv_fieldAddr S rfl rfl rfl inferInstance rfl) ?_; clear S a; intro a S)
          (refine wpl_store1 S rfl rfl rfl rfl rfl hown.oneCell (by simp) ?_; clear S; intro w S)
          refine wpList_nil ?_
          (refine hKq8 _ _ ?_; try (clear hKq8 Kq8))
          (have hle3 := add_le (G1 := []) S; obtain ⟨vo, vc, rfl, -, -⟩ := hown.at; replace S := St.freeze (G1 := []) S; (try simp only [List.nil_append] at S); have hq4 := hown.slC F3; rw [Nat.add_comm 1 (KA - (e + 1))] at hq4 S)
          refine wp_region_lit ?_
          (refine wpl_v S rfl rfl rfl (sv_pure S rfl) ?_; clear S a; intro a S)
          (refine wpl_v S rfl rfl rfl (sv_sub S rfl rfl rfl (by first | omega | (simp only [List.length_append, List.length_cons, List.length_nil]; omega))) ?_; clear S a; intro a S)
          (refine wpl_v S rfl rfl rfl (sv_pure S rfl) ?_; clear S a; intro a S)
          refine wpList_nil ?_
          change ∃ m', _ ∧ _
          (refine ⟨e, by omega, e, F3.add g, nq, nr3, vo, r3, vc, rc3, rfl, by omega, (fun b o h => hle3 b o (hF3 b o h)), ?_, ?_, ?_⟩; (rw [hKe, ← cel_shift, ← hnd]; exact hq4); (rw [← hrd]; exact SlC.mono hle3 hr3); rw [← hrd, hKe]; refine S.keep ⟨rfl, rfl, rfl, rfl, rfl, rfl, reg (by omega), trivial⟩)
    · (skip; (try simp only [decide_eq_true_eq, decide_eq_false_iff_not, beq_iff_eq, bne_iff_ne, bne_eq_false_iff_eq, beq_eq_false_iff_ne, ne_eq, Bool.not_eq_true', Bool.not_eq_false', Bool.not_eq_true, Bool.not_eq_false, Bool.not_true, Bool.not_false, Int.ofNat_lt, Int.ofNat_le, Nat.not_lt, Nat.not_le] at h))
      refine wp_exit ?_
      (refine hKq4 _ _ ?_; try (clear hKq4 Kq4))
      (refine wp_seq_k ?_; intro Kq8 hKq8)
      (have hm0 : m = 0 := (by omega); subst hm0; have hqf := hq2; have hrf := hr2; simp only [Nat.zero_add, Nat.sub_zero, rem_zero] at hqf hrf S; have hQlt : A / C < 10 ^ KA := Nat.lt_of_le_of_lt (Nat.div_le_self _ _) hA; have hrk0 := hrK 0; rw [rem_zero] at hrk0)
      refine wp_region_lit ?_
      (refine wpl_v S rfl rfl rfl (sv_fieldAddr S rfl rfl rfl inferInstance rfl) ?_; clear S a; intro a S)
      first | (refine wpl_v S rfl rfl rfl (sv_loadO S rfl rfl (by rfl)) ?_; clear S a; intro a S) | (refine wpl_v S rfl rfl rfl (sv_loadF S rfl rfl (by assumption)) ?_; clear S a; intro a S)
      (refine wpl_v S rfl rfl rfl (sv_fieldAddr S rfl rfl rfl inferInstance rfl) ?_; clear S a; intro a S)
      first | (refine wpl_v S rfl rfl rfl (sv_loadO S rfl rfl (by rfl)) ?_; clear S a; intro a S) | (refine wpl_v S rfl rfl rfl (sv_loadF S rfl rfl (by assumption)) ?_; clear S a; intro a S)
      (refine wpl_v S rfl rfl rfl (sv_neB S rfl rfl rfl) ?_; clear S a; intro a S)
      (refine wpl_v S rfl rfl rfl (sv_fieldAddr S rfl rfl rfl inferInstance rfl) ?_; clear S a; intro a S)
      (refine wpl_store1 S rfl rfl rfl rfl rfl rfl (by first | (simp; done) | (simp [Value.cells]; done)) ?_; clear S; intro w S)
      refine wpList_nil ?_
      (refine hKq8 _ _ ?_; try (clear hKq8 Kq8))
      (refine wp_seq_k ?_; intro Kq9 hKq9)
      refine wp_region_lit ?_
      (refine wpl_v S rfl rfl rfl (sv_fieldAddr S rfl rfl rfl inferInstance rfl) ?_; clear S a; intro a S)
      first | (refine wpl_v S rfl rfl rfl (sv_loadO S rfl rfl (by rfl)) ?_; clear S a; intro a S) | (refine wpl_v S rfl rfl rfl (sv_loadF S rfl rfl (by assumption)) ?_; clear S a; intro a S)
      (refine wpl_v S rfl rfl rfl (sv_fieldAddr S rfl rfl rfl inferInstance rfl) ?_; clear S a; intro a S)
      (refine wpl_store1 S rfl rfl rfl rfl rfl rfl (by first | (simp; done) | (simp [Value.cells]; done)) ?_; clear S; intro w S)
      refine wpList_nil ?_
      (refine hKq9 _ _ ?_; try (clear hKq9 Kq9))
      (refine wp_seq_k ?_; intro Kq10 hKq10)
      (refine wpc_mixM [0, 2] [0, 2] [] (.one 0 (.one 2 (.one 1 (.one 3 (.one 4 (.one 5 .nil)))))) [b6, b7] S mixed (by kernel_rfl) ?_; clear S; intro w S)
      first | (refine wpm_lateO b6 S rfl rfl rfl (want_none _ rfl) rfl rfl (fun w' S => sv_loadO S rfl rfl (by rfl)) ?_; clear S a; intro a S) | (refine wpm_lateO b6 S rfl rfl rfl (want_none _ rfl) rfl rfl (fun w' S => sv_loadAO S rfl rfl (by rfl)) ?_; clear S a; intro a S)
      first | (refine wpm_lateO b7 S rfl rfl rfl (want_none _ rfl) rfl rfl (fun w' S => sv_loadO S rfl rfl (by rfl)) ?_; clear S a; intro a S) | (refine wpm_lateO b7 S rfl rfl rfl (want_none _ rfl) rfl rfl (fun w' S => sv_loadAO S rfl rfl (by rfl)) ?_; clear S a; intro a S)
      refine wpm_eff rfl rfl (fun _ => ⟨fun b o h => S.tr.frz b o (by first | exact h | solve_by_elim), S.has inferInstance, S.has inferInstance, trivial⟩) ?_
      (first | (refine wpl_callF S rfl rfl rfl rfl rfl rfl (tidyCt false R1 _ _ (F2.add g) hR1lt (by omega) hslg2) rfl ?_; clear S a; intro u2 F1 a w hu hF1 S; obtain ⟨pu, rfl, hpu⟩ := hu.at; have hpu0 := hpu; obtain ⟨uo, uc, rfl, -, -⟩ := hpu0; unfold D10 at hpu) | (refine wpl_callF S rfl rfl rfl rfl rfl rfl (tidyCt _ (A / C) KA _ F2 hQlt (by omega) hqf) rfl ?_; clear S a; intro u2 F5 a w hu5 hF5 S; have hu50 := hu5; obtain ⟨p5, rfl, hp5⟩ := hu50; have hp50 := hp5; obtain ⟨u5o, u5c, rfl, -, -⟩ := hp50) | (refine wpl_callF S rfl rfl rfl rfl rfl rfl (tidyCt _ (A % C) _ _ F5 (lt_nd t2 _) (by omega) (SlC.mono hF5 hrf)) rfl ?_; clear S a; intro u3 F6 a w hu6 hF6 S; have hu60 := hu6; obtain ⟨p6, rfl, hp6⟩ := hu60; have hp60 := hp6; obtain ⟨u6o, u6c, rfl, -, -⟩ := hp60))
      refine wpList_nil ?_
      refine wpm_eff rfl rfl (fun _ => ⟨fun b o h => S.tr.frz b o (by first | exact h | solve_by_elim), S.has inferInstance, S.has inferInstance, trivial⟩) ?_
      (first | (refine wpl_callF S rfl rfl rfl rfl rfl rfl (tidyCt false R1 _ _ (F2.add g) hR1lt (by omega) hslg2) rfl ?_; clear S a; intro u2 F1 a w hu hF1 S; obtain ⟨pu, rfl, hpu⟩ := hu.at; have hpu0 := hpu; obtain ⟨uo, uc, rfl, -, -⟩ := hpu0; unfold D10 at hpu) | (refine wpl_callF S rfl rfl rfl rfl rfl rfl (tidyCt _ (A / C) KA _ F2 hQlt (by omega) hqf) rfl ?_; clear S a; intro u2 F5 a w hu5 hF5 S; have hu50 := hu5; obtain ⟨p5, rfl, hp5⟩ := hu50; have hp50 := hp5; obtain ⟨u5o, u5c, rfl, -, -⟩ := hp50) | (refine wpl_callF S rfl rfl rfl rfl rfl rfl (tidyCt _ (A % C) _ _ F5 (lt_nd t2 _) (by omega) (SlC.mono hF5 hrf)) rfl ?_; clear S a; intro u3 F6 a w hu6 hF6 S; have hu60 := hu6; obtain ⟨p6, rfl, hp6⟩ := hu60; have hp60 := hp6; obtain ⟨u6o, u6c, rfl, -, -⟩ := hp60))
      refine wpList_nil ?_
      refine wpm_eff rfl rfl (fun _ => ⟨fun b o h => S.tr.frz b o (by first | exact h | solve_by_elim), S.has inferInstance, S.has inferInstance, trivial⟩) ?_
      (refine wpl_storeO S rfl rfl rfl rfl rfl (by rfl) (by simp [Value.cells, Value.oneCell', splice]) (by rfl) ?_; clear S; intro w S)
      refine wpList_nil ?_
      refine wpm_eff rfl rfl (fun _ => ⟨fun b o h => S.tr.frz b o (by first | exact h | solve_by_elim), S.has inferInstance, S.has inferInstance, trivial⟩) ?_
      (refine wpl_storeO S rfl rfl rfl rfl rfl (by rfl) (by simp [Value.cells, Value.oneCell', splice]) (by rfl) ?_; clear S; intro w S)
      refine wpList_nil ?_
      refine wpm_nil (fun _ => ⟨fun b o h => S.tr.frz b o (by first | exact h | solve_by_elim), S.has inferInstance, S.has inferInstance, trivial⟩) ?_
      (refine hKq10 _ _ ?_; try (clear hKq10 Kq10))
      refine wp_ret ?_
      refine fin_ret S (results2 Tryd.results40 (RV.cellO S rfl (by rfl)) (RV.cellO S rfl (by rfl))) ?_
      (refine ⟨_, _, rfl, ?_, ?_⟩; (rw [← hdiv]; exact hu5.mono hF6); (rw [← hmod]; exact hu6))
end Go.Proofs.YtmmpbpfdnpgklaaDoor
