/- The walks of the document's answer for layer 1: minus, Turned, Sum. -/
import Derived.Test.YtmmpbpfdnpgklaaDoorRefB
namespace Go.Proofs.YtmmpbpfdnpgklaaDoor
open Go Go.Wk Go.Num
set_option linter.unusedSimpArgs false
set_option linter.unusedVariables false
attribute [local irreducible] Go.wpList Go.Code.wp Go.wpStill Go.Wk.wpPre Go.bodyPost Go.Calls Go.Wk.Ct Go.Wk.OwnS
attribute [local irreducible] Go.Wk.wpG Go.Wk.wpM

set_option maxHeartbeats 2000000 in
theorem rminusCt (n1 n2 : Bool) (A C K1 K2 : Nat) (p q : Value) (F : Heap) (hCA : C ≤ A) (hA : A < 10 ^ K1) (hC : C < 10 ^ K2) (hK1 : K1 ≤ 1000000) (hK2 : K2 ≤ 1000000) (hp : SlC F p K1 (cel K1 (dig 10 A))) (hq : SlC F q K2 (cel K2 (dig 10 C))) :
    Ct Tryd.prog 56 [.agg ⟨[.bool n1, p]⟩, .agg ⟨[.bool n2, q]⟩] F [] (fun F' _ u => Num10 F' u (toZ (false, A - C))) := by
  have hp0 := hp
  have hq0 := hq
  obtain ⟨ao, ca, rfl, -, -⟩ := hp
  obtain ⟨co, cc, rfl, -, -⟩ := hq
  have hlt : A - C < 10 ^ K1 := Nat.lt_of_le_of_lt (Nat.sub_le _ _) hA
  refine Ct.enter Tryd.func56 rfl Tryd.ntmps56 rfl fun w0 a S => ?_
  (refine wp_seq_k ?_; intro Kq1 hKq1)
  refine wp_region_lit ?_
  (refine wpl_box S rfl rfl rfl rfl rfl ?_; clear S a; intro b2 a w S)
  (refine wpl_box S rfl rfl rfl rfl rfl ?_; clear S a; intro b3 a w S)
  (refine wpl_alloc S rfl rfl rfl rfl ?_; clear S a; intro b4 a w S)
  refine wpList_nil ?_
  (refine hKq1 _ _ ?_; try (clear hKq1 Kq1))
  (refine wp_seq_k ?_; intro Kq2 hKq2)
  refine wp_region_lit ?_
  (refine wpl_v S rfl rfl rfl (sv_build S rfl rfl rfl) ?_; clear S a; intro a S)
  (refine wpl_alloc S rfl rfl rfl rfl ?_; clear S a; intro b5 a w S)
  (refine wpl_storeO S rfl rfl rfl rfl rfl (by rfl) (by simp [Value.cells, Value.oneCell', splice]) (by rfl) ?_; clear S; intro w S)
  refine wpList_nil ?_
  (refine hKq2 _ _ ?_; try (clear hKq2 Kq2))
  (refine wp_seq_k ?_; intro Kq3 hKq3)
  refine wp_region_lit ?_
  (refine wpl_v S rfl rfl rfl (sv_pure S rfl) ?_; clear S a; intro a S)
  refine wpList_nil ?_
  (refine hKq3 _ _ ?_; try (clear hKq3 Kq3))
  (refine wp_seq_k ?_; intro Kq4 hKq4)
  (refine wp_seq_k ?_; intro Kq5 hKq5)
  refine wp_region_lit ?_
  (refine wpl_v S rfl rfl rfl (sv_pure S rfl) ?_; clear S a; intro a S)
  refine wpList_nil ?_
  (refine hKq5 _ _ ?_; try (clear hKq5 Kq5))
  refine wp_block ?_
  refine wpc_loop (fun m a w' => ∃ (i : Nat) (v : Value) (g : Grp), m = K1 - i ∧ i ≤ K1 ∧ OwnS 3 1 v i (cel i (dig 10 (A - C))) g ∧ St 38 [(2, .pointer (some ⟨b2, 0, none⟩)), (3, .pointer (some ⟨b3, 0, none⟩)), (4, .pointer (some ⟨b4, 0, none⟩)), (5, .pointer (some ⟨b5, 0, none⟩)), (6, .int .i64 ((bw 10 A C i : Nat) : Int)), (7, .int .i64 (i : Int))] w0 F [] F [g, [(b5, .cells ⟨[.bool false, v]⟩ 38 (0, 0))], [(b4, .cells ⟨[.bool false, .slice none 0 0]⟩ 38 (0, 0))], [(b3, .cells ⟨[.bool n2, .slice co K2 cc]⟩ 38 (0, 0))], [(b2, .cells ⟨[.bool n1, .slice ao K1 ca]⟩ 38 (0, 0))]] a w') ?_ ?_
  · (refine ⟨K1, 0, _, _, rfl, Nat.zero_le _, OwnS.nil _ _, ?_⟩; rw [bw_zero]; replace S := S.nilg; refine S.keep ?_; repeat (first | exact trivial | refine ⟨rfl, ?_⟩))
  · (clear S; rintro m a w ⟨i, v, g, rfl, hi, hown, S⟩; have hcy : bw 10 A C i ≤ 1 := (by unfold bw; split <;> omega); have hdA := dig_lt t2 A i; have hdC := dig_lt t2 C i)
    (refine wp_seq_k ?_; intro Kq6 hKq6)
    (refine wp_seq_k ?_; intro Kq7 hKq7)
    refine wp_region_lit ?_
    (refine wpl_v S rfl rfl rfl (sv_pure S rfl) ?_; clear S a; intro a S)
    (refine wpl_v S rfl rfl rfl (sv_fieldAddr S rfl rfl rfl inferInstance rfl) ?_; clear S a; intro a S)
    first | (refine wpl_v S rfl rfl rfl (sv_loadO S rfl rfl (by rfl)) ?_; clear S a; intro a S) | (refine wpl_v S rfl rfl rfl (sv_loadF S rfl rfl (by assumption)) ?_; clear S a; intro a S)
    (refine wpl_v S rfl rfl rfl (sv_lenSl S rfl rfl) ?_; clear S a; intro a S)
    (refine wpl_v S rfl rfl rfl (sv_pure S rfl) ?_; clear S a; intro a S)
    refine wpList_nil ?_
    (refine hKq7 _ _ ?_; try (clear hKq7 Kq7))
    refine wpc_split S rfl (fun h => ?_) (fun h => ?_)
    · (skip; (try simp only [decide_eq_true_eq, decide_eq_false_iff_not, beq_iff_eq, bne_iff_ne, bne_eq_false_iff_eq, beq_eq_false_iff_ne, ne_eq, Bool.not_eq_true', Bool.not_eq_false', Bool.not_eq_true, Bool.not_eq_false, Bool.not_true, Bool.not_false, Int.ofNat_lt, Int.ofNat_le, Nat.not_lt, Nat.not_le] at h))
      refine wp_skip ?_
      (refine hKq6 _ _ ?_; try (clear hKq6 Kq6))
      (refine wp_seq_k ?_; intro Kq8 hKq8)
      refine wp_block ?_
      (refine wp_seq_k ?_; intro Kq9 hKq9)
      (refine wpc_mixM [0, 1, 3, 4, 6, 7, 8] [0, 3] [] (.one 0 (.one 1 (.one 3 (.one 4 (.one 7 (.one 2 (.one 5 (.one 6 (.one 8 (.one 9 .nil)))))))))) [b2, b3] S mixed (by kernel_rfl) ?_; clear S; intro w S)
      first | (refine wpm_lateO b2 S rfl rfl rfl (want_none _ rfl) rfl rfl (fun w' S => sv_loadO S rfl rfl (by rfl)) ?_; clear S a; intro a S) | (refine wpm_lateO b2 S rfl rfl rfl (want_none _ rfl) rfl rfl (fun w' S => sv_loadAO S rfl rfl (by rfl)) ?_; clear S a; intro a S)
      (refine wpm_v S rfl rfl rfl (want_none _ rfl) rfl rfl (fun w' S => sv_pure S rfl) ?_; clear S a; intro a S)
      first | (refine wpm_lateO b3 S rfl rfl rfl (want_none _ rfl) rfl rfl (fun w' S => sv_loadO S rfl rfl (by rfl)) ?_; clear S a; intro a S) | (refine wpm_lateO b3 S rfl rfl rfl (want_none _ rfl) rfl rfl (fun w' S => sv_loadAO S rfl rfl (by rfl)) ?_; clear S a; intro a S)
      (refine wpm_v S rfl rfl rfl (want_none _ rfl) rfl rfl (fun w' S => sv_pure S rfl) ?_; clear S a; intro a S)
      (refine wpm_v S rfl rfl rfl (want_none _ rfl) rfl rfl (fun w' S => sv_pure S rfl) ?_; clear S a; intro a S)
      refine wpm_eff rfl rfl (fun _ => ⟨fun b o h => S.tr.frz b o (by first | exact h | solve_by_elim), S.has inferInstance, S.has inferInstance, trivial⟩) ?_
      ((first | (refine wpl_call0 S rfl rfl rfl rfl rfl rfl (digitCt n1 A K1 _ F i hA (by omega) hp0) rfl ?_) | (refine wpl_call0 S rfl rfl rfl rfl rfl rfl (digitCt n2 C K2 _ F i hC (by omega) hq0) rfl ?_)); clear S a; intro v2 a w hv S; subst hv)
      refine wpList_nil ?_
      refine wpm_eff rfl rfl (fun _ => ⟨fun b o h => S.tr.frz b o (by first | exact h | solve_by_elim), S.has inferInstance, S.has inferInstance, trivial⟩) ?_
      ((first | (refine wpl_call0 S rfl rfl rfl rfl rfl rfl (digitCt n1 A K1 _ F i hA (by omega) hp0) rfl ?_) | (refine wpl_call0 S rfl rfl rfl rfl rfl rfl (digitCt n2 C K2 _ F i hC (by omega) hq0) rfl ?_)); clear S a; intro v2 a w hv S; subst hv)
      refine wpList_nil ?_
      (refine wpm_v S rfl rfl rfl (want_none _ rfl) rfl rfl (fun w' S => sv_sub S rfl rfl rfl (by first | omega | (simp only [List.length_append, List.length_cons, List.length_nil]; omega))) ?_; clear S a; intro a S)
      (refine wpm_v S rfl rfl rfl (want_none _ rfl) rfl rfl (fun w' S => sv_sub S rfl rfl rfl (by first | omega | (simp only [List.length_append, List.length_cons, List.length_nil]; omega))) ?_; clear S a; intro a S)
      refine wpm_eff rfl rfl (fun _ => ⟨fun b o h => S.tr.frz b o (by first | exact h | solve_by_elim), S.has inferInstance, S.has inferInstance, trivial⟩) ?_
      (refine wpl_v S rfl rfl rfl (sv_pure S rfl) ?_; clear S a; intro a S)
      refine wpList_nil ?_
      refine wpm_nil (fun _ => ⟨fun b o h => S.tr.frz b o (by first | exact h | solve_by_elim), S.has inferInstance, S.has inferInstance, trivial⟩) ?_
      (refine hKq9 _ _ ?_; try (clear hKq9 Kq9))
      (refine wp_seq_k ?_; intro Kq10 hKq10)
      refine wp_region_lit ?_
      (refine wpl_v S rfl rfl rfl (sv_pure S rfl) ?_; clear S a; intro a S)
      refine wpList_nil ?_
      (refine hKq10 _ _ ?_; try (clear hKq10 Kq10))
      (refine wp_seq_k ?_; intro Kq11 hKq11)
      (refine wp_seq_k ?_; intro Kq12 hKq12)
      refine wp_region_lit ?_
      (refine wpl_v S rfl rfl rfl (sv_pure S rfl) ?_; clear S a; intro a S)
      (refine wpl_v S rfl rfl rfl (sv_pure S rfl) ?_; clear S a; intro a S)
      refine wpList_nil ?_
      (refine hKq12 _ _ ?_; try (clear hKq12 Kq12))
      refine wpc_split S rfl (fun h => ?_) (fun h => ?_)
      · (skip; (try simp only [decide_eq_true_eq, decide_eq_false_iff_not, beq_iff_eq, bne_iff_ne, bne_eq_false_iff_eq, beq_eq_false_iff_ne, ne_eq, Bool.not_eq_true', Bool.not_eq_false', Bool.not_eq_true, Bool.not_eq_false, Bool.not_true, Bool.not_false, Int.ofNat_lt, Int.ofNat_le, Nat.not_lt, Nat.not_le] at h))
        (refine wp_seq_k ?_; intro Kq13 hKq13)
        refine wp_region_lit ?_
        (refine wpl_v S rfl rfl rfl (sv_pure S rfl) ?_; clear S a; intro a S)
        (refine wpl_v S rfl rfl rfl (sv_add S rfl rfl rfl (by first | omega | (simp only [List.length_append, List.length_cons, List.length_nil]; omega))) ?_; clear S a; intro a S)
        (refine wpl_v S rfl rfl rfl (sv_pure S rfl) ?_; clear S a; intro a S)
        refine wpList_nil ?_
        (refine hKq13 _ _ ?_; try (clear hKq13 Kq13))
        refine wp_region_lit ?_
        (refine wpl_v S rfl rfl rfl (sv_pure S rfl) ?_; clear S a; intro a S)
        refine wpList_nil ?_
        (refine hKq11 _ _ ?_; try (clear hKq11 Kq11))
        refine wp_region_lit ?_
        (refine wpl_v S rfl rfl rfl (sv_fieldAddr S rfl rfl rfl inferInstance rfl) ?_; clear S a; intro a S)
        first | (refine wpl_v S rfl rfl rfl (sv_loadO S rfl rfl (by rfl)) ?_; clear S a; intro a S) | (refine wpl_v S rfl rfl rfl (sv_loadF S rfl rfl (by assumption)) ?_; clear S a; intro a S)
        (refine wpl_v S rfl rfl rfl (sv_pure S rfl) ?_; clear S a; intro a S)
        (refine wpl_append S rfl rfl rfl rfl rfl rfl rfl rfl rfl rfl rfl (fun _ => rfl) hown (by rfl) (by simp [Value.cells, splice, splice]) (by simp [Value.cells, Value.oneCell', splice, splice]) rfl (by rfl) (by rfl) rfl (by omega) (by omega) ?_; clear hown S a; intro v u g a w hown S)
        (refine wpl_v S rfl rfl rfl (sv_fieldAddr S rfl rfl rfl inferInstance rfl) ?_; clear S a; intro a S)
        (refine wpl_store1 S rfl rfl rfl rfl rfl hown.oneCell (by simp) ?_; clear S; intro w S)
        refine wpList_nil ?_
        (refine hKq8 _ _ ?_; try (clear hKq8 Kq8))
        refine wp_region_lit ?_
        (refine wpl_v S rfl rfl rfl (sv_pure S rfl) ?_; clear S a; intro a S)
        (refine wpl_v S rfl rfl rfl (sv_add S rfl rfl rfl (by first | omega | (simp only [List.length_append, List.length_cons, List.length_nil]; omega))) ?_; clear S a; intro a S)
        (refine wpl_v S rfl rfl rfl (sv_pure S rfl) ?_; clear S a; intro a S)
        refine wpList_nil ?_
        change ∃ m', _ ∧ _
        (have hds := dig_sub (k := i) t2 hCA; have hbs := bw_step (A := A) (B := C) (k := i) t2; (first | (rw [if_pos (by omega)] at hds hbs) | (rw [if_neg (by omega)] at hds hbs)); refine ⟨K1 - (i + 1), by omega, i + 1, _, _, rfl, by omega, own_snoc hown (congrArg _ (by omega)), ?_⟩; rw [hbs]; refine S.keep ?_; repeat (first | exact trivial | refine ⟨rfl, ?_⟩))
      · (skip; (try simp only [decide_eq_true_eq, decide_eq_false_iff_not, beq_iff_eq, bne_iff_ne, bne_eq_false_iff_eq, beq_eq_false_iff_ne, ne_eq, Bool.not_eq_true', Bool.not_eq_false', Bool.not_eq_true, Bool.not_eq_false, Bool.not_true, Bool.not_false, Int.ofNat_lt, Int.ofNat_le, Nat.not_lt, Nat.not_le] at h))
        refine wp_skip ?_
        (refine hKq11 _ _ ?_; try (clear hKq11 Kq11))
        refine wp_region_lit ?_
        (refine wpl_v S rfl rfl rfl (sv_fieldAddr S rfl rfl rfl inferInstance rfl) ?_; clear S a; intro a S)
        first | (refine wpl_v S rfl rfl rfl (sv_loadO S rfl rfl (by rfl)) ?_; clear S a; intro a S) | (refine wpl_v S rfl rfl rfl (sv_loadF S rfl rfl (by assumption)) ?_; clear S a; intro a S)
        (refine wpl_v S rfl rfl rfl (sv_pure S rfl) ?_; clear S a; intro a S)
        (refine wpl_append S rfl rfl rfl rfl rfl rfl rfl rfl rfl rfl rfl (fun _ => rfl) hown (by rfl) (by simp [Value.cells, splice, splice]) (by simp [Value.cells, Value.oneCell', splice, splice]) rfl (by rfl) (by rfl) rfl (by omega) (by omega) ?_; clear hown S a; intro v u g a w hown S)
        (refine wpl_v S rfl rfl rfl (sv_fieldAddr S rfl rfl rfl inferInstance rfl) ?_; clear S a; intro a S)
        (refine wpl_store1 S rfl rfl rfl rfl rfl hown.oneCell (by simp) ?_; clear S; intro w S)
        refine wpList_nil ?_
        (refine hKq8 _ _ ?_; try (clear hKq8 Kq8))
        refine wp_region_lit ?_
        (refine wpl_v S rfl rfl rfl (sv_pure S rfl) ?_; clear S a; intro a S)
        (refine wpl_v S rfl rfl rfl (sv_add S rfl rfl rfl (by first | omega | (simp only [List.length_append, List.length_cons, List.length_nil]; omega))) ?_; clear S a; intro a S)
        (refine wpl_v S rfl rfl rfl (sv_pure S rfl) ?_; clear S a; intro a S)
        refine wpList_nil ?_
        change ∃ m', _ ∧ _
        (have hds := dig_sub (k := i) t2 hCA; have hbs := bw_step (A := A) (B := C) (k := i) t2; (first | (rw [if_pos (by omega)] at hds hbs) | (rw [if_neg (by omega)] at hds hbs)); refine ⟨K1 - (i + 1), by omega, i + 1, _, _, rfl, by omega, own_snoc hown (congrArg _ (by omega)), ?_⟩; rw [hbs]; refine S.keep ?_; repeat (first | exact trivial | refine ⟨rfl, ?_⟩))
    · (skip; (try simp only [decide_eq_true_eq, decide_eq_false_iff_not, beq_iff_eq, bne_iff_ne, bne_eq_false_iff_eq, beq_eq_false_iff_ne, ne_eq, Bool.not_eq_true', Bool.not_eq_false', Bool.not_eq_true, Bool.not_eq_false, Bool.not_true, Bool.not_false, Int.ofNat_lt, Int.ofNat_le, Nat.not_lt, Nat.not_le] at h))
      refine wp_exit ?_
      (refine hKq4 _ _ ?_; try (clear hKq4 Kq4))
      (refine wp_seq_k ?_; intro Kq8 hKq8)
      (have hiM : i = K1 := (by omega); rw [hiM] at hown S; clear hiM; obtain ⟨vo, vc, rfl, -, -⟩ := hown.at; replace S := St.freeze (G1 := []) S; simp only [List.nil_append] at S; have hsl := hown.slC F)
      refine wp_region_lit ?_
      first | (refine wpl_v S rfl rfl rfl (sv_loadAO S rfl rfl (by rfl)) ?_; clear S a; intro a S) | (refine wpl_v S rfl rfl rfl (sv_loadAF S rfl rfl (by assumption) (by rfl)) ?_; clear S a; intro a S)
      (refine wpl_callF S rfl rfl rfl rfl rfl rfl (tidyCt false (A - C) K1 _ _ hlt (by omega) hsl) rfl ?_; clear S a; intro u F1 a w hu hF1 S; have hu0 := hu; obtain ⟨pu, rfl, hpu⟩ := hu0; have hpu0 := hpu; obtain ⟨uo, uc, rfl, -, -⟩ := hpu0)
      (refine wpl_storeO S rfl rfl rfl rfl rfl (by rfl) (by simp [Value.cells, Value.oneCell', splice]) (by rfl) ?_; clear S; intro w S)
      refine wpList_nil ?_
      (refine hKq8 _ _ ?_; try (clear hKq8 Kq8))
      refine wp_ret ?_
      refine fin_ret S (results1 Tryd.results56 (RV.cellO S rfl (by rfl))) ?_
      exact hu

set_option maxHeartbeats 1000000 in
theorem rturnedCt (x : Int) (v : Value) (F : Heap) (hx : nd 10 x.natAbs ≤ 1000000) (hv : Num10 F v x) : Ct Tryd.prog 26 [v] F [] (fun F' _ u => Num10 F' u (-x)) := by
  obtain ⟨p, rfl, hp⟩ := hv
  have hp0 := hp
  obtain ⟨ao, ca, rfl, -, -⟩ := hp0
  refine Ct.enter Tryd.func26 rfl Tryd.ntmps26 rfl fun w0 a S => ?_
  (refine wp_seq_k ?_; intro Kq1 hKq1)
  refine wp_region_lit ?_
  (refine wpl_box S rfl rfl rfl rfl rfl ?_; clear S a; intro b1 a w S)
  (refine wpl_alloc S rfl rfl rfl rfl ?_; clear S a; intro b2 a w S)
  refine wpList_nil ?_
  (refine hKq1 _ _ ?_; try (clear hKq1 Kq1))
  (refine wp_seq_k ?_; intro Kq2 hKq2)
  refine wp_region_lit ?_
  (refine wpl_v S rfl rfl rfl (sv_fieldAddr S rfl rfl rfl inferInstance rfl) ?_; clear S a; intro a S)
  first | (refine wpl_v S rfl rfl rfl (sv_loadO S rfl rfl (by rfl)) ?_; clear S a; intro a S) | (refine wpl_v S rfl rfl rfl (sv_loadF S rfl rfl (by assumption)) ?_; clear S a; intro a S)
  (refine wpl_v S rfl rfl rfl (sv_pure S rfl) ?_; clear S a; intro a S)
  (refine wpl_v S rfl rfl rfl (sv_fieldAddr S rfl rfl rfl inferInstance rfl) ?_; clear S a; intro a S)
  (refine wpl_store1 S rfl rfl rfl rfl rfl rfl (by first | (simp; done) | (simp [Value.cells]; done)) ?_; clear S; intro w S)
  refine wpList_nil ?_
  (refine hKq2 _ _ ?_; try (clear hKq2 Kq2))
  (refine wp_seq_k ?_; intro Kq3 hKq3)
  refine wp_region_lit ?_
  first | (refine wpl_v S rfl rfl rfl (sv_loadAO S rfl rfl (by rfl)) ?_; clear S a; intro a S) | (refine wpl_v S rfl rfl rfl (sv_loadAF S rfl rfl (by assumption) (by rfl)) ?_; clear S a; intro a S)
  (refine wpl_callF S rfl rfl rfl rfl rfl rfl (tidyCt (!decide (x < 0)) x.natAbs _ _ _ (lt_nd t2 _) (by omega) hp) rfl ?_; clear S a; intro u F1 a w hu hF1 S; have hu0 := hu; obtain ⟨pu, rfl, hpu⟩ := hu0; have hpu0 := hpu; obtain ⟨uo, uc, rfl, -, -⟩ := hpu0)
  (refine wpl_storeO S rfl rfl rfl rfl rfl (by rfl) (by simp [Value.cells, Value.oneCell', splice]) (by rfl) ?_; clear S; intro w S)
  refine wpList_nil ?_
  (refine hKq3 _ _ ?_; try (clear hKq3 Kq3))
  refine wp_ret ?_
  refine fin_ret S (results1 Tryd.results26 (RV.cellO S rfl (by rfl))) ?_
  (rw [show -x = toZ (!decide (x < 0), x.natAbs) from (by unfold toZ; by_cases h : x < 0 <;> simp [h] <;> omega)]; exact hu)

theorem nd_le_max {A C m : Nat} (hA : nd 10 A ≤ m) (hC : nd 10 C ≤ m) : nd 10 (A + C) ≤ m + 1 := by
  have := nd_le (lt_pow_max t2 (lt_nd t2 A) (lt_nd t2 C)) t2
  omega
theorem nd10_mono {A C : Nat} (h : A ≤ C) : nd 10 A ≤ nd 10 C := nd_le (Nat.lt_of_le_of_lt h (lt_nd t2 C)) t2
theorem Num10.at {F : Heap} {u : Value} {n : Bool} {N : Nat} (h : Num10 F u (toZ (n, N))) : ∃ p, u = .agg ⟨[.bool (decide (toZ (n, N) < 0)), p]⟩ ∧ D10 F p N := by
  obtain ⟨p, h1, h2⟩ := h; rw [toZ_abs] at h2; exact ⟨p, h1, h2⟩
theorem sum_same {x y : Int} (h : decide (x < 0) = decide (y < 0)) : toZ (decide (x < 0), x.natAbs + y.natAbs) = x + y := by
  by_cases h1 : x < 0 <;> by_cases h2 : y < 0 <;> simp [h1, h2] at h <;> simp [toZ, h1, h2] <;> omega
theorem sum_less {x y : Int} (h : ¬ decide (x < 0) = decide (y < 0)) (hc : cmpI (x.natAbs : Int) (y.natAbs : Int) < 0) : toZ (decide (y < 0), y.natAbs - x.natAbs) = x + y := by
  have := cmp_gt (A := x.natAbs) (C := y.natAbs) (by omega)
  by_cases h1 : x < 0 <;> by_cases h2 : y < 0 <;> simp [h1, h2] at h <;> simp [toZ, h1, h2] <;> omega
theorem sum_more {x y : Int} (h : ¬ decide (x < 0) = decide (y < 0)) (hc : 0 ≤ cmpI (x.natAbs : Int) (y.natAbs : Int)) : toZ (decide (x < 0), x.natAbs - y.natAbs) = x + y := by
  have := cmp_le (A := x.natAbs) (C := y.natAbs) (by omega)
  by_cases h1 : x < 0 <;> by_cases h2 : y < 0 <;> simp [h1, h2] at h <;> simp [toZ, h1, h2] <;> omega
set_option maxHeartbeats 2000000 in
theorem rsumCt (x y : Int) (v u : Value) (F : Heap) (hx : nd 10 x.natAbs ≤ 100000) (hy : nd 10 y.natAbs ≤ 100000) (hv : Num10 F v x) (hu : Num10 F u y) : Ct Tryd.prog 38 [v, u] F [] (fun F' _ r => Num10 F' r (x + y)) := by
  obtain ⟨p, rfl, hp⟩ := hv
  obtain ⟨q, rfl, hq⟩ := hu
  have hp0 := hp
  obtain ⟨ao, ca, rfl, -, -⟩ := hp0
  have hq0 := hq
  obtain ⟨co, cc, rfl, -, -⟩ := hq0
  have hnA := nd_le_max hx hy
  refine Ct.enter Tryd.func38 rfl Tryd.ntmps38 rfl fun w0 a S => ?_
  (refine wp_seq_k ?_; intro Kq1 hKq1)
  refine wp_region_lit ?_
  (refine wpl_box S rfl rfl rfl rfl rfl ?_; clear S a; intro b2 a w S)
  (refine wpl_box S rfl rfl rfl rfl rfl ?_; clear S a; intro b3 a w S)
  (refine wpl_alloc S rfl rfl rfl rfl ?_; clear S a; intro b4 a w S)
  refine wpList_nil ?_
  (refine hKq1 _ _ ?_; try (clear hKq1 Kq1))
  (refine wp_seq_k ?_; intro Kq2 hKq2)
  (refine wp_seq_k ?_; intro Kq3 hKq3)
  refine wp_region_lit ?_
  (refine wpl_v S rfl rfl rfl (sv_fieldAddr S rfl rfl rfl inferInstance rfl) ?_; clear S a; intro a S)
  first | (refine wpl_v S rfl rfl rfl (sv_loadO S rfl rfl (by rfl)) ?_; clear S a; intro a S) | (refine wpl_v S rfl rfl rfl (sv_loadF S rfl rfl (by assumption)) ?_; clear S a; intro a S)
  (refine wpl_v S rfl rfl rfl (sv_fieldAddr S rfl rfl rfl inferInstance rfl) ?_; clear S a; intro a S)
  first | (refine wpl_v S rfl rfl rfl (sv_loadO S rfl rfl (by rfl)) ?_; clear S a; intro a S) | (refine wpl_v S rfl rfl rfl (sv_loadF S rfl rfl (by assumption)) ?_; clear S a; intro a S)
  (refine wpl_v S rfl rfl rfl (sv_eqB S rfl rfl rfl) ?_; clear S a; intro a S)
  refine wpList_nil ?_
  (refine hKq3 _ _ ?_; try (clear hKq3 Kq3))
  refine wpc_split S rfl (fun h => ?_) (fun h => ?_)
  · (skip; (try simp only [decide_eq_true_eq, decide_eq_false_iff_not, beq_iff_eq, bne_iff_ne, bne_eq_false_iff_eq, beq_eq_false_iff_ne, ne_eq, Bool.not_eq_true', Bool.not_eq_false', Bool.not_eq_true, Bool.not_eq_false, Bool.not_true, Bool.not_false, Int.ofNat_lt, Int.ofNat_le, Nat.not_lt, Nat.not_le] at h))
    (refine wp_seq_k ?_; intro Kq4 hKq4)
    refine wp_region_lit ?_
    first | (refine wpl_v S rfl rfl rfl (sv_loadAO S rfl rfl (by rfl)) ?_; clear S a; intro a S) | (refine wpl_v S rfl rfl rfl (sv_loadAF S rfl rfl (by assumption) (by rfl)) ?_; clear S a; intro a S)
    first | (refine wpl_v S rfl rfl rfl (sv_loadAO S rfl rfl (by rfl)) ?_; clear S a; intro a S) | (refine wpl_v S rfl rfl rfl (sv_loadAF S rfl rfl (by assumption) (by rfl)) ?_; clear S a; intro a S)
    (refine wpl_callF S rfl rfl rfl rfl rfl rfl (rplusCt _ _ x.natAbs y.natAbs _ _ _ _ F (lt_nd t2 _) (lt_nd t2 _) (by omega) (by omega) hp hq) rfl ?_; clear S a; intro v F1 a w hv hF1 S; obtain ⟨pu, rfl, hpu⟩ := hv.at; have hpu0 := hpu; obtain ⟨uo, uc, rfl, -, -⟩ := hpu0)
    (refine wpl_alloc S rfl rfl rfl rfl ?_; clear S a; intro b5 a w S)
    (refine wpl_storeO S rfl rfl rfl rfl rfl (by rfl) (by simp [Value.cells, Value.oneCell', splice]) (by rfl) ?_; clear S; intro w S)
    refine wpList_nil ?_
    (refine hKq4 _ _ ?_; try (clear hKq4 Kq4))
    (refine wp_seq_k ?_; intro Kq5 hKq5)
    refine wp_region_lit ?_
    (refine wpl_v S rfl rfl rfl (sv_fieldAddr S rfl rfl rfl inferInstance rfl) ?_; clear S a; intro a S)
    first | (refine wpl_v S rfl rfl rfl (sv_loadO S rfl rfl (by rfl)) ?_; clear S a; intro a S) | (refine wpl_v S rfl rfl rfl (sv_loadF S rfl rfl (by assumption)) ?_; clear S a; intro a S)
    (refine wpl_v S rfl rfl rfl (sv_fieldAddr S rfl rfl rfl inferInstance rfl) ?_; clear S a; intro a S)
    (refine wpl_store1 S rfl rfl rfl rfl rfl rfl (by first | (simp; done) | (simp [Value.cells]; done)) ?_; clear S; intro w S)
    refine wpList_nil ?_
    (refine hKq5 _ _ ?_; try (clear hKq5 Kq5))
    (refine wp_seq_k ?_; intro Kq6 hKq6)
    refine wp_region_lit ?_
    first | (refine wpl_v S rfl rfl rfl (sv_loadAO S rfl rfl (by rfl)) ?_; clear S a; intro a S) | (refine wpl_v S rfl rfl rfl (sv_loadAF S rfl rfl (by assumption) (by rfl)) ?_; clear S a; intro a S)
    (refine wpl_callF S rfl rfl rfl rfl rfl rfl (tidyCt _ _ _ _ F1 (lt_nd t2 _) (by omega) hpu) rfl ?_; clear S a; intro u2 F2 a w hu hF2 S; have hu0 := hu; obtain ⟨p2, rfl, hp2⟩ := hu0; have hp20 := hp2; obtain ⟨u2o, u2c, rfl, -, -⟩ := hp20)
    (refine wpl_storeO S rfl rfl rfl rfl rfl (by rfl) (by simp [Value.cells, Value.oneCell', splice]) (by rfl) ?_; clear S; intro w S)
    refine wpList_nil ?_
    (refine hKq6 _ _ ?_; try (clear hKq6 Kq6))
    refine wp_ret ?_
    refine fin_ret S (results1 Tryd.results38 (RV.cellO S rfl (by rfl))) ?_
    (refine Eq.mp (congrArg (Num10 _ _) ?_) hu; (try simp only [decide_eq_true_eq] at h); first | exact sum_same h | exact sum_less (by assumption) (by omega) | exact sum_more (by assumption) (by omega))
  · (skip; (try simp only [decide_eq_true_eq, decide_eq_false_iff_not, beq_iff_eq, bne_iff_ne, bne_eq_false_iff_eq, beq_eq_false_iff_ne, ne_eq, Bool.not_eq_true', Bool.not_eq_false', Bool.not_eq_true, Bool.not_eq_false, Bool.not_true, Bool.not_false, Int.ofNat_lt, Int.ofNat_le, Nat.not_lt, Nat.not_le] at h))
    refine wp_skip ?_
    (refine hKq2 _ _ ?_; try (clear hKq2 Kq2))
    (refine wp_seq_k ?_; intro Kq4 hKq4)
    (refine wp_seq_k ?_; intro Kq5 hKq5)
    refine wp_region_lit ?_
    first | (refine wpl_v S rfl rfl rfl (sv_loadAO S rfl rfl (by rfl)) ?_; clear S a; intro a S) | (refine wpl_v S rfl rfl rfl (sv_loadAF S rfl rfl (by assumption) (by rfl)) ?_; clear S a; intro a S)
    first | (refine wpl_v S rfl rfl rfl (sv_loadAO S rfl rfl (by rfl)) ?_; clear S a; intro a S) | (refine wpl_v S rfl rfl rfl (sv_loadAF S rfl rfl (by assumption) (by rfl)) ?_; clear S a; intro a S)
    (refine wpl_call0 S rfl rfl rfl rfl rfl rfl (sizeCt _ _ x.natAbs y.natAbs _ _ _ _ F (lt_nd t2 _) (lt_nd t2 _) (by omega) (by omega) hp hq) rfl ?_; clear S a; intro v a w hv S; subst hv)
    (refine wpl_v S rfl rfl rfl (sv_pure S rfl) ?_; clear S a; intro a S)
    refine wpList_nil ?_
    (refine hKq5 _ _ ?_; try (clear hKq5 Kq5))
    refine wpc_split S rfl (fun h => ?_) (fun h => ?_)
    · (skip; (try simp only [decide_eq_true_eq, decide_eq_false_iff_not, beq_iff_eq, bne_iff_ne, bne_eq_false_iff_eq, beq_eq_false_iff_ne, ne_eq, Bool.not_eq_true', Bool.not_eq_false', Bool.not_eq_true, Bool.not_eq_false, Bool.not_true, Bool.not_false, Int.ofNat_lt, Int.ofNat_le, Nat.not_lt, Nat.not_le] at h))
      (refine wp_seq_k ?_; intro Kq6 hKq6)
      refine wp_region_lit ?_
      first | (refine wpl_v S rfl rfl rfl (sv_loadAO S rfl rfl (by rfl)) ?_; clear S a; intro a S) | (refine wpl_v S rfl rfl rfl (sv_loadAF S rfl rfl (by assumption) (by rfl)) ?_; clear S a; intro a S)
      first | (refine wpl_v S rfl rfl rfl (sv_loadAO S rfl rfl (by rfl)) ?_; clear S a; intro a S) | (refine wpl_v S rfl rfl rfl (sv_loadAF S rfl rfl (by assumption) (by rfl)) ?_; clear S a; intro a S)
      (first | (refine wpl_callF S rfl rfl rfl rfl rfl rfl (rminusCt _ _ y.natAbs x.natAbs _ _ _ _ F (cmp_gt (by omega)) (lt_nd t2 _) (lt_nd t2 _) (by omega) (by omega) hq hp) rfl ?_; clear S a; intro v F1 a w hv hF1 S; have hnM := nd10_mono (Nat.sub_le y.natAbs x.natAbs); obtain ⟨pu, rfl, hpu⟩ := hv.at; have hpu0 := hpu; obtain ⟨uo, uc, rfl, -, -⟩ := hpu0) | (refine wpl_callF S rfl rfl rfl rfl rfl rfl (rminusCt _ _ x.natAbs y.natAbs _ _ _ _ F (cmp_le (by omega)) (lt_nd t2 _) (lt_nd t2 _) (by omega) (by omega) hp hq) rfl ?_; clear S a; intro v F1 a w hv hF1 S; have hnM := nd10_mono (Nat.sub_le x.natAbs y.natAbs); obtain ⟨pu, rfl, hpu⟩ := hv.at; have hpu0 := hpu; obtain ⟨uo, uc, rfl, -, -⟩ := hpu0))
      (refine wpl_alloc S rfl rfl rfl rfl ?_; clear S a; intro b6 a w S)
      (refine wpl_storeO S rfl rfl rfl rfl rfl (by rfl) (by simp [Value.cells, Value.oneCell', splice]) (by rfl) ?_; clear S; intro w S)
      refine wpList_nil ?_
      (refine hKq6 _ _ ?_; try (clear hKq6 Kq6))
      (refine wp_seq_k ?_; intro Kq7 hKq7)
      refine wp_region_lit ?_
      (refine wpl_v S rfl rfl rfl (sv_fieldAddr S rfl rfl rfl inferInstance rfl) ?_; clear S a; intro a S)
      first | (refine wpl_v S rfl rfl rfl (sv_loadO S rfl rfl (by rfl)) ?_; clear S a; intro a S) | (refine wpl_v S rfl rfl rfl (sv_loadF S rfl rfl (by assumption)) ?_; clear S a; intro a S)
      (refine wpl_v S rfl rfl rfl (sv_fieldAddr S rfl rfl rfl inferInstance rfl) ?_; clear S a; intro a S)
      (refine wpl_store1 S rfl rfl rfl rfl rfl rfl (by first | (simp; done) | (simp [Value.cells]; done)) ?_; clear S; intro w S)
      refine wpList_nil ?_
      (refine hKq7 _ _ ?_; try (clear hKq7 Kq7))
      (refine wp_seq_k ?_; intro Kq8 hKq8)
      refine wp_region_lit ?_
      first | (refine wpl_v S rfl rfl rfl (sv_loadAO S rfl rfl (by rfl)) ?_; clear S a; intro a S) | (refine wpl_v S rfl rfl rfl (sv_loadAF S rfl rfl (by assumption) (by rfl)) ?_; clear S a; intro a S)
      (refine wpl_callF S rfl rfl rfl rfl rfl rfl (tidyCt _ _ _ _ F1 (lt_nd t2 _) (by omega) hpu) rfl ?_; clear S a; intro u2 F2 a w hu hF2 S; have hu0 := hu; obtain ⟨p2, rfl, hp2⟩ := hu0; have hp20 := hp2; obtain ⟨u2o, u2c, rfl, -, -⟩ := hp20)
      (refine wpl_storeO S rfl rfl rfl rfl rfl (by rfl) (by simp [Value.cells, Value.oneCell', splice]) (by rfl) ?_; clear S; intro w S)
      refine wpList_nil ?_
      (refine hKq8 _ _ ?_; try (clear hKq8 Kq8))
      refine wp_ret ?_
      refine fin_ret S (results1 Tryd.results38 (RV.cellO S rfl (by rfl))) ?_
      (refine Eq.mp (congrArg (Num10 _ _) ?_) hu; (try simp only [decide_eq_true_eq] at h); first | exact sum_same h | exact sum_less (by assumption) (by omega) | exact sum_more (by assumption) (by omega))
    · (skip; (try simp only [decide_eq_true_eq, decide_eq_false_iff_not, beq_iff_eq, bne_iff_ne, bne_eq_false_iff_eq, beq_eq_false_iff_ne, ne_eq, Bool.not_eq_true', Bool.not_eq_false', Bool.not_eq_true, Bool.not_eq_false, Bool.not_true, Bool.not_false, Int.ofNat_lt, Int.ofNat_le, Nat.not_lt, Nat.not_le] at h))
      refine wp_skip ?_
      (refine hKq4 _ _ ?_; try (clear hKq4 Kq4))
      (refine wp_seq_k ?_; intro Kq6 hKq6)
      refine wp_region_lit ?_
      first | (refine wpl_v S rfl rfl rfl (sv_loadAO S rfl rfl (by rfl)) ?_; clear S a; intro a S) | (refine wpl_v S rfl rfl rfl (sv_loadAF S rfl rfl (by assumption) (by rfl)) ?_; clear S a; intro a S)
      first | (refine wpl_v S rfl rfl rfl (sv_loadAO S rfl rfl (by rfl)) ?_; clear S a; intro a S) | (refine wpl_v S rfl rfl rfl (sv_loadAF S rfl rfl (by assumption) (by rfl)) ?_; clear S a; intro a S)
      (first | (refine wpl_callF S rfl rfl rfl rfl rfl rfl (rminusCt _ _ y.natAbs x.natAbs _ _ _ _ F (cmp_gt (by omega)) (lt_nd t2 _) (lt_nd t2 _) (by omega) (by omega) hq hp) rfl ?_; clear S a; intro v F1 a w hv hF1 S; have hnM := nd10_mono (Nat.sub_le y.natAbs x.natAbs); obtain ⟨pu, rfl, hpu⟩ := hv.at; have hpu0 := hpu; obtain ⟨uo, uc, rfl, -, -⟩ := hpu0) | (refine wpl_callF S rfl rfl rfl rfl rfl rfl (rminusCt _ _ x.natAbs y.natAbs _ _ _ _ F (cmp_le (by omega)) (lt_nd t2 _) (lt_nd t2 _) (by omega) (by omega) hp hq) rfl ?_; clear S a; intro v F1 a w hv hF1 S; have hnM := nd10_mono (Nat.sub_le x.natAbs y.natAbs); obtain ⟨pu, rfl, hpu⟩ := hv.at; have hpu0 := hpu; obtain ⟨uo, uc, rfl, -, -⟩ := hpu0))
      (refine wpl_alloc S rfl rfl rfl rfl ?_; clear S a; intro b7 a w S)
      (refine wpl_storeO S rfl rfl rfl rfl rfl (by rfl) (by simp [Value.cells, Value.oneCell', splice]) (by rfl) ?_; clear S; intro w S)
      refine wpList_nil ?_
      (refine hKq6 _ _ ?_; try (clear hKq6 Kq6))
      (refine wp_seq_k ?_; intro Kq7 hKq7)
      refine wp_region_lit ?_
      (refine wpl_v S rfl rfl rfl (sv_fieldAddr S rfl rfl rfl inferInstance rfl) ?_; clear S a; intro a S)
      first | (refine wpl_v S rfl rfl rfl (sv_loadO S rfl rfl (by rfl)) ?_; clear S a; intro a S) | (refine wpl_v S rfl rfl rfl (sv_loadF S rfl rfl (by assumption)) ?_; clear S a; intro a S)
      (refine wpl_v S rfl rfl rfl (sv_fieldAddr S rfl rfl rfl inferInstance rfl) ?_; clear S a; intro a S)
      (refine wpl_store1 S rfl rfl rfl rfl rfl rfl (by first | (simp; done) | (simp [Value.cells]; done)) ?_; clear S; intro w S)
      refine wpList_nil ?_
      (refine hKq7 _ _ ?_; try (clear hKq7 Kq7))
      (refine wp_seq_k ?_; intro Kq8 hKq8)
      refine wp_region_lit ?_
      first | (refine wpl_v S rfl rfl rfl (sv_loadAO S rfl rfl (by rfl)) ?_; clear S a; intro a S) | (refine wpl_v S rfl rfl rfl (sv_loadAF S rfl rfl (by assumption) (by rfl)) ?_; clear S a; intro a S)
      (refine wpl_callF S rfl rfl rfl rfl rfl rfl (tidyCt _ _ _ _ F1 (lt_nd t2 _) (by omega) hpu) rfl ?_; clear S a; intro u2 F2 a w hu hF2 S; have hu0 := hu; obtain ⟨p2, rfl, hp2⟩ := hu0; have hp20 := hp2; obtain ⟨u2o, u2c, rfl, -, -⟩ := hp20)
      (refine wpl_storeO S rfl rfl rfl rfl rfl (by rfl) (by simp [Value.cells, Value.oneCell', splice]) (by rfl) ?_; clear S; intro w S)
      refine wpList_nil ?_
      (refine hKq8 _ _ ?_; try (clear hKq8 Kq8))
      refine wp_ret ?_
      refine fin_ret S (results1 Tryd.results38 (RV.cellO S rfl (by rfl))) ?_
      (refine Eq.mp (congrArg (Num10 _ _) ?_) hu; (try simp only [decide_eq_true_eq] at h); first | exact sum_same h | exact sum_less (by assumption) (by omega) | exact sum_more (by assumption) (by omega))
end Go.Proofs.YtmmpbpfdnpgklaaDoor
