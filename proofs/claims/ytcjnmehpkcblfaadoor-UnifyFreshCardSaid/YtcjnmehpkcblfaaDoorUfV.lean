/- The walks of sames, New and Var. -/
import Derived.Test.YtcjnmehpkcblfaaDoorUfR
import Derived.Test.YtcjnmehpkcblfaaDoorUfT
namespace Go.Proofs.YtcjnmehpkcblfaaDoor
open Go Go.Wk Go.Un
set_option linter.unusedSimpArgs false
set_option linter.unusedVariables false
attribute [local irreducible] Go.wpList Go.Code.wp Go.wpStill Go.Wk.wpPre Go.bodyPost Go.Calls Go.Wk.Ct Go.Wk.OwnS
attribute [local irreducible] Go.Wk.wpG Go.Wk.wpM

set_option maxHeartbeats 4000000 in
theorem samesCt (F : Heap) (l : Fo) (v v2 : Value) (h : SlF F v l) (h2 : SlF F v2 l) (hl : l.len ≤ 1000) : Ct Tryd.prog 8 [v, v2] F [] (fun _ _ u => u = .bool true) := by
  obtain ⟨ao, cap, rfl, hcap, hpos⟩ := h
  obtain ⟨ab, cb, rfl, hcb, hposb⟩ := h2
  refine Ct.enter Tryd.func8 rfl Tryd.ntmps8 rfl fun w0 a S => ?_
  (refine wp_seq_k ?_; intro Kq1 hKq1)
  refine wp_region_lit ?_
  (refine wpl_v S rfl rfl rfl (sv_pure S rfl) ?_; clear S a; intro a S)
  refine wpList_nil ?_
  (refine hKq1 _ _ ?_; try (clear hKq1 Kq1))
  (refine wp_seq_k ?_; intro Kq2 hKq2)
  (refine wp_seq_k ?_; intro Kq3 hKq3)
  refine wp_region_lit ?_
  (refine wpl_v S rfl rfl rfl (sv_pure S rfl) ?_; clear S a; intro a S)
  (refine wpl_v S rfl rfl rfl (sv_lenSl S rfl rfl) ?_; clear S a; intro a S)
  (refine wpl_v S rfl rfl rfl (sv_pure S rfl) ?_; clear S a; intro a S)
  (refine wpl_v S rfl rfl rfl (sv_lenSl S rfl rfl) ?_; clear S a; intro a S)
  (refine wpl_v S rfl rfl rfl (sv_lit (c := false) (sv_pure S rfl) (by simp)) ?_; clear S a; intro a S)
  refine wpList_nil ?_
  (refine hKq3 _ _ ?_; try (clear hKq3 Kq3))
  refine wpc_false S rfl ?_
  refine wp_skip ?_
  (refine hKq2 _ _ ?_; try (clear hKq2 Kq2))
  (refine wp_seq_k ?_; intro Kq4 hKq4)
  (refine wp_seq_k ?_; intro Kq5 hKq5)
  refine wp_region_lit ?_
  (refine wpl_v S rfl rfl rfl (sv_pure S rfl) ?_; clear S a; intro a S)
  refine wpList_nil ?_
  (refine hKq5 _ _ ?_; try (clear hKq5 Kq5))
  refine wp_block ?_
  refine wpc_loop (fun m a w' => ∃ (k : Nat), m = l.len - k ∧ k ≤ l.len ∧ St 27 [(0, .slice ao l.len cap), (1, .slice ab l.len cb), (5, .int .i64 k)] w0 F [] F [] a w') ?_ ?_
  · (refine ⟨l.len, 0, by omega, Nat.zero_le _, ?_⟩; refine S.keep ?_; repeat (first | exact trivial | refine ⟨rfl, ?_⟩))
  · (clear S; rintro m a w ⟨k, rfl, hkl, S⟩)
    (refine wp_seq_k ?_; intro Kq6 hKq6)
    (refine wp_seq_k ?_; intro Kq7 hKq7)
    refine wp_region_lit ?_
    (refine wpl_v S rfl rfl rfl (sv_pure S rfl) ?_; clear S a; intro a S)
    (refine wpl_v S rfl rfl rfl (sv_pure S rfl) ?_; clear S a; intro a S)
    (refine wpl_v S rfl rfl rfl (sv_lenSl S rfl rfl) ?_; clear S a; intro a S)
    (refine wpl_v S rfl rfl rfl (sv_pure S rfl) ?_; clear S a; intro a S)
    refine wpList_nil ?_
    (refine hKq7 _ _ ?_; try (clear hKq7 Kq7))
    refine wpc_split S rfl (fun h => ?_) (fun h => ?_)
    · (skip; (try simp only [decide_eq_true_eq, decide_eq_false_iff_not, beq_iff_eq, bne_iff_ne, bne_eq_false_iff_eq, beq_eq_false_iff_ne, ne_eq, Bool.not_eq_true', Bool.not_eq_false', Bool.not_eq_true, Bool.not_eq_false, Bool.not_true, Bool.not_false, Int.ofNat_lt, Int.ofNat_le, Nat.not_lt, Nat.not_le] at h))
      refine wp_skip ?_
      (refine hKq6 _ _ ?_; try (clear hKq6 Kq6))
      (refine wp_seq_k ?_; intro Kq8 hKq8)
      refine wp_block ?_
      (refine wp_seq_k ?_; intro Kq9 hKq9)
      (obtain ⟨b8, o8, hao, x, v1, hx, hc1, hT1⟩ := FoM.pos hpos (k := k) (by omega); obtain ⟨b9, o9, hab, x2, v3, hx2, hc2, hT2⟩ := FoM.pos hposb (k := k) (by omega); obtain rfl : x2 = x := (by rw [hx] at hx2; cases hx2; rfl); rw [hao, hab] at S; have hT1c := hT1; obtain ⟨a91, c91, rfl, -⟩ := hT1c; have hT2c := hT2; obtain ⟨a92, c92, rfl, -⟩ := hT2c)
      (refine wpc_mixM [0, 1, 2, 3, 4, 5, 6, 7, 9] [3, 7] [] (.one 0 (.one 1 (.one 2 (.one 3 (.one 4 (.one 5 (.one 6 (.one 7 (.one 8 (.one 9 .nil)))))))))) [] S mixed (by kernel_rfl) ?_; clear S; intro w S)
      (refine wpm_v S rfl rfl rfl (want_none _ rfl) rfl rfl (fun w' S => sv_pure S rfl) ?_; clear S a; intro a S)
      (refine wpm_v S rfl rfl rfl (want_none _ rfl) rfl rfl (fun w' S => sv_pure S rfl) ?_; clear S a; intro a S)
      (refine wpm_v S rfl rfl rfl (want_none _ rfl) rfl rfl (fun w' S => sv_indexAddrSl S rfl rfl rfl (by first | omega | (simp only [List.length_append, List.length_cons, List.length_nil]; omega))) ?_; clear S a; intro a S)
      (refine wpm_lateF S rfl rfl rfl (want_none _ rfl) rfl rfl (fun w' S => sv_loadAF S rfl rfl hc1 (by rfl)) ?_; clear S a; intro a S)
      (refine wpm_v S rfl rfl rfl (want_none _ rfl) rfl rfl (fun w' S => sv_pure S rfl) ?_; clear S a; intro a S)
      (refine wpm_v S rfl rfl rfl (want_none _ rfl) rfl rfl (fun w' S => sv_pure S rfl) ?_; clear S a; intro a S)
      (refine wpm_v S rfl rfl rfl (want_none _ rfl) rfl rfl (fun w' S => sv_indexAddrSl S rfl rfl rfl (by first | omega | (simp only [List.length_append, List.length_cons, List.length_nil]; omega))) ?_; clear S a; intro a S)
      (refine wpm_lateF S rfl rfl rfl (want_none _ rfl) rfl rfl (fun w' S => sv_loadAF S rfl rfl hc2 (by rfl)) ?_; clear S a; intro a S)
      refine wpm_eff rfl rfl (fun _ => ⟨fun b o h => S.tr.frz b o (by first | exact h | solve_by_elim), trivial⟩) ?_
      (refine wpl_call0 S rfl rfl rfl rfl rfl rfl (refSameCt F _ _ _ _ _ _ _ (Nat.le_refl _) ⟨_, rfl, hT1⟩ ⟨_, rfl, hT2⟩) rfl ?_; clear S a; intro v a w hv S; rw [decide_eq_true ⟨rfl, rfl⟩] at hv; subst hv)
      refine wpList_nil ?_
      (refine wpm_v S rfl rfl rfl (want_none _ rfl) rfl rfl (fun w' S => sv_lit (c := false) (sv_pure S rfl) (by rfl)) ?_; clear S a; intro a S)
      refine wpm_nil (fun _ => ⟨fun b o h => S.tr.frz b o (by first | exact h | solve_by_elim), trivial⟩) ?_
      (refine hKq9 _ _ ?_; try (clear hKq9 Kq9))
      refine wpc_false S rfl ?_
      refine wp_skip ?_
      (refine hKq8 _ _ ?_; try (clear hKq8 Kq8))
      refine wp_region_lit ?_
      (refine wpl_v S rfl rfl rfl (sv_pure S rfl) ?_; clear S a; intro a S)
      (refine wpl_v S rfl rfl rfl (sv_add S rfl rfl rfl (by first | omega | (simp only [List.length_append, List.length_cons, List.length_nil]; omega))) ?_; clear S a; intro a S)
      (refine wpl_v S rfl rfl rfl (sv_pure S rfl) ?_; clear S a; intro a S)
      refine wpList_nil ?_
      change ∃ m', _ ∧ _
      (rw [← hao, ← hab] at S; refine ⟨l.len - (k + 1), by omega, k + 1, rfl, by omega, ?_⟩; refine S.keep ?_; repeat (first | exact trivial | refine ⟨rfl, ?_⟩))
    · (skip; (try simp only [decide_eq_true_eq, decide_eq_false_iff_not, beq_iff_eq, bne_iff_ne, bne_eq_false_iff_eq, beq_eq_false_iff_ne, ne_eq, Bool.not_eq_true', Bool.not_eq_false', Bool.not_eq_true, Bool.not_eq_false, Bool.not_true, Bool.not_false, Int.ofNat_lt, Int.ofNat_le, Nat.not_lt, Nat.not_le] at h))
      refine wp_exit ?_
      (refine hKq4 _ _ ?_; try (clear hKq4 Kq4))
      (refine wp_seq_k ?_; intro Kq8 hKq8)
      refine wp_region_lit ?_
      (refine wpl_v S rfl rfl rfl (sv_pure S rfl) ?_; clear S a; intro a S)
      refine wpList_nil ?_
      (refine hKq8 _ _ ?_; try (clear hKq8 Kq8))
      refine wp_ret ?_
      refine fin_ret S (results1 Tryd.results8 (RV.tmp S rfl)) ?_
      (first | rfl | trace_state)
def Tb0 : Tb := ⟨[], [], [], [], []⟩
theorem newTCt (F : Heap) : Ct Tryd.prog 6 [] F [] (fun F' G' u => ∃ tb mb, u = .pointer (some ⟨tb, 0, none⟩) ∧ TabT F' tb mb Tb0 0 0 G') := by
  refine Ct.enter Tryd.func6 rfl Tryd.ntmps6 rfl fun w0 a S => ?_
  (refine wp_seq_k ?_; intro Kq1 hKq1)
  refine wp_region_lit ?_
  (refine wpl_v S rfl rfl rfl (sv_pure S rfl) ?_; clear S a; intro a S)
  refine wpList_nil ?_
  (refine hKq1 _ _ ?_; try (clear hKq1 Kq1))
  (refine wp_seq_k ?_; intro Kq2 hKq2)
  refine wp_region_lit ?_
  (refine wpl_makeMap kS S rfl rfl rfl rfl ?_; clear S a; intro b1 a w S)
  (refine wpl_v S rfl rfl rfl (sv_build S rfl rfl rfl) ?_; clear S a; intro a S)
  (refine wpl_box S rfl rfl rfl rfl rfl ?_; clear S a; intro b3 a w S)
  (refine wpl_v S rfl rfl rfl (sv_pure S rfl) ?_; clear S a; intro a S)
  refine wpList_nil ?_
  (refine hKq2 _ _ ?_; try (clear hKq2 Kq2))
  refine wp_ret ?_
  (replace S := S.nilg.nilg.nilg.nilg; replace S := St.permI S 6 rfl [4, 5, 0, 1, 2, 3] (by decide))
  
  refine fin_ret S (results1 Tryd.results6 (RV.tmp S rfl)) ?_
  exact ⟨b3, b1, rfl, .slice none 0 0, .slice none 0 0, .slice none 0 0, .slice none 0 0, [], [], [], [], rfl, ⟨⟨[], OwnS.nil _ _, trivial⟩, OwnS.nil _ _, OwnS.nil _ _, OwnS.nil _ _⟩⟩

/-! ### a new name -/
theorem dd_small {u : Nat} (h : u < 10) : Lib.decDigits u = [UInt8.ofNat (48 + u)] := by rw [Lib.decDigits, dif_pos h]
theorem dd_big {u : Nat} (h : ¬ u < 10) : Lib.decDigits u = Lib.decDigits (u / 10) ++ [UInt8.ofNat (48 + u % 10)] := by rw [Lib.decDigits, dif_neg h]
theorem dd_ne (u : Nat) : Lib.decDigits u ≠ [] := by
  by_cases h : u < 10
  · rw [dd_small h]; simp
  · rw [dd_big h]; simp
theorem dig_inj {x y : Nat} (hx : x < 10) (hy : y < 10) (h : UInt8.ofNat (48 + x) = UInt8.ofNat (48 + y)) : x = y := by
  have := congrArg UInt8.toNat h
  rw [UInt8.toNat_ofNat', UInt8.toNat_ofNat', Nat.mod_eq_of_lt (by omega), Nat.mod_eq_of_lt (by omega)] at this
  omega
theorem dd_inj : ∀ {u v : Nat}, Lib.decDigits u = Lib.decDigits v → u = v := by
  intro u
  induction u using Nat.strongRecOn with
  | _ u ih =>
    intro v h
    by_cases hu : u < 10
    · by_cases hv : v < 10
      · rw [dd_small hu, dd_small hv] at h
        exact dig_inj hu hv (List.singleton_inj.1 h)
      · rw [dd_small hu, dd_big hv] at h
        have h1 := congrArg List.length h
        rw [List.length_append, List.length_singleton, List.length_singleton] at h1
        exact absurd (List.length_eq_zero_iff.1 (by omega)) (dd_ne (v / 10))
    · by_cases hv : v < 10
      · rw [dd_big hu, dd_small hv] at h
        have h1 := congrArg List.length h
        rw [List.length_append, List.length_singleton, List.length_singleton] at h1
        exact absurd (List.length_eq_zero_iff.1 (by omega)) (dd_ne (u / 10))
      · rw [dd_big hu, dd_big hv] at h
        have h1 := List.append_inj' h rfl
        have h2 := ih (u / 10) (by omega) h1.1
        have h3 := dig_inj (Nat.mod_lt _ (by decide)) (Nat.mod_lt _ (by decide)) (List.singleton_inj.1 h1.2)
        omega
def frS (k : Nat) : List UInt8 := 39 :: Lib.itoa (k : Int)
theorem frS_inj {j k : Nat} (h : frS j = frS k) : j = k := by
  unfold frS at h
  rw [Lib.itoa_nonneg, Lib.itoa_nonneg] at h
  exact dd_inj (List.cons.inj h).2
theorem frS_isV (k : Nat) : isV (frS k) = true := by
  have h : 0 < (Lib.decDigits k).length := List.length_pos_iff.2 (dd_ne k)
  unfold isV frS
  rw [Lib.itoa_nonneg]
  simp
  exact h
open Classical in
/-- How many of the variables have names that may still be told. -/
noncomputable def ahead (vs : List (List UInt8 × Nat)) (told : Nat) : Nat := vs.countP fun p => decide (∃ j, told < j ∧ p.1 = frS j)
open Classical in
theorem ahead_step : ∀ {vs : List (List UInt8 × Nat)} {told : Nat}, (∃ i, vget vs (frS (told + 1)) = some i) → ahead vs (told + 1) < ahead vs told := by
  intro vs told h
  unfold ahead
  have hle : ∀ (r : List (List UInt8 × Nat)), r.countP (fun p => decide (∃ j, told + 1 < j ∧ p.1 = frS j)) ≤ r.countP fun p => decide (∃ j, told < j ∧ p.1 = frS j) := fun r => by
    refine List.countP_mono_left fun p _ hp => ?_
    obtain ⟨j, hj, e⟩ := of_decide_eq_true hp
    exact decide_eq_true ⟨j, by omega, e⟩
  induction vs with
  | nil => obtain ⟨i, hi⟩ := h; simp [vget] at hi
  | cons p r ih =>
    rw [List.countP_cons, List.countP_cons]
    by_cases e : frS (told + 1) = p.1
    · have h1 : decide (∃ j, told < j ∧ p.1 = frS j) = true := decide_eq_true ⟨told + 1, by omega, e.symm⟩
      have h2 : decide (∃ j, told + 1 < j ∧ p.1 = frS j) = false := decide_eq_false (by
        rintro ⟨j, hj, e2⟩
        have := frS_inj (e.trans e2)
        omega)
      rw [h1, h2]
      have := hle r
      simp only [if_true, if_false, Bool.false_eq_true]
      omega
    · have h1 := ih (by
        obtain ⟨i, hi⟩ := h
        refine ⟨i, ?_⟩
        unfold vget at hi ⊢
        rw [List.find?_cons] at hi
        simp only [e, decide_false] at hi
        exact hi)
      have h2 : (if decide (∃ j, told + 1 < j ∧ p.1 = frS j) = true then 1 else 0) ≤ (if decide (∃ j, told < j ∧ p.1 = frS j) = true then 1 else 0) := by
        by_cases h3 : ∃ j, told + 1 < j ∧ p.1 = frS j
        · have h4 : ∃ j, told < j ∧ p.1 = frS j := by obtain ⟨j, hj, e⟩ := h3; exact ⟨j, by omega, e⟩
          rw [if_pos (decide_eq_true h3), if_pos (decide_eq_true h4)]
          exact Nat.le_refl 1
        · rw [if_neg (by rw [decide_eq_false h3]; decide)]
          exact Nat.zero_le _
      omega
open Classical in
theorem ahead_le (vs : List (List UInt8 × Nat)) (told : Nat) : ahead vs told ≤ vs.length := List.countP_le_length
set_option maxRecDepth 20000 in
set_option maxHeartbeats 8000000 in
theorem varCt (F : Heap) (tb mb : Nat) (T : Tb) (told : Nat) (G : List Grp) (hTab : TabT F tb mb T T.nd.length (told : Int) G) (hlen : T.nd.length + 1 ≤ 10000000) (hvl : T.vs.length ≤ T.nd.length) (ht : told ≤ 1000000000000000) (hTF : TabF F) :
    Ct Tryd.prog 19 [.pointer (some ⟨tb, 0, none⟩)] F G (fun F' G' u => ∃ k : Nat, k ≤ told + 10000001 ∧ vget T.vs (frS k) = none ∧ u = .agg ⟨[.string (bs (frS k)), .slice none 0 0]⟩ ∧ TabT F' tb mb (takeV T (frS k)).1 (takeV T (frS k)).1.nd.length (k : Int) G') := by
  obtain ⟨vn, vp, vt, vl, gn, gp, gs, gl, rfl, hTM⟩ := hTab
  have hale := ahead_le T.vs told
  unfold GT at *
  refine Ct.enter Tryd.func19 rfl Tryd.ntmps19 rfl fun w0 a S => ?_
  (refine wp_seq_k ?_; intro Kq1 hKq1)
  refine wp_region_lit ?_
  (refine wpl_alloc S rfl rfl rfl rfl ?_; clear S a; intro b2 a w S)
  refine wpList_nil ?_
  (refine hKq1 _ _ ?_; try (clear hKq1 Kq1))
  (refine wp_seq_k ?_; intro Kq2 hKq2)
  (refine wp_seq_k ?_; intro Kq3 hKq3)
  refine wp_region_lit ?_
  (refine wpl_v S rfl rfl rfl (sv_pure S rfl) ?_; clear S a; intro a S)
  (refine wpl_v S rfl rfl rfl (sv_lit (c := false) (sv_eqPtrSome S rfl rfl rfl) (by rfl)) ?_; clear S a; intro a S)
  refine wpList_nil ?_
  (refine hKq3 _ _ ?_; try (clear hKq3 Kq3))
  refine wpc_false S rfl ?_
  refine wp_skip ?_
  (refine hKq2 _ _ ?_; try (clear hKq2 Kq2))
  refine wp_block ?_
  refine wpc_loop (fun m a w' => ∃ (t : Nat), m = ahead T.vs t ∧ t + ahead T.vs t ≤ told + ahead T.vs told ∧ St 39 [(0, ptr tb), (2, ptr b2)] w0 F (keys (GT tb mb vn vp vt vl told T.vs gn gp gs gl)) F ([(b2, .cells ⟨[.string (bs []), .slice none 0 0]⟩ 36 (0, 0))] :: GT tb mb vn vp vt vl (t : Int) T.vs gn gp gs gl) a w') ?_ ?_
  · (refine ⟨_, told, rfl, Nat.le_refl _, ?_⟩; refine S.keep ?_; repeat (first | exact trivial | refine ⟨rfl, ?_⟩))
  · (clear S; rintro m a w ⟨t, rfl, hta, S⟩; unfold GT at S)
    refine wp_block ?_
    (refine wp_seq_k ?_; intro Kq4 hKq4)
    refine wp_region_lit ?_
    (refine wpl_v S rfl rfl rfl (sv_pure S rfl) ?_; clear S a; intro a S)
    (refine wpl_v S rfl rfl rfl (sv_nilCheck S rfl rfl) ?_; clear S a; intro a S)
    (refine wpl_v S rfl rfl rfl (sv_fieldAddr S rfl rfl rfl inferInstance rfl) ?_; clear S a; intro a S)
    first | (refine wpl_v S rfl rfl rfl (sv_loadO S rfl rfl (by rfl)) ?_; clear S a; intro a S) | (refine wpl_v S rfl rfl rfl (sv_loadF S rfl rfl (by assumption)) ?_; clear S a; intro a S)
    (refine wpl_v S rfl rfl rfl (sv_add S rfl rfl rfl (by first | omega | (simp only [List.length_append, List.length_cons, List.length_nil]; omega))) ?_; clear S a; intro a S)
    (rw [show ((t : Int) + 1) = ((t + 1 : Nat) : Int) from rfl] at S; have hil := Lib.itoa_length_le ((t + 1 : Nat) : Int) (by omega) (by omega))
    (refine wpl_v S rfl rfl rfl (sv_nilCheck S rfl rfl) ?_; clear S a; intro a S)
    (refine wpl_v S rfl rfl rfl (sv_fieldAddr S rfl rfl rfl inferInstance rfl) ?_; clear S a; intro a S)
    (refine wpl_store1 S rfl rfl rfl rfl rfl rfl (by first | (simp; done) | (simp [Value.cells]; done) | exact Nat.le_of_ble_eq_true rfl) ?_; clear S; intro w S)
    refine wpList_nil ?_
    (refine hKq4 _ _ ?_; try (clear hKq4 Kq4))
    (refine wp_seq_k ?_; intro Kq5 hKq5)
    refine wp_region_lit ?_
    (refine wpl_v S rfl rfl rfl (sv_pure S rfl) ?_; clear S a; intro a S)
    (refine wpl_v S rfl rfl rfl (sv_nilCheck S rfl rfl) ?_; clear S a; intro a S)
    (refine wpl_v S rfl rfl rfl (sv_fieldAddr S rfl rfl rfl inferInstance rfl) ?_; clear S a; intro a S)
    first | (refine wpl_v S rfl rfl rfl (sv_loadO S rfl rfl (by rfl)) ?_; clear S a; intro a S) | (refine wpl_v S rfl rfl rfl (sv_loadF S rfl rfl (by assumption)) ?_; clear S a; intro a S)
    (refine wpl_call0 S rfl rfl rfl rfl rfl rfl (itoaCt (t + 1) F (by omega) hTF) rfl ?_; clear S a; intro v a w hv S; subst hv)
    (refine wpl_v S rfl rfl rfl (sv_cat S rfl rfl rfl (by first | omega | (simp only [List.length_append, List.length_cons, List.length_nil]; omega))) ?_; clear S a; intro a S)
    (rw [show [39] ++ Lib.itoa ((t + 1 : Nat) : Int) = frS (t + 1) from rfl] at S)
    (refine wpl_v S rfl rfl rfl (sv_build S rfl rfl rfl) ?_; clear S a; intro a S)
    (refine wpl_alloc S rfl rfl rfl rfl ?_; clear S a; intro b3 a w S)
    (refine wpl_storeO S rfl rfl rfl rfl rfl (by rfl) (by simp [Value.cells, Value.oneCell', splice]) (by rfl) ?_; clear S; intro w S)
    refine wpList_nil ?_
    (refine hKq5 _ _ ?_; try (clear hKq5 Kq5))
    (refine wp_seq_k ?_; intro Kq6 hKq6)
    (refine wpc_mixM [0, 1, 2, 3, 4, 5, 6, 7, 8, 9] [3, 5, 6] [] (.one 0 (.one 1 (.one 2 (.one 3 (.one 4 (.one 5 (.one 6 (.one 7 (.one 8 (.one 9 (.one 10 (.one 11 .nil)))))))))))) [tb, b3, mb] S mixed (by kernel_rfl) ?_; clear S; intro w S)
    (refine wpm_v S rfl rfl rfl (want_none _ rfl) rfl rfl (fun w' S => sv_pure S rfl) ?_; clear S a; intro a S)
    (refine wpm_v S rfl rfl rfl (want_none _ rfl) rfl rfl (fun w' S => sv_nilCheck S rfl rfl) ?_; clear S a; intro a S)
    (refine wpm_v S rfl rfl rfl (want_none _ rfl) rfl rfl (fun w' S => sv_fieldAddr S rfl rfl rfl inferInstance rfl) ?_; clear S a; intro a S)
    first | (refine wpm_lateO tb S rfl rfl rfl (want_none _ rfl) rfl rfl (fun w' S => sv_loadO S rfl rfl (by rfl)) ?_; clear S a; intro a S) | (refine wpm_lateO tb S rfl rfl rfl (want_none _ rfl) rfl rfl (fun w' S => sv_loadAO S rfl rfl (by rfl)) ?_; clear S a; intro a S)
    (refine wpm_v S rfl rfl rfl (want_none _ rfl) rfl rfl (fun w' S => sv_fieldAddr S rfl rfl rfl inferInstance rfl) ?_; clear S a; intro a S)
    first | (refine wpm_lateO b3 S rfl rfl rfl (want_none _ rfl) rfl rfl (fun w' S => sv_loadO S rfl rfl (by rfl)) ?_; clear S a; intro a S) | (refine wpm_lateO b3 S rfl rfl rfl (want_none _ rfl) rfl rfl (fun w' S => sv_loadAO S rfl rfl (by rfl)) ?_; clear S a; intro a S)
    (refine wpm_lateO mb S rfl rfl rfl (want_none _ rfl) rfl rfl (fun w' S => sv_lookupO (enc := kS) S rfl rfl rfl) ?_; clear S a; intro a S)
    (refine wpm_v S rfl rfl rfl (want_none _ rfl) rfl rfl (fun w' S => sv_pure S rfl) ?_; clear S a; intro a S)
    (refine wpm_v S rfl rfl rfl (want_none _ rfl) rfl rfl (fun w' S => sv_pure S rfl) ?_; clear S a; intro a S)
    (refine wpm_v S rfl rfl rfl (want_none _ rfl) rfl rfl (fun w' S => sv_pure S rfl) ?_; clear S a; intro a S)
    refine wpm_eff rfl rfl (fun _ => ⟨fun b o h => S.tr.frz b o (by first | exact h | solve_by_elim), S.has inferInstance, S.has inferInstance, S.has inferInstance, trivial⟩) ?_
    (refine wpl_v S rfl rfl rfl (sv_pure S rfl) ?_; clear S a; intro a S)
    refine wpList_nil ?_
    refine wpm_eff rfl rfl (fun _ => ⟨fun b o h => S.tr.frz b o (by first | exact h | solve_by_elim), S.has inferInstance, S.has inferInstance, S.has inferInstance, trivial⟩) ?_
    (refine wpl_v S rfl rfl rfl (sv_pure S rfl) ?_; clear S a; intro a S)
    refine wpList_nil ?_
    refine wpm_nil (fun _ => ⟨fun b o h => S.tr.frz b o (by first | exact h | solve_by_elim), S.has inferInstance, S.has inferInstance, S.has inferInstance, trivial⟩) ?_
    (refine hKq6 _ _ ?_; try (clear hKq6 Kq6))
    (refine wp_seq_k ?_; intro Kq7 hKq7)
    refine wp_region_lit ?_
    (refine wpl_v S rfl rfl rfl (sv_pure S rfl) ?_; clear S a; intro a S)
    (refine wpl_v S rfl rfl rfl (sv_pure S rfl) ?_; clear S a; intro a S)
    refine wpList_nil ?_
    (refine hKq7 _ _ ?_; try (clear hKq7 Kq7))
    refine wpc_split S rfl (fun h => ?_) (fun h => ?_)
    · (skip; (try simp only [decide_eq_true_eq, decide_eq_false_iff_not, beq_iff_eq, bne_iff_ne, bne_eq_false_iff_eq, beq_eq_false_iff_ne, ne_eq, Bool.not_eq_true', Bool.not_eq_false', Bool.not_eq_true, Bool.not_eq_false, Bool.not_true, Bool.not_false, Int.ofNat_lt, Int.ofNat_le, Nat.not_lt, Nat.not_le] at h))
      (refine wp_seq_k ?_; intro Kq8 hKq8)
      (have hvg : vget T.vs (frS (t + 1)) = none := (by cases hv : vget T.vs (frS (t + 1)) with | none => rfl | some i9 => (exfalso; rw [mGet_mapV, hv] at h; simp at h)))
      refine wp_region_lit ?_
      (refine wpl_v S rfl rfl rfl (sv_pure S rfl) ?_; clear S a; intro a S)
      first | (refine wpl_v S rfl rfl rfl (sv_loadAO S rfl rfl (by rfl)) ?_; clear S a; intro a S) | (refine wpl_v S rfl rfl rfl (sv_loadAF S rfl rfl (by assumption) (by rfl)) ?_; clear S a; intro a S)
      (have e9 : takeT (frS (t + 1)) .nil T = takeV T (frS (t + 1)) := (by unfold takeT; rw [if_pos (isV_varT (frS_isV _))]); refine wpl_call (Gs := GT tb mb vn vp vt vl ((t + 1 : Nat) : Int) T.vs gn gp gs gl) (Gr := [[(b3, _)], [(b2, _)]]) S rfl rfl rfl rfl rfl rfl (takeTCt tb mb ((t + 1 : Nat) : Int) 1 F (frS (t + 1)) .nil _ T (GT tb mb vn vp vt vl ((t + 1 : Nat) : Int) T.vs gn gp gs gl) (by decide) ⟨_, rfl, SlF.nil _⟩ ⟨_, _, _, _, _, _, _, _, rfl, hTM⟩ (by simp only [Fo.size]; omega)) rfl (grp_perm (A := [[(b3, _)], [(b2, _)]])) ?_; clear S a; intro u9 F9 G9 a w hv hF9 S; obtain ⟨rfl, hTab2⟩ := hv; rw [e9] at hTab2; replace S : St _ _ _ _ _ F9 ([(b3, _)] :: [(b2, _)] :: G9) _ _ := St.rotL S)
      refine wpList_nil ?_
      (refine hKq8 _ _ ?_; try (clear hKq8 Kq8))
      (refine wp_seq_k ?_; intro Kq9 hKq9)
      refine wp_region_lit ?_
      first | (refine wpl_v S rfl rfl rfl (sv_loadAO S rfl rfl (by rfl)) ?_; clear S a; intro a S) | (refine wpl_v S rfl rfl rfl (sv_loadAF S rfl rfl (by assumption) (by rfl)) ?_; clear S a; intro a S)
      (refine wpl_storeO S rfl rfl rfl rfl rfl (by rfl) (by simp [Value.cells, Value.oneCell', splice]) (by rfl) ?_; clear S; intro w S)
      refine wpList_nil ?_
      (refine hKq9 _ _ ?_; try (clear hKq9 Kq9))
      refine wp_ret ?_
      (have S0 := S; replace S := S.drop1.drop1)
      
      refine fin_ret S (results1 Tryd.results19 (RV.cellO S0 rfl (by rfl))) ?_
      (exact ⟨t + 1, by omega, hvg, rfl, hTab2⟩)
    · (skip; (try simp only [decide_eq_true_eq, decide_eq_false_iff_not, beq_iff_eq, bne_iff_ne, bne_eq_false_iff_eq, beq_eq_false_iff_ne, ne_eq, Bool.not_eq_true', Bool.not_eq_false', Bool.not_eq_true, Bool.not_eq_false, Bool.not_true, Bool.not_false, Int.ofNat_lt, Int.ofNat_le, Nat.not_lt, Nat.not_le] at h))
      refine wp_skip ?_
      change ∃ m', _ ∧ _
      (have hvs : ∃ i, vget T.vs (frS (t + 1)) = some i := (by cases hv : vget T.vs (frS (t + 1)) with | some i => exact ⟨i, rfl⟩ | none => (exfalso; rw [mGet_mapV, hv] at h; simp at h)); have hst := ahead_step hvs; replace S := S.drop1; refine ⟨ahead T.vs (t + 1), by omega, t + 1, rfl, by omega, ?_⟩; refine S.keep ?_; repeat (first | exact trivial | refine ⟨rfl, ?_⟩))
end Go.Proofs.YtcjnmehpkcblfaaDoor
