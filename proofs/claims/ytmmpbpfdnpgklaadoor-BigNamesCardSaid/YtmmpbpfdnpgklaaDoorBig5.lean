/- The walks of add, turned, both of package big. -/
import Derived.Test.YtmmpbpfdnpgklaaDoorBig3
import Derived.Test.YtmmpbpfdnpgklaaDoorBig4
import Derived.Test.YtmmpbpfdnpgklaaDoorWk10
namespace Go.Proofs.YtmmpbpfdnpgklaaDoor
open Go Go.Wk Go.Num
set_option linter.unusedSimpArgs false
set_option linter.unusedVariables false
attribute [local irreducible] Go.wpList Go.Code.wp Go.wpStill Go.Wk.wpPre Go.bodyPost Go.Calls Go.Wk.Ct Go.Wk.OwnS
attribute [local irreducible] Go.Wk.wpG

def addS (n1 : Bool) (A : Nat) (n2 : Bool) (C : Nat) : Bool × Nat := if n1 = n2 then (n1, A + C) else if 0 ≤ cmpI A C then (n1, A - C) else (n2, C - A)
def toZ (x : Bool × Nat) : Int := if x.1 then -(x.2 : Int) else x.2
theorem toZ_addS (n1 : Bool) (A : Nat) (n2 : Bool) (C : Nat) : toZ (addS n1 A n2 C) = toZ (n1, A) + toZ (n2, C) := by
  unfold addS toZ cmpI
  by_cases h1 : (A : Int) < C
  · rw [if_pos h1]; cases n1 <;> cases n2 <;> simp <;> omega
  · rw [if_neg h1]
    by_cases h2 : (C : Int) < A
    · rw [if_pos h2]; cases n1 <;> cases n2 <;> simp <;> omega
    · rw [if_neg h2]; cases n1 <;> cases n2 <;> simp <;> omega
def NumZ (F : Heap) (u : Value) (x : Bool × Nat) : Prop := NumV F u x.1 x.2
theorem cmp_le {A C : Nat} (h : 0 ≤ cmpI A C) : C ≤ A := by
  unfold cmpI at h; split at h; omega; omega
theorem cmp_gt {A C : Nat} (h : ¬ 0 ≤ cmpI A C) : A ≤ C := by
  unfold cmpI at h; split at h; omega; split at h <;> omega

set_option maxHeartbeats 2000000 in
theorem addCt (n1 : Bool) (A : Nat) (n2 : Bool) (C : Nat) (v u : Value) (F : Heap) (hlA : nd 1000000000 A ≤ 1000000) (hlC : nd 1000000000 C ≤ 1000000) (hv : NumV F v n1 A) (hu : NumV F u n2 C) : Ct Tryd.prog 45 [v, u] F [] (fun F' _ r => NumZ F' r (addS n1 A n2 C)) := by
  obtain ⟨pv, rfl, hpv⟩ := hv
  obtain ⟨pu, rfl, hpu⟩ := hu
  have hv0 := hpv
  have hu0 := hpu
  obtain ⟨ao, ca, rfl, -, -⟩ := hv0
  obtain ⟨co, cc, rfl, -, -⟩ := hu0
  refine Ct.enter Tryd.func45 rfl Tryd.ntmps45 rfl fun w0 a S => ?_
  (refine wp_seq_k ?_; intro Kq1 hKq1)
  refine wp_region_lit ?_
  (refine wpl_box S rfl rfl rfl rfl rfl ?_; clear S a; intro b2 a w S)
  (refine wpl_box S rfl rfl rfl rfl rfl ?_; clear S a; intro b3 a w S)
  (refine wpl_alloc S rfl rfl rfl rfl ?_; clear S a; intro b a w S)
  refine wpList_nil ?_
  (refine hKq1 _ _ ?_; try (clear hKq1 Kq1))
  (refine wp_seq_k ?_; intro Kq2 hKq2)
  refine wp_block ?_
  (refine wp_seq_k ?_; intro Kq3 hKq3)
  refine wp_region_lit ?_
  (refine wpl_v S rfl rfl rfl (sv_fieldAddr S rfl rfl rfl inferInstance rfl) ?_; clear S a; intro a S)
  first | (refine wpl_v S rfl rfl rfl (sv_loadO S rfl rfl (by rfl)) ?_; clear S a; intro a S) | (refine wpl_v S rfl rfl rfl (sv_loadF S rfl rfl (by assumption)) ?_; clear S a; intro a S)
  (refine wpl_v S rfl rfl rfl (sv_fieldAddr S rfl rfl rfl inferInstance rfl) ?_; clear S a; intro a S)
  first | (refine wpl_v S rfl rfl rfl (sv_loadO S rfl rfl (by rfl)) ?_; clear S a; intro a S) | (refine wpl_v S rfl rfl rfl (sv_loadF S rfl rfl (by assumption)) ?_; clear S a; intro a S)
  (refine wpl_v S rfl rfl rfl (sv_eqB S rfl rfl rfl) ?_; clear S a; intro a S)
  (refine wpl_v S rfl rfl rfl (sv_pure S rfl) ?_; clear S a; intro a S)
  refine wpList_nil ?_
  (refine hKq3 _ _ ?_; try (clear hKq3 Kq3))
  refine wpc_split S rfl (fun h => ?_) (fun h => ?_)
  · (skip; (try simp only [decide_eq_true_eq, decide_eq_false_iff_not, beq_iff_eq, bne_iff_ne, bne_eq_false_iff_eq, beq_eq_false_iff_ne, ne_eq, Bool.not_eq_true', Bool.not_eq_false', Bool.not_eq_true, Bool.not_eq_false, Bool.not_true, Bool.not_false, Int.ofNat_lt, Int.ofNat_le, Nat.not_lt, Nat.not_le] at h))
    (refine wp_seq_k ?_; intro Kq4 hKq4)
    (refine wpc_mixL [0, 1, 2, 3, 4, 5, 7] [1] [b2, b3] S mixed (by kernel_rfl) ?_; clear S; intro w S)
    refine wppk_one rfl rfl ?_
    (refine wpp_v S rfl rfl rfl rfl (fun _ S => sv_fieldAddr S rfl rfl rfl inferInstance rfl) ?_; clear S a; intro a S)
    refine wpp_nil ?_
    first | (refine wppk_late S rfl rfl rfl rfl rfl (fun w' hw => hw.1) (fun w' S => sv_loadO S rfl rfl (by rfl)) ?_; clear S a; intro a S) | (refine wppk_late S rfl rfl rfl rfl rfl (fun w' hw => hw.1) (fun w' S => sv_loadAO S rfl rfl (by rfl)) ?_; clear S a; intro a S) | (refine wppk_late S rfl rfl rfl rfl rfl (fun w' hw => hw.2.1) (fun w' S => sv_loadO S rfl rfl (by rfl)) ?_; clear S a; intro a S) | (refine wppk_late S rfl rfl rfl rfl rfl (fun w' hw => hw.2.1) (fun w' S => sv_loadAO S rfl rfl (by rfl)) ?_; clear S a; intro a S)
    refine wppk_one rfl rfl ?_
    (refine wpp_v S rfl rfl rfl rfl (fun _ S => sv_fieldAddr S rfl rfl rfl inferInstance rfl) ?_; clear S a; intro a S)
    refine wpp_nil ?_
    refine wppk_one rfl rfl ?_
    first | (refine wpp_s S rfl rfl rfl rfl (sv_loadO S rfl rfl (by rfl)) ?_; clear S a; intro a S) | (refine wpp_s S rfl rfl rfl rfl (sv_loadF S rfl rfl (by assumption)) ?_; clear S a; intro a S)
    refine wpp_nil ?_
    refine wppk_one rfl rfl ?_
    (refine wpp_v S rfl rfl rfl rfl (fun _ S => sv_fieldAddr S rfl rfl rfl inferInstance rfl) ?_; clear S a; intro a S)
    refine wpp_nil ?_
    refine wppk_one rfl rfl ?_
    first | (refine wpp_s S rfl rfl rfl rfl (sv_loadO S rfl rfl (by rfl)) ?_; clear S a; intro a S) | (refine wpp_s S rfl rfl rfl rfl (sv_loadF S rfl rfl (by assumption)) ?_; clear S a; intro a S)
    refine wpp_nil ?_
    refine wplk_one rfl ⟨S.has inferInstance, S.has inferInstance, trivial⟩ ?_
    (refine wpl_callF S rfl rfl rfl rfl rfl rfl (plusCt A C _ _ F hlA hlC hpv hpu) rfl ?_; clear S a; intro v F1 a w hv hF1 S; have hv0 := hv; obtain ⟨ro, rc, rfl, -, -⟩ := hv0)
    refine wpList_nil ?_
    refine wppk_one rfl rfl ?_
    (refine wpp_v S rfl rfl rfl rfl (fun _ S => sv_build S rfl rfl rfl) ?_; clear S a; intro a S)
    refine wpp_nil ?_
    refine wplk_one rfl ⟨S.has inferInstance, S.has inferInstance, trivial⟩ ?_
    (refine wpl_storeO S rfl rfl rfl rfl rfl (by rfl) (by simp [Value.cells, Value.oneCell', splice]) (by rfl) ?_; clear S; intro w S)
    refine wpList_nil ?_
    refine wplk_nil ⟨S.has inferInstance, S.has inferInstance, trivial⟩ ?_
    (refine hKq4 _ _ ?_; try (clear hKq4 Kq4))
    refine wp_ret ?_
    refine fin_ret S (results1 Tryd.results45 (RV.cellO S rfl (by rfl))) ?_
    (first | (rw [show addS n1 A n2 C = (n1, A + C) from (by unfold addS; rw [if_pos (by assumption)])]; exact ⟨_, rfl, hv⟩) | (rw [show addS n1 A n2 C = (n1, A - C) from (by unfold addS; rw [if_neg (by assumption), if_pos (by assumption)])]; exact ⟨_, rfl, hv⟩) | (rw [show addS n1 A n2 C = (n2, C - A) from (by unfold addS; rw [if_neg (by assumption), if_neg (by assumption)])]; exact ⟨_, rfl, hv⟩))
  · (skip; (try simp only [decide_eq_true_eq, decide_eq_false_iff_not, beq_iff_eq, bne_iff_ne, bne_eq_false_iff_eq, beq_eq_false_iff_ne, ne_eq, Bool.not_eq_true', Bool.not_eq_false', Bool.not_eq_true, Bool.not_eq_false, Bool.not_true, Bool.not_false, Int.ofNat_lt, Int.ofNat_le, Nat.not_lt, Nat.not_le] at h))
    (refine wp_seq_k ?_; intro Kq4 hKq4)
    refine wp_region_lit ?_
    (refine wpl_v S rfl rfl rfl (sv_fieldAddr S rfl rfl rfl inferInstance rfl) ?_; clear S a; intro a S)
    first | (refine wpl_v S rfl rfl rfl (sv_loadO S rfl rfl (by rfl)) ?_; clear S a; intro a S) | (refine wpl_v S rfl rfl rfl (sv_loadF S rfl rfl (by assumption)) ?_; clear S a; intro a S)
    (refine wpl_v S rfl rfl rfl (sv_fieldAddr S rfl rfl rfl inferInstance rfl) ?_; clear S a; intro a S)
    first | (refine wpl_v S rfl rfl rfl (sv_loadO S rfl rfl (by rfl)) ?_; clear S a; intro a S) | (refine wpl_v S rfl rfl rfl (sv_loadF S rfl rfl (by assumption)) ?_; clear S a; intro a S)
    (refine wpl_call0 S rfl rfl rfl rfl rfl rfl (sizesCt A C _ _ F hlA hlC hpv hpu) rfl ?_; clear S a; intro v a w hv S; subst hv)
    (refine wpl_v S rfl rfl rfl (sv_pure S rfl) ?_; clear S a; intro a S)
    (refine wpl_v S rfl rfl rfl (sv_pure S rfl) ?_; clear S a; intro a S)
    refine wpList_nil ?_
    (refine hKq4 _ _ ?_; try (clear hKq4 Kq4))
    refine wpc_split S rfl (fun h => ?_) (fun h => ?_)
    · (skip; (try simp only [decide_eq_true_eq, decide_eq_false_iff_not, beq_iff_eq, bne_iff_ne, bne_eq_false_iff_eq, beq_eq_false_iff_ne, ne_eq, Bool.not_eq_true', Bool.not_eq_false', Bool.not_eq_true, Bool.not_eq_false, Bool.not_true, Bool.not_false, Int.ofNat_lt, Int.ofNat_le, Nat.not_lt, Nat.not_le] at h))
      (refine wp_seq_k ?_; intro Kq5 hKq5)
      (refine wpc_mixL [0, 1, 2, 3, 4, 5, 7] [1] [b2, b3] S mixed (by kernel_rfl) ?_; clear S; intro w S)
      refine wppk_one rfl rfl ?_
      (refine wpp_v S rfl rfl rfl rfl (fun _ S => sv_fieldAddr S rfl rfl rfl inferInstance rfl) ?_; clear S a; intro a S)
      refine wpp_nil ?_
      first | (refine wppk_late S rfl rfl rfl rfl rfl (fun w' hw => hw.1) (fun w' S => sv_loadO S rfl rfl (by rfl)) ?_; clear S a; intro a S) | (refine wppk_late S rfl rfl rfl rfl rfl (fun w' hw => hw.1) (fun w' S => sv_loadAO S rfl rfl (by rfl)) ?_; clear S a; intro a S) | (refine wppk_late S rfl rfl rfl rfl rfl (fun w' hw => hw.2.1) (fun w' S => sv_loadO S rfl rfl (by rfl)) ?_; clear S a; intro a S) | (refine wppk_late S rfl rfl rfl rfl rfl (fun w' hw => hw.2.1) (fun w' S => sv_loadAO S rfl rfl (by rfl)) ?_; clear S a; intro a S)
      refine wppk_one rfl rfl ?_
      (refine wpp_v S rfl rfl rfl rfl (fun _ S => sv_fieldAddr S rfl rfl rfl inferInstance rfl) ?_; clear S a; intro a S)
      refine wpp_nil ?_
      refine wppk_one rfl rfl ?_
      first | (refine wpp_s S rfl rfl rfl rfl (sv_loadO S rfl rfl (by rfl)) ?_; clear S a; intro a S) | (refine wpp_s S rfl rfl rfl rfl (sv_loadF S rfl rfl (by assumption)) ?_; clear S a; intro a S)
      refine wpp_nil ?_
      refine wppk_one rfl rfl ?_
      (refine wpp_v S rfl rfl rfl rfl (fun _ S => sv_fieldAddr S rfl rfl rfl inferInstance rfl) ?_; clear S a; intro a S)
      refine wpp_nil ?_
      refine wppk_one rfl rfl ?_
      first | (refine wpp_s S rfl rfl rfl rfl (sv_loadO S rfl rfl (by rfl)) ?_; clear S a; intro a S) | (refine wpp_s S rfl rfl rfl rfl (sv_loadF S rfl rfl (by assumption)) ?_; clear S a; intro a S)
      refine wpp_nil ?_
      refine wplk_one rfl ⟨S.has inferInstance, S.has inferInstance, trivial⟩ ?_
      (first | (refine wpl_callF S rfl rfl rfl rfl rfl rfl (minusCt A C _ _ F (cmp_le h) hlA hlC hpv hpu) rfl ?_; clear S a; intro v F1 a w hv hF1 S; have hv0 := hv; obtain ⟨ro, rc, rfl, -, -⟩ := hv0) | (refine wpl_callF S rfl rfl rfl rfl rfl rfl (minusCt C A _ _ F (cmp_gt h) hlC hlA hpu hpv) rfl ?_; clear S a; intro v F1 a w hv hF1 S; have hv0 := hv; obtain ⟨ro, rc, rfl, -, -⟩ := hv0))
      refine wpList_nil ?_
      refine wppk_one rfl rfl ?_
      (refine wpp_v S rfl rfl rfl rfl (fun _ S => sv_build S rfl rfl rfl) ?_; clear S a; intro a S)
      refine wpp_nil ?_
      refine wplk_one rfl ⟨S.has inferInstance, S.has inferInstance, trivial⟩ ?_
      (refine wpl_storeO S rfl rfl rfl rfl rfl (by rfl) (by simp [Value.cells, Value.oneCell', splice]) (by rfl) ?_; clear S; intro w S)
      refine wpList_nil ?_
      refine wplk_nil ⟨S.has inferInstance, S.has inferInstance, trivial⟩ ?_
      (refine hKq5 _ _ ?_; try (clear hKq5 Kq5))
      refine wp_ret ?_
      refine fin_ret S (results1 Tryd.results45 (RV.cellO S rfl (by rfl))) ?_
      (first | (rw [show addS n1 A n2 C = (n1, A + C) from (by unfold addS; rw [if_pos (by assumption)])]; exact ⟨_, rfl, hv⟩) | (rw [show addS n1 A n2 C = (n1, A - C) from (by unfold addS; rw [if_neg (by assumption), if_pos (by assumption)])]; exact ⟨_, rfl, hv⟩) | (rw [show addS n1 A n2 C = (n2, C - A) from (by unfold addS; rw [if_neg (by assumption), if_neg (by assumption)])]; exact ⟨_, rfl, hv⟩))
    · (skip; (try simp only [decide_eq_true_eq, decide_eq_false_iff_not, beq_iff_eq, bne_iff_ne, bne_eq_false_iff_eq, beq_eq_false_iff_ne, ne_eq, Bool.not_eq_true', Bool.not_eq_false', Bool.not_eq_true, Bool.not_eq_false, Bool.not_true, Bool.not_false, Int.ofNat_lt, Int.ofNat_le, Nat.not_lt, Nat.not_le] at h))
      refine wp_skip ?_
      (refine hKq2 _ _ ?_; try (clear hKq2 Kq2))
      (refine wp_seq_k ?_; intro Kq5 hKq5)
      (refine wpc_mixL [0, 1, 2, 3, 4, 5, 7] [1] [b2, b3] S mixed (by kernel_rfl) ?_; clear S; intro w S)
      refine wppk_one rfl rfl ?_
      (refine wpp_v S rfl rfl rfl rfl (fun _ S => sv_fieldAddr S rfl rfl rfl inferInstance rfl) ?_; clear S a; intro a S)
      refine wpp_nil ?_
      first | (refine wppk_late S rfl rfl rfl rfl rfl (fun w' hw => hw.1) (fun w' S => sv_loadO S rfl rfl (by rfl)) ?_; clear S a; intro a S) | (refine wppk_late S rfl rfl rfl rfl rfl (fun w' hw => hw.1) (fun w' S => sv_loadAO S rfl rfl (by rfl)) ?_; clear S a; intro a S) | (refine wppk_late S rfl rfl rfl rfl rfl (fun w' hw => hw.2.1) (fun w' S => sv_loadO S rfl rfl (by rfl)) ?_; clear S a; intro a S) | (refine wppk_late S rfl rfl rfl rfl rfl (fun w' hw => hw.2.1) (fun w' S => sv_loadAO S rfl rfl (by rfl)) ?_; clear S a; intro a S)
      refine wppk_one rfl rfl ?_
      (refine wpp_v S rfl rfl rfl rfl (fun _ S => sv_fieldAddr S rfl rfl rfl inferInstance rfl) ?_; clear S a; intro a S)
      refine wpp_nil ?_
      refine wppk_one rfl rfl ?_
      first | (refine wpp_s S rfl rfl rfl rfl (sv_loadO S rfl rfl (by rfl)) ?_; clear S a; intro a S) | (refine wpp_s S rfl rfl rfl rfl (sv_loadF S rfl rfl (by assumption)) ?_; clear S a; intro a S)
      refine wpp_nil ?_
      refine wppk_one rfl rfl ?_
      (refine wpp_v S rfl rfl rfl rfl (fun _ S => sv_fieldAddr S rfl rfl rfl inferInstance rfl) ?_; clear S a; intro a S)
      refine wpp_nil ?_
      refine wppk_one rfl rfl ?_
      first | (refine wpp_s S rfl rfl rfl rfl (sv_loadO S rfl rfl (by rfl)) ?_; clear S a; intro a S) | (refine wpp_s S rfl rfl rfl rfl (sv_loadF S rfl rfl (by assumption)) ?_; clear S a; intro a S)
      refine wpp_nil ?_
      refine wplk_one rfl ⟨S.has inferInstance, S.has inferInstance, trivial⟩ ?_
      (first | (refine wpl_callF S rfl rfl rfl rfl rfl rfl (minusCt A C _ _ F (cmp_le h) hlA hlC hpv hpu) rfl ?_; clear S a; intro v F1 a w hv hF1 S; have hv0 := hv; obtain ⟨ro, rc, rfl, -, -⟩ := hv0) | (refine wpl_callF S rfl rfl rfl rfl rfl rfl (minusCt C A _ _ F (cmp_gt h) hlC hlA hpu hpv) rfl ?_; clear S a; intro v F1 a w hv hF1 S; have hv0 := hv; obtain ⟨ro, rc, rfl, -, -⟩ := hv0))
      refine wpList_nil ?_
      refine wppk_one rfl rfl ?_
      (refine wpp_v S rfl rfl rfl rfl (fun _ S => sv_build S rfl rfl rfl) ?_; clear S a; intro a S)
      refine wpp_nil ?_
      refine wplk_one rfl ⟨S.has inferInstance, S.has inferInstance, trivial⟩ ?_
      (refine wpl_storeO S rfl rfl rfl rfl rfl (by rfl) (by simp [Value.cells, Value.oneCell', splice]) (by rfl) ?_; clear S; intro w S)
      refine wpList_nil ?_
      refine wplk_nil ⟨S.has inferInstance, S.has inferInstance, trivial⟩ ?_
      (refine hKq5 _ _ ?_; try (clear hKq5 Kq5))
      refine wp_ret ?_
      refine fin_ret S (results1 Tryd.results45 (RV.cellO S rfl (by rfl))) ?_
      (first | (rw [show addS n1 A n2 C = (n1, A + C) from (by unfold addS; rw [if_pos (by assumption)])]; exact ⟨_, rfl, hv⟩) | (rw [show addS n1 A n2 C = (n1, A - C) from (by unfold addS; rw [if_neg (by assumption), if_pos (by assumption)])]; exact ⟨_, rfl, hv⟩) | (rw [show addS n1 A n2 C = (n2, C - A) from (by unfold addS; rw [if_neg (by assumption), if_neg (by assumption)])]; exact ⟨_, rfl, hv⟩))

set_option maxHeartbeats 1000000 in
theorem turnedCt (n1 : Bool) (A : Nat) (v : Value) (F : Heap) (hv : NumV F v n1 A) : Ct Tryd.prog 46 [v] F [] (fun F' _ r => NumV F' r (!n1) A) := by
  obtain ⟨pv, rfl, hpv⟩ := hv
  have hv0 := hpv
  obtain ⟨ao, ca, rfl, -, -⟩ := hv0
  refine Ct.enter Tryd.func46 rfl Tryd.ntmps46 rfl fun w0 a S => ?_
  (refine wp_seq_k ?_; intro Kq1 hKq1)
  refine wp_region_lit ?_
  (refine wpl_box S rfl rfl rfl rfl rfl ?_; clear S a; intro b a w S)
  (refine wpl_alloc S rfl rfl rfl rfl ?_; clear S a; intro b a w S)
  refine wpList_nil ?_
  (refine hKq1 _ _ ?_; try (clear hKq1 Kq1))
  (refine wp_seq_k ?_; intro Kq2 hKq2)
  refine wp_region_lit ?_
  (refine wpl_v S rfl rfl rfl (sv_fieldAddr S rfl rfl rfl inferInstance rfl) ?_; clear S a; intro a S)
  first | (refine wpl_v S rfl rfl rfl (sv_loadO S rfl rfl (by rfl)) ?_; clear S a; intro a S) | (refine wpl_v S rfl rfl rfl (sv_loadF S rfl rfl (by assumption)) ?_; clear S a; intro a S)
  (refine wpl_v S rfl rfl rfl (sv_pure S rfl) ?_; clear S a; intro a S)
  (refine wpl_v S rfl rfl rfl (sv_fieldAddr S rfl rfl rfl inferInstance rfl) ?_; clear S a; intro a S)
  first | (refine wpl_v S rfl rfl rfl (sv_loadO S rfl rfl (by rfl)) ?_; clear S a; intro a S) | (refine wpl_v S rfl rfl rfl (sv_loadF S rfl rfl (by assumption)) ?_; clear S a; intro a S)
  (refine wpl_v S rfl rfl rfl (sv_build S rfl rfl rfl) ?_; clear S a; intro a S)
  (refine wpl_storeO S rfl rfl rfl rfl rfl (by rfl) (by simp [Value.cells, Value.oneCell', splice]) (by rfl) ?_; clear S; intro w S)
  refine wpList_nil ?_
  (refine hKq2 _ _ ?_; try (clear hKq2 Kq2))
  refine wp_ret ?_
  refine fin_ret S (results1 Tryd.results46 (RV.cellO S rfl (by rfl))) ?_
  exact ⟨_, rfl, hpv⟩

/-- What both say: the refusal, or the two numbers. -/
def bothE (s t : List UInt8) : Int := if checkS s = 0 then checkS t else checkS s
def BothV (F : Heap) (u : Value) (s t : List UInt8) : Prop :=
  if bothE s t = 0 then ∃ p q, u = .tuple ⟨[.agg ⟨[.bool (negS s), p]⟩, .agg ⟨[.bool (negS t), q]⟩, .int .i64 0]⟩ ∧ Mag F p (decV (bodyS s)) ∧ Mag F q (decV (bodyS t))
  else u = .tuple ⟨[.agg ⟨[.bool false, .slice none 0 0]⟩, .agg ⟨[.bool false, .slice none 0 0]⟩, .int .i64 (bothE s t)]⟩

set_option maxHeartbeats 2000000 in
theorem bothCt (s t : List UInt8) (F : Heap) (hs : s.length ≤ 1000000000) (ht : t.length ≤ 1000000000) : Ct Tryd.prog 34 [.string (bs s), .string (bs t)] F [] (fun F' _ u => BothV F' u s t) := by
  refine Ct.enter Tryd.func34 rfl Tryd.ntmps34 rfl fun w0 a S => ?_
  (refine wp_seq_k ?_; intro Kq1 hKq1)
  refine wp_region_lit ?_
  (refine wpl_alloc S rfl rfl rfl rfl ?_; clear S a; intro b4 a w S)
  (refine wpl_alloc S rfl rfl rfl rfl ?_; clear S a; intro b5 a w S)
  (refine wpl_v S rfl rfl rfl (sv_pure S rfl) ?_; clear S a; intro a S)
  refine wpList_nil ?_
  (refine hKq1 _ _ ?_; try (clear hKq1 Kq1))
  (refine wp_seq_k ?_; intro Kq2 hKq2)
  (refine wp_seq_k ?_; intro Kq3 hKq3)
  refine wp_region_lit ?_
  (refine wpl_v S rfl rfl rfl (sv_pure S rfl) ?_; clear S a; intro a S)
  (refine wpl_v S rfl rfl rfl (sv_pure S rfl) ?_; clear S a; intro a S)
  (refine wpl_v S rfl rfl rfl (sv_buildA S rfl rfl rfl (by simp [Value.cells]) rfl) ?_; clear S a; intro a S)
  (refine wpl_v S rfl rfl rfl (sv_pure S rfl) ?_; clear S a; intro a S)
  refine wpList_nil ?_
  (refine hKq3 _ _ ?_; try (clear hKq3 Kq3))
  refine wp_block ?_
  refine wpc_loop (fun m a w' => ∃ (i : Nat), m = 2 - i ∧ i ≤ 2 ∧ (0 < i → checkS s = 0) ∧ (1 < i → checkS t = 0) ∧ St 28 [(0, .string (bs s)), (1, .string (bs t)), (4, .pointer (some ⟨b4, 0, none⟩)), (5, .pointer (some ⟨b5, 0, none⟩)), (12, .agg ⟨[.string (bs s), .string (bs t)]⟩), (13, .int .i64 i)] w0 F [] F [[(b5, .cells ⟨[.bool false, .slice none 0 0]⟩ 49 (0, 0))], [(b4, .cells ⟨[.bool false, .slice none 0 0]⟩ 49 (0, 0))]] a w') ?_ ?_
  · (refine ⟨2, 0, rfl, by omega, by omega, by omega, ?_⟩; refine S.keep ?_; repeat (first | exact trivial | refine ⟨rfl, ?_⟩))
  · (clear S; rintro m a w ⟨i, rfl, hi, hc1, hc2, S⟩)
    (refine wp_seq_k ?_; intro Kq4 hKq4)
    refine wp_region_lit ?_
    (refine wpl_v S rfl rfl rfl (sv_pure S rfl) ?_; clear S a; intro a S)
    refine wpList_nil ?_
    (refine hKq4 _ _ ?_; try (clear hKq4 Kq4))
    (refine wp_seq_k ?_; intro Kq5 hKq5)
    refine wpc_split S rfl (fun h => ?_) (fun h => ?_)
    · (skip; (try simp only [decide_eq_true_eq, decide_eq_false_iff_not, beq_iff_eq, bne_iff_ne, bne_eq_false_iff_eq, beq_eq_false_iff_ne, ne_eq, Bool.not_eq_true', Bool.not_eq_false', Bool.not_eq_true, Bool.not_eq_false, Bool.not_true, Bool.not_false, Int.ofNat_lt, Int.ofNat_le, Nat.not_lt, Nat.not_le] at h))
      refine wp_skip ?_
      (refine hKq5 _ _ ?_; try (clear hKq5 Kq5))
      (refine wp_seq_k ?_; intro Kq6 hKq6)
      refine wp_block ?_
      (refine wp_seq_k ?_; intro Kq7 hKq7)
      refine wp_region_lit ?_
      (obtain ⟨x, hxe, hx, hx0⟩ : ∃ x : List UInt8, ([.string (bs s), .string (bs t)] : List Value)[i]? = some (.string (bs x)) ∧ x.length ≤ 1000000000000 ∧ ((i = 0 ∧ x = s) ∨ (i = 1 ∧ x = t)) := (by rcases Nat.lt_or_ge i 1 with h9 | h9; (have h8 : i = 0 := (by omega); subst h8; exact ⟨s, rfl, by omega, Or.inl ⟨rfl, rfl⟩⟩); (have h8 : i = 1 := (by omega); subst h8; exact ⟨t, rfl, by omega, Or.inr ⟨rfl, rfl⟩⟩))); (refine wpl_v S rfl rfl rfl (sv_indexA S rfl rfl rfl (by omega) hxe) ?_; clear S a; intro a S)
      (refine wpl_v S rfl rfl rfl (sv_pure S rfl) ?_; clear S a; intro a S)
      refine wpList_nil ?_
      (refine hKq7 _ _ ?_; try (clear hKq7 Kq7))
      (refine wp_seq_k ?_; intro Kq8 hKq8)
      refine wp_region_lit ?_
      (refine wpl_v S rfl rfl rfl (sv_pure S rfl) ?_; clear S a; intro a S)
      (refine wpl_call0 S rfl rfl rfl rfl rfl rfl (checkCt x F (by omega)) rfl ?_; clear S a; intro v a w hv S; subst hv)
      (refine wpl_v S rfl rfl rfl (sv_pure S rfl) ?_; clear S a; intro a S)
      refine wpList_nil ?_
      (refine hKq8 _ _ ?_; try (clear hKq8 Kq8))
      (refine wp_seq_k ?_; intro Kq9 hKq9)
      refine wp_region_lit ?_
      (refine wpl_v S rfl rfl rfl (sv_pure S rfl) ?_; clear S a; intro a S)
      (refine wpl_v S rfl rfl rfl (sv_pure S rfl) ?_; clear S a; intro a S)
      refine wpList_nil ?_
      (refine hKq9 _ _ ?_; try (clear hKq9 Kq9))
      refine wpc_split S rfl (fun h => ?_) (fun h => ?_)
      · (skip; (try simp only [decide_eq_true_eq, decide_eq_false_iff_not, beq_iff_eq, bne_iff_ne, bne_eq_false_iff_eq, beq_eq_false_iff_ne, ne_eq, Bool.not_eq_true', Bool.not_eq_false', Bool.not_eq_true, Bool.not_eq_false, Bool.not_true, Bool.not_false, Int.ofNat_lt, Int.ofNat_le, Nat.not_lt, Nat.not_le] at h))
        (refine wp_seq_k ?_; intro Kq10 hKq10)
        refine wp_region_lit ?_
        (refine wpl_v S rfl rfl rfl (sv_build S rfl rfl rfl) ?_; clear S a; intro a S)
        (refine wpl_v S rfl rfl rfl (sv_build S rfl rfl rfl) ?_; clear S a; intro a S)
        (refine wpl_v S rfl rfl rfl (sv_pure S rfl) ?_; clear S a; intro a S)
        (refine wpl_storeO S rfl rfl rfl rfl rfl (by rfl) (by simp [Value.cells, Value.oneCell', splice]) (by rfl) ?_; clear S; intro w S)
        (refine wpl_storeO S rfl rfl rfl rfl rfl (by rfl) (by simp [Value.cells, Value.oneCell', splice]) (by rfl) ?_; clear S; intro w S)
        (refine wpl_v S rfl rfl rfl (sv_pure S rfl) ?_; clear S a; intro a S)
        refine wpList_nil ?_
        (refine hKq10 _ _ ?_; try (clear hKq10 Kq10))
        refine wp_ret ?_
        refine fin_ret S (results3 Tryd.results34 (RV.cellO S rfl (by rfl)) (RV.cellO S rfl (by rfl)) (RV.tmp S rfl)) ?_
        (first | (unfold BothV; rw [if_pos (by unfold bothE; rw [if_pos (hc1 (by omega))]; exact hc2 (by omega))]; exact ⟨_, _, rfl, hpp.mono hF2, hpq⟩) | (have hbe : bothE s t = checkS x := (by unfold bothE; rcases hx0 with ⟨h8, rfl⟩ | ⟨h8, rfl⟩; (rw [if_neg h]); (rw [if_pos (hc1 (by omega))])); unfold BothV; rw [if_neg (by rw [hbe]; exact h), hbe]; rfl))
      · (skip; (try simp only [decide_eq_true_eq, decide_eq_false_iff_not, beq_iff_eq, bne_iff_ne, bne_eq_false_iff_eq, beq_eq_false_iff_ne, ne_eq, Bool.not_eq_true', Bool.not_eq_false', Bool.not_eq_true, Bool.not_eq_false, Bool.not_true, Bool.not_false, Int.ofNat_lt, Int.ofNat_le, Nat.not_lt, Nat.not_le] at h))
        refine wp_skip ?_
        (refine hKq6 _ _ ?_; try (clear hKq6 Kq6))
        refine wp_region_lit ?_
        (refine wpl_v S rfl rfl rfl (sv_add S rfl rfl rfl (by first | omega | (simp only [List.length_append, List.length_cons, List.length_nil]; omega))) ?_; clear S a; intro a S)
        (refine wpl_v S rfl rfl rfl (sv_pure S rfl) ?_; clear S a; intro a S)
        refine wpList_nil ?_
        change ∃ m', _ ∧ _
        (refine ⟨2 - (i + 1), by omega, i + 1, rfl, by omega, ?_, ?_, ?_⟩; rotate_left 2; (refine S.keep ?_; repeat (first | exact trivial | refine ⟨rfl, ?_⟩)); (intro h8; rcases hx0 with ⟨h9, rfl⟩ | ⟨h9, rfl⟩; exact h; exact hc1 (by omega)); (intro h8; rcases hx0 with ⟨h9, rfl⟩ | ⟨h9, rfl⟩; omega; exact h))
    · (skip; (try simp only [decide_eq_true_eq, decide_eq_false_iff_not, beq_iff_eq, bne_iff_ne, bne_eq_false_iff_eq, beq_eq_false_iff_ne, ne_eq, Bool.not_eq_true', Bool.not_eq_false', Bool.not_eq_true, Bool.not_eq_false, Bool.not_true, Bool.not_false, Int.ofNat_lt, Int.ofNat_le, Nat.not_lt, Nat.not_le] at h))
      refine wp_exit ?_
      (refine hKq2 _ _ ?_; try (clear hKq2 Kq2))
      (refine wp_seq_k ?_; intro Kq6 hKq6)
      refine wp_region_lit ?_
      (refine wpl_v S rfl rfl rfl (sv_pure S rfl) ?_; clear S a; intro a S)
      (first | (refine wpl_callF S rfl rfl rfl rfl rfl rfl (ofCt t F1 hct) rfl ?_; clear S a; intro v2 F2 a w hv2 hF2 S; obtain ⟨pq, rfl, hpq⟩ := hv2; have hpq0 := hpq; obtain ⟨qo, qc, rfl, -, -⟩ := hpq0) | (refine wpl_callF S rfl rfl rfl rfl rfl rfl (ofCt s F (hc1 (by omega))) rfl ?_; clear S a; intro v F1 a w hv hF1 S; have hct := hc2 (by omega); obtain ⟨pp, rfl, hpp⟩ := hv; have hpp0 := hpp; obtain ⟨po, pc, rfl, -, -⟩ := hpp0))
      (refine wpl_v S rfl rfl rfl (sv_pure S rfl) ?_; clear S a; intro a S)
      (first | (refine wpl_callF S rfl rfl rfl rfl rfl rfl (ofCt t F1 hct) rfl ?_; clear S a; intro v2 F2 a w hv2 hF2 S; obtain ⟨pq, rfl, hpq⟩ := hv2; have hpq0 := hpq; obtain ⟨qo, qc, rfl, -, -⟩ := hpq0) | (refine wpl_callF S rfl rfl rfl rfl rfl rfl (ofCt s F (hc1 (by omega))) rfl ?_; clear S a; intro v F1 a w hv hF1 S; have hct := hc2 (by omega); obtain ⟨pp, rfl, hpp⟩ := hv; have hpp0 := hpp; obtain ⟨po, pc, rfl, -, -⟩ := hpp0))
      (refine wpl_storeO S rfl rfl rfl rfl rfl (by rfl) (by simp [Value.cells, Value.oneCell', splice]) (by rfl) ?_; clear S; intro w S)
      (refine wpl_storeO S rfl rfl rfl rfl rfl (by rfl) (by simp [Value.cells, Value.oneCell', splice]) (by rfl) ?_; clear S; intro w S)
      (refine wpl_v S rfl rfl rfl (sv_pure S rfl) ?_; clear S a; intro a S)
      refine wpList_nil ?_
      (refine hKq6 _ _ ?_; try (clear hKq6 Kq6))
      refine wp_ret ?_
      refine fin_ret S (results3 Tryd.results34 (RV.cellO S rfl (by rfl)) (RV.cellO S rfl (by rfl)) (RV.tmp S rfl)) ?_
      (first | (unfold BothV; rw [if_pos (by unfold bothE; rw [if_pos (hc1 (by omega))]; exact hc2 (by omega))]; exact ⟨_, _, rfl, hpp.mono hF2, hpq⟩) | (have hbe : bothE s t = checkS x := (by unfold bothE; rcases hx0 with ⟨h8, rfl⟩ | ⟨h8, rfl⟩; (rw [if_neg h]); (rw [if_pos (hc1 (by omega))])); unfold BothV; rw [if_neg (by rw [hbe]; exact h), hbe]; rfl))
end Go.Proofs.YtmmpbpfdnpgklaaDoor
