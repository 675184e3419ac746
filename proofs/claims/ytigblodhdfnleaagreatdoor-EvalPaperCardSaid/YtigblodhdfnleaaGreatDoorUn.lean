/- The walks of add, turned, both of package big. More rules: pointers held against each other, pointers turned to unsafe ones and back, unsafe.SliceData and unsafe.String over a row of the call's own, a call that takes own blocks along. Nothing here knows the program. The walks of strings.Builder's methods, the builder's two blocks taken along: WriteString appends the bytes, Len counts them, String makes them a string. Maps of the call's own, and maps that never turn: made, stored into, looked into. Keys: texts, whole numbers. Nothing here knows the program. Types as forests; how they lie in memory; which are variables, which may be. -/
import Derived.Test.YtigblodhdfnleaaGreatDoorBig4
import Derived.Test.YtigblodhdfnleaaGreatDoorWk10
import Derived.Lib.Builder
import Derived.Lib.UnsafeStr
import Derived.Laws.Externs
import Derived.Laws.Pointers
import Derived.Test.YtigblodhdfnleaaGreatDoorWk13
namespace Go.Proofs.YtigblodhdfnleaaGreatDoor
open Go Go.Wk Go.Num
set_option linter.unusedSimpArgs false
set_option linter.unusedVariables false
attribute [local irreducible] Go.wpList Go.Code.wp Go.wpStill Go.Wk.wpPre Go.bodyPost Go.Calls Go.Wk.Ct Go.Wk.OwnS
attribute [local irreducible] Go.Wk.wpG

def addS (n1 : Bool) (A : Nat) (n2 : Bool) (C : Nat) : Bool × Nat := if n1 = n2 then (n1, A + C) else if 0 ≤ cmpI A C then (n1, A - C) else (n2, C - A)
def toZ (x : Bool × Nat) : Int := if x.1 then -(x.2 : Int) else x.2
theorem toZ_addS (n1 : Bool) (A : Nat) (n2 : Bool) (C : Nat) : toZ (addS n1 A n2 C) = toZ (n1, A) + toZ (n2, C) := by
  unfold addS toZ cmpI
  by_cases h1 : (A : Int) < C
  · rw [if_pos h1]; cases n1 <;> cases n2 <;> simp <;> omega
  · rw [if_neg h1]
    by_cases h2 : (C : Int) < A
    · rw [if_pos h2]; cases n1 <;> cases n2 <;> simp <;> omega
    · rw [if_neg h2]; cases n1 <;> cases n2 <;> simp <;> omega
def NumZ (F : Heap) (u : Value) (x : Bool × Nat) : Prop := NumV F u x.1 x.2
theorem cmp_le {A C : Nat} (h : 0 ≤ cmpI A C) : C ≤ A := by
  unfold cmpI at h; split at h; omega; omega
theorem cmp_gt {A C : Nat} (h : ¬ 0 ≤ cmpI A C) : A ≤ C := by
  unfold cmpI at h; split at h; omega; split at h <;> omega

set_option maxHeartbeats 2000000 in
theorem addCt (n1 : Bool) (A : Nat) (n2 : Bool) (C : Nat) (v u : Value) (F : Heap) (hlA : nd 1000000000 A ≤ 1000000) (hlC : nd 1000000000 C ≤ 1000000) (hv : NumV F v n1 A) (hu : NumV F u n2 C) : Ct Tryz.prog 72 [v, u] F [] (fun F' _ r => NumZ F' r (addS n1 A n2 C)) := by
  obtain ⟨pv, rfl, hpv⟩ := hv
  obtain ⟨pu, rfl, hpu⟩ := hu
  have hv0 := hpv
  have hu0 := hpu
  obtain ⟨ao, ca, rfl, -, -⟩ := hv0
  obtain ⟨co, cc, rfl, -, -⟩ := hu0
  refine Ct.enter Tryz.func72 rfl Tryz.ntmps72 rfl fun w0 a S => ?_
  refine wp_sr fun Kq1 hKq1 => ?_
  (refine wpl_box S rfl rfl rfl rfl rfl ?_; clear S a; intro b2 a w S)
  (refine wpl_box S rfl rfl rfl rfl rfl ?_; clear S a; intro b3 a w S)
  (refine wpl_alloc S rfl rfl rfl rfl ?_; clear S a; intro b a w S)
  (refine wpList_nil (hKq1 _ _ (wp_seq_k fun Kq2 hKq2 => ?_)); try clear hKq1 Kq1)
  refine wp_block ?_
  refine wp_sr fun Kq3 hKq3 => ?_
  (refine wpl_f S rfl rfl rfl ?_; clear S a; intro a S)
  (refine wpl_l S rfl rfl rfl ?_; clear S a; intro a S)
  (refine wpl_f S rfl rfl rfl ?_; clear S a; intro a S)
  (refine wpl_l S rfl rfl rfl ?_; clear S a; intro a S)
  (refine wpl_s S rfl rfl rfl ?_; clear S a; intro a S)
  (refine wpl_p S rfl rfl rfl ?_; clear S a; intro a S)
  (refine wpList_nil (hKq3 _ _ ?_); try clear hKq3 Kq3)
  refine wpc_split S rfl (fun h => ?_) (fun h => ?_)
  · (skip; (try simp only [tq] at h))
    (refine wp_seq_k ?_; intro Kq4 hKq4)
    (refine wpc_mixL [0, 1, 2, 3, 4, 5, 7] [1] [b2, b3] S mixed (by kernel_rfl) ?_; clear S; intro w S)
    refine wppk_one rfl rfl ?_
    (refine wpp_v S rfl rfl rfl rfl (fun _ S => sv_fieldAddr S rfl rfl rfl inferInstance rfl) ?_; clear S a; intro a S)
    refine wpp_nil ?_
    first | (refine wppk_late S rfl rfl rfl rfl rfl (fun w' hw => hw.1) (fun w' S => sv_loadO S rfl rfl (by rfl)) ?_; clear S a; intro a S) | (refine wppk_late S rfl rfl rfl rfl rfl (fun w' hw => hw.1) (fun w' S => sv_loadAO S rfl rfl (by rfl)) ?_; clear S a; intro a S) | (refine wppk_late S rfl rfl rfl rfl rfl (fun w' hw => hw.2.1) (fun w' S => sv_loadO S rfl rfl (by rfl)) ?_; clear S a; intro a S) | (refine wppk_late S rfl rfl rfl rfl rfl (fun w' hw => hw.2.1) (fun w' S => sv_loadAO S rfl rfl (by rfl)) ?_; clear S a; intro a S)
    refine wppk_one rfl rfl ?_
    (refine wpp_v S rfl rfl rfl rfl (fun _ S => sv_fieldAddr S rfl rfl rfl inferInstance rfl) ?_; clear S a; intro a S)
    refine wpp_nil ?_
    refine wppk_one rfl rfl ?_
    first | (refine wpp_s S rfl rfl rfl rfl (sv_loadO S rfl rfl (by rfl)) ?_; clear S a; intro a S) | (refine wpp_s S rfl rfl rfl rfl (sv_loadF S rfl rfl (by assumption)) ?_; clear S a; intro a S)
    refine wpp_nil ?_
    refine wppk_one rfl rfl ?_
    (refine wpp_v S rfl rfl rfl rfl (fun _ S => sv_fieldAddr S rfl rfl rfl inferInstance rfl) ?_; clear S a; intro a S)
    refine wpp_nil ?_
    refine wppk_one rfl rfl ?_
    first | (refine wpp_s S rfl rfl rfl rfl (sv_loadO S rfl rfl (by rfl)) ?_; clear S a; intro a S) | (refine wpp_s S rfl rfl rfl rfl (sv_loadF S rfl rfl (by assumption)) ?_; clear S a; intro a S)
    refine wpp_nil ?_
    refine wplk_one rfl ⟨S.has inferInstance, S.has inferInstance, trivial⟩ ?_
    (refine wpl_callF S rfl rfl rfl rfl rfl rfl (plusCt A C _ _ F hlA hlC hpv hpu) rfl ?_; clear S a; intro v F1 a w hv hF1 S; have hv0 := hv; obtain ⟨ro, rc, rfl, -, -⟩ := hv0)
    refine wpList_nil ?_
    refine wppk_one rfl rfl ?_
    (refine wpp_v S rfl rfl rfl rfl (fun _ S => sv_build S rfl rfl rfl) ?_; clear S a; intro a S)
    refine wpp_nil ?_
    refine wplk_one rfl ⟨S.has inferInstance, S.has inferInstance, trivial⟩ ?_
    (refine wpl_storeO S rfl rfl rfl rfl rfl (by rfl) (by simp [Value.cells, Value.oneCell', splice]) (by rfl) ?_; clear S; intro w S)
    refine wpList_nil ?_
    refine wplk_nil ⟨S.has inferInstance, S.has inferInstance, trivial⟩ ?_
    (refine hKq4 _ _ ?_; try (clear hKq4 Kq4))
    refine wp_ret (fin_ret S (results1 Tryz.results72 (RV.cellO S rfl (by rfl))) ?_)
    (first | (rw [show addS n1 A n2 C = (n1, A + C) from (by unfold addS; rw [if_pos (by assumption)])]; exact ⟨_, rfl, hv⟩) | (rw [show addS n1 A n2 C = (n1, A - C) from (by unfold addS; rw [if_neg (by assumption), if_pos (by assumption)])]; exact ⟨_, rfl, hv⟩) | (rw [show addS n1 A n2 C = (n2, C - A) from (by unfold addS; rw [if_neg (by assumption), if_neg (by assumption)])]; exact ⟨_, rfl, hv⟩))
  (skip; (try simp only [tq] at h))
  refine wp_sr fun Kq4 hKq4 => ?_
  (refine wpl_f S rfl rfl rfl ?_; clear S a; intro a S)
  (refine wpl_l S rfl rfl rfl ?_; clear S a; intro a S)
  (refine wpl_f S rfl rfl rfl ?_; clear S a; intro a S)
  (refine wpl_l S rfl rfl rfl ?_; clear S a; intro a S)
  (refine wpl_call0 S rfl rfl rfl rfl rfl rfl (sizesCt A C _ _ F hlA hlC hpv hpu) rfl ?_; clear S a; intro v a w hv S; subst hv)
  iterate 2 (refine wpl_p S rfl rfl rfl ?_; clear S a; intro a S)
  (refine wpList_nil (hKq4 _ _ ?_); try clear hKq4 Kq4)
  refine wpc_split S rfl (fun h => ?_) (fun h => ?_)
  · (skip; (try simp only [tq] at h))
    (refine wp_seq_k ?_; intro Kq5 hKq5)
    (refine wpc_mixL [0, 1, 2, 3, 4, 5, 7] [1] [b2, b3] S mixed (by kernel_rfl) ?_; clear S; intro w S)
    refine wppk_one rfl rfl ?_
    (refine wpp_v S rfl rfl rfl rfl (fun _ S => sv_fieldAddr S rfl rfl rfl inferInstance rfl) ?_; clear S a; intro a S)
    refine wpp_nil ?_
    first | (refine wppk_late S rfl rfl rfl rfl rfl (fun w' hw => hw.1) (fun w' S => sv_loadO S rfl rfl (by rfl)) ?_; clear S a; intro a S) | (refine wppk_late S rfl rfl rfl rfl rfl (fun w' hw => hw.1) (fun w' S => sv_loadAO S rfl rfl (by rfl)) ?_; clear S a; intro a S) | (refine wppk_late S rfl rfl rfl rfl rfl (fun w' hw => hw.2.1) (fun w' S => sv_loadO S rfl rfl (by rfl)) ?_; clear S a; intro a S) | (refine wppk_late S rfl rfl rfl rfl rfl (fun w' hw => hw.2.1) (fun w' S => sv_loadAO S rfl rfl (by rfl)) ?_; clear S a; intro a S)
    refine wppk_one rfl rfl ?_
    (refine wpp_v S rfl rfl rfl rfl (fun _ S => sv_fieldAddr S rfl rfl rfl inferInstance rfl) ?_; clear S a; intro a S)
    refine wpp_nil ?_
    refine wppk_one rfl rfl ?_
    first | (refine wpp_s S rfl rfl rfl rfl (sv_loadO S rfl rfl (by rfl)) ?_; clear S a; intro a S) | (refine wpp_s S rfl rfl rfl rfl (sv_loadF S rfl rfl (by assumption)) ?_; clear S a; intro a S)
    refine wpp_nil ?_
    refine wppk_one rfl rfl ?_
    (refine wpp_v S rfl rfl rfl rfl (fun _ S => sv_fieldAddr S rfl rfl rfl inferInstance rfl) ?_; clear S a; intro a S)
    refine wpp_nil ?_
    refine wppk_one rfl rfl ?_
    first | (refine wpp_s S rfl rfl rfl rfl (sv_loadO S rfl rfl (by rfl)) ?_; clear S a; intro a S) | (refine wpp_s S rfl rfl rfl rfl (sv_loadF S rfl rfl (by assumption)) ?_; clear S a; intro a S)
    refine wpp_nil ?_
    refine wplk_one rfl ⟨S.has inferInstance, S.has inferInstance, trivial⟩ ?_
    (first | (refine wpl_callF S rfl rfl rfl rfl rfl rfl (minusCt A C _ _ F (cmp_le h) hlA hlC hpv hpu) rfl ?_; clear S a; intro v F1 a w hv hF1 S; have hv0 := hv; obtain ⟨ro, rc, rfl, -, -⟩ := hv0) | (refine wpl_callF S rfl rfl rfl rfl rfl rfl (minusCt C A _ _ F (cmp_gt h) hlC hlA hpu hpv) rfl ?_; clear S a; intro v F1 a w hv hF1 S; have hv0 := hv; obtain ⟨ro, rc, rfl, -, -⟩ := hv0))
    refine wpList_nil ?_
    refine wppk_one rfl rfl ?_
    (refine wpp_v S rfl rfl rfl rfl (fun _ S => sv_build S rfl rfl rfl) ?_; clear S a; intro a S)
    refine wpp_nil ?_
    refine wplk_one rfl ⟨S.has inferInstance, S.has inferInstance, trivial⟩ ?_
    (refine wpl_storeO S rfl rfl rfl rfl rfl (by rfl) (by simp [Value.cells, Value.oneCell', splice]) (by rfl) ?_; clear S; intro w S)
    refine wpList_nil ?_
    refine wplk_nil ⟨S.has inferInstance, S.has inferInstance, trivial⟩ ?_
    (refine hKq5 _ _ ?_; try (clear hKq5 Kq5))
    refine wp_ret (fin_ret S (results1 Tryz.results72 (RV.cellO S rfl (by rfl))) ?_)
    (first | (rw [show addS n1 A n2 C = (n1, A + C) from (by unfold addS; rw [if_pos (by assumption)])]; exact ⟨_, rfl, hv⟩) | (rw [show addS n1 A n2 C = (n1, A - C) from (by unfold addS; rw [if_neg (by assumption), if_pos (by assumption)])]; exact ⟨_, rfl, hv⟩) | (rw [show addS n1 A n2 C = (n2, C - A) from (by unfold addS; rw [if_neg (by assumption), if_neg (by assumption)])]; exact ⟨_, rfl, hv⟩))
  (skip; (try simp only [tq] at h))
  refine wp_skip ?_
  (refine hKq2 _ _ ?_; try (clear hKq2 Kq2))
  (refine wp_seq_k ?_; intro Kq5 hKq5)
  (refine wpc_mixL [0, 1, 2, 3, 4, 5, 7] [1] [b2, b3] S mixed (by kernel_rfl) ?_; clear S; intro w S)
  refine wppk_one rfl rfl ?_
  (refine wpp_v S rfl rfl rfl rfl (fun _ S => sv_fieldAddr S rfl rfl rfl inferInstance rfl) ?_; clear S a; intro a S)
  refine wpp_nil ?_
  first | (refine wppk_late S rfl rfl rfl rfl rfl (fun w' hw => hw.1) (fun w' S => sv_loadO S rfl rfl (by rfl)) ?_; clear S a; intro a S) | (refine wppk_late S rfl rfl rfl rfl rfl (fun w' hw => hw.1) (fun w' S => sv_loadAO S rfl rfl (by rfl)) ?_; clear S a; intro a S) | (refine wppk_late S rfl rfl rfl rfl rfl (fun w' hw => hw.2.1) (fun w' S => sv_loadO S rfl rfl (by rfl)) ?_; clear S a; intro a S) | (refine wppk_late S rfl rfl rfl rfl rfl (fun w' hw => hw.2.1) (fun w' S => sv_loadAO S rfl rfl (by rfl)) ?_; clear S a; intro a S)
  refine wppk_one rfl rfl ?_
  (refine wpp_v S rfl rfl rfl rfl (fun _ S => sv_fieldAddr S rfl rfl rfl inferInstance rfl) ?_; clear S a; intro a S)
  refine wpp_nil ?_
  refine wppk_one rfl rfl ?_
  first | (refine wpp_s S rfl rfl rfl rfl (sv_loadO S rfl rfl (by rfl)) ?_; clear S a; intro a S) | (refine wpp_s S rfl rfl rfl rfl (sv_loadF S rfl rfl (by assumption)) ?_; clear S a; intro a S)
  refine wpp_nil ?_
  refine wppk_one rfl rfl ?_
  (refine wpp_v S rfl rfl rfl rfl (fun _ S => sv_fieldAddr S rfl rfl rfl inferInstance rfl) ?_; clear S a; intro a S)
  refine wpp_nil ?_
  refine wppk_one rfl rfl ?_
  first | (refine wpp_s S rfl rfl rfl rfl (sv_loadO S rfl rfl (by rfl)) ?_; clear S a; intro a S) | (refine wpp_s S rfl rfl rfl rfl (sv_loadF S rfl rfl (by assumption)) ?_; clear S a; intro a S)
  refine wpp_nil ?_
  refine wplk_one rfl ⟨S.has inferInstance, S.has inferInstance, trivial⟩ ?_
  (first | (refine wpl_callF S rfl rfl rfl rfl rfl rfl (minusCt A C _ _ F (cmp_le h) hlA hlC hpv hpu) rfl ?_; clear S a; intro v F1 a w hv hF1 S; have hv0 := hv; obtain ⟨ro, rc, rfl, -, -⟩ := hv0) | (refine wpl_callF S rfl rfl rfl rfl rfl rfl (minusCt C A _ _ F (cmp_gt h) hlC hlA hpu hpv) rfl ?_; clear S a; intro v F1 a w hv hF1 S; have hv0 := hv; obtain ⟨ro, rc, rfl, -, -⟩ := hv0))
  refine wpList_nil ?_
  refine wppk_one rfl rfl ?_
  (refine wpp_v S rfl rfl rfl rfl (fun _ S => sv_build S rfl rfl rfl) ?_; clear S a; intro a S)
  refine wpp_nil ?_
  refine wplk_one rfl ⟨S.has inferInstance, S.has inferInstance, trivial⟩ ?_
  (refine wpl_storeO S rfl rfl rfl rfl rfl (by rfl) (by simp [Value.cells, Value.oneCell', splice]) (by rfl) ?_; clear S; intro w S)
  refine wpList_nil ?_
  refine wplk_nil ⟨S.has inferInstance, S.has inferInstance, trivial⟩ ?_
  (refine hKq5 _ _ ?_; try (clear hKq5 Kq5))
  refine wp_ret (fin_ret S (results1 Tryz.results72 (RV.cellO S rfl (by rfl))) ?_)
  (first | (rw [show addS n1 A n2 C = (n1, A + C) from (by unfold addS; rw [if_pos (by assumption)])]; exact ⟨_, rfl, hv⟩) | (rw [show addS n1 A n2 C = (n1, A - C) from (by unfold addS; rw [if_neg (by assumption), if_pos (by assumption)])]; exact ⟨_, rfl, hv⟩) | (rw [show addS n1 A n2 C = (n2, C - A) from (by unfold addS; rw [if_neg (by assumption), if_neg (by assumption)])]; exact ⟨_, rfl, hv⟩))

set_option maxHeartbeats 1000000 in
theorem turnedCt (n1 : Bool) (A : Nat) (v : Value) (F : Heap) (hv : NumV F v n1 A) : Ct Tryz.prog 73 [v] F [] (fun F' _ r => NumV F' r (!n1) A) := by
  obtain ⟨pv, rfl, hpv⟩ := hv
  have hv0 := hpv
  obtain ⟨ao, ca, rfl, -, -⟩ := hv0
  refine Ct.enter Tryz.func73 rfl Tryz.ntmps73 rfl fun w0 a S => ?_
  refine wp_sr fun Kq1 hKq1 => ?_
  (refine wpl_box S rfl rfl rfl rfl rfl ?_; clear S a; intro b a w S)
  (refine wpl_alloc S rfl rfl rfl rfl ?_; clear S a; intro b a w S)
  (refine wpList_nil (hKq1 _ _ (wp_sr fun Kq2 hKq2 => ?_)); try clear hKq1 Kq1)
  (refine wpl_f S rfl rfl rfl ?_; clear S a; intro a S)
  (refine wpl_l S rfl rfl rfl ?_; clear S a; intro a S)
  (refine wpl_p S rfl rfl rfl ?_; clear S a; intro a S)
  (refine wpl_f S rfl rfl rfl ?_; clear S a; intro a S)
  (refine wpl_l S rfl rfl rfl ?_; clear S a; intro a S)
  (refine wpl_b S rfl rfl rfl ?_; clear S a; intro a S)
  (refine wpl_storeO S rfl rfl rfl rfl rfl (by rfl) (by simp [Value.cells, Value.oneCell', splice]) (by rfl) ?_; clear S; intro w S)
  (refine wpList_nil (hKq2 _ _ ?_); try clear hKq2 Kq2)
  refine wp_ret (fin_ret S (results1 Tryz.results73 (RV.cellO S rfl (by rfl))) ?_)
  exact ⟨_, rfl, hpv⟩

/-- What both say: the refusal, or the two numbers. -/
def bothE (s t : List UInt8) : Int := if checkS s = 0 then checkS t else checkS s
def BothV (F : Heap) (u : Value) (s t : List UInt8) : Prop :=
  if bothE s t = 0 then ∃ p q, u = .tuple ⟨[.agg ⟨[.bool (negS s), p]⟩, .agg ⟨[.bool (negS t), q]⟩, .int .i64 0]⟩ ∧ Mag F p (decV (bodyS s)) ∧ Mag F q (decV (bodyS t))
  else u = .tuple ⟨[.agg ⟨[.bool false, .slice none 0 0]⟩, .agg ⟨[.bool false, .slice none 0 0]⟩, .int .i64 (bothE s t)]⟩

set_option maxHeartbeats 2000000 in
theorem bothCt (s t : List UInt8) (F : Heap) (hs : s.length ≤ 1000000000) (ht : t.length ≤ 1000000000) : Ct Tryz.prog 70 [.string (bs s), .string (bs t)] F [] (fun F' _ u => BothV F' u s t) := by
  refine Ct.enter Tryz.func70 rfl Tryz.ntmps70 rfl fun w0 a S => ?_
  refine wp_sr fun Kq1 hKq1 => ?_
  (refine wpl_alloc S rfl rfl rfl rfl ?_; clear S a; intro b4 a w S)
  (refine wpl_alloc S rfl rfl rfl rfl ?_; clear S a; intro b5 a w S)
  (refine wpl_p S rfl rfl rfl ?_; clear S a; intro a S)
  (refine wpList_nil (hKq1 _ _ (wp_seq_k fun Kq2 hKq2 => ?_)); try clear hKq1 Kq1)
  refine wp_sr fun Kq3 hKq3 => ?_
  iterate 2 (refine wpl_p S rfl rfl rfl ?_; clear S a; intro a S)
  (refine wpl_v S rfl rfl rfl (sv_buildA S rfl rfl rfl (by simp [Value.cells]) rfl) ?_; clear S a; intro a S)
  (refine wpl_p S rfl rfl rfl ?_; clear S a; intro a S)
  (refine wpList_nil (hKq3 _ _ ?_); try clear hKq3 Kq3)
  refine wp_block ?_
  refine wpc_loop (fun m a w' => ∃ (i : Nat), m = 2 - i ∧ i ≤ 2 ∧ (0 < i → checkS s = 0) ∧ (1 < i → checkS t = 0) ∧ St 28 [(0, .string (bs s)), (1, .string (bs t)), (4, .pointer (some ⟨b4, 0, none⟩)), (5, .pointer (some ⟨b5, 0, none⟩)), (12, .agg ⟨[.string (bs s), .string (bs t)]⟩), (13, .int .i64 i)] w0 F [] F [[(b5, .cells ⟨[.bool false, .slice none 0 0]⟩ 93 (0, 0))], [(b4, .cells ⟨[.bool false, .slice none 0 0]⟩ 93 (0, 0))]] a w') ?_ ?_
  · (refine ⟨2, 0, rfl, by omega, by omega, by omega, ?_⟩; refine S.keep ?_; repeat (first | exact trivial | refine ⟨rfl, ?_⟩))
  (clear S; rintro m a w ⟨i, rfl, hi, hc1, hc2, S⟩)
  refine wp_sr fun Kq4 hKq4 => ?_
  (refine wpl_p S rfl rfl rfl ?_; clear S a; intro a S)
  (refine wpList_nil (hKq4 _ _ (wp_seq_k fun Kq5 hKq5 => ?_)); try clear hKq4 Kq4)
  refine wpc_split S rfl (fun h => ?_) (fun h => ?_)
  · (skip; (try simp only [tq] at h))
    refine wp_skip ?_
    (refine hKq5 _ _ ?_; try (clear hKq5 Kq5))
    (refine wp_seq_k ?_; intro Kq6 hKq6)
    refine wp_block ?_
    refine wp_sr fun Kq7 hKq7 => ?_
    (obtain ⟨x, hxe, hx, hx0⟩ : ∃ x : List UInt8, ([.string (bs s), .string (bs t)] : List Value)[i]? = some (.string (bs x)) ∧ x.length ≤ 1000000000000 ∧ ((i = 0 ∧ x = s) ∨ (i = 1 ∧ x = t)) := (by rcases Nat.lt_or_ge i 1 with h9 | h9; (have h8 : i = 0 := (by omega); subst h8; exact ⟨s, rfl, by omega, Or.inl ⟨rfl, rfl⟩⟩); (have h8 : i = 1 := (by omega); subst h8; exact ⟨t, rfl, by omega, Or.inr ⟨rfl, rfl⟩⟩))); (refine wpl_v S rfl rfl rfl (sv_indexA S rfl rfl rfl (by omega) hxe) ?_; clear S a; intro a S)
    (refine wpl_p S rfl rfl rfl ?_; clear S a; intro a S)
    (refine wpList_nil (hKq7 _ _ (wp_sr fun Kq8 hKq8 => ?_)); try clear hKq7 Kq7)
    (refine wpl_p S rfl rfl rfl ?_; clear S a; intro a S)
    (refine wpl_call0 S rfl rfl rfl rfl rfl rfl (checkCt x F (by omega)) rfl ?_; clear S a; intro v a w hv S; subst hv)
    (refine wpl_p S rfl rfl rfl ?_; clear S a; intro a S)
    (refine wpList_nil (hKq8 _ _ (wp_sr fun Kq9 hKq9 => ?_)); try clear hKq8 Kq8)
    iterate 2 (refine wpl_p S rfl rfl rfl ?_; clear S a; intro a S)
    (refine wpList_nil (hKq9 _ _ ?_); try clear hKq9 Kq9)
    refine wpc_split S rfl (fun h => ?_) (fun h => ?_)
    · (skip; (try simp only [tq] at h))
      refine wp_sr fun Kq10 hKq10 => ?_
      iterate 2 (refine wpl_b S rfl rfl rfl ?_; clear S a; intro a S)
      (refine wpl_p S rfl rfl rfl ?_; clear S a; intro a S)
      iterate 2 (refine wpl_storeO S rfl rfl rfl rfl rfl (by rfl) (by simp [Value.cells, Value.oneCell', splice]) (by rfl) ?_; clear S; intro w S)
      (refine wpl_p S rfl rfl rfl ?_; clear S a; intro a S)
      (refine wpList_nil (hKq10 _ _ ?_); try clear hKq10 Kq10)
      refine wp_ret (fin_ret S (results3 Tryz.results70 (RV.cellO S rfl (by rfl)) (RV.cellO S rfl (by rfl)) (RV.tmp S rfl)) ?_)
      (first | (unfold BothV; rw [if_pos (by unfold bothE; rw [if_pos (hc1 (by omega))]; exact hc2 (by omega))]; exact ⟨_, _, rfl, hpp.mono hF2, hpq⟩) | (have hbe : bothE s t = checkS x := (by unfold bothE; rcases hx0 with ⟨h8, rfl⟩ | ⟨h8, rfl⟩; (rw [if_neg h]); (rw [if_pos (hc1 (by omega))])); unfold BothV; rw [if_neg (by rw [hbe]; exact h), hbe]; rfl))
    (skip; (try simp only [tq] at h))
    refine wp_skip ?_
    (refine hKq6 _ _ ?_; try (clear hKq6 Kq6))
    refine wp_region_lit ?_
    (refine wpl_a S rfl rfl rfl ?_; clear S a; intro a S)
    (refine wpl_p S rfl rfl rfl ?_; clear S a; intro a S)
    refine wpList_nil ?_
    change ∃ m', _ ∧ _
    (refine ⟨2 - (i + 1), by omega, i + 1, rfl, by omega, ?_, ?_, ?_⟩; rotate_left 2; (refine S.keep ?_; repeat (first | exact trivial | refine ⟨rfl, ?_⟩)); (intro h8; rcases hx0 with ⟨h9, rfl⟩ | ⟨h9, rfl⟩; exact h; exact hc1 (by omega)); (intro h8; rcases hx0 with ⟨h9, rfl⟩ | ⟨h9, rfl⟩; omega; exact h))
  (skip; (try simp only [tq] at h))
  refine wp_exit ?_
  (refine hKq2 _ _ ?_; try (clear hKq2 Kq2))
  refine wp_sr fun Kq6 hKq6 => ?_
  (refine wpl_p S rfl rfl rfl ?_; clear S a; intro a S)
  (first | (refine wpl_callF S rfl rfl rfl rfl rfl rfl (ofCt t F1 hct) rfl ?_; clear S a; intro v2 F2 a w hv2 hF2 S; obtain ⟨pq, rfl, hpq⟩ := hv2; have hpq0 := hpq; obtain ⟨qo, qc, rfl, -, -⟩ := hpq0) | (refine wpl_callF S rfl rfl rfl rfl rfl rfl (ofCt s F (hc1 (by omega))) rfl ?_; clear S a; intro v F1 a w hv hF1 S; have hct := hc2 (by omega); obtain ⟨pp, rfl, hpp⟩ := hv; have hpp0 := hpp; obtain ⟨po, pc, rfl, -, -⟩ := hpp0))
  (refine wpl_p S rfl rfl rfl ?_; clear S a; intro a S)
  (first | (refine wpl_callF S rfl rfl rfl rfl rfl rfl (ofCt t F1 hct) rfl ?_; clear S a; intro v2 F2 a w hv2 hF2 S; obtain ⟨pq, rfl, hpq⟩ := hv2; have hpq0 := hpq; obtain ⟨qo, qc, rfl, -, -⟩ := hpq0) | (refine wpl_callF S rfl rfl rfl rfl rfl rfl (ofCt s F (hc1 (by omega))) rfl ?_; clear S a; intro v F1 a w hv hF1 S; have hct := hc2 (by omega); obtain ⟨pp, rfl, hpp⟩ := hv; have hpp0 := hpp; obtain ⟨po, pc, rfl, -, -⟩ := hpp0))
  iterate 2 (refine wpl_storeO S rfl rfl rfl rfl rfl (by rfl) (by simp [Value.cells, Value.oneCell', splice]) (by rfl) ?_; clear S; intro w S)
  (refine wpl_p S rfl rfl rfl ?_; clear S a; intro a S)
  (refine wpList_nil (hKq6 _ _ ?_); try clear hKq6 Kq6)
  refine wp_ret (fin_ret S (results3 Tryz.results70 (RV.cellO S rfl (by rfl)) (RV.cellO S rfl (by rfl)) (RV.tmp S rfl)) ?_)
  (first | (unfold BothV; rw [if_pos (by unfold bothE; rw [if_pos (hc1 (by omega))]; exact hc2 (by omega))]; exact ⟨_, _, rfl, hpp.mono hF2, hpq⟩) | (have hbe : bothE s t = checkS x := (by unfold bothE; rcases hx0 with ⟨h8, rfl⟩ | ⟨h8, rfl⟩; (rw [if_neg h]); (rw [if_pos (hc1 (by omega))])); unfold BothV; rw [if_neg (by rw [hbe]; exact h), hbe]; rfl))
end Go.Proofs.YtigblodhdfnleaaGreatDoor
namespace Go.Wk
open Go
set_option linter.unusedSimpArgs false
set_option linter.unusedVariables false
set_option linter.unusedVariables false
section
variable {P : Program} {n : Sz} {L : List (Nat × Value)} {w0 : World} {F0 : Heap} {K0 : List Nat} {F : Heap} {G : List Grp} {a : Act} {w : World} {o : Oper} {ops : Array Oper} {rest : List Oper} {Q : Exit → Act → World → Prop}

theorem wpl_callOwn {d : Nat} {x : Operand} {xs : Array Operand} {ts : Array TypeId} {f : FuncId} {fi ca vs args : List Value} {Gs Gr : List Grp} {Post : List Grp → Value → Prop} [hf : HasFn P f] (S : St n L w0 F0 K0 F G a w) (hg : o.guard = none) (hd : o.dst = some d) (hn : Nat.blt d n.sz = true)
    (ho : o.op = .call { callee := .value x, args := xs, argTypes := ts }) (hx : ev L x = some (.func (.func f) ⟨fi⟩ ⟨ca⟩)) (hxs : evs L xs.toList = some vs) (C : Ct P f args F Gs (fun _ G' u => Post G' u)) (ha : fi ++ vs ++ ca = args) (hp : G.flatten.Perm (Gs.flatten ++ Gr.flatten))
    (k : ∀ v G' a' w', Post G' v → St n ((d, v) :: L) w0 F0 K0 F (G' ++ Gr) a' w' → wpList P ops Q rest a' w') : wpList P ops Q (o :: rest) a w :=
  wpl_call S hg hd hn ho hx hxs C ha hp fun v F' G' a' w' hv hF S' => k v G' a' w' hv ⟨S'.fr, Tr.shrink S'.tr hF S.tr.ext⟩

theorem sv_eqPtrNil {x y : Operand} {t yt e : TypeId} [ht : Und P t (.pointer e)] (S : St n L w0 F0 K0 F G a w) (ho : o.op = .binOp .eql t x y yt) (hx : ev L x = some (.pointer none)) (hy : ev L y = some (.pointer none)) : SV P o a w (.bool true) := by
  unfold SV execOp
  rw [ho]
  have h1 : (eqGuard .eql t x y (.pointer none) (.pointer none)).run P w = .ok () w := rfl
  have hp : P.pointee t = e := by simp [Program.pointee, ht.h]
  have h2 := run_eql_pointer_nil (P := P) w t none (by rw [hp]; exact ht.h)
  simp only [S.fr.eval hx, S.fr.eval hy, Sem.run_bind, h1, Result.andThen_ok, h2, Sem.run_pure]
  rfl
theorem sv_eqPtrSome {x y : Operand} {t yt e : TypeId} {ad : Addr} [ht : Und P t (.pointer e)] (S : St n L w0 F0 K0 F G a w) (ho : o.op = .binOp .eql t x y yt) (hx : ev L x = some (.pointer (some ad))) (hy : ev L y = some (.pointer none)) : SV P o a w (.bool false) := by
  unfold SV execOp
  rw [ho]
  have h1 : (eqGuard .eql t x y (.pointer (some ad)) (.pointer none)).run P w = .ok () w := rfl
  have hp : P.pointee t = e := by simp [Program.pointee, ht.h]
  have h2 := run_eql_pointer_nil (P := P) w t (some ad) (by rw [hp]; exact ht.h)
  simp only [S.fr.eval hx, S.fr.eval hy, Sem.run_bind, h1, Result.andThen_ok, h2, Sem.run_pure]
  rfl
theorem sv_nePtrSame {x y : Operand} {t yt e : TypeId} {ad : Addr} {z : Value} {sz by_ : Nat} [ht : Und P t (.pointer e)] [hi : Inf P e z sz by_] (S : St n L w0 F0 K0 F G a w) (ho : o.op = .binOp .neq t x y yt) (hx : ev L x = some (.pointer (some ad))) (hy : ev L y = some (.pointer (some ad))) : SV P o a w (.bool false) := by
  obtain ⟨i, h1, _⟩ := hi.h
  unfold SV execOp
  rw [ho]
  have h2 : (eqGuard .neq t x y (.pointer (some ad)) (.pointer (some ad))).run P w = .ok () w := rfl
  simp [S.fr.eval hx, S.fr.eval hy, h2, Lib.run_neq_ptr_same w ad ht.h h1]

theorem shape_own {b : Nat} {c : List Value} {e : TypeId} {R} (S : St n L w0 F0 K0 F G a w) (hh : Has G b (.cells ⟨c⟩ e (0, 0)) R) : w.shape? b = some (e, c.length) := by
  have := S.has hh
  simp [World.shape?, this]
theorem sv_toUnsafe {x : Operand} {s t e1 : TypeId} {b : Nat} {c : List Value} {e : TypeId} {R} {z : Value} {sz by_ : Nat} [hs : Und P s (.pointer e1)] [ht : Und P t .unsafePointer] [hi : Inf P e1 z sz by_] [hh : Has G b (.cells ⟨c⟩ e (0, 0)) R] (S : St n L w0 F0 K0 F G a w) (ho : o.op = .convert s t x) (hx : ev L x = some (.pointer (some ⟨b, 0, none⟩)))
    (hsz : Nat.beq sz 0 = false) (hc : 0 < c.length) : SV P o a w (.pointer (some ⟨b, 0, none⟩)) := by
  obtain ⟨i, h1, h2, h3, h4⟩ := hi.h
  have hne : i.size ≠ 0 := fun h => by rw [h3] at h; subst h; simp at hsz
  unfold SV execOp
  rw [ho]
  simp [S.fr.eval hx, Lib.run_to_unsafe w ⟨b, 0, none⟩ hs.h ht.h h1 hne (shape_own S hh) hc]
theorem sv_fromUnsafe {x : Operand} {s t u : TypeId} {b : Nat} {c : List Value} {e : TypeId} {R} {z : Value} {sz by_ : Nat} [hs : Und P s .unsafePointer] [ht : Und P t (.pointer u)] [hi : Inf P u z sz by_] [hh : Has G b (.cells ⟨c⟩ e (0, 0)) R] (S : St n L w0 F0 K0 F G a w) (ho : o.op = .convert s t x) (hx : ev L x = some (.pointer (some ⟨b, 0, none⟩)))
    (hl : liesAt P P.depth e (c.length / P.cellsOf e) 0 u 1 = true) : SV P o a w (.pointer (some ⟨b, 0, none⟩)) := by
  obtain ⟨i, h1, _⟩ := hi.h
  unfold SV execOp
  rw [ho]
  simp [S.fr.eval hx, Lib.run_from_unsafe w ⟨b, 0, none⟩ hs.h ht.h h1 (shape_own S hh) hl]
/-- A function that hands back its argument, by the model's own entry. -/
class NoEsc (P : Program) (f : FuncId) : Prop where
  h : ∀ (x : Value) (w : World), (callFunc f #[x]).run P w = .ok (.value x) w
theorem sv_noEsc {x y : Operand} {ts : Array TypeId} {f : FuncId} {v : Value} [hf : NoEsc P f] (S : St n L w0 F0 K0 F G a w) (ho : o.op = .call { callee := .value x, args := #[y], argTypes := ts }) (hx : ev L x = some (.func (.func f) ⟨[]⟩ ⟨[]⟩)) (hy : ev L y = some v) : SV P o a w v := by
  unfold SV execOp
  rw [ho]
  simp [resolve, S.fr.eval hx, S.fr.eval hy, Deferred.ofValue, invoke, hf.h]
theorem sv_sliceData {x : Operand} {ts : Array TypeId} {ad : Addr} {q c : Nat} (S : St n L w0 F0 K0 F G a w) (ho : o.op = .call { callee := .builtin .unsafeSliceData, args := #[x], argTypes := ts }) (hx : ev L x = some (.slice (some ad) q c)) (hc : 0 < c) : SV P o a w (.pointer (some ad)) := by
  unfold SV execOp
  rw [ho]
  simp [resolve, invoke, builtin, S.fr.eval hx, Lib.run_unsafeSliceData_row w ts o.type ad q c (by omega)]

theorem freeze_heap (w : World) (b m : Nat) (c : Array Value) (e : TypeId) (hm : m ≠ 0) (h : w.heap[b]? = some (.cells c e (0, 0))) : (w.freeze ⟨b, 0, none⟩ m).heap[b]? = some (.cells c e (0, m)) := by
  obtain ⟨hlt, hk⟩ := Array.getElem?_eq_some_iff.1 h
  unfold World.freeze
  rw [if_neg hm]
  show (w.heap.modify b _)[b]? = _
  rw [Array.getElem?_eq_getElem (by rw [Array.size_modify]; exact hlt), Array.getElem_modify_self, hk]
  simp
theorem freeze_other (w : World) (b m k : Nat) (hk : k ≠ b) : (w.freeze ⟨b, 0, none⟩ m).heap[k]? = w.heap[k]? := by
  unfold World.freeze
  split
  · rfl
  · show (w.heap.modify b _)[k]? = _
    rw [Array.getElem?_modify, if_neg (fun e => hk e.symm)]
theorem freeze_size (w : World) (b m : Nat) : (w.freeze ⟨b, 0, none⟩ m).heap.size = w.heap.size ∧ (w.freeze ⟨b, 0, none⟩ m).os = w.os ∧ (w.freeze ⟨b, 0, none⟩ m).tape = w.tape ∧ (w.freeze ⟨b, 0, none⟩ m).output = w.output := by
  unfold World.freeze
  split
  · exact ⟨rfl, rfl, rfl, rfl⟩
  · exact ⟨Array.size_modify, rfl, rfl, rfl⟩

/-- The bytes of a row of the call's own, as a string; the row is let go. -/
theorem wpl_unsafeString {d : Nat} {x y : Operand} {pt it e : TypeId} {b cap q : Nat} {l : List UInt8} {g : Grp} {R} [hp : Und P pt (.pointer e)] (S : St n L w0 F0 K0 F G a w) (hg : o.guard = none) (hd : o.dst = some d) (hn : Nat.blt d n.sz = true)
    (ho : o.op = .call { callee := .builtin .unsafeString, args := #[x, y], argTypes := #[pt, it] }) (hx : ev L x = some (.pointer (some ⟨b, 0, none⟩))) (hy : ev L y = some (.int .i64 (Int.ofNat q)))
    (hown : OwnS e 1 (.slice (some ⟨b, 0, none⟩) q cap) q (l.map fun c => Value.int .u8 c.toNat) g) [hN : Nth G g R] (hc : P.cellsOf e = 1) (h0 : 0 < q) (h63 : q ≤ 9223372036854775807)
    (k : ∀ a' w', St n ((d, .string (bs l)) :: L) w0 F0 K0 F (R []) a' w' → wpList P ops Q rest a' w') : wpList P ops Q (o :: rest) a w := by
  obtain ⟨ex, rfl, h1, h2, h3, h4⟩ := hown.block
  obtain ⟨G1, G2, e1, hR⟩ := hN.h
  rw [List.length_map] at h3
  have ht := S.tr
  rw [e1] at ht
  have hb := (ht.own (b, _) (by simp only [List.flatten_append, List.flatten_cons]; exact List.mem_append_right _ (List.mem_append_left _ (List.mem_singleton.2 rfl)))).1
  have hlne : l ≠ [] := fun e => by rw [e] at h3; simp at h3; omega
  have hr := Lib.run_unsafeString_row (P := P) w pt it o.type e hp.h hc b (((l.map fun c => Value.int .u8 c.toNat) ++ ex).length) (by simp only [World.shape?, hb]; rfl) l hlne (by simp) (by omega) (fun j u hj => by
    rw [addr_add, Nat.zero_add]
    refine cell_of_heap hb ?_
    simp only [List.getElem?_toArray]
    rw [List.getElem?_append_left (by rw [List.length_map]; exact (List.getElem?_eq_some_iff.1 hj).1), List.getElem?_map, hj]; rfl)
  have hq : ((l.length : Nat) : Int) = Int.ofNat q := by rw [h3]; rfl
  rw [hq] at hr
  refine wpList_plain hg fun K hK => ?_
  unfold Oper.wp execOp
  rw [ho]
  simp [resolve, invoke, builtin, S.fr.eval hx, S.fr.eval hy]
  simp only [Int.ofNat_eq_natCast] at hr
  rw [hr, Result.andThen_ok, Oper.upon_value, hd]
  have hz := freeze_size w b l.length
  have ht2 := ht.write (w' := w.freeze ⟨b, 0, none⟩ l.length) hz.2.1 hz.2.2.1 hz.2.2.2 hz.1 (freeze_heap w b l.length _ e (by simpa using hlne) hb) (fun k hk => freeze_other w b _ k hk)
  refine hK _ _ (k _ _ ⟨S.fr.put _ hn, ?_⟩)
  rw [hR]
  exact ht2.sub (by simp only [List.flatten_append, List.flatten_cons, List.nil_append]; exact List.Sublist.append_left (List.sublist_append_right _ _) _)
end
end Go.Wk
namespace Go.Proofs.YtigblodhdfnleaaGreatDoor
open Go Go.Wk Go.Num
set_option linter.unusedSimpArgs false
set_option linter.unusedVariables false
attribute [local irreducible] Go.wpList Go.Code.wp Go.wpStill Go.Wk.wpPre Go.bodyPost Go.Calls Go.Wk.Ct Go.Wk.OwnS
attribute [local irreducible] Go.Wk.wpG

instance : NoEsc Tryz.prog 146 := ⟨fun x w => by
  rw [run_callFunc_extern Tryz.func146 (by kernel_rfl) (by kernel_rfl) (by kernel_rfl) (e := Extern.AbiNoEscape.same) (by kernel_rfl), Lib.run_noEscape]
  rfl⟩
/-- The builder's own block: never written, or written. -/
def bldG (b : Nat) (p v : Value) : Grp := [(b, .cells ⟨[p, v]⟩ 132 (0, 0))]
def bldP (b : Nat) (p : Value) : Prop := p = .pointer none ∨ p = .pointer (some ⟨b, 0, none⟩)

set_option maxHeartbeats 1000000 in
theorem copyCheck0 (b : Nat) (v : Value) (F : Heap) : Ct Tryz.prog 120 [.pointer (some ⟨b, 0, none⟩)] F [[(b, .cells ⟨[.pointer none, v]⟩ 132 (0, 0))]] (fun _ G' _ => G' = [[(b, .cells ⟨[.pointer (some ⟨b, 0, none⟩), v]⟩ 132 (0, 0))]]) := by
  refine Ct.enter Tryz.func120 rfl Tryz.ntmps120 rfl fun w0 a S => ?_
  refine wp_sr fun Kq1 hKq1 => ?_
  (refine wpl_p S rfl rfl rfl ?_; clear S a; intro a S)
  (refine wpl_s S rfl rfl rfl ?_; clear S a; intro a S)
  (refine wpl_f S rfl rfl rfl ?_; clear S a; intro a S)
  (refine wpl_l S rfl rfl rfl ?_; clear S a; intro a S)
  (refine wpl_v S rfl rfl rfl (sv_eqPtrNil S rfl rfl rfl) ?_; clear S a; intro a S)
  (refine wpList_nil (hKq1 _ _ ?_); try clear hKq1 Kq1)
  refine wpc_split S rfl (fun h => ?_) (fun h => ?_)
  · (skip; (try simp only [tq] at h))
    refine wp_region_lit ?_
    iterate 2 (refine wpl_p S rfl rfl rfl ?_; clear S a; intro a S)
    (refine wpl_v S rfl rfl rfl (sv_toUnsafe S rfl rfl rfl (by simp)) ?_; clear S a; intro a S)
    (refine wpl_v S rfl rfl rfl (sv_noEsc S rfl rfl rfl) ?_; clear S a; intro a S)
    (refine wpl_v S rfl rfl rfl (sv_fromUnsafe S rfl rfl (by kernel_rfl)) ?_; clear S a; intro a S)
    (refine wpl_s S rfl rfl rfl ?_; clear S a; intro a S)
    (refine wpl_f S rfl rfl rfl ?_; clear S a; intro a S)
    (refine wpl_store1 S rfl rfl rfl rfl rfl rfl (by first | (simp; done) | (simp [Value.cells]; done) | exact Nat.le_of_ble_eq_true rfl) ?_; clear S; intro w S)
    refine wpList_nil ?_
    refine fin_end S (results0 Tryz.results120) ?_
    rfl
  (skip; (try simp only [tq] at h); cases h)
set_option maxHeartbeats 1000000 in
theorem copyCheck1 (b : Nat) (v : Value) (F : Heap) : Ct Tryz.prog 120 [.pointer (some ⟨b, 0, none⟩)] F [[(b, .cells ⟨[.pointer (some ⟨b, 0, none⟩), v]⟩ 132 (0, 0))]] (fun _ G' _ => G' = [[(b, .cells ⟨[.pointer (some ⟨b, 0, none⟩), v]⟩ 132 (0, 0))]]) := by
  refine Ct.enter Tryz.func120 rfl Tryz.ntmps120 rfl fun w0 a S => ?_
  refine wp_sr fun Kq1 hKq1 => ?_
  (refine wpl_p S rfl rfl rfl ?_; clear S a; intro a S)
  (refine wpl_s S rfl rfl rfl ?_; clear S a; intro a S)
  (refine wpl_f S rfl rfl rfl ?_; clear S a; intro a S)
  (refine wpl_l S rfl rfl rfl ?_; clear S a; intro a S)
  (refine wpl_v S rfl rfl rfl (sv_eqPtrSome S rfl rfl rfl) ?_; clear S a; intro a S)
  (refine wpList_nil (hKq1 _ _ ?_); try clear hKq1 Kq1)
  refine wpc_split S rfl (fun h => ?_) (fun h => ?_)
  · (skip; (try simp only [tq] at h); cases h)
  (skip; (try simp only [tq] at h))
  refine wp_sr fun Kq2 hKq2 => ?_
  (refine wpl_p S rfl rfl rfl ?_; clear S a; intro a S)
  (refine wpl_s S rfl rfl rfl ?_; clear S a; intro a S)
  (refine wpl_f S rfl rfl rfl ?_; clear S a; intro a S)
  (refine wpl_l S rfl rfl rfl ?_; clear S a; intro a S)
  (refine wpl_p S rfl rfl rfl ?_; clear S a; intro a S)
  (refine wpl_v S rfl rfl rfl (sv_nePtrSame S rfl rfl rfl) ?_; clear S a; intro a S)
  (refine wpList_nil (hKq2 _ _ ?_); try clear hKq2 Kq2)
  refine wpc_split S rfl (fun h => ?_) (fun h => ?_)
  · (skip; (try simp only [tq] at h); cases h)
  (skip; (try simp only [tq] at h))
  refine wp_skip ?_
  refine fin_end S (results0 Tryz.results120) ?_
  rfl
theorem copyCheckCt (b : Nat) (p v : Value) (F : Heap) (hp : bldP b p) : Ct Tryz.prog 120 [.pointer (some ⟨b, 0, none⟩)] F [bldG b p v] (fun _ G' _ => G' = [bldG b (.pointer (some ⟨b, 0, none⟩)) v]) := by
  rcases hp with rfl | rfl
  · exact copyCheck0 b v F
  · exact copyCheck1 b v F

def u8c (l : List UInt8) : List Value := l.map fun c => Value.int .u8 c.toNat
set_option maxHeartbeats 1000000 in
theorem writeStringCt (b : Nat) (p v : Value) (k : Nat) (l s : List UInt8) (g : Grp) (F : Heap) (hp : bldP b p) (hown : OwnS 5 1 v k (u8c l) g) (hs : 0 < s.length) (hk : k + s.length ≤ 1000000000) :
    Ct Tryz.prog 98 [.pointer (some ⟨b, 0, none⟩), .string (bs s)] F [bldG b p v, g] (fun _ G' _ => ∃ v' g', G' = [bldG b (.pointer (some ⟨b, 0, none⟩)) v', g'] ∧ OwnS 5 1 v' (k + s.length) (u8c (l ++ s)) g') := by
  refine Ct.enter Tryz.func98 rfl Tryz.ntmps98 rfl fun w0 a S => ?_
  refine wp_sr fun Kq1 hKq1 => ?_
  iterate 2 (refine wpl_p S rfl rfl rfl ?_; clear S a; intro a S)
  (refine wpList_nil (hKq1 _ _ (wp_sr fun Kq2 hKq2 => ?_)); try clear hKq1 Kq1)
  (refine wpl_p S rfl rfl rfl ?_; clear S a; intro a S)
  (refine wpl_callOwn (Gs := [bldG b p v]) (Gr := [g]) S rfl rfl rfl rfl rfl rfl (copyCheckCt b p v F hp) rfl (by simp) ?_; clear S a; intro u G1 a w hv1 S; subst hv1; replace S : St _ _ _ _ _ _ [[(b, .cells ⟨[.pointer (some ⟨b, 0, none⟩), v]⟩ 132 (0, 0))], g] _ _ := S)
  (refine wpList_nil (hKq2 _ _ (wp_sr fun Kq3 hKq3 => ?_)); try clear hKq2 Kq2)
  iterate 2 (refine wpl_p S rfl rfl rfl ?_; clear S a; intro a S)
  (refine wpl_s S rfl rfl rfl ?_; clear S a; intro a S)
  (refine wpl_f S rfl rfl rfl ?_; clear S a; intro a S)
  (refine wpl_l S rfl rfl rfl ?_; clear S a; intro a S)
  (refine wpl_p S rfl rfl rfl ?_; clear S a; intro a S)
  (refine wpl_appendStr S rfl rfl rfl rfl rfl rfl hown (by rfl) (by omega) (by omega) (by omega) ?_; clear hown S a; intro v1 g1 a w hown S)
  (refine wpl_s S rfl rfl rfl ?_; clear S a; intro a S)
  (refine wpl_f S rfl rfl rfl ?_; clear S a; intro a S)
  (refine wpl_store1 S rfl rfl rfl rfl rfl hown.oneCell (by simp) ?_; clear S; intro w S)
  (refine wpList_nil (hKq3 _ _ (wp_sr fun Kq4 hKq4 => ?_)); try clear hKq3 Kq3)
  (refine wpl_p S rfl rfl rfl ?_; clear S a; intro a S)
  (refine wpl_s S rfl rfl rfl ?_; clear S a; intro a S)
  iterate 2 (refine wpl_p S rfl rfl rfl ?_; clear S a; intro a S)
  (refine wpList_nil (hKq4 _ _ ?_); try clear hKq4 Kq4)
  refine wp_ret (fin_ret S (results2 Tryz.results98 (RV.tmp S rfl) (RV.tmp S rfl)) ?_)
  (refine ⟨_, _, rfl, ?_⟩; unfold u8c; rw [List.map_append]; exact hown)
set_option maxHeartbeats 1000000 in
theorem bldLenCt (b : Nat) (p v : Value) (k : Nat) (l : List UInt8) (g : Grp) (F : Heap) (hown : OwnS 5 1 v k (u8c l) g) :
    Ct Tryz.prog 99 [.pointer (some ⟨b, 0, none⟩)] F [bldG b p v, g] (fun _ G' u => u = .int .i64 k ∧ G' = [bldG b p v, g]) := by
  obtain ⟨ao, cap, rfl, -, -, -⟩ := hown.at
  (refine Ct.enter Tryz.func99 rfl Tryz.ntmps99 rfl fun w0 a S => ?_); replace S : St _ _ _ _ _ _ [[(b, .cells ⟨[p, .slice ao k cap]⟩ 132 (0, 0))], g] _ _ := S
  refine wp_sr fun Kq1 hKq1 => ?_
  (refine wpl_p S rfl rfl rfl ?_; clear S a; intro a S)
  (refine wpList_nil (hKq1 _ _ (wp_sr fun Kq2 hKq2 => ?_)); try clear hKq1 Kq1)
  (refine wpl_p S rfl rfl rfl ?_; clear S a; intro a S)
  (refine wpl_s S rfl rfl rfl ?_; clear S a; intro a S)
  (refine wpl_f S rfl rfl rfl ?_; clear S a; intro a S)
  (refine wpl_l S rfl rfl rfl ?_; clear S a; intro a S)
  (refine wpl_n S rfl rfl rfl ?_; clear S a; intro a S)
  (refine wpl_p S rfl rfl rfl ?_; clear S a; intro a S)
  (refine wpList_nil (hKq2 _ _ ?_); try clear hKq2 Kq2)
  refine wp_ret (fin_ret S (results1 Tryz.results99 (RV.tmp S rfl)) ?_)
  exact ⟨rfl, rfl⟩
set_option maxHeartbeats 1000000 in
theorem bldStringCt (b : Nat) (p v : Value) (k : Nat) (l : List UInt8) (g : Grp) (F : Heap) (hk : k ≤ 1000000000) (h0 : 0 < k) (hown : OwnS 5 1 v k (u8c l) g) :
    Ct Tryz.prog 100 [.pointer (some ⟨b, 0, none⟩)] F [bldG b p v, g] (fun _ _ u => u = .string (bs l)) := by
  obtain ⟨ao, cap, rfl, hcap, -, hpos⟩ := hown.at
  obtain ⟨br, rfl⟩ := hpos h0
  (refine Ct.enter Tryz.func100 rfl Tryz.ntmps100 rfl fun w0 a S => ?_); replace S : St _ _ _ _ _ _ [[(b, .cells ⟨[p, .slice (some ⟨br, 0, none⟩) k cap]⟩ 132 (0, 0))], g] _ _ := S
  refine wp_sr fun Kq1 hKq1 => ?_
  (refine wpl_p S rfl rfl rfl ?_; clear S a; intro a S)
  (refine wpList_nil (hKq1 _ _ (wp_seq_k fun Kq2 hKq2 => ?_)); try clear hKq1 Kq1)
  (refine wpc_mixL [0, 1, 2, 3, 4, 5, 6, 7, 8, 9] [3, 4, 8, 9] [b] S mixed (by kernel_rfl) ?_; clear S; intro w S)
  refine wppk_one rfl rfl ?_
  (refine wpp_v S rfl rfl rfl rfl (fun _ S => sv_pure S rfl) ?_; clear S a; intro a S)
  refine wpp_nil ?_
  refine wppk_one rfl rfl ?_
  (refine wpp_v S rfl rfl rfl rfl (fun _ S => sv_nilCheck S rfl rfl) ?_; clear S a; intro a S)
  refine wpp_nil ?_
  refine wppk_one rfl rfl ?_
  (refine wpp_v S rfl rfl rfl rfl (fun _ S => sv_fieldAddr S rfl rfl rfl inferInstance rfl) ?_; clear S a; intro a S)
  refine wpp_nil ?_
  first | (refine wppk_late S rfl rfl rfl rfl rfl (fun w' hw => hw.1) (fun w' S => sv_loadO S rfl rfl (by rfl)) ?_; clear S a; intro a S) | (refine wppk_late S rfl rfl rfl rfl rfl (fun w' hw => hw.1) (fun w' S => sv_loadAO S rfl rfl (by rfl)) ?_; clear S a; intro a S)
  (refine wppk_late S rfl rfl rfl rfl rfl (fun w' hw => hw.1) (fun w' S => sv_sliceData S rfl rfl (by omega)) ?_; clear S a; intro a S)
  refine wppk_one rfl rfl ?_
  (refine wpp_v S rfl rfl rfl rfl (fun _ S => sv_pure S rfl) ?_; clear S a; intro a S)
  refine wpp_nil ?_
  refine wppk_one rfl rfl ?_
  (refine wpp_v S rfl rfl rfl rfl (fun _ S => sv_nilCheck S rfl rfl) ?_; clear S a; intro a S)
  refine wpp_nil ?_
  refine wppk_one rfl rfl ?_
  (refine wpp_v S rfl rfl rfl rfl (fun _ S => sv_fieldAddr S rfl rfl rfl inferInstance rfl) ?_; clear S a; intro a S)
  refine wpp_nil ?_
  first | (refine wppk_late S rfl rfl rfl rfl rfl (fun w' hw => hw.1) (fun w' S => sv_loadO S rfl rfl (by rfl)) ?_; clear S a; intro a S) | (refine wppk_late S rfl rfl rfl rfl rfl (fun w' hw => hw.1) (fun w' S => sv_loadAO S rfl rfl (by rfl)) ?_; clear S a; intro a S)
  (refine wppk_late S rfl rfl rfl rfl rfl (fun w' hw => hw.1) (fun w' S => sv_lenSl S rfl rfl) ?_; clear S a; intro a S)
  refine wplk_one rfl ⟨S.has inferInstance, trivial⟩ ?_
  (refine wpl_unsafeString S rfl rfl rfl rfl rfl rfl hown (by kernel_rfl) h0 (by omega) ?_; clear S a; intro a w S)
  refine wpList_nil ?_
  refine wplk_one rfl ⟨S.has inferInstance, trivial⟩ ?_
  (refine wpl_p S rfl rfl rfl ?_; clear S a; intro a S)
  refine wpList_nil ?_
  refine wplk_nil ⟨S.has inferInstance, trivial⟩ ?_
  (refine hKq2 _ _ ?_; try (clear hKq2 Kq2))
  exact wp_ret (fin_ret S (results1 Tryz.results100 (RV.tmp S rfl)) rfl)
end Go.Proofs.YtigblodhdfnleaaGreatDoor
namespace Go.Wk
open Go
set_option linter.unusedVariables false
set_option linter.unusedSimpArgs false
set_option linter.unusedSectionVars false

/-- Keys of one kind. -/
class KeyK (d : TypeDesc) {α : Type} [DecidableEq α] (enc : α → Value) : Prop where
  same : ∀ a b, Instr.sameNow d (enc a) (enc b) = some (decide (a = b))
  bits : ∀ a, Instr.sameBits 10000 (enc a) (enc a) = true
  chk : ∀ (P : Program) (w : World) (t : TypeId) (em : Bool) (a : α), P.underlying t = some d → (Instr.checkKey em 10000 t (enc a)).run P w = .ok () w
def kS (l : List UInt8) : Value := .string (bs l)
theorem bs_beq (a b : List UInt8) : (bs a == bs b) = decide (a = b) := by
  show ((⟨a⟩ : Array UInt8) == ⟨b⟩) = _
  rw [Bool.eq_iff_iff]; simp
instance : KeyK .string kS where
  same a b := by
    simp only [Instr.sameNow, kS, bs_beq]
  bits a := by simp [Instr.sameBits, kS, bs_beq]
  chk P w t em a h := by
    rw [Instr.checkKey]
    simp [run_underlying h, kS]

section
variable {α : Type} [DecidableEq α]
/-- The entries, as they were born. -/
def mEnt (enc : α → Value) : Nat → List (α × Value) → List MapEntry
  | _, [] => []
  | n, (k, v) :: r => { key := enc k, val := v, born := n } :: mEnt enc (n + 1) r
def mObj (enc : α → Value) (es : List (α × Value)) : Obj := .map ⟨mEnt enc 0 es⟩ es.length
def mGet (es : List (α × Value)) (k : α) : Option Value := (es.find? fun p => decide (k = p.1)).map (·.2)
/-- An entry is turned, or put behind. -/
def mSet : List (α × Value) → α → Value → List (α × Value)
  | [], k, v => [(k, v)]
  | (a, u) :: r, k, v => if k = a then (a, v) :: r else (a, u) :: mSet r k v
theorem mSet_new {es : List (α × Value)} {k : α} {v : Value} (h : mGet es k = none) : mSet es k v = es ++ [(k, v)] := by
  induction es with
  | nil => rfl
  | cons p r ih =>
    obtain ⟨a, u⟩ := p
    unfold mGet at h ih
    by_cases hk : k = a
    · subst hk; simp at h
    · simp only [List.find?_cons, hk, decide_false] at h
      unfold mSet
      rw [if_neg hk, ih h]; rfl
theorem findNow_ent {d : TypeDesc} {enc : α → Value} [hk : KeyK d enc] (k : α) : ∀ (es : List (α × Value)) (n i : Nat),
    Instr.findNow d (enc k) (mEnt enc n es) i = some ((es.findIdx? fun p => decide (k = p.1)).map fun j => (i + j, ((es[j]?).map (·.2)).getD undef))
  | [], _, _ => rfl
  | (a, u) :: r, n, i => by
    rw [mEnt, Instr.findNow, hk.same]
    by_cases h : k = a
    · subst h; simp [List.findIdx?_cons]
    · have := findNow_ent (d := d) (enc := enc) k r (n + 1) (i + 1)
      simp only [h, decide_false]
      rw [this]
      simp only [List.findIdx?_cons, h, decide_false, Bool.false_eq_true, if_false, Option.map_map]
      congr 1
      cases hf : List.findIdx? (fun p => decide (k = p.1)) r with
      | none => rfl
      | some j => simp [Nat.add_assoc, Nat.add_comm 1 j]
theorem mGet_idx (es : List (α × Value)) (k : α) : mGet es k = (es.findIdx? fun p => decide (k = p.1)).bind fun j => (es[j]?).map (·.2) := by
  induction es with
  | nil => rfl
  | cons p r ih =>
    obtain ⟨a, u⟩ := p
    unfold mGet at ih ⊢
    by_cases h : k = a
    · subst h; simp [List.findIdx?_cons]
    · simp only [List.find?_cons, h, decide_false, List.findIdx?_cons, Bool.false_eq_true, if_false]
      rw [ih]
      cases List.findIdx? (fun p => decide (k = p.1)) r <;> simp
theorem mEnt_append (enc : α → Value) : ∀ (n : Nat) (es : List (α × Value)) (k : α) (v : Value), mEnt enc n (es ++ [(k, v)]) = mEnt enc n es ++ [{ key := enc k, val := v, born := n + es.length }]
  | n, [], k, v => rfl
  | n, _ :: r, k, v => by simp [mEnt, mEnt_append enc (n + 1) r k v, Nat.add_assoc, Nat.add_comm 1]
theorem mEnt_modify (enc : α → Value) (k : α) (v : Value) : ∀ (n : Nat) (es : List (α × Value)) (j : Nat), (es.findIdx? fun p => decide (k = p.1)) = some j →
    (mEnt enc n es).modify j (fun e => { e with key := enc k, val := v }) = mEnt enc n (mSet es k v) ∧ ((mEnt enc n es)[j]?).map (·.key) = some (enc k) ∧ (mSet es k v).length = es.length
  | n, [], j, h => by cases h
  | n, (a, u) :: r, j, h => by
    rw [List.findIdx?_cons] at h
    by_cases hk : k = a
    · subst hk
      simp at h
      subst h
      simp [mEnt, mSet]
    · simp only [hk, decide_false, Bool.false_eq_true, if_false] at h
      cases hf : List.findIdx? (fun p => decide (k = p.1)) r with
      | none => rw [hf] at h; cases h
      | some i =>
        rw [hf] at h
        simp at h
        subst h
        obtain ⟨h1, h2, h3⟩ := mEnt_modify enc k v (n + 1) r i hf
        unfold mSet
        rw [if_neg hk]
        simp [mEnt, h1, h2, h3]

variable {P : Program} {n : Sz} {L : List (Nat × Value)} {w0 : World} {F0 : Heap} {K0 : List Nat} {F : Heap} {G : List Grp} {a : Act} {w : World} {ops : Array Oper} {Q : Exit → Act → World → Prop} {rest : List Oper} {o : Oper}

theorem run_findKey {d : TypeDesc} {enc : α → Value} [hk : KeyK d enc] {kt : TypeId} (h : P.underlying kt = some d) (w : World) (es : List (α × Value)) (k : α) :
    (Instr.findKey kt (enc k) (mEnt enc 0 es)).run P w = .ok ((es.findIdx? fun p => decide (k = p.1)).map fun j => (j, ((es[j]?).map (·.2)).getD undef)) w := by
  unfold Instr.findKey
  simp only [Sem.run_bind, run_underlying h, Result.andThen_ok, findNow_ent (d := d) k es 0 0, Nat.zero_add]
  rfl
theorem run_getMap {w : World} {b : Nat} {es : Array MapEntry} {c : Nat} (h : w.heap[b]? = some (.map es c)) : (getObj b).run P w = .ok (.map es c) w := by simp [getObj, Sem.run, h]
theorem run_lookupM {d : TypeDesc} {enc : α → Value} [hk : KeyK d enc] {t kt e : TypeId} {z : Value} {sz by_ : Nat} {b : Nat} (ht : Und P t (.map kt e)) (hd : P.underlying kt = some d) (hi : Inf P e z sz by_) {w : World} {es : List (α × Value)} (hb : w.heap[b]? = some (mObj enc es)) (k : α) (ok : Bool) :
    (Instr.lookup t (.map (some b)) (enc k) ok).run P w = .ok (if ok then .tuple #[(mGet es k).getD z, .bool (mGet es k).isSome] else (mGet es k).getD z) w := by
  unfold Instr.lookup
  have hg := run_getMap (P := P) hb
  have hc := hk.chk P w kt (mEnt enc 0 es).toArray.isEmpty k hd
  simp only [Sem.run_bind, run_underlying ht.h, Result.andThen_ok, hg, Sem.run_pure, hc, run_findKey (d := d) hd w es k]
  rw [mGet_idx]
  cases hf : List.findIdx? (fun p => decide (k = p.1)) es with
  | none => simp [run_zero hi]
  | some j =>
    have hj : j < es.length := (List.findIdx?_eq_some_iff_findIdx_eq.1 hf).1
    simp [List.getElem?_eq_getElem hj]

theorem sv_lookupF {d : TypeDesc} {enc : α → Value} [hk : KeyK d enc] {x y : Operand} {t kt e : TypeId} {z : Value} {sz by_ : Nat} {b : Nat} {es : List (α × Value)} {k : α} {ok : Bool} [ht : Und P t (.map kt e)] [hd : Und P kt d] [hi : Inf P e z sz by_]
    (S : St n L w0 F0 K0 F G a w) (ho : o.op = .lookup t x y ok) (hx : ev L x = some (.map (some b))) (hy : ev L y = some (enc k)) (hb : F b = some (mObj enc es)) : SV P o a w (if ok then .tuple #[(mGet es k).getD z, .bool (mGet es k).isSome] else (mGet es k).getD z) := by
  unfold SV execOp
  rw [ho]
  simp [S.fr.eval hx, S.fr.eval hy, run_lookupM (d := d) ht hd.h hi (S.tr.frz _ _ hb) k ok]
/-- A map is made. -/
theorem wpl_makeMap {d : Nat} {t : TypeId} (enc : α → Value) (S : St n L w0 F0 K0 F G a w) (hg : o.guard = none) (hd : o.dst = some d) (ho : o.op = .makeMap t none) (hn : Nat.blt d n.sz = true)
    (k : ∀ b a' w', St n ((d, .map (some b)) :: L) w0 F0 K0 F ([(b, mObj enc [])] :: G) a' w' → wpList P ops Q rest a' w') : wpList P ops Q (o :: rest) a w := by
  refine wpList_plain hg fun K hK => ?_
  unfold Oper.wp execOp
  rw [ho]
  have hr : (Instr.makeMap t none).run P w = .ok (.map (some w.heap.size)) (w.alloc (mObj enc [])) := rfl
  simp only [Sem.run_bind, Option.map_none, hr, Result.andThen_ok, Sem.run_pure, Oper.upon_value, hd]
  exact hK _ _ (k _ _ _ (S.alloc _ hn _))
end
end Go.Wk
namespace Go.Un
open Go Go.Wk
set_option linter.unusedSimpArgs false
set_option linter.unusedVariables false

/-- A list of types: the first one's name, its parts, the others. -/
inductive Fo where
  | nil
  | cons (nm : List UInt8) (ar r : Fo)
  deriving DecidableEq
namespace Fo
def len : Fo → Nat
  | nil => 0
  | cons _ _ r => r.len + 1
def get? : Fo → Nat → Option (List UInt8 × Fo)
  | nil, _ => none
  | cons nm ar r, 0 => some (nm, ar)
  | cons nm ar r, k + 1 => r.get? k
def size : Fo → Nat
  | nil => 0
  | cons _ ar r => ar.size + r.size + 1
def drop (l : Fo) : Nat → Fo
  | 0 => l
  | k + 1 => match l.drop k with | nil => nil | cons _ _ r => r
theorem get_lt : ∀ {l : Fo} {k : Nat}, k < l.len → ∃ x, l.get? k = some x
  | cons nm ar r, 0, _ => ⟨_, rfl⟩
  | cons nm ar r, k + 1, h => get_lt (l := r) (by simpa [len] using h)
theorem lt_get : ∀ {l : Fo} {k : Nat} {x}, l.get? k = some x → k < l.len
  | cons nm ar r, 0, x, h => by simp [len]
  | cons nm ar r, k + 1, x, h => by have := lt_get (l := r) h; simp [len]; omega
theorem drop_step (nm : List UInt8) (ar r : Fo) : ∀ k, (cons nm ar r).drop (k + 1) = r.drop k
  | 0 => rfl
  | k + 1 => by
    show (match (cons nm ar r).drop (k + 1) with | nil => nil | cons _ _ r => r) = _
    rw [drop_step nm ar r k]; rfl
theorem drop_nil : ∀ k, nil.drop k = nil
  | 0 => rfl
  | k + 1 => by show (match nil.drop k with | nil => nil | cons _ _ r => r) = nil; rw [drop_nil k]
theorem drop_get : ∀ {l : Fo} {k : Nat} {x}, l.get? k = some x → l.drop k = .cons x.1 x.2 (l.drop (k + 1))
  | cons nm ar r, 0, x, h => by cases h; rfl
  | cons nm ar r, k + 1, x, h => by rw [drop_step, drop_step]; exact drop_get (l := r) h
theorem drop_len : ∀ {l : Fo} {k : Nat}, l.len ≤ k → l.drop k = .nil
  | nil, k, _ => drop_nil k
  | cons nm ar r, 0, h => by simp [len] at h
  | cons nm ar r, k + 1, h => by rw [drop_step]; exact drop_len (l := r) (by simpa [len] using h)
theorem len_size : ∀ l : Fo, l.len ≤ l.size
  | nil => Nat.le_refl _
  | cons _ ar r => by have := len_size r; simp only [len, size]; omega
theorem size_get : ∀ {l : Fo} {k : Nat} {x}, l.get? k = some x → x.2.size < l.size
  | cons nm ar r, 0, x, h => by cases h; simp [size]; omega
  | cons nm ar r, k + 1, x, h => by have := size_get (l := r) h; simp [size]; omega
end Fo
abbrev ptr (b : Nat) : Value := .pointer (some ⟨b, 0, none⟩)
/-- A list of types lies at a place. -/
def FoM (F : Heap) : Fo → Nat → Nat → Prop
  | .nil, _, _ => True
  | .cons nm ar r, b, off => Cel F b off (.string (bs nm)) ∧
      (∃ ao cap, Cel F b (off + 1) (.slice ao ar.len cap) ∧ (ar.len ≤ cap ∧ ar.len ≤ 9223372036854775807) ∧ (0 < ar.len → ∃ b' o', ao = some ⟨b', o', none⟩ ∧ FoM F ar b' o')) ∧ FoM F r b (off + 2)
def SlF (F : Heap) (v : Value) (l : Fo) : Prop := ∃ ao cap, v = .slice ao l.len cap ∧ (l.len ≤ cap ∧ l.len ≤ 9223372036854775807) ∧ (0 < l.len → ∃ b o, ao = some ⟨b, o, none⟩ ∧ FoM F l b o)
/-- The cells of a type. -/
def TyC (F : Heap) (cs : List Value) (nm : List UInt8) (ar : Fo) : Prop := ∃ v, cs = [.string (bs nm), v] ∧ SlF F v ar
theorem FoM.mono {F F' : Heap} (hF : ∀ b o, F b = some o → F' b = some o) : ∀ {l : Fo} {b off : Nat}, FoM F l b off → FoM F' l b off
  | .nil, _, _, _ => trivial
  | .cons nm ar r, b, off, ⟨h1, ⟨ao, cap, h2, h3, h4⟩, h5⟩ => ⟨h1.mono hF, ⟨ao, cap, h2.mono hF, h3, fun h => by
      obtain ⟨b', o', e, h6⟩ := h4 h
      exact ⟨b', o', e, FoM.mono hF h6⟩⟩, FoM.mono hF h5⟩
theorem SlF.mono {F F' : Heap} (hF : ∀ b o, F b = some o → F' b = some o) {v : Value} {l : Fo} (h : SlF F v l) : SlF F' v l := by
  obtain ⟨ao, cap, h1, h2, h3⟩ := h
  exact ⟨ao, cap, h1, h2, fun h => by obtain ⟨b, o, e, h6⟩ := h3 h; exact ⟨b, o, e, h6.mono hF⟩⟩
theorem TyC.mono {F F' : Heap} (hF : ∀ b o, F b = some o → F' b = some o) {cs : List Value} {nm : List UInt8} {ar : Fo} (h : TyC F cs nm ar) : TyC F' cs nm ar := by
  obtain ⟨v, h1, h2⟩ := h; exact ⟨v, h1, h2.mono hF⟩
theorem SlF.nil (F : Heap) : SlF F (.slice none 0 0) .nil := ⟨none, 0, rfl, ⟨Nat.le_refl _, by decide⟩, fun h => absurd h (by decide)⟩
/-- Of the k-th of them: its cells. -/
theorem FoM.at {F : Heap} : ∀ {l : Fo} {b off k : Nat} {x}, FoM F l b off → l.get? k = some x → ∃ cs, Cels F b (off + k * 2) cs ∧ cs.length = 2 ∧ TyC F cs x.1 x.2
  | .cons nm ar r, b, off, 0, x, ⟨h1, ⟨ao, cap, h2, h3, h4⟩, h5⟩, h => by
    cases h
    refine ⟨[.string (bs nm), .slice ao ar.len cap], fun j v hj => ?_, rfl, _, rfl, ao, cap, rfl, h3, h4⟩
    rcases j with - | j
    · cases hj; simpa using h1
    rcases j with - | j
    · cases hj; simpa using h2
    · simp at hj
  | .cons nm ar r, b, off, k + 1, x, ⟨h1, h2, h5⟩, h => by
    obtain ⟨cs, h6, h7, h8⟩ := FoM.at (l := r) h5 h
    refine ⟨cs, ?_, h7, h8⟩
    rw [show off + (k + 1) * 2 = off + 2 + k * 2 by omega]
    exact h6

/-- Cells that are a list of types. -/
def FoC (F : Heap) : List Value → Fo → Prop
  | [], .nil => True
  | x :: v :: r, .cons nm ar l => x = .string (bs nm) ∧ SlF F v ar ∧ FoC F r l
  | _, _ => False
def Fo.app : Fo → Fo → Fo
  | .nil, m => m
  | .cons nm ar r, m => .cons nm ar (r.app m)
theorem FoC.app {F : Heap} : ∀ {xs ys : List Value} {l m : Fo}, FoC F xs l → FoC F ys m → FoC F (xs ++ ys) (l.app m)
  | [], ys, .nil, m, _, h => h
  | [], _, .cons _ _ _, _, h, _ => h.elim
  | [_], _, .nil, _, h, _ => h.elim
  | [_], _, .cons _ _ _, _, h, _ => h.elim
  | _ :: _ :: _, _, .nil, _, h, _ => h.elim
  | x :: v :: r, ys, .cons nm ar l, m, ⟨h1, h2, h3⟩, h => ⟨h1, h2, FoC.app h3 h⟩
theorem FoC.mono {F F' : Heap} (hF : ∀ b o, F b = some o → F' b = some o) : ∀ {xs : List Value} {l : Fo}, FoC F xs l → FoC F' xs l
  | [], .nil, _ => trivial
  | [], .cons _ _ _, h => h.elim
  | [_], .nil, h => h.elim
  | [_], .cons _ _ _, h => h.elim
  | _ :: _ :: _, .nil, h => h.elim
  | x :: v :: r, .cons nm ar l, ⟨h1, h2, h3⟩ => ⟨h1, h2.mono hF, FoC.mono hF h3⟩
theorem FoC.one {F : Heap} {nm : List UInt8} {v : Value} {ar : Fo} (h : SlF F v ar) : FoC F [.string (bs nm), v] (.cons nm ar .nil) := ⟨rfl, h, trivial⟩
structure Pr where
  na : List UInt8
  aa : Fo
  nb : List UInt8
  ab : Fo
  c : Bool
def PsM (F : Heap) (v : Value) (ps : List Pr) : Prop := ∃ ao cap, v = .slice ao ps.length cap ∧ (ps.length ≤ cap ∧ ps.length ≤ 9223372036854775807) ∧ (0 < ps.length → ∃ b o, ao = some ⟨b, o, none⟩ ∧ ∀ (k : Nat) (p : Pr), ps[k]? = some p → ∃ va vb, Cels F b (o + k * 5) [.string (bs p.na), va, .string (bs p.nb), vb, .bool p.c] ∧ SlF F va p.aa ∧ SlF F vb p.ab)
theorem PsM.mono {F F' : Heap} (hF : ∀ b o, F b = some o → F' b = some o) {v : Value} {ps : List Pr} (h : PsM F v ps) : PsM F' v ps := by
  obtain ⟨ao, cap, h1, h2, h3⟩ := h
  exact ⟨ao, cap, h1, h2, fun h => by
    obtain ⟨b, o, e, h6⟩ := h3 h
    exact ⟨b, o, e, fun k p hp => by obtain ⟨va, vb, h7, h8, h9⟩ := h6 k p hp; exact ⟨va, vb, Cels.mono hF h7, h8.mono hF, h9.mono hF⟩⟩⟩

def varT (nm : List UInt8) (ar : Fo) : Bool := decide (1 < nm.length) && decide ((nm.getD 0 0).toNat = 39) && decide (ar.len = 0)
/-- May the types be, and how many parts are left? -/
def sizedL : Fo → Int → Int → Bool × Int
  | .nil, _, n => (true, n)
  | .cons nm ar r, d, n =>
    let x := if n - 1 < 0 ∨ 64 < d ∨ nm = [] then (false, n - 1) else if (nm.getD 0 0).toNat = 39 then (varT nm ar, n - 1) else sizedL ar (d + 1) (n - 1)
    if x.1 = true then sizedL r d x.2 else (false, x.2)
def sizedT (nm : List UInt8) (ar : Fo) (d n : Int) : Bool × Int :=
  if n - 1 < 0 ∨ 64 < d ∨ nm = [] then (false, n - 1) else if (nm.getD 0 0).toNat = 39 then (varT nm ar, n - 1) else sizedL ar (d + 1) (n - 1)
def may (nm : List UInt8) (ar : Fo) : Bool := (sizedT nm ar 1 2048).1
end Go.Un
