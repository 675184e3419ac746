/- Walks. -/
import Derived.Test.YtgefmjghdijbfaaGreatDoorQ09
import Derived.Test.YtgefmjghdijbfaaGreatDoorQ10
import Derived.Test.YtgefmjghdijbfaaGreatDoorQ06
import Derived.Test.YtgefmjghdijbfaaGreatDoorQ07
set_option maxHeartbeats 2000000
namespace Go.Proofs.YtgefmjghdijbfaaGreatDoor
open Go Go.Wk Go.Num
set_option linter.unusedSimpArgs false
set_option linter.unusedVariables false
attribute [local irreducible] Go.wpList Go.Code.wp Go.wpStill Go.Wk.wpPre Go.bodyPost Go.Calls Go.Wk.Ct Go.Wk.OwnS Go.wpListIn Go.Code.wpIn Go.CallsIn Go.bodyPostM Go.Wk.roundP Go.Wk.wpG
theorem backwardCt (v : Value) (F : Heap) : Ct Tryz.prog 152 [v] F [] (fun _ G' u => ∃ bx, u = .func (.func 183) ⟨[]⟩ ⟨[.pointer (some ⟨bx, 0, none⟩)]⟩ ∧ G' = [[(bx, .cells ⟨v.cells.toList⟩ 178 (0, 0))]]) := by
 refine Ct.enter Tryz.func152 rfl Tryz.ntmps152 rfl fun w0 a S => ?_
 refine wp_sr fun Z hZ => ?_
 (refine wbx S ?_; clear S a; intro b a w S)
 (revert S a; revert hZ Z; refine go 8 ?_; intro a S)
 refine wp_ret (fr1 S Tryz.results152 ?_)
 exact ⟨_, rfl, rfl⟩
theorem div_eq (b A j : Nat) : A / b ^ j = b * (A / b ^ (j + 1)) + dig b A j := by
 rw [Nat.pow_succ, ← Nat.div_div_eq_div_mul]; exact (Nat.div_add_mod _ _).symm
theorem lt_of_div {b A C j : Nat} (h : A / b ^ j < C / b ^ j) : A < C := by
 rcases Nat.lt_or_ge A C with h1 | h1
 ·exact h1
 ·have := Nat.div_le_div_right (c := b ^ j) h1; omega
theorem lt_of_nd {b A C : Nat} (hb : 2 ≤ b) (h : nd b A < nd b C) : A < C := by
 have hC : 0 < C := by
  rcases Nat.eq_zero_or_pos C with e | e
  ·subst e; rw [nd_zero] at h; omega
  ·exact e
 exact Nat.lt_of_lt_of_le (lt_nd hb A) (Nat.le_trans (Nat.pow_le_pow_right (by omega) (by omega)) (le_pow_nd hb hC))
theorem cmp_len {A C : Nat} (h : ¬ ((nd 1000000000 A : Int) = (nd 1000000000 C : Int))) : cmpI (nd 1000000000 A) (nd 1000000000 C) = cmpI A C := by
 have hne : nd 1000000000 A ≠ nd 1000000000 C := fun e => h (by rw [e])
 unfold cmpI
 rcases Nat.lt_or_gt_of_ne hne with h1 | h1
 ·have := lt_of_nd b2 h1
  rw [if_pos (by omega), if_pos (by omega)]
 ·have := lt_of_nd b2 h1
  rw [if_neg (by omega), if_pos (by omega), if_neg (by omega), if_pos (by omega)]
theorem top_eq {b A C j : Nat} (h : A / b ^ (j + 1) = C / b ^ (j + 1)) (hd : ((dig b A j : Nat) : Int) = ((dig b C j : Nat) : Int)) : A / b ^ j = C / b ^ j := by
 rw [div_eq, div_eq b C, h]; omega
theorem cmp_dig {b A C j : Nat} (h : A / b ^ (j + 1) = C / b ^ (j + 1)) (hd : ¬ ((dig b A j : Nat) : Int) = ((dig b C j : Nat) : Int)) : cmpI (dig b A j) (dig b C j) = cmpI A C := by
 have e1 := div_eq b A j
 have e2 := div_eq b C j
 rw [h] at e1
 unfold cmpI
 have hne : dig b A j ≠ dig b C j := fun e => hd (by rw [e])
 rcases Nat.lt_or_gt_of_ne hne with h1 | h1
 ·have := lt_of_div (b := b) (j := j) (A := A) (C := C) (by omega)
  rw [if_pos (by omega), if_pos (by omega)]
 ·have := lt_of_div (b := b) (j := j) (A := C) (C := A) (by omega)
  rw [if_neg (by omega), if_pos (by omega), if_neg (by omega), if_pos (by omega)]
theorem sizesCt (A C : Nat) (v u : Value) (F : Heap) (hlA : nd 1000000000 A ≤ 1000000) (hlC : nd 1000000000 C ≤ 1000000) (hv : Mag F v A) (hu : Mag F u C) : Ct Tryz.prog 159 [v, u] F [] (fun _ _ r => r = .int .i64 (cmpI A C)) := by
 obtain ⟨ao, ca, rfl, hca, hpa⟩ := hv
 obtain ⟨co, cc, rfl, hcc, hpc⟩ := hu
 refine Ct.enterM Tryz.func159 rfl Tryz.ntmps159 rfl fun w0 a S => ?_
 (refine wpIn_seq_k ?_; intro Z hZ)
 refine wpi_region rfl ?_
 (refine wbx S ?_; clear S a; intro b3 a w S)
 (refine wpl_alloc S rfl rfl rfl rfl ?_; clear S a; intro b4 a w S)
 (revert S a; revert hZ Z; refine go 2 ?_; intro a S)
 iterate 2 (refine wpIn_seq_k ?_; intro Z hZ)
 refine wpi_region rfl ?_
 (revert S a; revert hZ Z; refine go 7 ?_; intro a S)
 refine wpi_split S rfl (fun h => ?_) (fun h => ?_)
 ·(skip; (try simp only [tq] at h))
  (refine wpIn_seq_k ?_; intro Z hZ)
  refine wpi_region rfl ?_
  (revert S a; refine go 4 ?_; intro a S)
  (refine wc0 S (compare1 _ _ F) ?_; clear S a; intro v a w hv S; subst hv)
  (refine wpl_store1 S rfl rfl rfl rfl rfl rfl (by first | (simp; done) | (simp [Value.cells]; done) | exact Nat.le_of_ble_eq_true rfl) ?_; clear S; intro w S)
  (revert S a; revert hZ Z; refine go 2 ?_; intro a S)
  refine wpIn_ret ?_
  refine fin_retN S (results1 Tryz.results159 (RV.cell1O S rfl (by rfl))) ?_
  (rw [cmp_len h])
 (skip; (try simp only [tq] at h))
 refine wpIn_skip ?_
 (refine hZ _ _ ?_; clear hZ Z)
 iterate 2 (refine wpIn_seq_k ?_; intro Z hZ)
 refine wpi_region rfl ?_
 (revert S a; refine go 1 ?_; intro a S)
 (refine wpl_callFrz S rfl rfl rfl rfl rfl rfl (backwardCt _ F) rfl ?_; clear S a; intro bx F5 a w hF5 hbx S; have hbox := hbx 0 _ rfl)
 (revert S a; revert hZ Z; refine go 2 ?_; intro a S)
 refine wpIn_block ?_
 refine wpi_back S rfl rfl rfl rfl (backIter bx (nd 1000000000 A) (dig 1000000000 A) F5 ao ca (by omega) hbox (fun h0 => by obtain ⟨b, off, h1, h2⟩ := hpa h0; exact ⟨b, off, h1, h2.mono hF5⟩)) (fun j F2 G2 => F5 = F2 ∧ G2 = [[(b4, .cells ⟨[.int .i64 0]⟩ 3 (0, 0))], [(b3, .cells ⟨[.slice co (nd 1000000000 C) cc]⟩ 178 (0, 0))]] ∧ A / 1000000000 ^ j = C / 1000000000 ^ j) (fun F2 G2 => F5 = F2 ∧ G2 = [[(b4, .cells ⟨[.int .i64 (cmpI A C)]⟩ 3 (0, 0))], [(b3, .cells ⟨[.slice co (nd 1000000000 C) cc]⟩ 178 (0, 0))]]) (⟨rfl, rfl, by rw [Nat.div_eq_of_lt (lt_nd b2 A), Nat.div_eq_of_lt (by have := lt_nd b2 C; rw [show nd 1000000000 C = nd 1000000000 A by omega] at this; exact this)]⟩) (fun j => [(5, .int .i64 (j : Int)), (6, .int .i64 ((dig 1000000000 A j : Nat) : Int)), (3, .pointer (some ⟨b3, 0, none⟩)), (4, .pointer (some ⟨b4, 0, none⟩))]) ?_ ?_ ?_ ?_
 ·(clear S; intro r j w F1 G1 a KA S hKA)
  (refine wpIn_seq_k ?_; intro Z hZ)
  refine wpi_region rfl ?_
  (revert S a; revert hZ Z; refine go 3 ?_; intro a S)
  refine wpi_region rfl ?_
  (revert S a; refine go 2 ?_; intro a S)
  (refine hKA _ ?_; refine S.keep ?_; exact zk)
 ·(clear S; intro r j w F1 G1 a hj hF1 hI S)
  (obtain ⟨rfl, rfl, he⟩ := hI; obtain ⟨bc, offc, rfl, hcs⟩ := hpc (by omega); have hcf := (celN hcs (j := j) (by omega)).mono hF5)
  refine wpIn_block ?_
  (refine wpIn_seq_k ?_; intro Z hZ)
  refine wpi_region rfl ?_
  (revert S a; revert hZ Z; refine go 8 ?_; intro a S)
  refine wpi_split S rfl (fun h => ?_) (fun h => ?_)
  ·(skip; (try simp only [tq] at h))
   (refine wpIn_seq_k ?_; intro Z hZ)
   refine wpi_region rfl ?_
   (revert S a; refine go 5 ?_; intro a S)
   (refine wc0 S (compare2 _ _ F5) ?_; clear S a; intro v a w hv S; subst hv)
   (refine wpl_store1 S rfl rfl rfl rfl rfl rfl (by first | (simp; done) | (simp [Value.cells]; done) | exact Nat.le_of_ble_eq_true rfl) ?_; clear S; intro w S)
   (revert S a; revert hZ Z; refine go 2 ?_; intro a S)
   refine wpIn_ret ?_
   skip
   refine round_ret S.tr ?_
   exact ⟨rfl, by rw [← cmp_dig he h]; rfl⟩
  (skip; (try simp only [tq] at h))
  refine wpIn_skip ?_
  skip
  refine round_normal S.tr ?_
  exact ⟨rfl, rfl, top_eq he h⟩
 ·(clear S; intro D F1 G1 a w hF1 hI S)
  (obtain ⟨rfl, rfl, he⟩ := hI)
  (refine hZ _ _ ?_; clear hZ Z)
  (refine wpIn_seq_k ?_; intro Z hZ)
  refine wpi_region rfl ?_
  (refine wpl_store1 S rfl rfl rfl rfl rfl rfl (by first | (simp; done) | (simp [Value.cells]; done) | exact Nat.le_of_ble_eq_true rfl) ?_; clear S; intro w S)
  (revert S a; revert hZ Z; refine go 2 ?_; intro a S)
  refine wpIn_ret ?_
  (refine fin_retM S fun w S => ?_; try (dsimp only at S))
  refine ⟨_, results1 Tryz.results159 (RV.cell1O S rfl (by rfl)), ?_⟩
  (first | rfl | (have he2 : A = C := (by simpa using he); subst he2; unfold cmpI; rw [if_neg (by omega), if_neg (by omega)]))
 (clear S; intro D F1 G1 a w hF1 hI S)
 (obtain ⟨rfl, rfl⟩ := hI)
 (refine fin_retM S fun w S => ?_; try (dsimp only at S))
 refine ⟨_, results1 Tryz.results159 (RV.cell1O S rfl (by rfl)), ?_⟩
 (first | rfl | (have he2 : A = C := (by simpa using he); subst he2; unfold cmpI; rw [if_neg (by omega), if_neg (by omega)]))
def addS (n1 : Bool) (A : Nat) (n2 : Bool) (C : Nat) : Bool × Nat := if n1 = n2 then (n1, A + C) else if 0 ≤ cmpI A C then (n1, A - C) else (n2, C - A)
def toZ (x : Bool × Nat) : Int := if x.1 then -(x.2 : Int) else x.2
theorem toZ_addS (n1 : Bool) (A : Nat) (n2 : Bool) (C : Nat) : toZ (addS n1 A n2 C) = toZ (n1, A) + toZ (n2, C) := by
 unfold addS toZ cmpI
 by_cases h1 : (A : Int) < C
 ·rw [if_pos h1]; cases n1 <;> cases n2 <;> simp <;> omega
 ·rw [if_neg h1]
  by_cases h2 : (C : Int) < A
  ·rw [if_pos h2]; cases n1 <;> cases n2 <;> simp <;> omega
  ·rw [if_neg h2]; cases n1 <;> cases n2 <;> simp <;> omega
def NumZ (F : Heap) (u : Value) (x : Bool × Nat) : Prop := NumV F u x.1 x.2
theorem cmp_le {A C : Nat} (h : 0 ≤ cmpI A C) : C ≤ A := by
 unfold cmpI at h; split at h; omega; omega
theorem cmp_gt {A C : Nat} (h : ¬ 0 ≤ cmpI A C) : A ≤ C := by
 unfold cmpI at h; split at h; omega; split at h <;> omega
theorem zzBig50 {p : Prop} (h : p := by (first | (rw [show addS n1 A n2 C = (n1, A + C) from (by unfold addS; rw [if_pos (by assumption)])]; exact ⟨_, rfl, hv⟩) | (rw [show addS n1 A n2 C = (n1, A - C) from (by unfold addS; rw [if_neg (by assumption), if_pos (by assumption)])]; exact ⟨_, rfl, hv⟩) | (rw [show addS n1 A n2 C = (n2, C - A) from (by unfold addS; rw [if_neg (by assumption), if_neg (by assumption)])]; exact ⟨_, rfl, hv⟩))) : p := h
theorem addCt (n1 : Bool) (A : Nat) (n2 : Bool) (C : Nat) (v u : Value) (F : Heap) (hlA : nd 1000000000 A ≤ 1000000) (hlC : nd 1000000000 C ≤ 1000000) (hv : NumV F v n1 A) (hu : NumV F u n2 C) : Ct Tryz.prog 112 [v, u] F [] (fun F' _ r => NumZ F' r (addS n1 A n2 C)) := by
 obtain ⟨pv, rfl, hpv⟩ := hv
 obtain ⟨pu, rfl, hpu⟩ := hu
 have hv0 := hpv
 have hu0 := hpu
 obtain ⟨ao, ca, rfl, -, -⟩ := hv0
 obtain ⟨co, cc, rfl, -, -⟩ := hu0
 refine Ct.enter Tryz.func112 rfl Tryz.ntmps112 rfl fun w0 a S => ?_
 refine wp_sr fun Z hZ => ?_
 (refine wbx S ?_; clear S a; intro b2 a w S)
 (refine wbx S ?_; clear S a; intro b3 a w S)
 (refine wpl_alloc S rfl rfl rfl rfl ?_; clear S a; intro b a w S)
 (revert S a; revert hZ Z; refine go 13 ?_; intro Z hZ a S)
 refine wpc_sp S rfl ?_ ?_ <;> intro h
 ·(refine wp_seq_k ?_; intro Z hZ)
  (refine wpc_mixL [0, 1, 2, 3, 4, 5, 7] [1] [b2, b3] S mixed (by kernel_rfl) ?_; clear S; intro w S)
  refine wppk_one rfl rfl ?_
  (refine wpp_v S rfl rfl rfl rfl (fun _ S => sv_fieldAddr S rfl rfl rfl inferInstance rfl) ?_; clear S a; intro a S)
  refine wpp_nil ?_
  first | (refine wppk_late S rfl rfl rfl rfl rfl (fun w' hw => hw.1) (fun w' S => sv_loadO S rfl rfl (by rfl)) ?_; clear S a; intro a S) | (refine wppk_late S rfl rfl rfl rfl rfl (fun w' hw => hw.1) (fun w' S => sv_loadAO S rfl rfl (by rfl)) ?_; clear S a; intro a S) | (refine wppk_late S rfl rfl rfl rfl rfl (fun w' hw => hw.2.1) (fun w' S => sv_loadO S rfl rfl (by rfl)) ?_; clear S a; intro a S) | (refine wppk_late S rfl rfl rfl rfl rfl (fun w' hw => hw.2.1) (fun w' S => sv_loadAO S rfl rfl (by rfl)) ?_; clear S a; intro a S)
  refine wppk_one rfl rfl ?_
  (refine wpp_v S rfl rfl rfl rfl (fun _ S => sv_fieldAddr S rfl rfl rfl inferInstance rfl) ?_; clear S a; intro a S)
  refine wpp_nil ?_
  refine wppk_one rfl rfl ?_
  first | (refine wpp_s S rfl rfl rfl rfl (sv_loadO S rfl rfl (by rfl)) ?_; clear S a; intro a S) | (refine wpp_s S rfl rfl rfl rfl (sv_loadF S rfl rfl (by assumption)) ?_; clear S a; intro a S)
  refine wpp_nil ?_
  refine wppk_one rfl rfl ?_
  (refine wpp_v S rfl rfl rfl rfl (fun _ S => sv_fieldAddr S rfl rfl rfl inferInstance rfl) ?_; clear S a; intro a S)
  refine wpp_nil ?_
  refine wppk_one rfl rfl ?_
  first | (refine wpp_s S rfl rfl rfl rfl (sv_loadO S rfl rfl (by rfl)) ?_; clear S a; intro a S) | (refine wpp_s S rfl rfl rfl rfl (sv_loadF S rfl rfl (by assumption)) ?_; clear S a; intro a S)
  refine wpp_nil ?_
  refine wplk_one rfl ⟨S.has inferInstance, S.has inferInstance, trivial⟩ ?_
  (refine wcF S (plusCt A C _ _ F hlA hlC hpv hpu) ?_; clear S a; intro v F1 a w hv hF1 S; have hv0 := hv; obtain ⟨ro, rc, rfl, -, -⟩ := hv0)
  refine wpList_nil ?_
  refine wppk_one rfl rfl ?_
  (refine wpp_v S rfl rfl rfl rfl (fun _ S => sv_build S rfl rfl rfl) ?_; clear S a; intro a S)
  refine wpp_nil ?_
  refine wplk_one rfl ⟨S.has inferInstance, S.has inferInstance, trivial⟩ ?_
  (refine wso S rfl rfl ?_; clear S; intro w S)
  refine wpList_nil ?_
  refine wplk_nil ⟨S.has inferInstance, S.has inferInstance, trivial⟩ ?_
  (refine hZ _ _ ?_; clear hZ Z)
  refine wp_ret (fin_ret S (results1 Tryz.results112 (RV.cellO S rfl (by rfl))) ?_)
  exact zzBig50
 (revert S a; refine go 5 ?_; intro Z hZ a S)
 (refine wc0 S (sizesCt A C _ _ F hlA hlC hpv hpu) ?_; clear S a; intro v a w hv S; subst hv)
 (revert S a; revert hZ Z; refine go 4 ?_; intro a S)
 refine wpc_sp S rfl ?_ ?_ <;> intro h
 ·(refine wp_seq_k ?_; intro Z hZ)
  (refine wpc_mixL [0, 1, 2, 3, 4, 5, 7] [1] [b2, b3] S mixed (by kernel_rfl) ?_; clear S; intro w S)
  refine wppk_one rfl rfl ?_
  (refine wpp_v S rfl rfl rfl rfl (fun _ S => sv_fieldAddr S rfl rfl rfl inferInstance rfl) ?_; clear S a; intro a S)
  refine wpp_nil ?_
  first | (refine wppk_late S rfl rfl rfl rfl rfl (fun w' hw => hw.1) (fun w' S => sv_loadO S rfl rfl (by rfl)) ?_; clear S a; intro a S) | (refine wppk_late S rfl rfl rfl rfl rfl (fun w' hw => hw.1) (fun w' S => sv_loadAO S rfl rfl (by rfl)) ?_; clear S a; intro a S) | (refine wppk_late S rfl rfl rfl rfl rfl (fun w' hw => hw.2.1) (fun w' S => sv_loadO S rfl rfl (by rfl)) ?_; clear S a; intro a S) | (refine wppk_late S rfl rfl rfl rfl rfl (fun w' hw => hw.2.1) (fun w' S => sv_loadAO S rfl rfl (by rfl)) ?_; clear S a; intro a S)
  refine wppk_one rfl rfl ?_
  (refine wpp_v S rfl rfl rfl rfl (fun _ S => sv_fieldAddr S rfl rfl rfl inferInstance rfl) ?_; clear S a; intro a S)
  refine wpp_nil ?_
  refine wppk_one rfl rfl ?_
  first | (refine wpp_s S rfl rfl rfl rfl (sv_loadO S rfl rfl (by rfl)) ?_; clear S a; intro a S) | (refine wpp_s S rfl rfl rfl rfl (sv_loadF S rfl rfl (by assumption)) ?_; clear S a; intro a S)
  refine wpp_nil ?_
  refine wppk_one rfl rfl ?_
  (refine wpp_v S rfl rfl rfl rfl (fun _ S => sv_fieldAddr S rfl rfl rfl inferInstance rfl) ?_; clear S a; intro a S)
  refine wpp_nil ?_
  refine wppk_one rfl rfl ?_
  first | (refine wpp_s S rfl rfl rfl rfl (sv_loadO S rfl rfl (by rfl)) ?_; clear S a; intro a S) | (refine wpp_s S rfl rfl rfl rfl (sv_loadF S rfl rfl (by assumption)) ?_; clear S a; intro a S)
  refine wpp_nil ?_
  refine wplk_one rfl ⟨S.has inferInstance, S.has inferInstance, trivial⟩ ?_
  (first | (refine wcF S (minusCt A C _ _ F (cmp_le h) hlA hlC hpv hpu) ?_; clear S a; intro v F1 a w hv hF1 S; have hv0 := hv; obtain ⟨ro, rc, rfl, -, -⟩ := hv0) | (refine wcF S (minusCt C A _ _ F (cmp_gt h) hlC hlA hpu hpv) ?_; clear S a; intro v F1 a w hv hF1 S; have hv0 := hv; obtain ⟨ro, rc, rfl, -, -⟩ := hv0))
  refine wpList_nil ?_
  refine wppk_one rfl rfl ?_
  (refine wpp_v S rfl rfl rfl rfl (fun _ S => sv_build S rfl rfl rfl) ?_; clear S a; intro a S)
  refine wpp_nil ?_
  refine wplk_one rfl ⟨S.has inferInstance, S.has inferInstance, trivial⟩ ?_
  (refine wso S rfl rfl ?_; clear S; intro w S)
  refine wpList_nil ?_
  refine wplk_nil ⟨S.has inferInstance, S.has inferInstance, trivial⟩ ?_
  (refine hZ _ _ ?_; clear hZ Z)
  refine wp_ret (fin_ret S (results1 Tryz.results112 (RV.cellO S rfl (by rfl))) ?_)
  exact zzBig50
 refine wp_skip ?_
 (refine hZ _ _ ?_; clear hZ Z)
 (refine wp_seq_k ?_; intro Z hZ)
 (refine wpc_mixL [0, 1, 2, 3, 4, 5, 7] [1] [b2, b3] S mixed (by kernel_rfl) ?_; clear S; intro w S)
 refine wppk_one rfl rfl ?_
 (refine wpp_v S rfl rfl rfl rfl (fun _ S => sv_fieldAddr S rfl rfl rfl inferInstance rfl) ?_; clear S a; intro a S)
 refine wpp_nil ?_
 first | (refine wppk_late S rfl rfl rfl rfl rfl (fun w' hw => hw.1) (fun w' S => sv_loadO S rfl rfl (by rfl)) ?_; clear S a; intro a S) | (refine wppk_late S rfl rfl rfl rfl rfl (fun w' hw => hw.1) (fun w' S => sv_loadAO S rfl rfl (by rfl)) ?_; clear S a; intro a S) | (refine wppk_late S rfl rfl rfl rfl rfl (fun w' hw => hw.2.1) (fun w' S => sv_loadO S rfl rfl (by rfl)) ?_; clear S a; intro a S) | (refine wppk_late S rfl rfl rfl rfl rfl (fun w' hw => hw.2.1) (fun w' S => sv_loadAO S rfl rfl (by rfl)) ?_; clear S a; intro a S)
 refine wppk_one rfl rfl ?_
 (refine wpp_v S rfl rfl rfl rfl (fun _ S => sv_fieldAddr S rfl rfl rfl inferInstance rfl) ?_; clear S a; intro a S)
 refine wpp_nil ?_
 refine wppk_one rfl rfl ?_
 first | (refine wpp_s S rfl rfl rfl rfl (sv_loadO S rfl rfl (by rfl)) ?_; clear S a; intro a S) | (refine wpp_s S rfl rfl rfl rfl (sv_loadF S rfl rfl (by assumption)) ?_; clear S a; intro a S)
 refine wpp_nil ?_
 refine wppk_one rfl rfl ?_
 (refine wpp_v S rfl rfl rfl rfl (fun _ S => sv_fieldAddr S rfl rfl rfl inferInstance rfl) ?_; clear S a; intro a S)
 refine wpp_nil ?_
 refine wppk_one rfl rfl ?_
 first | (refine wpp_s S rfl rfl rfl rfl (sv_loadO S rfl rfl (by rfl)) ?_; clear S a; intro a S) | (refine wpp_s S rfl rfl rfl rfl (sv_loadF S rfl rfl (by assumption)) ?_; clear S a; intro a S)
 refine wpp_nil ?_
 refine wplk_one rfl ⟨S.has inferInstance, S.has inferInstance, trivial⟩ ?_
 (first | (refine wcF S (minusCt A C _ _ F (cmp_le h) hlA hlC hpv hpu) ?_; clear S a; intro v F1 a w hv hF1 S; have hv0 := hv; obtain ⟨ro, rc, rfl, -, -⟩ := hv0) | (refine wcF S (minusCt C A _ _ F (cmp_gt h) hlC hlA hpu hpv) ?_; clear S a; intro v F1 a w hv hF1 S; have hv0 := hv; obtain ⟨ro, rc, rfl, -, -⟩ := hv0))
 refine wpList_nil ?_
 refine wppk_one rfl rfl ?_
 (refine wpp_v S rfl rfl rfl rfl (fun _ S => sv_build S rfl rfl rfl) ?_; clear S a; intro a S)
 refine wpp_nil ?_
 refine wplk_one rfl ⟨S.has inferInstance, S.has inferInstance, trivial⟩ ?_
 (refine wso S rfl rfl ?_; clear S; intro w S)
 refine wpList_nil ?_
 refine wplk_nil ⟨S.has inferInstance, S.has inferInstance, trivial⟩ ?_
 (refine hZ _ _ ?_; clear hZ Z)
 refine wp_ret (fin_ret S (results1 Tryz.results112 (RV.cellO S rfl (by rfl))) ?_)
 exact zzBig50
def bothE (s t : List UInt8) : Int := if checkS s = 0 then checkS t else checkS s
def BothV (F : Heap) (u : Value) (s t : List UInt8) : Prop :=
 if bothE s t = 0 then ∃ p q, u = .tuple ⟨[.agg ⟨[.bool (negS s), p]⟩, .agg ⟨[.bool (negS t), q]⟩, .int .i64 0]⟩ ∧ Mag F p (decV (bodyS s)) ∧ Mag F q (decV (bodyS t))
 else u = .tuple ⟨[.agg ⟨[.bool false, .slice none 0 0]⟩, .agg ⟨[.bool false, .slice none 0 0]⟩, .int .i64 (bothE s t)]⟩
theorem zzBig51 {p : Prop} (h : p := by (first | (unfold BothV; rw [if_pos (by unfold bothE; rw [if_pos (hc1 (by omega))]; exact hc2 (by omega))]; exact ⟨_, _, rfl, hpp.mono hF2, hpq⟩) | (have hbe : bothE s t = checkS x := (by unfold bothE; rcases hx0 with ⟨h8, rfl⟩ | ⟨h8, rfl⟩; (rw [if_neg h]); (rw [if_pos (hc1 (by omega))])); unfold BothV; rw [if_neg (by rw [hbe]; exact h), hbe]; rfl))) : p := h
theorem bothCt (s t : List UInt8) (F : Heap) (hs : s.length ≤ 1000000000) (ht : t.length ≤ 1000000000) : Ct Tryz.prog 110 [.string (bs s), .string (bs t)] F [] (fun F' _ u => BothV F' u s t) := by
 refine Ct.enter Tryz.func110 rfl Tryz.ntmps110 rfl fun w0 a S => ?_
 refine wp_sr fun Z hZ => ?_
 (refine wpl_alloc S rfl rfl rfl rfl ?_; clear S a; intro b4 a w S)
 (refine wpl_alloc S rfl rfl rfl rfl ?_; clear S a; intro b5 a w S)
 (revert S a; revert hZ Z; refine go 7 ?_; intro Z hZ Z hZ a S)
 (refine wv S (sv_buildA S rfl rfl rfl (by simp [Value.cells]) rfl) ?_; clear S a; intro a S)
 (revert S a; revert hZ Z; refine go 4 ?_; intro a S)
 refine wpc_loop (fun m a w' => ∃ (i : Nat), m = 2 - i ∧ i ≤ 2 ∧ (0 < i → checkS s = 0) ∧ (1 < i → checkS t = 0) ∧ St 28 [(0, .string (bs s)), (1, .string (bs t)), (4, .pointer (some ⟨b4, 0, none⟩)), (5, .pointer (some ⟨b5, 0, none⟩)), (12, .agg ⟨[.string (bs s), .string (bs t)]⟩), (13, .int .i64 i)] w0 F [] F [[(b5, .cells ⟨[.bool false, .slice none 0 0]⟩ 180 (0, 0))], [(b4, .cells ⟨[.bool false, .slice none 0 0]⟩ 180 (0, 0))]] a w') ?_ ?_
 ·(refine ⟨2, 0, rfl, by omega, by omega, by omega, ?_⟩; refine S.keep ?_; exact zk)
 (clear S; rintro m a w ⟨i, rfl, hi, hc1, hc2, S⟩)
 (revert S a; refine go 5 ?_; intro Z hZ a S)
 refine wpc_sp S rfl ?_ ?_ <;> intro h
 ·(revert S a; revert hZ Z; refine go 5 ?_; intro Z hZ Z hZ a S)
  (obtain ⟨x, hxe, hx, hx0⟩ : ∃ x : List UInt8, ([.string (bs s), .string (bs t)] : List Value)[i]? = some (.string (bs x)) ∧ x.length ≤ 1000000000000 ∧ ((i = 0 ∧ x = s) ∨ (i = 1 ∧ x = t)) := (by rcases Nat.lt_or_ge i 1 with h9 | h9; (have h8 : i = 0 := (by omega); subst h8; exact ⟨s, rfl, by omega, Or.inl ⟨rfl, rfl⟩⟩); (have h8 : i = 1 := (by omega); subst h8; exact ⟨t, rfl, by omega, Or.inr ⟨rfl, rfl⟩⟩))); (refine wv S (sv_indexA S rfl rfl rfl (by omega) hxe) ?_; clear S a; intro a S)
  (revert S a; revert hZ Z; refine go 5 ?_; intro Z hZ a S)
  (refine wc0 S (checkCt x F (by omega)) ?_; clear S a; intro v a w hv S; subst hv)
  (revert S a; revert hZ Z; refine go 8 ?_; intro a S)
  refine wpc_sp S rfl ?_ ?_ <;> intro h
  ·(revert S a; refine go 4 ?_; intro Z hZ a S)
   iterate 2 (refine wso S rfl rfl ?_; clear S; intro w S)
   (revert S a; revert hZ Z; refine go 3 ?_; intro a S)
   refine wp_ret (fin_ret S (results3 Tryz.results110 (RV.cellO S rfl (by rfl)) (RV.cellO S rfl (by rfl)) (RV.tmp S rfl)) ?_)
   exact zzBig51
  (revert S a; revert hZ Z; refine go 6 ?_; intro a S)
  change ∃ m', _ ∧ _
  (refine ⟨2 - (i + 1), by omega, i + 1, rfl, by omega, ?_, ?_, ?_⟩; rotate_left 2; (refine S.keep ?_; exact zk); (intro h8; rcases hx0 with ⟨h9, rfl⟩ | ⟨h9, rfl⟩; exact h; exact hc1 (by omega)); (intro h8; rcases hx0 with ⟨h9, rfl⟩ | ⟨h9, rfl⟩; omega; exact h))
 (refine wp_exit ?_; conv => whnf)
 clear hZ Z
 (revert S a; revert hZ Z; refine go 3 ?_; intro Z hZ a S)
 (first | (refine wcF S (ofCt t F1 hct) ?_; clear S a; intro v2 F2 a w hv2 hF2 S; obtain ⟨pq, rfl, hpq⟩ := hv2; have hpq0 := hpq; obtain ⟨qo, qc, rfl, -, -⟩ := hpq0) | (refine wcF S (ofCt s F (hc1 (by omega))) ?_; clear S a; intro v F1 a w hv hF1 S; have hct := hc2 (by omega); obtain ⟨pp, rfl, hpp⟩ := hv; have hpp0 := hpp; obtain ⟨po, pc, rfl, -, -⟩ := hpp0))
 (revert S a; refine go 1 ?_; intro a S)
 (first | (refine wcF S (ofCt t F1 hct) ?_; clear S a; intro v2 F2 a w hv2 hF2 S; obtain ⟨pq, rfl, hpq⟩ := hv2; have hpq0 := hpq; obtain ⟨qo, qc, rfl, -, -⟩ := hpq0) | (refine wcF S (ofCt s F (hc1 (by omega))) ?_; clear S a; intro v F1 a w hv hF1 S; have hct := hc2 (by omega); obtain ⟨pp, rfl, hpp⟩ := hv; have hpp0 := hpp; obtain ⟨po, pc, rfl, -, -⟩ := hpp0))
 iterate 2 (refine wso S rfl rfl ?_; clear S; intro w S)
 (revert S a; revert hZ Z; refine go 3 ?_; intro a S)
 refine wp_ret (fin_ret S (results3 Tryz.results110 (RV.cellO S rfl (by rfl)) (RV.cellO S rfl (by rfl)) (RV.tmp S rfl)) ?_)
 exact zzBig51
theorem turnedCt (n1 : Bool) (A : Nat) (v : Value) (F : Heap) (hv : NumV F v n1 A) : Ct Tryz.prog 113 [v] F [] (fun F' _ r => NumV F' r (!n1) A) := by
 obtain ⟨pv, rfl, hpv⟩ := hv
 have hv0 := hpv
 obtain ⟨ao, ca, rfl, -, -⟩ := hv0
 refine Ct.enter Tryz.func113 rfl Tryz.ntmps113 rfl fun w0 a S => ?_
 refine wp_sr fun Z hZ => ?_
 (refine wbx S ?_; clear S a; intro b a w S)
 (refine wpl_alloc S rfl rfl rfl rfl ?_; clear S a; intro b a w S)
 (revert S a; revert hZ Z; refine go 9 ?_; intro Z hZ a S)
 (refine wso S rfl rfl ?_; clear S; intro w S)
 (revert S a; revert hZ Z; refine go 2 ?_; intro a S)
 refine wp_ret (fin_ret S (results1 Tryz.results113 (RV.cellO S rfl (by rfl))) ?_)
 exact ⟨_, rfl, hpv⟩
theorem writeString2Ct (b : Nat) (p v : Value) (k : Nat) (l s : List UInt8) (g : Grp) (F : Heap) (hp : bldP b p) (hown : OwnS 5 1 v k (u8c l) g) (hs : 0 < s.length) (hk : k + s.length ≤ 1000000000) :
  Ct Tryz.prog 155 [.pointer (some ⟨b, 0, none⟩), .string (bs s)] F [bldG b p v, g] (fun _ G' _ => ∃ v' g', G' = [bldG b (.pointer (some ⟨b, 0, none⟩)) v', g'] ∧ OwnS 5 1 v' (k + s.length) (u8c (l ++ s)) g') := by
 refine Ct.enter Tryz.func155 rfl Tryz.ntmps155 rfl fun w0 a S => ?_
 (revert S a; refine go 7 ?_; intro Z hZ a S)
 (refine wpl_callOwn (Gs := [bldG b p v]) (Gr := [g]) S rfl rfl rfl rfl rfl rfl (copyCheckCt b p v F hp) rfl (by simp) ?_; clear S a; intro u G1 a w hv1 S; subst hv1; replace S : St _ _ _ _ _ _ [[(b, .cells ⟨[.pointer (some ⟨b, 0, none⟩), v]⟩ 234 (0, 0))], g] _ _ := S)
 (revert S a; revert hZ Z; refine go 9 ?_; intro Z hZ a S)
 (refine wpl_appendStr S rfl rfl rfl rfl rfl rfl hown (by rfl) (by omega) (by omega) (by omega) ?_; clear hown S a; intro v1 g1 a w hown S)
 (revert S a; refine go 2 ?_; intro a S)
 (refine wpl_store1 S rfl rfl rfl rfl rfl hown.oneCell (by simp) ?_; clear S; intro w S)
 (revert S a; revert hZ Z; refine go 9 ?_; intro a S)
 refine wp_ret (fr2 S Tryz.results155 ?_)
 (refine ⟨_, _, rfl, ?_⟩; unfold u8c; rw [List.map_append]; exact hown)
theorem bldLenCt (b : Nat) (p v : Value) (k : Nat) (l : List UInt8) (g : Grp) (F : Heap) (hown : OwnS 5 1 v k (u8c l) g) :
  Ct Tryz.prog 156 [.pointer (some ⟨b, 0, none⟩)] F [bldG b p v, g] (fun _ G' u => u = .int .i64 k ∧ G' = [bldG b p v, g]) := by
 obtain ⟨ao, cap, rfl, -, -, -⟩ := hown.at
 (refine Ct.enter Tryz.func156 rfl Tryz.ntmps156 rfl fun w0 a S => ?_); replace S : St _ _ _ _ _ _ [[(b, .cells ⟨[p, .slice ao k cap]⟩ 234 (0, 0))], g] _ _ := S
 (revert S a; refine go 13 ?_; intro a S)
 refine wp_ret (fr1 S Tryz.results156 ?_)
 exact ⟨rfl, rfl⟩
theorem bldString2Ct (b : Nat) (p v : Value) (k : Nat) (l : List UInt8) (g : Grp) (F : Heap) (hk : k ≤ 1000000000) (h0 : 0 < k) (hown : OwnS 5 1 v k (u8c l) g) :
  Ct Tryz.prog 157 [.pointer (some ⟨b, 0, none⟩)] F [bldG b p v, g] (fun _ _ u => u = .string (bs l)) := by
 obtain ⟨ao, cap, rfl, hcap, -, hpos⟩ := hown.at
 obtain ⟨br, rfl⟩ := hpos h0
 (refine Ct.enter Tryz.func157 rfl Tryz.ntmps157 rfl fun w0 a S => ?_); replace S : St _ _ _ _ _ _ [[(b, .cells ⟨[p, .slice (some ⟨br, 0, none⟩) k cap]⟩ 234 (0, 0))], g] _ _ := S
 (revert S a; refine go 4 ?_; intro a S)
 (refine wp_seq_k ?_; intro Z hZ)
 (refine wpc_mixL [0, 1, 2, 3, 4, 5, 6, 7, 8, 9] [3, 4, 8, 9] [b] S mixed (by kernel_rfl) ?_; clear S; intro w S)
 refine wppk_one rfl rfl ?_
 (refine wpp_v S rfl rfl rfl rfl (fun _ S => sv_pure S rfl) ?_; clear S a; intro a S)
 refine wpp_nil ?_
 refine wppk_one rfl rfl ?_
 (refine wpp_v S rfl rfl rfl rfl (fun _ S => sv_nilCheck S rfl rfl) ?_; clear S a; intro a S)
 refine wpp_nil ?_
 refine wppk_one rfl rfl ?_
 (refine wpp_v S rfl rfl rfl rfl (fun _ S => sv_fieldAddr S rfl rfl rfl inferInstance rfl) ?_; clear S a; intro a S)
 refine wpp_nil ?_
 first | (refine wppk_late S rfl rfl rfl rfl rfl (fun w' hw => hw.1) (fun w' S => sv_loadO S rfl rfl (by rfl)) ?_; clear S a; intro a S) | (refine wppk_late S rfl rfl rfl rfl rfl (fun w' hw => hw.1) (fun w' S => sv_loadAO S rfl rfl (by rfl)) ?_; clear S a; intro a S)
 (refine wppk_late S rfl rfl rfl rfl rfl (fun w' hw => hw.1) (fun w' S => sv_sliceData S rfl rfl (by omega)) ?_; clear S a; intro a S)
 refine wppk_one rfl rfl ?_
 (refine wpp_v S rfl rfl rfl rfl (fun _ S => sv_pure S rfl) ?_; clear S a; intro a S)
 refine wpp_nil ?_
 refine wppk_one rfl rfl ?_
 (refine wpp_v S rfl rfl rfl rfl (fun _ S => sv_nilCheck S rfl rfl) ?_; clear S a; intro a S)
 refine wpp_nil ?_
 refine wppk_one rfl rfl ?_
 (refine wpp_v S rfl rfl rfl rfl (fun _ S => sv_fieldAddr S rfl rfl rfl inferInstance rfl) ?_; clear S a; intro a S)
 refine wpp_nil ?_
 first | (refine wppk_late S rfl rfl rfl rfl rfl (fun w' hw => hw.1) (fun w' S => sv_loadO S rfl rfl (by rfl)) ?_; clear S a; intro a S) | (refine wppk_late S rfl rfl rfl rfl rfl (fun w' hw => hw.1) (fun w' S => sv_loadAO S rfl rfl (by rfl)) ?_; clear S a; intro a S)
 (refine wppk_late S rfl rfl rfl rfl rfl (fun w' hw => hw.1) (fun w' S => sv_lenSl S rfl rfl) ?_; clear S a; intro a S)
 refine wplk_one rfl ⟨S.has inferInstance, trivial⟩ ?_
 (refine wpl_unsafeString S rfl rfl rfl rfl rfl rfl hown (by kernel_rfl) h0 (by omega) ?_; clear S a; intro a w S)
 refine wpList_nil ?_
 refine wplk_one rfl ⟨S.has inferInstance, trivial⟩ ?_
 (revert S a; refine go 2 ?_; intro a S)
 refine wplk_nil ⟨S.has inferInstance, trivial⟩ ?_
 (refine hZ _ _ ?_; clear hZ Z)
 refine wp_ret (fr1 S Tryz.results157 ?_)
 rfl
end Go.Proofs.YtgefmjghdijbfaaGreatDoor
namespace Go.Wk
open Go
set_option linter.unusedVariables false
set_option linter.unusedSimpArgs false
set_option linter.unusedSectionVars false
class KeyK (d : TypeDesc) {α : Type} [DecidableEq α] (enc : α → Value) : Prop where
  same : ∀ a b, Instr.sameNow d (enc a) (enc b) = some (decide (a = b))
  bits : ∀ a, Instr.sameBits 10000 (enc a) (enc a) = true
  chk : ∀ (P : Program) (w : World) (t : TypeId) (em : Bool) (a : α), P.underlying t = some d → (Instr.checkKey em 10000 t (enc a)).run P w = .ok () w
def kS (l : List UInt8) : Value := .string (bs l)
theorem bs_beq (a b : List UInt8) : (bs a == bs b) = decide (a = b) := by
 show ((⟨a⟩ : Array UInt8) == ⟨b⟩) = _
 rw [Bool.eq_iff_iff]; simp
instance : KeyK .string kS where
 same a b := by
  simp only [Instr.sameNow, kS, bs_beq]
 bits a := by simp [Instr.sameBits, kS, bs_beq]
 chk P w t em a h := by
  rw [Instr.checkKey]
  simp [run_underlying h, kS]
section
variable {α : Type} [DecidableEq α]
def mEnt (enc : α → Value) : Nat → List (α × Value) → List MapEntry
 | _, [] => []
 | n, (k, v) :: r => { key := enc k, val := v, born := n } :: mEnt enc (n + 1) r
def mObj (enc : α → Value) (es : List (α × Value)) : Obj := .map ⟨mEnt enc 0 es⟩ es.length
def mGet (es : List (α × Value)) (k : α) : Option Value := (es.find? fun p => decide (k = p.1)).map (·.2)
def mSet : List (α × Value) → α → Value → List (α × Value)
 | [], k, v => [(k, v)]
 | (a, u) :: r, k, v => if k = a then (a, v) :: r else (a, u) :: mSet r k v
theorem mGet_set (es : List (α × Value)) (k j : α) (v : Value) : mGet (mSet es k v) j = if j = k then some v else mGet es j := by
 induction es with
 | nil => by_cases h : j = k <;> simp [mSet, mGet, h]
 | cons p r ih =>
  obtain ⟨a, u⟩ := p
  unfold mSet
  by_cases hk : k = a
  ·subst hk
   rw [if_pos rfl]
   by_cases h : j = k <;> simp [mGet, h]
  ·rw [if_neg hk]
   unfold mGet at ih ⊢
   by_cases h : j = a
   ·subst h
    rw [if_neg (Ne.symm hk)]
    simp
   ·simp only [List.find?_cons, h, decide_false]
    exact ih
theorem mSet_new {es : List (α × Value)} {k : α} {v : Value} (h : mGet es k = none) : mSet es k v = es ++ [(k, v)] := by
 induction es with
 | nil => rfl
 | cons p r ih =>
  obtain ⟨a, u⟩ := p
  unfold mGet at h ih
  by_cases hk : k = a
  ·subst hk; simp at h
  ·simp only [List.find?_cons, hk, decide_false] at h
   unfold mSet
   rw [if_neg hk, ih h]; rfl
theorem findNow_ent {d : TypeDesc} {enc : α → Value} [hk : KeyK d enc] (k : α) : ∀ (es : List (α × Value)) (n i : Nat),
  Instr.findNow d (enc k) (mEnt enc n es) i = some ((es.findIdx? fun p => decide (k = p.1)).map fun j => (i + j, ((es[j]?).map (·.2)).getD undef))
 | [], _, _ => rfl
 | (a, u) :: r, n, i => by
  rw [mEnt, Instr.findNow, hk.same]
  by_cases h : k = a
  ·subst h; simp [List.findIdx?_cons]
  ·have := findNow_ent (d := d) (enc := enc) k r (n + 1) (i + 1)
   simp only [h, decide_false]
   rw [this]
   simp only [List.findIdx?_cons, h, decide_false, Bool.false_eq_true, if_false, Option.map_map]
   congr 1
   cases hf : List.findIdx? (fun p => decide (k = p.1)) r with
   | none => rfl
   | some j => simp [Nat.add_assoc, Nat.add_comm 1 j]
theorem mGet_idx (es : List (α × Value)) (k : α) : mGet es k = (es.findIdx? fun p => decide (k = p.1)).bind fun j => (es[j]?).map (·.2) := by
 induction es with
 | nil => rfl
 | cons p r ih =>
  obtain ⟨a, u⟩ := p
  unfold mGet at ih ⊢
  by_cases h : k = a
  ·subst h; simp [List.findIdx?_cons]
  ·simp only [List.find?_cons, h, decide_false, List.findIdx?_cons, Bool.false_eq_true, if_false]
   rw [ih]
   cases List.findIdx? (fun p => decide (k = p.1)) r <;> simp
theorem mEnt_append (enc : α → Value) : ∀ (n : Nat) (es : List (α × Value)) (k : α) (v : Value), mEnt enc n (es ++ [(k, v)]) = mEnt enc n es ++ [{ key := enc k, val := v, born := n + es.length }]
 | n, [], k, v => rfl
 | n, _ :: r, k, v => by simp [mEnt, mEnt_append enc (n + 1) r k v, Nat.add_assoc, Nat.add_comm 1]
theorem mEnt_modify (enc : α → Value) (k : α) (v : Value) : ∀ (n : Nat) (es : List (α × Value)) (j : Nat), (es.findIdx? fun p => decide (k = p.1)) = some j →
  (mEnt enc n es).modify j (fun e => { e with key := enc k, val := v }) = mEnt enc n (mSet es k v) ∧ ((mEnt enc n es)[j]?).map (·.key) = some (enc k) ∧ (mSet es k v).length = es.length
 | n, [], j, h => by cases h
 | n, (a, u) :: r, j, h => by
  rw [List.findIdx?_cons] at h
  by_cases hk : k = a
  ·subst hk
   simp at h
   subst h
   simp [mEnt, mSet]
  ·simp only [hk, decide_false, Bool.false_eq_true, if_false] at h
   cases hf : List.findIdx? (fun p => decide (k = p.1)) r with
   | none => rw [hf] at h; cases h
   | some i =>
    rw [hf] at h
    simp at h
    subst h
    obtain ⟨h1, h2, h3⟩ := mEnt_modify enc k v (n + 1) r i hf
    unfold mSet
    rw [if_neg hk]
    simp [mEnt, h1, h2, h3]
variable {P : Program} {n : Sz} {L : List (Nat × Value)} {w0 : World} {F0 : Heap} {K0 : List Nat} {F : Heap} {G : List Grp} {a : Act} {w : World} {ops : Array Oper} {Q : Exit → Act → World → Prop} {rest : List Oper} {o : Oper}
theorem run_findKey {d : TypeDesc} {enc : α → Value} [hk : KeyK d enc] {kt : TypeId} (h : P.underlying kt = some d) (w : World) (es : List (α × Value)) (k : α) :
  (Instr.findKey kt (enc k) (mEnt enc 0 es)).run P w = .ok ((es.findIdx? fun p => decide (k = p.1)).map fun j => (j, ((es[j]?).map (·.2)).getD undef)) w := by
 unfold Instr.findKey
 simp only [Sem.run_bind, run_underlying h, Result.andThen_ok, findNow_ent (d := d) k es 0 0, Nat.zero_add]
 rfl
theorem run_getMap {w : World} {b : Nat} {es : Array MapEntry} {c : Nat} (h : w.heap[b]? = some (.map es c)) : (getObj b).run P w = .ok (.map es c) w := by simp [getObj, Sem.run, h]
theorem run_lookupM {d : TypeDesc} {enc : α → Value} [hk : KeyK d enc] {t kt e : TypeId} {z : Value} {sz by_ : Nat} {b : Nat} (ht : Und P t (.map kt e)) (hd : P.underlying kt = some d) (hi : Inf P e z sz by_) {w : World} {es : List (α × Value)} (hb : w.heap[b]? = some (mObj enc es)) (k : α) (ok : Bool) :
  (Instr.lookup t (.map (some b)) (enc k) ok).run P w = .ok (if ok then .tuple #[(mGet es k).getD z, .bool (mGet es k).isSome] else (mGet es k).getD z) w := by
 unfold Instr.lookup
 have hg := run_getMap (P := P) hb
 have hc := hk.chk P w kt (mEnt enc 0 es).toArray.isEmpty k hd
 simp only [Sem.run_bind, run_underlying ht.h, Result.andThen_ok, hg, Sem.run_pure, hc, run_findKey (d := d) hd w es k]
 rw [mGet_idx]
 cases hf : List.findIdx? (fun p => decide (k = p.1)) es with
 | none => simp [run_zero hi]
 | some j =>
  have hj : j < es.length := (List.findIdx?_eq_some_iff_findIdx_eq.1 hf).1
  simp [List.getElem?_eq_getElem hj]
theorem sv_lookupF {d : TypeDesc} {enc : α → Value} [hk : KeyK d enc] {x y : Operand} {t kt e : TypeId} {z : Value} {sz by_ : Nat} {b : Nat} {es : List (α × Value)} {k : α} {ok : Bool} [ht : Und P t (.map kt e)] [hd : Und P kt d] [hi : Inf P e z sz by_]
  (S : St n L w0 F0 K0 F G a w) (ho : o.op = .lookup t x y ok) (hx : ev L x = some (.map (some b))) (hy : ev L y = some (enc k)) (hb : F b = some (mObj enc es)) : SV P o a w (if ok then .tuple #[(mGet es k).getD z, .bool (mGet es k).isSome] else (mGet es k).getD z) := by
 unfold SV execOp
 rw [ho]
 simp [S.fr.eval hx, S.fr.eval hy, run_lookupM (d := d) ht hd.h hi (S.tr.frz _ _ hb) k ok]
theorem wpl_makeMap {d : Nat} {t : TypeId} (enc : α → Value) (S : St n L w0 F0 K0 F G a w) (hg : o.guard = none) (hd : o.dst = some d) (ho : o.op = .makeMap t none) (hn : Nat.blt d n.sz = true)
  (k : ∀ b a' w', St n ((d, .map (some b)) :: L) w0 F0 K0 F ([(b, mObj enc [])] :: G) a' w' → wpList P ops Q rest a' w') : wpList P ops Q (o :: rest) a w := by
 refine wpList_plain hg fun K hK => ?_
 unfold Oper.wp execOp
 rw [ho]
 have hr : (Instr.makeMap t none).run P w = .ok (.map (some w.heap.size)) (w.alloc (mObj enc [])) := rfl
 simp only [Sem.run_bind, Option.map_none, hr, Result.andThen_ok, Sem.run_pure, Oper.upon_value, hd]
 exact hK _ _ (k _ _ _ (S.alloc _ hn _))
end
end Go.Wk
