/- Walks. -/
import Derived.Test.YtgefmjghdijbfaaGreatDoorQ07
import Derived.Test.YtgefmjghdijbfaaGreatDoorQ09
import Derived.Test.YtgefmjghdijbfaaGreatDoorQShelf
import Derived.Test.YtgefmjghdijbfaaGreatDoorQTy
import Derived.Lib.IndexLaws
set_option maxHeartbeats 4000000
namespace Go.Proofs.YtgefmjghdijbfaaGreatDoor
open Go Go.Wk Go.Un Go.De
set_option linter.unusedSimpArgs false
set_option linter.unusedVariables false
attribute [local irreducible] Go.wpList Go.Code.wp Go.wpStill Go.Wk.wpPre Go.bodyPost Go.Calls Go.Wk.Ct Go.Wk.OwnS Go.Wk.wpG Go.Wk.wpM
open Go.RowKit in
theorem trimPrefixCt (F : Heap) (s : List UInt8) : Ct Tryz.prog 163 [.string (bs s), .string (bs [45])] F [] (fun _ _ u => u = .string (bs (numD s))) := by
 refine ct_of_below fun w hw => ?_
 refine (Tryz.strings_TrimPrefix (bs s) (bs [45]) w).mono fun e w' ⟨h1, h2⟩ => ⟨?_, ?_⟩
 ·rw [h1]; rfl
 ·rw [h2]; exact Below.refl _ _
theorem trimSCt (F : Heap) (s : List UInt8) (hb : s.length ≤ 140737488355328) : Ct Tryz.prog 164 [.string (bs s), .string (bs digS)] F [] (fun _ _ u => u = .string (bs (Lib.trimS s digS))) := by
 refine ct_of_below fun w hw => ?_
 refine (Any.strings_Trim_laid Tryz.lays160 (by kernel_rfl) (bs s) (bs digS) w (by show s.toArray.size ≤ _; simp; omega) (by decide) (Go.Proofs.ascii_of_all (by decide))).mono fun e w' ⟨h1, h2⟩ => ⟨?_, ?_⟩
 ·rw [h1]; rfl
 ·exact h2
open Go.RowKit in
theorem indexOneCt (F : Heap) (s : List UInt8) : Ct Tryz.prog 203 [.string (bs s), .string (bs [46])] F [] (fun _ _ u => u = .int .i64 (cutI s)) := by
 refine ct_of_below fun w hw => ?_
 refine (Tryz.stringslite_Index_one (bs s) 46 w).mono fun e w' ⟨h1, h2⟩ => ⟨?_, ?_⟩
 ·rw [h1]; rfl
 ·rw [h2]; exact Below.refl _ _
theorem cutI_bd (s : List UInt8) : -1 ≤ cutI s ∧ cutI s < s.length := by
 have h1 := Lib.indexByte_ge s 46
 refine ⟨h1, ?_⟩
 rcases Int.lt_or_le (cutI s) 0 with h | h
 ·omega
 ·obtain ⟨o, ho⟩ := Int.eq_ofNat_of_zero_le h
  have h2 := (Lib.indexByte_some ho).1
  have := (List.getElem?_eq_some_iff.1 h2).1
  omega
theorem zzDeW0 {p : Prop} (h : p := by (unfold cutA cutB cutC; first | (have h9 : 0 ≤ cutI s := (by assumption); rw [if_pos h9, if_pos h9, decide_eq_true h9, show (cutI s + (([46] : List UInt8).length : Nat)).toNat = (cutI s).toNat + 1 by show (cutI s + 1).toNat = _; omega] <;> rfl) | (have h9 : ¬ 0 ≤ cutI s := (by assumption); rw [if_neg h9, if_neg h9, decide_eq_false h9] <;> rfl) | trace_state)) : p := h
theorem cut0Ct (F : Heap) (s : List UInt8) (hb : s.length ≤ 140737488355328) : Ct Tryz.prog 165 [.string (bs s), .string (bs [46])] F [] (fun _ _ u => u = .tuple ⟨[.string (bs (cutA s)), .string (bs (cutB s)), .bool (cutC s)]⟩) := by
 have hbd := cutI_bd s
 refine Ct.enter Tryz.func165 rfl Tryz.ntmps165 rfl fun w0 a S => ?_
 (revert S a; refine go 10 ?_; intro Z hZ Z hZ a S)
 (refine wc0 S (indexOneCt F s) ?_; clear S a; intro v a w hv S; subst hv)
 (revert S a; revert hZ Z; refine go 8 ?_; intro a S)
 refine wpc_sp S rfl ?_ ?_ <;> intro h
 ·(refine wp_seq_k ?_; intro Z hZ)
  (refine wpc_mixM [0, 1, 2, 3, 4, 5, 6, 7, 8] [] [] (.one 0 (.one 1 (.one 2 (.one 3 (.one 4 (.one 5 (.one 6 (.one 7 (.one 8 (.one 9 (.one 10 (.one 11 .nil)))))))))))) [] S mixed (by kernel_rfl) ?_; clear S; intro w S)
  (revert S a; refine go 2 ?_; intro a S)
  (refine wpm_v S rfl rfl rfl (want_none _ rfl) rfl rfl (fun w' S => sv_sliceS_hi S rfl rfl rfl (by first | omega | (simp only [List.length_append, List.length_cons, List.length_nil]; omega))) ?_; clear S a; intro a S)
  (revert S a; refine go 5 ?_; intro a S)
  (refine wpm_v S rfl rfl rfl (want_none _ rfl) rfl rfl (fun w' S => sv_sliceS_lo S rfl rfl rfl (by first | omega | (simp only [List.length_append, List.length_cons, List.length_nil]; omega))) ?_; clear S a; intro a S)
  (revert S a; revert hZ Z; refine go 11 ?_; intro a S)
  refine wp_ret (fin_ret S (results3 Tryz.results165 (RV.tmp S rfl) (RV.tmp S rfl) (RV.tmp S rfl)) ?_)
  exact zzDeW0
 (revert S a; revert hZ Z; refine go 9 ?_; intro a S)
 refine wp_ret (fin_ret S (results3 Tryz.results165 (RV.tmp S rfl) (RV.tmp S rfl) (RV.tmp S rfl)) ?_)
 exact zzDeW0
theorem cutCt (F : Heap) (s : List UInt8) (hb : s.length ≤ 140737488355328) : Ct Tryz.prog 124 [.string (bs s), .string (bs [46])] F [] (fun _ _ u => u = .tuple ⟨[.string (bs (cutA s)), .string (bs (cutB s)), .bool (cutC s)]⟩) := by
 refine Ct.enter Tryz.func124 rfl Tryz.ntmps124 rfl fun w0 a S => ?_
 (revert S a; refine go 9 ?_; intro Z hZ a S)
 (refine wc0 S (cut0Ct F s hb) ?_; clear S a; intro v a w hv S; subst hv)
 (revert S a; revert hZ Z; refine go 8 ?_; intro a S)
 refine wp_ret (fin_ret S (results3 Tryz.results124 (RV.tmp S rfl) (RV.tmp S rfl) (RV.tmp S rfl)) ?_)
 rfl
theorem name_no1 {s : List UInt8} (h : ¬ (s ≠ [] ∧ s.length ≤ 32 ∧ 97 ≤ (s.getD 0 0).toNat ∧ (s.getD 0 0).toNat ≤ 122)) : nameS s = false := by unfold nameS; rw [decide_eq_false h, Bool.false_and]
theorem name_no2 {s : List UInt8} {k : Nat} (hk : k < s.length) (h : nameN (s.getD k 0).toNat = false) : nameS s = false := by
 unfold nameS
 rw [Bool.and_eq_false_iff]
 right
 rw [List.all_eq_false]
 refine ⟨s[k], List.getElem_mem hk, ?_⟩
 rw [List.getD_eq_getElem?_getD, List.getElem?_eq_getElem hk] at h
 simpa using h
theorem name_yes {s : List UInt8} (h : s ≠ [] ∧ s.length ≤ 32 ∧ 97 ≤ (s.getD 0 0).toNat ∧ (s.getD 0 0).toNat ≤ 122) (h2 : ∀ j, j < s.length → nameN (s.getD j 0).toNat = true) : nameS s = true := by
 unfold nameS
 rw [decide_eq_true h, Bool.true_and, List.all_eq_true]
 intro c hc
 obtain ⟨j, hj, rfl⟩ := List.mem_iff_getElem.1 hc
 have := h2 j hj
 rwa [List.getD_eq_getElem?_getD, List.getElem?_eq_getElem hj] at this
theorem zzDeW1 {p : Prop} (h : p := by (congr 1; first | (exact (name_no2 (k := k) (by omega) (decide_eq_false (by omega))).symm) | (exact (name_yes ⟨by assumption, by omega, by omega, by omega⟩ (fun j hj => hall j (by omega))).symm) | (exact (name_no1 (by rintro ⟨h1, h2, h3, h4⟩; first | omega | exact h1 (by assumption))).symm) | trace_state)) : p := h
theorem zzDeW2 {p : Prop} (h : p := by (refine ⟨s.length - (k + 1), by omega, k + 1, rfl, by omega, ?_, ?_⟩; rotate_left 1; (refine S.keep ?_; exact zk); intro j hj; rcases Nat.lt_or_eq_of_le (Nat.le_of_lt_succ hj) with h6 | h6; exact hall j h6; subst h6; exact decide_eq_true (by omega))) : p := h
theorem nameCt (F : Heap) (s : List UInt8) : Ct Tryz.prog 125 [.string (bs s)] F [] (fun _ _ u => u = .bool (nameS s)) := by
 refine Ct.enter Tryz.func125 rfl Tryz.ntmps125 rfl fun w0 a S => ?_
 (revert S a; refine go 9 ?_; intro Z hZ Z hZ a S)
 refine wgd S ?_ ?_
 ·(clear S; intro h S)
  (revert S a; refine go 7 ?_; intro a S)
  refine wgd S ?_ ?_
  ·(clear S; intro h S)
   (revert S a; refine go 2 ?_; intro a S)
   (refine wv S (sv_indexSN (i := 0) S rfl rfl rfl (by first | omega | (have h9 : 0 < s.length := List.length_pos_iff.2 (by assumption); omega))) ?_; clear S a; intro a S)
   (revert S a; refine go 4 ?_; intro a S)
   refine wgd S ?_ ?_
   ·(clear S; intro h S)
    (revert S a; refine go 2 ?_; intro a S)
    (refine wv S (sv_indexSN (i := 0) S rfl rfl rfl (by first | omega | (have h9 : 0 < s.length := List.length_pos_iff.2 (by assumption); omega))) ?_; clear S a; intro a S)
    (revert S a; revert hZ Z; refine go 5 ?_; intro a S)
    refine wpc_sp S rfl ?_ ?_ <;> intro h
    ·(revert S a; refine go 4 ?_; intro a S)
     refine wp_ret (fr1 S Tryz.results125 ?_)
     exact zzDeW1
    (revert S a; revert hZ Z; refine go 10 ?_; intro Z hZ a S)
    refine wpc_loop (fun m a w' => ∃ (k : Nat), m = s.length - k ∧ k ≤ s.length ∧ (∀ j, j < k → nameN (s.getD j 0).toNat = true) ∧ St 58 [(0, .string (bs s)), (23, .int .i64 s.length), (24, .int .i64 k)] w0 F [] F [] a w') ?_ ?_
    ·(refine ⟨s.length, 0, by omega, Nat.zero_le _, fun j h => absurd h (Nat.not_lt_zero _), ?_⟩; refine S.keep ?_; exact zk)
    (clear S; rintro m a w ⟨k, rfl, hkl, hall, S⟩)
    (revert S a; refine go 5 ?_; intro Z hZ a S)
    refine wpc_sp S rfl ?_ ?_ <;> intro h
    ·(revert S a; revert hZ Z; refine go 12 ?_; intro Z hZ Z hZ a S)
     first | (refine wv S (sv_indexSN S rfl rfl rfl (by first | omega | (have h9 : 0 < s.length := List.length_pos_iff.2 (by assumption); omega))) ?_; clear S a; intro a S) | (refine wv S (sv_indexS S rfl rfl rfl (by first | omega | (have h9 : 0 < s.length := List.length_pos_iff.2 (by assumption); omega))) ?_; clear S a; intro a S)
     (revert S a; revert hZ Z; refine go 7 ?_; intro Z hZ a S)
     refine wgd S ?_ ?_
     ·(clear S; intro h S)
      (revert S a; refine go 5 ?_; intro a S)
      refine wgd S ?_ ?_
      ·(clear S; intro h S)
       (revert S a; refine go 5 ?_; intro a S)
       refine wgd S ?_ ?_
       ·(clear S; intro h S)
        (revert S a; refine go 7 ?_; intro a S)
        refine wgd S ?_ ?_
        ·(clear S; intro h S)
         (revert S a; refine go 5 ?_; intro a S)
         refine wgd S ?_ ?_
         ·(clear S; intro h S)
          (revert S a; refine go 7 ?_; intro a S)
          refine wgd S ?_ ?_
          ·(clear S; intro h S)
           (revert S a; revert hZ Z; refine go 7 ?_; intro a S)
           refine wpc_sp S rfl ?_ ?_ <;> intro h
           ·(revert S a; refine go 4 ?_; intro a S)
            refine wp_ret (fr1 S Tryz.results125 ?_)
            exact zzDeW1
           (revert S a; revert hZ Z; refine go 3 ?_; intro a S)
           (refine wv S (sv_add S rfl rfl rfl (by first | omega | (have h9 : 0 < s.length := List.length_pos_iff.2 (by assumption); omega))) ?_; clear S a; intro a S)
           (revert S a; refine go 2 ?_; intro a S)
           change ∃ m', _ ∧ _
           exact zzDeW2
          (clear S a; intro h a S)
          (revert S a; revert hZ Z; refine go 5 ?_; intro a S)
          refine wpc_false S rfl ?_
          (revert S a; revert hZ Z; refine go 3 ?_; intro a S)
          (refine wv S (sv_add S rfl rfl rfl (by first | omega | (have h9 : 0 < s.length := List.length_pos_iff.2 (by assumption); omega))) ?_; clear S a; intro a S)
          (revert S a; refine go 2 ?_; intro a S)
          change ∃ m', _ ∧ _
          exact zzDeW2
         (clear S a; intro h a S)
         (revert S a; revert hZ Z; refine go 13 ?_; intro a S)
         refine wpc_sp S rfl ?_ ?_ <;> intro h
         ·(revert S a; refine go 4 ?_; intro a S)
          refine wp_ret (fr1 S Tryz.results125 ?_)
          exact zzDeW1
         (revert S a; revert hZ Z; refine go 3 ?_; intro a S)
         (refine wv S (sv_add S rfl rfl rfl (by first | omega | (have h9 : 0 < s.length := List.length_pos_iff.2 (by assumption); omega))) ?_; clear S a; intro a S)
         (revert S a; refine go 2 ?_; intro a S)
         change ∃ m', _ ∧ _
         exact zzDeW2
        (clear S a; intro h a S)
        (revert S a; revert hZ Z; refine go 13 ?_; intro a S)
        refine wpc_false S rfl ?_
        (revert S a; revert hZ Z; refine go 3 ?_; intro a S)
        (refine wv S (sv_add S rfl rfl rfl (by first | omega | (have h9 : 0 < s.length := List.length_pos_iff.2 (by assumption); omega))) ?_; clear S a; intro a S)
        (revert S a; refine go 2 ?_; intro a S)
        change ∃ m', _ ∧ _
        exact zzDeW2
       (clear S a; intro h a S)
       (revert S a; refine go 11 ?_; intro a S)
       refine wgd S ?_ ?_
       ·(clear S; intro h S)
        (revert S a; refine go 7 ?_; intro a S)
        refine wgd S ?_ ?_
        ·(clear S; intro h S)
         (revert S a; revert hZ Z; refine go 7 ?_; intro a S)
         refine wpc_sp S rfl ?_ ?_ <;> intro h
         ·(revert S a; refine go 4 ?_; intro a S)
          refine wp_ret (fr1 S Tryz.results125 ?_)
          exact zzDeW1
         (revert S a; revert hZ Z; refine go 3 ?_; intro a S)
         (refine wv S (sv_add S rfl rfl rfl (by first | omega | (have h9 : 0 < s.length := List.length_pos_iff.2 (by assumption); omega))) ?_; clear S a; intro a S)
         (revert S a; refine go 2 ?_; intro a S)
         change ∃ m', _ ∧ _
         exact zzDeW2
        (clear S a; intro h a S)
        (revert S a; revert hZ Z; refine go 5 ?_; intro a S)
        refine wpc_false S rfl ?_
        (revert S a; revert hZ Z; refine go 3 ?_; intro a S)
        (refine wv S (sv_add S rfl rfl rfl (by first | omega | (have h9 : 0 < s.length := List.length_pos_iff.2 (by assumption); omega))) ?_; clear S a; intro a S)
        (revert S a; refine go 2 ?_; intro a S)
        change ∃ m', _ ∧ _
        exact zzDeW2
       (clear S a; intro h a S)
       (revert S a; revert hZ Z; refine go 13 ?_; intro a S)
       refine wpc_sp S rfl ?_ ?_ <;> intro h
       ·(revert S a; refine go 4 ?_; intro a S)
        refine wp_ret (fr1 S Tryz.results125 ?_)
        exact zzDeW1
       (revert S a; revert hZ Z; refine go 3 ?_; intro a S)
       (refine wv S (sv_add S rfl rfl rfl (by first | omega | (have h9 : 0 < s.length := List.length_pos_iff.2 (by assumption); omega))) ?_; clear S a; intro a S)
       (revert S a; refine go 2 ?_; intro a S)
       change ∃ m', _ ∧ _
       exact zzDeW2
      (clear S a; intro h a S)
      (revert S a; revert hZ Z; refine go 21 ?_; intro a S)
      refine wpc_false S rfl ?_
      (revert S a; revert hZ Z; refine go 3 ?_; intro a S)
      (refine wv S (sv_add S rfl rfl rfl (by first | omega | (have h9 : 0 < s.length := List.length_pos_iff.2 (by assumption); omega))) ?_; clear S a; intro a S)
      (revert S a; refine go 2 ?_; intro a S)
      change ∃ m', _ ∧ _
      exact zzDeW2
     (clear S a; intro h a S)
     (revert S a; refine go 9 ?_; intro a S)
     refine wgd S ?_ ?_
     ·(clear S; intro h S)
      (revert S a; refine go 7 ?_; intro a S)
      refine wgd S ?_ ?_
      ·(clear S; intro h S)
       (revert S a; refine go 5 ?_; intro a S)
       refine wgd S ?_ ?_
       ·(clear S; intro h S)
        (revert S a; refine go 7 ?_; intro a S)
        refine wgd S ?_ ?_
        ·(clear S; intro h S)
         (revert S a; revert hZ Z; refine go 7 ?_; intro a S)
         refine wpc_sp S rfl ?_ ?_ <;> intro h
         ·(revert S a; refine go 4 ?_; intro a S)
          refine wp_ret (fr1 S Tryz.results125 ?_)
          exact zzDeW1
         (revert S a; revert hZ Z; refine go 3 ?_; intro a S)
         (refine wv S (sv_add S rfl rfl rfl (by first | omega | (have h9 : 0 < s.length := List.length_pos_iff.2 (by assumption); omega))) ?_; clear S a; intro a S)
         (revert S a; refine go 2 ?_; intro a S)
         change ∃ m', _ ∧ _
         exact zzDeW2
        (clear S a; intro h a S)
        (revert S a; revert hZ Z; refine go 5 ?_; intro a S)
        refine wpc_false S rfl ?_
        (revert S a; revert hZ Z; refine go 3 ?_; intro a S)
        (refine wv S (sv_add S rfl rfl rfl (by first | omega | (have h9 : 0 < s.length := List.length_pos_iff.2 (by assumption); omega))) ?_; clear S a; intro a S)
        (revert S a; refine go 2 ?_; intro a S)
        change ∃ m', _ ∧ _
        exact zzDeW2
       (clear S a; intro h a S)
       (revert S a; revert hZ Z; refine go 13 ?_; intro a S)
       refine wpc_sp S rfl ?_ ?_ <;> intro h
       ·(revert S a; refine go 4 ?_; intro a S)
        refine wp_ret (fr1 S Tryz.results125 ?_)
        exact zzDeW1
       (revert S a; revert hZ Z; refine go 3 ?_; intro a S)
       (refine wv S (sv_add S rfl rfl rfl (by first | omega | (have h9 : 0 < s.length := List.length_pos_iff.2 (by assumption); omega))) ?_; clear S a; intro a S)
       (revert S a; refine go 2 ?_; intro a S)
       change ∃ m', _ ∧ _
       exact zzDeW2
      (clear S a; intro h a S)
      (revert S a; revert hZ Z; refine go 13 ?_; intro a S)
      refine wpc_false S rfl ?_
      (revert S a; revert hZ Z; refine go 3 ?_; intro a S)
      (refine wv S (sv_add S rfl rfl rfl (by first | omega | (have h9 : 0 < s.length := List.length_pos_iff.2 (by assumption); omega))) ?_; clear S a; intro a S)
      (revert S a; refine go 2 ?_; intro a S)
      change ∃ m', _ ∧ _
      exact zzDeW2
     (clear S a; intro h a S)
     (revert S a; refine go 11 ?_; intro a S)
     refine wgd S ?_ ?_
     ·(clear S; intro h S)
      (revert S a; refine go 7 ?_; intro a S)
      refine wgd S ?_ ?_
      ·(clear S; intro h S)
       (revert S a; revert hZ Z; refine go 7 ?_; intro a S)
       refine wpc_sp S rfl ?_ ?_ <;> intro h
       ·(revert S a; refine go 4 ?_; intro a S)
        refine wp_ret (fr1 S Tryz.results125 ?_)
        exact zzDeW1
       (revert S a; revert hZ Z; refine go 3 ?_; intro a S)
       (refine wv S (sv_add S rfl rfl rfl (by first | omega | (have h9 : 0 < s.length := List.length_pos_iff.2 (by assumption); omega))) ?_; clear S a; intro a S)
       (revert S a; refine go 2 ?_; intro a S)
       change ∃ m', _ ∧ _
       exact zzDeW2
      (clear S a; intro h a S)
      (revert S a; revert hZ Z; refine go 5 ?_; intro a S)
      refine wpc_false S rfl ?_
      (revert S a; revert hZ Z; refine go 3 ?_; intro a S)
      (refine wv S (sv_add S rfl rfl rfl (by first | omega | (have h9 : 0 < s.length := List.length_pos_iff.2 (by assumption); omega))) ?_; clear S a; intro a S)
      (revert S a; refine go 2 ?_; intro a S)
      change ∃ m', _ ∧ _
      exact zzDeW2
     (clear S a; intro h a S)
     (revert S a; revert hZ Z; refine go 13 ?_; intro a S)
     refine wpc_sp S rfl ?_ ?_ <;> intro h
     ·(revert S a; refine go 4 ?_; intro a S)
      refine wp_ret (fr1 S Tryz.results125 ?_)
      exact zzDeW1
     (revert S a; revert hZ Z; refine go 3 ?_; intro a S)
     (refine wv S (sv_add S rfl rfl rfl (by first | omega | (have h9 : 0 < s.length := List.length_pos_iff.2 (by assumption); omega))) ?_; clear S a; intro a S)
     (revert S a; refine go 2 ?_; intro a S)
     change ∃ m', _ ∧ _
     exact zzDeW2
    (refine wp_exit ?_; conv => whnf)
    clear hZ Z
    (revert S a; revert hZ Z; refine go 5 ?_; intro a S)
    refine wp_ret (fr1 S Tryz.results125 ?_)
    exact zzDeW1
   (clear S a; intro h a S)
   (revert S a; revert hZ Z; refine go 5 ?_; intro a S)
   refine wpc_true S rfl ?_
   (revert S a; refine go 4 ?_; intro a S)
   refine wp_ret (fr1 S Tryz.results125 ?_)
   exact zzDeW1
  (clear S a; intro h a S)
  (revert S a; revert hZ Z; refine go 10 ?_; intro a S)
  refine wpc_true S rfl ?_
  (revert S a; refine go 4 ?_; intro a S)
  refine wp_ret (fr1 S Tryz.results125 ?_)
  exact zzDeW1
 (clear S a; intro h a S)
 (revert S a; revert hZ Z; refine go 15 ?_; intro a S)
 refine wpc_true S rfl ?_
 (revert S a; refine go 4 ?_; intro a S)
 refine wp_ret (fr1 S Tryz.results125 ?_)
 exact zzDeW1
end Go.Proofs.YtgefmjghdijbfaaGreatDoor
namespace Go.De
open Go Go.Wk Go.Un
set_option linter.unusedSimpArgs false
set_option linter.unusedVariables false
def Sq (F : Heap) (sz : Nat) (v : Value) (n : Nat) (C : Nat → List Value → Prop) : Prop :=
 ∃ ao cap, v = .slice ao n cap ∧ (n ≤ cap ∧ n ≤ 140737488355328) ∧ (0 < n → ∃ b o, ao = some ⟨b, o, none⟩ ∧ ∀ k, k < n → ∃ cs, Cels F b (o + k * sz) cs ∧ cs.length = sz ∧ C k cs)
theorem LiM.sq {α : Type} {F : Heap} {sz : Nat} {R : Heap → α → List Value → Prop} {v : Value} {l : List α} (h : LiM F sz R v l) : Sq F sz v l.length (fun k cs => ∃ x, l[k]? = some x ∧ R F x cs) := by
 obtain ⟨ao, cap, rfl, hc, hpos⟩ := h
 refine ⟨ao, cap, rfl, hc, fun hp => ?_⟩
 obtain ⟨b, o, e, h1⟩ := hpos hp
 refine ⟨b, o, e, fun k hk => ?_⟩
 obtain ⟨cs, h2, h3, h4⟩ := h1 k _ (List.getElem?_eq_getElem hk)
 exact ⟨cs, h2, h3, _, List.getElem?_eq_getElem hk, h4⟩
theorem TrS.sq {α : Type} {F : Heap} {sz : Nat} {R : Heap → α → List Value → Prop} {v : Value} {l : Rose α} (h : TrS F sz R v l) : Sq F sz v l.len (fun k cs => ∃ x c1 u, l.get? k = some x ∧ cs = c1 ++ [u] ∧ R F x.1 c1 ∧ TrS F sz R u x.2) := by
 obtain ⟨ao, cap, rfl, hc, hpos⟩ := h
 refine ⟨ao, cap, rfl, hc, fun hp => ?_⟩
 obtain ⟨b, o, e, h1⟩ := hpos hp
 refine ⟨b, o, e, fun k hk => ?_⟩
 obtain ⟨x, hx⟩ := Rose.get_lt hk
 obtain ⟨cs, u, h2, h3, h4, h5⟩ := h1.at hx
 exact ⟨cs ++ [u], h2, by simp [h3], x, cs, u, hx, rfl, h4, h5⟩
theorem Sq.pos {F : Heap} {sz : Nat} {ao : Option Addr} {n : Nat} {C : Nat → List Value → Prop} {k : Nat} (hpos : 0 < n → ∃ b o, ao = some ⟨b, o, none⟩ ∧ ∀ k, k < n → ∃ cs, Cels F b (o + k * sz) cs ∧ cs.length = sz ∧ C k cs) (hk : k < n) :
  ∃ b o, ao = some ⟨b, o, none⟩ ∧ ∃ cs, Cels F b (o + k * sz) cs ∧ cs.length = sz ∧ C k cs := by
 obtain ⟨b, o, e, h⟩ := hpos (by omega)
 exact ⟨b, o, e, h k hk⟩
def RoR {α : Type} (sz : Nat) (R : Heap → α → List Value → Prop) (F : Heap) (x : α × Rose α) (cells : List Value) : Prop := ∃ cs v, cells = cs ++ [v] ∧ cs.length + 1 = sz ∧ R F x.1 cs ∧ TrS F sz R v x.2
def roseOf {α : Type} : List (α × Rose α) → Rose α
 | [] => .nil
 | x :: r => .cons x.1 x.2 (roseOf r)
theorem roseOf_len {α : Type} : ∀ l : List (α × Rose α), (roseOf l).len = l.length
 | [] => rfl
 | x :: r => by show (roseOf r).len + 1 = r.length + 1; rw [roseOf_len r]
theorem trm_lic {α : Type} {sz : Nat} {R : Heap → α → List Value → Prop} {F : Heap} {b : Nat} : ∀ {l : List (α × Rose α)} {xs : List Value} {off : Nat}, LiC F sz (RoR sz R) xs l → Cels F b off xs → TrM F sz R (roseOf l) b off
 | [], xs, off, _, _ => trivial
 | x :: r, xs, off, ⟨cs, ys, h1, h2, ⟨c0, v, h3, h4, h5, ao, cap, h6, h7, h8⟩, h9⟩, hc => by
  subst h1; subst h3; subst h6
  refine ⟨⟨c0, ao, cap, h5, h4, fun j u hj => hc j u ?_, h7, h8⟩, trm_lic h9 fun j u hj => ?_⟩
  ·rw [List.getElem?_append_left (List.getElem?_eq_some_iff.1 hj).1]; exact hj
  ·have := hc (sz + j) u (by rw [List.getElem?_append_right (by omega), show sz + j - (c0 ++ [Value.slice ao x.2.len cap]).length = j by omega]; exact hj)
   rw [Nat.add_assoc]; exact this
theorem trs_lim {α : Type} {sz : Nat} {R : Heap → α → List Value → Prop} {F : Heap} {v : Value} {l : List (α × Rose α)} (h : LiM F sz (RoR sz R) v l) : TrS F sz R v (roseOf l) := by
 obtain ⟨ao, cap, xs, rfl, h1, h2⟩ := h.flat
 obtain ⟨_, _, e, h3, _⟩ := h
 cases e
 refine ⟨ao, cap, by rw [roseOf_len], ⟨by rw [roseOf_len]; exact h3.1, by rw [roseOf_len]; exact h3.2⟩, fun hp => ?_⟩
 obtain ⟨b, o, e, h4⟩ := h2 (by rw [roseOf_len] at hp; exact hp)
 exact ⟨b, o, e, trm_lic h1 h4⟩
instance {α : Type} {sz : Nat} {R : Heap → α → List Value → Prop} [hR : Mon R] : Mon (RoR sz R) := ⟨fun hF ⟨cs, v, h1, h2, h3, h4⟩ => ⟨cs, v, h1, h2, hR.h hF h3, h4.mono hF⟩⟩
def kids {α : Type} : Rose α → List (α × Rose α)
 | .nil => []
 | .cons a L r => (a, L) :: kids r
theorem roseOf_kids {α : Type} : ∀ l : Rose α, roseOf (kids l) = l
 | .nil => rfl
 | .cons a L r => by show Rose.cons a L (roseOf (kids r)) = _; rw [roseOf_kids r]
theorem kids_len {α : Type} : ∀ l : Rose α, (kids l).length = l.len
 | .nil => rfl
 | .cons a L r => by show (kids r).length + 1 = r.len + 1; rw [kids_len r]
theorem kids_get {α : Type} : ∀ (l : Rose α) (k : Nat), (kids l)[k]? = l.get? k
 | .nil, k => by show ([] : List (α × Rose α))[k]? = none; simp
 | .cons a L r, 0 => rfl
 | .cons a L r, k + 1 => by show ((a, L) :: kids r)[k + 1]? = r.get? k; rw [List.getElem?_cons_succ, kids_get r k]
theorem trs_kids {α : Type} {sz : Nat} {R : Heap → α → List Value → Prop} {F : Heap} {v : Value} {l : Rose α} (h : LiM F sz (RoR sz R) v (kids l)) : TrS F sz R v l := by
 have := trs_lim h
 rwa [roseOf_kids] at this
def idxF (p : Nat → Bool) : Nat → Nat → Int
 | _, 0 => -1
 | k, m + 1 => if p k = true then (k : Int) else idxF p (k + 1) m
def idxN (p : Nat → Bool) (n : Nat) : Int := idxF p 0 n
def anyN (p : Nat → Bool) (n : Nat) : Bool := decide (0 ≤ idxN p n)
theorem idxF_at {p : Nat → Bool} {k n : Nat} (hk : k < n) : idxF p k (n - k) = if p k = true then (k : Int) else idxF p (k + 1) (n - (k + 1)) := by
 rw [show n - k = (n - (k + 1)) + 1 by omega]; rfl
theorem idxF_end {p : Nat → Bool} {k n : Nat} (hk : n ≤ k) : idxF p k (n - k) = -1 := by rw [Nat.sub_eq_zero_of_le hk]; rfl
theorem idxF_spec {p : Nat → Bool} : ∀ (m k : Nat), (∃ j, k ≤ j ∧ j < k + m ∧ p j = true ∧ (∀ i, k ≤ i → i < j → p i = false) ∧ idxF p k m = (j : Int)) ∨ ((∀ j, k ≤ j → j < k + m → p j = false) ∧ idxF p k m = -1)
 | 0, k => .inr ⟨fun j h1 h2 => by omega, rfl⟩
 | m + 1, k => by
  by_cases h : p k = true
  ·exact .inl ⟨k, Nat.le_refl _, by omega, h, fun i h1 h2 => by omega, by show (if p k = true then (k : Int) else _) = _; rw [if_pos h]⟩
  ·have e : idxF p k (m + 1) = idxF p (k + 1) m := by show (if p k = true then (k : Int) else _) = _; rw [if_neg h]
   have hf : p k = false := by simpa using h
   rcases idxF_spec (p := p) m (k + 1) with ⟨j, h1, h2, h3, h4, h5⟩ | ⟨h1, h2⟩
   ·refine .inl ⟨j, by omega, by omega, h3, fun i h6 h7 => ?_, by rw [e]; exact h5⟩
    by_cases h8 : i = k
    ·subst h8; exact hf
    ·exact h4 i (by omega) h7
   ·refine .inr ⟨fun j h3 h4 => ?_, by rw [e]; exact h2⟩
    by_cases h8 : j = k
    ·subst h8; exact hf
    ·exact h1 j (by omega) (by omega)
theorem idxN_spec (p : Nat → Bool) (n : Nat) : (∃ j, j < n ∧ p j = true ∧ (∀ i, i < j → p i = false) ∧ idxN p n = (j : Int)) ∨ ((∀ j, j < n → p j = false) ∧ idxN p n = -1) := by
 rcases idxF_spec (p := p) n 0 with ⟨j, h1, h2, h3, h4, h5⟩ | ⟨h1, h2⟩
 ·exact .inl ⟨j, by omega, h3, fun i hi => h4 i (Nat.zero_le _) hi, h5⟩
 ·exact .inr ⟨fun j hj => h1 j (Nat.zero_le _) (by omega), h2⟩
theorem anyN_true {p : Nat → Bool} {n : Nat} : anyN p n = true ↔ ∃ k, k < n ∧ p k = true := by
 unfold anyN
 rw [decide_eq_true_eq]
 rcases idxN_spec p n with ⟨j, h1, h2, h3, h4⟩ | ⟨h1, h2⟩
 ·rw [h4]; exact ⟨fun _ => ⟨j, h1, h2⟩, fun _ => by omega⟩
 ·rw [h2]
  exact ⟨fun h => absurd h (by decide), fun ⟨k, hk, hp⟩ => by rw [h1 k hk] at hp; cases hp⟩
theorem anyN_list {α : Type} {l : List α} {q : α → Bool} {p : Nat → Bool} (h : ∀ k x, l[k]? = some x → p k = q x) : anyN p l.length = l.any q := by
 rw [Bool.eq_iff_iff, anyN_true, List.any_eq_true]
 constructor
 ·rintro ⟨k, hk, hp⟩
  exact ⟨l[k], List.getElem_mem hk, by rw [← h k _ (List.getElem?_eq_getElem hk)]; exact hp⟩
 ·rintro ⟨x, hx, hq⟩
  obtain ⟨k, hk, rfl⟩ := List.mem_iff_getElem.1 hx
  exact ⟨k, hk, by rw [h k _ (List.getElem?_eq_getElem hk)]; exact hq⟩
def anyR {α : Type} (q : α → Rose α → Bool) : Rose α → Bool
 | .nil => false
 | .cons a L r => q a L || anyR q r
theorem anyR_iff {α : Type} {q : α → Rose α → Bool} : ∀ {l : Rose α}, anyR q l = true ↔ ∃ (k : Nat) (x : α × Rose α), l.get? k = some x ∧ q x.1 x.2 = true
 | .nil => ⟨fun h => (by cases h), fun ⟨k, x, h, _⟩ => (by cases h)⟩
 | .cons a L r => by
  show (q a L || anyR q r) = true ↔ _
  rw [Bool.or_eq_true, anyR_iff (l := r)]
  constructor
  ·intro hh
   rcases hh with h | ⟨k, x, h1, h2⟩
   ·exact ⟨0, (a, L), rfl, h⟩
   ·exact ⟨k + 1, x, h1, h2⟩
  ·rintro ⟨k, x, h1, h2⟩
   cases k with
   | zero => cases h1; exact .inl h2
   | succ k => exact .inr ⟨k, x, h1, h2⟩
theorem anyN_rose {α : Type} {l : Rose α} {q : α → Rose α → Bool} {p : Nat → Bool} (h : ∀ k x, l.get? k = some x → p k = q x.1 x.2) : anyN p l.len = anyR q l := by
 rw [Bool.eq_iff_iff, anyN_true, anyR_iff]
 constructor
 ·rintro ⟨k, hk, hp⟩
  obtain ⟨x, hx⟩ := Rose.get_lt hk
  exact ⟨k, x, hx, by rw [← h k x hx]; exact hp⟩
 ·rintro ⟨k, x, hx, hq⟩
  exact ⟨k, Rose.lt_get hx, by rw [h k x hx]; exact hq⟩
end Go.De
namespace Go.Proofs.YtgefmjghdijbfaaGreatDoor
open Go Go.Wk Go.Un Go.De
set_option linter.unusedSimpArgs false
set_option linter.unusedVariables false
attribute [local irreducible] Go.wpList Go.Code.wp Go.wpStill Go.Wk.wpPre Go.bodyPost Go.Calls Go.Wk.Ct Go.Wk.OwnS Go.Wk.wpG Go.Wk.wpM
def VaC (F : Heap) (cs : List Value) (h : VH) (L : Vf) : Prop := ∃ v, cs = [.int .u8 (h.k : Int), .int .i64 h.n, .string (bs h.s), v] ∧ TrS F 4 VhR v L ∧ h.s.length ≤ 140737488355328
theorem VaC.mono {F F' : Heap} {cs : List Value} {h : VH} {L : Vf} (hF : ∀ b o, F b = some o → F' b = some o) (hv : VaC F cs h L) : VaC F' cs h L := by
 obtain ⟨v, h1, h2, h3⟩ := hv
 exact ⟨v, h1, h2.mono hF, h3⟩
theorem vac_ror {F : Heap} {cs : List Value} {h : VH} {L : Vf} (hv : VaC F cs h L) : RoR 4 VhR F (h, L) cs := by
 obtain ⟨v, rfl, h2, h3⟩ := hv
 exact ⟨[.int .u8 (h.k : Int), .int .i64 h.n, .string (bs h.s)], v, rfl, rfl, ⟨rfl, h3⟩, h2⟩
theorem ror_vac {F : Heap} {cs : List Value} {x : VH × Vf} (hv : RoR 4 VhR F x cs) : VaC F cs x.1 x.2 := by
 obtain ⟨c, v, rfl, h1, ⟨rfl, h2⟩, h3⟩ := hv
 exact ⟨v, rfl, h3, h2⟩
section
variable {P : Program} {n : Sz} {L : List (Nat × Value)} {w0 : World} {F0 : Heap} {K0 : List Nat} {F : Heap} {G : List Grp} {a : Act} {w : World} {o : Oper}
theorem sv_maxI {x y : Operand} {p q : Int} {k : IntKind} {ts : Array TypeId} (S : St n L w0 F0 K0 F G a w) (ho : o.op = .call { callee := .builtin .max, args := #[x, y], argTypes := ts }) (hx : ev L x = some (.int k p)) (hy : ev L y = some (.int k q)) :
  SV P o a w (.int k (max p q)) := by
 have e : (if q > p then q else p) = max p q := by split <;> omega
 unfold SV execOp
 rw [ho]
 simp [resolve, invoke, builtin, S.fr.eval hx, S.fr.eval hy, Builtin.max_, Builtin.max2]
 rw [← e]
end
theorem numD_len (s : List UInt8) : (numD s).length ≤ s.length := by
 unfold numD Lib.trimPrefix
 split
 ·simp
 ·exact Nat.le_refl _
theorem num_f {s : List UInt8} (h : numOK s = false) : Value.tuple ⟨[.int .i64 (numN s), .bool (numOK s)]⟩ = Value.tuple ⟨[.int .i64 0, .bool false]⟩ := by
 have : numN s = 0 := by unfold numN; rw [h, if_neg Bool.false_ne_true]
 rw [this, h]
theorem num_no1 {s : List UInt8} (h : numD s = []) : Value.tuple ⟨[.int .i64 (numN s), .bool (numOK s)]⟩ = Value.tuple ⟨[.int .i64 0, .bool false]⟩ := num_f (by unfold numOK; simp [h])
theorem num_no2 {s : List UInt8} (h : ¬ Lib.trimS (numD s) digS = []) : Value.tuple ⟨[.int .i64 (numN s), .bool (numOK s)]⟩ = Value.tuple ⟨[.int .i64 0, .bool false]⟩ := num_f (by unfold numOK; simp [h])
theorem num_no3 {s : List UInt8} (h : ((numD s).getD 0 0).toNat = 48) (h2 : ¬ s = [48]) : Value.tuple ⟨[.int .i64 (numN s), .bool (numOK s)]⟩ = Value.tuple ⟨[.int .i64 0, .bool false]⟩ := num_f (by unfold numOK; rw [decide_eq_true h]; simp [h2])
theorem num_yes {s : List UInt8} (h1 : ¬ numD s = []) (h2 : Lib.trimS (numD s) digS = []) (h3 : ¬ ((numD s).getD 0 0).toNat = 48 ∨ s = [48]) : Value.tuple ⟨[.int .i64 (numN s), .bool (numOK s)]⟩ = Value.tuple ⟨[.int .i64 ((numD s).length : Int), .bool true]⟩ := by
 have h : numOK s = true := by
  unfold numOK
  rcases h3 with h3 | h3
  ·rw [decide_eq_false h3]; simp [h1, h2]
  ·simp [h1, h2, h3]
   rw [h3] at h1 h2
   exact ⟨h1, h2⟩
 have : numN s = ((numD s).length : Int) := by unfold numN; rw [h, if_pos rfl]
 rw [this, h]
theorem zzDeX0 {p : Prop} (h : p := by (first | (exact (num_no1 (by assumption)).symm) | (exact (num_no2 (by assumption)).symm) | (exact (num_no3 (by omega) (by assumption)).symm) | (exact (num_yes (by assumption) (by assumption) (.inr (by assumption))).symm) | (exact (num_yes (by assumption) (by assumption) (.inl (by omega))).symm) | trace_state)) : p := h
theorem numberCt (F : Heap) (s : List UInt8) (hb : s.length ≤ 140737488355328) : Ct Tryz.prog 123 [.string (bs s)] F [] (fun _ _ u => u = .tuple ⟨[.int .i64 (numN s), .bool (numOK s)]⟩) := by
 have hbd := numD_len s
 refine Ct.enter Tryz.func123 rfl Tryz.ntmps123 rfl fun w0 a S => ?_
 (revert S a; refine go 7 ?_; intro Z hZ a S)
 (refine wc0 S (trimPrefixCt F s) ?_; clear S a; intro v a w hv S; subst hv)
 (revert S a; revert hZ Z; refine go 8 ?_; intro Z hZ Z hZ a S)
 refine wgd S ?_ ?_
 ·(clear S; intro h S)
  (revert S a; refine go 2 ?_; intro a S)
  (refine wc0 S (trimSCt F (numD s) (by omega)) ?_; clear S a; intro v a w hv S; subst hv)
  (revert S a; refine go 4 ?_; intro a S)
  refine wgd S ?_ ?_
  ·(clear S; intro h S)
   (revert S a; refine go 2 ?_; intro a S)
   (refine wv S (sv_indexSN (i := 0) S rfl rfl rfl (by first | omega | (have h9 : 0 < (numD s).length := List.length_pos_iff.2 (by assumption); omega))) ?_; clear S a; intro a S)
   (revert S a; refine go 4 ?_; intro a S)
   refine wgd S ?_ ?_
   ·(clear S; intro h S)
    (revert S a; revert hZ Z; refine go 8 ?_; intro a S)
    refine wpc_sp S rfl ?_ ?_ <;> intro h
    ·(revert S a; refine go 5 ?_; intro a S)
     refine wp_ret (fr2 S Tryz.results123 ?_)
     exact zzDeX0
    (revert S a; revert hZ Z; refine go 9 ?_; intro a S)
    refine wp_ret (fr2 S Tryz.results123 ?_)
    exact zzDeX0
   (clear S a; intro h a S)
   (revert S a; revert hZ Z; refine go 6 ?_; intro a S)
   refine wpc_false S rfl ?_
   (revert S a; revert hZ Z; refine go 9 ?_; intro a S)
   refine wp_ret (fr2 S Tryz.results123 ?_)
   exact zzDeX0
  (clear S a; intro h a S)
  (revert S a; revert hZ Z; refine go 9 ?_; intro a S)
  refine wpc_true S rfl ?_
  (revert S a; refine go 5 ?_; intro a S)
  refine wp_ret (fr2 S Tryz.results123 ?_)
  exact zzDeX0
 (clear S a; intro h a S)
 (revert S a; revert hZ Z; refine go 14 ?_; intro a S)
 refine wpc_true S rfl ?_
 (revert S a; refine go 5 ?_; intro a S)
 refine wp_ret (fr2 S Tryz.results123 ?_)
 exact zzDeX0
theorem zzDeX1 {p : Prop} (h : p := by (congr 1; rw [← hs]; first | (rw [Rose.drop_len (by omega)]; rfl) | (rw [hdr, depV_cons, if_pos (by omega)]) | trace_state)) : p := h
theorem depVCt (F : Heap) : ∀ (n : Nat) (h : VH) (L : Vf) (cs : List Value) (mo : Int), L.size ≤ n → mo ≤ 100 → -9223372036854775000 ≤ mo → VaC F cs h L → Ct Tryz.prog 80 [.agg ⟨cs⟩, .int .i64 mo] F [] (fun _ _ u => u = .int .i64 (depV L 0 mo + 1)) := by
 intro n
 induction n using Nat.strongRecOn with
 | _ n ih =>
 intro h L cs mo hn hm1 hm0 hV
 obtain ⟨v, rfl, ⟨ao, cap, rfl, hcap, hpos⟩, hsb⟩ := hV
 have hbd := depV_bd L 0 mo (Int.le_refl _)
 have hbx := depV_max L 0 mo (Int.le_refl _)
 refine Ct.enter Tryz.func80 rfl Tryz.ntmps80 rfl fun w0 a S => ?_
 refine wp_sr fun Z hZ => ?_
 (refine wbx S ?_; clear S a; intro b2 a w S)
 (revert S a; revert hZ Z; refine go 16 ?_; intro Z hZ a S)
 refine wpc_loop (fun m a w' => ∃ (k : Nat) (p : Int), m = L.len - k ∧ k ≤ L.len ∧ depV (L.drop k) p mo = depV L 0 mo ∧ 0 ≤ p ∧ St 27 [(1, .int .i64 mo), (2, ptr b2), (5, .int .i64 p), (9, .slice ao L.len cap), (10, .int .i64 L.len), (11, .int .i64 k)] w0 F [] F [[(b2, .cells ⟨[.int .u8 (h.k : Int), .int .i64 h.n, .string (bs h.s), .slice ao L.len cap]⟩ 33 (0, 0))]] a w') ?_ ?_
 ·(refine ⟨L.len, 0, 0, by omega, Nat.zero_le _, rfl, Int.le_refl _, ?_⟩; refine S.keep ?_; exact zk)
 (clear S; rintro m a w ⟨k, p, rfl, hkl, hs, hp, S⟩; have hb2 := depV_bd (L.drop k) p mo hp; rw [hs] at hb2)
 (revert S a; refine go 5 ?_; intro Z hZ a S)
 refine wpc_sp S rfl ?_ ?_ <;> intro h
 ·(revert S a; revert hZ Z; refine go 4 ?_; intro Z hZ a S)
  (refine wp_seq_k ?_; intro Z hZ)
  (obtain ⟨b8, o8, hao, x, cs1, v1, hx, hc1, hw9, hT1⟩ := TrM.pos hpos (k := k) (by omega); rw [hao] at S; have hxs := Rose.size_get hx; have hdr := Rose.drop_get hx; have hT1c := hT1; obtain ⟨a91, c91, rfl, -⟩ := hT1c; have hb3 := depV_bd x.2 0 (mo - 1) (Int.le_refl _); have hb4 := depV_max x.2 0 (mo - 1) (Int.le_refl _); have hw9c := hw9.1; subst hw9c; (simp only [List.cons_append, List.nil_append] at hc1))
  (revert S a; refine go 3 ?_; intro a S)
  (refine wpl_alloc S rfl rfl rfl rfl ?_; clear S a; intro b7 a w S)
  (refine wso S rfl rfl ?_; clear S; intro w S)
  (revert S a; revert hZ Z; refine go 9 ?_; intro Z hZ a S)
  refine wpc_sp S rfl ?_ ?_ <;> intro h
  ·(refine wp_exit ?_; conv => whnf)
   clear hZ Z
   clear hZ Z
   (revert S a; revert hZ Z; refine go 7 ?_; intro a S)
   refine wp_ret (fr1 S Tryz.results80 ?_)
   exact zzDeX1
  (revert S a; revert hZ Z; refine go 7 ?_; intro a S)
  (refine wc0 S (ih x.2.size (by omega) x.1 x.2 _ (mo - 1) (Nat.le_refl _) (by omega) (by omega) ⟨_, rfl, hT1, hw9.2⟩) ?_; clear S a; intro v a w hv S; subst hv)
  (refine wv S (sv_maxI S rfl rfl rfl) ?_; clear S a; intro a S)
  (revert S a; revert hZ Z; refine go 7 ?_; intro a S)
  change ∃ m', _ ∧ _
  (rw [← hao] at S; replace S := S.drop1; refine ⟨L.len - (k + 1), by omega, k + 1, max p (depV x.2 0 (mo - 1) + 1), rfl, by omega, ?_, ?_, ?_⟩; rotate_left 2; (refine S.keep ?_; exact zk); (rw [← hs, hdr, depV_cons, if_neg (by omega)]); omega)
 (refine wp_exit ?_; conv => whnf)
 clear hZ Z
 (revert S a; revert hZ Z; refine go 7 ?_; intro a S)
 refine wp_ret (fr1 S Tryz.results80 ?_)
 exact zzDeX1
end Go.Proofs.YtgefmjghdijbfaaGreatDoor
