/- Walks. -/
import Derived.Test.YthnafdbebniapaaGreatDoorQ19
import Derived.Test.YthnafdbebniapaaGreatDoorQ18
import Derived.Test.YthnafdbebniapaaGreatDoorQ08
import Derived.Test.YthnafdbebniapaaGreatDoorKCoverFitsTy
import Derived.Test.YthnafdbebniapaaGreatDoorQ17
import Derived.Test.YthnafdbebniapaaGreatDoorQ11
import Derived.Test.YthnafdbebniapaaGreatDoorQ10
import Derived.Test.YthnafdbebniapaaGreatDoorQ09
import Derived.Test.YthnafdbebniapaaGreatDoorQ06
import Derived.Test.YthnafdbebniapaaGreatDoorQ05
import Derived.Test.YthnafdbebniapaaGreatDoorQ04
import Derived.Test.YthnafdbebniapaaGreatDoorQ03
import Derived.Test.YthnafdbebniapaaGreatDoorQ02
import Derived.Test.YthnafdbebniapaaGreatDoorQ01
import Derived.Test.YthnafdbebniapaaGreatDoorQShelf
import Derived.Test.YthnafdbebniapaaGreatDoorQ12
import Derived.Test.YthnafdbebniapaaGreatDoorKCoverFits01
set_option maxHeartbeats 8000000
namespace Go.Proofs.YthnafdbebniapaaGreatDoor
open Go Go.Wk Go.Un Go.De
set_option linter.unusedSimpArgs false
set_option linter.unusedVariables false
attribute [local irreducible] Go.wpList Go.Code.wp Go.wpStill Go.Wk.wpPre Go.bodyPost Go.Calls Go.Wk.Ct Go.Wk.OwnS Go.Wk.wpG Go.Wk.wpM
theorem rletterCt (F : Heap) (c : Nat) : Ct Tryz.prog 220 [.int .u8 (c : Int)] F [] (fun _ _ u => u = .bool (decide (97 ≤ c ∧ c ≤ 122))) := by
 refine Ct.enter Tryz.func220 rfl Tryz.ntmps220 rfl fun w0 a S => ?_
 (revert S a; refine go 8 ?_; intro Z hZ a S)
 refine wgd S ?_ ?_
 ·(clear S; intro h S)
  (revert S a; revert hZ Z; refine go 7 ?_; intro a S)
  refine wp_ret (fr1 S Tryz.results220 ?_)
  (congr 1; first | (exact decide_eq_decide.2 (by omega)) | (exact (decide_eq_false (by omega)).symm) | trace_state)
 (clear S a; intro h a S)
 (revert S a; revert hZ Z; refine go 5 ?_; intro a S)
 refine wp_ret (fr1 S Tryz.results220 ?_)
 (congr 1; first | (exact decide_eq_decide.2 (by omega)) | (exact (decide_eq_false (by omega)).symm) | trace_state)
theorem zzEwC0 {p : Prop} (h : p := by (congr 1; first | (exact (name_no2 (k := k) (by omega) (decide_eq_false (by omega))).symm) | (exact (name_yes ⟨by assumption, by omega, by omega, by omega⟩ (fun j hj => hall j (by omega))).symm) | (exact (name_no1 (by rintro ⟨h1, h2, h3, h4⟩; first | omega | exact h1 (by assumption))).symm) | trace_state)) : p := h
theorem zzEwC1 {p : Prop} (h : p := by (refine ⟨s.length - (k + 1), by omega, k + 1, rfl, by omega, ?_, ?_⟩; rotate_left 1; (refine S.keep ?_; exact zk); intro j hj; rcases Nat.lt_or_eq_of_le (Nat.le_of_lt_succ hj) with h6 | h6; exact hall j h6; subst h6; exact decide_eq_true (by omega))) : p := h
theorem rnameCt (F : Heap) (s : List UInt8) : Ct Tryz.prog 166 [.string (bs s)] F [] (fun _ _ u => u = .bool (nameS s)) := by
 refine Ct.enter Tryz.func166 rfl Tryz.ntmps166 rfl fun w0 a S => ?_
 (revert S a; refine go 9 ?_; intro Z hZ Z hZ a S)
 refine wgd S ?_ ?_
 ·(clear S; intro h S)
  (revert S a; refine go 7 ?_; intro a S)
  refine wgd S ?_ ?_
  ·(clear S; intro h S)
   (revert S a; refine go 2 ?_; intro a S)
   (refine wv S (sv_indexSN (i := 0) S rfl rfl rfl (by first | omega | (have h9 : 0 < s.length := List.length_pos_iff.2 (by assumption); omega))) ?_; clear S a; intro a S)
   refine wpl_take S rfl rfl rfl ?_
   (refine wc0 S (rletterCt F _) ?_; clear S a; intro v a w hv S; subst hv)
   (revert S a; revert hZ Z; refine go 5 ?_; intro a S)
   refine wpc_sp S rfl ?_ ?_ <;> intro h
   ·(revert S a; refine go 4 ?_; intro a S)
    refine wp_ret (fr1 S Tryz.results166 ?_)
    exact zzEwC0
   (revert S a; revert hZ Z; refine go 8 ?_; intro Z hZ a S)
   refine wpc_loop (fun m a w' => ∃ (k : Nat), m = s.length - k ∧ k ≤ s.length ∧ (∀ j, j < k → nameN (s.getD j 0).toNat = true) ∧ St 52 [(0, .string (bs s)), (3, .int .i64 (k : Int))] w0 F [] F [] a w') ?_ ?_
   ·(refine ⟨s.length, 0, by omega, Nat.zero_le _, fun j h => absurd h (Nat.not_lt_zero _), ?_⟩; refine S.keep ?_; exact zk)
   (clear S; rintro m a w ⟨k, rfl, hkl, hall, S⟩)
   (revert S a; refine go 8 ?_; intro Z hZ a S)
   refine wpc_sp S rfl ?_ ?_ <;> intro h
   ·(revert S a; revert hZ Z; refine go 7 ?_; intro Z hZ Z hZ a S)
    first | (refine wv S (sv_indexSN S rfl rfl rfl (by first | omega | (have h9 : 0 < s.length := List.length_pos_iff.2 (by assumption); omega))) ?_; clear S a; intro a S) | (refine wv S (sv_indexS S rfl rfl rfl (by first | omega | (have h9 : 0 < s.length := List.length_pos_iff.2 (by assumption); omega))) ?_; clear S a; intro a S)
    (revert S a; revert hZ Z; refine go 5 ?_; intro Z hZ a S)
    (refine wc0 S (rletterCt F _) ?_; clear S a; intro v a w hv S; subst hv)
    (revert S a; refine go 2 ?_; intro a S)
    refine wgd S ?_ ?_
    ·(clear S; intro h S)
     (revert S a; refine go 5 ?_; intro a S)
     refine wgd S ?_ ?_
     ·(clear S; intro h S)
      (revert S a; refine go 9 ?_; intro a S)
      refine wgd S ?_ ?_
      ·(clear S; intro h S)
       (revert S a; refine go 5 ?_; intro a S)
       refine wgd S ?_ ?_
       ·(clear S; intro h S)
        (revert S a; refine go 9 ?_; intro a S)
        refine wgd S ?_ ?_
        ·(clear S; intro h S)
         (revert S a; revert hZ Z; refine go 6 ?_; intro a S)
         refine wpc_sp S rfl ?_ ?_ <;> intro h
         ·(revert S a; refine go 4 ?_; intro a S)
          refine wp_ret (fr1 S Tryz.results166 ?_)
          exact zzEwC0
         (revert S a; revert hZ Z; refine go 4 ?_; intro a S)
         (refine wv S (sv_add S rfl rfl rfl (by first | omega | (have h9 : 0 < s.length := List.length_pos_iff.2 (by assumption); omega))) ?_; clear S a; intro a S)
         (revert S a; refine go 2 ?_; intro a S)
         change ∃ m', _ ∧ _
         exact zzEwC1
        (clear S a; intro h a S)
        (revert S a; revert hZ Z; refine go 4 ?_; intro a S)
        refine wpc_false S rfl ?_
        (revert S a; revert hZ Z; refine go 4 ?_; intro a S)
        (refine wv S (sv_add S rfl rfl rfl (by first | omega | (have h9 : 0 < s.length := List.length_pos_iff.2 (by assumption); omega))) ?_; clear S a; intro a S)
        (revert S a; refine go 2 ?_; intro a S)
        change ∃ m', _ ∧ _
        exact zzEwC1
       (clear S a; intro h a S)
       (revert S a; revert hZ Z; refine go 14 ?_; intro a S)
       refine wpc_sp S rfl ?_ ?_ <;> intro h
       ·(revert S a; refine go 4 ?_; intro a S)
        refine wp_ret (fr1 S Tryz.results166 ?_)
        exact zzEwC0
       (revert S a; revert hZ Z; refine go 4 ?_; intro a S)
       (refine wv S (sv_add S rfl rfl rfl (by first | omega | (have h9 : 0 < s.length := List.length_pos_iff.2 (by assumption); omega))) ?_; clear S a; intro a S)
       (revert S a; refine go 2 ?_; intro a S)
       change ∃ m', _ ∧ _
       exact zzEwC1
      (clear S a; intro h a S)
      (revert S a; revert hZ Z; refine go 13 ?_; intro a S)
      refine wpc_false S rfl ?_
      (revert S a; revert hZ Z; refine go 4 ?_; intro a S)
      (refine wv S (sv_add S rfl rfl rfl (by first | omega | (have h9 : 0 < s.length := List.length_pos_iff.2 (by assumption); omega))) ?_; clear S a; intro a S)
      (revert S a; refine go 2 ?_; intro a S)
      change ∃ m', _ ∧ _
      exact zzEwC1
     (clear S a; intro h a S)
     (revert S a; refine go 13 ?_; intro a S)
     refine wgd S ?_ ?_
     ·(clear S; intro h S)
      (revert S a; refine go 9 ?_; intro a S)
      refine wgd S ?_ ?_
      ·(clear S; intro h S)
       (revert S a; revert hZ Z; refine go 6 ?_; intro a S)
       refine wpc_sp S rfl ?_ ?_ <;> intro h
       ·(revert S a; refine go 4 ?_; intro a S)
        refine wp_ret (fr1 S Tryz.results166 ?_)
        exact zzEwC0
       (revert S a; revert hZ Z; refine go 4 ?_; intro a S)
       (refine wv S (sv_add S rfl rfl rfl (by first | omega | (have h9 : 0 < s.length := List.length_pos_iff.2 (by assumption); omega))) ?_; clear S a; intro a S)
       (revert S a; refine go 2 ?_; intro a S)
       change ∃ m', _ ∧ _
       exact zzEwC1
      (clear S a; intro h a S)
      (revert S a; revert hZ Z; refine go 4 ?_; intro a S)
      refine wpc_false S rfl ?_
      (revert S a; revert hZ Z; refine go 4 ?_; intro a S)
      (refine wv S (sv_add S rfl rfl rfl (by first | omega | (have h9 : 0 < s.length := List.length_pos_iff.2 (by assumption); omega))) ?_; clear S a; intro a S)
      (revert S a; refine go 2 ?_; intro a S)
      change ∃ m', _ ∧ _
      exact zzEwC1
     (clear S a; intro h a S)
     (revert S a; revert hZ Z; refine go 14 ?_; intro a S)
     refine wpc_sp S rfl ?_ ?_ <;> intro h
     ·(revert S a; refine go 4 ?_; intro a S)
      refine wp_ret (fr1 S Tryz.results166 ?_)
      exact zzEwC0
     (revert S a; revert hZ Z; refine go 4 ?_; intro a S)
     (refine wv S (sv_add S rfl rfl rfl (by first | omega | (have h9 : 0 < s.length := List.length_pos_iff.2 (by assumption); omega))) ?_; clear S a; intro a S)
     (revert S a; refine go 2 ?_; intro a S)
     change ∃ m', _ ∧ _
     exact zzEwC1
    (clear S a; intro h a S)
    (revert S a; revert hZ Z; refine go 22 ?_; intro a S)
    refine wpc_false S rfl ?_
    (revert S a; revert hZ Z; refine go 4 ?_; intro a S)
    (refine wv S (sv_add S rfl rfl rfl (by first | omega | (have h9 : 0 < s.length := List.length_pos_iff.2 (by assumption); omega))) ?_; clear S a; intro a S)
    (revert S a; refine go 2 ?_; intro a S)
    change ∃ m', _ ∧ _
    exact zzEwC1
   (refine wp_exit ?_; conv => whnf)
   clear hZ Z
   (revert S a; revert hZ Z; refine go 5 ?_; intro a S)
   refine wp_ret (fr1 S Tryz.results166 ?_)
   exact zzEwC0
  (clear S a; intro h a S)
  (revert S a; revert hZ Z; refine go 6 ?_; intro a S)
  refine wpc_true S rfl ?_
  (revert S a; refine go 4 ?_; intro a S)
  refine wp_ret (fr1 S Tryz.results166 ?_)
  exact zzEwC0
 (clear S a; intro h a S)
 (revert S a; revert hZ Z; refine go 11 ?_; intro a S)
 refine wpc_true S rfl ?_
 (revert S a; refine go 4 ?_; intro a S)
 refine wp_ret (fr1 S Tryz.results166 ?_)
 exact zzEwC0
theorem rdigitsCt (F : Heap) (s : List UInt8) (hs : s ≠ []) (hb : s.length ≤ 140737488355328) : Ct Tryz.prog 115 [.string (bs s)] F [] (fun _ _ u => u = .int .i64 (rdig s)) := by
 have h9 : 0 < s.length := List.length_pos_iff.2 hs
 refine Ct.enter Tryz.func115 rfl Tryz.ntmps115 rfl fun w0 a S => ?_
 (revert S a; refine go 7 ?_; intro Z hZ Z hZ a S)
 (refine wv S (sv_indexSN (i := 0) S rfl rfl rfl (by omega)) ?_; clear S a; intro a S)
 (revert S a; revert hZ Z; refine go 3 ?_; intro a S)
 refine wpc_sp S rfl ?_ ?_ <;> intro h
 ·(revert S a; refine go 7 ?_; intro a S)
  refine wp_ret (fr1 S Tryz.results115 ?_)
  (congr 1; unfold rdig; first | (rw [if_pos (by omega)]; done) | (rw [if_neg (by omega)]; done) | trace_state)
 (revert S a; revert hZ Z; refine go 8 ?_; intro a S)
 refine wp_ret (fr1 S Tryz.results115 ?_)
 (congr 1; unfold rdig; first | (rw [if_pos (by omega)]; done) | (rw [if_neg (by omega)]; done) | trace_state)
theorem numB_at {d : List UInt8} {k : Nat} (hk : k < d.length) (h : ¬ (48 ≤ (d.getD k 0).toNat ∧ (d.getD k 0).toNat ≤ 57)) : numB d = false := by
 unfold numB
 rw [Bool.and_eq_false_iff]
 right
 rw [List.all_eq_false]
 refine ⟨d[k], List.getElem_mem hk, ?_⟩
 rw [List.getD_eq_getElem?_getD, List.getElem?_eq_getElem hk] at h
 simpa [digB] using h
theorem numB_no {d : List UInt8} (h : ¬ (d ≠ [] ∧ ¬ (1 < d.length ∧ (d.getD 0 0).toNat = 48))) : numB d = false := by
 unfold numB; rw [decide_eq_false h, Bool.false_and]
theorem numB_yes {d : List UInt8} (h : d ≠ [] ∧ ¬ (1 < d.length ∧ (d.getD 0 0).toNat = 48)) (h2 : ∀ j, j < d.length → digB (d.getD j 0) = true) : numB d = true := by
 unfold numB
 rw [decide_eq_true h, Bool.true_and, List.all_eq_true]
 intro c hc
 obtain ⟨j, hj, rfl⟩ := List.mem_iff_getElem.1 hc
 have := h2 j hj
 rwa [List.getD_eq_getElem?_getD, List.getElem?_eq_getElem hj] at this
theorem zzEwD0 {p : Prop} (h : p := by (congr 1; first | (unfold rnum; rw [if_pos (by omega), if_pos (by omega)]; done) | (rw [hrd]; first | (exact (numB_at (k := k) (by omega) (by omega)).symm) | (exact (numB_no (by rintro ⟨h1, h2⟩; first | omega | exact h1 (by assumption))).symm) | (exact (numB_yes ⟨by assumption, by omega⟩ (fun j hj => hall j (by omega))).symm)) | trace_state)) : p := h
theorem zzEwD1 {p : Prop} (h : p := by (refine ⟨d.length - (k + 1), by omega, k + 1, rfl, by omega, ?_, ?_⟩; rotate_left 1; (refine S.keep ?_; exact zk); intro j hj; rcases Nat.lt_or_eq_of_le (Nat.le_of_lt_succ hj) with h6 | h6; exact hall j h6; subst h6; exact decide_eq_true (by omega))) : p := h
theorem zzEwD2 {p : Prop} (h : p := by (first | (refine ⟨s.drop 1, ?_, by rw [List.length_drop]; omega, ?_⟩; rotate_left 1; (refine S.keep ?_; exact zk); unfold rnum; rw [if_pos (by omega), if_neg (by omega)]) | (refine ⟨s, ?_, Nat.le_refl _, ?_⟩; rotate_left 1; (refine S.keep ?_; exact zk); unfold rnum; rw [if_neg (by omega)]))) : p := h
theorem rnumberCt (F : Heap) (s : List UInt8) (hb : s.length ≤ 140737488355328) : Ct Tryz.prog 113 [.string (bs s)] F [] (fun _ _ u => u = .bool (rnum s)) := by
  refine Ct.enter Tryz.func113 rfl Tryz.ntmps113 rfl fun w0 a S => ?_
  (revert S a; refine go 4 ?_; intro a S)
  (refine wp_seq_k ?_; intro Z hZ)
  replace hZ : ∀ (a' : Act) (w' : World), (∃ (d : List UInt8), rnum s = numB d ∧ d.length ≤ s.length ∧ St 45 [(0, .string (bs d))] w0 F [] F [] a' w') → Z a' w' := (by
   (intro a w hM; refine hZ _ _ ?_; clear hZ Z; clear S; obtain ⟨d, hrd, hdl, S⟩ := hM)
   (revert S a; refine go 5 ?_; intro Z hZ Z hZ a S)
   refine wgd S ?_ ?_
   · (clear S; intro h S)
     (revert S a; refine go 7 ?_; intro a S)
     refine wgd S ?_ ?_
     · (clear S; intro h S)
       (revert S a; refine go 2 ?_; intro a S)
       (refine wv S (sv_indexSN (i := 0) S rfl rfl rfl (by first | omega | (simp only [List.length_drop]; omega) | (have h9 : 0 < s.length := List.length_pos_iff.2 (by assumption); omega) | (have h9 : 0 < d.length := List.length_pos_iff.2 (by assumption); omega))) ?_; clear S a; intro a S)
       (revert S a; revert hZ Z; refine go 7 ?_; intro a S)
       refine wpc_sp S rfl ?_ ?_ <;> intro h
       · (revert S a; refine go 4 ?_; intro a S)
         refine wp_ret (fr1 S Tryz.results113 ?_)
         exact zzEwD0
       (revert S a; revert hZ Z; refine go 8 ?_; intro Z hZ a S)
       refine wpc_loop (fun m a w' => ∃ (k : Nat), m = d.length - k ∧ k ≤ d.length ∧ (∀ j, j < k → digB (d.getD j 0) = true) ∧ St 45 [(0, .string (bs d)), (3, .int .i64 (k : Int))] w0 F [] F [] a w') ?_ ?_
       · (refine ⟨d.length, 0, by omega, Nat.zero_le _, fun j h => absurd h (Nat.not_lt_zero _), ?_⟩; refine S.keep ?_; exact zk)
       (clear S; rintro m a w ⟨k, rfl, hkl, hall, S⟩)
       (revert S a; refine go 8 ?_; intro Z hZ a S)
       refine wpc_sp S rfl ?_ ?_ <;> intro h
       · (revert S a; revert hZ Z; refine go 7 ?_; intro Z hZ Z hZ a S)
         first | (refine wv S (sv_indexSN S rfl rfl rfl (by first | omega | (simp only [List.length_drop]; omega) | (have h9 : 0 < s.length := List.length_pos_iff.2 (by assumption); omega) | (have h9 : 0 < d.length := List.length_pos_iff.2 (by assumption); omega))) ?_; clear S a; intro a S) | (refine wv S (sv_indexS S rfl rfl rfl (by first | omega | (simp only [List.length_drop]; omega) | (have h9 : 0 < s.length := List.length_pos_iff.2 (by assumption); omega) | (have h9 : 0 < d.length := List.length_pos_iff.2 (by assumption); omega))) ?_; clear S a; intro a S)
         (revert S a; refine go 2 ?_; intro a S)
         refine wgd S ?_ ?_
         · (clear S; intro h S)
           (revert S a; refine go 4 ?_; intro a S)
           first | (refine wv S (sv_indexSN S rfl rfl rfl (by first | omega | (simp only [List.length_drop]; omega) | (have h9 : 0 < s.length := List.length_pos_iff.2 (by assumption); omega) | (have h9 : 0 < d.length := List.length_pos_iff.2 (by assumption); omega))) ?_; clear S a; intro a S) | (refine wv S (sv_indexS S rfl rfl rfl (by first | omega | (simp only [List.length_drop]; omega) | (have h9 : 0 < s.length := List.length_pos_iff.2 (by assumption); omega) | (have h9 : 0 < d.length := List.length_pos_iff.2 (by assumption); omega))) ?_; clear S a; intro a S)
           (revert S a; revert hZ Z; refine go 5 ?_; intro a S)
           refine wpc_sp S rfl ?_ ?_ <;> intro h
           · (revert S a; refine go 4 ?_; intro a S)
             refine wp_ret (fr1 S Tryz.results113 ?_)
             exact zzEwD0
           (revert S a; revert hZ Z; refine go 4 ?_; intro a S)
           (refine wv S (sv_add S rfl rfl rfl (by first | omega | (simp only [List.length_drop]; omega) | (have h9 : 0 < s.length := List.length_pos_iff.2 (by assumption); omega) | (have h9 : 0 < d.length := List.length_pos_iff.2 (by assumption); omega))) ?_; clear S a; intro a S)
           (revert S a; refine go 2 ?_; intro a S)
           change ∃ m', _ ∧ _
           exact zzEwD1
         (clear S a; intro h a S)
         (revert S a; revert hZ Z; refine go 6 ?_; intro a S)
         refine wpc_true S rfl ?_
         (revert S a; refine go 4 ?_; intro a S)
         refine wp_ret (fr1 S Tryz.results113 ?_)
         exact zzEwD0
       (refine wp_exit ?_; conv => whnf)
       clear hZ Z
       (revert S a; revert hZ Z; refine go 5 ?_; intro a S)
       refine wp_ret (fr1 S Tryz.results113 ?_)
       exact zzEwD0
     (clear S a; intro h a S)
     (revert S a; revert hZ Z; refine go 7 ?_; intro a S)
     refine wpc_false S rfl ?_
     (revert S a; revert hZ Z; refine go 8 ?_; intro Z hZ a S)
     refine wpc_loop (fun m a w' => ∃ (k : Nat), m = d.length - k ∧ k ≤ d.length ∧ (∀ j, j < k → digB (d.getD j 0) = true) ∧ St 45 [(0, .string (bs d)), (3, .int .i64 (k : Int))] w0 F [] F [] a w') ?_ ?_
     · (refine ⟨d.length, 0, by omega, Nat.zero_le _, fun j h => absurd h (Nat.not_lt_zero _), ?_⟩; refine S.keep ?_; exact zk)
     (clear S; rintro m a w ⟨k, rfl, hkl, hall, S⟩)
     (revert S a; refine go 8 ?_; intro Z hZ a S)
     refine wpc_sp S rfl ?_ ?_ <;> intro h
     · (revert S a; revert hZ Z; refine go 7 ?_; intro Z hZ Z hZ a S)
       first | (refine wv S (sv_indexSN S rfl rfl rfl (by first | omega | (simp only [List.length_drop]; omega) | (have h9 : 0 < s.length := List.length_pos_iff.2 (by assumption); omega) | (have h9 : 0 < d.length := List.length_pos_iff.2 (by assumption); omega))) ?_; clear S a; intro a S) | (refine wv S (sv_indexS S rfl rfl rfl (by first | omega | (simp only [List.length_drop]; omega) | (have h9 : 0 < s.length := List.length_pos_iff.2 (by assumption); omega) | (have h9 : 0 < d.length := List.length_pos_iff.2 (by assumption); omega))) ?_; clear S a; intro a S)
       (revert S a; refine go 2 ?_; intro a S)
       refine wgd S ?_ ?_
       · (clear S; intro h S)
         (revert S a; refine go 4 ?_; intro a S)
         first | (refine wv S (sv_indexSN S rfl rfl rfl (by first | omega | (simp only [List.length_drop]; omega) | (have h9 : 0 < s.length := List.length_pos_iff.2 (by assumption); omega) | (have h9 : 0 < d.length := List.length_pos_iff.2 (by assumption); omega))) ?_; clear S a; intro a S) | (refine wv S (sv_indexS S rfl rfl rfl (by first | omega | (simp only [List.length_drop]; omega) | (have h9 : 0 < s.length := List.length_pos_iff.2 (by assumption); omega) | (have h9 : 0 < d.length := List.length_pos_iff.2 (by assumption); omega))) ?_; clear S a; intro a S)
         (revert S a; revert hZ Z; refine go 5 ?_; intro a S)
         refine wpc_sp S rfl ?_ ?_ <;> intro h
         · (revert S a; refine go 4 ?_; intro a S)
           refine wp_ret (fr1 S Tryz.results113 ?_)
           exact zzEwD0
         (revert S a; revert hZ Z; refine go 4 ?_; intro a S)
         (refine wv S (sv_add S rfl rfl rfl (by first | omega | (simp only [List.length_drop]; omega) | (have h9 : 0 < s.length := List.length_pos_iff.2 (by assumption); omega) | (have h9 : 0 < d.length := List.length_pos_iff.2 (by assumption); omega))) ?_; clear S a; intro a S)
         (revert S a; refine go 2 ?_; intro a S)
         change ∃ m', _ ∧ _
         exact zzEwD1
       (clear S a; intro h a S)
       (revert S a; revert hZ Z; refine go 6 ?_; intro a S)
       refine wpc_true S rfl ?_
       (revert S a; refine go 4 ?_; intro a S)
       refine wp_ret (fr1 S Tryz.results113 ?_)
       exact zzEwD0
     (refine wp_exit ?_; conv => whnf)
     clear hZ Z
     (revert S a; revert hZ Z; refine go 5 ?_; intro a S)
     refine wp_ret (fr1 S Tryz.results113 ?_)
     exact zzEwD0
   (clear S a; intro h a S)
   (revert S a; revert hZ Z; refine go 10 ?_; intro a S)
   refine wpc_true S rfl ?_
   (revert S a; refine go 4 ?_; intro a S)
   refine wp_ret (fr1 S Tryz.results113 ?_)
   (congr 1; first | (unfold rnum; rw [if_pos (by omega), if_pos (by omega)]; done) | (rw [hrd]; first | (exact (numB_at (k := k) (by omega) (by omega)).symm) | (exact (numB_no (by rintro ⟨h1, h2⟩; first | omega | exact h1 (by assumption))).symm) | (exact (numB_yes ⟨by assumption, by omega⟩ (fun j hj => hall j (by omega))).symm)) | trace_state))
  (revert S a; refine go 5 ?_; intro Z hZ a S)
  refine wgd S ?_ ?_
  · (clear S; intro h S)
    (revert S a; refine go 2 ?_; intro a S)
    (refine wv S (sv_indexSN (i := 0) S rfl rfl rfl (by first | omega | (simp only [List.length_drop]; omega) | (have h9 : 0 < s.length := List.length_pos_iff.2 (by assumption); omega) | (have h9 : 0 < d.length := List.length_pos_iff.2 (by assumption); omega))) ?_; clear S a; intro a S)
    (revert S a; revert hZ Z; refine go 5 ?_; intro a S)
    refine wpc_sp S rfl ?_ ?_ <;> intro h
    · (revert S a; refine go 2 ?_; intro Z hZ a S)
      (refine wv S (sv_sliceS_lo S rfl rfl rfl (by first | omega | (simp only [List.length_drop]; omega) | (have h9 : 0 < s.length := List.length_pos_iff.2 (by assumption); omega) | (have h9 : 0 < d.length := List.length_pos_iff.2 (by assumption); omega))) ?_; clear S a; intro a S)
      (rw [show Int.toNat 1 = 1 from rfl] at S)
      (revert S a; revert hZ Z; refine go 5 ?_; intro Z hZ a S)
      (refine wv S (sv_indexSN (i := 0) S rfl rfl rfl (by first | omega | (simp only [List.length_drop]; omega) | (have h9 : 0 < s.length := List.length_pos_iff.2 (by assumption); omega) | (have h9 : 0 < d.length := List.length_pos_iff.2 (by assumption); omega))) ?_; clear S a; intro a S)
      (revert S a; revert hZ Z; refine go 3 ?_; intro a S)
      refine wpc_sp S rfl ?_ ?_ <;> intro h
      · (revert S a; refine go 4 ?_; intro a S)
        refine wp_ret (fr1 S Tryz.results113 ?_)
        exact zzEwD0
      refine wp_skip ?_
      (refine hZ _ _ ?_)
      exact zzEwD2
    refine wp_skip ?_
    (refine hZ _ _ ?_)
    exact zzEwD2
  (clear S a; intro h a S)
  (revert S a; revert hZ Z; refine go 5 ?_; intro a S)
  refine wpc_false S rfl ?_
  refine wp_skip ?_
  (refine hZ _ _ ?_)
  exact zzEwD2
theorem idxB_cons (c d : UInt8) (r : List UInt8) : Lib.indexByte (d :: r) c = if d = c then 0 else if Lib.indexByte r c < 0 then -1 else Lib.indexByte r c + 1 := by
 have hg := Lib.indexByte_ge r c
 show (if (d == c) = true then (0 : Int) else if (Lib.indexByte r c == -1) = true then -1 else Lib.indexByte r c + 1) = _
 by_cases h : d = c
 ·rw [if_pos (by simpa using h), if_pos h]
 ·rw [if_neg (by simpa using h), if_neg h]
  by_cases h2 : Lib.indexByte r c < 0
  ·rw [if_pos h2, if_pos (by simp; omega)]
  ·rw [if_neg h2, if_neg (by simp; omega)]
theorem cutI_at : ∀ {s : List UInt8} {k : Nat}, k < s.length → (s.getD k 0).toNat = 46 → (∀ j, j < k → (s.getD j 0).toNat ≠ 46) → cutI s = k
 | [], k, hk, _, _ => absurd hk (Nat.not_lt_zero _)
 | d :: r, 0, _, h, _ => by
  unfold cutI
  rw [idxB_cons, if_pos (UInt8.toNat_inj.1 (show d.toNat = (46 : UInt8).toNat from h))]; rfl
 | d :: r, k + 1, hk, h, hall => by
  have ih := cutI_at (s := r) (k := k) (by simpa using hk) (by simpa using h) (fun j hj => by have := hall (j + 1) (by omega); simpa using this)
  have h0 : d ≠ 46 := fun e => hall 0 (by omega) (by subst e; rfl)
  unfold cutI at ih ⊢
  rw [idxB_cons, if_neg h0, ih, if_neg (by omega)]; rfl
theorem cutI_no : ∀ {s : List UInt8}, (∀ j, j < s.length → (s.getD j 0).toNat ≠ 46) → cutI s = -1
 | [], _ => rfl
 | d :: r, hall => by
  have ih := cutI_no (s := r) (fun j hj => by have := hall (j + 1) (by simpa using hj); simpa using this)
  have h0 : d ≠ 46 := fun e => hall 0 (by simp) (by subst e; rfl)
  unfold cutI at ih ⊢
  rw [idxB_cons, if_neg h0, ih, if_pos (by decide)]
theorem zzEwE0 {p : Prop} (h : p := by (congr 1; unfold rnamesS; first | (rw [if_pos (Or.inl (by assumption))]; done) | (rw [if_pos (Or.inr (by assumption))]; done) | (rw [if_neg (by rintro (h | h); exact absurd h (by assumption); exact absurd h (by assumption)), if_neg (by rw [cutI_no (fun j hj => hall j (by omega))]; decide)]; done) | (rw [if_neg (by rintro (h | h); exact absurd h (by assumption); exact absurd h (by assumption)), if_pos (by omega)]; unfold Go.De.cutA cutB; rw [if_pos (by omega), if_pos (by omega), hci]; simp_all; done) | trace_state)) : p := h
theorem r2namesCt (F : Heap) (s : List UInt8) (hb : s.length ≤ 140737488355328) : Ct Tryz.prog 114 [.string (bs s)] F [] (fun _ _ u => u = .bool (rnamesS s)) := by
 refine Ct.enter Tryz.func114 rfl Tryz.ntmps114 rfl fun w0 a S => ?_
 (revert S a; refine go 9 ?_; intro Z hZ Z hZ a S)
 refine wgd S ?_ ?_
 ·(clear S; intro h S)
  (revert S a; revert hZ Z; refine go 6 ?_; intro a S)
  refine wpc_sp S rfl ?_ ?_ <;> intro h
  ·(revert S a; refine go 4 ?_; intro a S)
   refine wp_ret (fr1 S Tryz.results114 ?_)
   exact zzEwE0
  (revert S a; revert hZ Z; refine go 8 ?_; intro Z hZ a S)
  refine wpc_loop (fun m a w' => ∃ (k : Nat), m = s.length - k ∧ k ≤ s.length ∧ (∀ j, j < k → (s.getD j 0).toNat ≠ 46) ∧ St 33 [(0, .string (bs s)), (3, .int .i64 (k : Int))] w0 F [] F [] a w') ?_ ?_
  ·(refine ⟨s.length, 0, by omega, Nat.zero_le _, fun j h => absurd h (Nat.not_lt_zero _), ?_⟩; refine S.keep ?_; exact zk)
  (clear S; rintro m a w ⟨k, rfl, hkl, hall, S⟩)
  (revert S a; refine go 8 ?_; intro Z hZ a S)
  refine wpc_sp S rfl ?_ ?_ <;> intro h
  ·(revert S a; revert hZ Z; refine go 7 ?_; intro Z hZ Z hZ a S)
   first | (refine wv S (sv_indexSN S rfl rfl rfl (by first | omega | (simp only [List.length_append, List.length_cons, List.length_nil]; omega))) ?_; clear S a; intro a S) | (refine wv S (sv_indexS S rfl rfl rfl (by first | omega | (simp only [List.length_append, List.length_cons, List.length_nil]; omega))) ?_; clear S a; intro a S)
   (revert S a; revert hZ Z; refine go 3 ?_; intro a S)
   refine wpc_sp S rfl ?_ ?_ <;> intro h
   ·(refine wp_seq_k ?_; intro Z hZ)
    (have hci := cutI_at (by omega) (by omega) hall)
    (revert S a; refine go 3 ?_; intro a S)
    (refine wv S (sv_sliceS_hi S rfl rfl rfl (by first | omega | (simp only [List.length_append, List.length_cons, List.length_nil]; omega))) ?_; clear S a; intro a S)
    (refine wc0 S (rnameCt F _) ?_; clear S a; intro v a w hv S; subst hv)
    (revert S a; refine go 1 ?_; intro a S)
    refine wgd S ?_ ?_
    ·(clear S; intro h S)
     (revert S a; refine go 6 ?_; intro a S)
     (refine wv S (sv_sliceS_lo S rfl rfl rfl (by first | omega | (simp only [List.length_append, List.length_cons, List.length_nil]; omega))) ?_; clear S a; intro a S)
     refine wpl_take S rfl rfl rfl ?_
     (refine wc0 S (rnameCt F _) ?_; clear S a; intro v a w hv S; subst hv)
     (revert S a; revert hZ Z; refine go 4 ?_; intro a S)
     refine wp_ret (fr1 S Tryz.results114 ?_)
     exact zzEwE0
    (clear S a; intro h a S)
    (revert S a; revert hZ Z; refine go 8 ?_; intro a S)
    refine wp_ret (fr1 S Tryz.results114 ?_)
    exact zzEwE0
   (revert S a; revert hZ Z; refine go 7 ?_; intro a S)
   change ∃ m', _ ∧ _
   (refine ⟨s.length - (k + 1), by omega, k + 1, rfl, by omega, ?_, ?_⟩; rotate_left 1; (refine S.keep ?_; exact zk); intro j hj; rcases Nat.lt_or_eq_of_le (Nat.le_of_lt_succ hj) with h6 | h6; exact hall j h6; subst h6; omega)
  (refine wp_exit ?_; conv => whnf)
  clear hZ Z
  (revert S a; revert hZ Z; refine go 3 ?_; intro Z hZ a S)
  (refine wc0 S (rnameCt F _) ?_; clear S a; intro v a w hv S; subst hv)
  (revert S a; revert hZ Z; refine go 3 ?_; intro a S)
  refine wp_ret (fr1 S Tryz.results114 ?_)
  exact zzEwE0
 (clear S a; intro h a S)
 (revert S a; revert hZ Z; refine go 4 ?_; intro a S)
 refine wpc_true S rfl ?_
 (revert S a; refine go 4 ?_; intro a S)
 refine wp_ret (fr1 S Tryz.results114 ?_)
 exact zzEwE0
end Go.Proofs.YthnafdbebniapaaGreatDoor
