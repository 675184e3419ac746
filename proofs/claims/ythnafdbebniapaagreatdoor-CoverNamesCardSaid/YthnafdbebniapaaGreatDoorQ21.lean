/- Walks. -/
import Derived.Test.YthnafdbebniapaaGreatDoorQ18
import Derived.Test.YthnafdbebniapaaGreatDoorQ20
import Derived.Test.YthnafdbebniapaaGreatDoorQ06
import Derived.Test.YthnafdbebniapaaGreatDoorQ19
import Derived.Test.YthnafdbebniapaaGreatDoorQ12
import Derived.Lib.AppendZeros
import Derived.Test.YthnafdbebniapaaGreatDoorQ04
set_option maxHeartbeats 4000000
set_option maxRecDepth 20000
namespace Go.Proofs.YthnafdbebniapaaGreatDoor
open Go Go.Wk Go.Un Go.De Go.Cv
set_option linter.unusedSimpArgs false
set_option linter.unusedVariables false
attribute [local irreducible] Go.wpList Go.Code.wp Go.wpStill Go.Wk.wpPre Go.bodyPost Go.Calls Go.Wk.Ct Go.Wk.OwnS Go.Wk.wpG Go.Wk.wpM
def MaxF (F : Heap) : Prop := ∃ m : Int, Cel F 1 0 (.int .i64 m)
theorem MaxF.mono {F F' : Heap} (h : MaxF F) (hF : ∀ b o, F b = some o → F' b = some o) : MaxF F' := by obtain ⟨m, h⟩ := h; exact ⟨m, Cel.mono hF h⟩
theorem tcontCt (F : Heap) (hM : MaxF F) (s t : List UInt8) (hs : s.length ≤ 1000000) : Ct Tryz.prog 203 [.string (bs s), .string (bs t)] F [] (fun _ _ u => u = .bool (Lib.contains s t)) := by
 obtain ⟨m, c, e, f, h3, h4⟩ := hM
 refine ct_of_below fun w hw => ?_
 refine (Tryz.strings_Contains (bs s) (bs t) m w (by rw [bs_size]; omega) (cell_of_heap (hw.frz _ _ h3) h4)).mono fun e w' ⟨h1, h2⟩ => ⟨?_, ?_⟩
 ·rw [h1]; rfl
 ·rw [h2]; exact RowKit.Below.refl _ _
def restS (s : List UInt8) : Bool := s.all (fun c => nameN c.toNat) && decide (s.length ≤ 32)
theorem rest_no {s : List UInt8} {k : Nat} (hk : k < s.length) (h : nameN (s.getD k 0).toNat = false) : restS s = false := by
 unfold restS
 rw [Bool.and_eq_false_iff]
 left
 rw [List.all_eq_false]
 refine ⟨s[k], List.getElem_mem hk, ?_⟩
 rw [List.getD_eq_getElem?_getD, List.getElem?_eq_getElem hk] at h
 simpa using h
theorem rest_end {s : List UInt8} (h2 : ∀ j, j < s.length → nameN (s.getD j 0).toNat = true) : restS s = decide (s.length ≤ 32) := by
 unfold restS
 have : s.all (fun c => nameN c.toNat) = true := by
  rw [List.all_eq_true]
  intro c hc
  obtain ⟨j, hj, rfl⟩ := List.mem_iff_getElem.1 hc
  have := h2 j hj
  rwa [List.getD_eq_getElem?_getD, List.getElem?_eq_getElem hj] at this
 rw [this, Bool.true_and]
theorem zzTr0 {p : Prop} (h : p := by (congr 1; first | (exact (rest_no (k := k) (by omega) (decide_eq_false (by omega))).symm) | (rw [rest_end (fun j hj => hall j (by omega))]; exact decide_eq_decide.2 (by omega)) | trace_state)) : p := h
theorem zzTr1 {p : Prop} (h : p := by (refine ⟨s.length - (k + 1), by omega, k + 1, rfl, by omega, ?_, ?_⟩; rotate_left 1; (refine S.keep ?_; exact zk); intro j hj; rcases Nat.lt_or_eq_of_le (Nat.le_of_lt_succ hj) with h6 | h6; exact hall j h6; subst h6; exact decide_eq_true (by omega))) : p := h
theorem restCt (F : Heap) (s : List UInt8) (hs : s.length ≤ 140737488355328) : Ct Tryz.prog 202 [.string (bs s)] F [] (fun _ _ u => u = .bool (restS s)) := by
 refine Ct.enter Tryz.func202 rfl Tryz.ntmps202 rfl fun w0 a S => ?_
 (revert S a; refine go 12 ?_; intro Z hZ a S)
 refine wpc_loop (fun m a w' => ∃ (k : Nat), m = s.length - k ∧ k ≤ s.length ∧ (∀ j, j < k → nameN (s.getD j 0).toNat = true) ∧ St 44 [(0, .string (bs s)), (6, .int .i64 s.length), (7, .int .i64 k)] w0 F [] F [] a w') ?_ ?_
 ·(refine ⟨s.length, 0, by omega, Nat.zero_le _, fun j h => absurd h (Nat.not_lt_zero _), ?_⟩; refine S.keep ?_; exact zk)
 (clear S; rintro m a w ⟨k, rfl, hkl, hall, S⟩)
 (revert S a; refine go 5 ?_; intro Z hZ a S)
 refine wpc_sp S rfl ?_ ?_ <;> intro h
 ·(revert S a; revert hZ Z; refine go 12 ?_; intro Z hZ Z hZ a S)
  first | (refine wv S (sv_indexSN S rfl rfl rfl (by first | omega | (simp only [List.length_append, List.length_cons, List.length_nil]; omega))) ?_; clear S a; intro a S) | (refine wv S (sv_indexS S rfl rfl rfl (by first | omega | (simp only [List.length_append, List.length_cons, List.length_nil]; omega))) ?_; clear S a; intro a S)
  (revert S a; revert hZ Z; refine go 7 ?_; intro Z hZ a S)
  refine wgd S ?_ ?_
  ·(clear S; intro h S)
   (revert S a; refine go 5 ?_; intro a S)
   refine wgd S ?_ ?_
   ·(clear S; intro h S)
    (revert S a; refine go 5 ?_; intro a S)
    refine wgd S ?_ ?_
    ·(clear S; intro h S)
     (revert S a; refine go 7 ?_; intro a S)
     refine wgd S ?_ ?_
     ·(clear S; intro h S)
      (revert S a; refine go 5 ?_; intro a S)
      refine wgd S ?_ ?_
      ·(clear S; intro h S)
       (revert S a; refine go 7 ?_; intro a S)
       refine wgd S ?_ ?_
       ·(clear S; intro h S)
        (revert S a; revert hZ Z; refine go 7 ?_; intro a S)
        refine wpc_sp S rfl ?_ ?_ <;> intro h
        ·(revert S a; refine go 4 ?_; intro a S)
         refine wp_ret (fr1 S Tryz.results202 ?_)
         exact zzTr0
        (revert S a; revert hZ Z; refine go 6 ?_; intro a S)
        change ∃ m', _ ∧ _
        exact zzTr1
       (clear S a; intro h a S)
       (revert S a; revert hZ Z; refine go 5 ?_; intro a S)
       refine wpc_false S rfl ?_
       (revert S a; revert hZ Z; refine go 6 ?_; intro a S)
       change ∃ m', _ ∧ _
       exact zzTr1
      (clear S a; intro h a S)
      (revert S a; revert hZ Z; refine go 13 ?_; intro a S)
      refine wpc_sp S rfl ?_ ?_ <;> intro h
      ·(revert S a; refine go 4 ?_; intro a S)
       refine wp_ret (fr1 S Tryz.results202 ?_)
       exact zzTr0
      (revert S a; revert hZ Z; refine go 6 ?_; intro a S)
      change ∃ m', _ ∧ _
      exact zzTr1
     (clear S a; intro h a S)
     (revert S a; revert hZ Z; refine go 13 ?_; intro a S)
     refine wpc_false S rfl ?_
     (revert S a; revert hZ Z; refine go 6 ?_; intro a S)
     change ∃ m', _ ∧ _
     exact zzTr1
    (clear S a; intro h a S)
    (revert S a; refine go 11 ?_; intro a S)
    refine wgd S ?_ ?_
    ·(clear S; intro h S)
     (revert S a; refine go 7 ?_; intro a S)
     refine wgd S ?_ ?_
     ·(clear S; intro h S)
      (revert S a; revert hZ Z; refine go 7 ?_; intro a S)
      refine wpc_sp S rfl ?_ ?_ <;> intro h
      ·(revert S a; refine go 4 ?_; intro a S)
       refine wp_ret (fr1 S Tryz.results202 ?_)
       exact zzTr0
      (revert S a; revert hZ Z; refine go 6 ?_; intro a S)
      change ∃ m', _ ∧ _
      exact zzTr1
     (clear S a; intro h a S)
     (revert S a; revert hZ Z; refine go 5 ?_; intro a S)
     refine wpc_false S rfl ?_
     (revert S a; revert hZ Z; refine go 6 ?_; intro a S)
     change ∃ m', _ ∧ _
     exact zzTr1
    (clear S a; intro h a S)
    (revert S a; revert hZ Z; refine go 13 ?_; intro a S)
    refine wpc_sp S rfl ?_ ?_ <;> intro h
    ·(revert S a; refine go 4 ?_; intro a S)
     refine wp_ret (fr1 S Tryz.results202 ?_)
     exact zzTr0
    (revert S a; revert hZ Z; refine go 6 ?_; intro a S)
    change ∃ m', _ ∧ _
    exact zzTr1
   (clear S a; intro h a S)
   (revert S a; revert hZ Z; refine go 21 ?_; intro a S)
   refine wpc_false S rfl ?_
   (revert S a; revert hZ Z; refine go 6 ?_; intro a S)
   change ∃ m', _ ∧ _
   exact zzTr1
  (clear S a; intro h a S)
  (revert S a; refine go 9 ?_; intro a S)
  refine wgd S ?_ ?_
  ·(clear S; intro h S)
   (revert S a; refine go 7 ?_; intro a S)
   refine wgd S ?_ ?_
   ·(clear S; intro h S)
    (revert S a; refine go 5 ?_; intro a S)
    refine wgd S ?_ ?_
    ·(clear S; intro h S)
     (revert S a; refine go 7 ?_; intro a S)
     refine wgd S ?_ ?_
     ·(clear S; intro h S)
      (revert S a; revert hZ Z; refine go 7 ?_; intro a S)
      refine wpc_sp S rfl ?_ ?_ <;> intro h
      ·(revert S a; refine go 4 ?_; intro a S)
       refine wp_ret (fr1 S Tryz.results202 ?_)
       exact zzTr0
      (revert S a; revert hZ Z; refine go 6 ?_; intro a S)
      change ∃ m', _ ∧ _
      exact zzTr1
     (clear S a; intro h a S)
     (revert S a; revert hZ Z; refine go 5 ?_; intro a S)
     refine wpc_false S rfl ?_
     (revert S a; revert hZ Z; refine go 6 ?_; intro a S)
     change ∃ m', _ ∧ _
     exact zzTr1
    (clear S a; intro h a S)
    (revert S a; revert hZ Z; refine go 13 ?_; intro a S)
    refine wpc_sp S rfl ?_ ?_ <;> intro h
    ·(revert S a; refine go 4 ?_; intro a S)
     refine wp_ret (fr1 S Tryz.results202 ?_)
     exact zzTr0
    (revert S a; revert hZ Z; refine go 6 ?_; intro a S)
    change ∃ m', _ ∧ _
    exact zzTr1
   (clear S a; intro h a S)
   (revert S a; revert hZ Z; refine go 13 ?_; intro a S)
   refine wpc_false S rfl ?_
   (revert S a; revert hZ Z; refine go 6 ?_; intro a S)
   change ∃ m', _ ∧ _
   exact zzTr1
  (clear S a; intro h a S)
  (revert S a; refine go 11 ?_; intro a S)
  refine wgd S ?_ ?_
  ·(clear S; intro h S)
   (revert S a; refine go 7 ?_; intro a S)
   refine wgd S ?_ ?_
   ·(clear S; intro h S)
    (revert S a; revert hZ Z; refine go 7 ?_; intro a S)
    refine wpc_sp S rfl ?_ ?_ <;> intro h
    ·(revert S a; refine go 4 ?_; intro a S)
     refine wp_ret (fr1 S Tryz.results202 ?_)
     exact zzTr0
    (revert S a; revert hZ Z; refine go 6 ?_; intro a S)
    change ∃ m', _ ∧ _
    exact zzTr1
   (clear S a; intro h a S)
   (revert S a; revert hZ Z; refine go 5 ?_; intro a S)
   refine wpc_false S rfl ?_
   (revert S a; revert hZ Z; refine go 6 ?_; intro a S)
   change ∃ m', _ ∧ _
   exact zzTr1
  (clear S a; intro h a S)
  (revert S a; revert hZ Z; refine go 13 ?_; intro a S)
  refine wpc_sp S rfl ?_ ?_ <;> intro h
  ·(revert S a; refine go 4 ?_; intro a S)
   refine wp_ret (fr1 S Tryz.results202 ?_)
   exact zzTr0
  (revert S a; revert hZ Z; refine go 6 ?_; intro a S)
  change ∃ m', _ ∧ _
  exact zzTr1
 (refine wp_exit ?_; conv => whnf)
 clear hZ Z
 (revert S a; revert hZ Z; refine go 8 ?_; intro a S)
 refine wp_ret (fr1 S Tryz.results202 ?_)
 exact zzTr0
theorem tname_no {s : List UInt8} (h : ¬ (s ≠ [] ∧ 97 ≤ (s.getD 0 0).toNat ∧ (s.getD 0 0).toNat ≤ 122)) : nmS s = false := by
 unfold nmS nameS
 rw [decide_eq_false (fun h9 => h ⟨h9.1, h9.2.2⟩)]; rfl
theorem tname_r {s : List UInt8} (h : restS s = false) : nmS s = false := by
 unfold nmS
 have : nameS s = false := by
  unfold restS at h
  unfold nameS
  rw [Bool.and_eq_false_iff] at h ⊢
  rcases h with h | h
  ·exact .inr h
  ·exact .inl (decide_eq_false fun h9 => absurd h9.2.1 (of_decide_eq_false h))
 rw [this]; rfl
theorem tname_c {s : List UInt8} (h1 : s ≠ []) (h2 : 97 ≤ (s.getD 0 0).toNat) (h3 : (s.getD 0 0).toNat ≤ 122) (h : restS s = true) : nmS s = !Lib.contains (lineW wordsR) ((32 :: s) ++ [32]) := by
 have hn : nameS s = true := by
  unfold restS at h
  rw [Bool.and_eq_true] at h
  unfold nameS
  rw [h.1, decide_eq_true ⟨h1, of_decide_eq_true h.2, h2, h3⟩]; rfl
 unfold nmS
 rw [hn, Bool.true_and, resvd_iff hn]
theorem zzTr2 {p : Prop} (h : p := by (congr 1; first | (exact (tname_c (by assumption) (by omega) (by omega) (by assumption)).symm) | (exact (tname_r (by assumption)).symm) | (exact (tname_no (by rintro ⟨h1, h2, h3⟩; first | omega | exact h1 (by assumption))).symm) | trace_state)) : p := h
theorem tnameCt (F : Heap) (hM : MaxF F) (s : List UInt8) (hs : s.length ≤ 140737488355328) : Ct Tryz.prog 156 [.string (bs s)] F [] (fun _ _ u => u = .bool (nmS s)) := by
 refine Ct.enter Tryz.func156 rfl Tryz.ntmps156 rfl fun w0 a S => ?_
 (revert S a; refine go 8 ?_; intro Z hZ a S)
 refine wgd S ?_ ?_
 ·(clear S; intro h S)
  (revert S a; refine go 2 ?_; intro a S)
  (refine wv S (sv_indexSN (i := 0) S rfl rfl rfl (by first | omega | (simp only [List.length_append, List.length_cons, List.length_nil]; omega) | (have h9 : 0 < s.length := List.length_pos_iff.2 (by assumption); omega))) ?_; clear S a; intro a S)
  (revert S a; refine go 4 ?_; intro a S)
  refine wgd S ?_ ?_
  ·(clear S; intro h S)
   (revert S a; refine go 2 ?_; intro a S)
   (refine wv S (sv_indexSN (i := 0) S rfl rfl rfl (by first | omega | (simp only [List.length_append, List.length_cons, List.length_nil]; omega) | (have h9 : 0 < s.length := List.length_pos_iff.2 (by assumption); omega))) ?_; clear S a; intro a S)
   (revert S a; refine go 4 ?_; intro a S)
   refine wgd S ?_ ?_
   ·(clear S; intro h S)
    (revert S a; refine go 2 ?_; intro a S)
    (refine wc0 S (restCt F s hs) ?_; clear S a; intro v a w hv S; subst hv)
    (revert S a; refine go 2 ?_; intro a S)
    refine wgd S ?_ ?_
    ·(clear S; intro h S)
     (revert S a; refine go 2 ?_; intro a S)
     (refine wv S (sv_cat S rfl rfl rfl (by first | omega | (simp only [List.length_append, List.length_cons, List.length_nil]; omega) | (have h9 : 0 < s.length := List.length_pos_iff.2 (by assumption); omega))) ?_; clear S a; intro a S)
     refine wpl_take S rfl rfl rfl ?_
     (refine wv S (sv_cat S rfl rfl rfl (by first | omega | (simp only [List.length_append, List.length_cons, List.length_nil]; omega) | (have h9 : 0 < s.length := List.length_pos_iff.2 (by assumption); omega))) ?_; clear S a; intro a S)
     refine wpl_take S rfl rfl rfl ?_
     (refine wc0 S (tcontCt F hM (lineW wordsR) ((32 :: s) ++ [32]) (by decide)) ?_; clear S a; intro v a w hv S; subst hv)
     (revert S a; revert hZ Z; refine go 6 ?_; intro a S)
     refine wp_ret (fr1 S Tryz.results156 ?_)
     exact zzTr2
    (clear S a; intro h a S)
    (revert S a; revert hZ Z; refine go 8 ?_; intro a S)
    refine wp_ret (fr1 S Tryz.results156 ?_)
    exact zzTr2
   (clear S a; intro h a S)
   (revert S a; revert hZ Z; refine go 12 ?_; intro a S)
   refine wp_ret (fr1 S Tryz.results156 ?_)
   exact zzTr2
  (clear S a; intro h a S)
  (revert S a; revert hZ Z; refine go 17 ?_; intro a S)
  refine wp_ret (fr1 S Tryz.results156 ?_)
  exact zzTr2
 (clear S a; intro h a S)
 (revert S a; revert hZ Z; refine go 22 ?_; intro a S)
 refine wp_ret (fr1 S Tryz.results156 ?_)
 exact zzTr2
theorem tlongCt (F : Heap) (hM : MaxF F) (s : List UInt8) (hs : s.length ≤ 140737488355328) : Ct Tryz.prog 154 [.string (bs s)] F [] (fun _ _ u => u = .bool (longS s)) := by
 have hA : (cutA s).length ≤ 140737488355328 := by unfold cutA; split; simp; omega; omega
 have hB : (cutB s).length ≤ 140737488355328 := by unfold cutB; split; simp; omega; simp
 refine Ct.enter Tryz.func154 rfl Tryz.ntmps154 rfl fun w0 a S => ?_
 (revert S a; refine go 6 ?_; intro Z hZ a S)
 (refine wc0 S (cutCt F s hs) ?_; clear S a; intro v a w hv S; subst hv)
 (revert S a; revert hZ Z; refine go 11 ?_; intro Z hZ a S)
 (refine wc0 S (tnameCt F hM (cutA s) hA) ?_; clear S a; intro v a w hv S; subst hv)
 (revert S a; refine go 1 ?_; intro a S)
 refine wgd S ?_ ?_
 ·(clear S; intro h S)
  (revert S a; refine go 5 ?_; intro a S)
  refine wgd S ?_ ?_
  ·(clear S; intro h S)
   (revert S a; refine go 2 ?_; intro a S)
   (refine wc0 S (tnameCt F hM (cutB s) hB) ?_; clear S a; intro v a w hv S; subst hv)
   (revert S a; revert hZ Z; refine go 6 ?_; intro a S)
   refine wp_ret (fr1 S Tryz.results154 ?_)
   (congr 1; unfold longS; simp_all)
  (clear S a; intro h a S)
  (revert S a; revert hZ Z; refine go 7 ?_; intro a S)
  refine wp_ret (fr1 S Tryz.results154 ?_)
  (congr 1; unfold longS; simp_all)
 (clear S a; intro h a S)
 (revert S a; revert hZ Z; refine go 9 ?_; intro a S)
 refine wp_ret (fr1 S Tryz.results154 ?_)
 (congr 1; unfold longS; simp_all)
theorem var_no {s : List UInt8} (h : ¬ (s ≠ [] ∧ 65 ≤ (s.getD 0 0).toNat ∧ (s.getD 0 0).toNat ≤ 90)) : varS s = false := by
 unfold varS
 rw [decide_eq_false (fun h9 => h ⟨h9.1, h9.2.2⟩)]; rfl
theorem var_r {s : List UInt8} (h1 : s ≠ []) (h2 : 65 ≤ (s.getD 0 0).toNat) (h3 : (s.getD 0 0).toNat ≤ 90) : varS s = restS s := by
 unfold varS restS
 by_cases h : s.length ≤ 32
 ·rw [decide_eq_true ⟨h1, h, h2, h3⟩, decide_eq_true h, Bool.true_and, Bool.and_true]
 ·rw [decide_eq_false (fun h9 => h h9.2.1), decide_eq_false h, Bool.false_and, Bool.and_false]
theorem zzTr3 {p : Prop} (h : p := by (congr 1; first | (exact (var_r (by assumption) (by omega) (by omega)).symm) | (exact (var_no (by rintro ⟨h1, h2, h3⟩; first | omega | exact h1 (by assumption))).symm) | trace_state)) : p := h
theorem tvarCt (F : Heap) (s : List UInt8) (hs : s.length ≤ 140737488355328) : Ct Tryz.prog 153 [.string (bs s)] F [] (fun _ _ u => u = .bool (varS s)) := by
 refine Ct.enter Tryz.func153 rfl Tryz.ntmps153 rfl fun w0 a S => ?_
 (revert S a; refine go 8 ?_; intro Z hZ a S)
 refine wgd S ?_ ?_
 ·(clear S; intro h S)
  (revert S a; refine go 2 ?_; intro a S)
  (refine wv S (sv_indexSN (i := 0) S rfl rfl rfl (by first | omega | (have h9 : 0 < s.length := List.length_pos_iff.2 (by assumption); omega))) ?_; clear S a; intro a S)
  (revert S a; refine go 4 ?_; intro a S)
  refine wgd S ?_ ?_
  ·(clear S; intro h S)
   (revert S a; refine go 2 ?_; intro a S)
   (refine wv S (sv_indexSN (i := 0) S rfl rfl rfl (by first | omega | (have h9 : 0 < s.length := List.length_pos_iff.2 (by assumption); omega))) ?_; clear S a; intro a S)
   (revert S a; refine go 4 ?_; intro a S)
   refine wgd S ?_ ?_
   ·(clear S; intro h S)
    (revert S a; refine go 2 ?_; intro a S)
    (refine wc0 S (restCt F s hs) ?_; clear S a; intro v a w hv S; subst hv)
    (revert S a; revert hZ Z; refine go 4 ?_; intro a S)
    refine wp_ret (fr1 S Tryz.results153 ?_)
    exact zzTr3
   (clear S a; intro h a S)
   (revert S a; revert hZ Z; refine go 5 ?_; intro a S)
   refine wp_ret (fr1 S Tryz.results153 ?_)
   exact zzTr3
  (clear S a; intro h a S)
  (revert S a; revert hZ Z; refine go 10 ?_; intro a S)
  refine wp_ret (fr1 S Tryz.results153 ?_)
  exact zzTr3
 (clear S a; intro h a S)
 (revert S a; revert hZ Z; refine go 15 ?_; intro a S)
 refine wp_ret (fr1 S Tryz.results153 ?_)
 exact zzTr3
theorem tzeroCt (F : Heap) (h : VH) (L : Vf) (cs : List Value) (hV : VaC F cs h L) : Ct Tryz.prog 157 [.agg ⟨cs⟩] F [] (fun _ _ u => u = .bool (zeroV (h, L))) := by
 obtain ⟨v, rfl, ⟨ao, cap, rfl, hcap, -⟩, -⟩ := hV
 refine Ct.enter Tryz.func157 rfl Tryz.ntmps157 rfl fun w0 a S => ?_
 refine wp_sr fun Z hZ => ?_
 (refine wbx S ?_; clear S a; intro b1 a w S)
 (revert S a; revert hZ Z; refine go 8 ?_; intro Z hZ a S)
 refine wgd S ?_ ?_
 ·(clear S; intro h S)
  (revert S a; refine go 7 ?_; intro a S)
  refine wgd S ?_ ?_
  ·(clear S; intro h S)
   (revert S a; refine go 7 ?_; intro a S)
   refine wgd S ?_ ?_
   ·(clear S; intro h S)
    (revert S a; revert hZ Z; refine go 11 ?_; intro a S)
    refine wp_ret (fr1 S Tryz.results157 ?_)
    (congr 1; unfold zeroV; rw [Bool.eq_iff_iff]; simp_all; done)
   (clear S a; intro h a S)
   (revert S a; revert hZ Z; refine go 7 ?_; intro a S)
   refine wp_ret (fr1 S Tryz.results157 ?_)
   (congr 1; unfold zeroV; rw [Bool.eq_iff_iff]; simp_all; done)
  (clear S a; intro h a S)
  (revert S a; revert hZ Z; refine go 12 ?_; intro a S)
  refine wp_ret (fr1 S Tryz.results157 ?_)
  (congr 1; unfold zeroV; rw [Bool.eq_iff_iff]; simp_all; done)
 (clear S a; intro h a S)
 (revert S a; revert hZ Z; refine go 17 ?_; intro a S)
 refine wp_ret (fr1 S Tryz.results157 ?_)
 (congr 1; unfold zeroV; rw [Bool.eq_iff_iff]; simp_all; done)
end Go.Proofs.YthnafdbebniapaaGreatDoor
namespace Go.Wk
open Go
set_option linter.unusedVariables false
set_option linter.unusedSimpArgs false
section
variable {P : Program} {n : Sz} {L : List (Nat × Value)} {w0 : World} {F0 : Heap} {K0 : List Nat} {F : Heap} {G : List Grp} {a : Act} {w : World} {o : Oper}
theorem sv_addW {x y : Operand} {k : IntKind} {p q : Int} {t yt : TypeId} (S : St n L w0 F0 K0 F G a w) (ho : o.op = .binOp .add t x y yt) (hx : ev L x = some (.int k p)) (hy : ev L y = some (.int k q)) : SV P o a w (.int k (k.wrap (p + q))) :=
 run_intOp S ho hx hy (by simp [binOp, Op.intArith])
theorem sv_gtrS {x y : Operand} {s u : List UInt8} {t yt : TypeId} (S : St n L w0 F0 K0 F G a w) (ho : o.op = .binOp .gtr t x y yt) (hx : ev L x = some (.string (bs s))) (hy : ev L y = some (.string (bs u))) : SV P o a w (.bool (!Op.bytesLess s u && !(s == u))) := by
 have h1 : (eqGuard .gtr t x y (.string (bs s)) (.string (bs u))).run P w = .ok () w := by unfold eqGuard; rfl
 unfold SV execOp
 rw [ho]
 simp [S.fr.eval hx, S.fr.eval hy, h1, binOp, Op.stringOp, bs_toList]
end
end Go.Wk
namespace Go.Proofs.YthnafdbebniapaaGreatDoor
open Go Go.Wk Go.Un Go.De Go.Cv
set_option linter.unusedSimpArgs false
set_option linter.unusedVariables false
attribute [local irreducible] Go.wpList Go.Code.wp Go.wpStill Go.Wk.wpPre Go.bodyPost Go.Calls Go.Wk.Ct Go.Wk.OwnS Go.Wk.wpG Go.Wk.wpM
def PxC (F : Heap) (cs : List Value) (h : EH) (L : Ef) : Prop := ∃ a1 n1 c1 ao cap, cs = [.int .u8 (h.k : Int), .int .i64 h.l, .int .i64 h.c, .string (bs h.nm), .int .u8 (h.v.k : Int), .int .i64 h.v.n, .string (bs h.v.s), .slice a1 n1 c1, .slice ao L.len cap] ∧ TrS F 4 VhR (.slice a1 n1 c1) h.vl ∧ TrS F 9 EhR (.slice ao L.len cap) L
theorem PxC.mono {F F' : Heap} {cs : List Value} {h : EH} {L : Ef} (hF : ∀ b o, F b = some o → F' b = some o) (hv : PxC F cs h L) : PxC F' cs h L := by
 obtain ⟨a1, n1, c1, ao, cap, h1, h2, h3⟩ := hv
 exact ⟨a1, n1, c1, ao, cap, h1, h2.mono hF, h3.mono hF⟩
theorem pxc_of {F : Heap} {c1 : List Value} {u : Value} {x : EH × Ef} (hR : EhR F x.1 c1) (hT : TrS F 9 EhR u x.2) : PxC F (c1 ++ [u]) x.1 x.2 := by
 obtain ⟨w, rfl, h2⟩ := hR
 have h2c := h2
 have h3c := hT
 obtain ⟨a1, c1, rfl, -⟩ := h2c
 obtain ⟨ao, cap, rfl, -⟩ := h3c
 exact ⟨a1, _, c1, ao, cap, rfl, h2, hT⟩
def BndH (h : EH) : Prop := h.nm.length ≤ 140737488355328 ∧ h.v.s.length ≤ 140737488355328
def BndL : Ef → Prop
 | .nil => True
 | .cons h L r => BndH h ∧ BndL L ∧ BndL r
theorem BndL.get : ∀ {l : Ef} {k : Nat} {x : EH × Ef}, BndL l → l.get? k = some x → BndH x.1 ∧ BndL x.2
 | .cons h L r, 0, x, f, e => by cases e; exact ⟨f.1, f.2.1⟩
 | .cons h L r, k + 1, x, f, e => BndL.get (l := r) f.2.2 e
def allR (p : EH → Ef → Bool) (L : Ef) : Bool := !anyR (fun h L => !p h L) L
theorem allR_good : ∀ L : Ef, allR (fun h L => goodH h L.len && goodL L) L = goodL L
 | .nil => rfl
 | .cons h L r => by
  have ih := allR_good r
  unfold allR at ih ⊢
  show (!(!(goodH h L.len && goodL L) || anyR _ r)) = _
  rw [Bool.not_or, Bool.not_not, ih]; rfl
theorem all1Ct (F : Heap) (fid : FuncId) [hfn : HasFn Tryz.prog fid] (fi ca : List Value) (bc : Nat) (hbc : Cel F bc 0 (.func (.func fid) ⟨fi⟩ ⟨ca⟩)) (b : Bool) (cs : List Value) (h : EH) (L : Ef) (hX : PxC F cs h L)
  (hc : Ct Tryz.prog fid (fi ++ [.agg ⟨cs⟩] ++ ca) F [] (fun _ _ u => u = .bool b)) : Ct Tryz.prog 205 ([] ++ [.agg ⟨cs⟩] ++ [.pointer (some ⟨bc, 0, none⟩)]) F [] (fun _ _ u => u = .bool (!b)) := by
 obtain ⟨a1, n1, c1, ao, cap, rfl, -, -⟩ := hX
 refine Ct.enter Tryz.func205 rfl Tryz.ntmps205 rfl fun w0 a S => ?_
 refine wp_sr fun Z hZ => ?_
 (refine wbx S ?_; clear S a; intro b2 a w S)
 (revert S a; revert hZ Z; refine go 4 ?_; intro Z hZ a S)
 (refine wv S (sv_loadF S rfl rfl hbc) ?_; clear S a; intro a S)
 (revert S a; refine go 1 ?_; intro a S)
 (refine wc0 S hc ?_; clear S a; intro v a w hv S; subst hv)
 (revert S a; revert hZ Z; refine go 4 ?_; intro a S)
 refine wp_ret (fr1 S Tryz.results205 ?_)
 rfl
theorem allECt (F : Heap) (L : Ef) (v : Value) (hv : TrS F 9 EhR v L) (fid : FuncId) [hfn : HasFn Tryz.prog fid] (fi ca : List Value) (p : EH → Ef → Bool)
  (hcl : ∀ (F' : Heap) (k : Nat) (x : EH × Ef) (cs : List Value), (∀ b o, F b = some o → F' b = some o) → L.get? k = some x → PxC F' cs x.1 x.2 → Ct Tryz.prog fid (fi ++ [.agg ⟨cs⟩] ++ ca) F' [] (fun _ _ u => u = .bool (p x.1 x.2))) :
  Ct Tryz.prog 158 [v, .func (.func fid) ⟨fi⟩ ⟨ca⟩] F [] (fun _ _ u => u = .bool (allR p L)) := by
 have hv0 := hv
 obtain ⟨ao, cap, rfl, hcap, -⟩ := hv
 refine Ct.enter Tryz.func158 rfl Tryz.ntmps158 rfl fun w0 a S => ?_
 refine wp_sr fun Z hZ => ?_
 (refine wbx S ?_; clear S a; intro b3 a w S)
 (revert S a; revert hZ Z; refine go 6 ?_; intro Z hZ a S)
 (have S' := frz1 S; clear S; obtain ⟨F5, hle5, hb3, S⟩ := S'; have hc := cfECt F5 _ L.len _ (hv0.mono hle5).sq 205 [] [.pointer (some ⟨b3, 0, none⟩)] (fun k => match L.get? k with | some x => !p x.1 x.2 | none => false) (fun k cs hk ⟨x, c1, u, hx, hcs, hR, hT⟩ => by rw [hx]; have hX := pxc_of hR hT; rw [← hcs] at hX; exact all1Ct F5 fid fi ca b3 ⟨_, _, _, hb3, rfl⟩ _ cs x.1 x.2 hX (hcl F5 k x cs hle5 hx hX)); rw [anyN_rose (q := fun h L => !p h L) (fun k x hx => by rw [hx])] at hc; refine wc0 S hc ?_; clear S a hc; intro v a w hv S; subst hv)
 (revert S a; revert hZ Z; refine go 4 ?_; intro a S)
 refine wp_ret (fr1 S Tryz.results158 ?_)
 rfl
end Go.Proofs.YthnafdbebniapaaGreatDoor
namespace Go.Wk
open Go
set_option linter.unusedSimpArgs false
set_option linter.unusedVariables false
section
variable {P : Program} {ops : Array Oper} {Q : Exit → Act → World → Prop} {rest : List Oper} {n : Sz} {L : List (Nat × Value)} {w0 : World} {F0 : Heap} {K0 : List Nat} {F : Heap} {G : List Grp} {a : Act} {w : World} {o : Oper}
theorem permHead {A B : Grp} {R : List Grp} : (A :: B :: R).flatten.Perm ([A, B].flatten ++ R.flatten) := by simp
theorem St.headG {A B : List Grp} (S : St n L w0 F0 K0 F (A ++ B) a w) : St n L w0 F0 K0 F A a w := ⟨S.fr, S.tr.sub (by rw [List.flatten_append]; exact List.sublist_append_left _ _)⟩
def cutA (ao : Option Addr) (i c sz : Nat) : Option Addr := if c = i then ao else ao.map (fun a : Addr => a.add (i * sz))
theorem cutA_pos {b off i c m sz : Nat} (h : i < m) (hc : m ≤ c) : cutA (some ⟨b, off, none⟩) i c sz = some ⟨b, off + i * sz, none⟩ := by
 unfold cutA; rw [if_neg (by omega)]; simp [Addr.add]
theorem sv_sliceSl_lo {x y : Operand} {ao : Option Addr} {m c i : Nat} {k : IntKind} {t e : TypeId} {zv : Value} {sz by_ : Nat} [ht : Und P t (.slice e)] [hi : Inf P e zv sz by_] (S : St n L w0 F0 K0 F G a w) (ho : o.op = .slice t x (some y) none none)
  (hx : ev L x = some (.slice ao m c)) (hy : ev L y = some (.int k (Int.ofNat i))) (h1 : i ≤ m) : SV P o a w (.slice (cutA ao i c sz) (m - i) (c - i)) := by
 have hb : (Instr.sliceBounds true m c (some (.int k (Int.ofNat i))) none none).run P w = .ok (i, m, c) w := by
  simp [Instr.sliceBounds, Instr.sliceBound, asIntOf, h1]
 unfold SV execOp
 rw [ho]
 simp only [Option.map_none, Option.map_some, S.fr.eval hx, S.fr.eval hy]
 simp only [Instr.sliceAt, Instr.slice, Sem.run_bind, run_underlying ht.h, Result.andThen_ok, hb, run_sizeOf hi]
 simp [cutA]
theorem sv_cap {x : Operand} {b : Option Addr} {m c : Nat} {t e : TypeId} [ht : Und P t (.slice e)] (S : St n L w0 F0 K0 F G a w) (ho : o.op = .call { callee := .builtin .cap, args := #[x], argTypes := #[t] }) (hx : ev L x = some (.slice b m c)) : SV P o a w (.int .i64 c) := by
 unfold SV execOp
 rw [ho]
 simp [resolve, invoke, builtin, S.fr.eval hx, Builtin.cap_, run_underlying ht.h]
 rfl
theorem madeCells_len (z : Value) (k : Nat) : (madeCells z.cells k).toList.length = k := by simp [madeCells]
theorem wpl_makeSliceN {d : Nat} {t e : TypeId} {x y : Operand} {z : Value} {by_ q cp sz : Nat} {k1 k2 : IntKind} [ht : Und P t (.slice e)] [hi : Inf P e z sz by_] (S : St n L w0 F0 K0 F G a w) (hg : o.guard = none) (hd : o.dst = some d) (hn : Nat.blt d n.sz = true)
  (ho : o.op = .makeSlice t x y) (hx : ev L x = some (.int k1 (Int.ofNat q))) (hy : ev L y = some (.int k2 (Int.ofNat cp))) (hq : q ≤ cp) (hb : by_ * cp ≤ 281474976710656) (h63 : cp ≤ 9223372036854775807)
  (k : ∀ b a' w' zs, zs.length = cp * sz → St n ((d, .slice (some ⟨b, 0, none⟩) q cp) :: L) w0 F0 K0 F ([(b, .cells ⟨zs⟩ e (0, 0))] :: G) a' w' → wpList P ops Q rest a' w') : wpList P ops Q (o :: rest) a w := by
 refine wpList_plain hg fun K hK => ?_
 obtain ⟨i, i1, i2, i3, i4⟩ := hi.h
 have hr := run_make (P := P) w t e i z ht.h i1 i2 k1 k2 (Int.ofNat q) (Int.ofNat cp) (Int.natCast_nonneg q) (Int.ofNat_le.2 hq) (by rw [i4]; have h9 : ((by_ * cp : Nat) : Int) ≤ ((281474976710656 : Nat) : Int) := Int.ofNat_le.2 hb; rw [Int.natCast_mul] at h9; exact h9) (Int.ofNat_le.2 h63)
 unfold Oper.wp execOp
 rw [ho]
 simp only [Int.toNat_natCast, Int.ofNat_eq_natCast] at hr
 simp only [S.fr.eval hx, S.fr.eval hy, Sem.run_bind, Int.ofNat_eq_natCast, hr, Result.andThen_ok, Sem.run_pure, Oper.upon_value, hd]
 exact hK _ _ (k _ _ _ _ (by have := madeCells_len z (cp * i.size); rw [← i3]; exact this) (S.alloc _ hn _))
theorem ownS_mkP {e q b cap sz : Nat} {xs ex : List Value} (h1 : xs.length = q * sz) (h2 : q ≤ cap) (h3 : cap ≤ maxLen) (h4 : (xs ++ ex).length = cap * sz) : OwnS e sz (.slice (some ⟨b, 0, none⟩) q cap) q xs [(b, .cells ⟨xs ++ ex⟩ e (0, 0))] :=
 ⟨h1, .inr ⟨b, cap, ⟨xs ++ ex⟩, rfl, rfl, h2, h3, by simpa using h4, by simp [← h1]⟩⟩
theorem wpl_appendZ {d : Nat} {t tn e : TypeId} {s x : Operand} {z : Value} {sz by_ m : Nat} {k1 kn : IntKind} [ht : Und P t (.slice e)] [htn : Und P tn (.int kn)] [hi : Inf P e z sz by_] (S : St n L w0 F0 K0 F G a w)
  (hg : o.guard = none) (hd : o.dst = some d) (hn : Nat.blt d n.sz = true) (ho : o.op = .call { callee := .builtin .append, args := #[s, x], argTypes := #[t, tn] }) (hs : ev L s = some (.slice none 0 0)) (hx : ev L x = some (.int k1 (Int.ofNat m)))
  (hz : z.cells.toList.length = sz) (h0 : 0 < m) (hsz : Nat.blt 0 sz = true) (hlen : m * by_ ≤ 140737488355328) (h63 : m ≤ 9223372036854775807)
  (k : ∀ b c a' w' zs, zs.length = c * sz → m ≤ c → c ≤ maxLen → St n ((d, .slice (some ⟨b, 0, none⟩) m c) :: L) w0 F0 K0 F ([(b, .cells ⟨zs⟩ e (0, 0))] :: G) a' w' → wpList P ops Q rest a' w') : wpList P ops Q (o :: rest) a w := by
 obtain ⟨i, i1, i2, i3, i4⟩ := hi.h
 have hr := Go.Lib.run_append_nil_zeros (P := P) w t tn o.type e i z k1 kn ht.h htn.h i1 i2 m h0 (by rw [i3]; simpa [Nat.blt_eq] using hsz) (by omega) (by rw [i4]; omega)
 have e2 : a.eval s = .slice none 0 0 := S.fr.eval hs
 have e3 : a.eval x = .int k1 m := S.fr.eval hx
 refine Go.Lib.wpList_append_run w hg s x t tn ho _ _ e2 e3 _ _ hr ?_
 rw [hd]
 have hge := grownCap_ge w m 0 e
 have hcm := grownCap_le_maxLen w m 0 e (by simp only [maxLen]; exact h63)
 have hzs : z.cells.size = sz := by simpa using hz
 refine k _ _ _ _ (Builtin.zeroCells z.cells m ++ Builtin.zeroCells z.cells (grownCap w m 0 e - m)).toList ?_ hge hcm ⟨S.fr.put _ hn, S.tr.drew.alloc _⟩
 simp only [Array.length_toList, Array.size_append, size_zeroCells, hzs, ← Nat.add_mul]
 congr 1; omega
theorem OwnS.front {e sz b c : Nat} {zs : List Value} (h1 : zs.length = c * sz) (h2 : c ≤ maxLen) : OwnS e sz (.slice (some ⟨b, 0, none⟩) 0 c) 0 [] [(b, .cells ⟨zs⟩ e (0, 0))] := by
 have := ownS_mkP (e := e) (q := 0) (b := b) (cap := c) (sz := sz) (xs := []) (ex := zs) (by simp) (Nat.zero_le _) h2 (by simpa using h1)
 simpa using this
end
end Go.Wk
