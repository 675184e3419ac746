/- Walks. -/
import Derived.Test.YthnafdbebniapaaGreatDoorQ17
import Derived.Test.YthnafdbebniapaaGreatDoorQ11
import Derived.Test.YthnafdbebniapaaGreatDoorQ10
import Derived.Test.YthnafdbebniapaaGreatDoorQ09
import Derived.Test.YthnafdbebniapaaGreatDoorQ08
import Derived.Test.YthnafdbebniapaaGreatDoorQ06
import Derived.Test.YthnafdbebniapaaGreatDoorQ05
import Derived.Test.YthnafdbebniapaaGreatDoorQ04
import Derived.Test.YthnafdbebniapaaGreatDoorQ03
import Derived.Test.YthnafdbebniapaaGreatDoorQ02
import Derived.Test.YthnafdbebniapaaGreatDoorKCoverMatchesUpto01
import Derived.Test.YthnafdbebniapaaGreatDoorQ18
import Derived.Test.YthnafdbebniapaaGreatDoorKCoverMatchesUptoTy
import Derived.Test.YthnafdbebniapaaGreatDoorQ12
import Derived.Test.YthnafdbebniapaaGreatDoorQ19
import Derived.Test.YthnafdbebniapaaGreatDoorQShelf
import Derived.Test.YthnafdbebniapaaGreatDoorKCoverMatchesUpto02
set_option maxHeartbeats 8000000
namespace Go.De
open Go Go.Wk Go.Un
set_option linter.unusedSimpArgs false
set_option linter.unusedVariables false
def dpR : Vf → Int
 | .nil => 0
 | .cons _ L r => max (dpR L + 1) (dpR r)
theorem dpR_nn : ∀ l : Vf, 0 ≤ dpR l
 | .nil => Int.le_refl _
 | .cons _ L r => by have := dpR_nn L; have := dpR_nn r; simp only [dpR]; omega
theorem depV_le : ∀ (l : Vf) (n m : Int), depV l n m ≤ max n (dpR l)
 | .nil, n, m => by show n ≤ _; omega
 | .cons h L r, n, m => by
  rw [depV_cons]
  have h1 := depV_le L 0 (m - 1)
  have h2 := depV_le r (max n (depV L 0 (m - 1) + 1)) m
  have h3 := dpR_nn L
  simp only [dpR]
  split <;> omega
def digB (c : UInt8) : Bool := decide (48 ≤ c.toNat ∧ c.toNat ≤ 57)
def numB (d : List UInt8) : Bool := decide (d ≠ [] ∧ ¬ (1 < d.length ∧ (d.getD 0 0).toNat = 48)) && d.all digB
def rnum (s : List UInt8) : Bool := if 1 < s.length ∧ (s.getD 0 0).toNat = 45 then (if ((s.drop 1).getD 0 0).toNat = 48 then false else numB (s.drop 1)) else numB s
def rdig (s : List UInt8) : Int := if (s.getD 0 0).toNat = 45 then s.length - 1 else s.length
theorem dig_mem {c : UInt8} (h : digB c = true) : digS.contains c = true := by
 unfold digB at h
 rw [decide_eq_true_eq] at h
 have : ∀ n : Nat, 48 ≤ n → n ≤ 57 → ∀ c : UInt8, c.toNat = n → digS.contains c = true := by
  intro n h1 h2 c hc
  have e : c = UInt8.ofNat n := by rw [← hc]; simp
  subst e
  have : n = 48 ∨ n = 49 ∨ n = 50 ∨ n = 51 ∨ n = 52 ∨ n = 53 ∨ n = 54 ∨ n = 55 ∨ n = 56 ∨ n = 57 := by omega
  rcases this with rfl | rfl | rfl | rfl | rfl | rfl | rfl | rfl | rfl | rfl <;> decide
 exact this _ h.1 h.2 c rfl
theorem dropWhile_all {α : Type} {p : α → Bool} : ∀ {l : List α}, (∀ x ∈ l, p x = true) → l.dropWhile p = []
 | [], _ => rfl
 | x :: r, h => by
  rw [List.dropWhile_cons, h x (List.mem_cons_self ..), if_pos rfl]
  exact dropWhile_all fun y hy => h y (List.mem_cons_of_mem _ hy)
theorem trim_all {d : List UInt8} (h : d.all digB = true) : Lib.trimS d digS = [] := by
 have h1 : d.reverse.dropWhile (digS.contains ·) = [] := dropWhile_all fun x hx => dig_mem (List.all_eq_true.1 h x (List.mem_reverse.1 hx))
 unfold Lib.trimS Lib.trimRightS
 rw [h1]; rfl
theorem numD_of (s : List UInt8) : numD s = if s.take 1 = [45] then s.drop 1 else s := by
 unfold numD Lib.trimPrefix
 cases s with
 | nil => rfl
 | cons c r =>
  by_cases hc : c = 45
  ·subst hc; rfl
  ·have e1 : Lib.hasPrefix (c :: r) [45] = false := by
    unfold Lib.hasPrefix
    simp [List.isPrefixOf, hc, Ne.symm hc]
    try (intro h; exact hc h.symm)
   have e2 : ¬ (c :: r).take 1 = [45] := by simp [hc]
   rw [e1, if_neg e2]; rfl
theorem numB_ok {s d : List UInt8} (hd : numD s = d) (h : numB d = true) (hz : (d.getD 0 0).toNat = 48 → s = [48]) : numOK s = true := by
 unfold numB at h
 rw [Bool.and_eq_true, decide_eq_true_eq] at h
 unfold numOK
 rw [hd, decide_eq_false h.1.1, trim_all h.2]
 by_cases h0 : (d.getD 0 0).toNat = 48
 ·simp [hz h0]
 ·simp only [decide_eq_false h0, Bool.false_and, ne_eq, not_true_eq_false, decide_false, Bool.or_false, Bool.not_false]
theorem dash {s : List UInt8} : (s.getD 0 0).toNat = 45 ↔ s.take 1 = [45] := by
 cases s with
 | nil => simp
 | cons c r =>
  simp
  exact ⟨fun h => UInt8.toNat_inj.1 h, fun h => by subst h; rfl⟩
theorem rnum_ok {s : List UInt8} (h : rnum s = true) : numOK s = true ∧ rdig s = numN s := by
 have key : ∀ d, numD s = d → numB d = true → ((d.getD 0 0).toNat = 48 → s = [48]) → rdig s = d.length → numOK s = true ∧ rdig s = numN s := fun d e hb hz hr => by
  have h1 := numB_ok e hb hz
  refine ⟨h1, ?_⟩
  unfold numN
  rw [if_pos h1, e, hr]
 unfold rnum at h
 by_cases h1 : 1 < s.length ∧ (s.getD 0 0).toNat = 45
 ·rw [if_pos h1] at h
  by_cases h2 : ((s.drop 1).getD 0 0).toNat = 48
  ·rw [if_pos h2] at h; cases h
  rw [if_neg h2] at h
  refine key (s.drop 1) (by rw [numD_of, if_pos (dash.1 h1.2)]) h (fun h9 => absurd h9 h2) ?_
  unfold rdig
  rw [if_pos h1.2, List.length_drop]; omega
 ·rw [if_neg h1] at h
  have hnd : ¬ (s.getD 0 0).toNat = 45 := fun h9 => by
   have hlen : s.length = 1 ∨ s.length = 0 := by
    have : ¬ 1 < s.length := fun h8 => h1 ⟨h8, h9⟩
    omega
   unfold numB at h
   rw [Bool.and_eq_true] at h
   cases s with
   | nil => simp at h9
   | cons c r =>
    have h5 := List.all_eq_true.1 h.2 c (List.mem_cons_self ..)
    unfold digB at h5
    rw [decide_eq_true_eq] at h5
    simp at h9
    omega
  refine key s (by rw [numD_of, if_neg (fun h9 => hnd (dash.2 h9))]) h (fun h9 => ?_) ?_
  ·unfold numB at h
   rw [Bool.and_eq_true, decide_eq_true_eq] at h
   cases s with
   | nil => exact absurd rfl h.1.1
   | cons c r =>
    have hr : r = [] := by
     have : ¬ 1 < (c :: r).length := fun h8 => h.1.2 ⟨h8, h9⟩
     simp at this
     exact this
    subst hr
    simp at h9
    have : c = 48 := UInt8.toNat_inj.1 h9
    subst this; rfl
  ·unfold rdig; rw [if_neg hnd]
def rnamesS (s : List UInt8) : Bool := if s = sTrue ∨ s = sFalse then false else if 0 ≤ cutI s then nameS (cutA s) && nameS (cutB s) else nameS s
def rformH (h : VH) (n : Nat) : Bool :=
 if h.k = 1 then decide ((h.n = 0 ∨ h.n = 1) ∧ h.s = [] ∧ n = 0)
 else if h.k = 2 then decide (h.s = [] ∧ n = 0)
 else if h.k = 3 then decide (h.n = 0 ∧ n = 0) && rnum h.s
 else if h.k = 4 then decide (h.n = 0 ∧ n = 0)
 else if h.k = 5 then decide (h.n = 0 ∧ h.s = [] ∧ n ≠ 1)
 else if h.k = 6 then decide (h.n = 0) && rnamesS h.s
 else false
def rfitsH (h : VH) (n : Nat) : Bool :=
 if h.k = 3 then decide (rdig h.s ≤ 200) else if h.k = 4 then decide (h.s.length ≤ 4096) else if h.k = 5 then decide (n ≤ 16) else if h.k = 6 then decide (n ≤ 8) else true
def rformL : Vf → Bool
 | .nil => true
 | .cons h L r => (rformH h L.len && rformL L) && rformL r
def rfitsL : Vf → Bool
 | .nil => true
 | .cons h L r => (rfitsH h L.len && rfitsL L) && rfitsL r
def rcheckV (h : VH) (L : Vf) : Int := if 64 < dpR L + 1 then 65 else if (rformH h L.len && rformL L) = false then 4 else if (rfitsH h L.len && rfitsL L) = false then 40 else 0
theorem rnames_ok {s : List UInt8} (h : rnamesS s = true) : (nameS (cutA s) && ((cutC s && nameS (cutB s)) || (!cutC s && decide (s ≠ sTrue ∧ s ≠ sFalse)))) = true := by
 unfold rnamesS at h
 by_cases h1 : s = sTrue ∨ s = sFalse
 ·rw [if_pos h1] at h; cases h
 rw [if_neg h1] at h
 by_cases h2 : 0 ≤ cutI s
 ·rw [if_pos h2, Bool.and_eq_true] at h
  unfold cutC
  rw [decide_eq_true h2, h.1, h.2]; rfl
 ·rw [if_neg h2] at h
  unfold cutC cutA
  rw [decide_eq_false h2, if_neg h2, h, decide_eq_true (show s ≠ sTrue ∧ s ≠ sFalse from ⟨fun e => h1 (.inl e), fun e => h1 (.inr e)⟩)]
  rfl
theorem rformH_ok {h : VH} {n : Nat} (hf : rformH h n = true) : formH h n = true := by
 unfold rformH at hf
 unfold formH
 by_cases k1 : h.k = 1
 ·rw [if_pos k1] at hf ⊢; exact hf
 rw [if_neg k1] at hf ⊢
 by_cases k2 : h.k = 2
 ·rw [if_pos k2] at hf ⊢; exact hf
 rw [if_neg k2] at hf ⊢
 by_cases k3 : h.k = 3
 ·rw [if_pos k3] at hf ⊢
  rw [Bool.and_eq_true] at hf ⊢
  exact ⟨(rnum_ok hf.2).1, hf.1⟩
 rw [if_neg k3] at hf ⊢
 by_cases k4 : h.k = 4
 ·rw [if_pos k4] at hf ⊢; exact hf
 rw [if_neg k4] at hf ⊢
 by_cases k5 : h.k = 5
 ·rw [if_pos k5] at hf ⊢; exact hf
 rw [if_neg k5] at hf ⊢
 by_cases k6 : h.k = 6
 ·rw [if_pos k6] at hf ⊢
  rw [Bool.and_eq_true] at hf ⊢
  exact ⟨hf.1, rnames_ok hf.2⟩
 ·rw [if_neg k6] at hf; cases hf
theorem rfitsH_ok {h : VH} {n : Nat} (hf : rformH h n = true) (hg : rfitsH h n = true) : fitsH h n = true := by
 unfold rfitsH at hg
 unfold fitsH
 by_cases k3 : h.k = 3
 ·rw [if_pos k3] at hg ⊢
  unfold rformH at hf
  rw [if_neg (by omega), if_neg (by omega), if_pos k3, Bool.and_eq_true] at hf
  rw [← (rnum_ok hf.2).2]; exact hg
 ·rw [if_neg k3] at hg ⊢; exact hg
theorem rL_ok : ∀ {l : Vf}, rformL l = true → rfitsL l = true → formL l = true ∧ fitsL l = true
 | .nil, _, _ => ⟨rfl, rfl⟩
 | .cons h L r, hf, hg => by
  unfold rformL at hf
  unfold rfitsL at hg
  rw [Bool.and_eq_true, Bool.and_eq_true] at hf hg
  obtain ⟨a1, a2⟩ := rL_ok hf.1.2 hg.1.2
  obtain ⟨b1, b2⟩ := rL_ok hf.2 hg.2
  rw [formL_cons, fitsL_cons, rformH_ok hf.1.1, rfitsH_ok hf.1.1 hg.1.1, a1, a2, b1, b2]
  exact ⟨rfl, rfl⟩
theorem rcheck_ok {h : VH} {L : Vf} (hc : rcheckV h L = 0) : checkV h L = 0 := by
 unfold rcheckV at hc
 by_cases h1 : 64 < dpR L + 1
 ·rw [if_pos h1] at hc; cases hc
 rw [if_neg h1] at hc
 by_cases h2 : (rformH h L.len && rformL L) = false
 ·rw [if_pos h2] at hc; cases hc
 rw [if_neg h2] at hc
 by_cases h3 : (rfitsH h L.len && rfitsL L) = false
 ·rw [if_pos h3] at hc; cases hc
 rw [Bool.not_eq_false, Bool.and_eq_true] at h2 h3
 have hd := depV_le L 0 65
 have hn := dpR_nn L
 obtain ⟨a, b⟩ := rL_ok h2.2 h3.2
 unfold checkV
 rw [if_neg (by omega), rformH_ok h2.1, rfitsH_ok h2.1 h3.1, a, b, if_neg (by decide), if_neg (by decide)]
end Go.De
namespace Go.Proofs.YthnafdbebniapaaGreatDoor
open Go Go.Wk Go.Un Go.De
set_option linter.unusedSimpArgs false
set_option linter.unusedVariables false
attribute [local irreducible] Go.wpList Go.Code.wp Go.wpStill Go.Wk.wpPre Go.bodyPost Go.Calls Go.Wk.Ct Go.Wk.OwnS Go.Wk.wpG Go.Wk.wpM
theorem vac_slc {F : Heap} {xs : List Value} {h : VH} {L : Vf} (hX : VaC F xs h L) : ∃ ao cap, xs = [.int .u8 (h.k : Int), .int .i64 h.n, .string (bs h.s), .slice ao L.len cap] ∧ TrS F 4 VhR (.slice ao L.len cap) L ∧ h.s.length ≤ 140737488355328 := by
 obtain ⟨v, rfl, h2, h3⟩ := hX
 have h2c := h2
 obtain ⟨a1, c1, rfl, -⟩ := h2c
 exact ⟨a1, c1, rfl, h2, h3⟩
theorem rletterCt (F : Heap) (c : Nat) : Ct Tryz.prog 220 [.int .u8 (c : Int)] F [] (fun _ _ u => u = .bool (decide (97 ≤ c ∧ c ≤ 122))) := by
 refine Ct.enter Tryz.func220 rfl Tryz.ntmps220 rfl fun w0 a S => ?_
 (revert S a; refine go 8 ?_; intro Z hZ a S)
 refine wgd S ?_ ?_
 ·(clear S; intro h S)
  (revert S a; revert hZ Z; refine go 7 ?_; intro a S)
  refine wp_ret (fr1 S Tryz.results220 ?_)
  (congr 1; first | (exact decide_eq_decide.2 (by omega)) | (exact (decide_eq_false (by omega)).symm) | trace_state)
 (clear S a; intro h a S)
 (revert S a; revert hZ Z; refine go 5 ?_; intro a S)
 refine wp_ret (fr1 S Tryz.results220 ?_)
 (congr 1; first | (exact decide_eq_decide.2 (by omega)) | (exact (decide_eq_false (by omega)).symm) | trace_state)
theorem zzEwC0 {p : Prop} (h : p := by (congr 1; first | (exact (name_no2 (k := k) (by omega) (decide_eq_false (by omega))).symm) | (exact (name_yes ⟨by assumption, by omega, by omega, by omega⟩ (fun j hj => hall j (by omega))).symm) | (exact (name_no1 (by rintro ⟨h1, h2, h3, h4⟩; first | omega | exact h1 (by assumption))).symm) | trace_state)) : p := h
theorem zzEwC1 {p : Prop} (h : p := by (refine ⟨s.length - (k + 1), by omega, k + 1, rfl, by omega, ?_, ?_⟩; rotate_left 1; (refine S.keep ?_; exact zk); intro j hj; rcases Nat.lt_or_eq_of_le (Nat.le_of_lt_succ hj) with h6 | h6; exact hall j h6; subst h6; exact decide_eq_true (by omega))) : p := h
theorem rnameCt (F : Heap) (s : List UInt8) : Ct Tryz.prog 166 [.string (bs s)] F [] (fun _ _ u => u = .bool (nameS s)) := by
 refine Ct.enter Tryz.func166 rfl Tryz.ntmps166 rfl fun w0 a S => ?_
 (revert S a; refine go 9 ?_; intro Z hZ Z hZ a S)
 refine wgd S ?_ ?_
 ·(clear S; intro h S)
  (revert S a; refine go 7 ?_; intro a S)
  refine wgd S ?_ ?_
  ·(clear S; intro h S)
   (revert S a; refine go 2 ?_; intro a S)
   (refine wv S (sv_indexSN (i := 0) S rfl rfl rfl (by first | omega | (have h9 : 0 < s.length := List.length_pos_iff.2 (by assumption); omega))) ?_; clear S a; intro a S)
   refine wpl_take S rfl rfl rfl ?_
   (refine wc0 S (rletterCt F _) ?_; clear S a; intro v a w hv S; subst hv)
   (revert S a; revert hZ Z; refine go 5 ?_; intro a S)
   refine wpc_sp S rfl ?_ ?_ <;> intro h
   ·(revert S a; refine go 4 ?_; intro a S)
    refine wp_ret (fr1 S Tryz.results166 ?_)
    exact zzEwC0
   (revert S a; revert hZ Z; refine go 8 ?_; intro Z hZ a S)
   refine wpc_loop (fun m a w' => ∃ (k : Nat), m = s.length - k ∧ k ≤ s.length ∧ (∀ j, j < k → nameN (s.getD j 0).toNat = true) ∧ St 52 [(0, .string (bs s)), (3, .int .i64 (k : Int))] w0 F [] F [] a w') ?_ ?_
   ·(refine ⟨s.length, 0, by omega, Nat.zero_le _, fun j h => absurd h (Nat.not_lt_zero _), ?_⟩; refine S.keep ?_; exact zk)
   (clear S; rintro m a w ⟨k, rfl, hkl, hall, S⟩)
   (revert S a; refine go 8 ?_; intro Z hZ a S)
   refine wpc_sp S rfl ?_ ?_ <;> intro h
   ·(revert S a; revert hZ Z; refine go 7 ?_; intro Z hZ Z hZ a S)
    first | (refine wv S (sv_indexSN S rfl rfl rfl (by first | omega | (have h9 : 0 < s.length := List.length_pos_iff.2 (by assumption); omega))) ?_; clear S a; intro a S) | (refine wv S (sv_indexS S rfl rfl rfl (by first | omega | (have h9 : 0 < s.length := List.length_pos_iff.2 (by assumption); omega))) ?_; clear S a; intro a S)
    (revert S a; revert hZ Z; refine go 5 ?_; intro Z hZ a S)
    (refine wc0 S (rletterCt F _) ?_; clear S a; intro v a w hv S; subst hv)
    (revert S a; refine go 2 ?_; intro a S)
    refine wgd S ?_ ?_
    ·(clear S; intro h S)
     (revert S a; refine go 5 ?_; intro a S)
     refine wgd S ?_ ?_
     ·(clear S; intro h S)
      (revert S a; refine go 9 ?_; intro a S)
      refine wgd S ?_ ?_
      ·(clear S; intro h S)
       (revert S a; refine go 5 ?_; intro a S)
       refine wgd S ?_ ?_
       ·(clear S; intro h S)
        (revert S a; refine go 9 ?_; intro a S)
        refine wgd S ?_ ?_
        ·(clear S; intro h S)
         (revert S a; revert hZ Z; refine go 6 ?_; intro a S)
         refine wpc_sp S rfl ?_ ?_ <;> intro h
         ·(revert S a; refine go 4 ?_; intro a S)
          refine wp_ret (fr1 S Tryz.results166 ?_)
          exact zzEwC0
         (revert S a; revert hZ Z; refine go 4 ?_; intro a S)
         (refine wv S (sv_add S rfl rfl rfl (by first | omega | (have h9 : 0 < s.length := List.length_pos_iff.2 (by assumption); omega))) ?_; clear S a; intro a S)
         (revert S a; refine go 2 ?_; intro a S)
         change ∃ m', _ ∧ _
         exact zzEwC1
        (clear S a; intro h a S)
        (revert S a; revert hZ Z; refine go 4 ?_; intro a S)
        refine wpc_false S rfl ?_
        (revert S a; revert hZ Z; refine go 4 ?_; intro a S)
        (refine wv S (sv_add S rfl rfl rfl (by first | omega | (have h9 : 0 < s.length := List.length_pos_iff.2 (by assumption); omega))) ?_; clear S a; intro a S)
        (revert S a; refine go 2 ?_; intro a S)
        change ∃ m', _ ∧ _
        exact zzEwC1
       (clear S a; intro h a S)
       (revert S a; revert hZ Z; refine go 14 ?_; intro a S)
       refine wpc_sp S rfl ?_ ?_ <;> intro h
       ·(revert S a; refine go 4 ?_; intro a S)
        refine wp_ret (fr1 S Tryz.results166 ?_)
        exact zzEwC0
       (revert S a; revert hZ Z; refine go 4 ?_; intro a S)
       (refine wv S (sv_add S rfl rfl rfl (by first | omega | (have h9 : 0 < s.length := List.length_pos_iff.2 (by assumption); omega))) ?_; clear S a; intro a S)
       (revert S a; refine go 2 ?_; intro a S)
       change ∃ m', _ ∧ _
       exact zzEwC1
      (clear S a; intro h a S)
      (revert S a; revert hZ Z; refine go 13 ?_; intro a S)
      refine wpc_false S rfl ?_
      (revert S a; revert hZ Z; refine go 4 ?_; intro a S)
      (refine wv S (sv_add S rfl rfl rfl (by first | omega | (have h9 : 0 < s.length := List.length_pos_iff.2 (by assumption); omega))) ?_; clear S a; intro a S)
      (revert S a; refine go 2 ?_; intro a S)
      change ∃ m', _ ∧ _
      exact zzEwC1
     (clear S a; intro h a S)
     (revert S a; refine go 13 ?_; intro a S)
     refine wgd S ?_ ?_
     ·(clear S; intro h S)
      (revert S a; refine go 9 ?_; intro a S)
      refine wgd S ?_ ?_
      ·(clear S; intro h S)
       (revert S a; revert hZ Z; refine go 6 ?_; intro a S)
       refine wpc_sp S rfl ?_ ?_ <;> intro h
       ·(revert S a; refine go 4 ?_; intro a S)
        refine wp_ret (fr1 S Tryz.results166 ?_)
        exact zzEwC0
       (revert S a; revert hZ Z; refine go 4 ?_; intro a S)
       (refine wv S (sv_add S rfl rfl rfl (by first | omega | (have h9 : 0 < s.length := List.length_pos_iff.2 (by assumption); omega))) ?_; clear S a; intro a S)
       (revert S a; refine go 2 ?_; intro a S)
       change ∃ m', _ ∧ _
       exact zzEwC1
      (clear S a; intro h a S)
      (revert S a; revert hZ Z; refine go 4 ?_; intro a S)
      refine wpc_false S rfl ?_
      (revert S a; revert hZ Z; refine go 4 ?_; intro a S)
      (refine wv S (sv_add S rfl rfl rfl (by first | omega | (have h9 : 0 < s.length := List.length_pos_iff.2 (by assumption); omega))) ?_; clear S a; intro a S)
      (revert S a; refine go 2 ?_; intro a S)
      change ∃ m', _ ∧ _
      exact zzEwC1
     (clear S a; intro h a S)
     (revert S a; revert hZ Z; refine go 14 ?_; intro a S)
     refine wpc_sp S rfl ?_ ?_ <;> intro h
     ·(revert S a; refine go 4 ?_; intro a S)
      refine wp_ret (fr1 S Tryz.results166 ?_)
      exact zzEwC0
     (revert S a; revert hZ Z; refine go 4 ?_; intro a S)
     (refine wv S (sv_add S rfl rfl rfl (by first | omega | (have h9 : 0 < s.length := List.length_pos_iff.2 (by assumption); omega))) ?_; clear S a; intro a S)
     (revert S a; refine go 2 ?_; intro a S)
     change ∃ m', _ ∧ _
     exact zzEwC1
    (clear S a; intro h a S)
    (revert S a; revert hZ Z; refine go 22 ?_; intro a S)
    refine wpc_false S rfl ?_
    (revert S a; revert hZ Z; refine go 4 ?_; intro a S)
    (refine wv S (sv_add S rfl rfl rfl (by first | omega | (have h9 : 0 < s.length := List.length_pos_iff.2 (by assumption); omega))) ?_; clear S a; intro a S)
    (revert S a; refine go 2 ?_; intro a S)
    change ∃ m', _ ∧ _
    exact zzEwC1
   (refine wp_exit ?_; conv => whnf)
   clear hZ Z
   (revert S a; revert hZ Z; refine go 5 ?_; intro a S)
   refine wp_ret (fr1 S Tryz.results166 ?_)
   exact zzEwC0
  (clear S a; intro h a S)
  (revert S a; revert hZ Z; refine go 6 ?_; intro a S)
  refine wpc_true S rfl ?_
  (revert S a; refine go 4 ?_; intro a S)
  refine wp_ret (fr1 S Tryz.results166 ?_)
  exact zzEwC0
 (clear S a; intro h a S)
 (revert S a; revert hZ Z; refine go 11 ?_; intro a S)
 refine wpc_true S rfl ?_
 (revert S a; refine go 4 ?_; intro a S)
 refine wp_ret (fr1 S Tryz.results166 ?_)
 exact zzEwC0
theorem rdigitsCt (F : Heap) (s : List UInt8) (hs : s ≠ []) (hb : s.length ≤ 140737488355328) : Ct Tryz.prog 115 [.string (bs s)] F [] (fun _ _ u => u = .int .i64 (rdig s)) := by
 have h9 : 0 < s.length := List.length_pos_iff.2 hs
 refine Ct.enter Tryz.func115 rfl Tryz.ntmps115 rfl fun w0 a S => ?_
 (revert S a; refine go 7 ?_; intro Z hZ Z hZ a S)
 (refine wv S (sv_indexSN (i := 0) S rfl rfl rfl (by omega)) ?_; clear S a; intro a S)
 (revert S a; revert hZ Z; refine go 3 ?_; intro a S)
 refine wpc_sp S rfl ?_ ?_ <;> intro h
 ·(revert S a; refine go 7 ?_; intro a S)
  refine wp_ret (fr1 S Tryz.results115 ?_)
  (congr 1; unfold rdig; first | (rw [if_pos (by omega)]; done) | (rw [if_neg (by omega)]; done) | trace_state)
 (revert S a; revert hZ Z; refine go 8 ?_; intro a S)
 refine wp_ret (fr1 S Tryz.results115 ?_)
 (congr 1; unfold rdig; first | (rw [if_pos (by omega)]; done) | (rw [if_neg (by omega)]; done) | trace_state)
theorem numB_at {d : List UInt8} {k : Nat} (hk : k < d.length) (h : ¬ (48 ≤ (d.getD k 0).toNat ∧ (d.getD k 0).toNat ≤ 57)) : numB d = false := by
 unfold numB
 rw [Bool.and_eq_false_iff]
 right
 rw [List.all_eq_false]
 refine ⟨d[k], List.getElem_mem hk, ?_⟩
 rw [List.getD_eq_getElem?_getD, List.getElem?_eq_getElem hk] at h
 simpa [digB] using h
theorem numB_no {d : List UInt8} (h : ¬ (d ≠ [] ∧ ¬ (1 < d.length ∧ (d.getD 0 0).toNat = 48))) : numB d = false := by
 unfold numB; rw [decide_eq_false h, Bool.false_and]
theorem numB_yes {d : List UInt8} (h : d ≠ [] ∧ ¬ (1 < d.length ∧ (d.getD 0 0).toNat = 48)) (h2 : ∀ j, j < d.length → digB (d.getD j 0) = true) : numB d = true := by
 unfold numB
 rw [decide_eq_true h, Bool.true_and, List.all_eq_true]
 intro c hc
 obtain ⟨j, hj, rfl⟩ := List.mem_iff_getElem.1 hc
 have := h2 j hj
 rwa [List.getD_eq_getElem?_getD, List.getElem?_eq_getElem hj] at this
theorem zzEwD0 {p : Prop} (h : p := by (congr 1; first | (unfold rnum; rw [if_pos (by omega), if_pos (by omega)]; done) | (rw [hrd]; first | (exact (numB_at (k := k) (by omega) (by omega)).symm) | (exact (numB_no (by rintro ⟨h1, h2⟩; first | omega | exact h1 (by assumption))).symm) | (exact (numB_yes ⟨by assumption, by omega⟩ (fun j hj => hall j (by omega))).symm)) | trace_state)) : p := h
theorem zzEwD1 {p : Prop} (h : p := by (refine ⟨d.length - (k + 1), by omega, k + 1, rfl, by omega, ?_, ?_⟩; rotate_left 1; (refine S.keep ?_; exact zk); intro j hj; rcases Nat.lt_or_eq_of_le (Nat.le_of_lt_succ hj) with h6 | h6; exact hall j h6; subst h6; exact decide_eq_true (by omega))) : p := h
theorem zzEwD2 {p : Prop} (h : p := by (first | (refine ⟨s.drop 1, ?_, by rw [List.length_drop]; omega, ?_⟩; rotate_left 1; (refine S.keep ?_; exact zk); unfold rnum; rw [if_pos (by omega), if_neg (by omega)]) | (refine ⟨s, ?_, Nat.le_refl _, ?_⟩; rotate_left 1; (refine S.keep ?_; exact zk); unfold rnum; rw [if_neg (by omega)]))) : p := h
theorem rnumberCt (F : Heap) (s : List UInt8) (hb : s.length ≤ 140737488355328) : Ct Tryz.prog 113 [.string (bs s)] F [] (fun _ _ u => u = .bool (rnum s)) := by
  refine Ct.enter Tryz.func113 rfl Tryz.ntmps113 rfl fun w0 a S => ?_
  (revert S a; refine go 4 ?_; intro a S)
  (refine wp_seq_k ?_; intro Z hZ)
  replace hZ : ∀ (a' : Act) (w' : World), (∃ (d : List UInt8), rnum s = numB d ∧ d.length ≤ s.length ∧ St 45 [(0, .string (bs d))] w0 F [] F [] a' w') → Z a' w' := (by
   (intro a w hM; refine hZ _ _ ?_; clear hZ Z; clear S; obtain ⟨d, hrd, hdl, S⟩ := hM)
   (revert S a; refine go 5 ?_; intro Z hZ Z hZ a S)
   refine wgd S ?_ ?_
   · (clear S; intro h S)
     (revert S a; refine go 7 ?_; intro a S)
     refine wgd S ?_ ?_
     · (clear S; intro h S)
       (revert S a; refine go 2 ?_; intro a S)
       (refine wv S (sv_indexSN (i := 0) S rfl rfl rfl (by first | omega | (simp only [List.length_drop]; omega) | (have h9 : 0 < s.length := List.length_pos_iff.2 (by assumption); omega) | (have h9 : 0 < d.length := List.length_pos_iff.2 (by assumption); omega))) ?_; clear S a; intro a S)
       (revert S a; revert hZ Z; refine go 7 ?_; intro a S)
       refine wpc_sp S rfl ?_ ?_ <;> intro h
       · (revert S a; refine go 4 ?_; intro a S)
         refine wp_ret (fr1 S Tryz.results113 ?_)
         exact zzEwD0
       (revert S a; revert hZ Z; refine go 8 ?_; intro Z hZ a S)
       refine wpc_loop (fun m a w' => ∃ (k : Nat), m = d.length - k ∧ k ≤ d.length ∧ (∀ j, j < k → digB (d.getD j 0) = true) ∧ St 45 [(0, .string (bs d)), (3, .int .i64 (k : Int))] w0 F [] F [] a w') ?_ ?_
       · (refine ⟨d.length, 0, by omega, Nat.zero_le _, fun j h => absurd h (Nat.not_lt_zero _), ?_⟩; refine S.keep ?_; exact zk)
       (clear S; rintro m a w ⟨k, rfl, hkl, hall, S⟩)
       (revert S a; refine go 8 ?_; intro Z hZ a S)
       refine wpc_sp S rfl ?_ ?_ <;> intro h
       · (revert S a; revert hZ Z; refine go 7 ?_; intro Z hZ Z hZ a S)
         first | (refine wv S (sv_indexSN S rfl rfl rfl (by first | omega | (simp only [List.length_drop]; omega) | (have h9 : 0 < s.length := List.length_pos_iff.2 (by assumption); omega) | (have h9 : 0 < d.length := List.length_pos_iff.2 (by assumption); omega))) ?_; clear S a; intro a S) | (refine wv S (sv_indexS S rfl rfl rfl (by first | omega | (simp only [List.length_drop]; omega) | (have h9 : 0 < s.length := List.length_pos_iff.2 (by assumption); omega) | (have h9 : 0 < d.length := List.length_pos_iff.2 (by assumption); omega))) ?_; clear S a; intro a S)
         (revert S a; refine go 2 ?_; intro a S)
         refine wgd S ?_ ?_
         · (clear S; intro h S)
           (revert S a; refine go 4 ?_; intro a S)
           first | (refine wv S (sv_indexSN S rfl rfl rfl (by first | omega | (simp only [List.length_drop]; omega) | (have h9 : 0 < s.length := List.length_pos_iff.2 (by assumption); omega) | (have h9 : 0 < d.length := List.length_pos_iff.2 (by assumption); omega))) ?_; clear S a; intro a S) | (refine wv S (sv_indexS S rfl rfl rfl (by first | omega | (simp only [List.length_drop]; omega) | (have h9 : 0 < s.length := List.length_pos_iff.2 (by assumption); omega) | (have h9 : 0 < d.length := List.length_pos_iff.2 (by assumption); omega))) ?_; clear S a; intro a S)
           (revert S a; revert hZ Z; refine go 5 ?_; intro a S)
           refine wpc_sp S rfl ?_ ?_ <;> intro h
           · (revert S a; refine go 4 ?_; intro a S)
             refine wp_ret (fr1 S Tryz.results113 ?_)
             exact zzEwD0
           (revert S a; revert hZ Z; refine go 4 ?_; intro a S)
           (refine wv S (sv_add S rfl rfl rfl (by first | omega | (simp only [List.length_drop]; omega) | (have h9 : 0 < s.length := List.length_pos_iff.2 (by assumption); omega) | (have h9 : 0 < d.length := List.length_pos_iff.2 (by assumption); omega))) ?_; clear S a; intro a S)
           (revert S a; refine go 2 ?_; intro a S)
           change ∃ m', _ ∧ _
           exact zzEwD1
         (clear S a; intro h a S)
         (revert S a; revert hZ Z; refine go 6 ?_; intro a S)
         refine wpc_true S rfl ?_
         (revert S a; refine go 4 ?_; intro a S)
         refine wp_ret (fr1 S Tryz.results113 ?_)
         exact zzEwD0
       (refine wp_exit ?_; conv => whnf)
       clear hZ Z
       (revert S a; revert hZ Z; refine go 5 ?_; intro a S)
       refine wp_ret (fr1 S Tryz.results113 ?_)
       exact zzEwD0
     (clear S a; intro h a S)
     (revert S a; revert hZ Z; refine go 7 ?_; intro a S)
     refine wpc_false S rfl ?_
     (revert S a; revert hZ Z; refine go 8 ?_; intro Z hZ a S)
     refine wpc_loop (fun m a w' => ∃ (k : Nat), m = d.length - k ∧ k ≤ d.length ∧ (∀ j, j < k → digB (d.getD j 0) = true) ∧ St 45 [(0, .string (bs d)), (3, .int .i64 (k : Int))] w0 F [] F [] a w') ?_ ?_
     · (refine ⟨d.length, 0, by omega, Nat.zero_le _, fun j h => absurd h (Nat.not_lt_zero _), ?_⟩; refine S.keep ?_; exact zk)
     (clear S; rintro m a w ⟨k, rfl, hkl, hall, S⟩)
     (revert S a; refine go 8 ?_; intro Z hZ a S)
     refine wpc_sp S rfl ?_ ?_ <;> intro h
     · (revert S a; revert hZ Z; refine go 7 ?_; intro Z hZ Z hZ a S)
       first | (refine wv S (sv_indexSN S rfl rfl rfl (by first | omega | (simp only [List.length_drop]; omega) | (have h9 : 0 < s.length := List.length_pos_iff.2 (by assumption); omega) | (have h9 : 0 < d.length := List.length_pos_iff.2 (by assumption); omega))) ?_; clear S a; intro a S) | (refine wv S (sv_indexS S rfl rfl rfl (by first | omega | (simp only [List.length_drop]; omega) | (have h9 : 0 < s.length := List.length_pos_iff.2 (by assumption); omega) | (have h9 : 0 < d.length := List.length_pos_iff.2 (by assumption); omega))) ?_; clear S a; intro a S)
       (revert S a; refine go 2 ?_; intro a S)
       refine wgd S ?_ ?_
       · (clear S; intro h S)
         (revert S a; refine go 4 ?_; intro a S)
         first | (refine wv S (sv_indexSN S rfl rfl rfl (by first | omega | (simp only [List.length_drop]; omega) | (have h9 : 0 < s.length := List.length_pos_iff.2 (by assumption); omega) | (have h9 : 0 < d.length := List.length_pos_iff.2 (by assumption); omega))) ?_; clear S a; intro a S) | (refine wv S (sv_indexS S rfl rfl rfl (by first | omega | (simp only [List.length_drop]; omega) | (have h9 : 0 < s.length := List.length_pos_iff.2 (by assumption); omega) | (have h9 : 0 < d.length := List.length_pos_iff.2 (by assumption); omega))) ?_; clear S a; intro a S)
         (revert S a; revert hZ Z; refine go 5 ?_; intro a S)
         refine wpc_sp S rfl ?_ ?_ <;> intro h
         · (revert S a; refine go 4 ?_; intro a S)
           refine wp_ret (fr1 S Tryz.results113 ?_)
           exact zzEwD0
         (revert S a; revert hZ Z; refine go 4 ?_; intro a S)
         (refine wv S (sv_add S rfl rfl rfl (by first | omega | (simp only [List.length_drop]; omega) | (have h9 : 0 < s.length := List.length_pos_iff.2 (by assumption); omega) | (have h9 : 0 < d.length := List.length_pos_iff.2 (by assumption); omega))) ?_; clear S a; intro a S)
         (revert S a; refine go 2 ?_; intro a S)
         change ∃ m', _ ∧ _
         exact zzEwD1
       (clear S a; intro h a S)
       (revert S a; revert hZ Z; refine go 6 ?_; intro a S)
       refine wpc_true S rfl ?_
       (revert S a; refine go 4 ?_; intro a S)
       refine wp_ret (fr1 S Tryz.results113 ?_)
       exact zzEwD0
     (refine wp_exit ?_; conv => whnf)
     clear hZ Z
     (revert S a; revert hZ Z; refine go 5 ?_; intro a S)
     refine wp_ret (fr1 S Tryz.results113 ?_)
     exact zzEwD0
   (clear S a; intro h a S)
   (revert S a; revert hZ Z; refine go 10 ?_; intro a S)
   refine wpc_true S rfl ?_
   (revert S a; refine go 4 ?_; intro a S)
   refine wp_ret (fr1 S Tryz.results113 ?_)
   (congr 1; first | (unfold rnum; rw [if_pos (by omega), if_pos (by omega)]; done) | (rw [hrd]; first | (exact (numB_at (k := k) (by omega) (by omega)).symm) | (exact (numB_no (by rintro ⟨h1, h2⟩; first | omega | exact h1 (by assumption))).symm) | (exact (numB_yes ⟨by assumption, by omega⟩ (fun j hj => hall j (by omega))).symm)) | trace_state))
  (revert S a; refine go 5 ?_; intro Z hZ a S)
  refine wgd S ?_ ?_
  · (clear S; intro h S)
    (revert S a; refine go 2 ?_; intro a S)
    (refine wv S (sv_indexSN (i := 0) S rfl rfl rfl (by first | omega | (simp only [List.length_drop]; omega) | (have h9 : 0 < s.length := List.length_pos_iff.2 (by assumption); omega) | (have h9 : 0 < d.length := List.length_pos_iff.2 (by assumption); omega))) ?_; clear S a; intro a S)
    (revert S a; revert hZ Z; refine go 5 ?_; intro a S)
    refine wpc_sp S rfl ?_ ?_ <;> intro h
    · (revert S a; refine go 2 ?_; intro Z hZ a S)
      (refine wv S (sv_sliceS_lo S rfl rfl rfl (by first | omega | (simp only [List.length_drop]; omega) | (have h9 : 0 < s.length := List.length_pos_iff.2 (by assumption); omega) | (have h9 : 0 < d.length := List.length_pos_iff.2 (by assumption); omega))) ?_; clear S a; intro a S)
      (rw [show Int.toNat 1 = 1 from rfl] at S)
      (revert S a; revert hZ Z; refine go 5 ?_; intro Z hZ a S)
      (refine wv S (sv_indexSN (i := 0) S rfl rfl rfl (by first | omega | (simp only [List.length_drop]; omega) | (have h9 : 0 < s.length := List.length_pos_iff.2 (by assumption); omega) | (have h9 : 0 < d.length := List.length_pos_iff.2 (by assumption); omega))) ?_; clear S a; intro a S)
      (revert S a; revert hZ Z; refine go 3 ?_; intro a S)
      refine wpc_sp S rfl ?_ ?_ <;> intro h
      · (revert S a; refine go 4 ?_; intro a S)
        refine wp_ret (fr1 S Tryz.results113 ?_)
        exact zzEwD0
      refine wp_skip ?_
      (refine hZ _ _ ?_)
      exact zzEwD2
    refine wp_skip ?_
    (refine hZ _ _ ?_)
    exact zzEwD2
  (clear S a; intro h a S)
  (revert S a; revert hZ Z; refine go 5 ?_; intro a S)
  refine wpc_false S rfl ?_
  refine wp_skip ?_
  (refine hZ _ _ ?_)
  exact zzEwD2
def dpN : Vf → Nat
 | .nil => 0
 | .cons _ L r => max (dpN L + 1) (dpN r)
theorem dpN_R : ∀ l : Vf, (dpN l : Int) = dpR l
 | .nil => rfl
 | .cons _ L r => by simp only [dpN, dpR, ← dpN_R L, ← dpN_R r]; omega
theorem idxB_cons (c d : UInt8) (r : List UInt8) : Lib.indexByte (d :: r) c = if d = c then 0 else if Lib.indexByte r c < 0 then -1 else Lib.indexByte r c + 1 := by
 have hg := Lib.indexByte_ge r c
 show (if (d == c) = true then (0 : Int) else if (Lib.indexByte r c == -1) = true then -1 else Lib.indexByte r c + 1) = _
 by_cases h : d = c
 ·rw [if_pos (by simpa using h), if_pos h]
 ·rw [if_neg (by simpa using h), if_neg h]
  by_cases h2 : Lib.indexByte r c < 0
  ·rw [if_pos h2, if_pos (by simp; omega)]
  ·rw [if_neg h2, if_neg (by simp; omega)]
theorem cutI_at : ∀ {s : List UInt8} {k : Nat}, k < s.length → (s.getD k 0).toNat = 46 → (∀ j, j < k → (s.getD j 0).toNat ≠ 46) → cutI s = k
 | [], k, hk, _, _ => absurd hk (Nat.not_lt_zero _)
 | d :: r, 0, _, h, _ => by
  unfold cutI
  rw [idxB_cons, if_pos (UInt8.toNat_inj.1 (show d.toNat = (46 : UInt8).toNat from h))]; rfl
 | d :: r, k + 1, hk, h, hall => by
  have ih := cutI_at (s := r) (k := k) (by simpa using hk) (by simpa using h) (fun j hj => by have := hall (j + 1) (by omega); simpa using this)
  have h0 : d ≠ 46 := fun e => hall 0 (by omega) (by subst e; rfl)
  unfold cutI at ih ⊢
  rw [idxB_cons, if_neg h0, ih, if_neg (by omega)]; rfl
theorem cutI_no : ∀ {s : List UInt8}, (∀ j, j < s.length → (s.getD j 0).toNat ≠ 46) → cutI s = -1
 | [], _ => rfl
 | d :: r, hall => by
  have ih := cutI_no (s := r) (fun j hj => by have := hall (j + 1) (by simpa using hj); simpa using this)
  have h0 : d ≠ 46 := fun e => hall 0 (by simp) (by subst e; rfl)
  unfold cutI at ih ⊢
  rw [idxB_cons, if_neg h0, ih, if_pos (by decide)]
theorem zzEwE0 {p : Prop} (h : p := by (congr 1; unfold rnamesS; first | (rw [if_pos (Or.inl (by assumption))]; done) | (rw [if_pos (Or.inr (by assumption))]; done) | (rw [if_neg (by rintro (h | h); exact absurd h (by assumption); exact absurd h (by assumption)), if_neg (by rw [cutI_no (fun j hj => hall j (by omega))]; decide)]; done) | (rw [if_neg (by rintro (h | h); exact absurd h (by assumption); exact absurd h (by assumption)), if_pos (by omega)]; unfold Go.De.cutA cutB; rw [if_pos (by omega), if_pos (by omega), hci]; simp_all; done) | trace_state)) : p := h
theorem r2namesCt (F : Heap) (s : List UInt8) (hb : s.length ≤ 140737488355328) : Ct Tryz.prog 114 [.string (bs s)] F [] (fun _ _ u => u = .bool (rnamesS s)) := by
 refine Ct.enter Tryz.func114 rfl Tryz.ntmps114 rfl fun w0 a S => ?_
 (revert S a; refine go 9 ?_; intro Z hZ Z hZ a S)
 refine wgd S ?_ ?_
 ·(clear S; intro h S)
  (revert S a; revert hZ Z; refine go 6 ?_; intro a S)
  refine wpc_sp S rfl ?_ ?_ <;> intro h
  ·(revert S a; refine go 4 ?_; intro a S)
   refine wp_ret (fr1 S Tryz.results114 ?_)
   exact zzEwE0
  (revert S a; revert hZ Z; refine go 8 ?_; intro Z hZ a S)
  refine wpc_loop (fun m a w' => ∃ (k : Nat), m = s.length - k ∧ k ≤ s.length ∧ (∀ j, j < k → (s.getD j 0).toNat ≠ 46) ∧ St 33 [(0, .string (bs s)), (3, .int .i64 (k : Int))] w0 F [] F [] a w') ?_ ?_
  ·(refine ⟨s.length, 0, by omega, Nat.zero_le _, fun j h => absurd h (Nat.not_lt_zero _), ?_⟩; refine S.keep ?_; exact zk)
  (clear S; rintro m a w ⟨k, rfl, hkl, hall, S⟩)
  (revert S a; refine go 8 ?_; intro Z hZ a S)
  refine wpc_sp S rfl ?_ ?_ <;> intro h
  ·(revert S a; revert hZ Z; refine go 7 ?_; intro Z hZ Z hZ a S)
   first | (refine wv S (sv_indexSN S rfl rfl rfl (by first | omega | (simp only [List.length_append, List.length_cons, List.length_nil]; omega))) ?_; clear S a; intro a S) | (refine wv S (sv_indexS S rfl rfl rfl (by first | omega | (simp only [List.length_append, List.length_cons, List.length_nil]; omega))) ?_; clear S a; intro a S)
   (revert S a; revert hZ Z; refine go 3 ?_; intro a S)
   refine wpc_sp S rfl ?_ ?_ <;> intro h
   ·(refine wp_seq_k ?_; intro Z hZ)
    (have hci := cutI_at (by omega) (by omega) hall)
    (revert S a; refine go 3 ?_; intro a S)
    (refine wv S (sv_sliceS_hi S rfl rfl rfl (by first | omega | (simp only [List.length_append, List.length_cons, List.length_nil]; omega))) ?_; clear S a; intro a S)
    (refine wc0 S (rnameCt F _) ?_; clear S a; intro v a w hv S; subst hv)
    (revert S a; refine go 1 ?_; intro a S)
    refine wgd S ?_ ?_
    ·(clear S; intro h S)
     (revert S a; refine go 6 ?_; intro a S)
     (refine wv S (sv_sliceS_lo S rfl rfl rfl (by first | omega | (simp only [List.length_append, List.length_cons, List.length_nil]; omega))) ?_; clear S a; intro a S)
     refine wpl_take S rfl rfl rfl ?_
     (refine wc0 S (rnameCt F _) ?_; clear S a; intro v a w hv S; subst hv)
     (revert S a; revert hZ Z; refine go 4 ?_; intro a S)
     refine wp_ret (fr1 S Tryz.results114 ?_)
     exact zzEwE0
    (clear S a; intro h a S)
    (revert S a; revert hZ Z; refine go 8 ?_; intro a S)
    refine wp_ret (fr1 S Tryz.results114 ?_)
    exact zzEwE0
   (revert S a; revert hZ Z; refine go 7 ?_; intro a S)
   change ∃ m', _ ∧ _
   (refine ⟨s.length - (k + 1), by omega, k + 1, rfl, by omega, ?_, ?_⟩; rotate_left 1; (refine S.keep ?_; exact zk); intro j hj; rcases Nat.lt_or_eq_of_le (Nat.le_of_lt_succ hj) with h6 | h6; exact hall j h6; subst h6; omega)
  (refine wp_exit ?_; conv => whnf)
  clear hZ Z
  (revert S a; revert hZ Z; refine go 3 ?_; intro Z hZ a S)
  (refine wc0 S (rnameCt F _) ?_; clear S a; intro v a w hv S; subst hv)
  (revert S a; revert hZ Z; refine go 3 ?_; intro a S)
  refine wp_ret (fr1 S Tryz.results114 ?_)
  exact zzEwE0
 (clear S a; intro h a S)
 (revert S a; revert hZ Z; refine go 4 ?_; intro a S)
 refine wpc_true S rfl ?_
 (revert S a; refine go 4 ?_; intro a S)
 refine wp_ret (fr1 S Tryz.results114 ?_)
 exact zzEwE0
end Go.Proofs.YthnafdbebniapaaGreatDoor
