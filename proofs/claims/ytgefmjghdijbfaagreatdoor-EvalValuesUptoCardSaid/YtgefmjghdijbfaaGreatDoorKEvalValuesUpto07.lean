/- Walks. -/
import Derived.Test.YtgefmjghdijbfaaGreatDoorQ13
import Derived.Test.YtgefmjghdijbfaaGreatDoorQ08
import Derived.Test.YtgefmjghdijbfaaGreatDoorQ07
import Derived.Test.YtgefmjghdijbfaaGreatDoorQ04
import Derived.Test.YtgefmjghdijbfaaGreatDoorQ03
import Derived.Test.YtgefmjghdijbfaaGreatDoorKEvalValuesUpto01
import Derived.Test.YtgefmjghdijbfaaGreatDoorKEvalValuesUptoTy
import Derived.Test.YtgefmjghdijbfaaGreatDoorQ05
import Derived.Test.YtgefmjghdijbfaaGreatDoorQShelf
import Derived.Test.YtgefmjghdijbfaaGreatDoorQ14
import Derived.OpenShut
import Derived.Below
import Derived.Carry
import Derived.SizedLaws
import Derived.Deep.Slices
import Derived.Deep.Strs
import Derived.Test.YtgefmjghdijbfaaGreatDoorQ09
import Derived.Test.YtgefmjghdijbfaaGreatDoorKEvalValuesUpto02
import Derived.Test.YtgefmjghdijbfaaGreatDoorQ15
import Derived.Test.YtgefmjghdijbfaaGreatDoorQ10
import Derived.Test.YtgefmjghdijbfaaGreatDoorQ19
import Derived.Test.YtgefmjghdijbfaaGreatDoorQ18
import Derived.Test.YtgefmjghdijbfaaGreatDoorQ11
import Derived.Test.YtgefmjghdijbfaaGreatDoorQ17
import Derived.Test.YtgefmjghdijbfaaGreatDoorQ16
import Derived.Test.YtgefmjghdijbfaaGreatDoorQ12
set_option maxHeartbeats 8000000
namespace Go.Proofs.YtgefmjghdijbfaaGreatDoor
open Go Go.Wk Go.Num
set_option linter.unusedSimpArgs false
set_option linter.unusedVariables false
attribute [local irreducible] Go.wpList Go.Code.wp Go.wpStill Go.Wk.wpPre Go.bodyPost Go.Calls Go.Wk.Ct Go.Wk.OwnS Go.Wk.wpG Go.Wk.wpM
theorem head_dd {N : Nat} (h : N ≠ 0) : (Lib.decDigits N).head? ≠ some 48 := by
 induction N using Nat.strongRecOn with
 | _ N ih =>
  by_cases hN : N < 10
  ·rw [dd_small hN]
   intro e
   simp only [List.head?_cons, Option.some.injEq] at e
   have e2 := congrArg UInt8.toNat e
   rw [UInt8.toNat_ofNat', Nat.mod_eq_of_lt (by omega)] at e2
   have : (48 : UInt8).toNat = 48 := rfl
   omega
  ·rw [dd_big hN]
   have hq : N / 10 ≠ 0 := by omega
   have := ih (N / 10) (by omega) hq
   have hne := dd_ne (N / 10)
   cases hd : Lib.decDigits (N / 10) with
   | nil => exact absurd hd hne
   | cons c r => rw [hd] at this; simpa using this
theorem head_isD {l : List UInt8} (h : l.all isD = true) : l.head? ≠ some 45 := by
 cases l with
 | nil => simp
 | cons c r =>
  rw [List.all_cons, Bool.and_eq_true] at h
  intro e
  simp only [List.head?_cons, Option.some.injEq] at e
  rw [e] at h; exact absurd h.1 (by decide)
theorem body_pos {l : List UInt8} (h : l.all isD = true) : bodyS l = l ∧ negS l = false := by
 have := head_isD h
 unfold bodyS negS; rw [if_neg this]; simp [this]
theorem show_ok {z : Int} (h : (showZ z).2 = 0) : checkS (showZ z).1 = 0 ∧ valS (showZ z).1 = z := by
 unfold showZ showS at h ⊢
 by_cases h0 : z.natAbs = 0
 ·rw [if_pos h0]
  have : z = 0 := by omega
  subst this
  exact ⟨by decide, by decide⟩
 ·rw [if_neg h0] at h ⊢
  split at h
  ·cases h
  ·rename_i hl
   rw [if_neg hl]
   have hall := dd_isD z.natAbs
   have hne := dd_ne z.natAbs
   have hh := head_dd h0
   by_cases hz : z < 0
   ·simp only [hz, decide_true, if_true, List.cons_append, List.nil_append]
    obtain ⟨e1, e2⟩ := body_neg (Lib.decDigits z.natAbs)
    refine ⟨?_, ?_⟩
    ·unfold checkS
     rw [e1, if_neg (by intro h; rcases h with h | h; exact hne h; exact hh h.1), if_pos hall, if_neg hl]
    ·unfold valS; rw [e1, e2, dd_val]; show -((z.natAbs : Nat) : Int) = z; omega
   ·simp only [hz, decide_false, Bool.false_eq_true, if_false, List.nil_append]
    obtain ⟨e1, e2⟩ := body_pos hall
    refine ⟨?_, ?_⟩
    ·unfold checkS
     rw [e1, if_neg (by intro h; rcases h with h | h; exact hne h; exact hh h.1), if_pos hall, if_neg hl]
    ·unfold valS; rw [e1, e2, dd_val]; show ((z.natAbs : Nat) : Int) = z; omega
theorem dd_len_lt {N m : Nat} (hm : m ≠ 0) : (Lib.decDigits N).length ≤ m ↔ N < 10 ^ m := by
 constructor
 ·intro h
  have := decV_lt _ (dd_isD N)
  rw [dd_val] at this
  exact Nat.lt_of_lt_of_le this (Nat.pow_le_pow_right (by decide) h)
 ·intro h; exact dd_len h hm
theorem showZ_err (z : Int) (M : Nat) (hM : M = 200) : (showZ z).2 = 0 ↔ z.natAbs < 10 ^ M := by
 have h0 : M ≠ 0 := by omega
 have := dd_len_lt (N := z.natAbs) h0
 unfold showZ showS
 by_cases hz : z.natAbs = 0
 ·rw [if_pos hz]; simp [hz]; exact Nat.pow_pos (by decide)
 ·rw [if_neg hz, ← this]
  split
  ·constructor
   ·intro h; cases h
   ·intro h; omega
  ·exact ⟨fun _ => by omega, fun _ => rfl⟩
theorem val_bound {s : List UInt8} (h : checkS s = 0) (M : Nat) (hM : M = 200) : (valS s).natAbs < 10 ^ M := by
 refine (showZ_err _ M hM).1 ?_
 rw [show_val h]
theorem show_neg {s : List UInt8} (h : checkS s = 0) : (showZ (-valS s)).2 = 0 := by
 have := val_bound h 200 rfl
 exact (showZ_err _ 200 rfl).2 (by rw [Int.natAbs_neg]; exact this)
end Go.Proofs.YtgefmjghdijbfaaGreatDoor
namespace Go.Wk
open Go Go.ChangeShapes Go.WideShapes
set_option linter.unusedSimpArgs false
set_option linter.unusedVariables false
theorem at_heapOf (w : World) : At w (heapOf w) [] := ⟨fun _ _ h => h, fun p h => by simp at h, by simp [keys]⟩
theorem below_of {W W' : World} {F' : Heap} {G' : List Grp} (h : Tr W (heapOf W) [] W' F' G') : Go.RowKit.Below W.heap.size W W' :=
 ⟨h.os, h.tape, h.output, h.size, fun k hk => h.old k hk (by simp)⟩
theorem cels_flat {α : Type} {cell : α → List Value} {sz : Nat} (hlen : ∀ x, (cell x).length = sz) {F : Heap} {b : Nat} : ∀ (l : List α) (off : Nat), (∀ i x, l[i]? = some x → Cels F b (off + i * sz) (cell x)) → Cels F b off (l.flatMap cell)
 | [], _, _ => fun _ _ h => by simp at h
 | x :: r, off, h => by
  rw [List.flatMap_cons]
  refine Cels.append (by have := h 0 x rfl; simpa using this) ?_
  rw [hlen]
  refine cels_flat hlen r _ fun i y hy => ?_
  have := h (i + 1) y hy
  rw [show off + sz + i * sz = off + (i + 1) * sz by rw [Nat.add_mul]; omega]
  exact this
end Go.Wk
namespace Go.De
open Go Go.Wk Go.Un
set_option linter.unusedSimpArgs false
set_option linter.unusedVariables false
theorem dpR_nn : ∀ l : Vf, 0 ≤ dpR l
 | .nil => Int.le_refl _
 | .cons _ L r => by have := dpR_nn L; have := dpR_nn r; simp only [dpR]; omega
theorem depV_le : ∀ (l : Vf) (n m : Int), depV l n m ≤ max n (dpR l)
 | .nil, n, m => by show n ≤ _; omega
 | .cons h L r, n, m => by
  rw [depV_cons]
  have h1 := depV_le L 0 (m - 1)
  have h2 := depV_le r (max n (depV L 0 (m - 1) + 1)) m
  have h3 := dpR_nn L
  simp only [dpR]
  split <;> omega
def digB (c : UInt8) : Bool := decide (48 ≤ c.toNat ∧ c.toNat ≤ 57)
def numB (d : List UInt8) : Bool := decide (d ≠ [] ∧ ¬ (1 < d.length ∧ (d.getD 0 0).toNat = 48)) && d.all digB
def rnum (s : List UInt8) : Bool := if 1 < s.length ∧ (s.getD 0 0).toNat = 45 then (if ((s.drop 1).getD 0 0).toNat = 48 then false else numB (s.drop 1)) else numB s
def rdig (s : List UInt8) : Int := if (s.getD 0 0).toNat = 45 then s.length - 1 else s.length
theorem dig_mem {c : UInt8} (h : digB c = true) : digS.contains c = true := by
 unfold digB at h
 rw [decide_eq_true_eq] at h
 have : ∀ n : Nat, 48 ≤ n → n ≤ 57 → ∀ c : UInt8, c.toNat = n → digS.contains c = true := by
  intro n h1 h2 c hc
  have e : c = UInt8.ofNat n := by rw [← hc]; simp
  subst e
  have : n = 48 ∨ n = 49 ∨ n = 50 ∨ n = 51 ∨ n = 52 ∨ n = 53 ∨ n = 54 ∨ n = 55 ∨ n = 56 ∨ n = 57 := by omega
  rcases this with rfl | rfl | rfl | rfl | rfl | rfl | rfl | rfl | rfl | rfl <;> decide
 exact this _ h.1 h.2 c rfl
theorem dropWhile_all {α : Type} {p : α → Bool} : ∀ {l : List α}, (∀ x ∈ l, p x = true) → l.dropWhile p = []
 | [], _ => rfl
 | x :: r, h => by
  rw [List.dropWhile_cons, h x (List.mem_cons_self ..), if_pos rfl]
  exact dropWhile_all fun y hy => h y (List.mem_cons_of_mem _ hy)
theorem trim_all {d : List UInt8} (h : d.all digB = true) : Lib.trimS d digS = [] := by
 have h1 : d.reverse.dropWhile (digS.contains ·) = [] := dropWhile_all fun x hx => dig_mem (List.all_eq_true.1 h x (List.mem_reverse.1 hx))
 unfold Lib.trimS Lib.trimRightS
 rw [h1]; rfl
theorem numD_of (s : List UInt8) : numD s = if s.take 1 = [45] then s.drop 1 else s := by
 unfold numD Lib.trimPrefix
 cases s with
 | nil => rfl
 | cons c r =>
  by_cases hc : c = 45
  ·subst hc; rfl
  ·have e1 : Lib.hasPrefix (c :: r) [45] = false := by
    unfold Lib.hasPrefix
    simp [List.isPrefixOf, hc, Ne.symm hc]
    try (intro h; exact hc h.symm)
   have e2 : ¬ (c :: r).take 1 = [45] := by simp [hc]
   rw [e1, if_neg e2]; rfl
theorem numB_ok {s d : List UInt8} (hd : numD s = d) (h : numB d = true) (hz : (d.getD 0 0).toNat = 48 → s = [48]) : numOK s = true := by
 unfold numB at h
 rw [Bool.and_eq_true, decide_eq_true_eq] at h
 unfold numOK
 rw [hd, decide_eq_false h.1.1, trim_all h.2]
 by_cases h0 : (d.getD 0 0).toNat = 48
 ·simp [hz h0]
 ·simp only [decide_eq_false h0, Bool.false_and, ne_eq, not_true_eq_false, decide_false, Bool.or_false, Bool.not_false]
theorem dash {s : List UInt8} : (s.getD 0 0).toNat = 45 ↔ s.take 1 = [45] := by
 cases s with
 | nil => simp
 | cons c r =>
  simp
  exact ⟨fun h => UInt8.toNat_inj.1 h, fun h => by subst h; rfl⟩
theorem rnum_ok {s : List UInt8} (h : rnum s = true) : numOK s = true ∧ rdig s = numN s := by
 have key : ∀ d, numD s = d → numB d = true → ((d.getD 0 0).toNat = 48 → s = [48]) → rdig s = d.length → numOK s = true ∧ rdig s = numN s := fun d e hb hz hr => by
  have h1 := numB_ok e hb hz
  refine ⟨h1, ?_⟩
  unfold numN
  rw [if_pos h1, e, hr]
 unfold rnum at h
 by_cases h1 : 1 < s.length ∧ (s.getD 0 0).toNat = 45
 ·rw [if_pos h1] at h
  by_cases h2 : ((s.drop 1).getD 0 0).toNat = 48
  ·rw [if_pos h2] at h; cases h
  rw [if_neg h2] at h
  refine key (s.drop 1) (by rw [numD_of, if_pos (dash.1 h1.2)]) h (fun h9 => absurd h9 h2) ?_
  unfold rdig
  rw [if_pos h1.2, List.length_drop]; omega
 ·rw [if_neg h1] at h
  have hnd : ¬ (s.getD 0 0).toNat = 45 := fun h9 => by
   have hlen : s.length = 1 ∨ s.length = 0 := by
    have : ¬ 1 < s.length := fun h8 => h1 ⟨h8, h9⟩
    omega
   unfold numB at h
   rw [Bool.and_eq_true] at h
   cases s with
   | nil => simp at h9
   | cons c r =>
    have h5 := List.all_eq_true.1 h.2 c (List.mem_cons_self ..)
    unfold digB at h5
    rw [decide_eq_true_eq] at h5
    simp at h9
    omega
  refine key s (by rw [numD_of, if_neg (fun h9 => hnd (dash.2 h9))]) h (fun h9 => ?_) ?_
  ·unfold numB at h
   rw [Bool.and_eq_true, decide_eq_true_eq] at h
   cases s with
   | nil => exact absurd rfl h.1.1
   | cons c r =>
    have hr : r = [] := by
     have : ¬ 1 < (c :: r).length := fun h8 => h.1.2 ⟨h8, h9⟩
     simp at this
     exact this
    subst hr
    simp at h9
    have : c = 48 := UInt8.toNat_inj.1 h9
    subst this; rfl
  ·unfold rdig; rw [if_neg hnd]
def rnamesS (s : List UInt8) : Bool := if s = sTrue ∨ s = sFalse then false else if 0 ≤ cutI s then nameS (cutA s) && nameS (cutB s) else nameS s
def rformH (h : VH) (n : Nat) : Bool :=
 if h.k = 1 then decide ((h.n = 0 ∨ h.n = 1) ∧ h.s = [] ∧ n = 0)
 else if h.k = 2 then decide (h.s = [] ∧ n = 0)
 else if h.k = 3 then decide (h.n = 0 ∧ n = 0) && rnum h.s
 else if h.k = 4 then decide (h.n = 0 ∧ n = 0)
 else if h.k = 5 then decide (h.n = 0 ∧ h.s = [] ∧ n ≠ 1)
 else if h.k = 6 then decide (h.n = 0) && rnamesS h.s
 else false
def rfitsH (h : VH) (n : Nat) : Bool :=
 if h.k = 3 then decide (rdig h.s ≤ 200) else if h.k = 4 then decide (h.s.length ≤ 4096) else if h.k = 5 then decide (n ≤ 16) else if h.k = 6 then decide (n ≤ 8) else true
def rformL : Vf → Bool
 | .nil => true
 | .cons h L r => (rformH h L.len && rformL L) && rformL r
def rfitsL : Vf → Bool
 | .nil => true
 | .cons h L r => (rfitsH h L.len && rfitsL L) && rfitsL r
def rcheckV (h : VH) (L : Vf) : Int := if 64 < dpR L + 1 then 65 else if (rformH h L.len && rformL L) = false then 4 else if (rfitsH h L.len && rfitsL L) = false then 40 else 0
theorem rnames_ok {s : List UInt8} (h : rnamesS s = true) : (nameS (cutA s) && ((cutC s && nameS (cutB s)) || (!cutC s && decide (s ≠ sTrue ∧ s ≠ sFalse)))) = true := by
 unfold rnamesS at h
 by_cases h1 : s = sTrue ∨ s = sFalse
 ·rw [if_pos h1] at h; cases h
 rw [if_neg h1] at h
 by_cases h2 : 0 ≤ cutI s
 ·rw [if_pos h2, Bool.and_eq_true] at h
  unfold cutC
  rw [decide_eq_true h2, h.1, h.2]; rfl
 ·rw [if_neg h2] at h
  unfold cutC cutA
  rw [decide_eq_false h2, if_neg h2, h, decide_eq_true (show s ≠ sTrue ∧ s ≠ sFalse from ⟨fun e => h1 (.inl e), fun e => h1 (.inr e)⟩)]
  rfl
theorem rformH_ok {h : VH} {n : Nat} (hf : rformH h n = true) : formH h n = true := by
 unfold rformH at hf
 unfold formH
 by_cases k1 : h.k = 1
 ·rw [if_pos k1] at hf ⊢; exact hf
 rw [if_neg k1] at hf ⊢
 by_cases k2 : h.k = 2
 ·rw [if_pos k2] at hf ⊢; exact hf
 rw [if_neg k2] at hf ⊢
 by_cases k3 : h.k = 3
 ·rw [if_pos k3] at hf ⊢
  rw [Bool.and_eq_true] at hf ⊢
  exact ⟨(rnum_ok hf.2).1, hf.1⟩
 rw [if_neg k3] at hf ⊢
 by_cases k4 : h.k = 4
 ·rw [if_pos k4] at hf ⊢; exact hf
 rw [if_neg k4] at hf ⊢
 by_cases k5 : h.k = 5
 ·rw [if_pos k5] at hf ⊢; exact hf
 rw [if_neg k5] at hf ⊢
 by_cases k6 : h.k = 6
 ·rw [if_pos k6] at hf ⊢
  rw [Bool.and_eq_true] at hf ⊢
  exact ⟨hf.1, rnames_ok hf.2⟩
 ·rw [if_neg k6] at hf; cases hf
theorem rfitsH_ok {h : VH} {n : Nat} (hf : rformH h n = true) (hg : rfitsH h n = true) : fitsH h n = true := by
 unfold rfitsH at hg
 unfold fitsH
 by_cases k3 : h.k = 3
 ·rw [if_pos k3] at hg ⊢
  unfold rformH at hf
  rw [if_neg (by omega), if_neg (by omega), if_pos k3, Bool.and_eq_true] at hf
  rw [← (rnum_ok hf.2).2]; exact hg
 ·rw [if_neg k3] at hg ⊢; exact hg
theorem rL_ok : ∀ {l : Vf}, rformL l = true → rfitsL l = true → formL l = true ∧ fitsL l = true
 | .nil, _, _ => ⟨rfl, rfl⟩
 | .cons h L r, hf, hg => by
  unfold rformL at hf
  unfold rfitsL at hg
  rw [Bool.and_eq_true, Bool.and_eq_true] at hf hg
  obtain ⟨a1, a2⟩ := rL_ok hf.1.2 hg.1.2
  obtain ⟨b1, b2⟩ := rL_ok hf.2 hg.2
  rw [formL_cons, fitsL_cons, rformH_ok hf.1.1, rfitsH_ok hf.1.1 hg.1.1, a1, a2, b1, b2]
  exact ⟨rfl, rfl⟩
theorem rcheck_ok {h : VH} {L : Vf} (hc : rcheckV h L = 0) : checkV h L = 0 := by
 unfold rcheckV at hc
 by_cases h1 : 64 < dpR L + 1
 ·rw [if_pos h1] at hc; cases hc
 rw [if_neg h1] at hc
 by_cases h2 : (rformH h L.len && rformL L) = false
 ·rw [if_pos h2] at hc; cases hc
 rw [if_neg h2] at hc
 by_cases h3 : (rfitsH h L.len && rfitsL L) = false
 ·rw [if_pos h3] at hc; cases hc
 rw [Bool.not_eq_false, Bool.and_eq_true] at h2 h3
 have hd := depV_le L 0 65
 have hn := dpR_nn L
 obtain ⟨a, b⟩ := rL_ok h2.2 h3.2
 unfold checkV
 rw [if_neg (by omega), rformH_ok h2.1, rfitsH_ok h2.1 h3.1, a, b, if_neg (by decide), if_neg (by decide)]
end Go.De
namespace Go.Proofs.YtgefmjghdijbfaaGreatDoor
open Go Go.Wk Go.Un Go.De Go.Num
set_option linter.unusedSimpArgs false
set_option linter.unusedVariables false
attribute [local irreducible] Go.wpList Go.Code.wp Go.wpStill Go.Wk.wpPre Go.bodyPost Go.Calls Go.Wk.Ct Go.Wk.OwnS Go.Wk.wpG Go.Wk.wpM
def callX1 (s : List UInt8) (x : Ex) : Ex := (callH s, .cons x.1 x.2 .nil)
section
variable {a b c : Int} (ha : in64 a) (hb : in64 b) (hc : in64 c)
include ha hb
include hc
end
def x1 (k : Nat) (a b : Int) : Ex := callX1 sBig (callX2 (opn k) (litX (intV a)) (litX (intV b)))
theorem dpR_get : ∀ {l : Vf} {k : Nat} {x : Vv}, l.get? k = some x → dpR x.2 + 1 ≤ dpR l
 | .cons h L r, 0, x, e => by cases e; simp only [dpR]; omega
 | .cons h L r, k + 1, x, e => by have := dpR_get (l := r) e; simp only [dpR]; omega
def szF : Nat → Vf → Nat
 | n, .nil => n
 | n, .cons h L r => if n < 3000 then szF (n + szF (1 + h.s.length / 64) L) r else n
def szV (x : Vv) : Nat := szF (1 + x.1.s.length / 64) x.2
theorem szF_big {n : Nat} {l : Vf} (h : 3000 ≤ n) : szF n l = n := by
 cases l with
 | nil => rfl
 | cons h L r => unfold szF; rw [if_neg (by omega)]
theorem szF_drop {n k : Nat} {l : Vf} {x : Vv} (h : l.get? k = some x) (hn : n < 3000) : szF n (l.drop k) = szF (n + szV x) (l.drop (k + 1)) := by
 rw [Rose.drop_get h]
 show (if n < 3000 then _ else _) = _
 rw [if_pos hn]; rfl
theorem szF_end {n k : Nat} {l : Vf} (h : l.len ≤ k ∨ 3000 ≤ n) : szF n (l.drop k) = n := by
 rcases h with h | h
 ·rw [Rose.drop_len h]; rfl
 ·exact szF_big h
theorem szF_bd : ∀ (l : Vf) (n : Nat), NV l → (szF n l : Int) ≤ max (n : Int) (4398046514104 + 3000 * dpR l)
 | .nil, n, _ => by show (n : Int) ≤ _; omega
 | .cons h L r, n, ⟨⟨_, h1⟩, h2, h3⟩ => by
  unfold szF
  have hL := dpR_nn L
  have hr := dpR_nn r
  by_cases hn : n < 3000
  ·rw [if_pos hn]
   have a := szF_bd r (n + szF (1 + h.s.length / 64) L) h3
   have b := szF_bd L (1 + h.s.length / 64) h2
   simp only [dpR]
   omega
  ·rw [if_neg hn]; omega
theorem szV_bd {x : Vv} (h : NVv x) (hd : dpR x.2 ≤ 2000000) : szV x ≤ 4611686018427387904 := by
 have := szF_bd x.2 (1 + x.1.s.length / 64) h.2
 have := h.1.2
 unfold szV
 omega
theorem szF_ge : ∀ (l : Vf) (n : Nat), n ≤ szF n l
 | .nil, n => Nat.le_refl _
 | .cons h L r, n => by
  unfold szF
  split
  ·have := szF_ge r (n + szF (1 + h.s.length / 64) L); omega
  ·exact Nat.le_refl _
def szT : Vf → Nat
 | .nil => 0
 | .cons h L r => (1 + h.s.length / 64 + szT L) + szT r
theorem szF_tot : ∀ (l : Vf) (n : Nat), szF n l < 3000 → n + szT l = szF n l
 | .nil, n, _ => rfl
 | .cons h L r, n, hs => by
  unfold szF at hs ⊢
  by_cases hn : n < 3000
  ·rw [if_pos hn] at hs ⊢
   have a := szF_ge r (n + szF (1 + h.s.length / 64) L)
   have b := szF_tot L (1 + h.s.length / 64) (by omega)
   have c := szF_tot r _ hs
   simp only [szT]
   omega
  ·rw [if_neg hn] at hs; omega
theorem szT_GVl : ∀ {l : Vf}, szT l < 1500 → NV l → GVl l ∧ l.size ≤ szT l
 | .nil, _, _ => ⟨trivial, Nat.zero_le _⟩
 | .cons h L r, hs, ⟨⟨h1, _⟩, h2, h3⟩ => by
  simp only [szT] at hs
  obtain ⟨a, b⟩ := szT_GVl (l := L) (by omega) h2
  obtain ⟨c, d⟩ := szT_GVl (l := r) (by omega) h3
  exact ⟨⟨⟨h1, by omega⟩, a, c⟩, by simp only [szT, Rose.size]; omega⟩
theorem szV_GV {x : Vv} (hs : szV x < 1500) (h : NVv x) : GV x := by
 unfold szV at hs
 have a := szF_tot _ _ (show szF (1 + x.1.s.length / 64) x.2 < 3000 by omega)
 obtain ⟨b, c⟩ := szT_GVl (l := x.2) (by omega) h.2
 exact ⟨⟨h.1.1, by omega⟩, b, by omega⟩
theorem dpE_nn : ∀ l : Ef, 0 ≤ dpE l
 | .nil => Int.le_refl _
 | .cons _ L r => by have := dpE_nn L; have := dpE_nn r; simp only [dpE]; omega
theorem dpE_get : ∀ {l : Ef} {k : Nat} {x : Ex}, l.get? k = some x → dpE x.2 + 1 ≤ dpE l
 | .cons h L r, 0, x, e => by cases e; simp only [dpE]; omega
 | .cons h L r, k + 1, x, e => by have := dpE_get (l := r) e; simp only [dpE]; omega
def ptF : Nat → Ef → Nat
 | n, .nil => n
 | n, .cons h L r => if n < 3000 then ptF (n + ptF (1 + szV (h.v, h.vl)) L) r else n
def ptE (x : Ex) : Nat := ptF (1 + szV (x.1.v, x.1.vl)) x.2
theorem ptF_big {n : Nat} {l : Ef} (h : 3000 ≤ n) : ptF n l = n := by
 cases l with
 | nil => rfl
 | cons h L r => unfold ptF; rw [if_neg (by omega)]
theorem ptF_drop {n k : Nat} {l : Ef} {x : Ex} (h : l.get? k = some x) (hn : n < 3000) : ptF n (l.drop k) = ptF (n + ptE x) (l.drop (k + 1)) := by
 rw [Rose.drop_get h]
 show (if n < 3000 then _ else _) = _
 rw [if_pos hn]; rfl
theorem ptF_end {n k : Nat} {l : Ef} (h : l.len ≤ k ∨ 3000 ≤ n) : ptF n (l.drop k) = n := by
 rcases h with h | h
 ·rw [Rose.drop_len h]; rfl
 ·exact ptF_big h
theorem ptF_bd : ∀ (l : Ef) (n : Nat), NE l → (ptF n l : Int) ≤ max (n : Int) (4611686018427390905 + 3000 * dpE l)
 | .nil, n, _ => by show (n : Int) ≤ _; omega
 | .cons h L r, n, ⟨h1, h2, h3⟩ => by
  unfold ptF
  have hL := dpE_nn L
  have hr := dpE_nn r
  by_cases hn : n < 3000
  ·rw [if_pos hn]
   have a := ptF_bd r (n + ptF (1 + szV (h.v, h.vl)) L) h3
   have b := ptF_bd L (1 + szV (h.v, h.vl)) h2
   have c := szV_bd h1.1 h1.2.1
   simp only [dpE]
   omega
  ·rw [if_neg hn]; omega
theorem ptE_bd {x : Ex} (h : NEe x) (hd : dpE x.2 ≤ 2000000) : ptE x ≤ 6917529027641081856 := by
 have := ptF_bd x.2 (1 + szV (x.1.v, x.1.vl)) h.2
 have := szV_bd h.1.1 h.1.2.1
 unfold ptE
 omega
theorem ptF_ge : ∀ (l : Ef) (n : Nat), n ≤ ptF n l
 | .nil, n => Nat.le_refl _
 | .cons h L r, n => by
  unfold ptF
  split
  ·have := ptF_ge r (n + ptF (1 + szV (h.v, h.vl)) L); omega
  ·exact Nat.le_refl _
theorem ptF_GE : ∀ {l : Ef} {n : Nat}, ptF n l < 1500 → NE l → GEl l ∧ l.len + n ≤ ptF n l
 | .nil, n, _, _ => ⟨trivial, by show 0 + n ≤ n; omega⟩
 | .cons h L r, n, hs, ⟨h1, h2, h3⟩ => by
  unfold ptF at hs ⊢
  by_cases hn : n < 3000
  ·rw [if_pos hn] at hs ⊢
   have a := ptF_ge r (n + ptF (1 + szV (h.v, h.vl)) L)
   have d := ptF_ge L (1 + szV (h.v, h.vl))
   obtain ⟨b, b2⟩ := ptF_GE (l := L) (n := 1 + szV (h.v, h.vl)) (by omega) h2
   obtain ⟨c, c2⟩ := ptF_GE (l := r) hs h3
   exact ⟨⟨⟨szV_GV (by omega) h1.1, ⟨by omega, h1.2.2⟩, b⟩, c⟩, by simp only [Rose.len]; omega⟩
  ·rw [if_neg hn] at hs; omega
theorem ptE_GE {x : Ex} (hs : ptE x < 1500) (h : NEe x) : GE x.1 x.2 := by
 unfold ptE at hs
 have d := ptF_ge x.2 (1 + szV (x.1.v, x.1.vl))
 obtain ⟨a, b⟩ := ptF_GE hs h.2
 exact ⟨szV_GV (by omega) h.1.1, ⟨by omega, h.1.2.2⟩, a⟩
def NB (vs : List Bd) : Prop := ∀ x ∈ vs, NVv x.2 ∧ dpR x.2.2 ≤ 2000000
def lgF : Nat → List Bd → Nat
 | n, [] => n
 | n, x :: r => if n < 3000 then lgF (n + szV x.2) r else n
def lgO (x : Ex) (vs : List Bd) : Nat := lgF (ptE x) vs
theorem lgF_drop {n k : Nat} {l : List Bd} {x : Bd} (h : l[k]? = some x) (hn : n < 3000) : lgF n (l.drop k) = lgF (n + szV x.2) (l.drop (k + 1)) := by
 rw [drop_at h]
 show (if n < 3000 then _ else _) = _
 rw [if_pos hn]
theorem lgF_end {n k : Nat} {l : List Bd} (h : l.length ≤ k ∨ 3000 ≤ n) : lgF n (l.drop k) = n := by
 rcases h with h | h
 ·rw [List.drop_eq_nil_of_le h]; rfl
 ·cases l.drop k with
  | nil => rfl
  | cons x r => show (if n < 3000 then _ else _) = _; rw [if_neg (by omega)]
theorem lgF_ge : ∀ (l : List Bd) (n : Nat), n ≤ lgF n l
 | [], n => Nat.le_refl _
 | x :: r, n => by
  unfold lgF
  split
  ·have := lgF_ge r (n + szV x.2); omega
  ·exact Nat.le_refl _
theorem lgF_GVB : ∀ {l : List Bd} {n : Nat}, lgF n l < 1500 → NB l → GVB l
 | [], n, _, _ => fun x hx => by cases hx
 | y :: r, n, hs, hb => by
  unfold lgF at hs
  by_cases hn : n < 3000
  ·rw [if_pos hn] at hs
   have a := lgF_ge r (n + szV y.2)
   have ih := lgF_GVB hs fun x hx => hb x (List.mem_cons_of_mem _ hx)
   intro x hx
   rcases List.mem_cons.1 hx with rfl | hx
   ·exact szV_GV (by omega) (hb _ (List.mem_cons_self ..)).1
   ·exact ih x hx
  ·rw [if_neg hn] at hs; omega
theorem lgO_ok {x : Ex} {vs : List Bd} (hs : lgO x vs < 1500) (hx : NEe x) (hv : NB vs) : GE x.1 x.2 ∧ GVB vs := by
 unfold lgO at hs
 have := lgF_ge vs (ptE x)
 exact ⟨ptE_GE (by omega) hx, lgF_GVB hs hv⟩
theorem lsizeCt : ∀ (n : Nat) (F : Heap) (x : Vv) (cs : List Value), x.2.size < n → NVv x → dpR x.2 ≤ 2000000 → VaC F cs x.1 x.2 → Ct Tryz.prog 25 [.agg ⟨cs⟩] F [] (fun _ _ u => u = .int .i64 (szV x : Int)) := by
 intro n
 induction n with
 | zero => intro F x cs hn; omega
 | succ n ih =>
 intro F x cs hn hN hd hV
 obtain ⟨⟨xk, xn, xs⟩, xl⟩ := x
 obtain ⟨v1, rfl, ⟨ao, cap, rfl, hcap, hpos⟩, hs1⟩ := hV
 dsimp only at *
 refine Ct.enter Tryz.func25 rfl Tryz.ntmps25 rfl fun w0 a S => ?_
 refine wp_sr fun Z hZ => ?_
 (refine wbx S ?_; clear S a; intro b1 a w S)
 (revert S a; revert hZ Z; refine go 7 ?_; intro Z hZ a S)
 (refine wv S (sv_quo S rfl rfl rfl (by first | omega | (simp only [List.length_append, List.length_cons, List.length_nil]; omega))) ?_; clear S a; intro a S)
 (revert S a; refine go 1 ?_; intro a S)
 (rw [show ((1 : Int) + (xs.length : Int) / 64) = ((1 + xs.length / 64 : Nat) : Int) by omega] at S)
 (revert S a; revert hZ Z; refine go 9 ?_; intro Z hZ a S)
 refine wpc_loop (fun m a w' => ∃ (k p : Nat), m = xl.len - k ∧ k ≤ xl.len ∧ szF p (xl.drop k) = szF (1 + xs.length / 64) xl ∧ St 30 [(1, ptr b1), (3, .int .i64 (p : Int)), (4, .int .i64 (k : Int))] w0 F [] F [[(b1, .cells ⟨[.int .u8 (xk : Int), .int .i64 xn, .string (bs xs), .slice ao xl.len cap]⟩ 33 (0, 0))]] a w') ?_ ?_
 ·(refine ⟨xl.len, 0, 1 + xs.length / 64, by omega, Nat.zero_le _, rfl, ?_⟩; refine S.keep ?_; exact zk)
 (clear S; rintro m a w ⟨k, p, rfl, hkl, hfp, S⟩)
 (revert S a; refine go 8 ?_; intro Z hZ Z hZ a S)
 refine wgd S ?_ ?_
 ·(clear S; intro h S)
  (revert S a; revert hZ Z; refine go 6 ?_; intro a S)
  refine wpc_sp S rfl ?_ ?_ <;> intro h
  ·(revert S a; revert hZ Z; refine go 4 ?_; intro Z hZ a S)
   (obtain ⟨b8, o8, hao, x, cs1, v1, hx, hc1, hw9, hT1⟩ := TrM.pos hpos (k := k) (by omega); rw [hao] at S; have hxs := Rose.size_get hx; have hNx := hN.2.get hx; have hdx := dpR_get hx; have hbx := szV_bd hNx (by omega); have hT1c := hT1; obtain ⟨a91, c91, rfl, -⟩ := hT1c; have hw9c := hw9.1; subst hw9c; (simp only [List.cons_append, List.nil_append] at hc1))
   (revert S a; refine go 7 ?_; intro a S)
   (refine wc0 S (ih F x _ (by omega) hNx (by omega) ⟨_, rfl, hT1, hw9.2⟩) ?_; clear S a; intro v a w hv S; subst hv)
   (revert S a; revert hZ Z; refine go 9 ?_; intro a S)
   change ∃ m', _ ∧ _
   (rw [← hao] at S; refine ⟨xl.len - (k + 1), by omega, k + 1, p + szV x, rfl, by omega, ?_, ?_⟩; rotate_left 1; (refine S.keep ?_; exact zk); rw [← szF_drop hx (by omega)]; exact hfp)
  (refine wp_exit ?_; conv => whnf)
  clear hZ Z
  (revert S a; revert hZ Z; refine go 6 ?_; intro a S)
  refine wp_ret (fr1 S Tryz.results25 ?_)
  (show _ = Value.int .i64 ((szF (1 + xs.length / 64) xl : Nat) : Int); rw [← hfp, szF_end (by omega)])
 (clear S a; intro h a S)
 (revert S a; revert hZ Z; refine go 4 ?_; intro a S)
 refine wpc_false S rfl ?_
 (refine wp_exit ?_; conv => whnf)
 clear hZ Z
 (revert S a; revert hZ Z; refine go 6 ?_; intro a S)
 refine wp_ret (fr1 S Tryz.results25 ?_)
 (show _ = Value.int .i64 ((szF (1 + xs.length / 64) xl : Nat) : Int); rw [← hfp, szF_end (by omega)])
theorem lpartsCt : ∀ (n : Nat) (F : Heap) (x : Ex) (cs : List Value), x.2.size < n → NEe x → dpE x.2 ≤ 2000000 → ExC F cs x.1 x.2 → Ct Tryz.prog 24 [.agg ⟨cs⟩] F [] (fun _ _ u => u = .int .i64 (ptE x : Int)) := by
 intro n
 induction n with
 | zero => intro F x cs hn; omega
 | succ n ih =>
 intro F x cs hn hN hd hX
 obtain ⟨eh, xl⟩ := x
 obtain ⟨a1, n1, c1, ao, cap, rfl, hT2, hT3⟩ := exc_slc hX
 have hX0 := hX
 obtain ⟨_, _, e0, hTv, hTl⟩ := hX0
 obtain ⟨_, _, e9, hcap, hpos⟩ := hT3
 cases e9
 dsimp only at *
 have hbv : szV (eh.v, eh.vl) ≤ 4611686018427387904 := szV_bd hN.1.1 hN.1.2.1
 have hsv : VaC F [.int .u8 (eh.v.k : Int), .int .i64 eh.v.n, .string (bs eh.v.s), .slice a1 n1 c1] eh.v eh.vl := ⟨_, rfl, hT2, hN.1.1.1.2⟩
 refine Ct.enter Tryz.func24 rfl Tryz.ntmps24 rfl fun w0 a S => ?_
 refine wp_sr fun Z hZ => ?_
 (refine wbx S ?_; clear S a; intro b1 a w S)
 (revert S a; revert hZ Z; refine go 6 ?_; intro Z hZ a S)
 (refine wc0 S (lsizeCt (eh.vl.size + 1) F (eh.v, eh.vl) _ (Nat.lt_succ_self _) hN.1.1 hN.1.2.1 hsv) ?_; clear S a; intro v a w hv S; subst hv)
 (revert S a; refine go 1 ?_; intro a S)
 (rw [show ((1 : Int) + (szV (eh.v, eh.vl) : Int)) = ((1 + szV (eh.v, eh.vl) : Nat) : Int) by omega] at S)
 (revert S a; revert hZ Z; refine go 9 ?_; intro Z hZ a S)
 refine wpc_loop (fun m a w' => ∃ (k p : Nat), m = xl.len - k ∧ k ≤ xl.len ∧ ptF p (xl.drop k) = ptF (1 + szV (eh.v, eh.vl)) xl ∧ St 29 [(1, ptr b1), (3, .int .i64 (p : Int)), (4, .int .i64 (k : Int))] w0 F [] F [[(b1, .cells ⟨[.int .u8 (eh.k : Int), .int .i64 eh.l, .int .i64 eh.c, .string (bs eh.nm), .int .u8 (eh.v.k : Int), .int .i64 eh.v.n, .string (bs eh.v.s), .slice a1 n1 c1, .slice ao xl.len cap]⟩ 36 (0, 0))]] a w') ?_ ?_
 ·(refine ⟨xl.len, 0, 1 + szV (eh.v, eh.vl), by omega, Nat.zero_le _, rfl, ?_⟩; refine S.keep ?_; exact zk)
 (clear S; rintro m a w ⟨k, p, rfl, hkl, hfp, S⟩)
 (revert S a; refine go 8 ?_; intro Z hZ Z hZ a S)
 refine wgd S ?_ ?_
 ·(clear S; intro h S)
  (revert S a; revert hZ Z; refine go 6 ?_; intro a S)
  refine wpc_sp S rfl ?_ ?_ <;> intro h
  ·(revert S a; revert hZ Z; refine go 4 ?_; intro Z hZ a S)
   (obtain ⟨b8, o8, hao, x, cs1, v1, hx, hc1, hw9, hT1⟩ := TrM.pos hpos (k := k) (by omega); rw [hao] at S; have hxs := Rose.size_get hx; have hNx := hN.2.get hx; have hdx := dpE_get hx; have hbx := ptE_bd hNx (by omega); have hXx := exc_of hw9 hT1; have hxc := hXx; obtain ⟨a91, n91, c91, a92, c92, exx, -, -⟩ := exc_slc hxc; rw [exx] at hc1 hXx)
   (revert S a; refine go 6 ?_; intro a S)
   (refine wv S (sv_loadAF S rfl rfl hc1 (by rfl)) ?_; clear S a; intro a S)
   (refine wc0 S (ih F x _ (by omega) hNx (by omega) hXx) ?_; clear S a; intro v a w hv S; subst hv)
   (revert S a; revert hZ Z; refine go 9 ?_; intro a S)
   change ∃ m', _ ∧ _
   (rw [← hao] at S; refine ⟨xl.len - (k + 1), by omega, k + 1, p + ptE x, rfl, by omega, ?_, ?_⟩; rotate_left 1; (refine S.keep ?_; exact zk); rw [← ptF_drop hx (by omega)]; exact hfp)
  (refine wp_exit ?_; conv => whnf)
  clear hZ Z
  (revert S a; revert hZ Z; refine go 6 ?_; intro a S)
  refine wp_ret (fr1 S Tryz.results24 ?_)
  (show _ = Value.int .i64 ((ptF (1 + szV (eh.v, eh.vl)) xl : Nat) : Int); rw [← hfp, ptF_end (by omega)])
 (clear S a; intro h a S)
 (revert S a; revert hZ Z; refine go 4 ?_; intro a S)
 refine wpc_false S rfl ?_
 (refine wp_exit ?_; conv => whnf)
 clear hZ Z
 (revert S a; revert hZ Z; refine go 6 ?_; intro a S)
 refine wp_ret (fr1 S Tryz.results24 ?_)
 (show _ = Value.int .i64 ((ptF (1 + szV (eh.v, eh.vl)) xl : Nat) : Int); rw [← hfp, ptF_end (by omega)])
theorem llargeCt (F : Heap) (x : Ex) (cs : List Value) (vs : List Bd) (vv : Value) (hN : NEe x) (hd : dpE x.2 ≤ 2000000) (hB : NB vs) (hX : ExC F cs x.1 x.2) (hv : LiM F 5 BdR vv vs) : Ct Tryz.prog 6 [.agg ⟨cs⟩, vv] F [] (fun _ _ u => u = .bool (decide (1500 ≤ lgO x vs))) := by
 obtain ⟨ao, cap, rfl, hcap, hpos⟩ := hv
 have hX0 := hX
 obtain ⟨a1, n1, c1, a2, c2, rfl, -, -⟩ := exc_slc hX
 have hbx := ptE_bd hN hd
 refine Ct.enter Tryz.func6 rfl Tryz.ntmps6 rfl fun w0 a S => ?_
 refine wp_sr fun Z hZ => ?_
 (refine wbx S ?_; clear S a; intro b2 a w S)
 (revert S a; revert hZ Z; refine go 5 ?_; intro Z hZ a S)
 (refine wc0 S (lpartsCt (x.2.size + 1) F x _ (Nat.lt_succ_self _) hN hd hX0) ?_; clear S a; intro v a w hv S; subst hv)
 (revert S a; revert hZ Z; refine go 9 ?_; intro Z hZ a S)
 refine wpc_loop (fun m a w' => ∃ (k p : Nat), m = vs.length - k ∧ k ≤ vs.length ∧ p ≤ 6917529027641081856 ∧ lgF p (vs.drop k) = lgO x vs ∧ St 29 [(1, .slice ao vs.length cap), (5, .int .i64 (p : Int)), (6, .int .i64 (k : Int))] w0 F [] F [] a w') ?_ ?_
 ·(replace S := S.drop1; refine ⟨vs.length, 0, ptE x, by omega, Nat.zero_le _, hbx, rfl, ?_⟩; refine S.keep ?_; exact zk)
 (clear S; rintro m a w ⟨k, p, rfl, hkl, hpb, hfp, S⟩)
 (revert S a; refine go 7 ?_; intro Z hZ Z hZ a S)
 refine wgd S ?_ ?_
 ·(clear S; intro h S)
  (revert S a; revert hZ Z; refine go 6 ?_; intro a S)
  refine wpc_sp S rfl ?_ ?_ <;> intro h
  ·(revert S a; revert hZ Z; refine go 4 ?_; intro Z hZ a S)
   (obtain ⟨b8, o8, hao, y, cs1, hy, hc1, c9, rfl, hVy⟩ := LiM.pos hpos (k := k) (by omega); rw [hao] at S; have hNy := hB y (List.mem_of_getElem? hy); have hby := szV_bd hNy.1 hNy.2; have hVc := hVy; obtain ⟨a91, c91, rfl, -, -⟩ := vac_slc hVc; have hc2 := Cels.drop hc1 1)
   (revert S a; refine go 6 ?_; intro a S)
   (refine wv S (sv_loadAF S rfl rfl hc2 (by rfl)) ?_; clear S a; intro a S)
   (refine wc0 S (lsizeCt (y.2.2.size + 1) F y.2 _ (Nat.lt_succ_self _) hNy.1 hNy.2 hVy) ?_; clear S a; intro v a w hv S; subst hv)
   (revert S a; revert hZ Z; refine go 9 ?_; intro a S)
   change ∃ m', _ ∧ _
   (rw [← hao] at S; refine ⟨vs.length - (k + 1), by omega, k + 1, p + szV y.2, rfl, by omega, by omega, ?_, ?_⟩; rotate_left 1; (refine S.keep ?_; exact zk); rw [← lgF_drop hy (by omega)]; exact hfp)
  (refine wp_exit ?_; conv => whnf)
  clear hZ Z
  (revert S a; revert hZ Z; refine go 7 ?_; intro a S)
  refine wp_ret (fr1 S Tryz.results6 ?_)
  (rw [← hfp, lgF_end (by omega)]; congr 1; exact decide_eq_decide.2 (by omega))
 (clear S a; intro h a S)
 (revert S a; revert hZ Z; refine go 4 ?_; intro a S)
 refine wpc_false S rfl ?_
 (refine wp_exit ?_; conv => whnf)
 clear hZ Z
 (revert S a; revert hZ Z; refine go 7 ?_; intro a S)
 refine wp_ret (fr1 S Tryz.results6 ?_)
 (rw [← hfp, lgF_end (by omega)]; congr 1; exact decide_eq_decide.2 (by omega))
theorem rletterCt (F : Heap) (c : Nat) : Ct Tryz.prog 169 [.int .u8 (c : Int)] F [] (fun _ _ u => u = .bool (decide (97 ≤ c ∧ c ≤ 122))) := by
 refine Ct.enter Tryz.func169 rfl Tryz.ntmps169 rfl fun w0 a S => ?_
 (revert S a; refine go 8 ?_; intro Z hZ a S)
 refine wgd S ?_ ?_
 ·(clear S; intro h S)
  (revert S a; revert hZ Z; refine go 7 ?_; intro a S)
  refine wp_ret (fr1 S Tryz.results169 ?_)
  (congr 1; first | (exact decide_eq_decide.2 (by omega)) | (exact (decide_eq_false (by omega)).symm) | trace_state)
 (clear S a; intro h a S)
 (revert S a; revert hZ Z; refine go 5 ?_; intro a S)
 refine wp_ret (fr1 S Tryz.results169 ?_)
 (congr 1; first | (exact decide_eq_decide.2 (by omega)) | (exact (decide_eq_false (by omega)).symm) | trace_state)
theorem zzEwC0 {p : Prop} (h : p := by (congr 1; first | (exact (name_no2 (k := k) (by omega) (decide_eq_false (by omega))).symm) | (exact (name_yes ⟨by assumption, by omega, by omega, by omega⟩ (fun j hj => hall j (by omega))).symm) | (exact (name_no1 (by rintro ⟨h1, h2, h3, h4⟩; first | omega | exact h1 (by assumption))).symm) | trace_state)) : p := h
theorem zzEwC1 {p : Prop} (h : p := by (refine ⟨s.length - (k + 1), by omega, k + 1, rfl, by omega, ?_, ?_⟩; rotate_left 1; (refine S.keep ?_; exact zk); intro j hj; rcases Nat.lt_or_eq_of_le (Nat.le_of_lt_succ hj) with h6 | h6; exact hall j h6; subst h6; exact decide_eq_true (by omega))) : p := h
theorem rnameCt (F : Heap) (s : List UInt8) : Ct Tryz.prog 132 [.string (bs s)] F [] (fun _ _ u => u = .bool (nameS s)) := by
 refine Ct.enter Tryz.func132 rfl Tryz.ntmps132 rfl fun w0 a S => ?_
 (revert S a; refine go 9 ?_; intro Z hZ Z hZ a S)
 refine wgd S ?_ ?_
 ·(clear S; intro h S)
  (revert S a; refine go 7 ?_; intro a S)
  refine wgd S ?_ ?_
  ·(clear S; intro h S)
   (revert S a; refine go 2 ?_; intro a S)
   (refine wv S (sv_indexSN (i := 0) S rfl rfl rfl (by first | omega | (have h9 : 0 < s.length := List.length_pos_iff.2 (by assumption); omega))) ?_; clear S a; intro a S)
   refine wpl_take S rfl rfl rfl ?_
   (refine wc0 S (rletterCt F _) ?_; clear S a; intro v a w hv S; subst hv)
   (revert S a; revert hZ Z; refine go 5 ?_; intro a S)
   refine wpc_sp S rfl ?_ ?_ <;> intro h
   ·(revert S a; refine go 4 ?_; intro a S)
    refine wp_ret (fr1 S Tryz.results132 ?_)
    exact zzEwC0
   (revert S a; revert hZ Z; refine go 8 ?_; intro Z hZ a S)
   refine wpc_loop (fun m a w' => ∃ (k : Nat), m = s.length - k ∧ k ≤ s.length ∧ (∀ j, j < k → nameN (s.getD j 0).toNat = true) ∧ St 52 [(0, .string (bs s)), (3, .int .i64 (k : Int))] w0 F [] F [] a w') ?_ ?_
   ·(refine ⟨s.length, 0, by omega, Nat.zero_le _, fun j h => absurd h (Nat.not_lt_zero _), ?_⟩; refine S.keep ?_; exact zk)
   (clear S; rintro m a w ⟨k, rfl, hkl, hall, S⟩)
   (revert S a; refine go 8 ?_; intro Z hZ a S)
   refine wpc_sp S rfl ?_ ?_ <;> intro h
   ·(revert S a; revert hZ Z; refine go 7 ?_; intro Z hZ Z hZ a S)
    first | (refine wv S (sv_indexSN S rfl rfl rfl (by first | omega | (have h9 : 0 < s.length := List.length_pos_iff.2 (by assumption); omega))) ?_; clear S a; intro a S) | (refine wv S (sv_indexS S rfl rfl rfl (by first | omega | (have h9 : 0 < s.length := List.length_pos_iff.2 (by assumption); omega))) ?_; clear S a; intro a S)
    (revert S a; revert hZ Z; refine go 5 ?_; intro Z hZ a S)
    (refine wc0 S (rletterCt F _) ?_; clear S a; intro v a w hv S; subst hv)
    (revert S a; refine go 2 ?_; intro a S)
    refine wgd S ?_ ?_
    ·(clear S; intro h S)
     (revert S a; refine go 5 ?_; intro a S)
     refine wgd S ?_ ?_
     ·(clear S; intro h S)
      (revert S a; refine go 9 ?_; intro a S)
      refine wgd S ?_ ?_
      ·(clear S; intro h S)
       (revert S a; refine go 5 ?_; intro a S)
       refine wgd S ?_ ?_
       ·(clear S; intro h S)
        (revert S a; refine go 9 ?_; intro a S)
        refine wgd S ?_ ?_
        ·(clear S; intro h S)
         (revert S a; revert hZ Z; refine go 6 ?_; intro a S)
         refine wpc_sp S rfl ?_ ?_ <;> intro h
         ·(revert S a; refine go 4 ?_; intro a S)
          refine wp_ret (fr1 S Tryz.results132 ?_)
          exact zzEwC0
         (revert S a; revert hZ Z; refine go 4 ?_; intro a S)
         (refine wv S (sv_add S rfl rfl rfl (by first | omega | (have h9 : 0 < s.length := List.length_pos_iff.2 (by assumption); omega))) ?_; clear S a; intro a S)
         (revert S a; refine go 2 ?_; intro a S)
         change ∃ m', _ ∧ _
         exact zzEwC1
        (clear S a; intro h a S)
        (revert S a; revert hZ Z; refine go 4 ?_; intro a S)
        refine wpc_false S rfl ?_
        (revert S a; revert hZ Z; refine go 4 ?_; intro a S)
        (refine wv S (sv_add S rfl rfl rfl (by first | omega | (have h9 : 0 < s.length := List.length_pos_iff.2 (by assumption); omega))) ?_; clear S a; intro a S)
        (revert S a; refine go 2 ?_; intro a S)
        change ∃ m', _ ∧ _
        exact zzEwC1
       (clear S a; intro h a S)
       (revert S a; revert hZ Z; refine go 14 ?_; intro a S)
       refine wpc_sp S rfl ?_ ?_ <;> intro h
       ·(revert S a; refine go 4 ?_; intro a S)
        refine wp_ret (fr1 S Tryz.results132 ?_)
        exact zzEwC0
       (revert S a; revert hZ Z; refine go 4 ?_; intro a S)
       (refine wv S (sv_add S rfl rfl rfl (by first | omega | (have h9 : 0 < s.length := List.length_pos_iff.2 (by assumption); omega))) ?_; clear S a; intro a S)
       (revert S a; refine go 2 ?_; intro a S)
       change ∃ m', _ ∧ _
       exact zzEwC1
      (clear S a; intro h a S)
      (revert S a; revert hZ Z; refine go 13 ?_; intro a S)
      refine wpc_false S rfl ?_
      (revert S a; revert hZ Z; refine go 4 ?_; intro a S)
      (refine wv S (sv_add S rfl rfl rfl (by first | omega | (have h9 : 0 < s.length := List.length_pos_iff.2 (by assumption); omega))) ?_; clear S a; intro a S)
      (revert S a; refine go 2 ?_; intro a S)
      change ∃ m', _ ∧ _
      exact zzEwC1
     (clear S a; intro h a S)
     (revert S a; refine go 13 ?_; intro a S)
     refine wgd S ?_ ?_
     ·(clear S; intro h S)
      (revert S a; refine go 9 ?_; intro a S)
      refine wgd S ?_ ?_
      ·(clear S; intro h S)
       (revert S a; revert hZ Z; refine go 6 ?_; intro a S)
       refine wpc_sp S rfl ?_ ?_ <;> intro h
       ·(revert S a; refine go 4 ?_; intro a S)
        refine wp_ret (fr1 S Tryz.results132 ?_)
        exact zzEwC0
       (revert S a; revert hZ Z; refine go 4 ?_; intro a S)
       (refine wv S (sv_add S rfl rfl rfl (by first | omega | (have h9 : 0 < s.length := List.length_pos_iff.2 (by assumption); omega))) ?_; clear S a; intro a S)
       (revert S a; refine go 2 ?_; intro a S)
       change ∃ m', _ ∧ _
       exact zzEwC1
      (clear S a; intro h a S)
      (revert S a; revert hZ Z; refine go 4 ?_; intro a S)
      refine wpc_false S rfl ?_
      (revert S a; revert hZ Z; refine go 4 ?_; intro a S)
      (refine wv S (sv_add S rfl rfl rfl (by first | omega | (have h9 : 0 < s.length := List.length_pos_iff.2 (by assumption); omega))) ?_; clear S a; intro a S)
      (revert S a; refine go 2 ?_; intro a S)
      change ∃ m', _ ∧ _
      exact zzEwC1
     (clear S a; intro h a S)
     (revert S a; revert hZ Z; refine go 14 ?_; intro a S)
     refine wpc_sp S rfl ?_ ?_ <;> intro h
     ·(revert S a; refine go 4 ?_; intro a S)
      refine wp_ret (fr1 S Tryz.results132 ?_)
      exact zzEwC0
     (revert S a; revert hZ Z; refine go 4 ?_; intro a S)
     (refine wv S (sv_add S rfl rfl rfl (by first | omega | (have h9 : 0 < s.length := List.length_pos_iff.2 (by assumption); omega))) ?_; clear S a; intro a S)
     (revert S a; refine go 2 ?_; intro a S)
     change ∃ m', _ ∧ _
     exact zzEwC1
    (clear S a; intro h a S)
    (revert S a; revert hZ Z; refine go 22 ?_; intro a S)
    refine wpc_false S rfl ?_
    (revert S a; revert hZ Z; refine go 4 ?_; intro a S)
    (refine wv S (sv_add S rfl rfl rfl (by first | omega | (have h9 : 0 < s.length := List.length_pos_iff.2 (by assumption); omega))) ?_; clear S a; intro a S)
    (revert S a; refine go 2 ?_; intro a S)
    change ∃ m', _ ∧ _
    exact zzEwC1
   (refine wp_exit ?_; conv => whnf)
   clear hZ Z
   (revert S a; revert hZ Z; refine go 5 ?_; intro a S)
   refine wp_ret (fr1 S Tryz.results132 ?_)
   exact zzEwC0
  (clear S a; intro h a S)
  (revert S a; revert hZ Z; refine go 6 ?_; intro a S)
  refine wpc_true S rfl ?_
  (revert S a; refine go 4 ?_; intro a S)
  refine wp_ret (fr1 S Tryz.results132 ?_)
  exact zzEwC0
 (clear S a; intro h a S)
 (revert S a; revert hZ Z; refine go 11 ?_; intro a S)
 refine wpc_true S rfl ?_
 (revert S a; refine go 4 ?_; intro a S)
 refine wp_ret (fr1 S Tryz.results132 ?_)
 exact zzEwC0
end Go.Proofs.YtgefmjghdijbfaaGreatDoor
