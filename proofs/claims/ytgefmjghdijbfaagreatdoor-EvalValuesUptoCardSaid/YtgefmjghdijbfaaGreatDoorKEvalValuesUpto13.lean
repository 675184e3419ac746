/- Walks. -/
import Derived.Test.YtgefmjghdijbfaaGreatDoorKEvalValuesUpto07
import Derived.Test.YtgefmjghdijbfaaGreatDoorKEvalValuesUpto02
import Derived.Lib.IndexMore
import Derived.Test.YtgefmjghdijbfaaGreatDoorQ16
import Derived.Test.YtgefmjghdijbfaaGreatDoorQ15
import Derived.Test.YtgefmjghdijbfaaGreatDoorQ10
import Derived.Test.YtgefmjghdijbfaaGreatDoorQ07
import Derived.Test.YtgefmjghdijbfaaGreatDoorKEvalValuesUptoTy
import Derived.Test.YtgefmjghdijbfaaGreatDoorQ11
import Derived.Test.YtgefmjghdijbfaaGreatDoorQ05
import Derived.Test.YtgefmjghdijbfaaGreatDoorKEvalValuesUpto01
import Derived.Test.YtgefmjghdijbfaaGreatDoorQShelf
import Derived.Test.YtgefmjghdijbfaaGreatDoorQ12
import Derived.Test.YtgefmjghdijbfaaGreatDoorQ09
import Derived.Test.YtgefmjghdijbfaaGreatDoorQ08
import Derived.Test.YtgefmjghdijbfaaGreatDoorQ14
import Derived.Test.YtgefmjghdijbfaaGreatDoorKEvalValuesUpto12
import Derived.Test.YtgefmjghdijbfaaGreatDoorKEvalValuesUpto08
import Derived.Test.YtgefmjghdijbfaaGreatDoorQ19
import Derived.Test.YtgefmjghdijbfaaGreatDoorKEvalValuesUpto06
set_option maxHeartbeats 16000000
set_option maxRecDepth 20000
namespace Go.Proofs.YtgefmjghdijbfaaGreatDoor
open Go Go.Wk Go.Un Go.De Go.Cv Go.Num Go.ChangeShapes Go.WideShapes Go.ChangeAt Go.RowKit
set_option linter.unusedSimpArgs false
set_option linter.unusedVariables false
attribute [local irreducible] Go.wpList Go.Code.wp Go.wpStill Go.Wk.wpPre Go.bodyPost Go.Calls Go.Wk.Ct Go.Wk.OwnS Go.Wk.wpG Go.Wk.wpM
theorem dpR_of : ∀ (l : Vf) (n m : Int), 0 ≤ n → depV l n m < m → dpR l ≤ depV l n m
 | .nil, n, m, hn, _ => hn
 | .cons h L r, n, m, hn, hd => by
  rw [depV_cons] at hd ⊢
  by_cases hm : m ≤ n
  ·rw [if_pos hm] at hd; omega
  ·rw [if_neg hm] at hd ⊢
   have h1 := dpR_of r _ m (by omega) hd
   have h2 := (depV_bd r (max n (depV L 0 (m - 1) + 1)) m (by omega)).1
   have h3 := dpR_of L 0 (m - 1) (Int.le_refl _) (by omega)
   show max (dpR L + 1) (dpR r) ≤ _
   omega
theorem dig_of {c : UInt8} (h : digS.contains c = true) : digB c = true := by
 have : c = 48 ∨ c = 49 ∨ c = 50 ∨ c = 51 ∨ c = 52 ∨ c = 53 ∨ c = 54 ∨ c = 55 ∨ c = 56 ∨ c = 57 := by simpa [digS] using h
 rcases this with rfl | rfl | rfl | rfl | rfl | rfl | rfl | rfl | rfl | rfl <;> decide
theorem dropW_nil {α : Type} {p : α → Bool} : ∀ {l : List α}, l.dropWhile p = [] → ∀ x ∈ l, p x = true
 | [], _, x, hx => by cases hx
 | y :: r, h, x, hx => by
  rw [List.dropWhile_cons] at h
  split at h
  ·rename_i hy
   rcases List.mem_cons.1 hx with rfl | hx
   ·exact hy
   ·exact dropW_nil h x hx
  ·cases h
theorem dropW_head {α : Type} {p : α → Bool} : ∀ {l : List α} {y : α} {r : List α}, l.dropWhile p = y :: r → p y = false
 | [], y, r, h => by cases h
 | z :: l, y, r, h => by
  rw [List.dropWhile_cons] at h
  split at h
  ·exact dropW_head h
  ·rename_i hz
   cases h
   simpa using hz
theorem all_trim {d : List UInt8} (h : Lib.trimS d digS = []) : d.all digB = true := by
 have h2 : ∀ x ∈ d.reverse, digS.contains x = true := by
  cases hr : d.reverse.dropWhile (digS.contains ·) with
  | nil => exact dropW_nil hr
  | cons y r =>
   exfalso
   have h1 : (y :: r).reverse.dropWhile (digS.contains ·) = [] := by rw [← hr]; exact h
   have h3 := dropW_nil h1 y (by simp)
   have h4 := dropW_head hr
   rw [h3] at h4
   cases h4
 rw [List.all_eq_true]
 exact fun x hx => dig_of (h2 x (List.mem_reverse.2 hx))
theorem rnum_of {s : List UInt8} (h : numOK s = true) : rnum s = true := by
 unfold numOK at h
 simp only [Bool.not_eq_true', Bool.or_eq_false_iff, Bool.and_eq_false_iff, decide_eq_false_iff_not, ne_eq, Classical.not_not] at h
 obtain ⟨⟨h1, h2⟩, h3⟩ := h
 have h4 := all_trim h2
 rw [numD_of] at h1 h3 h4
 unfold rnum
 by_cases hd : s.take 1 = [45]
 ·rw [if_pos hd] at h1 h3 h4
  have hl : 1 < s.length := by
   have : 0 < (s.drop 1).length := List.length_pos_iff.2 h1
   rw [List.length_drop] at this; omega
  have hz : ¬ ((s.drop 1).getD 0 0).toNat = 48 := by
   rcases h3 with h3 | h3
   ·exact h3
   ·rw [h3] at hl; exact absurd hl (by decide)
  rw [if_pos ⟨hl, dash.2 hd⟩, if_neg hz]
  unfold numB
  rw [h4, decide_eq_true ⟨h1, fun h9 => hz h9.2⟩]; rfl
 ·rw [if_neg hd] at h1 h3 h4
  rw [if_neg fun h9 => hd (dash.1 h9.2)]
  unfold numB
  rw [h4, decide_eq_true (p := s ≠ [] ∧ ¬ (1 < s.length ∧ (s.getD 0 0).toNat = 48)) ⟨h1, fun h9 => ?_⟩]; · rfl
  rcases h3 with h3 | h3
  ·exact h3 h9.2
  ·rw [h3] at h9; exact absurd h9.1 (by decide)
theorem rnum_eq {s : List UInt8} : rnum s = numOK s := by
 rw [Bool.eq_iff_iff]; exact ⟨fun h => (rnum_ok h).1, rnum_of⟩
theorem rnames_eq (s : List UInt8) : rnamesS s = (nameS (Go.De.cutA s) && ((cutC s && nameS (cutB s)) || (!cutC s && decide (s ≠ sTrue ∧ s ≠ sFalse)))) := by
 rw [Bool.eq_iff_iff]
 refine ⟨rnames_ok, fun h => ?_⟩
 rw [Bool.and_eq_true] at h
 obtain ⟨h1, h2⟩ := h
 unfold rnamesS
 by_cases hc : 0 ≤ cutI s
 ·have hcc : cutC s = true := decide_eq_true hc
  rw [hcc] at h2
  have h3 : nameS (cutB s) = true := by simpa using h2
  rw [if_neg, if_pos hc, h1, h3]; · rfl
  rintro (rfl | rfl) <;> exact absurd hc (by decide)
 ·have hcc : cutC s = false := decide_eq_false hc
  rw [hcc] at h2
  have h3 : s ≠ sTrue ∧ s ≠ sFalse := by simpa using h2
  rw [if_neg (by rintro (h | h); exact h3.1 h; exact h3.2 h), if_neg hc]
  unfold Go.De.cutA at h1
  rwa [if_neg hc] at h1
theorem rformH_eq (h : VH) (n : Nat) : rformH h n = formH h n := by
 unfold rformH formH
 rw [rnum_eq, rnames_eq, Bool.and_comm (numOK h.s)]
theorem rdig_eq {s : List UInt8} (h : numOK s = true) : rdig s = numN s := (rnum_ok (rnum_of h)).2
theorem rfitsH_eq {h : VH} {n : Nat} (hf : formH h n = true) : rfitsH h n = fitsH h n := by
 unfold rfitsH fitsH
 by_cases k3 : h.k = 3
 ·rw [if_pos k3, if_pos k3]
  unfold formH at hf
  rw [if_neg (by omega), if_neg (by omega), if_pos k3, Bool.and_eq_true] at hf
  rw [rdig_eq hf.1]
 ·rw [if_neg k3, if_neg k3]
theorem rformL_eq : ∀ l : Vf, rformL l = formL l
 | .nil => rfl
 | .cons h L r => by
  show ((rformH h L.len && rformL L) && rformL r) = _
  rw [rformH_eq, rformL_eq L, rformL_eq r, formL_cons]
theorem rfitsL_eq : ∀ l : Vf, formL l = true → rfitsL l = fitsL l
 | .nil, _ => rfl
 | .cons h L r, hf => by
  rw [formL_cons, Bool.and_eq_true, Bool.and_eq_true] at hf
  show ((rfitsH h L.len && rfitsL L) && rfitsL r) = _
  rw [rfitsH_eq hf.1.1, rfitsL_eq L hf.1.2, rfitsL_eq r hf.2, fitsL_cons]
theorem rcheck_iff {h : VH} {L : Vf} : rcheckV h L = 0 ↔ checkV h L = 0 := by
 refine ⟨rcheck_ok, fun hc => ?_⟩
 obtain ⟨h1, h2, h3⟩ := chk_parts hc
 have h4 := dpR_of L 0 65 (Int.le_refl _) (by omega)
 rw [Bool.and_eq_true] at h2
 unfold rcheckV
 rw [if_neg (by omega), rformH_eq, rformL_eq, rfitsH_eq h2.1, rfitsL_eq L h2.2, h2.1, h2.2, h3, if_neg (by decide), if_neg (by decide)]
theorem dropW_allV {α : Type} {p : α → Bool} : ∀ {l : List α}, (∀ x ∈ l, p x = true) → l.dropWhile p = []
 | [], _ => rfl
 | a :: r, h => by rw [List.dropWhile_cons, if_pos (h a (List.mem_cons_self ..))]; exact dropW_allV fun x hx => h x (List.mem_cons_of_mem _ hx)
theorem isD_hasV {c : UInt8} (h : isD c = true) : digS.contains c = true := by
 unfold isD at h
 rw [Bool.and_eq_true, decide_eq_true_eq, decide_eq_true_eq] at h
 have : ∀ n : Nat, 48 ≤ n → n ≤ 57 → ∀ c : UInt8, c.toNat = n → digS.contains c = true := by
  intro n h1 h2 c hc
  have e : c = UInt8.ofNat n := by rw [← hc]; simp
  subst e
  have : n = 48 ∨ n = 49 ∨ n = 50 ∨ n = 51 ∨ n = 52 ∨ n = 53 ∨ n = 54 ∨ n = 55 ∨ n = 56 ∨ n = 57 := by omega
  rcases this with rfl | rfl | rfl | rfl | rfl | rfl | rfl | rfl | rfl | rfl <;> decide
 exact this _ h.1 h.2 c rfl
theorem trim_digV {d : List UInt8} (h : d.all isD = true) : Lib.trimS d digS = [] := by
 have h1 : d.reverse.dropWhile (digS.contains ·) = [] := dropW_allV fun x hx => isD_hasV (List.all_eq_true.1 h x (List.mem_reverse.1 hx))
 unfold Lib.trimS Lib.trimRightS
 rw [h1]; rfl
theorem numD_bodyV (s : List UInt8) : numD s = bodyS s := by
 unfold numD Lib.trimPrefix bodyS
 cases s with
 | nil => rfl
 | cons c r =>
  by_cases hc : c = 45
  ·subst hc; rfl
  ·have e1 : Lib.hasPrefix (c :: r) [45] = false := by
    unfold Lib.hasPrefix
    simp [List.isPrefixOf, hc, Ne.symm hc]
    try (intro h; exact hc h.symm)
   have e2 : ¬ (c :: r).head? = some 45 := by simp [hc]
   rw [e1, if_neg e2]; rfl
theorem num_checkV {s : List UInt8} (h : numOK s = true) (h2 : numN s ≤ 200) : checkS s = 0 := by
 unfold numN at h2
 rw [if_pos h, numD_bodyV] at h2
 unfold numOK at h
 simp only [Bool.not_eq_true', Bool.or_eq_false_iff, Bool.and_eq_false_iff, decide_eq_false_iff_not, ne_eq, Classical.not_not] at h
 obtain ⟨⟨h1, h3⟩, h4⟩ := h
 have h5 := all_trim h3
 rw [numD_bodyV] at h1 h4 h5
 unfold checkS
 rw [if_neg, if_pos, if_neg (by omega)]
 ·rw [List.all_eq_true] at h5 ⊢
  intro x hx
  have := h5 x hx
  unfold digB at this
  unfold isD
  simpa using this
 ·rintro (h6 | ⟨h6, h7⟩)
  ·exact h1 h6
  ·rcases h4 with h4 | h4
   ·refine h4 ?_
    cases hb : bodyS s with
    | nil => rw [hb] at h6; cases h6
    | cons c r => rw [hb] at h6; cases h6; rfl
   ·exact h7 h4
theorem check_numV {s : List UInt8} (h : checkS s = 0) : numOK s = true ∧ numN s ≤ 200 := by
 obtain ⟨h1, h2, h3⟩ := check_digits h
 have h4 : ¬ ((bodyS s).head? = some 48 ∧ s ≠ [48]) := fun e => by
  unfold checkS at h
  rw [if_pos (.inr e)] at h
  cases h
 have h5 : numOK s = true := by
  unfold numOK
  rw [numD_bodyV, trim_digV h1, decide_eq_false h3]
  by_cases h0 : ((bodyS s).getD 0 0).toNat = 48
  ·have : s = [48] := Classical.byContradiction fun hs => h4 ⟨by
    cases hb : bodyS s with
    | nil => exact absurd hb h3
    | cons c r =>
     rw [hb] at h0
     show some c = some 48
     congr 1
     exact UInt8.toNat_inj.1 h0, hs⟩
   simp [this]
  ·rw [decide_eq_false h0]; rfl
 refine ⟨h5, ?_⟩
 unfold numN
 rw [if_pos h5, numD_bodyV]
 omega
theorem may_leaf {h : VH} (h1 : formH h 0 = true) (h2 : fitsH h 0 = true) : mayV (h, .nil) = true := by
 refine decide_eq_true ?_
 show checkV h .nil = 0
 unfold checkV
 rw [if_neg (show ¬ (64 : Int) < depV .nil 0 65 + 1 by decide)]
 rw [show (formH h Rose.nil.len && formL .nil) = true by rw [show Rose.nil.len (α := VH) = 0 from rfl, h1]; rfl, if_neg (by decide)]
 rw [show (fitsH h Rose.nil.len && fitsL .nil) = true by rw [show Rose.nil.len (α := VH) = 0 from rfl, h2]; rfl, if_neg (by decide)]
theorem may_bool (b : Bool) : mayV (boolV b) = true := by cases b <;> exact may_leaf (by decide) (by decide)
theorem mayv_int (n : Int) : mayV (intV n) = true := may_leaf (by unfold formH; simp) (by unfold fitsH; simp)
theorem may_text {s : List UInt8} (h : s.length ≤ 4096) : mayV (textV s) = true := may_leaf (by unfold formH; simp) (by unfold fitsH; simp [h])
theorem may_big {s : List UInt8} (h : checkS s = 0) : mayV (bigV s) = true := by
 obtain ⟨h1, h2⟩ := check_numV h
 exact may_leaf (by unfold formH; simp [h1]) (by unfold fitsH; simp [h2])
def VM (a : Ans) : Prop := a.1 = 0 → mayV a.2 = true
theorem VM_no {e : Int} (h : e ≠ 0) : VM (noA e) := fun h2 => absurd h2 h
theorem VM_yes {v : Vv} (h : mayV v = true) : VM (yesA v) := fun _ => h
theorem ansZ_ok {e z : Int} (h : (ansZ e (showZ z)).2 = 0) : checkS (ansZ e (showZ z)).1 = 0 := by
 unfold ansZ at h ⊢
 by_cases he : e = 0
 ·rw [if_pos he] at h ⊢; exact (show_ok h).1
 ·rw [if_neg he] at h; exact absurd h he
theorem doA_ok {k : Nat} {s t : List UInt8} (h : (doA k s t).2 = 0) : checkS (doA k s t).1 = 0 := by
 unfold doA at h ⊢
 split at h <;> exact ansZ_ok h
theorem may_num {x : Vv} (h : mayV x = true) (hk : x.1.k = 3) : checkS x.1.s = 0 := by
 obtain ⟨-, h2, h3⟩ := chk_parts (of_decide_eq_true h)
 rw [Bool.and_eq_true] at h2 h3
 have f := h2.1
 have g := h3.1
 unfold formH at f
 unfold fitsH at g
 rw [if_neg (by omega), if_neg (by omega), if_pos hk, Bool.and_eq_true] at f
 rw [if_pos hk, decide_eq_true_eq] at g
 exact num_checkV f.1 g
theorem numO_VM (k : Nat) (a b : Vv) : VM (numO k a b) := by
 unfold numO
 split
 ·split
  ·rename_i h; exact VM_no h
  ·exact VM_yes (mayv_int _)
 ·split
  ·split
   ·rename_i h; exact VM_no h
   ·rename_i h; exact VM_yes (may_big (doA_ok (Classical.not_not.1 h)))
  ·exact VM_no (by decide)
theorem catO_VM (a b : Vv) : VM (catO a b) := by
 unfold catO
 split
 ·exact VM_no (by decide)
 ·split
  ·exact VM_no (by decide)
  ·rename_i h; exact VM_yes (may_text (by rw [List.length_append]; omega))
theorem op2_VM {s : List UInt8} {f : Vv → Vv → Ans} (h : op2 s = some f) (x y : Vv) : VM (f x y) := by
 unfold op2 at h
 obtain ⟨p, hp, rfl⟩ := Option.map_eq_some_iff.1 h
 have hm := List.mem_of_find?_eq_some hp
 simp only [ops2, List.mem_cons, List.not_mem_nil, or_false] at hm
 rcases hm with rfl | rfl | rfl | rfl | rfl | rfl | rfl | rfl | rfl | rfl | rfl | rfl
 all_goals first | exact numO_VM _ _ _ | exact catO_VM _ _ | exact VM_yes (may_bool _)
theorem showv64 {n : Int} (h : in64 n) : (showZ n).2 = 0 := by
 refine (showZ_err n 200 rfl).2 ?_
 have h1 : n.natAbs ≤ 9223372036854775808 := by unfold in64 at h; omega
 exact Nat.lt_of_le_of_lt h1 (by decide +kernel)
theorem op1_VM (s : List UInt8) {x : Vv} (hx : mayV x = true) (gx : GV x) : VM (op1 s x) := by
 unfold op1
 split
 ·exact VM_yes (may_bool _)
 ·split
  ·split
   ·exact VM_yes (mayv_int _)
   ·exact VM_no (by decide)
  ·split
   ·rename_i h
    refine VM_yes (may_big ?_)
    have hc := may_num hx h.2
    rw [negA_eq]
    refine ansZ_ok ?_
    unfold ansZ
    rw [if_pos hc]
    exact show_neg hc
   ·split
    ·exact VM_yes (mayv_int _)
    ·split
     ·exact VM_yes (may_big (show_ok (showv64 gx.1.1)).1)
     ·split
      ·split
       ·exact VM_yes (mayv_int _)
       ·exact VM_no (by decide)
      ·exact VM_no (by decide)
theorem wholeO_VM (h : VH) (L : Vf) : VM (wholeO h L) := by
 unfold wholeO
 split
 ·exact VM_no (by decide)
 ·split
  ·exact VM_no (by decide)
  ·rename_i h2
   exact VM_yes (decide_eq_true (Classical.not_not.1 h2))
theorem partsO_VM (h : VH) (l : List Ans) : VM (partsO h l) := by
 unfold partsO
 split
 ·rename_i h; exact VM_no h
 ·exact wholeO_VM _ _
theorem fieldO_VM (cs : List KC) (nm : List UInt8) {v : Vv} (hv : mayV v = true) : VM (fieldO cs nm v) := by
 unfold fieldO
 split
 ·exact VM_no (by decide)
 ·split
  ·exact VM_no (by decide)
  ·split
   ·exact VM_no (by decide)
   ·split
    ·exact VM_no (by decide)
    ·split
     ·exact VM_no (by decide)
     ·rename_i x hx; exact VM_yes (may_get hv hx)
theorem listO_all : ∀ {l : List Ans}, (∀ a ∈ l, VM a) → (listO l).1 = 0 → (listO l).2.length = l.length ∧ ∀ x ∈ (listO l).2, mayV x = true
 | [], _, _ => ⟨rfl, fun x hx => by cases hx⟩
 | a :: r, h, h0 => by
  unfold listO at h0 ⊢
  split at h0
  ·rename_i h1; exact absurd h0 h1
  ·rename_i h1
   split at h0
   ·rename_i h2; exact absurd h0 h2
   ·rename_i h2
    obtain ⟨i1, i2⟩ := listO_all (l := r) (fun b hb => h b (List.mem_cons_of_mem _ hb)) (Classical.not_not.1 h2)
    rw [if_neg h1, if_neg h2]
    refine ⟨by simp [i1], fun x hx => ?_⟩
    rcases List.mem_cons.1 hx with rfl | hx
    ·exact h a (List.mem_cons_self ..) (Classical.not_not.1 h1)
    ·exact i2 x hx
theorem nthA_mem : ∀ {l : List Ans} {k : Nat}, k < l.length → nthA l k ∈ l
 | a :: r, 0, _ => List.mem_cons_self ..
 | a :: r, k + 1, h => List.mem_cons_of_mem _ (nthA_mem (by simpa using h))
theorem evK_VM {cs : List KC} {vs : List Bd} {h : EH} {l : List Ans} (h1 : h.k = 1 → mayV (h.v, h.vl) = true) (hf : h.k = 1 ∨ h.k = 2 ∨ formK h l.length = true) (hb : ∀ x ∈ vs, mayV x.2 = true) (hl : ∀ a ∈ l, VM a) (hg : ∀ a ∈ l, GV a.2) : VM (evK cs vs h l) := by
 unfold evK
 split
 ·rename_i hk; exact VM_yes (h1 hk)
 ·rename_i n1
  split
  ·split
   ·exact VM_no (by decide)
   ·rename_i x hx; exact VM_yes (hb x (List.mem_of_find?_eq_some hx))
  ·rename_i n2
   have hf : formK h l.length = true := by
    rcases hf with hf | hf | hf
    ·exact absurd hf n1
    ·exact absurd hf n2
    ·exact hf
   unfold formK at hf
   split
   ·exact partsO_VM _ _
   ·rename_i n4
    rw [if_neg n4] at hf
    split
    ·split
     ·exact VM_no (by decide)
     ·split
      ·exact VM_no (by decide)
      ·exact partsO_VM _ _
    ·rename_i n5
     rw [if_neg n5] at hf
     split
     ·rename_i k7
      rw [if_pos k7, decide_eq_true_eq] at hf
      split
      ·rename_i e; exact VM_no e
      ·rename_i e; exact fieldO_VM _ _ (hl _ (nthA_mem (by omega)) (Classical.not_not.1 e))
     ·rename_i n7
      rw [if_neg n7] at hf
      split
      ·rename_i k8
       rw [if_pos k8, decide_eq_true_eq] at hf
       split
       ·rename_i e; exact VM_no e
       ·split
        ·exact hl _ (nthA_mem (by omega))
        ·exact hl _ (nthA_mem (by omega))
      ·rename_i n8
       rw [if_neg n8] at hf
       split
       ·split
        ·split
         ·rename_i e; exact VM_no e
         ·exact VM_yes (may_bool _)
        ·split
         ·rename_i e; exact VM_no e
         ·exact VM_yes (may_bool _)
       ·rename_i nao
        split
        ·rename_i e; exact VM_no e
        ·rename_i e
         obtain ⟨e1, e2⟩ := listO_all hl (Classical.not_not.1 e)
         split at hf
         ·rename_i k6
          rw [Bool.or_eq_true, Bool.and_eq_true, Bool.and_eq_true, decide_eq_true_eq, decide_eq_true_eq] at hf
          have ho : ((op2 h.nm).isSome || decide (h.nm = sAnd) || decide (h.nm = sOr)) = true → (op2 h.nm).isSome = true := fun q => by
           rw [Bool.or_eq_true, Bool.or_eq_true, decide_eq_true_eq, decide_eq_true_eq] at q
           rcases q with (q | q) | q
           ·exact q
           ·exact absurd (.inl q) nao
           ·exact absurd (.inr q) nao
          split
          ·rename_i a ha
           exact op1_VM _ (e2 a (by rw [ha]; exact List.mem_cons_self ..)) (listO_GV hg a (by rw [ha]; exact List.mem_cons_self ..))
          ·rename_i a b r hab
           rcases hf with ⟨q1, q2⟩ | ⟨q1, q2⟩
           ·obtain ⟨f, hfe⟩ := Option.isSome_iff_exists.1 (ho q1)
            rw [hfe]
            exact op2_VM hfe a b
           ·rw [hab] at e1
            simp at e1
            omega
          ·rename_i hn
           rw [hn] at e1
           simp at e1
           rcases hf with ⟨q1, q2⟩ | ⟨q1, q2⟩ <;> omega
         ·cases hf
theorem evL_lenV (cs : List KC) (vs : List Bd) : ∀ L : Ef, (evL cs vs L).length = L.len
 | .nil => rfl
 | .cons h L r => by show (evL cs vs r).length + 1 = r.len + 1; rw [evL_lenV cs vs r]
theorem form_of {h : EH} {L : Ef} (hf : formE h L = true) : (h.k = 1 → mayV (h.v, h.vl) = true) ∧ (h.k = 1 ∨ h.k = 2 ∨ formK h L.len = true) ∧ (h.k = 1 ∨ h.k = 2 ∨ formEL L = true) := by
 unfold formE at hf
 by_cases h1 : h.k = 1
 ·rw [if_pos h1] at hf
  exact ⟨fun _ => hf, .inl h1, .inl h1⟩
 ·rw [if_neg h1] at hf
  by_cases h2 : h.k = 2
  ·exact ⟨fun e => absurd e h1, .inr (.inl h2), .inr (.inl h2)⟩
  ·rw [if_neg h2, Bool.and_eq_true] at hf
   exact ⟨fun e => absurd e h1, .inr (.inr hf.1), .inr (.inr hf.2)⟩
theorem evK_any {cs : List KC} {vs : List Bd} {h : EH} {l m : List Ans} (hk : h.k = 1 ∨ h.k = 2) : evK cs vs h l = evK cs vs h m := by
 rcases hk with hk | hk <;> simp [evK, hk]
theorem evL_VM {cs : List KC} {vs : List Bd} (hB : GVB vs) (hb : ∀ x ∈ vs, mayV x.2 = true) : ∀ {L : Ef}, GEl L → formEL L = true → ∀ a ∈ evL cs vs L, VM a
 | .nil, _, _, a, h => by cases h
 | .cons h L r, ⟨hg, hgr⟩, hf, a, ha => by
  have hf' : (formE h L && formEL r) = true := hf
  rw [Bool.and_eq_true] at hf'
  rcases List.mem_cons.1 ha with rfl | ha
  ·obtain ⟨g1, g2, g3⟩ := form_of hf'.1
   by_cases hk : h.k = 1 ∨ h.k = 2
   ·show VM (evK cs vs h (evL cs vs L))
    rw [evK_any (m := []) hk]
    exact evK_VM g1 (hk.elim .inl fun h => .inr (.inl h)) hb (fun a h => by cases h) (fun a h => by cases h)
   ·have g4 : formEL L = true := g3.elim (fun e => absurd (.inl e) hk) fun e => e.elim (fun e => absurd (.inr e) hk) id
    exact evK_VM g1 (by rw [evL_lenV]; exact g2) hb (evL_VM hB hb hg.2.2 g4) (evL_GV hB hg.2.2)
  ·exact evL_VM hB hb hgr hf'.2 a ha
theorem evE_VM {cs : List KC} {vs : List Bd} (hB : GVB vs) (hb : ∀ x ∈ vs, mayV x.2 = true) {h : EH} {L : Ef} (g : GE h L) (hf : formE h L = true) : VM (evE cs vs h L) := by
 have := evL_VM (cs := cs) hB hb (L := .cons h L .nil) ⟨g, trivial⟩ (by show (formE h L && true) = true; rw [hf]; rfl) (evE cs vs h L) (List.mem_cons_self ..)
 exact this
theorem evalO_VM {cs : List KC} {vs : List Bd} (hB : GVB vs) {h : EH} {L : Ef} (g : GE h L) : VM (evalO cs vs h L) := by
 unfold evalO
 split
 ·exact VM_no (by decide)
 ·split
  ·exact VM_no (by decide)
  ·split
   ·exact VM_no (by decide)
   ·rename_i n1 n2 n3
    refine evE_VM hB (fun x hx => ?_) g (by simpa using n2)
    have : (vs.all fun x => mayV x.2) = true := by simpa using n3
    exact List.all_eq_true.1 this x hx
def NZ (a : Ans) : Prop := a.1 ≠ 0 → a.2 = zV
theorem NZ_no (e : Int) : NZ (noA e) := fun _ => rfl
theorem NZ_yes (v : Vv) : NZ (yesA v) := fun h => absurd rfl h
theorem nthA_NZ : ∀ {l : List Ans} (k : Nat), (∀ a ∈ l, NZ a) → NZ (nthA l k)
 | [], _, _ => NZ_no 0
 | x :: _, 0, h => h x (List.mem_cons_self ..)
 | _ :: r, k + 1, h => nthA_NZ (l := r) k fun a ha => h a (List.mem_cons_of_mem _ ha)
theorem wholeO_NZ (h : VH) (L : Vf) : NZ (wholeO h L) := by unfold wholeO; repeat (first | exact NZ_no _ | exact NZ_yes _ | split)
theorem partsO_NZ (h : VH) (l : List Ans) : NZ (partsO h l) := by
 unfold partsO
 split
 ·exact NZ_no _
 ·exact wholeO_NZ _ _
theorem numO_NZ (k : Nat) (a b : Vv) : NZ (numO k a b) := by unfold numO; repeat (first | exact NZ_no _ | exact NZ_yes _ | split)
theorem catO_NZ (a b : Vv) : NZ (catO a b) := by unfold catO; repeat (first | exact NZ_no _ | exact NZ_yes _ | split)
theorem fieldO_NZ (cs : List KC) (nm : List UInt8) (v : Vv) : NZ (fieldO cs nm v) := by unfold fieldO; repeat (first | exact NZ_no _ | exact NZ_yes _ | split)
theorem op1_NZ (s : List UInt8) (a : Vv) : NZ (op1 s a) := by unfold op1; repeat (first | exact NZ_no _ | exact NZ_yes _ | split)
theorem op2_NZ {s : List UInt8} {f : Vv → Vv → Ans} (h : op2 s = some f) (x y : Vv) : NZ (f x y) := by
 unfold op2 at h
 obtain ⟨p, hp, rfl⟩ := Option.map_eq_some_iff.1 h
 have hm := List.mem_of_find?_eq_some hp
 simp only [ops2, List.mem_cons, List.not_mem_nil, or_false] at hm
 rcases hm with rfl | rfl | rfl | rfl | rfl | rfl | rfl | rfl | rfl | rfl | rfl | rfl
 all_goals first | exact numO_NZ _ _ _ | exact catO_NZ _ _ | exact NZ_yes _
theorem evK_NZ (cs : List KC) (vs : List Bd) (h : EH) {l : List Ans} (hl : ∀ a ∈ l, NZ a) : NZ (evK cs vs h l) := by
 unfold evK
 repeat (first | exact NZ_no _ | exact NZ_yes _ | exact partsO_NZ _ _ | exact fieldO_NZ _ _ _ | exact nthA_NZ _ hl | exact op1_NZ _ _ | exact op2_NZ (by assumption) _ _ | split)
theorem evL_NZ (cs : List KC) (vs : List Bd) : ∀ (L : Ef), ∀ a ∈ evL cs vs L, NZ a
 | .nil, a, h => by cases h
 | .cons h L r, a, ha => by
  rcases List.mem_cons.1 ha with rfl | ha
  ·exact evK_NZ cs vs h (evL_NZ cs vs L)
  ·exact evL_NZ cs vs r a ha
theorem evalO_NZ (cs : List KC) (vs : List Bd) (h : EH) (L : Ef) : NZ (evalO cs vs h L) := by
 unfold evalO
 split
 ·exact NZ_no _
 ·split
  ·exact NZ_no _
  ·split
   ·exact NZ_no _
   ·exact evK_NZ cs vs h (evL_NZ cs vs L)
theorem tbq_cons {M : MD} {F : Heap} {u : Value} (hs : MSz M) (h : TbQ M F u) : ∃ (tv q : Option Addr) (css : List KC), u = .tuple ⟨[.pointer tv, .pointer q]⟩ ∧ ∀ (F' : Heap) (nm : List UInt8), (∀ b o, F b = some o → F' b = some o) → Ct Tryz.prog 126 [.pointer tv, .string (bs nm)] F' [] (fun F2 _ u => ConsR F2 u (findC css nm)) := by
 obtain ⟨tv, q, rfl, rfl | ⟨tb, m1, m2, m3, rfl, hT⟩⟩ := h
 ·exact ⟨none, q, [], rfl, fun F' nm _ => cons0Ct F' nm⟩
 ·refine ⟨_, q, consOf M.ts, rfl, fun F' nm hF => ?_⟩
  refine (consMCt F' tb m1 m2 m3 _ _ _ (hT.mono hF) (ksz_of hs) nm).mono fun F2 G' u ⟨x, a1, n1, c1, a4, c4, e, h1, h2, h3⟩ => ?_
  subst e
  refine ⟨_, _, _, _, _, _, _, _, rfl, fun y hy => ?_⟩
  rcases h1 with h1 | ⟨h1, -⟩
  ·rw [h1] at hy; cases hy; exact h3
  ·rw [h1] at hy; cases hy
section
variable {ops : Array Oper} {rest : List Oper} {o : Oper} {Q : Exit → Act → World → Prop} {n : Sz} {L : List (Nat × Value)} {w0 : World} {F0 F : Heap} {K0 : List Nat} {G : List Grp} {a : Act} {w : World} {d : Nat} {X : Operand} {xs : Array Operand} {ts : Array TypeId}
theorem wpl_evT {vv : Value} {vs : List Bd} {eh : EH} {Le : Ef} {cs : List Value} {A : Ans} {tv : Option Addr} {css : List KC} (S : St n L w0 F0 K0 F G a w) (hg : o.guard = none) (hd : o.dst = some d) (hn : Nat.blt d n.sz = true) (ho : o.op = .call { callee := .value X, args := xs, argTypes := ts }) (hx : ev L X = some (.func (.func 8) ⟨[]⟩ ⟨[]⟩)) (hxs : evs L xs.toList = some [.pointer tv, .agg ⟨cs⟩, vv])
  (hT : TabF F) (hE : ErrF F) (hK : ∀ (F' : Heap) (nm : List UInt8), (∀ b o, F b = some o → F' b = some o) → Ct Tryz.prog 126 [.pointer tv, .string (bs nm)] F' [] (fun F2 _ u => ConsR F2 u (findC css nm)))
  (hvs : LiM F 5 BdR vv vs) (hB : GVB vs) (hX : ExC F cs eh Le) (hG : GE eh Le) (eA : evalO css vs eh Le = A)
  (k : ∀ ao cap F' a' w', (∀ b o, F b = some o → F' b = some o) → VaC F' [.int .u8 (A.2.1.k : Int), .int .i64 A.2.1.n, .string (bs A.2.1.s), .slice ao A.2.2.len cap] A.2.1 A.2.2 → St n ((d, .tuple ⟨[.agg ⟨[.int .u8 (A.2.1.k : Int), .int .i64 A.2.1.n, .string (bs A.2.1.s), .slice ao A.2.2.len cap]⟩, .int .i64 A.1]⟩) :: L) w0 F0 K0 F' G a' w' → wpList Tryz.prog ops Q rest a' w') : wpList Tryz.prog ops Q (o :: rest) a w := by
 refine wpl_callF S hg hd hn ho hx hxs (evalCt F hT hE tv css hK vs vv hvs hB eh Le cs hX hG) rfl ?_
 intro v F1 a w hv hF1 S
 replace hv := ans_cast eA hv
 obtain ⟨c, rfl, q⟩ := hv
 obtain ⟨xa, xb, rfl, -, -⟩ := vac_slc q
 exact k xa xb F1 _ _ hF1 q S
end
theorem evalO_GV {cs : List KC} {vs : List Bd} {h : EH} {L : Ef} (hb : GVB vs) (g : GE h L) : GV (evalO cs vs h L).2 := by
 unfold evalO
 split
 ·exact GV_z
 ·split
  ·exact GV_z
  ·split
   ·exact GV_z
   ·exact evE_GV hb g
theorem vv_ok {css : List KC} {vs : List Bd} {e : Ex} {A : Ans} (hB : GVB vs) (g : GE e.1 e.2) (eA : evalO css vs e.1 e.2 = A) (h : ¬ A.1 ≠ 0) : rcheckV A.2.1 A.2.2 = 0 := by
 subst eA
 exact rcheck_iff.2 (of_decide_eq_true (evalO_VM hB g (Classical.not_not.1 h)))
theorem vv_no {css : List KC} {vs : List Bd} {e : Ex} {A : Ans} (eA : evalO css vs e.1 e.2 = A) (h : A.1 ≠ 0) : sameV A.2 zV = true := by
 subst eA
 rw [evalO_NZ _ _ _ _ h]
 exact sameV_iff.2 rfl
theorem vac_zV (F : Heap) : VaC F [.int .u8 0, .int .i64 0, .string (bs []), .slice none 0 0] zV.1 zV.2 := ⟨_, rfl, TrS.nil _ _ _, Nat.zero_le _⟩
theorem zzVv0 {p : Prop} (h : p := by (first | rfl | (exact congrArg Value.bool (vv_no eA (by omega))) | (exact congrArg Value.bool (beq_iff_eq.2 (vv_ok gB gE eA (by omega)))) | trace_state)) : p := h
theorem evalValuesCt (F : Heap) (K : EnK F) (M : MD) (e : Ex) (vs : List Bd) (cm ce : List Value) (vv : Value) (hM : MdR F M cm) (hsz : MSz M) (hz : DzT M.ts) (hr : DzR M.rs) (hNe : NEe e) (hde : dpE e.2 ≤ 2000000) (hNB : NB vs) (hX0 : ExC F ce e.1 e.2) (hvs : LiM F 5 BdR vv vs) :
    Ct Tryz.prog 3 [.agg ⟨cm⟩, .agg ⟨ce⟩, vv] F [] (fun _ _ u => u = .bool true) := by
  have hXc := hX0
  obtain ⟨a1, n1, m1, a2, m2, rfl, -, -⟩ := exc_slc hXc
  clear hXc
  have hMc := hM
  obtain ⟨i1, i2, i3, q1, q2, q3, q4, rfl, k1, k2, k3, k4⟩ := hMc
  have hvc := hvs
  obtain ⟨av, cv, rfl, -, -⟩ := hvc
  obtain ⟨r1, s1, rfl, -, -⟩ := k1
  obtain ⟨r2, s2, rfl, -, -⟩ := k2
  obtain ⟨r3, s3, rfl, -, -⟩ := k3
  obtain ⟨r4, s4, rfl, -, -⟩ := k4
  refine Ct.enter Tryz.func3 rfl Tryz.ntmps3 rfl fun w0 a S => ?_
  refine wp_sr fun Z hZ => ?_
  (refine wbx S ?_; clear S a; intro b3 a w S)
  (refine wbx S ?_; clear S a; intro b4 a w S)
  (revert S a; revert hZ Z; refine go 5 ?_; intro Z hZ Z hZ a S)
  (refine wc0 S (worksCt F K.T K.E) ?_; clear S a; intro v a w hv S; subst hv)
  skip
  (revert S a; refine go 7 ?_; intro a S)
  (refine wc0 S (llargeCt F e _ vs _ hNe hde hNB hX0 hvs) ?_; clear S a; intro v a w hv S; subst hv)
  (revert S a; revert hZ Z; refine go 3 ?_; intro a S)
  refine wpc_sp S rfl ?_ ?_ <;> intro h
  · refine wp_sr fun Z hZ => ?_
    (refine wc0 S (worksCt F K.T K.E) ?_; clear S a; intro v a w hv S; subst hv)
    skip
    (revert S a; revert hZ Z; refine go 3 ?_; intro a S)
    refine wp_ret (fr1 S Tryz.results3 ?_)
    exact zzVv0
  (revert S a; revert hZ Z; refine go 4 ?_; intro Z hZ a S)
  (refine wcF S (ltablesCt F K.M M _ hM hsz hz hr) ?_; clear S a; intro v21 F1 a w hv hF1 S; obtain ⟨tv, q21, css, rfl, hK⟩ := tbq_cons hsz hv)
  (revert S a; revert hZ Z; refine go 7 ?_; intro a S)
  (refine wp_seq_k ?_; intro Z hZ)
  replace hZ : ∀ (a' : Act) (w' : World), (∃ (css : List KC) (A : Ans) (F3 : Heap) (b9 : Nat) (xa : Option Addr) (xb : Nat), evalO css vs e.1 e.2 = A ∧ GE e.1 e.2 ∧ GVB vs ∧ VaC F3 [.int .u8 (A.2.1.k : Int), .int .i64 A.2.1.n, .string (bs A.2.1.s), .slice xa A.2.2.len xb] A.2.1 A.2.2 ∧ St 40 [(9, ptr b9), (10, .int .i64 A.1)] w0 F [] F3 [[(b9, .cells ⟨[.int .u8 (A.2.1.k : Int), .int .i64 A.2.1.n, .string (bs A.2.1.s), .slice xa A.2.2.len xb]⟩ 33 (0, 0))]] a' w') → Z a' w' := (by
   (intro a w hM; refine hZ _ _ ?_; clear hZ Z; clear S; obtain ⟨css, A, F3, b9, xa, xb, eA, gE, gB, qA, S⟩ := hM)
   (revert S a; refine go 6 ?_; intro Z hZ a S)
   refine wpc_sp S rfl ?_ ?_ <;> intro h
   · (revert S a; refine go 3 ?_; intro Z hZ a S)
     (refine wc0 S (sameCt (A.2.2.size + 1) F3 A.2 zV _ _ (Nat.lt_succ_self _) qA (vac_zV F3)) ?_; clear S a; intro v a w hv S; subst hv)
     (revert S a; revert hZ Z; refine go 3 ?_; intro a S)
     refine wp_ret (fr1 S Tryz.results3 ?_)
     exact zzVv0
   (revert S a; revert hZ Z; refine go 4 ?_; intro Z hZ a S)
   (have gA : GV A.2 := eA ▸ evalO_GV gB gE; refine wc0 S (rcheckCt F3 A.2 _ (Nat.le_trans gA.2.2 (by decide)) qA) ?_; clear S a; intro v a w hv S; subst hv)
   (revert S a; revert hZ Z; refine go 4 ?_; intro a S)
   refine wp_ret (fr1 S Tryz.results3 ?_)
   (first | rfl | (exact congrArg Value.bool (vv_no eA (by omega))) | (exact congrArg Value.bool (beq_iff_eq.2 (vv_ok gB gE eA (by omega)))) | trace_state))
  (refine wpc_mixM [0, 1, 2, 5, 6, 7] [1] [] (.one 0 (.one 1 (.one 2 (.two 3 8 (.two 4 8 (.one 5 (.one 6 (.one 7 (.one 8 (.one 9 (.one 10 .nil)))))) (.one 4 (.one 5 (.one 6 (.one 7 (.one 9 (.one 10 .nil))))))) (.one 3 (.one 4 (.one 5 (.one 6 (.one 7 (.one 9 (.one 10 .nil))))))))))) [b4] S mixed (by kernel_rfl) ?_; clear S; intro w S)
  (revert S a; refine go 3 ?_; intro a S)
  refine wpm_two rfl rfl (kwa S) ?_ ?_
  · skip
    (have hl : lgO e vs < 1500 := (by omega); obtain ⟨gE, gB⟩ := lgO_ok hl hNe hNB; refine wpl_bind S rfl rfl rfl rfl rfl rfl (lgO_len hl) (fun x hx => Nat.le_trans (gB x hx).2.2 (by decide)) (hvs.mono hF1) ?_; clear S a; intro ab cb F2 a w hF2 k28 S)
    refine wpList_nil ?_
    refine wpm_two rfl rfl (kwa S) ?_ ?_
    · skip
      (obtain ⟨A, eA⟩ : ∃ A, evalO css vs e.1 e.2 = A := ⟨_, rfl⟩; refine wpl_evT S rfl rfl rfl rfl rfl rfl ((K.T.mono hF1).mono hF2) ((K.E.mono hF1).mono hF2) (fun F' nm h => hK F' nm fun b o q => h _ _ (hF2 _ _ q)) k28 gB ((hX0.mono hF1).mono hF2) gE eA ?_; clear S a; intro xa xb F3 a w hF3 qA S)
      (revert S a; refine go 5 ?_; intro a S)
      (refine wpl_alloc S rfl rfl rfl rfl ?_; clear S a; intro b9 a w S)
      (revert S a; refine go 2 ?_; intro a S)
      (refine wso S rfl rfl ?_; clear S; intro w S)
      (revert S a; refine go 5 ?_; intro a S)
      (refine hZ _ _ ?_)
      (replace S := stOneR S; refine ⟨css, A, F3, b9, xa, xb, eA, gE, gB, qA, ?_⟩; (refine S.keep ?_; exact zk))
    skip
    (refine wpl_alloc S rfl rfl rfl rfl ?_; clear S a; intro b9 a w S)
    (revert S a; refine go 2 ?_; intro a S)
    (obtain ⟨A, eA⟩ : ∃ A, evalO css vs e.1 e.2 = A := ⟨_, rfl⟩; refine wpl_evT S rfl rfl rfl rfl rfl rfl ((K.T.mono hF1).mono hF2) ((K.E.mono hF1).mono hF2) (fun F' nm h => hK F' nm fun b o q => h _ _ (hF2 _ _ q)) k28 gB ((hX0.mono hF1).mono hF2) gE eA ?_; clear S a; intro xa xb F3 a w hF3 qA S)
    (revert S a; refine go 5 ?_; intro a S)
    (refine wso S rfl rfl ?_; clear S; intro w S)
    (revert S a; refine go 5 ?_; intro a S)
    (refine hZ _ _ ?_)
    (replace S := stOneR S; refine ⟨css, A, F3, b9, xa, xb, eA, gE, gB, qA, ?_⟩; (refine S.keep ?_; exact zk))
  skip
  (refine wpl_alloc S rfl rfl rfl rfl ?_; clear S a; intro b9 a w S)
  (revert S a; refine go 2 ?_; intro a S)
  (have hl : lgO e vs < 1500 := (by omega); obtain ⟨gE, gB⟩ := lgO_ok hl hNe hNB; refine wpl_bind S rfl rfl rfl rfl rfl rfl (lgO_len hl) (fun x hx => Nat.le_trans (gB x hx).2.2 (by decide)) (hvs.mono hF1) ?_; clear S a; intro ab cb F2 a w hF2 k28 S)
  (revert S a; refine go 2 ?_; intro a S)
  (obtain ⟨A, eA⟩ : ∃ A, evalO css vs e.1 e.2 = A := ⟨_, rfl⟩; refine wpl_evT S rfl rfl rfl rfl rfl rfl ((K.T.mono hF1).mono hF2) ((K.E.mono hF1).mono hF2) (fun F' nm h => hK F' nm fun b o q => h _ _ (hF2 _ _ q)) k28 gB ((hX0.mono hF1).mono hF2) gE eA ?_; clear S a; intro xa xb F3 a w hF3 qA S)
  (revert S a; refine go 5 ?_; intro a S)
  (refine wso S rfl rfl ?_; clear S; intro w S)
  (revert S a; refine go 5 ?_; intro a S)
  (refine hZ _ _ ?_)
  (replace S := stOneR S; refine ⟨css, A, F3, b9, xa, xb, eA, gE, gB, qA, ?_⟩; (refine S.keep ?_; exact zk))
theorem bulk_pos {H : Type} : ∀ d : DataW H, 0 < Rows.uptoBulk d := fun d => by
 cases d with
 | lit x => cases x <;> simp only [Rows.uptoBulk] <;> omega
 | _ => simp only [Rows.uptoBulk] <;> omega
theorem bulk_all {H : Type} : ∀ l : List (DataW H), (l.map Rows.uptoBulk).sum = Rows.uptoBulkAll l
 | [] => rfl
 | d :: r => by simp only [List.map_cons, List.sum_cons, Rows.uptoBulkAll, bulk_all r]
instance {H : Type} : Msr3 (Rows.uptoBulk (H := H)) := { toMsr := inferInstance, p := bulk_pos, l := fun {es sp} => by rw [bulk_all]; simp only [Rows.uptoBulk]; omega }
def TyV (F : Heap) (x : List UInt8 × Fo) (cs : List Value) : Prop := TyC F cs x.1 x.2
def foV : List (List UInt8 × Fo) → Fo
 | [] => .nil
 | x :: r => .cons x.1 x.2 (foV r)
theorem foV_len : ∀ l, (foV l).len = l.length
 | [] => rfl
 | x :: r => by show (foV r).len + 1 = r.length + 1; rw [foV_len r]
theorem foV_size : ∀ l : List (List UInt8 × Fo), (foV l).size = (l.map fun x => x.2.size + 1).sum
 | [] => rfl
 | x :: r => by
  show x.2.size + (foV r).size + 1 = _
  rw [foV_size r, List.map_cons, List.sum_cons]; omega
theorem focV_lic {F : Heap} : ∀ {l : List (List UInt8 × Fo)} {xs : List Value}, LiC F 2 TyV xs l → FoC F xs (foV l)
 | [], xs, h => by rw [show xs = [] from h]; trivial
 | x :: r, xs, ⟨cs, ys, h1, h2, ⟨v, h3, h4⟩, h5⟩ => by
  subst h1; subst h3
  exact ⟨rfl, h4, focV_lic h5⟩
theorem slv_lim {F : Heap} {v : Value} {l : List (List UInt8 × Fo)} (h : LiM F 2 TyV v l) : SlF F v (foV l) := by
 obtain ⟨ao, cap, xs, rfl, h1, h2⟩ := h.flat
 obtain ⟨_, _, e, h3, _⟩ := h
 cases e
 refine ⟨ao, cap, by rw [foV_len], ⟨by rw [foV_len]; exact h3.1, by rw [foV_len]; omega⟩, fun hp => ?_⟩
 obtain ⟨b, o, e, h4⟩ := h2 (by rw [foV_len] at hp; exact hp)
 exact ⟨b, o, e, (focV_lic h1).fom h4⟩
instance : Inhabited FD := ⟨⟨[], [], .nil⟩⟩
instance : Inhabited CD := ⟨⟨[], []⟩⟩
instance : Inhabited TD := ⟨⟨0, 0, false, [], [], []⟩⟩
instance : Inhabited RD := ⟨⟨0, 0, false, false, [], []⟩⟩
instance : Inhabited Fo := ⟨.nil⟩
section
variable {H : Type} {enc : TypeId × Value → H} {w : World} {spare : Nat → Bool} {held : Bool}
theorem anyZ {m : Nat} {t e : TypeId} (ht : Tryz.prog.underlying t = some (.slice e)) : Opn (Rows.uptoBulk (H := H)) enc Tryz.prog w spare held m t (fun cs => ∃ a b c, cs = [.slice a b c]) := fun fuel cs d p _ h _ => by
 rcases Go.Deep.open_slice ht h with ⟨rfl, _⟩ | ⟨x, len, cap, m, n, D, Pl, rfl, _⟩
 ·exact ⟨_, _, _, rfl⟩
 ·exact ⟨_, _, _, rfl⟩
theorem boolZ (m : Nat) : Opn (Rows.uptoBulk (H := H)) enc Tryz.prog w spare held m 4 (fun cs => ∃ b, cs = [.bool b]) := opn_bool Tryz.underlying4
theorem strsZ (m : Nat) : Opn (Rows.uptoBulk (H := H)) enc Tryz.prog w spare held m 95 (fun cs => ∃ v l, cs = [v] ∧ LiM (heapOf w) 1 StR v l ∧ l.length < m) :=
 opn_sliceL Tryz.underlying95 (by kernel_rfl) (by decide) (by kernel_rfl) ((o_str m).imp fun cs ⟨s, h, _⟩ => by subst h; exact ⟨rfl, s, rfl⟩)
theorem tyZ : ∀ m, Opn (Rows.uptoBulk (H := H)) enc Tryz.prog w spare held m 88 (fun cs => cs.length = 2 ∧ ∃ x, TyV (heapOf w) x cs ∧ x.2.size + 1 < m) := by
 intro m
 induction m using Nat.strongRecOn with
 | _ m ih =>
 cases m with
 | zero => exact fun _ _ _ _ h => absurd h (Nat.not_lt_zero _)
 | succ m =>
  exact (opn_struct Tryz.underlying88 (by kernel_rfl) (.cons (o_str m) (.cons (opn_sliceZ (z := fun x => x.2.size + 1) (R := TyV) Tryz.underlying86 (by kernel_rfl) (by decide) (by kernel_rfl) (fun k hk => ih k (by omega))) .nil))).imp fun cs ⟨a, b, e, ⟨s, h1, _⟩, a2, b2, e2, ⟨v, l, h2, h3, h4, _⟩, e3⟩ => by
   subst e; subst h1; subst e2; subst h2; subst e3
   exact ⟨rfl, (s, foV l), ⟨v, rfl, slv_lim h3⟩, by show (foV l).size + 1 < _; rw [foV_size]; omega⟩
theorem fdZ (m : Nat) (hm : m ≤ 2000000) : Opn (Rows.uptoBulk (H := H)) enc Tryz.prog w spare held m 90 (fun cs => cs.length = 3 ∧ ∃ x, FdR (heapOf w) x cs ∧ x.ta.size ≤ 2000000) :=
  ((opn_struct (m := m) Tryz.underlying90 (by kernel_rfl) (.cons (o_str m) (.cons (tyZ m) .nil))).lt (Nat.le_succ m)).imp fun cs ⟨a, b, e, ⟨s, h1, _⟩, a2, b2, e2, ⟨_, ⟨nm, ar⟩, ⟨v, h2, h3⟩, h4⟩, e3⟩ => by
    subst e; subst h1; subst e2; subst h2; subst e3
    have h4' : ar.size + 1 < m := h4
    exact ⟨rfl, ⟨s, nm, ar⟩, ⟨v, rfl, h3⟩, by show ar.size ≤ _; omega⟩
def QFs (l : List FD) : Prop := FSz l ∧ l.length ≤ 2000000
theorem fdsZ (m : Nat) (hm : m ≤ 2000000) : Opn (Rows.uptoBulk (H := H)) enc Tryz.prog w spare held m 91 (fun cs => ∃ v l, cs = [v] ∧ LiM (heapOf w) 3 FdR v l ∧ QFs l) :=
 (opn_sliceL (R := fun F x cs => FdR F x cs ∧ x.ta.size ≤ 2000000) Tryz.underlying91 (by kernel_rfl) (by decide) (by kernel_rfl) (fdZ m hm)).imp fun cs ⟨v, l, h1, h2, h3⟩ => ⟨v, l, h1, (lim_and h2).1, (lim_and h2).2, by omega⟩
theorem cdZ (m : Nat) (hm : m ≤ 2000000) : Opn (Rows.uptoBulk (H := H)) enc Tryz.prog w spare held m 93 (fun cs => cs.length = 2 ∧ ∃ x, CdR (heapOf w) x cs ∧ QFs x.fs) :=
  ((opn_struct (m := m) Tryz.underlying93 (by kernel_rfl) (.cons (o_str m) (.cons (fdsZ m hm) .nil))).lt (Nat.le_succ m)).imp fun cs ⟨a, b, e, ⟨s, h1, _⟩, a2, b2, e2, ⟨v, l, h2, h3, h4⟩, e3⟩ => by
    subst e; subst h1; subst e2; subst h2; subst e3
    exact ⟨rfl, ⟨s, l⟩, ⟨v, rfl, h3⟩, h4⟩
theorem cdsZ (m : Nat) (hm : m ≤ 2000000) : Opn (Rows.uptoBulk (H := H)) enc Tryz.prog w spare held m 94 (fun cs => ∃ v l, cs = [v] ∧ LiM (heapOf w) 2 CdR v l ∧ l.length ≤ 2000000 ∧ ∀ c ∈ l, QFs c.fs) :=
 (opn_sliceL (R := fun F x cs => CdR F x cs ∧ QFs x.fs) Tryz.underlying94 (by kernel_rfl) (by decide) (by kernel_rfl) (cdZ m hm)).imp fun cs ⟨v, l, h1, h2, h3⟩ => ⟨v, l, h1, (lim_and h2).1, by omega, (lim_and h2).2⟩
def QTd (x : TD) : Prop := x.cs.length ≤ 2000000 ∧ x.ps.length ≤ 2000000 ∧ ∀ c ∈ x.cs, FSz c.fs ∧ c.fs.length ≤ 2000000
theorem tdZ (m : Nat) (hm : m ≤ 2000000) : Opn (Rows.uptoBulk (H := H)) enc Tryz.prog w spare held m 97 (fun cs => cs.length = 6 ∧ ∃ x, TdR (heapOf w) x cs ∧ QTd x) :=
  ((opn_struct (m := m) Tryz.underlying97 (by kernel_rfl) (.cons (o_pos m) (.cons (boolZ m) (.cons (o_str m) (.cons (strsZ m) (.cons (cdsZ m hm) .nil)))))).lt (Nat.le_succ m)).imp fun cs ⟨a, b, e, ⟨l, c, h1⟩, a2, b2, e2, ⟨pb, h2⟩, a3, b3, e3, ⟨s, h3, _⟩, a4, b4, e4, ⟨v, ps, h4, h4', h4l⟩, a5, b5, e5, ⟨u, cl, h5, h5', h5l, h5q⟩, e6⟩ => by
    subst e; subst h1; subst e2; subst h2; subst e3; subst h3; subst e4; subst h4; subst e5; subst h5; subst e6
    exact ⟨rfl, ⟨l, c, pb, s, ps, cl⟩, ⟨v, u, rfl, h4', h5'⟩, h5l, by show ps.length ≤ _; omega, h5q⟩
theorem tdsZ (m : Nat) (hm : m ≤ 2000000) : Opn (Rows.uptoBulk (H := H)) enc Tryz.prog w spare held m 23 (fun cs => ∃ v l, cs = [v] ∧ LiM (heapOf w) 6 TdR v l ∧ l.length ≤ 2000000 ∧ ∀ x ∈ l, QTd x) :=
 (opn_sliceL (R := fun F x cs => TdR F x cs ∧ QTd x) Tryz.underlying23 (by kernel_rfl) (by decide) (by kernel_rfl) (tdZ m hm)).imp fun cs ⟨v, l, h1, h2, h3⟩ => ⟨v, l, h1, (lim_and h2).1, by omega, (lim_and h2).2⟩
theorem rdZ (m : Nat) (hm : m ≤ 2000000) : Opn (Rows.uptoBulk (H := H)) enc Tryz.prog w spare held m 111 (fun cs => cs.length = 6 ∧ ∃ x, RdR (heapOf w) x cs ∧ QFs x.fs) :=
  ((opn_struct (m := m) Tryz.underlying111 (by kernel_rfl) (.cons (o_pos m) (.cons (boolZ m) (.cons (boolZ m) (.cons (o_str m) (.cons (fdsZ m hm) .nil)))))).lt (Nat.le_succ m)).imp fun cs ⟨a, b, e, ⟨l, c, h1⟩, a2, b2, e2, ⟨pb, h2⟩, a3, b3, e3, ⟨ip, h3⟩, a4, b4, e4, ⟨s, h4, _⟩, a5, b5, e5, ⟨u, fs, h5, h5', h5q⟩, e6⟩ => by
    subst e; subst h1; subst e2; subst h2; subst e3; subst h3; subst e4; subst h4; subst e5; subst h5; subst e6
    exact ⟨rfl, ⟨l, c, pb, ip, s, fs⟩, ⟨u, rfl, h5'⟩, h5q⟩
theorem rdsZ (m : Nat) (hm : m ≤ 2000000) : Opn (Rows.uptoBulk (H := H)) enc Tryz.prog w spare held m 24 (fun cs => ∃ v l, cs = [v] ∧ LiM (heapOf w) 6 RdR v l ∧ l.length ≤ 2000000 ∧ ∀ x ∈ l, QFs x.fs) :=
 (opn_sliceL (R := fun F x cs => RdR F x cs ∧ QFs x.fs) Tryz.underlying24 (by kernel_rfl) (by decide) (by kernel_rfl) (rdZ m hm)).imp fun cs ⟨v, l, h1, h2, h3⟩ => ⟨v, l, h1, (lim_and h2).1, by omega, (lim_and h2).2⟩
theorem exprsZ (m : Nat) (hm : m ≤ 2000000) : Opn (Rows.uptoBulk (H := H)) enc Tryz.prog w spare held m 34 (fun cs => ∃ v l, cs = [v] ∧ TrS (heapOf w) 9 EhR v l) :=
 (opn_slice Tryz.underlying34 (by kernel_rfl) (by decide) (by kernel_rfl) ((o_expr m hm).imp fun cs ⟨h1, x, h2, _⟩ => ⟨h1, x, h2⟩)).imp fun cs ⟨v, l, h, h2⟩ => ⟨v, _, h, trs_lim h2⟩
theorem litZ (m : Nat) (hm : m ≤ 2000000) : Opn (Rows.uptoBulk (H := H)) enc Tryz.prog w spare held m 175 (fun cs => cs.length = 5 ∧ ∃ x, LtR (heapOf w) x cs) :=
  ((opn_struct (m := m) Tryz.underlying175 (by kernel_rfl) (.cons (o_u8 m) (.cons (o_pos m) (.cons (o_str m) (.cons (exprsZ m hm) .nil))))).lt (Nat.le_succ m)).imp fun cs ⟨a, b, e, ⟨k, h1, hk⟩, a2, b2, e2, ⟨l, c, h2⟩, a3, b3, e3, ⟨s, h3, _⟩, a4, b4, e4, ⟨v, el, h4, h4'⟩, e5⟩ => by
    obtain ⟨k, rfl⟩ := u8_nat hk
    subst e; subst h1; subst e2; subst h2; subst e3; subst h3; subst e4; subst h4; subst e5
    exact ⟨rfl, ⟨k, l, c, s, el⟩, v, rfl, h4'⟩
theorem litsZ (m : Nat) (hm : m ≤ 2000000) : Opn (Rows.uptoBulk (H := H)) enc Tryz.prog w spare held m 127 (fun cs => ∃ v l, cs = [v] ∧ LiM (heapOf w) 5 LtR v l) := opn_slice Tryz.underlying127 (by kernel_rfl) (by decide) (by kernel_rfl) (litZ m hm)
theorem ruleZ (m : Nat) (hm : m ≤ 2000000) : Opn (Rows.uptoBulk (H := H)) enc Tryz.prog w spare held m 129 (fun cs => cs.length = 6 ∧ ∃ x, RuR (heapOf w) x cs) :=
  ((opn_struct (m := m) Tryz.underlying129 (by kernel_rfl) (.cons (o_pos m) (.cons (o_str m) (.cons (exprsZ m hm) (.cons (strsZ m) (.cons (litsZ m hm) .nil)))))).lt (Nat.le_succ m)).imp fun cs ⟨a, b, e, ⟨l, c, h1⟩, a2, b2, e2, ⟨s, h2, _⟩, a3, b3, e3, ⟨v, el, h3, h3'⟩, a4, b4, e4, ⟨u, ag, h4, h4', _⟩, a5, b5, e5, ⟨y, bl, h5, h5'⟩, e6⟩ => by
    subst e; subst h1; subst e2; subst h2; subst e3; subst h3; subst e4; subst h4; subst e5; subst h5; subst e6
    exact ⟨rfl, ⟨l, c, s, el, ag, bl⟩, v, u, y, rfl, h3', h4', h5'⟩
theorem neverZ (m : Nat) (hm : m ≤ 2000000) : Opn (Rows.uptoBulk (H := H)) enc Tryz.prog w spare held m 132 (fun cs => cs.length = 4 ∧ ∃ x, NvR (heapOf w) x cs) :=
  ((opn_struct (m := m) Tryz.underlying132 (by kernel_rfl) (.cons (o_pos m) (.cons (o_str m) (.cons (litsZ m hm) .nil)))).lt (Nat.le_succ m)).imp fun cs ⟨a, b, e, ⟨l, c, h1⟩, a2, b2, e2, ⟨s, h2, _⟩, a3, b3, e3, ⟨y, bl, h3, h3'⟩, e4⟩ => by
    subst e; subst h1; subst e2; subst h2; subst e3; subst h3; subst e4
    exact ⟨rfl, ⟨l, c, s, bl⟩, y, rfl, h3'⟩
theorem modZ (m : Nat) (hm : m ≤ 2000000) : Opn (Rows.uptoBulk (H := H)) enc Tryz.prog w spare held m 28 (fun cs => cs.length = 6 ∧ ∃ M, MdR (heapOf w) M cs ∧ MSz M) :=
  ((opn_struct (m := m) Tryz.underlying28 (by kernel_rfl) (.cons (o_str m) (.cons (anyZ Tryz.underlying22) (.cons (tdsZ m hm) (.cons (rdsZ m hm) (.cons (opn_slice Tryz.underlying25 (by kernel_rfl) (by decide) (by kernel_rfl) (ruleZ m hm)) (.cons (opn_slice Tryz.underlying26 (by kernel_rfl) (by decide) (by kernel_rfl) (neverZ m hm)) .nil))))))).lt (Nat.le_succ m)).imp
    fun cs ⟨a, b, e, ⟨s, h1, _⟩, a2, b2, e2, ⟨i1, i2, i3, h2⟩, a3, b3, e3, ⟨v1, l1, h3, h3', h3l, h3q⟩, a4, b4, e4, ⟨v2, l2, h4, h4', h4l, h4q⟩, a5, b5, e5, ⟨v3, l3, h5, h5'⟩, a6, b6, e6, ⟨v4, l4, h6, h6'⟩, e7⟩ => by
    subst e; subst h1; subst e2; subst h2; subst e3; subst h3; subst e4; subst h4; subst e5; subst h5; subst e6; subst h6; subst e7
    exact ⟨rfl, ⟨s, l1, l2, l3, l4⟩, ⟨i1, i2, i3, v1, v2, v3, v4, rfl, h3', h4', h5', h6'⟩, h3q, h4q, h3l, h4l⟩
end
theorem evalValuesFr (F : Heap) (K : EnK F) (M : MD) (cm : List Value) (e : Ex) (ce : List Value) (vs : List Bd) {vv : Value} (hM : MdR F M cm) (hsz : MSz M) (hR : RoR 9 EhR F e ce) (hq : Ne 1048577 e) (hl : LiM F 5 BdR vv vs) (hNB : NB vs) :
  Ct Tryz.prog 3 [.agg ⟨cm⟩, .agg ⟨ce⟩, vv] F [] (fun _ _ u => u = .bool true) :=
 evalValuesCt F K M e vs cm ce vv hM hsz
  (fun x hx => ⟨(hsz.1 x hx).1, (hsz.1 x hx).2.1, fun c hc f hf => Nat.le_trans (depthL_le _) (((hsz.1 x hx).2.2 c hc).1 f hf)⟩)
  (fun x hx f hf => Nat.le_trans (depthL_le _) ((hsz.2.1 x hx).1 f hf)) hq.1 (by have := hq.2; omega) hNB (ror_exc hR) hl
end Go.Proofs.YtgefmjghdijbfaaGreatDoor
