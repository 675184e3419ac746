/- Walks. -/
import Derived.Test.YtbhipiepfclneaaGreatDoorQ18
import Derived.Test.YtbhipiepfclneaaGreatDoorQ21
namespace Go.Proofs.YtbhipiepfclneaaGreatDoor
open Go Go.Wk Go.Un Go.De Go.Num
set_option linter.unusedSimpArgs false
set_option linter.unusedVariables false
def digB (c : UInt8) : Bool := decide (48 ≤ c.toNat ∧ c.toNat ≤ 57)
theorem dig_of {c : UInt8} (h : digS.contains c = true) : digB c = true := by
 have : c = 48 ∨ c = 49 ∨ c = 50 ∨ c = 51 ∨ c = 52 ∨ c = 53 ∨ c = 54 ∨ c = 55 ∨ c = 56 ∨ c = 57 := by simpa [digS] using h
 rcases this with rfl | rfl | rfl | rfl | rfl | rfl | rfl | rfl | rfl | rfl <;> decide
theorem dropW_nil {α : Type} {p : α → Bool} : ∀ {l : List α}, l.dropWhile p = [] → ∀ x ∈ l, p x = true
 | [], _, x, hx => by cases hx
 | y :: r, h, x, hx => by
  rw [List.dropWhile_cons] at h
  split at h
  ·rename_i hy
   rcases List.mem_cons.1 hx with rfl | hx
   ·exact hy
   ·exact dropW_nil h x hx
  ·cases h
theorem dropW_head {α : Type} {p : α → Bool} : ∀ {l : List α} {y : α} {r : List α}, l.dropWhile p = y :: r → p y = false
 | [], y, r, h => by cases h
 | z :: l, y, r, h => by
  rw [List.dropWhile_cons] at h
  split at h
  ·exact dropW_head h
  ·rename_i hz
   cases h
   simpa using hz
theorem all_trim {d : List UInt8} (h : Lib.trimS d digS = []) : d.all digB = true := by
 have h2 : ∀ x ∈ d.reverse, digS.contains x = true := by
  cases hr : d.reverse.dropWhile (digS.contains ·) with
  | nil => exact dropW_nil hr
  | cons y r =>
   exfalso
   have h1 : (y :: r).reverse.dropWhile (digS.contains ·) = [] := by rw [← hr]; exact h
   have h3 := dropW_nil h1 y (by simp)
   have h4 := dropW_head hr
   rw [h3] at h4
   cases h4
 rw [List.all_eq_true]
 exact fun x hx => dig_of (h2 x (List.mem_reverse.2 hx))
theorem numD_body (s : List UInt8) : numD s = bodyS s := by
 unfold numD Lib.trimPrefix bodyS
 cases s with
 | nil => rfl
 | cons c r =>
  by_cases hc : c = 45
  ·subst hc; rfl
  ·have e1 : Lib.hasPrefix (c :: r) [45] = false := by
    unfold Lib.hasPrefix
    simp [List.isPrefixOf, hc, Ne.symm hc]
    try (intro h; exact hc h.symm)
   have e2 : ¬ (c :: r).head? = some 45 := by simp [hc]
   rw [e1, if_neg e2]; rfl
theorem num_check {s : List UInt8} (h : numOK s = true) (h2 : numN s ≤ 200) : checkS s = 0 := by
 unfold numN at h2
 rw [if_pos h, numD_body] at h2
 unfold numOK at h
 simp only [Bool.not_eq_true', Bool.or_eq_false_iff, Bool.and_eq_false_iff, decide_eq_false_iff_not, ne_eq, Classical.not_not] at h
 obtain ⟨⟨h1, h3⟩, h4⟩ := h
 have h5 := all_trim h3
 rw [numD_body] at h1 h4 h5
 unfold checkS
 rw [if_neg, if_pos, if_neg (by omega)]
 ·rw [List.all_eq_true] at h5 ⊢
  intro x hx
  have := h5 x hx
  unfold digB at this
  unfold isD
  simpa using this
 ·rintro (h6 | ⟨h6, h7⟩)
  ·exact h1 h6
  ·rcases h4 with h4 | h4
   ·refine h4 ?_
    cases hb : bodyS s with
    | nil => rw [hb] at h6; cases h6
    | cons c r => rw [hb] at h6; cases h6; rfl
   ·exact h7 h4
abbrev i64 (n : Int) : Prop := -9223372036854775808 ≤ n ∧ n ≤ 9223372036854775807
def zV : Vv := (⟨0, 0, []⟩, .nil)
def intV (n : Int) : Vv := (⟨2, n, []⟩, .nil)
def bigV (s : List UInt8) : Vv := (⟨3, 0, s⟩, .nil)
def txN (x : Vv) : List UInt8 := if x.1.k = 2 then (showZ x.1.n).1 else x.1.s
def valN (x : Vv) : Int := if x.1.k = 2 then x.1.n else valS x.1.s
def NumOk (x : Vv) : Prop := (x.1.k = 2 ∧ i64 x.1.n) ∨ (x.1.k = 3 ∧ checkS x.1.s = 0)
theorem i64_show {n : Int} (h : i64 n) : (showZ n).2 = 0 := by
 have hn := i64_nd h.1 h.2
 unfold showZ showS
 split
 ·rfl
 ·rename_i h0
  rw [if_neg (by rw [dd_nd h0]; omega)]
theorem txN_ok {x : Vv} (h : NumOk x) : checkS (txN x) = 0 ∧ valS (txN x) = valN x := by
 unfold txN valN
 rcases h with ⟨h1, h2⟩ | ⟨h1, h2⟩
 ·rw [if_pos h1, if_pos h1]; exact show_ok (i64_show h2)
 ·rw [if_neg (by omega), if_neg (by omega)]; exact ⟨h2, rfl⟩
def negT (s : List UInt8) : Bool := decide ((s.getD 0 0).toNat = 45)
theorem check_pos {s : List UInt8} (h : checkS s = 0) : 0 < s.length := by
 have h1 := (check_digits h).2.2
 have h2 := bodyS_len s
 have := List.length_pos_iff.2 h1
 omega
theorem check_len {s : List UInt8} (h : checkS s = 0) : s.length ≤ 201 := by
 have h1 := (check_digits h).2.1
 have h2 := congrArg List.length (s_of_body s)
 rw [List.length_append] at h2
 have : (if negS s = true then ([45] : List UInt8) else []).length ≤ 1 := by split <;> decide
 omega
theorem negT_S {s : List UInt8} (h : checkS s = 0) : negT s = negS s := by
 unfold negT negS
 cases s with
 | nil => exact absurd (check_pos h) (by simp)
 | cons c r =>
  rw [decide_eq_decide]
  simp only [List.head?_cons, Option.some.injEq, List.getD_cons_zero]
  exact ⟨fun e => UInt8.toNat_inj.1 e, fun e => by rw [e]; rfl⟩
theorem negT_iff {s : List UInt8} (h : checkS s = 0) : negT s = true ↔ valS s < 0 := by
 rw [negT_S h]
 obtain ⟨h1, h2, h3, h4⟩ := check_parts h
 constructor
 ·intro hn
  unfold valS
  rw [hn]
  show -(decV (bodyS s) : Int) < 0
  have : decV (bodyS s) ≠ 0 := fun e => by
   have h0 := (val_zero h).1 (by unfold valS; rw [hn, e]; rfl)
   rw [h0] at hn
   exact absurd hn (by decide)
  omega
 ·intro hv
  cases hn : negS s with
  | true => rfl
  | false =>
   unfold valS at hv
   rw [hn] at hv
   have : (0 : Int) ≤ toZ (false, decV (bodyS s)) := Int.natCast_nonneg _
   omega
def sumL (l : List (List UInt8)) : Int := (l.map valS).sum
def sumF (l : List Vv) : Int × Vv :=
 if (l.headD zV).1.k = 3 then (if (showZ (l.map valN).sum).2 = 0 then (0, bigV (showZ (l.map valN).sum).1) else (80, zV))
 else (if fitsI (l.map valN).sum = true then (0, intV (l.map valN).sum) else (80, zV))
structure SumI (tot : Int) (now : List UInt8) (A B : List (List UInt8)) (z : Int) : Prop where
  ok : (showZ z).2 = 0
  now : now = (showZ z).1
  a : ∀ t ∈ A, checkS t = 0 ∧ valS t < 0
  b : ∀ t ∈ B, checkS t = 0 ∧ 0 ≤ valS t
  tot : z + sumL A + sumL B = tot
theorem sumL_neg : ∀ {A : List (List UInt8)}, (∀ t ∈ A, checkS t = 0 ∧ valS t < 0) → sumL A ≤ 0
 | [], _ => Int.le_refl _
 | t :: r, h => by
  have h1 := (h t (List.mem_cons_self ..)).2
  have h2 := sumL_neg (A := r) fun u hu => h u (List.mem_cons_of_mem _ hu)
  unfold sumL at h2 ⊢
  simp only [List.map_cons, List.sum_cons]
  omega
theorem sumL_pos : ∀ {A : List (List UInt8)}, (∀ t ∈ A, checkS t = 0 ∧ 0 ≤ valS t) → 0 ≤ sumL A
 | [], _ => Int.le_refl _
 | t :: r, h => by
  have h1 := (h t (List.mem_cons_self ..)).2
  have h2 := sumL_pos (A := r) fun u hu => h u (List.mem_cons_of_mem _ hu)
  unfold sumL at h2 ⊢
  simp only [List.map_cons, List.sum_cons]
  omega
theorem sumL_cons (t : List UInt8) (r : List (List UInt8)) : sumL (t :: r) = valS t + sumL r := by unfold sumL; rw [List.map_cons, List.sum_cons]
theorem SumI.stepB {tot z : Int} {now t : List UInt8} {A B : List (List UInt8)} (h : SumI tot now A (t :: B) z) (h2 : (showZ (z + valS t)).2 = 0) : SumI tot (showZ (z + valS t)).1 A B (z + valS t) :=
 ⟨h2, rfl, h.a, fun u hu => h.b u (List.mem_cons_of_mem _ hu), by have := h.tot; rw [sumL_cons] at this; omega⟩
theorem SumI.stepA {tot z : Int} {now t : List UInt8} {A B : List (List UInt8)} (h : SumI tot now (t :: A) B z) (h2 : (showZ (z + valS t)).2 = 0) : SumI tot (showZ (z + valS t)).1 A B (z + valS t) :=
 ⟨h2, rfl, fun u hu => h.a u (List.mem_cons_of_mem _ hu), h.b, by have := h.tot; rw [sumL_cons] at this; omega⟩
theorem SumI.overB {tot z : Int} {now t : List UInt8} {A B : List (List UInt8)} (h : SumI tot now A (t :: B) z) (hc : z < 0 ∨ A = []) (h2 : (showZ (z + valS t)).2 ≠ 0) : (showZ tot).2 ≠ 0 := by
 generalize hM : (200 : Nat) = M
 have hh := fun z => showZ_err z M hM.symm
 have h1 := (hh _).1 h.ok
 have h3 := val_bound (h.b t (List.mem_cons_self ..)).1 M hM.symm
 have h4 := (h.b t (List.mem_cons_self ..)).2
 rw [Ne, hh] at h2 ⊢
 generalize 10 ^ M = N at *
 have h5 := h.tot
 rw [sumL_cons] at h5
 have h6 := sumL_pos fun u hu => h.b u (List.mem_cons_of_mem _ hu)
 rcases hc with hc | rfl
 ·exfalso; omega
 ·have : sumL [] = 0 := rfl
  omega
theorem SumI.overA {tot z : Int} {now t : List UInt8} {A B : List (List UInt8)} (h : SumI tot now (t :: A) B z) (hc : 0 ≤ z ∨ B = []) (h2 : (showZ (z + valS t)).2 ≠ 0) : (showZ tot).2 ≠ 0 := by
 generalize hM : (200 : Nat) = M
 have hh := fun z => showZ_err z M hM.symm
 have h1 := (hh _).1 h.ok
 have h3 := val_bound (h.a t (List.mem_cons_self ..)).1 M hM.symm
 have h4 := (h.a t (List.mem_cons_self ..)).2
 rw [Ne, hh] at h2 ⊢
 generalize 10 ^ M = N at *
 have h5 := h.tot
 rw [sumL_cons] at h5
 have h6 := sumL_neg fun u hu => h.a u (List.mem_cons_of_mem _ hu)
 rcases hc with hc | rfl
 ·exfalso; omega
 ·have : sumL [] = 0 := rfl
  omega
theorem fits_show {z : Int} (h : fitsI z = true) : (showZ z).2 = 0 := by
 unfold fitsI at h
 simp only [Bool.and_eq_true, decide_eq_true_eq] at h
 exact i64_show h
theorem sumF_no {l : List Vv} (h : (showZ (l.map valN).sum).2 ≠ 0) : sumF l = (80, zV) := by
 unfold sumF
 split
 ·first | rfl | rw [if_neg h]
 ·first | rfl | rw [if_neg fun e => h (fits_show e)]
def negs (l : List Vv) : List (List UInt8) := (l.map txN).filter negT
def poss (l : List Vv) : List (List UInt8) := (l.map txN).filter fun t => !negT t
theorem negs_snoc {l : List Vv} {k : Nat} {x : Vv} (h : l[k]? = some x) : negs (l.take (k + 1)) = negs (l.take k) ++ (if negT (txN x) = true then [txN x] else []) := by
 unfold negs
 rw [List.take_add_one, h]
 simp only [List.map_append, List.filter_append, Option.toList_some, List.map_cons, List.map_nil, List.filter_cons, List.filter_nil]
theorem poss_snoc {l : List Vv} {k : Nat} {x : Vv} (h : l[k]? = some x) : poss (l.take (k + 1)) = poss (l.take k) ++ (if negT (txN x) = true then [] else [txN x]) := by
 unfold poss
 rw [List.take_add_one, h]
 simp only [List.map_append, List.filter_append, Option.toList_some, List.map_cons, List.map_nil, List.filter_cons, List.filter_nil]
 congr 1
 cases negT (txN x) <;> rfl
theorem sum_split : ∀ {l : List Vv}, (∀ x ∈ l, NumOk x) → sumL (negs l) + sumL (poss l) = (l.map valN).sum ∧ (negs l).length + (poss l).length = l.length
 | [], _ => ⟨rfl, rfl⟩
 | x :: r, h => by
  obtain ⟨h1, h2⟩ := sum_split (l := r) fun y hy => h y (List.mem_cons_of_mem _ hy)
  have h3 := (txN_ok (h x (List.mem_cons_self ..))).2
  unfold negs poss sumL at *
  simp only [List.map_cons, List.filter_cons, List.sum_cons, List.length_cons]
  cases negT (txN x) <;> simp only [Bool.not_true, Bool.not_false, Bool.false_eq_true, if_true, if_false, List.map_cons, List.sum_cons, List.length_cons] <;> omega
theorem sum_start {l : List Vv} (h : ∀ x ∈ l, NumOk x) : SumI (l.map valN).sum [48] (negs l) (poss l) 0 where
 ok := by decide
 now := by decide
 a t ht := by
  obtain ⟨h1, h2⟩ := List.mem_filter.1 ht
  obtain ⟨x, hx, rfl⟩ := List.mem_map.1 h1
  have := (txN_ok (h x hx)).1
  exact ⟨this, (negT_iff this).1 h2⟩
 b t ht := by
  obtain ⟨h1, h2⟩ := List.mem_filter.1 ht
  obtain ⟨x, hx, rfl⟩ := List.mem_map.1 h1
  have := (txN_ok (h x hx)).1
  refine ⟨this, ?_⟩
  rw [Bool.not_eq_true'] at h2
  have h3 := mt (negT_iff this).2 (by rw [h2]; decide)
  omega
 tot := by have := (sum_split h).1; omega
theorem SumI.neg {tot z : Int} {now : List UInt8} {A B : List (List UInt8)} (h : SumI tot now A B z) : checkS now = 0 ∧ valS now = z ∧ (negT now = true ↔ z < 0) := by
 obtain ⟨h1, h2⟩ := show_ok h.ok
 rw [← h.now] at h1 h2
 exact ⟨h1, h2, by rw [negT_iff h1, h2]⟩
theorem SumI.add {tot z : Int} {now t : List UInt8} {A B : List (List UInt8)} (h : SumI tot now A B z) (ht : checkS t = 0) : addA now t = showZ (z + valS t) := by
 obtain ⟨h1, h2, -⟩ := h.neg
 rw [addA_eq, h2]
 unfold ansZ bothE
 rw [if_pos (by rw [if_pos h1]; exact ht)]
theorem SumI.fin {tot z : Int} {now : List UInt8} (h : SumI tot now [] [] z) : now = (showZ tot).1 ∧ (showZ tot).2 = 0 ∧ checkS now = 0 ∧ valS now = tot := by
 have h1 := h.tot
 have : sumL [] = 0 := rfl
 rw [this] at h1
 have : z = tot := by omega
 subst this
 exact ⟨h.now, h.ok, h.neg.1, h.neg.2.1⟩
end Go.Proofs.YtbhipiepfclneaaGreatDoor
