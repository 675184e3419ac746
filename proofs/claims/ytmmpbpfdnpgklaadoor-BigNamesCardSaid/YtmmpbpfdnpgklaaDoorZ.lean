/- Numbers as integers: what the answers of package big come to. No program in sight beyond the names of Ops and Mul. -/
import Derived.Test.YtmmpbpfdnpgklaaDoorMul
namespace Go.Proofs.YtmmpbpfdnpgklaaDoor
open Go Go.Wk Go.Num
set_option linter.unusedSimpArgs false
set_option linter.unusedVariables false

def valS (s : List UInt8) : Int := toZ (negS s, decV (bodyS s))
def showZ (z : Int) : List UInt8 × Int := showS (decide (z < 0)) z.natAbs
def ansZ (e : Int) (x : List UInt8 × Int) : List UInt8 × Int := if e = 0 then x else ([], e)
theorem showS_zero (n : Bool) : showS n 0 = ([48], 0) := by unfold showS; rw [if_pos rfl]
theorem showS_toZ (n : Bool) (N : Nat) : showS n N = showZ (toZ (n, N)) := by
  unfold showZ
  rcases Nat.eq_zero_or_pos N with e | e
  · subst e
    have : toZ (n, 0) = 0 := by unfold toZ; cases n <;> rfl
    rw [this, showS_zero]; rfl
  · cases n
    · have h : toZ (false, N) = (N : Int) := rfl
      rw [h, show decide ((N : Int) < 0) = false by simp]; rfl
    · have h : toZ (true, N) = -(N : Int) := rfl
      rw [h, show decide (-(N : Int) < 0) = true by simp; omega, Int.natAbs_neg]; rfl
theorem toZ_not (n : Bool) (N : Nat) : toZ (!n, N) = - toZ (n, N) := by cases n <;> simp [toZ]
theorem toZ_mul (n m : Bool) (N M : Nat) : toZ (n != m, N * M) = toZ (n, N) * toZ (m, M) := by
  cases n <;> cases m <;> simp [toZ, Int.neg_mul, Int.mul_neg]
theorem addA_eq (s t : List UInt8) : addA s t = ansZ (bothE s t) (showZ (valS s + valS t)) := by
  unfold addA ansZ
  split
  · rw [showS_toZ]; congr 1; exact toZ_addS _ _ _ _
  · rfl
theorem subA_eq (s t : List UInt8) : subA s t = ansZ (bothE s t) (showZ (valS s - valS t)) := by
  unfold subA ansZ
  split
  · rw [showS_toZ]; congr 1
    rw [Int.sub_eq_add_neg]
    have := toZ_addS (negS s) (decV (bodyS s)) (!negS t) (decV (bodyS t))
    rw [toZ_not] at this; exact this
  · rfl
theorem mulA_eq (s t : List UInt8) : mulA s t = ansZ (bothE s t) (showZ (valS s * valS t)) := by
  unfold mulA ansZ
  split
  · rw [showS_toZ, toZ_mul]; rfl
  · rfl
theorem negA_eq (s : List UInt8) : negA s = ansZ (checkS s) (showZ (- valS s)) := by
  unfold negA ansZ
  split
  · rw [showS_toZ, toZ_not]; rfl
  · rfl
theorem cmpD_toZ (x : Bool × Nat) : cmpD x = if toZ x < 0 then -1 else if 0 < toZ x then 1 else 0 := by
  obtain ⟨n, m⟩ := x
  unfold cmpD toZ
  by_cases h : m = 0
  · subst h; cases n <;> simp
  · rw [if_neg (by simpa using h)]
    cases n
    · simp only [Bool.false_eq_true, if_false]; rw [if_neg (by omega), if_pos (by omega)]
    · simp only [if_true]; rw [if_pos (by omega)]
def sgn (z : Int) : Int := if z < 0 then -1 else if 0 < z then 1 else 0
theorem cmpA_eq (s t : List UInt8) : cmpA s t = if bothE s t = 0 then (sgn (valS s - valS t), 0) else (0, bothE s t) := by
  unfold cmpA
  split
  · rw [cmpD_toZ]
    have := toZ_addS (negS s) (decV (bodyS s)) (!negS t) (decV (bodyS t))
    rw [toZ_not] at this
    rw [this]; rfl
  · rfl

/-! ### a number's text -/
theorem head_dd {N : Nat} (h : N ≠ 0) : (Lib.decDigits N).head? ≠ some 48 := by
  induction N using Nat.strongRecOn with
  | _ N ih =>
    by_cases hN : N < 10
    · rw [dd_small hN]
      intro e
      simp only [List.head?_cons, Option.some.injEq] at e
      have e2 := congrArg UInt8.toNat e
      rw [UInt8.toNat_ofNat', Nat.mod_eq_of_lt (by omega)] at e2
      have : (48 : UInt8).toNat = 48 := rfl
      omega
    · rw [dd_big hN]
      have hq : N / 10 ≠ 0 := by omega
      have := ih (N / 10) (by omega) hq
      have hne := dd_ne (N / 10)
      cases hd : Lib.decDigits (N / 10) with
      | nil => exact absurd hd hne
      | cons c r => rw [hd] at this; simpa using this
theorem head_isD {l : List UInt8} (h : l.all isD = true) : l.head? ≠ some 45 := by
  cases l with
  | nil => simp
  | cons c r =>
    rw [List.all_cons, Bool.and_eq_true] at h
    intro e
    simp only [List.head?_cons, Option.some.injEq] at e
    rw [e] at h; exact absurd h.1 (by decide)
theorem body_pos {l : List UInt8} (h : l.all isD = true) : bodyS l = l ∧ negS l = false := by
  have := head_isD h
  unfold bodyS negS; rw [if_neg this]; simp [this]
theorem body_neg (l : List UInt8) : bodyS (45 :: l) = l ∧ negS (45 :: l) = true := by unfold bodyS negS; simp
/-- What is shown is a number, and the one that it was. -/
theorem show_ok {z : Int} (h : (showZ z).2 = 0) : checkS (showZ z).1 = 0 ∧ valS (showZ z).1 = z := by
  unfold showZ showS at h ⊢
  by_cases h0 : z.natAbs = 0
  · rw [if_pos h0]
    have : z = 0 := by omega
    subst this
    exact ⟨by decide, by decide⟩
  · rw [if_neg h0] at h ⊢
    split at h
    · cases h
    · rename_i hl
      rw [if_neg hl]
      have hall := dd_isD z.natAbs
      have hne := dd_ne z.natAbs
      have hh := head_dd h0
      by_cases hz : z < 0
      · simp only [hz, decide_true, if_true, List.cons_append, List.nil_append]
        obtain ⟨e1, e2⟩ := body_neg (Lib.decDigits z.natAbs)
        refine ⟨?_, ?_⟩
        · unfold checkS
          rw [e1, if_neg (by intro h; rcases h with h | h; exact hne h; exact hh h.1), if_pos hall, if_neg hl]
        · unfold valS; rw [e1, e2, dd_val]; show -((z.natAbs : Nat) : Int) = z; omega
      · simp only [hz, decide_false, Bool.false_eq_true, if_false, List.nil_append]
        obtain ⟨e1, e2⟩ := body_pos hall
        refine ⟨?_, ?_⟩
        · unfold checkS
          rw [e1, if_neg (by intro h; rcases h with h | h; exact hne h; exact hh h.1), if_pos hall, if_neg hl]
        · unfold valS; rw [e1, e2, dd_val]; show ((z.natAbs : Nat) : Int) = z; omega
theorem dd_unique : ∀ (n : Nat) (l : List UInt8), l.length = n → l.all isD = true → l ≠ [] → (l.head? = some 48 → l = [48]) → Lib.decDigits (decV l) = l := by
  intro n
  induction n with
  | zero => intro l hl _ hne; exact absurd (List.length_eq_zero_iff.1 hl) hne
  | succ n ih =>
    intro l hl hall hne hh
    obtain ⟨m, c, rfl⟩ : ∃ m c, l = m ++ [c] := ⟨l.dropLast, l.getLast hne, (List.dropLast_concat_getLast hne).symm⟩
    rw [List.all_append, Bool.and_eq_true] at hall
    have hc : isD c = true := by simpa using hall.2
    have hc2 := (isD_iff c).1 hc
    have hdv : dv c = c.toNat - 48 := rfl
    have hce : UInt8.ofNat (48 + dv c) = c := by rw [hdv, show 48 + (c.toNat - 48) = c.toNat by omega, UInt8.ofNat_toNat]
    rw [decV_snoc]
    cases m with
    | nil =>
      rw [decV_nil, Nat.mul_zero, Nat.zero_add, dd_small (dv_lt hc), hce]; rfl
    | cons x r =>
      have hx : x ≠ 48 := fun e => by
        have := hh (by rw [e]; rfl)
        have := congrArg List.length this
        simp at this
      have hm := ih (x :: r) (by simpa using hl) hall.1 (by simp) (fun e => absurd (by simpa using e) hx)
      have hpos : 0 < decV (x :: r) := by
        rcases Nat.eq_zero_or_pos (decV (x :: r)) with e | e
        · rw [e, dd_small (by decide)] at hm
          simp only [List.cons.injEq] at hm
          exact absurd hm.1.symm hx
        · exact e
      have hlt := dv_lt hc
      rw [dd_big (by omega), show (10 * decV (x :: r) + dv c) / 10 = decV (x :: r) by omega, show (10 * decV (x :: r) + dv c) % 10 = dv c by omega, hm, hce]
theorem check_parts {s : List UInt8} (h : checkS s = 0) : (bodyS s).all isD = true ∧ (bodyS s).length ≤ 200 ∧ bodyS s ≠ [] ∧ ((bodyS s).head? = some 48 → s = [48]) := by
  obtain ⟨h1, h2, h3⟩ := check_digits h
  refine ⟨h1, h2, h3, fun e => ?_⟩
  by_cases e2 : s = [48]
  · exact e2
  · unfold checkS at h
    rw [if_pos (Or.inr ⟨e, e2⟩)] at h; cases h
theorem canon_body {s : List UInt8} (h : checkS s = 0) : Lib.decDigits (decV (bodyS s)) = bodyS s := by
  obtain ⟨h1, h2, h3, h4⟩ := check_parts h
  refine dd_unique _ _ rfl h1 h3 fun e => ?_
  have := h4 e; subst this; decide
theorem s_of_body (s : List UInt8) : s = (if negS s = true then [45] else []) ++ bodyS s := by
  unfold negS bodyS
  cases s with
  | nil => simp
  | cons c r => by_cases h : c = 45 <;> simp [h]
/-- A number is shown as it is written. -/
theorem show_val {s : List UInt8} (h : checkS s = 0) : showZ (valS s) = (s, 0) := by
  obtain ⟨h1, h2, h3, h4⟩ := check_parts h
  have hc := canon_body h
  rw [show showZ (valS s) = showS (negS s) (decV (bodyS s)) from (showS_toZ _ _).symm]
  unfold showS
  by_cases h0 : decV (bodyS s) = 0
  · rw [if_pos h0]
    rw [h0, dd_small (by decide)] at hc
    have := h4 (by rw [← hc]; rfl)
    rw [this]
  · rw [if_neg h0, hc, if_neg (by omega), ← s_of_body]
theorem val_zero {s : List UInt8} (h : checkS s = 0) : valS s = 0 ↔ s = [48] := by
  constructor
  · intro e
    have := show_val h
    rw [e] at this
    exact (congrArg Prod.fst this).symm
  · rintro rfl; decide
theorem val_inj {s t : List UInt8} (hs : checkS s = 0) (ht : checkS t = 0) (h : valS s = valS t) : s = t := by
  have h1 := show_val hs
  rw [h, show_val ht] at h1
  exact (congrArg Prod.fst h1).symm
theorem dd_len_lt {N m : Nat} (hm : m ≠ 0) : (Lib.decDigits N).length ≤ m ↔ N < 10 ^ m := by
  constructor
  · intro h
    have := decV_lt _ (dd_isD N)
    rw [dd_val] at this
    exact Nat.lt_of_lt_of_le this (Nat.pow_le_pow_right (by decide) h)
  · intro h; exact dd_len h hm
theorem showZ_err (z : Int) (M : Nat) (hM : M = 200) : (showZ z).2 = 0 ↔ z.natAbs < 10 ^ M := by
  have h0 : M ≠ 0 := by omega
  have := dd_len_lt (N := z.natAbs) h0
  unfold showZ showS
  by_cases hz : z.natAbs = 0
  · rw [if_pos hz]; simp [hz]; exact Nat.pow_pos (by decide)
  · rw [if_neg hz, ← this]
    split
    · constructor
      · intro h; cases h
      · intro h; omega
    · exact ⟨fun _ => by omega, fun _ => rfl⟩
theorem showZ_cases (z : Int) : (showZ z).2 = 0 ∨ showZ z = ([], 80) := by
  unfold showZ showS
  split
  · exact Or.inl rfl
  · split
    · exact Or.inr rfl
    · exact Or.inl rfl
theorem val_bound {s : List UInt8} (h : checkS s = 0) (M : Nat) (hM : M = 200) : (valS s).natAbs < 10 ^ M := by
  refine (showZ_err _ M hM).1 ?_
  rw [show_val h]
end Go.Proofs.YtmmpbpfdnpgklaaDoor
