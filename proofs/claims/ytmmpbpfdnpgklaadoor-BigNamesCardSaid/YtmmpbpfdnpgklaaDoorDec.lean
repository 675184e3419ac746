/- Decimal texts: what number a row of digits is, and its digits to the base of a thousand million. No program. -/
import Derived.Test.YtmmpbpfdnpgklaaDoorDig
namespace Go.Num
open Go
set_option linter.unusedSimpArgs false
set_option linter.unusedVariables false

def dv (c : UInt8) : Nat := c.toNat - 48
def isD (c : UInt8) : Bool := decide (48 ≤ c.toNat) && decide (c.toNat ≤ 57)
def decV (l : List UInt8) : Nat := l.foldl (fun n c => 10 * n + dv c) 0
theorem dv_lt {c : UInt8} (h : isD c = true) : dv c < 10 := by
  unfold isD at h; unfold dv; simp only [Bool.and_eq_true, decide_eq_true_eq] at h; omega
theorem decV_nil : decV [] = 0 := rfl
theorem foldV (m : List UInt8) : ∀ a : Nat, m.foldl (fun n c => 10 * n + dv c) a = a * 10 ^ m.length + decV m := by
  induction m with
  | nil => intro a; simp [decV]
  | cons c m ih =>
    intro a
    have h1 := ih (10 * a + dv c)
    have h2 := ih (10 * 0 + dv c)
    simp only [decV, List.foldl_cons, List.length_cons] at *
    rw [h1, h2, Nat.pow_succ, Nat.add_mul, Nat.add_mul]
    have : 10 * a * 10 ^ m.length = a * (10 ^ m.length * 10) := by rw [Nat.mul_comm 10 a, Nat.mul_assoc, Nat.mul_comm 10]
    omega
theorem decV_append (l m : List UInt8) : decV (l ++ m) = decV l * 10 ^ m.length + decV m := by
  have := foldV m (decV l)
  unfold decV at *
  rw [List.foldl_append]; exact this
theorem decV_snoc (l : List UInt8) (c : UInt8) : decV (l ++ [c]) = 10 * decV l + dv c := by simp [decV]
theorem decV_take_succ {l : List UInt8} {k : Nat} (h : k < l.length) : decV (l.take (k + 1)) = 10 * decV (l.take k) + dv (l.getD k 0) := by
  rw [List.take_succ_eq_append_getElem h, decV_snoc, List.getD_eq_getElem?_getD, List.getElem?_eq_getElem h]; rfl
theorem all_getD {l : List UInt8} (h : l.all isD = true) {k : Nat} (hk : k < l.length) : isD (l.getD k 0) = true := by
  rw [List.getD_eq_getElem?_getD, List.getElem?_eq_getElem hk]
  exact List.all_eq_true.1 h _ (List.getElem_mem hk)
theorem decV_lt : ∀ (l : List UInt8), l.all isD = true → decV l < 10 ^ l.length
  | [], _ => by simp [decV]
  | c :: m, h => by
    simp only [List.all_cons, Bool.and_eq_true] at h
    have h1 := dv_lt h.1
    have h2 := decV_lt m h.2
    have : decV (c :: m) = decV [c] * 10 ^ m.length + decV m := decV_append [c] m
    have h3 : decV [c] = dv c := by simp [decV]
    rw [this, h3, List.length_cons, Nat.pow_succ]
    have h4 : (dv c + 1) * 10 ^ m.length ≤ 10 * 10 ^ m.length := Nat.mul_le_mul_right _ h1
    rw [Nat.add_mul, Nat.one_mul] at h4
    rw [Nat.mul_comm (10 ^ m.length)]; omega
theorem all_take {l : List UInt8} (h : l.all isD = true) (k : Nat) : (l.take k).all isD = true := by
  rw [List.all_eq_true] at *; exact fun x hx => h x (List.mem_of_mem_take hx)
theorem all_drop {l : List UInt8} (h : l.all isD = true) (k : Nat) : (l.drop k).all isD = true := by
  rw [List.all_eq_true] at *; exact fun x hx => h x (List.mem_of_mem_drop hx)
/-- The digits of N, above the place. -/
theorem decV_div {l : List UInt8} (h : l.all isD = true) {e : Nat} (he : e ≤ l.length) : decV l / 10 ^ (l.length - e) = decV (l.take e) := by
  conv => lhs; rw [← List.take_append_drop e l, decV_append]
  have hl := decV_lt _ (all_drop h e)
  rw [List.length_drop] at hl
  rw [List.length_append, List.length_take, List.length_drop, Nat.min_eq_left he, show e + (l.length - e) - e = l.length - e by omega]
  rw [Nat.add_comm, Nat.add_mul_div_right _ _ (Nat.pow_pos (by decide)), Nat.div_eq_of_lt hl, Nat.zero_add]
theorem dig_chunk {l : List UInt8} (h : l.all isD = true) {e c : Nat} (he : e + 9 * c = l.length) : dig 1000000000 (decV l) c = decV (l.take e) % 1000000000 := by
  unfold dig
  have e1 : 1000000000 ^ c = 10 ^ (l.length - e) := by
    rw [show (1000000000 : Nat) = 10 ^ 9 by decide, ← Nat.pow_mul]; congr 1; omega
  rw [e1, decV_div h (by omega)]
theorem chunk {l : List UInt8} {e f n : Nat} (hf : f = e - 9) (hn : decV (l.take e) = decV (l.take f) * 10 ^ (e - f) + n) (hl : n < 10 ^ (e - f)) : decV (l.take e) % 1000000000 = n := by
  by_cases h9 : 9 ≤ e
  · have : e - f = 9 := by omega
    rw [this] at hn hl
    rw [hn, show (10 : Nat) ^ 9 = 1000000000 by decide, Nat.mul_comm, Nat.mul_add_mod, Nat.mod_eq_of_lt (by simpa using hl)]
  · have h0 : f = 0 := by omega
    subst h0
    rw [List.take_zero, decV_nil, Nat.zero_mul, Nat.zero_add] at hn
    rw [hn]
    refine Nat.mod_eq_of_lt (Nat.lt_of_lt_of_le hl ?_)
    rw [show (1000000000 : Nat) = 10 ^ 9 by decide]
    exact Nat.pow_le_pow_right (by decide) (by omega)

theorem dec_step {X Y p n z : Nat} (h : X = Y * p + n) : 10 * X + z = Y * (p * 10) + (10 * n + z) := by
  subst h
  rw [Nat.mul_add, ← Nat.mul_assoc Y, Nat.mul_comm 10 (Y * p), Nat.add_assoc]

/-! ### texts -/
def bodyS (s : List UInt8) : List UInt8 := if s.head? = some 45 then s.drop 1 else s
def negS (s : List UInt8) : Bool := decide (s.head? = some 45)
/-- What Check says. -/
def checkS (s : List UInt8) : Int :=
  if bodyS s = [] ∨ ((bodyS s).head? = some 48 ∧ s ≠ [48]) then 4 else if (bodyS s).all isD = true then (if 200 < (bodyS s).length then 80 else 0) else 4
theorem bodyS_len (s : List UInt8) : (bodyS s).length ≤ s.length := by unfold bodyS; split <;> simp
theorem bodyS_lt {s : List UInt8} : ((bodyS s).length < s.length) ↔ s.head? = some 45 := by
  unfold bodyS
  cases s with
  | nil => simp
  | cons c r => by_cases h : c = 45 <;> simp [h]
theorem check_digits {s : List UInt8} (h : checkS s = 0) : (bodyS s).all isD = true ∧ (bodyS s).length ≤ 200 ∧ bodyS s ≠ [] := by
  unfold checkS at h
  split at h
  · cases h
  · rename_i h1
    split at h
    · rename_i h2
      split at h
      · cases h
      · exact ⟨h2, by omega, fun e => h1 (Or.inl e)⟩
    · cases h
end Go.Num
