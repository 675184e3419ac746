/- Division digit by digit: what the next digit of the quotient, and what is left, are. No program. -/
import Derived.Test.YtmmpbpfdnpgklaaDoorDig
namespace Go.Num
open Go
set_option linter.unusedSimpArgs false
set_option linter.unusedVariables false
/-- What is left behind the digits from j on. -/
def remJ (b A C j : Nat) : Nat := A / b ^ j % C
theorem top_split (b A j : Nat) : A / b ^ j = b * (A / b ^ (j + 1)) + dig b A j := by
  rw [Nat.pow_succ, ← Nat.div_div_eq_div_mul]; exact (Nat.div_add_mod _ _).symm
theorem rem_step {b A C j : Nat} : remJ b A C j = (remJ b A C (j + 1) * b + dig b A j) % C := by
  unfold remJ
  rw [top_split b A j, Nat.add_mod, Nat.mul_mod, Nat.add_mod (A / b ^ (j + 1) % C * b), Nat.mul_mod (A / b ^ (j + 1) % C), Nat.mod_mod, Nat.mul_comm (b % C)]
theorem dig_div {b A C j : Nat} (hb : 2 ≤ b) (hC : 0 < C) : dig b (A / C) j = (remJ b A C (j + 1) * b + dig b A j) / C := by
  have ha := dig_lt hb A j
  have hr : remJ b A C (j + 1) < C := Nat.mod_lt _ hC
  have hlt : (remJ b A C (j + 1) * b + dig b A j) / C < b := by
    rw [Nat.div_lt_iff_lt_mul hC]
    have h1 : (remJ b A C (j + 1) + 1) * b ≤ C * b := Nat.mul_le_mul_right _ hr
    rw [Nat.add_mul, Nat.one_mul] at h1
    rw [Nat.mul_comm b C]; omega
  have e : A / C / b ^ j = A / b ^ j / C := by rw [Nat.div_div_eq_div_mul, Nat.mul_comm, ← Nat.div_div_eq_div_mul]
  unfold dig at *
  rw [e]
  have h2 : A / b ^ j = C * (A / b ^ (j + 1) / C * b) + (remJ b A C (j + 1) * b + A / b ^ j % b) := by
    have h3 := top_split b A j
    have h4 := Nat.div_add_mod (A / b ^ (j + 1)) C
    unfold dig at h3
    unfold remJ
    conv => lhs; rw [h3]
    conv => lhs; arg 1; rw [← h4]
    rw [Nat.mul_add, Nat.add_assoc, Nat.mul_comm b (A / b ^ (j + 1) % C)]
    congr 1
    simp only [Nat.mul_comm, Nat.mul_left_comm, Nat.mul_assoc]
  conv => lhs; rw [h2]
  rw [Nat.mul_add_div hC, Nat.add_comm, Nat.add_mul_mod_self_right, Nat.mod_eq_of_lt hlt]
theorem rem_top {b A C k : Nat} (h : A < b ^ k) : remJ b A C k = 0 := by unfold remJ; rw [Nat.div_eq_of_lt h, Nat.zero_mod]
theorem rem_zero (b A C : Nat) : remJ b A C 0 = A % C := by unfold remJ; rw [Nat.pow_zero, Nat.div_one]
end Go.Num
