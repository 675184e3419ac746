/- Digits of a natural number to a base: what adding, taking away and multiplying digit by digit comes to. No program. -/
import Derived.Test.YtmmpbpfdnpgklaaDoorWk6
namespace Go.Num
open Go
set_option linter.unusedSimpArgs false
set_option linter.unusedVariables false

def dig (b S j : Nat) : Nat := S / b ^ j % b
def ndf (b S : Nat) : Nat → Nat
  | 0 => 0
  | k + 1 => if dig b S k = 0 then ndf b S k else k + 1
/-- How many digits: none of 0. -/
def nd (b S : Nat) : Nat := ndf b S S

theorem dig_lt {b : Nat} (hb : 2 ≤ b) (S j : Nat) : dig b S j < b := Nat.mod_lt _ (by omega)
theorem dig_zero {b S k : Nat} (h : S < b ^ k) {j : Nat} (hj : k ≤ j) (hb : 2 ≤ b) : dig b S j = 0 := by
  unfold dig
  rw [Nat.div_eq_of_lt (Nat.lt_of_lt_of_le h (Nat.pow_le_pow_right (by omega) hj)), Nat.zero_mod]
theorem lt_pow {b : Nat} (hb : 2 ≤ b) (S : Nat) : S < b ^ S := Nat.lt_of_lt_of_le Nat.lt_two_pow_self (Nat.pow_le_pow_left hb S)
theorem ndf_le (b S : Nat) : ∀ k, ndf b S k ≤ k
  | 0 => Nat.le_refl _
  | k + 1 => by unfold ndf; split; exact Nat.le_succ_of_le (ndf_le b S k); exact Nat.le_refl _
theorem ndf_mono {b S k : Nat} (h : S < b ^ k) (hb : 2 ≤ b) : ∀ {m}, k ≤ m → ndf b S m = ndf b S k := by
  intro m hm
  induction m with
  | zero => have : k = 0 := by omega
            subst this; rfl
  | succ m ih =>
    by_cases e : k = m + 1
    · rw [e]
    · have hk : k ≤ m := by omega
      rw [ndf, if_pos (dig_zero h hk hb), ih hk]
theorem ndf_eq {b S k : Nat} (h : S < b ^ k) (hb : 2 ≤ b) : ndf b S k = nd b S := by
  have h1 := ndf_mono h hb (Nat.le_max_left k S)
  have h2 := ndf_mono (lt_pow hb S) hb (Nat.le_max_right k S)
  rw [← h1, h2, nd]
theorem nd_le {b S k : Nat} (h : S < b ^ k) (hb : 2 ≤ b) : nd b S ≤ k := by rw [← ndf_eq h hb]; exact ndf_le b S k
theorem pow_div {b S k : Nat} (hb : 2 ≤ b) (h : S < b ^ (k + 1)) (hd : dig b S k = 0) : S < b ^ k := by
  unfold dig at hd
  have hp : 0 < b ^ k := Nat.pow_pos (by omega)
  have h1 : S / b ^ k < b := by rw [Nat.div_lt_iff_lt_mul hp]; rw [Nat.pow_succ] at h; rw [Nat.mul_comm]; exact h
  rw [Nat.mod_eq_of_lt h1] at hd
  exact (Nat.div_eq_zero_iff_lt hp).1 hd
theorem lt_ndf {b S : Nat} (hb : 2 ≤ b) : ∀ k, S < b ^ k → S < b ^ (ndf b S k)
  | 0, h => h
  | k + 1, h => by
    unfold ndf
    split
    · rename_i hd; exact lt_ndf hb k (pow_div hb h hd)
    · exact h
theorem lt_nd {b : Nat} (hb : 2 ≤ b) (S : Nat) : S < b ^ nd b S := lt_ndf hb S (lt_pow hb S)
theorem nd_zero (b : Nat) : nd b 0 = 0 := rfl
theorem nd_eq_zero {b S : Nat} (hb : 2 ≤ b) (h : nd b S = 0) : S = 0 := by
  have := lt_nd hb S
  rw [h, Nat.pow_zero] at this; omega
theorem ndf_top {b S : Nat} : ∀ k, ndf b S k ≠ 0 → dig b S (ndf b S k - 1) ≠ 0
  | 0, h => absurd rfl h
  | k + 1, h => by
    unfold ndf at h ⊢
    split
    · rename_i hd; rw [if_pos hd] at h; exact ndf_top k h
    · rename_i hd; simpa using hd
theorem nd_pos {b S : Nat} (hb : 2 ≤ b) (h : 0 < S) : 0 < nd b S := by
  rcases Nat.eq_zero_or_pos (nd b S) with e | e
  · have := nd_eq_zero hb e; omega
  · exact e
theorem le_pow_nd {b S : Nat} (hb : 2 ≤ b) (h : 0 < S) : b ^ (nd b S - 1) ≤ S := by
  have h1 := ndf_top (b := b) (S := S) S (by have := nd_pos hb h; unfold nd at this; omega)
  rcases Nat.lt_or_ge S (b ^ (nd b S - 1)) with hl | hl
  · exact absurd (dig_zero hl (Nat.le_refl _) hb) h1
  · exact hl
theorem nd_unique {b S k : Nat} (hb : 2 ≤ b) (h1 : S < b ^ k) (h2 : k = 0 ∨ dig b S (k - 1) ≠ 0) : nd b S = k := by
  rw [← ndf_eq h1 hb]
  cases k with
  | zero => rfl
  | succ k => rw [ndf, if_neg (by rcases h2 with h | h; omega; simpa using h)]

theorem mod_succ (b S k : Nat) : S % b ^ (k + 1) = S % b ^ k + b ^ k * dig b S k := by rw [Nat.pow_succ, Nat.mod_mul]; rfl
theorem mod_full {b S k : Nat} (h : S < b ^ k) : S % b ^ k = S := Nat.mod_eq_of_lt h
theorem dig_mod {b S k j : Nat} (hj : j < k) (hb : 2 ≤ b) : dig b (S % b ^ k) j = dig b S j := by
  unfold dig
  have e : b ^ k = b ^ j * (b * b ^ (k - j - 1)) := by rw [← Nat.pow_succ', ← Nat.pow_add]; congr 1; omega
  rw [e, Nat.mod_mul_right_div_self, Nat.mod_mul_right_mod]

/-- One step of a sum of digits: X is what lies below, d the digits of this place. -/
theorem step {b k X d : Nat} (hb : 2 ≤ b) : (X + b ^ k * d) / b ^ k = X / b ^ k + d ∧ (X + b ^ k * d) / b ^ (k + 1) = (X / b ^ k + d) / b := by
  have hp : 0 < b ^ k := Nat.pow_pos (by omega)
  have h1 : (X + b ^ k * d) / b ^ k = X / b ^ k + d := by rw [Nat.add_mul_div_left _ _ hp]
  exact ⟨h1, by rw [Nat.pow_succ, ← Nat.div_div_eq_div_mul, h1]⟩

/-- What is carried into the place k. -/
def cy (b A B k : Nat) : Nat := (A % b ^ k + B % b ^ k) / b ^ k
theorem cy_zero (b A B : Nat) : cy b A B 0 = 0 := by simp [cy, Nat.mod_one]
theorem cy_le {b A B k : Nat} (hb : 2 ≤ b) : cy b A B k ≤ 1 := by
  have hp : 0 < b ^ k := Nat.pow_pos (by omega)
  have h1 := Nat.mod_lt A hp
  have h2 := Nat.mod_lt B hp
  unfold cy
  have : (A % b ^ k + B % b ^ k) / b ^ k < 2 := by rw [Nat.div_lt_iff_lt_mul hp]; omega
  omega
theorem cy_step {b A B k : Nat} (hb : 2 ≤ b) : cy b A B (k + 1) = (cy b A B k + dig b A k + dig b B k) / b := by
  unfold cy
  rw [mod_succ b A, mod_succ b B]
  have e : A % b ^ k + b ^ k * dig b A k + (B % b ^ k + b ^ k * dig b B k) = (A % b ^ k + B % b ^ k) + b ^ k * (dig b A k + dig b B k) := by rw [Nat.mul_add]; omega
  rw [e, (step hb).2, Nat.add_assoc]
theorem dig_add {b A B k : Nat} (hb : 2 ≤ b) : (cy b A B k + dig b A k + dig b B k) % b = dig b (A + B) k := by
  have e : dig b (A + B) k = ((A % b ^ k + B % b ^ k) + b ^ k * (dig b A k + dig b B k)) / b ^ k % b := by
    rw [← dig_mod (Nat.lt_succ_self k) hb]
    unfold dig
    rw [show (A + B) % b ^ (k + 1) = (A % b ^ (k + 1) + B % b ^ (k + 1)) % b ^ (k + 1) from Nat.add_mod ..]
    rw [mod_succ b A, mod_succ b B]
    rw [show A % b ^ k + b ^ k * dig b A k + (B % b ^ k + b ^ k * dig b B k) = (A % b ^ k + B % b ^ k) + b ^ k * (dig b A k + dig b B k) by rw [Nat.mul_add]; omega]
    rw [Nat.pow_succ, Nat.mod_mul_right_div_self, Nat.mod_mod]
    rfl
  rw [e, (step hb).1, Nat.add_assoc]; rfl

/-- Times n: what is carried. -/
def cyT (b A n k : Nat) : Nat := (A % b ^ k * n) / b ^ k
theorem cyT_zero (b A n : Nat) : cyT b A n 0 = 0 := by simp [cyT, Nat.mod_one]
theorem cyT_le {b A n k : Nat} (hb : 2 ≤ b) (hn : 0 < n) : cyT b A n k < n := by
  have hp : 0 < b ^ k := Nat.pow_pos (by omega)
  have h1 := Nat.mod_lt A hp
  unfold cyT
  rw [Nat.div_lt_iff_lt_mul hp, Nat.mul_comm]
  exact Nat.mul_lt_mul_of_pos_left h1 hn
theorem cyT_step {b A n k : Nat} (hb : 2 ≤ b) : cyT b A n (k + 1) = (cyT b A n k + dig b A k * n) / b := by
  unfold cyT
  rw [mod_succ b A, Nat.add_mul, Nat.mul_assoc, (step hb).2]
theorem dig_mul {b A n k : Nat} (hb : 2 ≤ b) : (cyT b A n k + dig b A k * n) % b = dig b (A * n) k := by
  unfold cyT
  rw [← (step hb).1, ← Nat.mul_assoc, ← Nat.add_mul, ← mod_succ]
  rw [← dig_mod (Nat.lt_succ_self k) hb (S := A * n)]
  unfold dig
  rw [show A * n % b ^ (k + 1) = (A % b ^ (k + 1) * n) % b ^ (k + 1) from (by conv => rhs; rw [Nat.mul_mod, Nat.mod_mod, ← Nat.mul_mod])]
  rw [Nat.pow_succ, Nat.mod_mul_right_div_self, Nat.mod_mod]

/-- A row of a product, added: T + p B b^i: what is carried into the place k. -/
def cyM (b T p B i k : Nat) : Nat := (T % b ^ k + p * (B % b ^ (k - i)) * b ^ i) / b ^ k
theorem cyM_start {b T p B i : Nat} (hb : 2 ≤ b) : cyM b T p B i i = 0 := by
  have hp : 0 < b ^ i := Nat.pow_pos (by omega)
  unfold cyM
  rw [Nat.sub_self, Nat.pow_zero, Nat.mod_one, Nat.mul_zero, Nat.zero_mul, Nat.add_zero]
  exact Nat.div_eq_of_lt (Nat.mod_lt _ hp)
theorem rowsum {b T p B i k : Nat} (hk : i ≤ k) : T % b ^ (k + 1) + p * (B % b ^ (k + 1 - i)) * b ^ i = (T % b ^ k + p * (B % b ^ (k - i)) * b ^ i) + b ^ k * (dig b T k + p * dig b B (k - i)) := by
  rw [mod_succ b T, show k + 1 - i = (k - i) + 1 by omega, mod_succ b B]
  have e : b ^ k = b ^ (k - i) * b ^ i := by rw [← Nat.pow_add]; congr 1; omega
  rw [Nat.mul_add p, Nat.add_mul, Nat.mul_add (b ^ k)]
  have : p * (b ^ (k - i) * dig b B (k - i)) * b ^ i = b ^ k * (p * dig b B (k - i)) := by
    rw [e]; simp only [Nat.mul_assoc, Nat.mul_comm, Nat.mul_left_comm]
  omega
theorem cyM_step {b T p B i k : Nat} (hb : 2 ≤ b) (hk : i ≤ k) : cyM b T p B i (k + 1) = (cyM b T p B i k + (dig b T k + p * dig b B (k - i))) / b := by
  unfold cyM
  rw [rowsum hk, (step hb).2]
theorem cyM_le {b T p B i k : Nat} (hb : 2 ≤ b) (hk : i ≤ k) (hp : p < b) : cyM b T p B i k < b := by
  have h0 : 0 < b ^ k := Nat.pow_pos (by omega)
  have h1 := Nat.mod_lt T h0
  have h2 := Nat.mod_lt B (Nat.pow_pos (n := k - i) (show 0 < b by omega))
  have e : b ^ k = b ^ (k - i) * b ^ i := by rw [← Nat.pow_add]; congr 1; omega
  unfold cyM
  rw [Nat.div_lt_iff_lt_mul h0]
  have h3 : p * (B % b ^ (k - i)) * b ^ i ≤ p * b ^ k := by
    rw [e, Nat.mul_assoc]
    exact Nat.mul_le_mul_left _ (Nat.mul_le_mul_right _ (Nat.le_of_lt h2))
  have h4 : (p + 1) * b ^ k ≤ b * b ^ k := Nat.mul_le_mul_right _ hp
  rw [Nat.add_mul, Nat.one_mul] at h4
  omega
theorem dig_row {b T p B i k : Nat} (hb : 2 ≤ b) (hk : i ≤ k) : (cyM b T p B i k + (dig b T k + p * dig b B (k - i))) % b = dig b (T + p * B * b ^ i) k := by
  unfold cyM
  rw [← (step hb).1, ← rowsum hk]
  rw [← dig_mod (Nat.lt_succ_self k) hb (S := T + p * B * b ^ i)]
  unfold dig
  have e : b ^ (k + 1) = b ^ (k + 1 - i) * b ^ i := by rw [← Nat.pow_add]; congr 1; omega
  have h1 : (p * B * b ^ i) % b ^ (k + 1) = (p * (B % b ^ (k + 1 - i)) * b ^ i) % b ^ (k + 1) := by
    rw [e, Nat.mul_mod_mul_right, Nat.mul_mod_mul_right]
    congr 1
    conv => lhs; rw [Nat.mul_mod]
    conv => rhs; rw [Nat.mul_mod, Nat.mod_mod]
  have h2 : (T + p * B * b ^ i) % b ^ (k + 1) = (T % b ^ (k + 1) + p * (B % b ^ (k + 1 - i)) * b ^ i) % b ^ (k + 1) := by
    conv => lhs; rw [Nat.add_mod, h1]
    conv => rhs; rw [Nat.add_mod, Nat.mod_mod]
  rw [h2, Nat.pow_succ, Nat.mod_mul_right_div_self, Nat.mod_mod]
theorem dig_row_low {b T p B i k : Nat} (hb : 2 ≤ b) (hk : k < i) : dig b (T + p * B * b ^ i) k = dig b T k := by
  unfold dig
  have hp : 0 < b ^ k := Nat.pow_pos (by omega)
  have e : b ^ i = b ^ k * (b * b ^ (i - k - 1)) := by rw [← Nat.pow_succ', ← Nat.pow_add]; congr 1; omega
  rw [e, show p * B * (b ^ k * (b * b ^ (i - k - 1))) = b ^ k * (b * (p * B * b ^ (i - k - 1))) by simp only [Nat.mul_assoc, Nat.mul_comm, Nat.mul_left_comm], Nat.add_mul_div_left _ _ hp, Nat.add_mul_mod_self_left]

/-- What is borrowed at the place k. -/
def bw (b A B k : Nat) : Nat := if A % b ^ k < B % b ^ k then 1 else 0
theorem bw_zero (b A B : Nat) : bw b A B 0 = 0 := by simp [bw, Nat.mod_one]
theorem lt_place {b p a c x y : Nat} (hx : x < p) (hy : y < p) (h : x + p * a < y + p * c) : a < c ∨ (a = c ∧ x < y) := by
  rcases Nat.lt_trichotomy a c with h1 | h1 | h1
  · exact Or.inl h1
  · subst h1; exact Or.inr ⟨rfl, by omega⟩
  · have : p * (c + 1) ≤ p * a := Nat.mul_le_mul_left _ h1
    rw [Nat.mul_add, Nat.mul_one] at this; omega
theorem bw_step {b A B k : Nat} (hb : 2 ≤ b) : bw b A B (k + 1) = if (dig b A k : Int) - bw b A B k - dig b B k < 0 then 1 else 0 := by
  have hp : 0 < b ^ k := Nat.pow_pos (by omega)
  have hx := Nat.mod_lt A hp
  have hy := Nat.mod_lt B hp
  have hle : ∀ a c : Nat, a < c → b ^ k * a + b ^ k ≤ b ^ k * c := fun a c h => by
    have : b ^ k * (a + 1) ≤ b ^ k * c := Nat.mul_le_mul_left _ h
    rwa [Nat.mul_add, Nat.mul_one] at this
  unfold bw
  rw [mod_succ b A, mod_succ b B]
  generalize A % b ^ k = x at hx ⊢
  generalize B % b ^ k = y at hy ⊢
  by_cases h1 : x < y
  · rw [if_pos h1]
    by_cases h2 : dig b A k ≤ dig b B k
    · rw [if_pos (by rcases Nat.eq_or_lt_of_le h2 with h3 | h3; rw [h3]; omega; have := hle _ _ h3; omega), if_pos (by omega)]
    · rw [if_neg (by have := hle _ _ (show dig b B k < dig b A k by omega); omega), if_neg (by omega)]
  · rw [if_neg h1]
    by_cases h2 : dig b A k < dig b B k
    · rw [if_pos (by have := hle _ _ h2; omega), if_pos (by omega)]
    · rw [if_neg (by rcases Nat.eq_or_lt_of_le (Nat.le_of_not_lt h2) with h3 | h3; rw [h3]; omega; have := hle _ _ h3; omega), if_neg (by omega)]
theorem div_sub {p q r x y : Nat} (hp : 0 < p) (hx : x < p) (hy : y < p) (h : p * r + y ≤ p * q + x) : (p * q + x - (p * r + y)) / p + r + (if x < y then 1 else 0) = q := by
  have hrq : r ≤ q := by
    rcases Nat.lt_or_ge q r with h1 | h1
    · have := Nat.mul_le_mul_left p h1
      rw [Nat.mul_succ] at this; omega
    · exact h1
  obtain ⟨d, rfl⟩ := Nat.le.dest hrq
  rw [Nat.mul_add] at h ⊢
  by_cases h1 : x < y
  · rw [if_pos h1]
    cases d with
    | zero => omega
    | succ d =>
      rw [Nat.mul_succ] at h ⊢
      rw [show p * r + (p * d + p) + x - (p * r + y) = p * d + (p + x - y) by omega, Nat.mul_add_div hp, Nat.div_eq_of_lt (by omega)]; omega
  · rw [if_neg h1, show p * r + p * d + x - (p * r + y) = p * d + (x - y) by omega, Nat.mul_add_div hp, Nat.div_eq_of_lt (by omega)]; omega
theorem dig_sub {b A B k : Nat} (hb : 2 ≤ b) (hAB : B ≤ A) : (dig b (A - B) k : Int) = if (dig b A k : Int) - bw b A B k - dig b B k < 0 then (dig b A k : Int) - bw b A B k - dig b B k + b else (dig b A k : Int) - bw b A B k - dig b B k := by
  have hp : 0 < b ^ k := Nat.pow_pos (by omega)
  have ha := dig_lt hb A k
  have hb' := dig_lt hb B k
  have hw : bw b A B k ≤ 1 := by unfold bw; split <;> omega
  have hq : (A - B) / b ^ k + B / b ^ k + bw b A B k = A / b ^ k := by
    have e1 := Nat.div_add_mod A (b ^ k)
    have e2 := Nat.div_add_mod B (b ^ k)
    have := div_sub hp (Nat.mod_lt A hp) (Nat.mod_lt B hp) (q := A / b ^ k) (r := B / b ^ k) (by rw [e1, e2]; exact hAB)
    rw [e1, e2] at this
    exact this
  have e : ((dig b (A - B) k : Nat) : Int) = ((dig b A k : Int) - bw b A B k - dig b B k) % (b : Int) := by
    unfold dig
    generalize (A - B) / b ^ k = u at hq ⊢
    generalize A / b ^ k = x at hq ⊢
    generalize B / b ^ k = y at hq ⊢
    generalize bw b A B k = z at hq ⊢
    obtain rfl : x = u + y + z := hq.symm
    rw [Int.natCast_emod, Int.natCast_emod, Int.natCast_emod, show ((u : Nat) : Int) = ((u + y + z : Nat) : Int) - (z : Int) - (y : Int) by omega]
    rw [Int.sub_emod, Int.sub_emod ((u + y + z : Nat) : Int)]
    conv => rhs; rw [Int.sub_emod, Int.sub_emod (((u + y + z : Nat) : Int) % b), Int.emod_emod_of_dvd _ (Int.dvd_refl _), Int.emod_emod_of_dvd _ (Int.dvd_refl _)]
  rw [e]
  split
  · rename_i h
    rw [← Int.add_emod_right]
    exact Int.emod_eq_of_lt (by omega) (by omega)
  · rename_i h
    exact Int.emod_eq_of_lt (by omega) (by omega)

/-! ### cells -/
def mixL (k i : Nat) (f g : Nat → Nat) : List Value := (List.range k).map fun j => .int .i64 ((if j < i then f j else g j : Nat) : Int)
def cel (k : Nat) (f : Nat → Nat) : List Value := (List.range k).map fun j => .int .i64 ((f j : Nat) : Int)
theorem cel_len (k f) : (cel k f).length = k := by simp [cel]
theorem mixL_len (k i f g) : (mixL k i f g).length = k := by simp [mixL]
theorem cel_get {k f j} (h : j < k) : (cel k f)[j]? = some (.int .i64 ((f j : Nat) : Int)) := by simp [cel, h]
theorem mixL_get {k i f g j} (h : j < k) : (mixL k i f g)[j]? = some (.int .i64 ((if j < i then f j else g j : Nat) : Int)) := by simp [mixL, h]
theorem mixL_at {k i f g} (h : i < k) : (mixL k i f g)[i]? = some (.int .i64 ((g i : Nat) : Int)) := by rw [mixL_get h, if_neg (Nat.lt_irrefl _)]
theorem mixL_zero (k f g) : mixL k 0 f g = cel k g := by simp [mixL, cel]
theorem mixL_full (k f g) : mixL k k f g = cel k f := by
  unfold mixL cel
  refine List.map_congr_left fun j hj => ?_
  rw [if_pos (List.mem_range.1 hj)]
theorem mixL_set {k i f g} {x : Value} (h : x = .int .i64 ((f i : Nat) : Int)) : (mixL k i f g).set i x = mixL k (i + 1) f g := by
  refine List.ext_getElem? fun j => ?_
  by_cases hj : j < k
  · rw [mixL_get hj, List.getElem?_set, mixL_len]
    by_cases e : i = j
    · subst e; rw [if_pos rfl, if_pos hj, if_pos (Nat.lt_succ_self _), h]
    · rw [if_neg e, mixL_get hj]
      by_cases h1 : j < i
      · rw [if_pos h1, if_pos (by omega)]
      · rw [if_neg h1, if_neg (by omega)]
  · rw [List.getElem?_eq_none (by rw [List.length_set, mixL_len]; omega), List.getElem?_eq_none (by rw [mixL_len]; omega)]
theorem replicate_cel (k : Nat) : List.replicate k (Value.int .i64 0) = cel k (fun _ => 0) := by
  refine List.ext_getElem? fun j => ?_
  by_cases hj : j < k
  · rw [cel_get hj, List.getElem?_replicate, if_pos hj]; rfl
  · rw [List.getElem?_eq_none (by simpa using hj), List.getElem?_eq_none (by rw [cel_len]; omega)]
theorem cel_congr {k f g} (h : ∀ j, j < k → f j = g j) : cel k f = cel k g := by
  unfold cel
  exact List.map_congr_left fun j hj => by rw [h j (List.mem_range.1 hj)]
theorem cel_take {k m f} (h : m ≤ k) : (cel k f).take m = cel m f := by
  unfold cel
  rw [← List.map_take, List.take_range, Nat.min_eq_left h]
theorem cel_one {k f} : ∀ u ∈ cel k f, u.oneCell' = true := fun u hu => by
  obtain ⟨j, _, rfl⟩ := List.mem_map.1 hu; rfl
theorem mixL_one {k i f g} : ∀ u ∈ mixL k i f g, u.oneCell' = true := fun u hu => by
  obtain ⟨j, _, rfl⟩ := List.mem_map.1 hu; rfl
theorem cel_succ (k f) : cel (k + 1) f = cel k f ++ [.int .i64 ((f k : Nat) : Int)] := by simp [cel, List.range_succ]
theorem cel_cons (k f) : cel (k + 1) f = .int .i64 ((f 0 : Nat) : Int) :: cel k (fun j => f (j + 1)) := by
  unfold cel
  rw [List.range_succ_eq_map]; simp
end Go.Num
