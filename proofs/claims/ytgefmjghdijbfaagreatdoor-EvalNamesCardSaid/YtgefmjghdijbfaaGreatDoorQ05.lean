/- Walks. -/
import Derived.Test.YtgefmjghdijbfaaGreatDoorQ04
import Derived.Laws.MakeOwn
import Derived.Laws.Slices
import Derived.Laws.Cover3
import Derived.RangeFuncFrom
import Derived.RangeFuncLeaves
import Derived.RangeFuncCalls
import Derived.TacticsIn
namespace Go.Num
open Go
set_option linter.unusedSimpArgs false
set_option linter.unusedVariables false
def dig (b S j : Nat) : Nat := S / b ^ j % b
def ndf (b S : Nat) : Nat → Nat
 | 0 => 0
 | k + 1 => if dig b S k = 0 then ndf b S k else k + 1
def nd (b S : Nat) : Nat := ndf b S S
theorem dig_lt {b : Nat} (hb : 2 ≤ b) (S j : Nat) : dig b S j < b := Nat.mod_lt _ (by omega)
theorem dig_zero {b S k : Nat} (h : S < b ^ k) {j : Nat} (hj : k ≤ j) (hb : 2 ≤ b) : dig b S j = 0 := by
 unfold dig
 rw [Nat.div_eq_of_lt (Nat.lt_of_lt_of_le h (Nat.pow_le_pow_right (by omega) hj)), Nat.zero_mod]
theorem lt_pow {b : Nat} (hb : 2 ≤ b) (S : Nat) : S < b ^ S := Nat.lt_of_lt_of_le Nat.lt_two_pow_self (Nat.pow_le_pow_left hb S)
theorem ndf_le (b S : Nat) : ∀ k, ndf b S k ≤ k
 | 0 => Nat.le_refl _
 | k + 1 => by unfold ndf; split; exact Nat.le_succ_of_le (ndf_le b S k); exact Nat.le_refl _
theorem ndf_mono {b S k : Nat} (h : S < b ^ k) (hb : 2 ≤ b) : ∀ {m}, k ≤ m → ndf b S m = ndf b S k := by
  intro m hm
  induction m with
  | zero => have : k = 0 := by omega
            subst this; rfl
  | succ m ih =>
    by_cases e : k = m + 1
    · rw [e]
    · have hk : k ≤ m := by omega
      rw [ndf, if_pos (dig_zero h hk hb), ih hk]
theorem ndf_eq {b S k : Nat} (h : S < b ^ k) (hb : 2 ≤ b) : ndf b S k = nd b S := by
 have h1 := ndf_mono h hb (Nat.le_max_left k S)
 have h2 := ndf_mono (lt_pow hb S) hb (Nat.le_max_right k S)
 rw [← h1, h2, nd]
theorem nd_le {b S k : Nat} (h : S < b ^ k) (hb : 2 ≤ b) : nd b S ≤ k := by rw [← ndf_eq h hb]; exact ndf_le b S k
theorem pow_div {b S k : Nat} (hb : 2 ≤ b) (h : S < b ^ (k + 1)) (hd : dig b S k = 0) : S < b ^ k := by
 unfold dig at hd
 have hp : 0 < b ^ k := Nat.pow_pos (by omega)
 have h1 : S / b ^ k < b := by rw [Nat.div_lt_iff_lt_mul hp]; rw [Nat.pow_succ] at h; rw [Nat.mul_comm]; exact h
 rw [Nat.mod_eq_of_lt h1] at hd
 exact (Nat.div_eq_zero_iff_lt hp).1 hd
theorem lt_ndf {b S : Nat} (hb : 2 ≤ b) : ∀ k, S < b ^ k → S < b ^ (ndf b S k)
 | 0, h => h
 | k + 1, h => by
  unfold ndf
  split
  ·rename_i hd; exact lt_ndf hb k (pow_div hb h hd)
  ·exact h
theorem lt_nd {b : Nat} (hb : 2 ≤ b) (S : Nat) : S < b ^ nd b S := lt_ndf hb S (lt_pow hb S)
theorem nd_zero (b : Nat) : nd b 0 = 0 := rfl
theorem nd_eq_zero {b S : Nat} (hb : 2 ≤ b) (h : nd b S = 0) : S = 0 := by
 have := lt_nd hb S
 rw [h, Nat.pow_zero] at this; omega
theorem ndf_top {b S : Nat} : ∀ k, ndf b S k ≠ 0 → dig b S (ndf b S k - 1) ≠ 0
 | 0, h => absurd rfl h
 | k + 1, h => by
  unfold ndf at h ⊢
  split
  ·rename_i hd; rw [if_pos hd] at h; exact ndf_top k h
  ·rename_i hd; simpa using hd
theorem nd_pos {b S : Nat} (hb : 2 ≤ b) (h : 0 < S) : 0 < nd b S := by
 rcases Nat.eq_zero_or_pos (nd b S) with e | e
 ·have := nd_eq_zero hb e; omega
 ·exact e
theorem le_pow_nd {b S : Nat} (hb : 2 ≤ b) (h : 0 < S) : b ^ (nd b S - 1) ≤ S := by
 have h1 := ndf_top (b := b) (S := S) S (by have := nd_pos hb h; unfold nd at this; omega)
 rcases Nat.lt_or_ge S (b ^ (nd b S - 1)) with hl | hl
 ·exact absurd (dig_zero hl (Nat.le_refl _) hb) h1
 ·exact hl
theorem mod_succ (b S k : Nat) : S % b ^ (k + 1) = S % b ^ k + b ^ k * dig b S k := by rw [Nat.pow_succ, Nat.mod_mul]; rfl
theorem dig_mod {b S k j : Nat} (hj : j < k) (hb : 2 ≤ b) : dig b (S % b ^ k) j = dig b S j := by
 unfold dig
 have e : b ^ k = b ^ j * (b * b ^ (k - j - 1)) := by rw [← Nat.pow_succ', ← Nat.pow_add]; congr 1; omega
 rw [e, Nat.mod_mul_right_div_self, Nat.mod_mul_right_mod]
theorem step {b k X d : Nat} (hb : 2 ≤ b) : (X + b ^ k * d) / b ^ k = X / b ^ k + d ∧ (X + b ^ k * d) / b ^ (k + 1) = (X / b ^ k + d) / b := by
 have hp : 0 < b ^ k := Nat.pow_pos (by omega)
 have h1 : (X + b ^ k * d) / b ^ k = X / b ^ k + d := by rw [Nat.add_mul_div_left _ _ hp]
 exact ⟨h1, by rw [Nat.pow_succ, ← Nat.div_div_eq_div_mul, h1]⟩
def cy (b A B k : Nat) : Nat := (A % b ^ k + B % b ^ k) / b ^ k
theorem cy_zero (b A B : Nat) : cy b A B 0 = 0 := by simp [cy, Nat.mod_one]
theorem cy_le {b A B k : Nat} (hb : 2 ≤ b) : cy b A B k ≤ 1 := by
 have hp : 0 < b ^ k := Nat.pow_pos (by omega)
 have h1 := Nat.mod_lt A hp
 have h2 := Nat.mod_lt B hp
 unfold cy
 have : (A % b ^ k + B % b ^ k) / b ^ k < 2 := by rw [Nat.div_lt_iff_lt_mul hp]; omega
 omega
theorem cy_step {b A B k : Nat} (hb : 2 ≤ b) : cy b A B (k + 1) = (cy b A B k + dig b A k + dig b B k) / b := by
 unfold cy
 rw [mod_succ b A, mod_succ b B]
 have e : A % b ^ k + b ^ k * dig b A k + (B % b ^ k + b ^ k * dig b B k) = (A % b ^ k + B % b ^ k) + b ^ k * (dig b A k + dig b B k) := by rw [Nat.mul_add]; omega
 rw [e, (step hb).2, Nat.add_assoc]
theorem dig_add {b A B k : Nat} (hb : 2 ≤ b) : (cy b A B k + dig b A k + dig b B k) % b = dig b (A + B) k := by
 have e : dig b (A + B) k = ((A % b ^ k + B % b ^ k) + b ^ k * (dig b A k + dig b B k)) / b ^ k % b := by
  rw [← dig_mod (Nat.lt_succ_self k) hb]
  unfold dig
  rw [show (A + B) % b ^ (k + 1) = (A % b ^ (k + 1) + B % b ^ (k + 1)) % b ^ (k + 1) from Nat.add_mod ..]
  rw [mod_succ b A, mod_succ b B]
  rw [show A % b ^ k + b ^ k * dig b A k + (B % b ^ k + b ^ k * dig b B k) = (A % b ^ k + B % b ^ k) + b ^ k * (dig b A k + dig b B k) by rw [Nat.mul_add]; omega]
  rw [Nat.pow_succ, Nat.mod_mul_right_div_self, Nat.mod_mod]
  rfl
 rw [e, (step hb).1, Nat.add_assoc]; rfl
def cyT (b A n k : Nat) : Nat := (A % b ^ k * n) / b ^ k
theorem cyT_zero (b A n : Nat) : cyT b A n 0 = 0 := by simp [cyT, Nat.mod_one]
theorem cyT_le {b A n k : Nat} (hb : 2 ≤ b) (hn : 0 < n) : cyT b A n k < n := by
 have hp : 0 < b ^ k := Nat.pow_pos (by omega)
 have h1 := Nat.mod_lt A hp
 unfold cyT
 rw [Nat.div_lt_iff_lt_mul hp, Nat.mul_comm]
 exact Nat.mul_lt_mul_of_pos_left h1 hn
theorem cyT_step {b A n k : Nat} (hb : 2 ≤ b) : cyT b A n (k + 1) = (cyT b A n k + dig b A k * n) / b := by
 unfold cyT
 rw [mod_succ b A, Nat.add_mul, Nat.mul_assoc, (step hb).2]
theorem dig_mul {b A n k : Nat} (hb : 2 ≤ b) : (cyT b A n k + dig b A k * n) % b = dig b (A * n) k := by
 unfold cyT
 rw [← (step hb).1, ← Nat.mul_assoc, ← Nat.add_mul, ← mod_succ]
 rw [← dig_mod (Nat.lt_succ_self k) hb (S := A * n)]
 unfold dig
 rw [show A * n % b ^ (k + 1) = (A % b ^ (k + 1) * n) % b ^ (k + 1) from (by conv => rhs; rw [Nat.mul_mod, Nat.mod_mod, ← Nat.mul_mod])]
 rw [Nat.pow_succ, Nat.mod_mul_right_div_self, Nat.mod_mod]
def cyM (b T p B i k : Nat) : Nat := (T % b ^ k + p * (B % b ^ (k - i)) * b ^ i) / b ^ k
theorem cyM_start {b T p B i : Nat} (hb : 2 ≤ b) : cyM b T p B i i = 0 := by
 have hp : 0 < b ^ i := Nat.pow_pos (by omega)
 unfold cyM
 rw [Nat.sub_self, Nat.pow_zero, Nat.mod_one, Nat.mul_zero, Nat.zero_mul, Nat.add_zero]
 exact Nat.div_eq_of_lt (Nat.mod_lt _ hp)
theorem rowsum {b T p B i k : Nat} (hk : i ≤ k) : T % b ^ (k + 1) + p * (B % b ^ (k + 1 - i)) * b ^ i = (T % b ^ k + p * (B % b ^ (k - i)) * b ^ i) + b ^ k * (dig b T k + p * dig b B (k - i)) := by
 rw [mod_succ b T, show k + 1 - i = (k - i) + 1 by omega, mod_succ b B]
 have e : b ^ k = b ^ (k - i) * b ^ i := by rw [← Nat.pow_add]; congr 1; omega
 rw [Nat.mul_add p, Nat.add_mul, Nat.mul_add (b ^ k)]
 have : p * (b ^ (k - i) * dig b B (k - i)) * b ^ i = b ^ k * (p * dig b B (k - i)) := by
  rw [e]; simp only [Nat.mul_assoc, Nat.mul_comm, Nat.mul_left_comm]
 omega
theorem cyM_step {b T p B i k : Nat} (hb : 2 ≤ b) (hk : i ≤ k) : cyM b T p B i (k + 1) = (cyM b T p B i k + (dig b T k + p * dig b B (k - i))) / b := by
 unfold cyM
 rw [rowsum hk, (step hb).2]
theorem cyM_le {b T p B i k : Nat} (hb : 2 ≤ b) (hk : i ≤ k) (hp : p < b) : cyM b T p B i k < b := by
 have h0 : 0 < b ^ k := Nat.pow_pos (by omega)
 have h1 := Nat.mod_lt T h0
 have h2 := Nat.mod_lt B (Nat.pow_pos (n := k - i) (show 0 < b by omega))
 have e : b ^ k = b ^ (k - i) * b ^ i := by rw [← Nat.pow_add]; congr 1; omega
 unfold cyM
 rw [Nat.div_lt_iff_lt_mul h0]
 have h3 : p * (B % b ^ (k - i)) * b ^ i ≤ p * b ^ k := by
  rw [e, Nat.mul_assoc]
  exact Nat.mul_le_mul_left _ (Nat.mul_le_mul_right _ (Nat.le_of_lt h2))
 have h4 : (p + 1) * b ^ k ≤ b * b ^ k := Nat.mul_le_mul_right _ hp
 rw [Nat.add_mul, Nat.one_mul] at h4
 omega
theorem dig_row {b T p B i k : Nat} (hb : 2 ≤ b) (hk : i ≤ k) : (cyM b T p B i k + (dig b T k + p * dig b B (k - i))) % b = dig b (T + p * B * b ^ i) k := by
 unfold cyM
 rw [← (step hb).1, ← rowsum hk]
 rw [← dig_mod (Nat.lt_succ_self k) hb (S := T + p * B * b ^ i)]
 unfold dig
 have e : b ^ (k + 1) = b ^ (k + 1 - i) * b ^ i := by rw [← Nat.pow_add]; congr 1; omega
 have h1 : (p * B * b ^ i) % b ^ (k + 1) = (p * (B % b ^ (k + 1 - i)) * b ^ i) % b ^ (k + 1) := by
  rw [e, Nat.mul_mod_mul_right, Nat.mul_mod_mul_right]
  congr 1
  conv => lhs; rw [Nat.mul_mod]
  conv => rhs; rw [Nat.mul_mod, Nat.mod_mod]
 have h2 : (T + p * B * b ^ i) % b ^ (k + 1) = (T % b ^ (k + 1) + p * (B % b ^ (k + 1 - i)) * b ^ i) % b ^ (k + 1) := by
  conv => lhs; rw [Nat.add_mod, h1]
  conv => rhs; rw [Nat.add_mod, Nat.mod_mod]
 rw [h2, Nat.pow_succ, Nat.mod_mul_right_div_self, Nat.mod_mod]
theorem dig_row_low {b T p B i k : Nat} (hb : 2 ≤ b) (hk : k < i) : dig b (T + p * B * b ^ i) k = dig b T k := by
 unfold dig
 have hp : 0 < b ^ k := Nat.pow_pos (by omega)
 have e : b ^ i = b ^ k * (b * b ^ (i - k - 1)) := by rw [← Nat.pow_succ', ← Nat.pow_add]; congr 1; omega
 rw [e, show p * B * (b ^ k * (b * b ^ (i - k - 1))) = b ^ k * (b * (p * B * b ^ (i - k - 1))) by simp only [Nat.mul_assoc, Nat.mul_comm, Nat.mul_left_comm], Nat.add_mul_div_left _ _ hp, Nat.add_mul_mod_self_left]
def bw (b A B k : Nat) : Nat := if A % b ^ k < B % b ^ k then 1 else 0
theorem bw_zero (b A B : Nat) : bw b A B 0 = 0 := by simp [bw, Nat.mod_one]
theorem bw_step {b A B k : Nat} (hb : 2 ≤ b) : bw b A B (k + 1) = if (dig b A k : Int) - bw b A B k - dig b B k < 0 then 1 else 0 := by
 have hp : 0 < b ^ k := Nat.pow_pos (by omega)
 have hx := Nat.mod_lt A hp
 have hy := Nat.mod_lt B hp
 have hle : ∀ a c : Nat, a < c → b ^ k * a + b ^ k ≤ b ^ k * c := fun a c h => by
  have : b ^ k * (a + 1) ≤ b ^ k * c := Nat.mul_le_mul_left _ h
  rwa [Nat.mul_add, Nat.mul_one] at this
 unfold bw
 rw [mod_succ b A, mod_succ b B]
 generalize A % b ^ k = x at hx ⊢
 generalize B % b ^ k = y at hy ⊢
 by_cases h1 : x < y
 ·rw [if_pos h1]
  by_cases h2 : dig b A k ≤ dig b B k
  ·rw [if_pos (by rcases Nat.eq_or_lt_of_le h2 with h3 | h3; rw [h3]; omega; have := hle _ _ h3; omega), if_pos (by omega)]
  ·rw [if_neg (by have := hle _ _ (show dig b B k < dig b A k by omega); omega), if_neg (by omega)]
 ·rw [if_neg h1]
  by_cases h2 : dig b A k < dig b B k
  ·rw [if_pos (by have := hle _ _ h2; omega), if_pos (by omega)]
  ·rw [if_neg (by rcases Nat.eq_or_lt_of_le (Nat.le_of_not_lt h2) with h3 | h3; rw [h3]; omega; have := hle _ _ h3; omega), if_neg (by omega)]
theorem div_sub {p q r x y : Nat} (hp : 0 < p) (hx : x < p) (hy : y < p) (h : p * r + y ≤ p * q + x) : (p * q + x - (p * r + y)) / p + r + (if x < y then 1 else 0) = q := by
 have hrq : r ≤ q := by
  rcases Nat.lt_or_ge q r with h1 | h1
  ·have := Nat.mul_le_mul_left p h1
   rw [Nat.mul_succ] at this; omega
  ·exact h1
 obtain ⟨d, rfl⟩ := Nat.le.dest hrq
 rw [Nat.mul_add] at h ⊢
 by_cases h1 : x < y
 ·rw [if_pos h1]
  cases d with
  | zero => omega
  | succ d =>
   rw [Nat.mul_succ] at h ⊢
   rw [show p * r + (p * d + p) + x - (p * r + y) = p * d + (p + x - y) by omega, Nat.mul_add_div hp, Nat.div_eq_of_lt (by omega)]; omega
 ·rw [if_neg h1, show p * r + p * d + x - (p * r + y) = p * d + (x - y) by omega, Nat.mul_add_div hp, Nat.div_eq_of_lt (by omega)]; omega
theorem dig_sub {b A B k : Nat} (hb : 2 ≤ b) (hAB : B ≤ A) : (dig b (A - B) k : Int) = if (dig b A k : Int) - bw b A B k - dig b B k < 0 then (dig b A k : Int) - bw b A B k - dig b B k + b else (dig b A k : Int) - bw b A B k - dig b B k := by
 have hp : 0 < b ^ k := Nat.pow_pos (by omega)
 have ha := dig_lt hb A k
 have hb' := dig_lt hb B k
 have hw : bw b A B k ≤ 1 := by unfold bw; split <;> omega
 have hq : (A - B) / b ^ k + B / b ^ k + bw b A B k = A / b ^ k := by
  have e1 := Nat.div_add_mod A (b ^ k)
  have e2 := Nat.div_add_mod B (b ^ k)
  have := div_sub hp (Nat.mod_lt A hp) (Nat.mod_lt B hp) (q := A / b ^ k) (r := B / b ^ k) (by rw [e1, e2]; exact hAB)
  rw [e1, e2] at this
  exact this
 have e : ((dig b (A - B) k : Nat) : Int) = ((dig b A k : Int) - bw b A B k - dig b B k) % (b : Int) := by
  unfold dig
  generalize (A - B) / b ^ k = u at hq ⊢
  generalize A / b ^ k = x at hq ⊢
  generalize B / b ^ k = y at hq ⊢
  generalize bw b A B k = z at hq ⊢
  obtain rfl : x = u + y + z := hq.symm
  rw [Int.natCast_emod, Int.natCast_emod, Int.natCast_emod, show ((u : Nat) : Int) = ((u + y + z : Nat) : Int) - (z : Int) - (y : Int) by omega]
  rw [Int.sub_emod, Int.sub_emod ((u + y + z : Nat) : Int)]
  conv => rhs; rw [Int.sub_emod, Int.sub_emod (((u + y + z : Nat) : Int) % b), Int.emod_emod_of_dvd _ (Int.dvd_refl _), Int.emod_emod_of_dvd _ (Int.dvd_refl _)]
 rw [e]
 split
 ·rename_i h
  rw [← Int.add_emod_right]
  exact Int.emod_eq_of_lt (by omega) (by omega)
 ·rename_i h
  exact Int.emod_eq_of_lt (by omega) (by omega)
def mixL (k i : Nat) (f g : Nat → Nat) : List Value := (List.range k).map fun j => .int .i64 ((if j < i then f j else g j : Nat) : Int)
def cel (k : Nat) (f : Nat → Nat) : List Value := (List.range k).map fun j => .int .i64 ((f j : Nat) : Int)
theorem cel_len (k f) : (cel k f).length = k := by simp [cel]
theorem mixL_len (k i f g) : (mixL k i f g).length = k := by simp [mixL]
theorem cel_get {k f j} (h : j < k) : (cel k f)[j]? = some (.int .i64 ((f j : Nat) : Int)) := by simp [cel, h]
theorem mixL_get {k i f g j} (h : j < k) : (mixL k i f g)[j]? = some (.int .i64 ((if j < i then f j else g j : Nat) : Int)) := by simp [mixL, h]
theorem mixL_at {k i f g} (h : i < k) : (mixL k i f g)[i]? = some (.int .i64 ((g i : Nat) : Int)) := by rw [mixL_get h, if_neg (Nat.lt_irrefl _)]
theorem mixL_zero (k f g) : mixL k 0 f g = cel k g := by simp [mixL, cel]
theorem mixL_full (k f g) : mixL k k f g = cel k f := by
 unfold mixL cel
 refine List.map_congr_left fun j hj => ?_
 rw [if_pos (List.mem_range.1 hj)]
theorem mixL_set {k i f g} {x : Value} (h : x = .int .i64 ((f i : Nat) : Int)) : (mixL k i f g).set i x = mixL k (i + 1) f g := by
 refine List.ext_getElem? fun j => ?_
 by_cases hj : j < k
 ·rw [mixL_get hj, List.getElem?_set, mixL_len]
  by_cases e : i = j
  ·subst e; rw [if_pos rfl, if_pos hj, if_pos (Nat.lt_succ_self _), h]
  ·rw [if_neg e, mixL_get hj]
   by_cases h1 : j < i
   ·rw [if_pos h1, if_pos (by omega)]
   ·rw [if_neg h1, if_neg (by omega)]
 ·rw [List.getElem?_eq_none (by rw [List.length_set, mixL_len]; omega), List.getElem?_eq_none (by rw [mixL_len]; omega)]
theorem replicate_cel (k : Nat) : List.replicate k (Value.int .i64 0) = cel k (fun _ => 0) := by
 refine List.ext_getElem? fun j => ?_
 by_cases hj : j < k
 ·rw [cel_get hj, List.getElem?_replicate, if_pos hj]; rfl
 ·rw [List.getElem?_eq_none (by simpa using hj), List.getElem?_eq_none (by rw [cel_len]; omega)]
theorem cel_congr {k f g} (h : ∀ j, j < k → f j = g j) : cel k f = cel k g := by
 unfold cel
 exact List.map_congr_left fun j hj => by rw [h j (List.mem_range.1 hj)]
theorem cel_take {k m f} (h : m ≤ k) : (cel k f).take m = cel m f := by
 unfold cel
 rw [← List.map_take, List.take_range, Nat.min_eq_left h]
theorem cel_one {k f} : ∀ u ∈ cel k f, u.oneCell' = true := fun u hu => by
 obtain ⟨j, _, rfl⟩ := List.mem_map.1 hu; rfl
theorem cel_succ (k f) : cel (k + 1) f = cel k f ++ [.int .i64 ((f k : Nat) : Int)] := by simp [cel, List.range_succ]
theorem cel_cons (k f) : cel (k + 1) f = .int .i64 ((f 0 : Nat) : Int) :: cel k (fun j => f (j + 1)) := by
 unfold cel
 rw [List.range_succ_eq_map]; simp
end Go.Num
namespace Go.Wk
open Go
set_option linter.unusedSimpArgs false
set_option linter.unusedVariables false
section
variable {P : Program} {n : Sz} {L : List (Nat × Value)} {w0 : World} {F0 : Heap} {K0 : List Nat} {F : Heap} {G : List Grp} {a : Act} {w : World} {o o2 : Oper} {ops : Array Oper} {rest : List Oper} {Q : Exit → Act → World → Prop}
theorem wanted_undef (S : St n L w0 F0 K0 F G a w) {j dj : Nat} {want : Bool} (hg : o.guard = some (j, want)) (hj : (ops[j]?).bind (·.dst) = some dj) (hb : look L dj = some undef) : Region.wanted o (yielded ops a.tmps) = false := by
 have hyv : yielded ops a.tmps j = none := by simp [yielded, hj, S.fr.get _ _ hb, undef]
 simp [Region.wanted, hg, hyv]
theorem wpl_skipU {j dj d : Nat} {want : Bool} (S : St n L w0 F0 K0 F G a w) (hg : o.guard = some (j, want)) (hj : (ops[j]?).bind (·.dst) = some dj) (hb : look L dj = some undef) (hd : o.dst = some d) (hn : Nat.blt d n.sz = true)
  (k : ∀ a', St n ((d, undef) :: L) w0 F0 K0 F G a' w → wpList P ops Q rest a' w) : wpList P ops Q (o :: rest) a w := by
 unfold wpList
 rw [wanted_undef S hg hj hb, if_neg (by simp), hd]
 exact k _ (S.put hn undef)
theorem sv_eqB {x y : Operand} {p q : Bool} {t yt : TypeId} [ht : Und P t .bool] (S : St n L w0 F0 K0 F G a w) (ho : o.op = .binOp .eql t x y yt) (hx : ev L x = some (.bool p)) (hy : ev L y = some (.bool q)) : SV P o a w (.bool (p == q)) := by
 have h1 : (eqGuard .eql t x y (.bool p) (.bool q)).run P w = .ok () w := by rw [eqGuard_at_bool]; rfl
 have h2 : (binOp .eql t (.bool p) (.bool q)).run P w = .ok (.bool (p == q)) w := run_eql_bool w t p q ht.h
 unfold SV execOp
 rw [ho]
 simp [S.fr.eval hx, S.fr.eval hy, h1, h2]
theorem sv_neB {x y : Operand} {p q : Bool} {t yt : TypeId} [ht : Und P t .bool] (S : St n L w0 F0 K0 F G a w) (ho : o.op = .binOp .neq t x y yt) (hx : ev L x = some (.bool p)) (hy : ev L y = some (.bool q)) : SV P o a w (.bool (p != q)) := by
 have h1 : (eqGuard .neq t x y (.bool p) (.bool q)).run P w = .ok () w := by rw [eqGuard_at_bool]; rfl
 have h2 : (binOp .neq t (.bool p) (.bool q)).run P w = .ok (.bool (p != q)) w := run_neq_bool w t p q ht.h
 unfold SV execOp
 rw [ho]
 simp [S.fr.eval hx, S.fr.eval hy, h1, h2]
theorem sv_eqSlNil {x y : Operand} {ao : Option Addr} {m c : Nat} {t yt e : TypeId} [ht : Und P t (.slice e)] (S : St n L w0 F0 K0 F G a w) (ho : o.op = .binOp .eql t x y yt) (hx : ev L x = some (.slice ao m c)) (hy : ev L y = some (.slice none 0 0)) : SV P o a w (.bool ao.isNone) := by
 unfold SV execOp
 rw [ho]
 have h1 : (eqGuard .eql t x y (.slice ao m c) (.slice none 0 0)).run P w = .ok () w := rfl
 simp [S.fr.eval hx, S.fr.eval hy, h1, binOp, run_equal_slice_nil w t e ao m c ht.h]
theorem sv_maxN {x y : Operand} {p q : Nat} {k : IntKind} {ts : Array TypeId} (S : St n L w0 F0 K0 F G a w) (ho : o.op = .call { callee := .builtin .max, args := #[x, y], argTypes := ts }) (hx : ev L x = some (.int k (Int.ofNat p))) (hy : ev L y = some (.int k (Int.ofNat q))) :
  SV P o a w (.int k ((max p q : Nat) : Int)) := by
 have e : (if (q : Int) > p then (q : Int) else p) = ((max p q : Nat) : Int) := by split <;> omega
 unfold SV execOp
 rw [ho]
 simp [resolve, invoke, builtin, S.fr.eval hx, S.fr.eval hy, Builtin.max_, Builtin.max2]
 rw [← e]
 split <;> split <;> first | rfl | omega
theorem sv_max0 {x y : Operand} {q : Int} {k : IntKind} {ts : Array TypeId} (S : St n L w0 F0 K0 F G a w) (ho : o.op = .call { callee := .builtin .max, args := #[x, y], argTypes := ts }) (hx : ev L x = some (.int k 0)) (hy : ev L y = some (.int k q)) :
  SV P o a w (.int k ((q.toNat : Nat) : Int)) := by
 have e : (if q > 0 then q else 0) = ((q.toNat : Nat) : Int) := by split <;> omega
 unfold SV execOp
 rw [ho]
 simp [resolve, invoke, builtin, S.fr.eval hx, S.fr.eval hy, Builtin.max_, Builtin.max2]
 split <;> omega
theorem sv_indexA {x y : Operand} {vs : List Value} {k : IntKind} {i m by_ : Nat} {t e : TypeId} {z u : Value} [ht : Und P t (.array m e)] [he : One P e] [hi : Inf P e z 1 by_] (S : St n L w0 F0 K0 F G a w) (ho : o.op = .index t x y) (hx : ev L x = some (.agg ⟨vs⟩)) (hy : ev L y = some (.int k (Int.ofNat i)))
  (hlt : i < m) (hv : vs[i]? = some u) : SV P o a w u := by
 have h2 : (part e ⟨vs⟩ (i * 1)).run P w = .ok u w := by
  simp [part, isAgg_notAgg he, hv]
 unfold SV execOp
 rw [ho]
 simp only [Nat.mul_one] at h2
 simp [S.fr.eval hx, S.fr.eval hy, Instr.index, asIntOf, run_underlying ht.h, run_sizeOf hi, hlt, h2]
theorem sv_subN {x y : Operand} {p q : Nat} {t yt : TypeId} (S : St n L w0 F0 K0 F G a w) (ho : o.op = .binOp .sub t x y yt) (hx : ev L x = some (.int .i64 (Int.ofNat p))) (hy : ev L y = some (.int .i64 (Int.ofNat q)))
  (hb : q ≤ p ∧ p ≤ 9223372036854775807) : SV P o a w (.int .i64 ((p - q : Nat) : Int)) := by
 have := sv_sub (P := P) S ho hx hy (by simp only [Int.ofNat_eq_natCast]; omega)
 rw [show (Int.ofNat p - Int.ofNat q) = ((p - q : Nat) : Int) by simp only [Int.ofNat_eq_natCast]; omega] at this
 exact this
theorem sv_sliceSl_hm {x y z : Operand} {ao : Option Addr} {m c i j : Nat} {k k' : IntKind} {t e : TypeId} {zv : Value} {sz by_ : Nat} [ht : Und P t (.slice e)] [hi : Inf P e zv sz by_] (S : St n L w0 F0 K0 F G a w) (ho : o.op = .slice t x none (some y) (some z))
  (hx : ev L x = some (.slice ao m c)) (hy : ev L y = some (.int k (Int.ofNat i))) (hz : ev L z = some (.int k' (Int.ofNat j))) (h1 : i ≤ j) (h2 : j ≤ c) : SV P o a w (.slice ao i j) := by
 have hb : (Instr.sliceBounds true m c none (some (.int k (Int.ofNat i))) (some (.int k' (Int.ofNat j)))).run P w = .ok (0, i, j) w := by
  simp [Instr.sliceBounds, Instr.sliceBound, asIntOf, h1, h2]
 have ha : ao.map (fun a : Addr => a.add (0 * sz)) = ao := by cases ao <;> simp [Addr.add]
 unfold SV execOp
 rw [ho]
 simp only [Option.map_none, Option.map_some, S.fr.eval hx, S.fr.eval hy, S.fr.eval hz]
 simp only [Instr.sliceAt, Instr.slice, Sem.run_bind, run_underlying ht.h, Result.andThen_ok, hb, run_sizeOf hi, ha]
 simp
theorem madeCells_one (z : Value) (k : Nat) : (madeCells #[z] k).toList = List.replicate k z := by
 simp only [madeCells, Array.toList_map, Array.toList_range]
 refine List.ext_getElem (by simp) fun i h1 h2 => ?_
 simp [Nat.mod_one]
theorem wpl_makeSlice {d : Nat} {t e : TypeId} {x y : Operand} {z : Value} {by_ q : Nat} {k1 k2 : IntKind} [ht : Und P t (.slice e)] [hi : Inf P e z 1 by_] (S : St n L w0 F0 K0 F G a w) (hg : o.guard = none) (hd : o.dst = some d) (hn : Nat.blt d n.sz = true)
  (ho : o.op = .makeSlice t x y) (hx : ev L x = some (.int k1 (Int.ofNat q))) (hy : ev L y = some (.int k2 (Int.ofNat q))) (hz : z.cells = #[z]) (hb : by_ * q ≤ 281474976710656) (h63 : q ≤ 9223372036854775807)
  (k : ∀ b a' w', OwnS e 1 (.slice (some ⟨b, 0, none⟩) q q) q (List.replicate q z) [(b, .cells ⟨List.replicate q z⟩ e (0, 0))] → St n ((d, .slice (some ⟨b, 0, none⟩) q q) :: L) w0 F0 K0 F ([(b, .cells ⟨List.replicate q z⟩ e (0, 0))] :: G) a' w' → wpList P ops Q rest a' w') : wpList P ops Q (o :: rest) a w := by
 refine wpList_plain hg fun K hK => ?_
 obtain ⟨i, i1, i2, i3, i4⟩ := hi.h
 have hr := run_make (P := P) w t e i z ht.h i1 i2 k1 k2 (Int.ofNat q) (Int.ofNat q) (Int.natCast_nonneg q) (Int.le_refl _) (by rw [i4]; have h9 : ((by_ * q : Nat) : Int) ≤ ((281474976710656 : Nat) : Int) := Int.ofNat_le.2 hb; rw [Int.natCast_mul] at h9; exact h9) (Int.ofNat_le.2 h63)
 have hc : madeCells z.cells ((Int.ofNat q).toNat * i.size) = ⟨List.replicate q z⟩ := by
  rw [i3, Nat.mul_one, hz]
  exact Array.ext' (madeCells_one z q)
 rw [hc] at hr
 unfold Oper.wp execOp
 rw [ho]
 simp only [Int.toNat_natCast, Int.ofNat_eq_natCast] at hr
 simp only [S.fr.eval hx, S.fr.eval hy, Sem.run_bind, Int.ofNat_eq_natCast, hr, Result.andThen_ok, Sem.run_pure, Oper.upon_value, hd]
 exact hK _ _ (k _ _ _ ⟨by simp, .inr ⟨_, _, _, rfl, rfl, Nat.le_refl _, by simp only [maxLen]; exact h63, by simp, by simp⟩⟩ (S.alloc _ hn _))
theorem OwnS.at {e sz q : Nat} {v : Value} {xs : List Value} {g : Grp} (h : OwnS e sz v q xs g) : ∃ ao cap, v = .slice ao q cap ∧ q ≤ cap ∧ cap ≤ maxLen ∧ (0 < q → ∃ b, ao = some ⟨b, 0, none⟩) := by
 rcases h.2 with ⟨rfl, rfl, _⟩ | ⟨b, cap, cur, rfl, _, h1, h2, _⟩
 ·exact ⟨none, 0, rfl, Nat.le_refl _, Nat.zero_le _, fun h => absurd h (by omega)⟩
 ·exact ⟨_, cap, rfl, h1, h2, fun _ => ⟨b, rfl⟩⟩
theorem OwnS.block {e q b cap : Nat} {xs : List Value} {g : Grp} (h : OwnS e 1 (.slice (some ⟨b, 0, none⟩) q cap) q xs g) :
  ∃ ex : List Value, g = [(b, .cells ⟨xs ++ ex⟩ e (0, 0))] ∧ q ≤ cap ∧ cap ≤ maxLen ∧ xs.length = q ∧ (xs ++ ex).length = cap := by
 rcases h.2 with ⟨h1, _⟩ | ⟨b', cap', cur, h1, h2, h3, h4, h5, h6⟩
 ·simp at h1
 ·simp only [Value.slice.injEq, Option.some.injEq, Addr.mk.injEq] at h1
  obtain ⟨⟨rfl, _⟩, _, rfl⟩ := h1
  rw [Nat.mul_one] at h6 h5
  refine ⟨cur.toList.drop q, ?_, h3, h4, by simpa using h.1, ?_⟩
  ·rw [← h6, List.take_append_drop, h2]
  ·rw [← h6, List.take_append_drop]; simpa using h5
theorem sv_loadOwn {x : Operand} {t e : TypeId} {b cap q i : Nat} {v : Value} {xs : List Value} {g : Grp} {R} [ht : One P t] (S : St n L w0 F0 K0 F G a w) (ho : o.op = .load t x) (hx : ev L x = some (.pointer (some ⟨b, 0 + i * 1, none⟩)))
  (hown : OwnS e 1 (.slice (some ⟨b, 0, none⟩) q cap) q xs g) [hN : Nth G g R] (hc : xs[i]? = some v) : SV P o a w v := by
 obtain ⟨ex, rfl, h1, h2, h3, h4⟩ := hown.block
 obtain ⟨G1, G2, e1, _⟩ := hN.h
 have hh := (S.tr.own (b, _) (by rw [e1]; simp only [List.flatten_append, List.flatten_cons]; exact List.mem_append_right _ (List.mem_append_left _ (List.mem_singleton.2 rfl)))).1
 refine sv_load S ho hx (cell_of_heap hh ?_)
 have := (List.getElem?_eq_some_iff.1 hc).1
 simp only [Nat.zero_add, Nat.mul_one, List.getElem?_toArray]
 rw [List.getElem?_append_left this]
 exact hc
theorem wpl_storeOwn {t e : TypeId} {x y : Operand} {z : Value} {by_ b cap q i : Nat} {v : Value} {xs : List Value} {g : Grp} {R} [hi : Inf P t z 1 by_] (S : St n L w0 F0 K0 F G a w) (hg : o.guard = none) (ho : o.op = .store t x y) (hd : o.dst = none)
  (hx : ev L x = some (.pointer (some ⟨b, 0 + i * 1, none⟩))) (hy : ev L y = some v) (hown : OwnS e 1 (.slice (some ⟨b, 0, none⟩) q cap) q xs g) [hN : Nth G g R] (h1 : v.oneCell' = true) (hl : i < q)
  (k : ∀ g' w', OwnS e 1 (.slice (some ⟨b, 0, none⟩) q cap) q (xs.set i v) g' → St n L w0 F0 K0 F (R g') a w' → wpList P ops Q rest a w') : wpList P ops Q (o :: rest) a w := by
 obtain ⟨ex, rfl, h2, h3, h4, h5⟩ := hown.block
 obtain ⟨G1, G2, e1, hR⟩ := hN.h
 have : Has G b (.cells ⟨xs ++ ex⟩ e (0, 0)) R := ⟨G1, G2, e1, hR⟩
 have hx' : ev L x = some (.pointer (some ⟨b, i, none⟩)) := by rw [hx]; simp
 refine wpl_store1 S hg ho hd hx' hy h1 (by rw [h5]; omega) fun w' S' => k _ w' ⟨by simpa using h4, .inr ⟨b, cap, _, rfl, rfl, h2, h3, by simpa using h5, ?_⟩⟩ S'
 show List.take (q * 1) ((xs ++ ex).set i v) = xs.set i v
 rw [List.set_append_left _ _ (by omega), Nat.mul_one, List.take_append_of_le_length (by simp; omega), List.take_of_length_le (by simp; omega)]
theorem run_append_zero {t ty e : TypeId} {z : Value} {sz by_ : Nat} (ht : Und P t (.slice e)) (hi : Inf P e z sz by_) (base ao : Option Addr) (q cap c : Nat) (h : q ≤ cap) :
  (Builtin.append_ #[t, t] ty #[.slice base q cap, .slice ao 0 c]).run P w = .ok (.slice base q cap) w := by
 have hz : ∀ u : Option Addr, (Builtin.firstCells sz 0 (.slice u 0 c)).run P w = .ok #[] w := by
  intro u
  cases u with
  | none => rfl
  | some a => simp [Builtin.firstCells, loadCells, loadCellsFrom]
 simp only [Builtin.append_]
 simp [run_underlying ht.h, run_sizeOf hi, Builtin.lenOf, h, hz]
 cases base <;> simp [storeCells]
theorem wpl_appendSl {d : Nat} {t e : TypeId} {s x : Operand} {z : Value} {sz by_ : Nat} {v : Value} {q m c : Nat} {ao : Option Addr} {cs news : List Value} {g : Grp} {R} [ht : Und P t (.slice e)] [hi : Inf P e z sz by_] (S : St n L w0 F0 K0 F G a w)
  (hg : o.guard = none) (hd : o.dst = some d) (hn : Nat.blt d n.sz = true) (ho : o.op = .call { callee := .builtin .append, args := #[s, x], argTypes := #[t, t] }) (hs : ev L s = some v) (hx : ev L x = some (.slice ao m c)) (hown : OwnS e sz v q cs g) [hN : Nth G g R]
  (hz : z.cells.toList.length = sz) (hl : news.length = m * sz) (hpos : 0 < m → ∃ b off, ao = some ⟨b, off, none⟩ ∧ Cels F b off news) (h1 : ∀ u ∈ news, u.oneCell' = true)
  (hlen : (q + m) * by_ ≤ 140737488355328) (h63 : q + m ≤ 9223372036854775807)
  (k : ∀ v' g' a' w', OwnS e sz v' (q + m) (cs ++ news) g' → St n ((d, v') :: L) w0 F0 K0 F (R g') a' w' → wpList P ops Q rest a' w') : wpList P ops Q (o :: rest) a w := by
 refine wpList_plain hg fun K hK => ?_
 obtain ⟨G1, G2, e1, hR⟩ := hN.h
 have e2 : a.eval s = v := S.fr.eval hs
 have e3 : a.eval x = .slice ao m c := S.fr.eval hx
 unfold Oper.wp execOp
 rw [ho]
 by_cases hm : m = 0
 ·subst hm
  have hnw : news = [] := List.eq_nil_of_length_eq_zero (by simpa using hl)
  subst hnw
  obtain ⟨bo, cap, rfl, hc, _⟩ := hown.at
  simp [resolve, invoke, builtin, e2, e3, run_append_zero ht hi, hc, Oper.upon_value, hd]
  have hG : R g = G := by rw [hR, e1]
  have S2 := S.put hn (.slice bo q cap)
  rw [← hG] at S2
  exact hK _ _ (k _ g _ _ (by simpa using hown) S2)
 ·obtain ⟨b, off, rfl, hcs⟩ := hpos (by omega)
  obtain ⟨v', w2, g', hr, ho', S2⟩ := S.append e1 ht hi hz hown ⟨b, off, none⟩ m c news hl (fun j u hj => by rw [addr_add]; exact S.cel (hcs j u hj)) h1 hlen (by simp only [maxLen]; exact h63) (by omega) (ty := o.type)
  simp [resolve, invoke, builtin, e2, e3, hr, Oper.upon_value, hd]
  refine hK _ _ (k v' g' _ w2 ho' ⟨S2.fr.put v' hn, ?_⟩)
  rw [hR]
  exact S2.tr
end
def noDefer (o : Oper) : Bool := match o.op with | .defer _ => false | _ => true
theorem noDefer_ne {o : Oper} (h : noDefer o = true) : ∀ c, o.op ≠ .defer c := fun c e => by simp [noDefer, e] at h
def WF (ro : Option Nat) : Fence := { Fence.wide with round := ro }
class NoOut (Q : Exit → Act → World → Prop) : Prop where h : ¬ LetsOut Q
instance {K : Act → World → Prop} {Q} [h : NoOut Q] : NoOut (Exit.then K Q) := ⟨fun ⟨a, w, q⟩ => h.h ⟨a, w, q⟩⟩
instance {id : Nat} {Q} [h : NoOut Q] : NoOut (Exit.inBlock id Q) := ⟨fun ⟨a, w, q⟩ => h.h ⟨a, w, q⟩⟩
instance : NoOut (fun _ _ _ => False) := ⟨fun ⟨_, _, q⟩ => q⟩
section
variable {P : Program} {ro : Option Nat}
theorem callsIn_wf {f : FuncId} {args : Array Value} {w : World} {R : Ending → World → Prop} (h : Calls P f args w R) : CallsIn (WF ro) 0 P f args w R := by
 have h1 : CallsIn Fence.wide 0 P f args w R := callsIn_wide.2 h
 exact h1
theorem rowsIn_wf {row : String} {args : Array Value} {w : World} {R : Value → World → Prop} (h : Rows P row args w R) : RowsIn (WF ro) 0 P row args w R := by
 have h1 : RowsIn Fence.wide 0 P row args w R := fun c cs _ => let ⟨v, w', r, s⟩ := h c cs; ⟨v, w', r, stepsIn_wide.2 s⟩
 exact h1
theorem uponIn_of {o : Oper} {a : Act} {next next' : Act → World → Prop} {Q : Exit → Act → World → Prop} {r : Result Next} (h : o.upon P a next Q r) (hn : ∀ a w, next a w → next' a w) : o.uponIn (WF ro) 0 P a next' Q r := by
 unfold Oper.upon at h
 unfold Oper.uponIn
 split at h
 ·exact hn _ _ h
 ·exact hn _ _ h
 ·exact hn _ _ h
 ·refine ⟨(fun hd => by cases hd), ?_⟩
  refine callsIn_wf (h.mono fun e w' he => ?_)
  cases e <;> first | exact hn _ _ he | exact he
 ·refine ⟨(fun hd => by cases hd), ?_⟩
  exact rowsIn_wf (h.mono fun v w' he => hn _ _ he)
 ·exact h
 ·exact h.elim
theorem wpIn_of {o : Oper} {a : Act} {w : World} {next next' : Act → World → Prop} {Q : Exit → Act → World → Prop} (hd : noDefer o = true) (h : o.wp P a w next Q) (hn : ∀ a w, next a w → next' a w) : o.wpIn (WF ro) 0 P a w next' Q := by
 refine ⟨fun _ _ => trivial, ?_⟩
 rw [Oper.semAt_eq _ _ _ (noDefer_ne hd)]
 exact uponIn_of h hn
theorem opsIn_of {ops : Array Oper} {Q : Exit → Act → World → Prop} (hout : ¬ LetsOut Q) (hd : ∀ (i : Nat) (o : Oper), ops[i]? = some o → noDefer o = true) : ∀ (l : List Nat) (a : Act) (w : World), wpOps P ops Q l a w → wpOpsIn (WF ro) 0 P ops Q l a w
 | [], _, _, h => h
 | i :: r, a, w, h => by
  unfold wpOps at h
  unfold wpOpsIn
  split
  ·rename_i e
   rw [e] at h
   exact opsIn_of hout hd r a w h
  ·rename_i o e
   rw [e] at h
   simp only at h
   by_cases hw : Region.wanted o (yielded ops a.tmps) = true
   ·rw [if_pos hw] at h ⊢
    rcases h with h | h
    ·exact wpIn_of (hd i o e) h fun a w h => opsIn_of hout hd r a w h
    ·exact absurd h.2 hout
   ·simp only [if_neg hw] at h ⊢
    exact ⟨fun _ _ => trivial, opsIn_of hout hd r _ _ h⟩
theorem all_of {l : List Oper} (h : l.all noDefer = true) : ∀ (i : Nat) (o : Oper), l.toArray[i]? = some o → noDefer o = true := fun i o e => by
 rw [List.all_eq_true] at h
 exact h o (List.mem_of_getElem? (by simpa using e))
variable {Q : Exit → Act → World → Prop} {a : Act} {w : World}
theorem wpi_region {id : Nat} {l : List Oper} [hout : NoOut Q] (hd : l.all noDefer = true) (h : wpList P l.toArray Q l a w) : (Code.region id l.toArray false).wpIn (WF ro) 0 P Q a w := by
 refine wpIn_region (opsIn_of hout.h (all_of hd) _ _ _ ?_)
 rw [List.range_eq_range', ← Array.length_toList, wpOps_eq_wpList l.toArray.toList 0 (by simp)]
 exact h
variable {n : Sz} {L : List (Nat × Value)} {w0 : World} {F0 : Heap} {K0 : List Nat} {F : Heap} {G : List Grp}
theorem wpi_split {c : Operand} {x y : Code} {t : Bool} (S : St n L w0 F0 K0 F G a w) (hc : ev L c = some (.bool t)) (ht : t = true → x.wpIn (WF ro) 0 P Q a w) (hf : t = false → y.wpIn (WF ro) 0 P Q a w) : (Code.cond c x y).wpIn (WF ro) 0 P Q a w := wpIn_cond_split (S.fr.eval hc) ht hf
open Classical in
theorem wpi_loop {c : Code} (I : Nat → Act → World → Prop) (h₀ : ∃ m, I m a w)
  (round : ∀ m a w, I m a w → c.wpIn (WF ro) 0 P (Exit.then (fun a' w' => ∃ m', m' < m ∧ I m' a' w') Q) a w) : (Code.loop c).wpIn (WF ro) 0 P Q a w := by
 let μ : Act → World → Nat := fun a w => if h : ∃ m, I m a w then Classical.choose (least h) else 0
 refine wpIn_loop (fun a w => ∃ m, I m a w) μ h₀ fun a w hI => ?_
 have hμ : I (μ a w) a w := by simp only [μ, dif_pos hI]; exact (Classical.choose_spec (least hI)).1
 refine wpIn_mono (round _ a w hμ) fun e a' w' h => ?_
 cases e <;> try exact h
 obtain ⟨m', hm, hI'⟩ := h
 refine ⟨⟨m', hI'⟩, ?_⟩
 have : μ a' w' ≤ m' := by
  have hex : ∃ m, I m a' w' := ⟨m', hI'⟩
  simp only [μ, dif_pos hex]
  exact (Classical.choose_spec (least hex)).2 _ hI'
 omega
end
end Go.Wk
