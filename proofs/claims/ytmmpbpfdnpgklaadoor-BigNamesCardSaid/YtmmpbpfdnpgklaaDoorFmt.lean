/- strconv.FormatInt at the base ten and strings.Repeat, as contracts of the steps' own kind; decimal numerals joined. -/
import Derived.Test.YtmmpbpfdnpgklaaDoorBld
import Derived.Test.YtmmpbpfdnpgklaaDoorShelf
import Derived.Lib.ItoaMem
import Derived.Lib.AppendIntMem
namespace Go.Proofs.YtmmpbpfdnpgklaaDoor
open Go Go.Wk Go.Num
set_option linter.unusedSimpArgs false
set_option linter.unusedVariables false
attribute [local irreducible] Go.wpList Go.Code.wp Go.wpStill Go.Wk.wpPre Go.bodyPost Go.Calls Go.Wk.Ct Go.Wk.OwnS

/-- The table of powers of ten lies in memory that does not turn. -/
def TabF (F : Heap) : Prop := ∀ w : World, (∀ b o, F b = some o → w.heap[b]? = some o) → Lib.TabIs Tryd.prog w "internal/strconv.uint64pow10" .u64 Lib.pow10Tab
theorem TabF.mono {F F' : Heap} (h : TabF F) (hF : ∀ b o, F b = some o → F' b = some o) : TabF F' := fun w hw => h w fun b o hb => hw b o (hF b o hb)
theorem formatCt (n : Nat) (F : Heap) (hn : n ≤ 9223372036854775807) (hT : TabF F) : Ct Tryd.prog 44 [.int .i64 (n : Int), .int .i64 10] F [] (fun _ _ u => u = .string (bs (Lib.decDigits n))) := by
  refine ct_of_below fun w hw => ?_
  refine (Tryd.strconv_FormatInt_10 n (by omega) (by omega) w (hT w hw.frz)).mono fun e w' ⟨h1, k, os, h2⟩ => ⟨?_, ?_⟩
  · rw [h1, Lib.itoa_nonneg]; rfl
  · rw [h2]; exact Lib.below_grow _ w (Nat.le_refl _) k os
theorem repeatCt (c : UInt8) (k : Nat) (F : Heap) (hk : k ≤ 1000000000) : Ct Tryd.prog 51 [.string (bs [c]), .int .i64 (k : Int)] F [] (fun _ _ u => u = .string (bs (List.replicate k c))) := by
  refine ct_of_below fun w hw => ?_
  have he : ∀ k, Lib.repeatL [c] k = List.replicate k c := fun k => by
    induction k with
    | zero => rfl
    | succ k ih => rw [Lib.repeatL, ih]; rfl
  refine (Tryd.strings_Repeat (bs [c]) k w (by omega) (by rw [bs_size]; simp; omega)).mono fun e w' ⟨h1, h2⟩ => ⟨?_, h2⟩
  rw [h1, show (bs [c]).data.toList = [c] from rfl, he]; rfl

/-! ### numerals -/
theorem dd_small {u : Nat} (h : u < 10) : Lib.decDigits u = [UInt8.ofNat (48 + u)] := by rw [Lib.decDigits, dif_pos h]
theorem dd_big {u : Nat} (h : ¬ u < 10) : Lib.decDigits u = Lib.decDigits (u / 10) ++ [UInt8.ofNat (48 + u % 10)] := by rw [Lib.decDigits, dif_neg h]
theorem dd_isD (u : Nat) : (Lib.decDigits u).all isD = true := by
  induction u using Nat.strongRecOn with
  | _ u ih =>
    have hd : ∀ x, x < 10 → isD (UInt8.ofNat (48 + x)) = true := fun x hx => by
      unfold isD; rw [UInt8.toNat_ofNat', Nat.mod_eq_of_lt (by omega)]; simp; omega
    by_cases h : u < 10
    · rw [dd_small h, List.all_cons, hd u h]; rfl
    · rw [dd_big h, List.all_append, ih (u / 10) (by omega), List.all_cons, hd _ (Nat.mod_lt u (by decide))]; rfl
theorem dd_val (u : Nat) : decV (Lib.decDigits u) = u := by
  induction u using Nat.strongRecOn with
  | _ u ih =>
    have hd : ∀ x, x < 10 → dv (UInt8.ofNat (48 + x)) = x := fun x hx => by
      unfold dv; rw [UInt8.toNat_ofNat', Nat.mod_eq_of_lt (by omega)]; omega
    by_cases h : u < 10
    · rw [dd_small h]; show 10 * 0 + dv (UInt8.ofNat (48 + u)) = u; rw [hd u h]; omega
    · rw [dd_big h, decV_snoc, ih (u / 10) (by omega), hd _ (Nat.mod_lt u (by decide))]; omega
theorem dd_ne (u : Nat) : Lib.decDigits u ≠ [] := by
  by_cases h : u < 10
  · rw [dd_small h]; simp
  · rw [dd_big h]; simp
theorem dd_pos (u : Nat) : 0 < (Lib.decDigits u).length := List.length_pos_iff.2 (dd_ne u)
/-- A numeral continued by a block of digits. -/
theorem dd_cat (m : Nat) : ∀ (H lo : Nat), 0 < H → lo < 10 ^ m → (Lib.decDigits lo).length ≤ m ∨ m = 0 → Lib.decDigits (H * 10 ^ m + lo) = Lib.decDigits H ++ (if m = 0 then [] else List.replicate (m - (Lib.decDigits lo).length) 48 ++ Lib.decDigits lo) := by
  induction m with
  | zero => intro H lo _ hl _; simp only [Nat.pow_zero] at hl; rw [show lo = 0 by omega]; simp
  | succ m ih =>
    intro H lo hH hl hlen
    have hpw : 10 ^ (m + 1) = 10 ^ m * 10 := Nat.pow_succ ..
    have hp : 0 < 10 ^ m := Nat.pow_pos (by decide)
    have hge : 1 * 10 ^ m ≤ H * 10 ^ m := Nat.mul_le_mul_right _ hH
    have e1 : H * 10 ^ (m + 1) + lo = (H * 10 ^ m + lo / 10) * 10 + lo % 10 := by rw [hpw, ← Nat.mul_assoc, Nat.add_mul]; omega
    have hb : ¬ (H * 10 ^ (m + 1) + lo < 10) := by rw [e1]; omega
    rw [dd_big hb]
    have e2 : (H * 10 ^ (m + 1) + lo) / 10 = H * 10 ^ m + lo / 10 := by rw [e1]; omega
    have e3 : (H * 10 ^ (m + 1) + lo) % 10 = lo % 10 := by rw [e1]; omega
    rw [e2, e3, if_neg (by omega)]
    by_cases hlo : lo < 10
    · -- one digit, and noughts ahead
      have hz : ∀ k : Nat, Lib.decDigits (H * 10 ^ k) = Lib.decDigits H ++ List.replicate k 48 := fun k => by
        induction k with
        | zero => simp
        | succ k ihk =>
          have hpk : 0 < 10 ^ k := Nat.pow_pos (by decide)
          have hgk : 1 * 10 ^ k ≤ H * 10 ^ k := Nat.mul_le_mul_right _ hH
          have e4 : H * 10 ^ (k + 1) = H * 10 ^ k * 10 := by rw [Nat.pow_succ, Nat.mul_assoc]
          rw [e4, dd_big (by omega), show H * 10 ^ k * 10 / 10 = H * 10 ^ k by omega, show H * 10 ^ k * 10 % 10 = 0 by omega, ihk, List.append_assoc, List.replicate_succ']; rfl
      rw [show lo / 10 = 0 by omega, Nat.add_zero, hz m, dd_small hlo, Nat.mod_eq_of_lt hlo]
      simp
    · have h1 := ih H (lo / 10) hH (by omega) (by
        by_cases hm : m = 0
        · exact Or.inr hm
        · left
          have := hlen.resolve_right (by omega)
          rw [dd_big hlo, List.length_append, List.length_singleton] at this; omega)
      have hm : m ≠ 0 := fun e => by subst e; simp at hl; omega
      rw [h1, if_neg hm, dd_big hlo]
      have hl2 : (Lib.decDigits (lo / 10) ++ [UInt8.ofNat (48 + lo % 10)]).length = (Lib.decDigits (lo / 10)).length + 1 := by simp
      rw [hl2, show m + 1 - ((Lib.decDigits (lo / 10)).length + 1) = m - (Lib.decDigits (lo / 10)).length by omega]
      simp [List.append_assoc]
theorem dd_len {u m : Nat} (h : u < 10 ^ m) (hm : m ≠ 0) : (Lib.decDigits u).length ≤ m := by
  induction m generalizing u with
  | zero => exact absurd rfl hm
  | succ m ih =>
    by_cases hu : u < 10
    · rw [dd_small hu]; simp
    · rw [dd_big hu, List.length_append, List.length_singleton]
      have hpw : 10 ^ (m + 1) = 10 ^ m * 10 := Nat.pow_succ ..
      have hm0 : m ≠ 0 := fun e => by subst e; simp at h; omega
      have := ih (u := u / 10) (by omega) hm0
      omega
theorem dd_cat9 {H lo : Nat} (hH : 0 < H) (hlo : lo < 1000000000) : Lib.decDigits (H * 1000000000 + lo) = Lib.decDigits H ++ (List.replicate (9 - (Lib.decDigits lo).length) 48 ++ Lib.decDigits lo) := by
  have := dd_cat 9 H lo hH hlo (Or.inl (dd_len (m := 9) hlo (by decide)))
  rwa [if_neg (by decide)] at this
end Go.Proofs.YtmmpbpfdnpgklaaDoor
