/- Walks. -/
import Derived.Test.YtgefmjghdijbfaaGreatDoorQ03
import Derived.Test.YtgefmjghdijbfaaGreatDoorQ08
import Derived.Test.YtgefmjghdijbfaaGreatDoorQShelf
import Derived.Lib.ItoaMem
import Derived.Lib.AppendIntMem
set_option maxHeartbeats 4000000
namespace Go.Num
open Go
set_option linter.unusedSimpArgs false
set_option linter.unusedVariables false
def remJ (b A C j : Nat) : Nat := A / b ^ j % C
theorem top_split (b A j : Nat) : A / b ^ j = b * (A / b ^ (j + 1)) + dig b A j := by
 rw [Nat.pow_succ, ← Nat.div_div_eq_div_mul]; exact (Nat.div_add_mod _ _).symm
theorem rem_step {b A C j : Nat} : remJ b A C j = (remJ b A C (j + 1) * b + dig b A j) % C := by
 unfold remJ
 rw [top_split b A j, Nat.add_mod, Nat.mul_mod, Nat.add_mod (A / b ^ (j + 1) % C * b), Nat.mul_mod (A / b ^ (j + 1) % C), Nat.mod_mod, Nat.mul_comm (b % C)]
theorem dig_div {b A C j : Nat} (hb : 2 ≤ b) (hC : 0 < C) : dig b (A / C) j = (remJ b A C (j + 1) * b + dig b A j) / C := by
 have ha := dig_lt hb A j
 have hr : remJ b A C (j + 1) < C := Nat.mod_lt _ hC
 have hlt : (remJ b A C (j + 1) * b + dig b A j) / C < b := by
  rw [Nat.div_lt_iff_lt_mul hC]
  have h1 : (remJ b A C (j + 1) + 1) * b ≤ C * b := Nat.mul_le_mul_right _ hr
  rw [Nat.add_mul, Nat.one_mul] at h1
  rw [Nat.mul_comm b C]; omega
 have e : A / C / b ^ j = A / b ^ j / C := by rw [Nat.div_div_eq_div_mul, Nat.mul_comm, ← Nat.div_div_eq_div_mul]
 unfold dig at *
 rw [e]
 have h2 : A / b ^ j = C * (A / b ^ (j + 1) / C * b) + (remJ b A C (j + 1) * b + A / b ^ j % b) := by
  have h3 := top_split b A j
  have h4 := Nat.div_add_mod (A / b ^ (j + 1)) C
  unfold dig at h3
  unfold remJ
  conv => lhs; rw [h3]
  conv => lhs; arg 1; rw [← h4]
  rw [Nat.mul_add, Nat.add_assoc, Nat.mul_comm b (A / b ^ (j + 1) % C)]
  congr 1
  simp only [Nat.mul_comm, Nat.mul_left_comm, Nat.mul_assoc]
 conv => lhs; rw [h2]
 rw [Nat.mul_add_div hC, Nat.add_comm, Nat.add_mul_mod_self_right, Nat.mod_eq_of_lt hlt]
theorem rem_top {b A C k : Nat} (h : A < b ^ k) : remJ b A C k = 0 := by unfold remJ; rw [Nat.div_eq_of_lt h, Nat.zero_mod]
theorem rem_zero (b A C : Nat) : remJ b A C 0 = A % C := by unfold remJ; rw [Nat.pow_zero, Nat.div_one]
end Go.Num
namespace Go.Proofs.YtgefmjghdijbfaaGreatDoor
open Go Go.Wk Go.Num
set_option linter.unusedSimpArgs false
set_option linter.unusedVariables false
attribute [local irreducible] Go.wpList Go.Code.wp Go.wpStill Go.Wk.wpPre Go.bodyPost Go.Calls Go.Wk.Ct Go.Wk.OwnS Go.wpListIn Go.Code.wpIn Go.CallsIn Go.bodyPostM Go.Wk.roundP Go.Wk.wpG
def TabF (F : Heap) : Prop := ∀ w : World, (∀ b o, F b = some o → w.heap[b]? = some o) → Lib.TabIs Tryz.prog w "internal/strconv.uint64pow10" .u64 Lib.pow10Tab
theorem TabF.mono {F F' : Heap} (h : TabF F) (hF : ∀ b o, F b = some o → F' b = some o) : TabF F' := fun w hw => h w fun b o hb => hw b o (hF b o hb)
theorem formatCt (n : Nat) (F : Heap) (hn : n ≤ 9223372036854775807) (hT : TabF F) : Ct Tryz.prog 153 [.int .i64 (n : Int), .int .i64 10] F [] (fun _ _ u => u = .string (bs (Lib.decDigits n))) := by
 refine ct_of_below fun w hw => ?_
 refine (Tryz.strconv_FormatInt_10 n (by omega) (by omega) w (hT w hw.frz)).mono fun e w' ⟨h1, k, os, h2⟩ => ⟨?_, ?_⟩
 ·rw [h1, Lib.itoa_nonneg]; rfl
 ·rw [h2]; exact Lib.below_grow _ w (Nat.le_refl _) k os
theorem repeatCt (c : UInt8) (k : Nat) (F : Heap) (hk : k ≤ 1000000000) : Ct Tryz.prog 154 [.string (bs [c]), .int .i64 (k : Int)] F [] (fun _ _ u => u = .string (bs (List.replicate k c))) := by
 refine ct_of_below fun w hw => ?_
 have he : ∀ k, Lib.repeatL [c] k = List.replicate k c := fun k => by
  induction k with
  | zero => rfl
  | succ k ih => rw [Lib.repeatL, ih]; rfl
 refine (Tryz.strings_Repeat (bs [c]) k w (by omega) (by rw [bs_size]; simp; omega)).mono fun e w' ⟨h1, h2⟩ => ⟨?_, h2⟩
 rw [h1, show (bs [c]).data.toList = [c] from rfl, he]; rfl
theorem dd_small {u : Nat} (h : u < 10) : Lib.decDigits u = [UInt8.ofNat (48 + u)] := by rw [Lib.decDigits, dif_pos h]
theorem dd_big {u : Nat} (h : ¬ u < 10) : Lib.decDigits u = Lib.decDigits (u / 10) ++ [UInt8.ofNat (48 + u % 10)] := by rw [Lib.decDigits, dif_neg h]
theorem dd_isD (u : Nat) : (Lib.decDigits u).all isD = true := by
 induction u using Nat.strongRecOn with
 | _ u ih =>
  have hd : ∀ x, x < 10 → isD (UInt8.ofNat (48 + x)) = true := fun x hx => by
   unfold isD; rw [UInt8.toNat_ofNat', Nat.mod_eq_of_lt (by omega)]; simp; omega
  by_cases h : u < 10
  ·rw [dd_small h, List.all_cons, hd u h]; rfl
  ·rw [dd_big h, List.all_append, ih (u / 10) (by omega), List.all_cons, hd _ (Nat.mod_lt u (by decide))]; rfl
theorem dd_val (u : Nat) : decV (Lib.decDigits u) = u := by
 induction u using Nat.strongRecOn with
 | _ u ih =>
  have hd : ∀ x, x < 10 → dv (UInt8.ofNat (48 + x)) = x := fun x hx => by
   unfold dv; rw [UInt8.toNat_ofNat', Nat.mod_eq_of_lt (by omega)]; omega
  by_cases h : u < 10
  ·rw [dd_small h]; show 10 * 0 + dv (UInt8.ofNat (48 + u)) = u; rw [hd u h]; omega
  ·rw [dd_big h, decV_snoc, ih (u / 10) (by omega), hd _ (Nat.mod_lt u (by decide))]; omega
theorem dd_ne (u : Nat) : Lib.decDigits u ≠ [] := by
 by_cases h : u < 10
 ·rw [dd_small h]; simp
 ·rw [dd_big h]; simp
theorem dd_pos (u : Nat) : 0 < (Lib.decDigits u).length := List.length_pos_iff.2 (dd_ne u)
theorem dd_cat (m : Nat) : ∀ (H lo : Nat), 0 < H → lo < 10 ^ m → (Lib.decDigits lo).length ≤ m ∨ m = 0 → Lib.decDigits (H * 10 ^ m + lo) = Lib.decDigits H ++ (if m = 0 then [] else List.replicate (m - (Lib.decDigits lo).length) 48 ++ Lib.decDigits lo) := by
 induction m with
 | zero => intro H lo _ hl _; simp only [Nat.pow_zero] at hl; rw [show lo = 0 by omega]; simp
 | succ m ih =>
  intro H lo hH hl hlen
  have hpw : 10 ^ (m + 1) = 10 ^ m * 10 := Nat.pow_succ ..
  have hp : 0 < 10 ^ m := Nat.pow_pos (by decide)
  have hge : 1 * 10 ^ m ≤ H * 10 ^ m := Nat.mul_le_mul_right _ hH
  have e1 : H * 10 ^ (m + 1) + lo = (H * 10 ^ m + lo / 10) * 10 + lo % 10 := by rw [hpw, ← Nat.mul_assoc, Nat.add_mul]; omega
  have hb : ¬ (H * 10 ^ (m + 1) + lo < 10) := by rw [e1]; omega
  rw [dd_big hb]
  have e2 : (H * 10 ^ (m + 1) + lo) / 10 = H * 10 ^ m + lo / 10 := by rw [e1]; omega
  have e3 : (H * 10 ^ (m + 1) + lo) % 10 = lo % 10 := by rw [e1]; omega
  rw [e2, e3, if_neg (by omega)]
  by_cases hlo : lo < 10
  ·-- one digit, and noughts ahead
   have hz : ∀ k : Nat, Lib.decDigits (H * 10 ^ k) = Lib.decDigits H ++ List.replicate k 48 := fun k => by
    induction k with
    | zero => simp
    | succ k ihk =>
     have hpk : 0 < 10 ^ k := Nat.pow_pos (by decide)
     have hgk : 1 * 10 ^ k ≤ H * 10 ^ k := Nat.mul_le_mul_right _ hH
     have e4 : H * 10 ^ (k + 1) = H * 10 ^ k * 10 := by rw [Nat.pow_succ, Nat.mul_assoc]
     rw [e4, dd_big (by omega), show H * 10 ^ k * 10 / 10 = H * 10 ^ k by omega, show H * 10 ^ k * 10 % 10 = 0 by omega, ihk, List.append_assoc, List.replicate_succ']; rfl
   rw [show lo / 10 = 0 by omega, Nat.add_zero, hz m, dd_small hlo, Nat.mod_eq_of_lt hlo]
   simp
  ·have h1 := ih H (lo / 10) hH (by omega) (by
    by_cases hm : m = 0
    ·exact Or.inr hm
    ·left
     have := hlen.resolve_right (by omega)
     rw [dd_big hlo, List.length_append, List.length_singleton] at this; omega)
   have hm : m ≠ 0 := fun e => by subst e; simp at hl; omega
   rw [h1, if_neg hm, dd_big hlo]
   have hl2 : (Lib.decDigits (lo / 10) ++ [UInt8.ofNat (48 + lo % 10)]).length = (Lib.decDigits (lo / 10)).length + 1 := by simp
   rw [hl2, show m + 1 - ((Lib.decDigits (lo / 10)).length + 1) = m - (Lib.decDigits (lo / 10)).length by omega]
   simp [List.append_assoc]
theorem dd_len {u m : Nat} (h : u < 10 ^ m) (hm : m ≠ 0) : (Lib.decDigits u).length ≤ m := by
 induction m generalizing u with
 | zero => exact absurd rfl hm
 | succ m ih =>
  by_cases hu : u < 10
  ·rw [dd_small hu]; simp
  ·rw [dd_big hu, List.length_append, List.length_singleton]
   have hpw : 10 ^ (m + 1) = 10 ^ m * 10 := Nat.pow_succ ..
   have hm0 : m ≠ 0 := fun e => by subst e; simp at h; omega
   have := ih (u := u / 10) (by omega) hm0
   omega
theorem dd_cat9 {H lo : Nat} (hH : 0 < H) (hlo : lo < 1000000000) : Lib.decDigits (H * 1000000000 + lo) = Lib.decDigits H ++ (List.replicate (9 - (Lib.decDigits lo).length) 48 ++ Lib.decDigits lo) := by
 have := dd_cat 9 H lo hH hlo (Or.inl (dd_len (m := 9) hlo (by decide)))
 rwa [if_neg (by decide)] at this
def showS (neg : Bool) (N : Nat) : List UInt8 × Int := if N = 0 then ([48], 0) else if 200 < (Lib.decDigits N).length then ([], 80) else ((if neg then [45] else []) ++ Lib.decDigits N, 0)
def tx (N j : Nat) : List UInt8 := if N / 1000000000 ^ j = 0 then [] else Lib.decDigits (N / 1000000000 ^ j)
theorem tx_top (N : Nat) : tx N (nd 1000000000 N) = [] := by unfold tx; rw [if_pos (Nat.div_eq_of_lt (lt_nd b2 N))]
theorem tx_zero {N : Nat} (h : 0 < N) : tx N 0 = Lib.decDigits N := by unfold tx; rw [Nat.pow_zero, Nat.div_one, if_neg (by omega)]
theorem div_top {N j : Nat} (h : j < nd 1000000000 N) : 0 < N / 1000000000 ^ j := by
 have hN : 0 < N := by
  rcases Nat.eq_zero_or_pos N with e | e
  ·subst e; rw [nd_zero] at h; omega
  ·exact e
 refine Nat.div_pos (Nat.le_trans (Nat.pow_le_pow_right (by decide) (by omega)) (le_pow_nd b2 hN)) (Nat.pow_pos (by decide))
theorem tx_step {N j : Nat} (h : j + 1 < nd 1000000000 N) : tx N j = tx N (j + 1) ++ (List.replicate (9 - (Lib.decDigits (dig 1000000000 N j)).length) 48 ++ Lib.decDigits (dig 1000000000 N j)) := by
 have h1 := div_top h
 have h0 := div_top (j := j) (N := N) (by omega)
 unfold tx
 rw [if_neg (by omega), if_neg (by omega), div_eq 1000000000 N j, Nat.mul_comm]
 exact dd_cat9 h1 (dig_lt b2 N j)
theorem tx_first {N j : Nat} (h : j + 1 = nd 1000000000 N) : tx N j = tx N (j + 1) ++ Lib.decDigits (dig 1000000000 N j) := by
 have h0 := div_top (j := j) (N := N) (by omega)
 rw [h, tx_top]
 unfold tx
 rw [if_neg (by omega), div_eq 1000000000 N j, h, Nat.div_eq_of_lt (lt_nd b2 N)]
 simp
theorem tx_len0 {N j M : Nat} (hM : 9 * nd 1000000000 N ≤ M) (h0 : M ≠ 0) : (tx N j).length ≤ M := by
 unfold tx
 split
 ·simp
 ·rename_i h
  have hlt : N / 1000000000 ^ j < 10 ^ M := by
   refine Nat.lt_of_le_of_lt (Nat.div_le_self _ _) (Nat.lt_of_lt_of_le (lt_nd b2 N) ?_)
   have e : (1000000000 : Nat) = 10 ^ 9 := by decide
   rw [e, ← Nat.pow_mul]
   rw [e] at hM
   exact Nat.pow_le_pow_right (by decide) hM
  exact dd_len hlt h0
theorem tx_len {N j : Nat} (hN : nd 1000000000 N ≤ 1000000) : (tx N j).length ≤ 9000000 := tx_len0 (by omega) (by decide)
theorem perm3 {X g Y : Grp} {p : Nat × Obj} : (([p] :: [X, g, Y] : List Grp)).flatten.Perm (([X, g] : List Grp).flatten ++ ([[p], Y] : List Grp).flatten) := by
 simp only [List.flatten_cons, List.flatten_nil, List.append_nil, List.singleton_append, List.append_assoc]
 have := (List.perm_middle (a := p) (l₁ := X ++ g) (l₂ := Y)).symm
 simpa only [List.append_assoc] using this
theorem textCt (neg : Bool) (N : Nat) (u : Value) (F : Heap) (hT : TabF F) (hlN : nd 1000000000 N ≤ 1000000) (hu : NumV F u neg N) :
  Ct Tryz.prog 111 [u] F [] (fun _ _ r => r = .tuple ⟨[.string (bs (showS neg N).1), .int .i64 (showS neg N).2]⟩) := by
 obtain ⟨pu, rfl, hpu⟩ := hu
 have hu0 := hpu
 obtain ⟨ao, ca, rfl, hca, hpa⟩ := hu0
 have hlen := fun j => tx_len (j := j) hlN
 generalize hK : nd 1000000000 N = K at *
 refine Ct.enterM Tryz.func111 rfl Tryz.ntmps111 rfl fun w0 a S => ?_
 (refine wpIn_seq_k ?_; intro Z hZ)
 refine wpi_region rfl ?_
 (refine wbx S ?_; clear S a; intro b1 a w S)
 (revert S a; revert hZ Z; refine go 4 ?_; intro a S)
 iterate 2 (refine wpIn_seq_k ?_; intro Z hZ)
 refine wpi_region rfl ?_
 (revert S a; revert hZ Z; refine go 6 ?_; intro a S)
 refine wpi_split S rfl (fun h => ?_) (fun h => ?_)
 ·(skip; (try simp only [tq] at h))
  (refine wpIn_seq_k ?_; intro Z hZ)
  refine wpi_region rfl ?_
  (revert S a; revert hZ Z; refine go 4 ?_; intro a S)
  refine wpIn_ret ?_
  refine fin_retN S (results2 Tryz.results111 (RV.tmp S rfl) (RV.tmp S rfl)) ?_
  (rw [show showS neg N = ([48], 0) from (by unfold showS; rw [if_pos (nd_eq_zero b2 (by omega))])]; rfl)
 (skip; (try simp only [tq] at h))
 refine wpIn_skip ?_
 (refine hZ _ _ ?_; clear hZ Z)
 (refine wpIn_seq_k ?_; intro Z hZ)
 refine wpi_region rfl ?_
 (refine wpl_alloc S rfl rfl rfl rfl ?_; clear S a; intro b4 a w S)
 (revert S a; revert hZ Z; refine go 2 ?_; intro a S)
 iterate 2 (refine wpIn_seq_k ?_; intro Z hZ)
 (replace S : St _ _ _ _ _ _ [bldG b4 (.pointer none) (.slice none 0 0), [], [(b1, .cells ⟨[.bool neg, .slice ao K ca]⟩ 180 (0, 0))]] _ _ := ⟨S.fr, S.tr.perm (.refl _)⟩)
 refine wpi_region rfl ?_
 (revert S a; refine go 2 ?_; intro a S)
 (refine wpl_callFrz S rfl rfl rfl rfl rfl rfl (backwardCt _ F) rfl ?_; clear S a; intro bx F5 a w hF5 hbx S; have hbox := hbx 0 _ rfl; have hT5 := hT.mono hF5)
 (revert S a; revert hZ Z; refine go 2 ?_; intro a S)
 refine wpIn_block ?_
 refine wpi_back S rfl rfl rfl rfl (backIter bx K (dig 1000000000 N) F5 ao ca (by omega) hbox (fun h0 => by obtain ⟨b, off, h1, h2⟩ := hpa h0; exact ⟨b, off, h1, h2.mono hF5⟩)) (fun j F2 G2 => F5 = F2 ∧ ∃ p v g, G2 = [bldG b4 p v, g, [(b1, .cells ⟨[.bool neg, .slice ao K ca]⟩ 180 (0, 0))]] ∧ bldP b4 p ∧ OwnS 5 1 v (tx N j).length (u8c (tx N j)) g) (fun _ _ => False) (⟨rfl, .pointer none, .slice none 0 0, [], rfl, .inl rfl, (by rw [show tx N K = [] from (by rw [← hK]; exact tx_top N)]; exact OwnS.nil _ _)⟩) (fun j => [(5, .int .i64 (j : Int)), (6, .int .i64 ((dig 1000000000 N j : Nat) : Int)), (1, .pointer (some ⟨b1, 0, none⟩)), (4, .pointer (some ⟨b4, 0, none⟩))]) ?_ ?_ ?_ ?_
 ·(clear S; intro r j w F1 G1 a KA S hKA)
  (refine wpIn_seq_k ?_; intro Z hZ)
  refine wpi_region rfl ?_
  (revert S a; revert hZ Z; refine go 3 ?_; intro a S)
  refine wpi_region rfl ?_
  (revert S a; refine go 2 ?_; intro a S)
  (refine hKA _ ?_; refine S.keep ?_; exact zk)
 ·(clear S; intro r j w F1 G1 a hj hF1 hI S)
  (obtain ⟨rfl, p, v, g, rfl, hp, hown⟩ := hI; have hdj := dig_lt b2 N j; have hdp := dd_pos (dig 1000000000 N j); have hdl : (Lib.decDigits (dig 1000000000 N j)).length ≤ 9 := dd_len (m := 9) hdj (by decide); have hlj := hlen (j + 1))
  refine wpIn_block ?_
  (refine wpIn_seq_k ?_; intro Z hZ)
  refine wpi_region rfl ?_
  (revert S a; refine go 1 ?_; intro a S)
  (refine wc0 S (formatCt (dig 1000000000 N j) F5 (by omega) hT5) ?_; clear S a; intro v a w hv S; subst hv)
  (revert S a; revert hZ Z; refine go 3 ?_; intro a S)
  iterate 2 (refine wpIn_seq_k ?_; intro Z hZ)
  refine wpi_region rfl ?_
  (revert S a; refine go 4 ?_; intro a S)
  first | (refine wv S (sv_subN (q := 1) S rfl rfl rfl (by omega)) ?_; clear S a; intro a S) | (refine wv S (sv_sub S rfl rfl rfl (by omega)) ?_; clear S a; intro a S)
  (revert S a; revert hZ Z; refine go 3 ?_; intro a S)
  refine wpi_split S rfl (fun h => ?_) (fun h => ?_)
  ·(skip; (try simp only [tq] at h))
   refine wpi_region rfl ?_
   (revert S a; refine go 2 ?_; intro a S)
   first | (refine wv S (sv_subN (p := 9) S rfl rfl rfl (by omega)) ?_; clear S a; intro a S) | (refine wv S (sv_sub S rfl rfl rfl (by omega)) ?_; clear S a; intro a S)
   (refine wc0 S (repeatCt 48 (9 - (Lib.decDigits (dig 1000000000 N j)).length) F5 (by omega)) ?_; clear S a; intro v a w hv S; subst hv)
   (revert S a; refine go 1 ?_; intro a S)
   (refine wv S (sv_cat S rfl rfl rfl (by rw [List.length_replicate]; omega)) ?_; clear S a; intro a S)
   (revert S a; revert hZ Z; refine go 3 ?_; intro a S)
   refine wpi_region rfl ?_
   (revert S a; refine go 1 ?_; intro a S)
   (first | (refine wpl_callOwn (Gs := [bldG b4 p v, g]) (Gr := [[(b1, .cells ⟨[.bool neg, .slice ao K ca]⟩ 180 (0, 0))]]) S rfl rfl rfl rfl rfl rfl (writeString2Ct b4 p v _ (tx N (j + 1)) (List.replicate (9 - (Lib.decDigits (dig 1000000000 N j)).length) 48 ++ Lib.decDigits (dig 1000000000 N j)) g F5 hp hown (by rw [List.length_append]; omega) (by rw [List.length_append, List.length_replicate]; omega)) rfl (by simp) ?_; rw [← List.length_append, ← tx_step (by omega)]) | (refine wpl_callOwn (Gs := [bldG b4 p v, g]) (Gr := [[(b1, .cells ⟨[.bool neg, .slice ao K ca]⟩ 180 (0, 0))]]) S rfl rfl rfl rfl rfl rfl (writeString2Ct b4 p v _ (tx N (j + 1)) (Lib.decDigits (dig 1000000000 N j)) g F5 hp hown (by omega) (by omega)) rfl (by simp) ?_; rw [← List.length_append, ← tx_first (by omega)])); clear S a hown; intro u1 G1 a w hv1 S; obtain ⟨v1, g1, rfl, hown⟩ := hv1
   refine wpList_nil ?_
   skip
   refine round_normal S.tr ?_
   exact ⟨rfl, _, _, _, rfl, .inr rfl, hown⟩
  (skip; (try simp only [tq] at h))
  refine wpIn_skip ?_
  (refine hZ _ _ ?_; clear hZ Z)
  refine wpi_region rfl ?_
  (revert S a; refine go 1 ?_; intro a S)
  (first | (refine wpl_callOwn (Gs := [bldG b4 p v, g]) (Gr := [[(b1, .cells ⟨[.bool neg, .slice ao K ca]⟩ 180 (0, 0))]]) S rfl rfl rfl rfl rfl rfl (writeString2Ct b4 p v _ (tx N (j + 1)) (List.replicate (9 - (Lib.decDigits (dig 1000000000 N j)).length) 48 ++ Lib.decDigits (dig 1000000000 N j)) g F5 hp hown (by rw [List.length_append]; omega) (by rw [List.length_append, List.length_replicate]; omega)) rfl (by simp) ?_; rw [← List.length_append, ← tx_step (by omega)]) | (refine wpl_callOwn (Gs := [bldG b4 p v, g]) (Gr := [[(b1, .cells ⟨[.bool neg, .slice ao K ca]⟩ 180 (0, 0))]]) S rfl rfl rfl rfl rfl rfl (writeString2Ct b4 p v _ (tx N (j + 1)) (Lib.decDigits (dig 1000000000 N j)) g F5 hp hown (by omega) (by omega)) rfl (by simp) ?_; rw [← List.length_append, ← tx_first (by omega)])); clear S a hown; intro u1 G1 a w hv1 S; obtain ⟨v1, g1, rfl, hown⟩ := hv1
  refine wpList_nil ?_
  skip
  refine round_normal S.tr ?_
  exact ⟨rfl, _, _, _, rfl, .inr rfl, hown⟩
 ·(clear S; intro D F1 G1 a w hF1 hI S)
  (obtain ⟨rfl, p, v, g, rfl, hp, hown⟩ := hI; have hN0 : 0 < N := (by rcases Nat.eq_zero_or_pos N with e | e; subst e; rw [nd_zero] at hK; omega; exact e); have hl0 := hlen 0; rw [tx_zero hN0] at hown hl0; have hdp := dd_pos N)
  (refine hZ _ _ ?_; clear hZ Z)
  iterate 2 (refine wpIn_seq_k ?_; intro Z hZ)
  refine wpi_region rfl ?_
  (refine wpl_callOwn (Gs := [bldG b4 p v, g]) (Gr := [[(D, .deferred (some []))], [(b1, .cells ⟨[.bool neg, .slice ao K ca]⟩ 180 (0, 0))]]) S rfl rfl rfl rfl rfl rfl (bldLenCt b4 p v _ _ g F5 hown) rfl perm3 ?_; clear S a; intro u1 G1 a w hv1 S; obtain ⟨rfl, rfl⟩ := hv1; replace S : St _ _ _ _ _ _ [bldG b4 p v, g, [(D, .deferred (some []))], [(b1, .cells ⟨[.bool neg, .slice ao K ca]⟩ 180 (0, 0))]] _ _ := S)
  (revert S a; revert hZ Z; refine go 3 ?_; intro a S)
  refine wpi_split S rfl (fun h => ?_) (fun h => ?_)
  ·(skip; (try simp only [tq] at h))
   (refine wpIn_seq_k ?_; intro Z hZ)
   refine wpi_region rfl ?_
   (revert S a; revert hZ Z; refine go 4 ?_; intro a S)
   refine wpIn_ret ?_
   (refine fin_retM S fun w S => ?_; try (dsimp only at S))
   refine ⟨_, results2 Tryz.results111 (RV.tmp S rfl) (RV.tmp S rfl), ?_⟩
   (unfold showS; rw [if_neg (by omega)]; (first | (rw [if_pos (by omega)]; rfl) | (rw [if_neg (by omega)]; cases neg <;> first | rfl | (exfalso; simp at h))))
  (skip; (try simp only [tq] at h))
  refine wpIn_skip ?_
  (refine hZ _ _ ?_; clear hZ Z)
  iterate 2 (refine wpIn_seq_k ?_; intro Z hZ)
  refine wpi_region rfl ?_
  (revert S a; revert hZ Z; refine go 4 ?_; intro a S)
  refine wpi_split S rfl (fun h => ?_) (fun h => ?_)
  ·(skip; (try simp only [tq] at h))
   (refine wpIn_seq_k ?_; intro Z hZ)
   refine wpi_region rfl ?_
   (refine wpl_callOwn (Gs := [bldG b4 p v, g]) (Gr := [[(D, .deferred (some []))], [(b1, .cells ⟨[.bool neg, .slice ao K ca]⟩ 180 (0, 0))]]) S rfl rfl rfl rfl rfl rfl (bldString2Ct b4 p v _ _ g F5 (by omega) hdp hown) rfl (by simp) ?_; clear S a; intro u1 G1 a w hv1 S; subst hv1; replace S : St _ _ _ _ _ _ [[(D, .deferred (some []))], [(b1, .cells ⟨[.bool neg, .slice ao K ca]⟩ 180 (0, 0))]] _ _ := ⟨S.fr, S.tr.sub (by rw [List.flatten_append]; exact List.sublist_append_right _ _)⟩)
   (refine wv S (sv_cat S rfl rfl rfl (by first | omega | (simp only [List.length_append, List.length_cons, List.length_nil]; omega))) ?_; clear S a; intro a S)
   (revert S a; revert hZ Z; refine go 4 ?_; intro a S)
   refine wpIn_ret ?_
   (refine fin_retM S fun w S => ?_; try (dsimp only at S))
   refine ⟨_, results2 Tryz.results111 (RV.tmp S rfl) (RV.tmp S rfl), ?_⟩
   (unfold showS; rw [if_neg (by omega)]; (first | (rw [if_pos (by omega)]; rfl) | (rw [if_neg (by omega)]; cases neg <;> first | rfl | (exfalso; simp at h))))
  (skip; (try simp only [tq] at h))
  refine wpIn_skip ?_
  (refine hZ _ _ ?_; clear hZ Z)
  (refine wpIn_seq_k ?_; intro Z hZ)
  refine wpi_region rfl ?_
  (refine wpl_callOwn (Gs := [bldG b4 p v, g]) (Gr := [[(D, .deferred (some []))], [(b1, .cells ⟨[.bool neg, .slice ao K ca]⟩ 180 (0, 0))]]) S rfl rfl rfl rfl rfl rfl (bldString2Ct b4 p v _ _ g F5 (by omega) hdp hown) rfl (by simp) ?_; clear S a; intro u1 G1 a w hv1 S; subst hv1; replace S : St _ _ _ _ _ _ [[(D, .deferred (some []))], [(b1, .cells ⟨[.bool neg, .slice ao K ca]⟩ 180 (0, 0))]] _ _ := ⟨S.fr, S.tr.sub (by rw [List.flatten_append]; exact List.sublist_append_right _ _)⟩)
  (revert S a; revert hZ Z; refine go 4 ?_; intro a S)
  refine wpIn_ret ?_
  (refine fin_retM S fun w S => ?_; try (dsimp only at S))
  refine ⟨_, results2 Tryz.results111 (RV.tmp S rfl) (RV.tmp S rfl), ?_⟩
  (unfold showS; rw [if_neg (by omega)]; (first | (rw [if_pos (by omega)]; rfl) | (rw [if_neg (by omega)]; cases neg <;> first | rfl | (exfalso; simp at h))))
 (clear S; intro D F1 G1 a w hF1 hI S)
 exact hI.elim
theorem nd_num {s : List UInt8} (h : checkS s = 0) : nd 1000000000 (decV (bodyS s)) ≤ 23 := by
 obtain ⟨h1, h2, _⟩ := check_digits h
 refine nd_le (Nat.lt_of_lt_of_le (decV_lt _ h1) ?_) b2
 have e : (1000000000 : Nat) = 10 ^ 9 := by decide
 rw [e, ← Nat.pow_mul]
 exact Nat.pow_le_pow_right (by decide) (by omega)
theorem nd_mono {A C : Nat} (h : A ≤ C) : nd 1000000000 A ≤ nd 1000000000 C := nd_le (Nat.lt_of_le_of_lt h (lt_nd b2 C)) b2
theorem nd_addS (n1 : Bool) (A : Nat) (n2 : Bool) (C : Nat) (hA : nd 1000000000 A ≤ 500000) (hC : nd 1000000000 C ≤ 500000) : nd 1000000000 (addS n1 A n2 C).2 ≤ 1000000 := by
 unfold addS
 split
 ·have := nd_le (lt_pow_max b2 (lt_nd b2 A) (lt_nd b2 C)) b2
  show nd 1000000000 (A + C) ≤ _
  omega
 ·split
  ·have := nd_mono (Nat.sub_le A C)
   show nd 1000000000 (A - C) ≤ _
   omega
  ·have := nd_mono (Nat.sub_le C A)
   show nd 1000000000 (C - A) ≤ _
   omega
theorem both_ok {s t : List UInt8} (h : bothE s t = 0) : checkS s = 0 ∧ checkS t = 0 := by
 unfold bothE at h
 split at h
 ·exact ⟨by assumption, h⟩
 ·exact absurd h (by assumption)
def addA (s t : List UInt8) : List UInt8 × Int := if bothE s t = 0 then showS (addS (negS s) (decV (bodyS s)) (negS t) (decV (bodyS t))).1 (addS (negS s) (decV (bodyS s)) (negS t) (decV (bodyS t))).2 else ([], bothE s t)
def subA (s t : List UInt8) : List UInt8 × Int := if bothE s t = 0 then showS (addS (negS s) (decV (bodyS s)) (!negS t) (decV (bodyS t))).1 (addS (negS s) (decV (bodyS s)) (!negS t) (decV (bodyS t))).2 else ([], bothE s t)
def negA (s : List UInt8) : List UInt8 × Int := if checkS s = 0 then showS (!negS s) (decV (bodyS s)) else ([], checkS s)
def ansV (x : List UInt8 × Int) : Value := .tuple ⟨[.string (bs x.1), .int .i64 x.2]⟩
theorem add0Err (s t : List UInt8) (F : Heap) (hT : TabF F) (hs : s.length ≤ 1000000) (ht : t.length ≤ 1000000) (hbe : ¬ bothE s t = 0) : Ct Tryz.prog 58 [.string (bs s), .string (bs t)] F [] (fun _ _ u => u = ansV (addA s t)) := by
 refine Ct.enter Tryz.func58 rfl Tryz.ntmps58 rfl fun w0 a S => ?_
 (revert S a; refine go 8 ?_; intro Z hZ a S)
 (refine wcF S (bothCt s t F (by omega) (by omega)) ?_; clear S a; intro v F1 a w hv hF1 S; rw [BothV, if_neg hbe] at hv; subst hv)
 (revert S a; refine go 4 ?_; intro a S)
 (refine wpl_alloc S rfl rfl rfl rfl ?_; clear S a; intro b6 a w S)
 (refine wpl_alloc S rfl rfl rfl rfl ?_; clear S a; intro b7 a w S)
 iterate 2 (refine wso S rfl rfl ?_; clear S; intro w S)
 (revert S a; revert hZ Z; refine go 9 ?_; intro Z hZ a S)
 refine wpc_split S rfl (fun h => ?_) (fun h => ?_)
 ·(skip; (try simp only [tq] at h))
  (revert S a; refine go 6 ?_; intro a S)
  refine wp_ret (fr2 S Tryz.results58 ?_)
  (rw [show addA s t = ([], bothE s t) from (by unfold addA; rw [if_neg hbe])]; rfl)
 (skip; (try simp only [tq] at h); exact absurd h hbe)
theorem add0Ok (s t : List UInt8) (F : Heap) (hT : TabF F) (hs : s.length ≤ 1000000) (ht : t.length ≤ 1000000) (hbe : bothE s t = 0) : Ct Tryz.prog 58 [.string (bs s), .string (bs t)] F [] (fun _ _ u => u = ansV (addA s t)) := by
 have hn1 := nd_num (both_ok hbe).1
 have hn2 := nd_num (both_ok hbe).2
 refine Ct.enter Tryz.func58 rfl Tryz.ntmps58 rfl fun w0 a S => ?_
 (revert S a; refine go 8 ?_; intro Z hZ a S)
 (refine wcF S (bothCt s t F (by omega) (by omega)) ?_; clear S a; intro v F1 a w hv hF1 S; rw [BothV, if_pos hbe] at hv; obtain ⟨p, q, rfl, hp, hq⟩ := hv; have hp0 := hp; have hq0 := hq; obtain ⟨po, pc, rfl, -, -⟩ := hp0; obtain ⟨qo, qc, rfl, -, -⟩ := hq0)
 (revert S a; refine go 4 ?_; intro a S)
 (refine wpl_alloc S rfl rfl rfl rfl ?_; clear S a; intro b6 a w S)
 (refine wpl_alloc S rfl rfl rfl rfl ?_; clear S a; intro b7 a w S)
 iterate 2 (refine wso S rfl rfl ?_; clear S; intro w S)
 (revert S a; revert hZ Z; refine go 9 ?_; intro Z hZ a S)
 refine wpc_split S rfl (fun h => ?_) (fun h => ?_)
 ·(skip; (try simp only [tq] at h); exact absurd trivial h)
 (skip; (try simp only [tq] at h))
 (revert S a; revert hZ Z; refine go 5 ?_; intro Z hZ a S)
 (refine wcF S (addCt (negS s) _ (negS t) _ _ _ F1 (by omega) (by omega) ⟨_, rfl, hp⟩ ⟨_, rfl, hq⟩) ?_; clear S a; intro v2 F2 a w hv2 hF2 S; obtain ⟨r, rfl, hr⟩ := hv2)
 (refine wc0 S (textCt _ _ _ F2 ((hT.mono hF1).mono hF2) (nd_addS _ _ _ _ (by omega) (by omega)) ⟨_, rfl, hr⟩) ?_; clear S a; intro v a w hv S; subst hv)
 (revert S a; revert hZ Z; refine go 6 ?_; intro a S)
 refine wp_ret (fr2 S Tryz.results58 ?_)
 ((rw [show addA s t = _ from (by unfold addA; rw [if_pos hbe])]; rfl))
theorem add0Ct (s t : List UInt8) (F : Heap) (hT : TabF F) (hs : s.length ≤ 1000000) (ht : t.length ≤ 1000000) : Ct Tryz.prog 58 [.string (bs s), .string (bs t)] F [] (fun _ _ u => u = ansV (addA s t)) := by
 by_cases hbe : bothE s t = 0
 ·exact add0Ok s t F hT hs ht hbe
 ·exact add0Err s t F hT hs ht hbe
def cmpV (x : Int × Int) : Value := .tuple ⟨[.int .i64 x.1, .int .i64 x.2]⟩
theorem sub0Err (s t : List UInt8) (F : Heap) (hT : TabF F) (hs : s.length ≤ 1000000) (ht : t.length ≤ 1000000) (hbe : ¬ bothE s t = 0) : Ct Tryz.prog 60 [.string (bs s), .string (bs t)] F [] (fun _ _ u => u = ansV (subA s t)) := by
 refine Ct.enter Tryz.func60 rfl Tryz.ntmps60 rfl fun w0 a S => ?_
 (revert S a; refine go 8 ?_; intro Z hZ a S)
 (refine wcF S (bothCt s t F (by omega) (by omega)) ?_; clear S a; intro v F1 a w hv hF1 S; rw [BothV, if_neg hbe] at hv; subst hv)
 (revert S a; refine go 4 ?_; intro a S)
 (refine wpl_alloc S rfl rfl rfl rfl ?_; clear S a; intro b6 a w S)
 (refine wpl_alloc S rfl rfl rfl rfl ?_; clear S a; intro b7 a w S)
 iterate 2 (refine wso S rfl rfl ?_; clear S; intro w S)
 (revert S a; revert hZ Z; refine go 9 ?_; intro Z hZ a S)
 refine wpc_split S rfl (fun h => ?_) (fun h => ?_)
 ·(skip; (try simp only [tq] at h))
  (revert S a; refine go 6 ?_; intro a S)
  refine wp_ret (fr2 S Tryz.results60 ?_)
  (rw [show subA s t = ([], bothE s t) from (by unfold subA; rw [if_neg hbe])]; rfl)
 (skip; (try simp only [tq] at h); exact absurd h hbe)
theorem sub0Ok (s t : List UInt8) (F : Heap) (hT : TabF F) (hs : s.length ≤ 1000000) (ht : t.length ≤ 1000000) (hbe : bothE s t = 0) : Ct Tryz.prog 60 [.string (bs s), .string (bs t)] F [] (fun _ _ u => u = ansV (subA s t)) := by
 have hn1 := nd_num (both_ok hbe).1
 have hn2 := nd_num (both_ok hbe).2
 refine Ct.enter Tryz.func60 rfl Tryz.ntmps60 rfl fun w0 a S => ?_
 (revert S a; refine go 8 ?_; intro Z hZ a S)
 (refine wcF S (bothCt s t F (by omega) (by omega)) ?_; clear S a; intro v F1 a w hv hF1 S; rw [BothV, if_pos hbe] at hv; obtain ⟨p, q, rfl, hp, hq⟩ := hv; have hp0 := hp; have hq0 := hq; obtain ⟨po, pc, rfl, -, -⟩ := hp0; obtain ⟨qo, qc, rfl, -, -⟩ := hq0)
 (revert S a; refine go 4 ?_; intro a S)
 (refine wpl_alloc S rfl rfl rfl rfl ?_; clear S a; intro b6 a w S)
 (refine wpl_alloc S rfl rfl rfl rfl ?_; clear S a; intro b7 a w S)
 iterate 2 (refine wso S rfl rfl ?_; clear S; intro w S)
 (revert S a; revert hZ Z; refine go 9 ?_; intro Z hZ a S)
 refine wpc_split S rfl (fun h => ?_) (fun h => ?_)
 ·(skip; (try simp only [tq] at h); exact absurd trivial h)
 (skip; (try simp only [tq] at h))
 refine wp_skip ?_
 (refine hZ _ _ ?_; clear hZ Z)
 (refine wp_seq_k ?_; intro Z hZ)
 (refine wpc_mixL [0, 1, 5, 6] [0] [b6, b7] S mixed (by kernel_rfl) ?_; clear S; intro w S)
 first | (refine wppk_late S rfl rfl rfl rfl rfl (fun w' hw => hw.1) (fun w' S => sv_loadO S rfl rfl (by rfl)) ?_; clear S a; intro a S) | (refine wppk_late S rfl rfl rfl rfl rfl (fun w' hw => hw.1) (fun w' S => sv_loadAO S rfl rfl (by rfl)) ?_; clear S a; intro a S) | (refine wppk_late S rfl rfl rfl rfl rfl (fun w' hw => hw.2.1) (fun w' S => sv_loadO S rfl rfl (by rfl)) ?_; clear S a; intro a S) | (refine wppk_late S rfl rfl rfl rfl rfl (fun w' hw => hw.2.1) (fun w' S => sv_loadAO S rfl rfl (by rfl)) ?_; clear S a; intro a S)
 refine wppk_one rfl rfl ?_
 first | (refine wpp_s S rfl rfl rfl rfl (sv_loadAO S rfl rfl (by rfl)) ?_; clear S a; intro a S) | (refine wpp_s S rfl rfl rfl rfl (sv_loadAF S rfl rfl (by assumption) (by rfl)) ?_; clear S a; intro a S)
 refine wpp_nil ?_
 refine wplk_one rfl ⟨S.has inferInstance, S.has inferInstance, trivial⟩ ?_
 (refine wcF S (turnedCt (negS t) _ _ F1 ⟨_, rfl, hq⟩) ?_; clear S a; intro v3 F3 a w hv3 hF3 S; obtain ⟨r3, rfl, hr3⟩ := hv3)
 refine wpList_nil ?_
 refine wplk_one rfl ⟨S.has inferInstance, S.has inferInstance, trivial⟩ ?_
 (refine wcF S (addCt (negS s) _ (!negS t) _ _ _ F3 (by omega) (by omega) ⟨_, rfl, hp.mono hF3⟩ ⟨_, rfl, hr3⟩) ?_; clear S a; intro v2 F2 a w hv2 hF2 S; obtain ⟨r, rfl, hr⟩ := hv2)
 refine wpList_nil ?_
 refine wplk_one rfl ⟨S.has inferInstance, S.has inferInstance, trivial⟩ ?_
 (refine wc0 S (textCt _ _ _ F2 (((hT.mono hF1).mono hF3).mono hF2) (nd_addS _ _ _ _ (by omega) (by omega)) ⟨_, rfl, hr⟩) ?_; clear S a; intro v a w hv S; subst hv)
 refine wpList_nil ?_
 refine wppk_one rfl rfl ?_
 (refine wpp_v S rfl rfl rfl rfl (fun _ S => sv_pure S rfl) ?_; clear S a; intro a S)
 refine wpp_nil ?_
 refine wppk_one rfl rfl ?_
 (refine wpp_v S rfl rfl rfl rfl (fun _ S => sv_pure S rfl) ?_; clear S a; intro a S)
 refine wpp_nil ?_
 refine wplk_one rfl ⟨S.has inferInstance, S.has inferInstance, trivial⟩ ?_
 (revert S a; refine go 2 ?_; intro a S)
 refine wplk_one rfl ⟨S.has inferInstance, S.has inferInstance, trivial⟩ ?_
 (revert S a; refine go 2 ?_; intro a S)
 refine wplk_nil ⟨S.has inferInstance, S.has inferInstance, trivial⟩ ?_
 (refine hZ _ _ ?_; clear hZ Z)
 refine wp_ret (fr2 S Tryz.results60 ?_)
 ((rw [show subA s t = _ from (by unfold subA; rw [if_pos hbe])]; rfl))
theorem sub0Ct (s t : List UInt8) (F : Heap) (hT : TabF F) (hs : s.length ≤ 1000000) (ht : t.length ≤ 1000000) : Ct Tryz.prog 60 [.string (bs s), .string (bs t)] F [] (fun _ _ u => u = ansV (subA s t)) := by
 by_cases hbe : bothE s t = 0
 ·exact sub0Ok s t F hT hs ht hbe
 ·exact sub0Err s t F hT hs ht hbe
theorem negErr (s : List UInt8) (F : Heap) (hs : s.length ≤ 1000000) (hbe : ¬ checkS s = 0) : Ct Tryz.prog 166 [.string (bs s)] F [] (fun _ _ u => u = ansV (negA s)) := by
 refine Ct.enter Tryz.func166 rfl Tryz.ntmps166 rfl fun w0 a S => ?_
 (revert S a; refine go 8 ?_; intro Z hZ Z hZ a S)
 (refine wc0 S (checkCt s F (by omega)) ?_; clear S a; intro v a w hv S; subst hv)
 (revert S a; revert hZ Z; refine go 8 ?_; intro a S)
 refine wpc_split S rfl (fun h => ?_) (fun h => ?_)
 ·(skip; (try simp only [tq] at h))
  (revert S a; refine go 6 ?_; intro a S)
  refine wp_ret (fr2 S Tryz.results166 ?_)
  (rw [show negA s = ([], checkS s) from (by unfold negA; rw [if_neg hbe])]; rfl)
 (skip; (try simp only [tq] at h); exact absurd h hbe)
theorem negOk (s : List UInt8) (F : Heap) (hT : TabF F) (hs : s.length ≤ 1000000) (hbe : checkS s = 0) : Ct Tryz.prog 166 [.string (bs s)] F [] (fun _ _ u => u = ansV (negA s)) := by
 have hn1 := nd_num hbe
 refine Ct.enter Tryz.func166 rfl Tryz.ntmps166 rfl fun w0 a S => ?_
 (revert S a; refine go 8 ?_; intro Z hZ Z hZ a S)
 (refine wc0 S (checkCt s F (by omega)) ?_; clear S a; intro v a w hv S; subst hv)
 (revert S a; revert hZ Z; refine go 8 ?_; intro a S)
 refine wpc_split S rfl (fun h => ?_) (fun h => ?_)
 ·(skip; (try simp only [tq] at h); exact absurd hbe h)
 (skip; (try simp only [tq] at h))
 (revert S a; revert hZ Z; refine go 4 ?_; intro Z hZ a S)
 (refine wcF S (ofCt s F hbe) ?_; clear S a; intro v F1 a w hv hF1 S; obtain ⟨r, rfl, hr⟩ := hv)
 (refine wcF S (turnedCt (negS s) _ _ F1 ⟨_, rfl, hr⟩) ?_; clear S a; intro v2 F2 a w hv2 hF2 S; obtain ⟨r2, rfl, hr2⟩ := hv2)
 (refine wc0 S (textCt _ _ _ F2 ((hT.mono hF1).mono hF2) (by omega) ⟨_, rfl, hr2⟩) ?_; clear S a; intro v a w hv S; subst hv)
 (revert S a; revert hZ Z; refine go 6 ?_; intro a S)
 refine wp_ret (fr2 S Tryz.results166 ?_)
 (rw [show negA s = _ from (by unfold negA; rw [if_pos hbe])]; rfl)
theorem negCt (s : List UInt8) (F : Heap) (hT : TabF F) (hs : s.length ≤ 1000000) : Ct Tryz.prog 166 [.string (bs s)] F [] (fun _ _ u => u = ansV (negA s)) := by
 by_cases hbe : checkS s = 0
 ·exact negOk s F hT hs hbe
 ·exact negErr s F hs hbe
def mulA (s t : List UInt8) : List UInt8 × Int := if bothE s t = 0 then showS (negS s != negS t) (decV (bodyS s) * decV (bodyS t)) else ([], bothE s t)
theorem lt_pow_mul {b A C la lc : Nat} (h1 : A < b ^ la) (h2 : C < b ^ lc) : A * C < b ^ (la + lc) := by
 rw [Nat.pow_add]
 rcases Nat.eq_zero_or_pos C with e | e
 ·subst e
  rw [Nat.mul_zero]
  exact Nat.mul_pos (by omega) h2
 ·exact Nat.mul_lt_mul_of_lt_of_le h1 (Nat.le_of_lt h2) (Nat.lt_of_le_of_lt (Nat.zero_le _) h2)
def rowsT (A C i : Nat) : Nat := A % 1000000000 ^ i * C
theorem rows_zero (A C : Nat) : rowsT A C 0 = 0 := by simp [rowsT, Nat.mod_one]
theorem rows_step (A C i : Nat) : rowsT A C (i + 1) = rowsT A C i + dig 1000000000 A i * C * 1000000000 ^ i := by
 unfold rowsT
 rw [mod_succ, Nat.add_mul]
 congr 1
 simp only [Nat.mul_comm, Nat.mul_left_comm, Nat.mul_assoc]
theorem rows_full {A C i : Nat} (h : A < 1000000000 ^ i) : rowsT A C i = A * C := by unfold rowsT; rw [Nat.mod_eq_of_lt h]
theorem own_low {e : TypeId} {v : Value} {K i : Nat} {f g : Nat → Nat} {gr : Grp} (h : OwnS e 1 v K (cel K g) gr) (hj : ∀ j, j < i → f j = g j) : OwnS e 1 v K (mixL K i f g) gr := by
 have : mixL K i f g = cel K g := by
  unfold mixL cel
  refine List.map_congr_left fun j _ => ?_
  by_cases hl : j < i
  ·rw [if_pos hl, hj j hl]
  ·rw [if_neg hl]
 rw [this]; exact h
theorem mulErr (s t : List UInt8) (F : Heap) (hs : s.length ≤ 1000000) (ht : t.length ≤ 1000000) (hbe : ¬ bothE s t = 0) : Ct Tryz.prog 62 [.string (bs s), .string (bs t)] F [] (fun _ _ u => u = ansV (mulA s t)) := by
 refine Ct.enter Tryz.func62 rfl Tryz.ntmps62 rfl fun w0 a S => ?_
 (revert S a; refine go 8 ?_; intro Z hZ a S)
 (refine wcF S (bothCt s t F (by omega) (by omega)) ?_; clear S a; intro v F1 a w hv hF1 S; rw [BothV, if_neg hbe] at hv; subst hv)
 (revert S a; refine go 4 ?_; intro a S)
 (refine wpl_alloc S rfl rfl rfl rfl ?_; clear S a; intro b6 a w S)
 (refine wpl_alloc S rfl rfl rfl rfl ?_; clear S a; intro b7 a w S)
 iterate 2 (refine wso S rfl rfl ?_; clear S; intro w S)
 (revert S a; revert hZ Z; refine go 9 ?_; intro Z hZ a S)
 refine wpc_split S rfl (fun h => ?_) (fun h => ?_)
 ·(skip; (try simp only [tq] at h))
  (revert S a; refine go 6 ?_; intro a S)
  refine wp_ret (fr2 S Tryz.results62 ?_)
  (rw [show mulA s t = ([], bothE s t) from (by unfold mulA; rw [if_neg hbe])]; rfl)
 (skip; (try simp only [tq] at h); exact absurd h hbe)
theorem zzMul0 {p : Prop} (h : p := by (refine ⟨K - (k + 1), by omega, k + 1, g, rfl, by omega, by omega, own_set hown (congrArg _ (by rw [← dig_row b2 hik]; rfl)), ?_⟩; rw [cyM_step b2 hik]; refine S.keep ?_; exact zk)) : p := h
theorem mulOk (s t : List UInt8) (F : Heap) (hT : TabF F) (hs : s.length ≤ 1000000) (ht : t.length ≤ 1000000) (hbe : bothE s t = 0) : Ct Tryz.prog 62 [.string (bs s), .string (bs t)] F [] (fun _ _ u => u = ansV (mulA s t)) := by
 have hn1 := nd_num (both_ok hbe).1
 have hn2 := nd_num (both_ok hbe).2
 rw [show mulA s t = showS (negS s != negS t) (decV (bodyS s) * decV (bodyS t)) from (by unfold mulA; rw [if_pos hbe])]
 have hbt := bothCt s t F (by omega) (by omega)
 simp only [BothV, if_pos hbe] at hbt
 generalize hA : decV (bodyS s) = A at *
 generalize hC : decV (bodyS t) = C at *
 have hlt := lt_pow_mul (lt_nd b2 A) (lt_nd b2 C)
 have hmn := nd_le hlt b2
 refine Ct.enter Tryz.func62 rfl Tryz.ntmps62 rfl fun w0 a S => ?_
 (revert S a; refine go 8 ?_; intro Z hZ a S)
 (refine wcF S (hbt) ?_; clear S a; intro v F1 a w hv hF1 S; obtain ⟨p, q, rfl, hp, hq⟩ := hv; have hp0 := hp; have hq0 := hq; obtain ⟨po, pc, rfl, hpc, hpp⟩ := hp0; obtain ⟨qo, qc, rfl, hqc, hqp⟩ := hq0)
 (revert S a; refine go 4 ?_; intro a S)
 (refine wpl_alloc S rfl rfl rfl rfl ?_; clear S a; intro b6 a w S)
 (refine wpl_alloc S rfl rfl rfl rfl ?_; clear S a; intro b7 a w S)
 iterate 2 (refine wso S rfl rfl ?_; clear S; intro w S)
 (revert S a; revert hZ Z; refine go 9 ?_; intro Z hZ a S)
 refine wpc_split S rfl (fun h => ?_) (fun h => ?_)
 ·(skip; (try simp only [tq] at h); exact absurd trivial h)
 (skip; (try simp only [tq] at h))
 (revert S a; revert hZ Z; refine go 10 ?_; intro Z hZ a S)
 (refine wpl_makeSlice (q := nd 1000000000 A + nd 1000000000 C) S rfl rfl rfl rfl rfl rfl rfl (by omega) (by omega) ?_; clear S a; intro b a w hown S; generalize hK : nd 1000000000 A + nd 1000000000 C = K at S hown hlt hmn; generalize hKA : nd 1000000000 A = KA at *; generalize hKC : nd 1000000000 C = KC at *)
 (revert S a; revert hZ Z; refine go 12 ?_; intro Z hZ a S)
 refine wpc_loop (fun m a w' => ∃ (i : Nat) (g : Grp), m = KA - i ∧ i ≤ KA ∧ OwnS 2 1 (.slice (some ⟨b, 0, none⟩) K K) K (cel K (dig 1000000000 (rowsT A C i))) g ∧ St 91 [(6, .pointer (some ⟨b6, 0, none⟩)), (7, .pointer (some ⟨b7, 0, none⟩)), (9, .slice (some ⟨b, 0, none⟩) K K), (34, .slice po KA pc), (35, .int .i64 KA), (36, .int .i64 i)] w0 F [] F1 [g, [(b7, .cells ⟨[.bool (negS t), .slice qo KC qc]⟩ 180 (0, 0))], [(b6, .cells ⟨[.bool (negS s), .slice po KA pc]⟩ 180 (0, 0))]] a w') ?_ ?_
 ·(refine ⟨KA, 0, _, rfl, Nat.zero_le _, (by rw [rows_zero, show dig 1000000000 0 = (fun _ => 0) from funext fun j => (by simp [dig]), ← replicate_cel]; exact hown), ?_⟩; refine S.keep ?_; exact zk)
 (clear hown S; rintro m a w ⟨i, g, rfl, hi, hown, S⟩)
 (revert S a; refine go 5 ?_; intro Z hZ a S)
 refine wpc_sp S rfl ?_ ?_ <;> intro h
 ·(revert S a; revert hZ Z; refine go 4 ?_; intro Z hZ a S)
  (refine wp_seq_k ?_; intro Z hZ)
  (obtain ⟨ba, offa, rfl, hcsa⟩ := hpp (by omega); have hce := celN hcsa (j := i) (by omega))
  (revert S a; revert hZ Z; refine go 18 ?_; intro a S)
  refine wpc_loop (fun m a w' => ∃ (k : Nat) (g : Grp), m = K - k ∧ i ≤ k ∧ k ≤ K ∧ OwnS 2 1 (.slice (some ⟨b, 0, none⟩) K K) K (mixL K k (dig 1000000000 (rowsT A C i + dig 1000000000 A i * C * 1000000000 ^ i)) (dig 1000000000 (rowsT A C i))) g ∧ St 91 [(6, .pointer (some ⟨b6, 0, none⟩)), (7, .pointer (some ⟨b7, 0, none⟩)), (9, .slice (some ⟨b, 0, none⟩) K K), (34, .slice (some ⟨ba, offa, none⟩) KA pc), (35, .int .i64 KA), (36, .int .i64 i), (10, .int .i64 i), (11, .int .i64 ((dig 1000000000 A i : Nat) : Int)), (12, .int .i64 ((cyM 1000000000 (rowsT A C i) (dig 1000000000 A i) C i k : Nat) : Int)), (13, .int .i64 k)] w0 F [] F1 [g, [(b7, .cells ⟨[.bool (negS t), .slice qo KC qc]⟩ 180 (0, 0))], [(b6, .cells ⟨[.bool (negS s), .slice (some ⟨ba, offa, none⟩) KA pc]⟩ 180 (0, 0))]] a w') ?_ ?_
  ·(refine ⟨K - i, i, g, rfl, Nat.le_refl _, by omega, ?_, ?_⟩; rotate_left 1; (rw [cyM_start b2]; refine S.keep ?_; exact zk); refine own_low hown fun j hj => (dig_row_low b2 hj))
  (clear hown S; rintro m a w ⟨k, g, rfl, hik, hkK, hown, S⟩; have hcy := cyM_le (b := 1000000000) (T := rowsT A C i) (p := dig 1000000000 A i) (B := C) b2 hik (dig_lt b2 A i); have hdT := dig_lt b2 (rowsT A C i) k; have hdC := dig_lt b2 C (k - i); have hdA := dig_lt b2 A i; have hdm : dig 1000000000 A i * dig 1000000000 C (k - i) ≤ 999999999 * 999999999 := Nat.mul_le_mul (by omega) (by omega); have hzC : KC ≤ k - i → dig 1000000000 C (k - i) = 0 := fun h => dig_zero (lt_nd b2 C) (by omega) b2)
  (revert S a; refine go 8 ?_; intro Z hZ a S)
  refine wpc_sp S rfl ?_ ?_ <;> intro h
  ·(revert S a; revert hZ Z; refine go 8 ?_; intro Z hZ Z hZ a S)
   (refine wv S (sv_loadOwn S rfl rfl hown (mixL_at (by omega))) ?_; clear S a; intro a S)
   (revert S a; revert hZ Z; refine go 9 ?_; intro Z hZ Z hZ a S)
   first | (refine wv S (sv_subN S rfl rfl rfl (by omega)) ?_; clear S a; intro a S) | (refine wv S (sv_sub S rfl rfl rfl (by omega)) ?_; clear S a; intro a S)
   (revert S a; revert hZ Z; refine go 6 ?_; intro a S)
   refine wpc_sp S rfl ?_ ?_ <;> intro h
   ·(obtain ⟨bc, offc, rfl, hcsc⟩ := hqp (by omega); have hcf := celN hcsc (j := k - i) (by omega))
    (revert S a; refine go 7 ?_; intro a S)
    first | (refine wv S (sv_subN S rfl rfl rfl (by omega)) ?_; clear S a; intro a S) | (refine wv S (sv_sub S rfl rfl rfl (by omega)) ?_; clear S a; intro a S)
    (revert S a; refine go 2 ?_; intro a S)
    (refine wv S (sv_mul S rfl rfl rfl (by first | omega | (simp only [List.length_append, List.length_cons, List.length_nil]; omega))) ?_; clear S a; intro a S)
    (revert S a; revert hZ Z; refine go 4 ?_; intro a S)
    (replace S := S.keep (L' := [(6, .pointer (some ⟨b6, 0, none⟩)), (7, .pointer (some ⟨b7, 0, none⟩)), (9, .slice (some ⟨b, 0, none⟩) K K), (34, .slice (some ⟨ba, offa, none⟩) KA pc), (35, .int .i64 KA), (36, .int .i64 i), (10, .int .i64 i), (11, .int .i64 ((dig 1000000000 A i : Nat) : Int)), (13, .int .i64 k), (14, .int .i64 ((cyM 1000000000 (rowsT A C i) (dig 1000000000 A i) C i k + (dig 1000000000 (rowsT A C i) k + dig 1000000000 A i * dig 1000000000 C (k - i)) : Nat) : Int))]) ⟨rfl, rfl, rfl, rfl, rfl, rfl, rfl, rfl, rfl, reg (by first | (rw [hzC (by omega)]; simp only [Nat.mul_zero]; omega) | (simp only [Int.natCast_add, Int.natCast_mul]; omega)), trivial⟩)
    (revert S a; refine go 4 ?_; intro a S)
    (refine wv S (sv_rem S rfl rfl rfl (by first | omega | (simp only [List.length_append, List.length_cons, List.length_nil]; omega))) ?_; clear S a; intro a S)
    (revert S a; refine go 1 ?_; intro a S)
    (refine wv S (sv_quo S rfl rfl rfl (by first | omega | (simp only [List.length_append, List.length_cons, List.length_nil]; omega))) ?_; clear S a; intro a S)
    (revert S a; refine go 1 ?_; intro a S)
    (refine wpl_storeOwn S rfl rfl rfl rfl rfl hown rfl (by omega) ?_; clear hown S; intro g w hown S)
    (revert S a; revert hZ Z; refine go 8 ?_; intro a S)
    change ∃ m', _ ∧ _
    exact zzMul0
   (revert S a; revert hZ Z; refine go 2 ?_; intro a S)
   (replace S := S.keep (L' := [(6, .pointer (some ⟨b6, 0, none⟩)), (7, .pointer (some ⟨b7, 0, none⟩)), (9, .slice (some ⟨b, 0, none⟩) K K), (34, .slice (some ⟨ba, offa, none⟩) KA pc), (35, .int .i64 KA), (36, .int .i64 i), (10, .int .i64 i), (11, .int .i64 ((dig 1000000000 A i : Nat) : Int)), (13, .int .i64 k), (14, .int .i64 ((cyM 1000000000 (rowsT A C i) (dig 1000000000 A i) C i k + (dig 1000000000 (rowsT A C i) k + dig 1000000000 A i * dig 1000000000 C (k - i)) : Nat) : Int))]) ⟨rfl, rfl, rfl, rfl, rfl, rfl, rfl, rfl, rfl, reg (by first | (rw [hzC (by omega)]; simp only [Nat.mul_zero]; omega) | (simp only [Int.natCast_add, Int.natCast_mul]; omega)), trivial⟩)
   (revert S a; refine go 4 ?_; intro a S)
   (refine wv S (sv_rem S rfl rfl rfl (by first | omega | (simp only [List.length_append, List.length_cons, List.length_nil]; omega))) ?_; clear S a; intro a S)
   (revert S a; refine go 1 ?_; intro a S)
   (refine wv S (sv_quo S rfl rfl rfl (by first | omega | (simp only [List.length_append, List.length_cons, List.length_nil]; omega))) ?_; clear S a; intro a S)
   (revert S a; refine go 1 ?_; intro a S)
   (refine wpl_storeOwn S rfl rfl rfl rfl rfl hown rfl (by omega) ?_; clear hown S; intro g w hown S)
   (revert S a; revert hZ Z; refine go 8 ?_; intro a S)
   change ∃ m', _ ∧ _
   exact zzMul0
  (refine wp_exit ?_; conv => whnf)
  clear hZ Z
  (revert S a; revert hZ Z; refine go 5 ?_; intro a S)
  change ∃ m', _ ∧ _
  (refine ⟨KA - (i + 1), by omega, i + 1, g, rfl, by omega, ?_, ?_⟩; rotate_left 1; (refine S.keep ?_; exact zk); rw [rows_step]; exact own_full hown (by omega))
 (refine wp_exit ?_; conv => whnf)
 clear hZ Z
 (refine hZ _ _ ?_; clear hZ Z)
 (refine wp_seq_k ?_; intro Z hZ)
 (have hle := add_le (G1 := []) S; replace S := St.freeze (G1 := []) S; simp only [List.nil_append] at S; rw [rows_full (i := i) (by have := lt_nd b2 A; rw [hKA] at this; rwa [show i = KA by omega])] at hown; have hsl := hown.slC F1)
 (refine wpc_mixL [0, 1, 2, 3, 4, 5, 7, 9, 10] [1, 3] [b6, b7] S mixed (by kernel_rfl) ?_; clear S; intro w S)
 refine wppk_one rfl rfl ?_
 (refine wpp_v S rfl rfl rfl rfl (fun _ S => sv_fieldAddr S rfl rfl rfl inferInstance rfl) ?_; clear S a; intro a S)
 refine wpp_nil ?_
 first | (refine wppk_late S rfl rfl rfl rfl rfl (fun w' hw => hw.1) (fun w' S => sv_loadO S rfl rfl (by rfl)) ?_; clear S a; intro a S) | (refine wppk_late S rfl rfl rfl rfl rfl (fun w' hw => hw.1) (fun w' S => sv_loadAO S rfl rfl (by rfl)) ?_; clear S a; intro a S) | (refine wppk_late S rfl rfl rfl rfl rfl (fun w' hw => hw.2.1) (fun w' S => sv_loadO S rfl rfl (by rfl)) ?_; clear S a; intro a S) | (refine wppk_late S rfl rfl rfl rfl rfl (fun w' hw => hw.2.1) (fun w' S => sv_loadAO S rfl rfl (by rfl)) ?_; clear S a; intro a S)
 refine wppk_one rfl rfl ?_
 (refine wpp_v S rfl rfl rfl rfl (fun _ S => sv_fieldAddr S rfl rfl rfl inferInstance rfl) ?_; clear S a; intro a S)
 refine wpp_nil ?_
 first | (refine wppk_late S rfl rfl rfl rfl rfl (fun w' hw => hw.1) (fun w' S => sv_loadO S rfl rfl (by rfl)) ?_; clear S a; intro a S) | (refine wppk_late S rfl rfl rfl rfl rfl (fun w' hw => hw.1) (fun w' S => sv_loadAO S rfl rfl (by rfl)) ?_; clear S a; intro a S) | (refine wppk_late S rfl rfl rfl rfl rfl (fun w' hw => hw.2.1) (fun w' S => sv_loadO S rfl rfl (by rfl)) ?_; clear S a; intro a S) | (refine wppk_late S rfl rfl rfl rfl rfl (fun w' hw => hw.2.1) (fun w' S => sv_loadAO S rfl rfl (by rfl)) ?_; clear S a; intro a S)
 refine wppk_one rfl rfl ?_
 (refine wpp_v S rfl rfl rfl rfl (fun _ S => sv_neB S rfl rfl rfl) ?_; clear S a; intro a S)
 refine wpp_nil ?_
 refine wppk_one rfl rfl ?_
 (refine wpp_v S rfl rfl rfl rfl (fun _ S => sv_pure S rfl) ?_; clear S a; intro a S)
 refine wpp_nil ?_
 refine wplk_one rfl ⟨S.has inferInstance, S.has inferInstance, trivial⟩ ?_
 (refine wc0 S (trimCt (A * C) K _ _ hlt (by omega) hsl) ?_; clear S a; intro u a w hu S; have hu0 := hu; obtain ⟨uo, uc, rfl, -, -⟩ := hu0)
 refine wpList_nil ?_
 refine wppk_one rfl rfl ?_
 (refine wpp_v S rfl rfl rfl rfl (fun _ S => sv_build S rfl rfl rfl) ?_; clear S a; intro a S)
 refine wpp_nil ?_
 refine wplk_one rfl ⟨S.has inferInstance, S.has inferInstance, trivial⟩ ?_
 (refine wc0 S (textCt (negS s != negS t) (A * C) _ (F1.add g) ((hT.mono hF1).mono hle) (by omega) ⟨_, rfl, hu⟩) ?_; clear S a; intro v a w hv S; subst hv)
 refine wpList_nil ?_
 refine wppk_one rfl rfl ?_
 (refine wpp_v S rfl rfl rfl rfl (fun _ S => sv_pure S rfl) ?_; clear S a; intro a S)
 refine wpp_nil ?_
 refine wppk_one rfl rfl ?_
 (refine wpp_v S rfl rfl rfl rfl (fun _ S => sv_pure S rfl) ?_; clear S a; intro a S)
 refine wpp_nil ?_
 refine wplk_one rfl ⟨S.has inferInstance, S.has inferInstance, trivial⟩ ?_
 (revert S a; refine go 2 ?_; intro a S)
 refine wplk_one rfl ⟨S.has inferInstance, S.has inferInstance, trivial⟩ ?_
 (revert S a; refine go 2 ?_; intro a S)
 refine wplk_nil ⟨S.has inferInstance, S.has inferInstance, trivial⟩ ?_
 (refine hZ _ _ ?_; clear hZ Z)
 refine wp_ret (fr2 S Tryz.results62 ?_)
 rfl
end Go.Proofs.YtgefmjghdijbfaaGreatDoor
