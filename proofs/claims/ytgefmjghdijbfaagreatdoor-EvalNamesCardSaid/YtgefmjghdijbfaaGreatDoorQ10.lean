/- Walks. -/
import Derived.Test.YtgefmjghdijbfaaGreatDoorQ09
import Derived.Test.YtgefmjghdijbfaaGreatDoorQ05
import Derived.Test.YtgefmjghdijbfaaGreatDoorQTy
set_option maxHeartbeats 2000000
namespace Go.Proofs.YtgefmjghdijbfaaGreatDoor
open Go Go.Wk Go.Num
set_option linter.unusedSimpArgs false
set_option linter.unusedVariables false
attribute [local irreducible] Go.wpList Go.Code.wp Go.wpStill Go.Wk.wpPre Go.bodyPost Go.Calls Go.Wk.Ct Go.Wk.OwnS
theorem cyT_le2 {A n k : Nat} (h : n < 1000000000) : cyT 1000000000 A n k ≤ 999999999 := by
 rcases Nat.eq_zero_or_pos n with e | e
 ·subst e; simp [cyT]
 ·have := cyT_le (A := A) (k := k) b2 e; omega
theorem zzBgt0 {p : Prop} (h : p := by (refine ⟨K - (i + 1), by omega, i + 1, g, rfl, by omega, own_set hown (congrArg _ (by rw [← dig_mul b2]; rfl)), ?_⟩; rw [cyT_step b2]; refine S.keep ?_; exact zk)) : p := h
theorem timesCt (A n : Nat) (v : Value) (F : Heap) (hn : n < 1000000000) (hlA : nd 1000000000 A ≤ 1000000) (hv : Mag F v A) : Ct Tryz.prog 191 [v, .int .i64 n] F [] (fun F' _ r => Mag F' r (A * n)) := by
 obtain ⟨ao, ca, rfl, hca, hpa⟩ := hv
 have hlt : A * n < 1000000000 ^ (nd 1000000000 A + 1) := by
  rw [Nat.pow_succ]
  exact Nat.mul_lt_mul_of_lt_of_le (lt_nd b2 A) (Nat.le_of_lt hn) (by decide)
 refine Ct.enter Tryz.func191 rfl Tryz.ntmps191 rfl fun w0 a S => ?_
 (revert S a; refine go 8 ?_; intro Z hZ a S)
 (refine wpl_makeSlice (q := nd 1000000000 A + 1) S rfl rfl rfl rfl rfl rfl rfl (by omega) (by omega) ?_; clear S a; intro b a w hown S; generalize hK : nd 1000000000 A + 1 = K at S hown hlt)
 (revert S a; revert hZ Z; refine go 15 ?_; intro Z hZ a S)
 refine wpc_loop (fun m a w' => ∃ (i : Nat) (g : Grp), m = K - i ∧ i ≤ K ∧ OwnS 2 1 (.slice (some ⟨b, 0, none⟩) K K) K (mixL K i (dig 1000000000 (A * n)) fun _ => 0) g ∧ St 41 [(0, .slice ao (nd 1000000000 A) ca), (1, .int .i64 n), (5, .slice (some ⟨b, 0, none⟩) K K), (6, .int .i64 ((cyT 1000000000 A n i : Nat) : Int)), (14, .int .i64 K), (15, .int .i64 i)] w0 F [] F [g] a w') ?_ ?_
 ·(refine ⟨K, 0, _, rfl, Nat.zero_le _, (by rw [mixL_zero, ← replicate_cel]; exact hown), ?_⟩; rw [cyT_zero]; refine S.keep ?_; exact zk)
 (clear hown S; rintro m a w ⟨i, g, rfl, hi, hown, S⟩; have hcy := cyT_le2 (A := A) (k := i) hn; have hdA := dig_lt b2 A i; have hdm : dig 1000000000 A i * n ≤ 999999999 * 999999999 := Nat.mul_le_mul (by omega) (by omega); have hzA : nd 1000000000 A ≤ i → dig 1000000000 A i = 0 := fun h => dig_zero (lt_nd b2 A) h b2)
 (revert S a; refine go 5 ?_; intro Z hZ a S)
 refine wpc_sp S rfl ?_ ?_ <;> intro h
 ·(revert S a; revert hZ Z; refine go 15 ?_; intro Z hZ Z hZ a S)
  (revert S a; refine go 7 ?_; intro a S)
  refine wpc_sp S rfl ?_ ?_ <;> intro h
  ·(obtain ⟨ba, offa, rfl, hcsa⟩ := hpa (by omega); have hce := celN hcsa h)
   (revert S a; refine go 7 ?_; intro a S)
   (refine wv S (sv_mul S rfl rfl rfl (by first | omega | (simp only [List.length_append, List.length_cons, List.length_nil]; omega))) ?_; clear S a; intro a S)
   (revert S a; revert hZ Z; refine go 4 ?_; intro a S)
   (replace S := S.keep (L' := [(0, .slice _ (nd 1000000000 A) ca), (1, .int .i64 n), (5, .slice (some ⟨b, 0, none⟩) K K), (14, .int .i64 K), (15, .int .i64 i), (7, .int .i64 i), (8, .int .i64 ((cyT 1000000000 A n i + dig 1000000000 A i * n : Nat) : Int))]) ⟨rfl, rfl, rfl, rfl, rfl, rfl, reg (by first | rfl | (rw [hzA (by omega)]; simp)), trivial⟩)
   (revert S a; refine go 4 ?_; intro a S)
   (refine wv S (sv_rem S rfl rfl rfl (by first | omega | (simp only [List.length_append, List.length_cons, List.length_nil]; omega))) ?_; clear S a; intro a S)
   (revert S a; refine go 1 ?_; intro a S)
   (refine wv S (sv_quo S rfl rfl rfl (by first | omega | (simp only [List.length_append, List.length_cons, List.length_nil]; omega))) ?_; clear S a; intro a S)
   (revert S a; refine go 1 ?_; intro a S)
   (refine wpl_storeOwn S rfl rfl rfl rfl rfl hown rfl (by omega) ?_; clear hown S; intro g w hown S)
   (revert S a; revert hZ Z; refine go 7 ?_; intro a S)
   change ∃ m', _ ∧ _
   exact zzBgt0
  refine wp_skip ?_
  (refine hZ _ _ ?_; clear hZ Z)
  (replace S := S.keep (L' := [(0, .slice _ (nd 1000000000 A) ca), (1, .int .i64 n), (5, .slice (some ⟨b, 0, none⟩) K K), (14, .int .i64 K), (15, .int .i64 i), (7, .int .i64 i), (8, .int .i64 ((cyT 1000000000 A n i + dig 1000000000 A i * n : Nat) : Int))]) ⟨rfl, rfl, rfl, rfl, rfl, rfl, reg (by first | rfl | (rw [hzA (by omega)]; simp)), trivial⟩)
  (revert S a; refine go 4 ?_; intro a S)
  (refine wv S (sv_rem S rfl rfl rfl (by first | omega | (simp only [List.length_append, List.length_cons, List.length_nil]; omega))) ?_; clear S a; intro a S)
  (revert S a; refine go 1 ?_; intro a S)
  (refine wv S (sv_quo S rfl rfl rfl (by first | omega | (simp only [List.length_append, List.length_cons, List.length_nil]; omega))) ?_; clear S a; intro a S)
  (revert S a; refine go 1 ?_; intro a S)
  (refine wpl_storeOwn S rfl rfl rfl rfl rfl hown rfl (by omega) ?_; clear hown S; intro g w hown S)
  (revert S a; revert hZ Z; refine go 7 ?_; intro a S)
  change ∃ m', _ ∧ _
  exact zzBgt0
 (refine wp_exit ?_; conv => whnf)
 clear hZ Z
 (refine hZ _ _ ?_; clear hZ Z)
 (refine wp_seq_k ?_; intro Z hZ)
 (replace S := St.freeze (G1 := []) S; have hsl := (own_full hown (by omega)).slC F)
 (revert S a; refine go 2 ?_; intro a S)
 (refine wc0 S (trimCt (A * n) K _ _ hlt (by omega) hsl) ?_; clear S a; intro u a w hu S)
 (revert S a; revert hZ Z; refine go 3 ?_; intro a S)
 refine wp_ret (fr1 S Tryz.results191 ?_)
 exact hu
end Go.Proofs.YtgefmjghdijbfaaGreatDoor
namespace Go.Num
open Go
set_option linter.unusedSimpArgs false
set_option linter.unusedVariables false
def dv (c : UInt8) : Nat := c.toNat - 48
def isD (c : UInt8) : Bool := decide (48 ≤ c.toNat) && decide (c.toNat ≤ 57)
def decV (l : List UInt8) : Nat := l.foldl (fun n c => 10 * n + dv c) 0
theorem dv_lt {c : UInt8} (h : isD c = true) : dv c < 10 := by
 unfold isD at h; unfold dv; simp only [Bool.and_eq_true, decide_eq_true_eq] at h; omega
theorem decV_nil : decV [] = 0 := rfl
theorem foldV (m : List UInt8) : ∀ a : Nat, m.foldl (fun n c => 10 * n + dv c) a = a * 10 ^ m.length + decV m := by
 induction m with
 | nil => intro a; simp [decV]
 | cons c m ih =>
  intro a
  have h1 := ih (10 * a + dv c)
  have h2 := ih (10 * 0 + dv c)
  simp only [decV, List.foldl_cons, List.length_cons] at *
  rw [h1, h2, Nat.pow_succ, Nat.add_mul, Nat.add_mul]
  have : 10 * a * 10 ^ m.length = a * (10 ^ m.length * 10) := by rw [Nat.mul_comm 10 a, Nat.mul_assoc, Nat.mul_comm 10]
  omega
theorem decV_append (l m : List UInt8) : decV (l ++ m) = decV l * 10 ^ m.length + decV m := by
 have := foldV m (decV l)
 unfold decV at *
 rw [List.foldl_append]; exact this
theorem decV_snoc (l : List UInt8) (c : UInt8) : decV (l ++ [c]) = 10 * decV l + dv c := by simp [decV]
theorem decV_take_succ {l : List UInt8} {k : Nat} (h : k < l.length) : decV (l.take (k + 1)) = 10 * decV (l.take k) + dv (l.getD k 0) := by
 rw [List.take_succ_eq_append_getElem h, decV_snoc, List.getD_eq_getElem?_getD, List.getElem?_eq_getElem h]; rfl
theorem all_getD {l : List UInt8} (h : l.all isD = true) {k : Nat} (hk : k < l.length) : isD (l.getD k 0) = true := by
 rw [List.getD_eq_getElem?_getD, List.getElem?_eq_getElem hk]
 exact List.all_eq_true.1 h _ (List.getElem_mem hk)
theorem decV_lt : ∀ (l : List UInt8), l.all isD = true → decV l < 10 ^ l.length
 | [], _ => by simp [decV]
 | c :: m, h => by
  simp only [List.all_cons, Bool.and_eq_true] at h
  have h1 := dv_lt h.1
  have h2 := decV_lt m h.2
  have : decV (c :: m) = decV [c] * 10 ^ m.length + decV m := decV_append [c] m
  have h3 : decV [c] = dv c := by simp [decV]
  rw [this, h3, List.length_cons, Nat.pow_succ]
  have h4 : (dv c + 1) * 10 ^ m.length ≤ 10 * 10 ^ m.length := Nat.mul_le_mul_right _ h1
  rw [Nat.add_mul, Nat.one_mul] at h4
  rw [Nat.mul_comm (10 ^ m.length)]; omega
theorem all_drop {l : List UInt8} (h : l.all isD = true) (k : Nat) : (l.drop k).all isD = true := by
 rw [List.all_eq_true] at *; exact fun x hx => h x (List.mem_of_mem_drop hx)
theorem decV_div {l : List UInt8} (h : l.all isD = true) {e : Nat} (he : e ≤ l.length) : decV l / 10 ^ (l.length - e) = decV (l.take e) := by
 conv => lhs; rw [← List.take_append_drop e l, decV_append]
 have hl := decV_lt _ (all_drop h e)
 rw [List.length_drop] at hl
 rw [List.length_append, List.length_take, List.length_drop, Nat.min_eq_left he, show e + (l.length - e) - e = l.length - e by omega]
 rw [Nat.add_comm, Nat.add_mul_div_right _ _ (Nat.pow_pos (by decide)), Nat.div_eq_of_lt hl, Nat.zero_add]
theorem dig_chunk {l : List UInt8} (h : l.all isD = true) {e c : Nat} (he : e + 9 * c = l.length) : dig 1000000000 (decV l) c = decV (l.take e) % 1000000000 := by
 unfold dig
 have e1 : 1000000000 ^ c = 10 ^ (l.length - e) := by
  rw [show (1000000000 : Nat) = 10 ^ 9 by decide, ← Nat.pow_mul]; congr 1; omega
 rw [e1, decV_div h (by omega)]
theorem chunk {l : List UInt8} {e f n : Nat} (hf : f = e - 9) (hn : decV (l.take e) = decV (l.take f) * 10 ^ (e - f) + n) (hl : n < 10 ^ (e - f)) : decV (l.take e) % 1000000000 = n := by
 by_cases h9 : 9 ≤ e
 ·have : e - f = 9 := by omega
  rw [this] at hn hl
  rw [hn, show (10 : Nat) ^ 9 = 1000000000 by decide, Nat.mul_comm, Nat.mul_add_mod, Nat.mod_eq_of_lt (by simpa using hl)]
 ·have h0 : f = 0 := by omega
  subst h0
  rw [List.take_zero, decV_nil, Nat.zero_mul, Nat.zero_add] at hn
  rw [hn]
  refine Nat.mod_eq_of_lt (Nat.lt_of_lt_of_le hl ?_)
  rw [show (1000000000 : Nat) = 10 ^ 9 by decide]
  exact Nat.pow_le_pow_right (by decide) (by omega)
theorem dec_step {X Y p n z : Nat} (h : X = Y * p + n) : 10 * X + z = Y * (p * 10) + (10 * n + z) := by
 subst h
 rw [Nat.mul_add, ← Nat.mul_assoc Y, Nat.mul_comm 10 (Y * p), Nat.add_assoc]
def bodyS (s : List UInt8) : List UInt8 := if s.head? = some 45 then s.drop 1 else s
def negS (s : List UInt8) : Bool := decide (s.head? = some 45)
def checkS (s : List UInt8) : Int :=
 if bodyS s = [] ∨ ((bodyS s).head? = some 48 ∧ s ≠ [48]) then 4 else if (bodyS s).all isD = true then (if 200 < (bodyS s).length then 80 else 0) else 4
theorem bodyS_len (s : List UInt8) : (bodyS s).length ≤ s.length := by unfold bodyS; split <;> simp
theorem bodyS_lt {s : List UInt8} : ((bodyS s).length < s.length) ↔ s.head? = some 45 := by
 unfold bodyS
 cases s with
 | nil => simp
 | cons c r => by_cases h : c = 45 <;> simp [h]
theorem check_digits {s : List UInt8} (h : checkS s = 0) : (bodyS s).all isD = true ∧ (bodyS s).length ≤ 200 ∧ bodyS s ≠ [] := by
 unfold checkS at h
 split at h
 ·cases h
 ·rename_i h1
  split at h
  ·rename_i h2
   split at h
   ·cases h
   ·exact ⟨h2, by omega, fun e => h1 (Or.inl e)⟩
  ·cases h
end Go.Num
namespace Go.Proofs.YtgefmjghdijbfaaGreatDoor
open Go Go.Wk Go.Num
set_option linter.unusedSimpArgs false
set_option linter.unusedVariables false
attribute [local irreducible] Go.wpList Go.Code.wp Go.wpStill Go.Wk.wpPre Go.bodyPost Go.Calls Go.Wk.Ct Go.Wk.OwnS
def hasP (s p : List UInt8) : Bool := if p.length ≤ s.length then s.take p.length == p else false
theorem hasPfxCt (s p : List UInt8) (F : Heap) (hs : s.length ≤ 140737488355328) (hp : p.length ≤ 140737488355328) : Ct Tryz.prog 205 [.string (bs s), .string (bs p)] F [] (fun _ _ u => u = .bool (hasP s p)) := by
 refine Ct.enter Tryz.func205 rfl Tryz.ntmps205 rfl fun w0 a S => ?_
 (revert S a; refine go 11 ?_; intro Z hZ a S)
 refine wgd S ?_ ?_
 ·(clear S; intro h S)
  (revert S a; refine go 6 ?_; intro a S)
  (refine wv S (sv_sliceS_hi S rfl rfl rfl (by first | omega | (simp only [List.length_append, List.length_cons, List.length_nil]; omega))) ?_; clear S a; intro a S)
  (revert S a; revert hZ Z; refine go 8 ?_; intro a S)
  refine wp_ret (fr1 S Tryz.results205 ?_)
  (unfold hasP; first | (rw [if_pos h]; rfl) | (rw [if_neg (by omega)]))
 (clear S a; intro h a S)
 (revert S a; revert hZ Z; refine go 9 ?_; intro a S)
 refine wp_ret (fr1 S Tryz.results205 ?_)
 (unfold hasP; first | (rw [if_pos h]; rfl) | (rw [if_neg (by omega)]))
theorem trimPrefixCt0 (s p : List UInt8) (F : Heap) (hs : s.length ≤ 140737488355328) (hp : p.length ≤ 140737488355328) : Ct Tryz.prog 195 [.string (bs s), .string (bs p)] F [] (fun _ _ u => u = .string (bs (if hasP s p = true then s.drop p.length else s))) := by
 refine Ct.enter Tryz.func195 rfl Tryz.ntmps195 rfl fun w0 a S => ?_
 (revert S a; refine go 8 ?_; intro Z hZ Z hZ a S)
 (refine wc0 S (hasPfxCt s p F hs hp) ?_; clear S a; intro v a w hv S; subst hv)
 (revert S a; revert hZ Z; refine go 2 ?_; intro a S)
 refine wpc_sp S rfl ?_ ?_ <;> intro h
 ·(revert S a; refine go 4 ?_; intro Z hZ a S)
  (have hpl : p.length ≤ s.length := (by unfold hasP at h; split at h; assumption; cases h)); (refine wv S (sv_sliceS_lo S rfl rfl rfl (by omega)) ?_; clear S a; intro a S)
  (revert S a; revert hZ Z; refine go 3 ?_; intro a S)
  refine wp_ret (fr1 S Tryz.results195 ?_)
  (first | (rw [if_pos h]; rfl) | (rw [if_neg (by simp [h])]))
 (revert S a; revert hZ Z; refine go 7 ?_; intro a S)
 refine wp_ret (fr1 S Tryz.results195 ?_)
 (first | (rw [if_pos h]; rfl) | (rw [if_neg (by simp [h])]))
theorem trim_dash (s : List UInt8) : (if hasP s [45] = true then s.drop [45].length else s) = bodyS s := by
 unfold hasP bodyS
 cases s with
 | nil => rfl
 | cons c r => by_cases h : c = 45 <;> simp [h]
theorem trimDashCt (s : List UInt8) (F : Heap) (hs : s.length ≤ 140737488355328) : Ct Tryz.prog 163 [.string (bs s), .string (bs [45])] F [] (fun _ _ u => u = .string (bs (bodyS s))) := by
 rw [← trim_dash]
 refine Ct.enter Tryz.func163 rfl Tryz.ntmps163 rfl fun w0 a S => ?_
 (revert S a; refine go 7 ?_; intro Z hZ a S)
 (refine wc0 S (trimPrefixCt0 s [45] F hs (by decide)) ?_; clear S a; intro v a w hv S; subst hv)
 (revert S a; revert hZ Z; refine go 3 ?_; intro a S)
 refine wp_ret (fr1 S Tryz.results163 ?_)
 rfl
theorem isD_iff (c : UInt8) : isD c = true ↔ (48 ≤ c.toNat ∧ c.toNat ≤ 57) := by unfold isD; simp
theorem all_of_take {l : List UInt8} {k : Nat} (h : ∀ j, j < k → isD (l.getD j 0) = true) (hk : k = l.length) : l.all isD = true := by
 subst hk
 rw [List.all_eq_true]
 intro x hx
 obtain ⟨j, hj, rfl⟩ := List.getElem_of_mem hx
 have := h j hj
 rwa [List.getD_eq_getElem?_getD, List.getElem?_eq_getElem hj] at this
theorem not_all {l : List UInt8} {j : Nat} (hj : j < l.length) (h : ¬ isD (l.getD j 0) = true) : ¬ l.all isD = true := fun h2 => h (all_getD h2 hj)
theorem head_getD {l : List UInt8} (h : l ≠ []) : l.head? = some (l.getD 0 0) := by
 cases l with
 | nil => exact absurd rfl h
 | cons c r => rfl
theorem u8_eq {c : UInt8} {n : Nat} (hn : n < 256) : c = UInt8.ofNat n ↔ c.toNat = n := by
 constructor
 ·rintro rfl; rw [UInt8.toNat_ofNat']; exact Nat.mod_eq_of_lt hn
 ·intro h; rw [← h, UInt8.ofNat_toNat]
def ckD (s d : List UInt8) : Int := if d = [] ∨ (d.head? = some 48 ∧ s ≠ [48]) then 4 else if d.all isD = true then (if 200 < d.length then 80 else 0) else 4
theorem ck_empty {s d : List UInt8} (h : d = []) : (4 : Int) = ckD s d := by unfold ckD; rw [if_pos (Or.inl h)]
theorem ck_zero {s d : List UInt8} (h0 : d ≠ []) (h : (d.getD 0 0).toNat = 48) (h2 : s ≠ [48]) : (4 : Int) = ckD s d := by
 unfold ckD
 rw [if_pos (Or.inr ⟨by rw [head_getD h0]; exact congrArg some ((u8_eq (n := 48) (by decide)).2 h), h2⟩)]
theorem ck_bad {s d : List UInt8} {j : Nat} (hj : j < d.length) (h : ¬ isD (d.getD j 0) = true) : (4 : Int) = ckD s d := by
 unfold ckD
 rw [if_neg (not_all hj h)]; split <;> rfl
theorem ck_over {s d : List UInt8} (h0 : d ≠ []) (h1 : (d.getD 0 0).toNat = 48 → s = [48]) (h2 : d.all isD = true) (h3 : 200 < d.length) : (80 : Int) = ckD s d := by
 unfold ckD
 rw [if_neg (by rintro (h9 | ⟨h9, h10⟩); exact h0 h9; rw [head_getD h0] at h9; exact h10 (h1 ((u8_eq (n := 48) (by decide)).1 (Option.some.inj h9)))), if_pos h2, if_pos h3]
theorem ck_ok {s d : List UInt8} (h0 : d ≠ []) (h1 : (d.getD 0 0).toNat = 48 → s = [48]) (h2 : d.all isD = true) (h3 : ¬ 200 < d.length) : (0 : Int) = ckD s d := by
 unfold ckD
 rw [if_neg (by rintro (h9 | ⟨h9, h10⟩); exact h0 h9; rw [head_getD h0] at h9; exact h10 (h1 ((u8_eq (n := 48) (by decide)).1 (Option.some.inj h9)))), if_pos h2, if_neg h3]
theorem zzBig20 {p : Prop} (h : p := by (rw [hck]; refine congrArg _ ?_; first | exact ck_empty (by assumption) | exact ck_zero (by assumption) (by omega) (by assumption) | exact ck_bad (j := i) (by omega) (by rw [isD_iff]; omega) | exact ck_over (by assumption) (by first | (intro; assumption) | (intro; omega)) (all_of_take hall (by omega)) (by omega) | exact ck_ok (by assumption) (by first | (intro; assumption) | (intro; omega)) (all_of_take hall (by omega)) (by omega))) : p := h
theorem zzBig21 {p : Prop} (h : p := by (refine ⟨d.length - (i + 1), by omega, i + 1, rfl, by omega, ?_, ?_⟩; rotate_left 1; (refine S.keep ?_; exact zk); intro j hj; rcases Nat.lt_succ_iff_lt_or_eq.1 hj with h9 | h9; exact hall j h9; subst h9; rw [isD_iff]; omega)) : p := h
theorem checkCt (s : List UInt8) (F : Heap) (hs : s.length ≤ 140737488355328) : Ct Tryz.prog 150 [.string (bs s)] F [] (fun _ _ u => u = .int .i64 (checkS s)) := by
 have hbl := bodyS_len s
 have htd := trimDashCt s F hs
 have hck : checkS s = ckD s (bodyS s) := rfl
 generalize hd : bodyS s = d at *
 refine Ct.enter Tryz.func150 rfl Tryz.ntmps150 rfl fun w0 a S => ?_
 (revert S a; refine go 6 ?_; intro Z hZ a S)
 (refine wc0 S (htd) ?_; clear S a; intro v a w hv S; subst hv)
 (revert S a; revert hZ Z; refine go 8 ?_; intro Z hZ Z hZ a S)
 refine wgd S ?_ ?_
 ·(clear S; intro h S)
  (revert S a; refine go 2 ?_; intro a S)
  (have hdl : 0 < d.length := List.length_pos_iff.2 (by assumption)); (refine wv S (sv_indexSN (i := 0) S rfl rfl rfl (by omega)) ?_; clear S a; intro a S)
  (revert S a; refine go 4 ?_; intro a S)
  refine wgd S ?_ ?_
  ·(clear S; intro h S)
   (revert S a; revert hZ Z; refine go 8 ?_; intro a S)
   refine wpc_sp S rfl ?_ ?_ <;> intro h
   ·(revert S a; refine go 4 ?_; intro a S)
    refine wp_ret (fr1 S Tryz.results150 ?_)
    exact zzBig20
   (revert S a; revert hZ Z; refine go 10 ?_; intro Z hZ a S)
   refine wpc_loop (fun m a w' => ∃ (i : Nat), m = d.length - i ∧ i ≤ d.length ∧ (∀ j, j < i → isD (d.getD j 0) = true) ∧ St 37 [(3, .string (bs d)), (19, .int .i64 d.length), (20, .int .i64 i)] w0 F [] F [] a w') ?_ ?_
   ·(refine ⟨d.length, 0, rfl, Nat.zero_le _, (fun j hj => absurd hj (by omega)), ?_⟩; refine S.keep ?_; exact zk)
   (clear S; rintro m a w ⟨i, rfl, hi, hall, S⟩)
   (revert S a; refine go 5 ?_; intro Z hZ a S)
   refine wpc_sp S rfl ?_ ?_ <;> intro h
   ·(revert S a; revert hZ Z; refine go 12 ?_; intro Z hZ Z hZ a S)
    first | (refine wv S (sv_indexSN S rfl rfl rfl (by first | omega | (simp only [List.length_append, List.length_cons, List.length_nil]; omega))) ?_; clear S a; intro a S) | (refine wv S (sv_indexS S rfl rfl rfl (by first | omega | (simp only [List.length_append, List.length_cons, List.length_nil]; omega))) ?_; clear S a; intro a S)
    (revert S a; refine go 2 ?_; intro a S)
    refine wgd S ?_ ?_
    ·(clear S; intro h S)
     (revert S a; refine go 4 ?_; intro a S)
     first | (refine wv S (sv_indexSN S rfl rfl rfl (by first | omega | (simp only [List.length_append, List.length_cons, List.length_nil]; omega))) ?_; clear S a; intro a S) | (refine wv S (sv_indexS S rfl rfl rfl (by first | omega | (simp only [List.length_append, List.length_cons, List.length_nil]; omega))) ?_; clear S a; intro a S)
     (revert S a; revert hZ Z; refine go 5 ?_; intro a S)
     refine wpc_sp S rfl ?_ ?_ <;> intro h
     ·(revert S a; refine go 4 ?_; intro a S)
      refine wp_ret (fr1 S Tryz.results150 ?_)
      exact zzBig20
     (revert S a; revert hZ Z; refine go 6 ?_; intro a S)
     change ∃ m', _ ∧ _
     exact zzBig21
    (clear S a; intro h a S)
    (revert S a; revert hZ Z; refine go 6 ?_; intro a S)
    refine wpc_true S rfl ?_
    (revert S a; refine go 4 ?_; intro a S)
    refine wp_ret (fr1 S Tryz.results150 ?_)
    exact zzBig20
   (refine wp_exit ?_; conv => whnf)
   clear hZ Z
   (revert S a; revert hZ Z; refine go 8 ?_; intro Z hZ a S)
   refine wpc_sp S rfl ?_ ?_ <;> intro h
   ·(revert S a; refine go 4 ?_; intro a S)
    refine wp_ret (fr1 S Tryz.results150 ?_)
    exact zzBig20
   (revert S a; revert hZ Z; refine go 6 ?_; intro a S)
   refine wp_ret (fr1 S Tryz.results150 ?_)
   exact zzBig20
  (clear S a; intro h a S)
  (revert S a; revert hZ Z; refine go 6 ?_; intro a S)
  refine wpc_false S rfl ?_
  (revert S a; revert hZ Z; refine go 10 ?_; intro Z hZ a S)
  refine wpc_loop (fun m a w' => ∃ (i : Nat), m = d.length - i ∧ i ≤ d.length ∧ (∀ j, j < i → isD (d.getD j 0) = true) ∧ St 37 [(3, .string (bs d)), (19, .int .i64 d.length), (20, .int .i64 i)] w0 F [] F [] a w') ?_ ?_
  ·(refine ⟨d.length, 0, rfl, Nat.zero_le _, (fun j hj => absurd hj (by omega)), ?_⟩; refine S.keep ?_; exact zk)
  (clear S; rintro m a w ⟨i, rfl, hi, hall, S⟩)
  (revert S a; refine go 5 ?_; intro Z hZ a S)
  refine wpc_sp S rfl ?_ ?_ <;> intro h
  ·(revert S a; revert hZ Z; refine go 12 ?_; intro Z hZ Z hZ a S)
   first | (refine wv S (sv_indexSN S rfl rfl rfl (by first | omega | (simp only [List.length_append, List.length_cons, List.length_nil]; omega))) ?_; clear S a; intro a S) | (refine wv S (sv_indexS S rfl rfl rfl (by first | omega | (simp only [List.length_append, List.length_cons, List.length_nil]; omega))) ?_; clear S a; intro a S)
   (revert S a; refine go 2 ?_; intro a S)
   refine wgd S ?_ ?_
   ·(clear S; intro h S)
    (revert S a; refine go 4 ?_; intro a S)
    first | (refine wv S (sv_indexSN S rfl rfl rfl (by first | omega | (simp only [List.length_append, List.length_cons, List.length_nil]; omega))) ?_; clear S a; intro a S) | (refine wv S (sv_indexS S rfl rfl rfl (by first | omega | (simp only [List.length_append, List.length_cons, List.length_nil]; omega))) ?_; clear S a; intro a S)
    (revert S a; revert hZ Z; refine go 5 ?_; intro a S)
    refine wpc_sp S rfl ?_ ?_ <;> intro h
    ·(revert S a; refine go 4 ?_; intro a S)
     refine wp_ret (fr1 S Tryz.results150 ?_)
     exact zzBig20
    (revert S a; revert hZ Z; refine go 6 ?_; intro a S)
    change ∃ m', _ ∧ _
    exact zzBig21
   (clear S a; intro h a S)
   (revert S a; revert hZ Z; refine go 6 ?_; intro a S)
   refine wpc_true S rfl ?_
   (revert S a; refine go 4 ?_; intro a S)
   refine wp_ret (fr1 S Tryz.results150 ?_)
   exact zzBig20
  (refine wp_exit ?_; conv => whnf)
  clear hZ Z
  (revert S a; revert hZ Z; refine go 8 ?_; intro Z hZ a S)
  refine wpc_sp S rfl ?_ ?_ <;> intro h
  ·(revert S a; refine go 4 ?_; intro a S)
   refine wp_ret (fr1 S Tryz.results150 ?_)
   exact zzBig20
  (revert S a; revert hZ Z; refine go 6 ?_; intro a S)
  refine wp_ret (fr1 S Tryz.results150 ?_)
  exact zzBig20
 (clear S a; intro h a S)
 (revert S a; revert hZ Z; refine go 9 ?_; intro a S)
 refine wpc_true S rfl ?_
 (revert S a; refine go 4 ?_; intro a S)
 refine wp_ret (fr1 S Tryz.results150 ?_)
 exact zzBig20
def NumV (F : Heap) (u : Value) (neg : Bool) (N : Nat) : Prop := ∃ ps, u = .agg ⟨[.bool neg, ps]⟩ ∧ Mag F ps N
theorem NumV.mono {F F' : Heap} {u : Value} {neg N} (hF : ∀ b o, F b = some o → F' b = some o) (h : NumV F u neg N) : NumV F' u neg N := by
 obtain ⟨ps, h1, h2⟩ := h; exact ⟨ps, h1, h2.mono hF⟩
theorem dv_cast {c : UInt8} (h : isD c = true) : ((c.toNat : Int) - 48) = ((dv c : Nat) : Int) := by
 have := (isD_iff c).1 h; unfold dv; omega
theorem own_snoc {e : TypeId} {v : Value} {k : Nat} {f : Nat → Nat} {gr : Grp} {x : Value} (h : OwnS e 1 v (k + 1) (cel k f ++ [x]) gr) (hx : x = .int .i64 ((f k : Nat) : Int)) : OwnS e 1 v (k + 1) (cel (k + 1) f) gr := by
 rw [cel_succ, ← hx]; exact h
theorem ofCt (s : List UInt8) (F : Heap) (hck : checkS s = 0) : Ct Tryz.prog 151 [.string (bs s)] F [] (fun F' _ u => NumV F' u (negS s) (decV (bodyS s))) := by
 obtain ⟨hall, hlen, hne⟩ := check_digits hck
 have hsl : s.length ≤ 201 := by
  have h1 : s.length ≤ (bodyS s).length + 1 := by unfold bodyS; split <;> simp; omega
  omega
 have htd := trimDashCt s F (by omega)
 have hneg : decide (((bodyS s).length : Int) < (s.length : Int)) = negS s := by
  unfold negS; simp only [Int.ofNat_lt, bodyS_lt]
 generalize hd : bodyS s = d at *
 refine Ct.enter Tryz.func151 rfl Tryz.ntmps151 rfl fun w0 a S => ?_
 refine wp_sr fun Z hZ => ?_
 (refine wpl_alloc S rfl rfl rfl rfl ?_; clear S a; intro b1 a w S)
 (revert S a; revert hZ Z; refine go 4 ?_; intro Z hZ a S)
 (refine wc0 S (htd) ?_; clear S a; intro v a w hv S; subst hv)
 (revert S a; revert hZ Z; refine go 10 ?_; intro Z hZ a S)
 (refine wpl_alloc S rfl rfl rfl rfl ?_; clear S a; intro b2 a w S)
 (refine wso S rfl rfl ?_; clear S; intro w S)
 (revert S a; revert hZ Z; refine go 10 ?_; intro Z hZ a S)
 refine wpc_loop (fun m a w' => ∃ (e : Int) (c : Nat) (v : Value) (g : Grp), m = e.toNat ∧ e + 9 * c = d.length ∧ -9 < e ∧ OwnS 2 1 v c (cel c (dig 1000000000 (decV d))) g ∧ St 49 [(2, .pointer (some ⟨b1, 0, none⟩)), (4, .pointer (some ⟨b2, 0, none⟩)), (3, .string (bs d)), (5, .int .i64 e)] w0 F [] F [g, [(b2, .cells ⟨[.bool (negS s), v]⟩ 180 (0, 0))], [(b1, .cells ⟨[.bool false, .slice none 0 0]⟩ 180 (0, 0))]] a w') ?_ ?_
 ·(refine ⟨_, (d.length : Int), 0, _, _, rfl, by omega, by omega, OwnS.nil _ _, ?_⟩; replace S := S.nilg; rw [hneg] at S; refine S.keep ?_; exact zk)
 (clear S; rintro m a w ⟨e, c, v, g, rfl, he, he9, hown, S⟩)
 (revert S a; refine go 6 ?_; intro Z hZ a S)
 refine wpc_sp S rfl ?_ ?_ <;> intro h
 ·(revert S a; revert hZ Z; refine go 9 ?_; intro Z hZ Z hZ a S)
  (revert S a; refine go 3 ?_; intro Z hZ a S)
  first | (refine wv S (sv_maxN S rfl rfl rfl) ?_; clear S a; intro a S) | (refine wv S (sv_max0 S rfl rfl rfl) ?_; clear S a; intro a S)
  (revert S a; revert hZ Z; refine go 4 ?_; intro a S)
  refine wpc_loop (fun m a w' => ∃ (i n : Nat), m = e.toNat - i ∧ (e - 9).toNat ≤ i ∧ i ≤ e.toNat ∧ decV (d.take i) = decV (d.take (e - 9).toNat) * 10 ^ (i - (e - 9).toNat) + n ∧ n < 10 ^ (i - (e - 9).toNat) ∧ St 49 [(2, .pointer (some ⟨b1, 0, none⟩)), (4, .pointer (some ⟨b2, 0, none⟩)), (3, .string (bs d)), (5, .int .i64 e), (6, .int .i64 n), (7, .int .i64 i)] w0 F [] F [g, [(b2, .cells ⟨[.bool (negS s), v]⟩ 180 (0, 0))], [(b1, .cells ⟨[.bool false, .slice none 0 0]⟩ 180 (0, 0))]] a w') ?_ ?_
  ·(refine ⟨_, (e - 9).toNat, 0, rfl, Nat.le_refl _, by omega, by simp, by simp, ?_⟩; refine S.keep ?_; exact zk)
  (clear S; rintro m a w ⟨i, n, rfl, hi1, hi2, hdec, hnl, S⟩)
  (revert S a; refine go 7 ?_; intro Z hZ a S)
  refine wpc_sp S rfl ?_ ?_ <;> intro h
  ·(revert S a; revert hZ Z; refine go 4 ?_; intro Z hZ a S)
   (have hisd := all_getD hall (k := i) (by omega); have hdv := dv_cast hisd; have hdl := dv_lt hisd; have hn9 : n < 10 ^ 9 := Nat.lt_of_lt_of_le hnl (Nat.pow_le_pow_right (by decide) (by omega)); have hisd2 := (isD_iff _).1 hisd)
   (revert S a; refine go 2 ?_; intro a S)
   (refine wv S (sv_mul S rfl rfl rfl (by first | omega | (simp only [List.length_append, List.length_cons, List.length_nil]; omega))) ?_; clear S a; intro a S)
   (revert S a; refine go 2 ?_; intro a S)
   (refine wv S (sv_indexSN (i := i) S rfl rfl rfl (by omega)) ?_; clear S a; intro a S)
   (refine wv S (sv_sub8 S rfl rfl rfl (by first | omega | (simp only [List.length_append, List.length_cons, List.length_nil]; omega))) ?_; clear S a; intro a S)
   (refine wv S (sv_conv_i64 S rfl rfl (by first | omega | (simp only [List.length_append, List.length_cons, List.length_nil]; omega))) ?_; clear S a; intro a S)
   (revert S a; revert hZ Z; refine go 9 ?_; intro a S)
   change ∃ m', _ ∧ _
   (refine ⟨_, by omega, i + 1, 10 * n + dv (d.getD i 0), rfl, by omega, by omega, ?_, ?_, ?_⟩; rotate_left 2; (rw [hdv] at S; refine S.keep ?_; exact zk); (rw [decV_take_succ (by omega), show i + 1 - (e - 9).toNat = (i - (e - 9).toNat) + 1 by omega, Nat.pow_succ]; exact dec_step hdec); (rw [show i + 1 - (e - 9).toNat = (i - (e - 9).toNat) + 1 by omega, Nat.pow_succ]; omega))
  (refine wp_exit ?_; conv => whnf)
  clear hZ Z
  (revert S a; revert hZ Z; refine go 5 ?_; intro a S)
  (refine wpl_append S rfl rfl rfl rfl rfl rfl rfl rfl rfl rfl rfl (fun _ => rfl) hown (by rfl) (by simp [Value.cells, splice, splice]) (by simp [Value.cells, Value.oneCell', splice, splice]) rfl (by rfl) (by rfl) rfl (by omega) (by omega) ?_; clear hown S a; intro v u g a w hown S)
  (revert S a; refine go 1 ?_; intro a S)
  (refine wpl_store1 S rfl rfl rfl rfl rfl hown.oneCell (by simp) ?_; clear S; intro w S)
  (revert S a; revert hZ Z; refine go 7 ?_; intro a S)
  change ∃ m', _ ∧ _
  (refine ⟨_, by omega, e - 9, c + 1, v, g, rfl, by omega, by omega, own_snoc hown (congrArg _ ?_), ?_⟩; rotate_left 1; (refine S.keep ?_; exact zk); rw [dig_chunk hall (e := e.toNat) (by omega)]; have hie : i = e.toNat := (by omega); subst hie; rw [chunk (f := (e - 9).toNat) (by omega) hdec hnl])
 (refine wp_exit ?_; conv => whnf)
 clear hZ Z
 (refine hZ _ _ ?_; clear hZ Z)
 (refine wp_seq_k ?_; intro Z hZ)
 (replace S := St.freeze (G1 := []) S; simp only [List.nil_append] at S; have hsl3 := hown.slC F; have hlt : decV d < 1000000000 ^ c := Nat.lt_of_lt_of_le (decV_lt d hall) (by rw [show (1000000000 : Nat) = 10 ^ 9 by decide, ← Nat.pow_mul]; exact Nat.pow_le_pow_right (by decide) (by omega)))
 (revert S a; refine go 3 ?_; intro a S)
 (refine wc0 S (trimCt (decV d) c _ _ hlt (by omega) hsl3) ?_; clear S a; intro u a w hu S; have hu0 := hu; obtain ⟨uo, uc, rfl, hu1, hu2⟩ := hu)
 (revert S a; refine go 1 ?_; intro a S)
 (refine wpl_store1 S rfl rfl rfl rfl rfl rfl (by first | (simp; done) | (simp [Value.cells]; done) | exact Nat.le_of_ble_eq_true rfl) ?_; clear S; intro w S)
 (revert S a; revert hZ Z; refine go 4 ?_; intro Z hZ a S)
 (refine wso S rfl rfl ?_; clear S; intro w S)
 (revert S a; revert hZ Z; refine go 2 ?_; intro a S)
 refine wp_ret (fin_ret S (results1 Tryz.results151 (RV.cellO S rfl (by rfl))) ?_)
 exact ⟨_, rfl, hu0⟩
theorem isNaN1 (x : Int) (F : Heap) : Ct Tryz.prog 223 [.int .i64 x] F [] (fun _ _ u => u = .bool false) := by
 refine Ct.enter Tryz.func223 rfl Tryz.ntmps223 rfl fun w0 a S => ?_
 (revert S a; refine go 11 ?_; intro a S)
 refine wp_ret (fr1 S Tryz.results223 ?_)
 (simp)
theorem isNaN2 (x : Int) (F : Heap) : Ct Tryz.prog 224 [.int .i64 x] F [] (fun _ _ u => u = .bool false) := by
 refine Ct.enter Tryz.func224 rfl Tryz.ntmps224 rfl fun w0 a S => ?_
 (revert S a; refine go 11 ?_; intro a S)
 refine wp_ret (fr1 S Tryz.results224 ?_)
 (simp)
def cmpI (x y : Int) : Int := if x < y then -1 else if y < x then 1 else 0
theorem compare1 (x y : Int) (F : Heap) : Ct Tryz.prog 188 [.int .i64 x, .int .i64 y] F [] (fun _ _ u => u = .int .i64 (cmpI x y)) := by
 refine Ct.enter Tryz.func188 rfl Tryz.ntmps188 rfl fun w0 a S => ?_
 (revert S a; refine go 6 ?_; intro Z hZ a S)
 (refine wc0 S (isNaN1 _ F) ?_; clear S a; intro v a w hv S; subst hv)
 (revert S a; revert hZ Z; refine go 5 ?_; intro Z hZ a S)
 (refine wc0 S (isNaN1 _ F) ?_; clear S a; intro v a w hv S; subst hv)
 (revert S a; revert hZ Z; refine go 8 ?_; intro Z hZ a S)
 refine wpc_split S rfl (fun h => ?_) (fun h => ?_)
 ·(skip; (try simp only [tq] at h); cases h)
 (skip; (try simp only [tq] at h))
 (revert S a; revert hZ Z; refine go 7 ?_; intro Z hZ a S)
 refine wpc_split S rfl (fun h => ?_) (fun h => ?_)
 ·(skip; (try simp only [tq] at h); cases h)
 (skip; (try simp only [tq] at h))
 (revert S a; revert hZ Z; refine go 9 ?_; intro Z hZ a S)
 refine wpc_sp S rfl ?_ ?_ <;> intro h
 ·(revert S a; refine go 4 ?_; intro a S)
  refine wp_ret (fr1 S Tryz.results188 ?_)
  (unfold cmpI; (repeat (first | rw [if_pos (by assumption)] | rw [if_neg (by omega)])))
 (revert S a; revert hZ Z; refine go 9 ?_; intro Z hZ a S)
 refine wpc_sp S rfl ?_ ?_ <;> intro h
 ·(revert S a; refine go 4 ?_; intro a S)
  refine wp_ret (fr1 S Tryz.results188 ?_)
  (unfold cmpI; (repeat (first | rw [if_pos (by assumption)] | rw [if_neg (by omega)])))
 (revert S a; revert hZ Z; refine go 6 ?_; intro a S)
 refine wp_ret (fr1 S Tryz.results188 ?_)
 (unfold cmpI; (repeat (first | rw [if_pos (by assumption)] | rw [if_neg (by omega)])))
theorem compare2 (x y : Int) (F : Heap) : Ct Tryz.prog 189 [.int .i64 x, .int .i64 y] F [] (fun _ _ u => u = .int .i64 (cmpI x y)) := by
 refine Ct.enter Tryz.func189 rfl Tryz.ntmps189 rfl fun w0 a S => ?_
 (revert S a; refine go 6 ?_; intro Z hZ a S)
 (refine wc0 S (isNaN2 _ F) ?_; clear S a; intro v a w hv S; subst hv)
 (revert S a; revert hZ Z; refine go 5 ?_; intro Z hZ a S)
 (refine wc0 S (isNaN2 _ F) ?_; clear S a; intro v a w hv S; subst hv)
 (revert S a; revert hZ Z; refine go 8 ?_; intro Z hZ a S)
 refine wpc_split S rfl (fun h => ?_) (fun h => ?_)
 ·(skip; (try simp only [tq] at h); cases h)
 (skip; (try simp only [tq] at h))
 (revert S a; revert hZ Z; refine go 7 ?_; intro Z hZ a S)
 refine wpc_split S rfl (fun h => ?_) (fun h => ?_)
 ·(skip; (try simp only [tq] at h); cases h)
 (skip; (try simp only [tq] at h))
 (revert S a; revert hZ Z; refine go 9 ?_; intro Z hZ a S)
 refine wpc_sp S rfl ?_ ?_ <;> intro h
 ·(revert S a; refine go 4 ?_; intro a S)
  refine wp_ret (fr1 S Tryz.results189 ?_)
  (unfold cmpI; (repeat (first | rw [if_pos (by assumption)] | rw [if_neg (by omega)])))
 (revert S a; revert hZ Z; refine go 9 ?_; intro Z hZ a S)
 refine wpc_sp S rfl ?_ ?_ <;> intro h
 ·(revert S a; refine go 4 ?_; intro a S)
  refine wp_ret (fr1 S Tryz.results189 ?_)
  (unfold cmpI; (repeat (first | rw [if_pos (by assumption)] | rw [if_neg (by omega)])))
 (revert S a; revert hZ Z; refine go 6 ?_; intro a S)
 refine wp_ret (fr1 S Tryz.results189 ?_)
 (unfold cmpI; (repeat (first | rw [if_pos (by assumption)] | rw [if_neg (by omega)])))
end Go.Proofs.YtgefmjghdijbfaaGreatDoor
