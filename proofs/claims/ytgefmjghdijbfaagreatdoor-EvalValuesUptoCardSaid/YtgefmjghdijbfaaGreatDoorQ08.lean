/- Walks. -/
import Derived.Test.YtgefmjghdijbfaaGreatDoorQ07
import Derived.Test.YtgefmjghdijbfaaGreatDoorQTy
import Derived.Test.YtgefmjghdijbfaaGreatDoorQ04
set_option maxHeartbeats 2000000
namespace Go.Proofs.YtgefmjghdijbfaaGreatDoor
open Go Go.Wk Go.Num
set_option linter.unusedSimpArgs false
set_option linter.unusedVariables false
attribute [local irreducible] Go.wpList Go.Code.wp Go.wpStill Go.Wk.wpPre Go.bodyPost Go.Calls Go.Wk.Ct Go.Wk.OwnS Go.wpListIn Go.Code.wpIn Go.CallsIn Go.bodyPostM Go.Wk.roundP Go.Wk.wpG
theorem trimPrefixCt0 (s p : List UInt8) (F : Heap) (hs : s.length ≤ 140737488355328) (hp : p.length ≤ 140737488355328) : Ct Tryz.prog 195 [.string (bs s), .string (bs p)] F [] (fun _ _ u => u = .string (bs (if hasP s p = true then s.drop p.length else s))) := by
 refine Ct.enter Tryz.func195 rfl Tryz.ntmps195 rfl fun w0 a S => ?_
 (revert S a; refine go 8 ?_; intro Z hZ Z hZ a S)
 (refine wc0 S (hasPfxCt s p F hs hp) ?_; clear S a; intro v a w hv S; subst hv)
 (revert S a; revert hZ Z; refine go 2 ?_; intro a S)
 refine wpc_sp S rfl ?_ ?_ <;> intro h
 ·(revert S a; refine go 4 ?_; intro Z hZ a S)
  (have hpl : p.length ≤ s.length := (by unfold hasP at h; split at h; assumption; cases h)); (refine wv S (sv_sliceS_lo S rfl rfl rfl (by omega)) ?_; clear S a; intro a S)
  (revert S a; revert hZ Z; refine go 3 ?_; intro a S)
  refine wp_ret (fr1 S Tryz.results195 ?_)
  (first | (rw [if_pos h]; rfl) | (rw [if_neg (by simp [h])]))
 (revert S a; revert hZ Z; refine go 7 ?_; intro a S)
 refine wp_ret (fr1 S Tryz.results195 ?_)
 (first | (rw [if_pos h]; rfl) | (rw [if_neg (by simp [h])]))
theorem trim_dash (s : List UInt8) : (if hasP s [45] = true then s.drop [45].length else s) = bodyS s := by
 unfold hasP bodyS
 cases s with
 | nil => rfl
 | cons c r => by_cases h : c = 45 <;> simp [h]
theorem trimDashCt (s : List UInt8) (F : Heap) (hs : s.length ≤ 140737488355328) : Ct Tryz.prog 163 [.string (bs s), .string (bs [45])] F [] (fun _ _ u => u = .string (bs (bodyS s))) := by
 rw [← trim_dash]
 refine Ct.enter Tryz.func163 rfl Tryz.ntmps163 rfl fun w0 a S => ?_
 (revert S a; refine go 7 ?_; intro Z hZ a S)
 (refine wc0 S (trimPrefixCt0 s [45] F hs (by decide)) ?_; clear S a; intro v a w hv S; subst hv)
 (revert S a; revert hZ Z; refine go 3 ?_; intro a S)
 refine wp_ret (fr1 S Tryz.results163 ?_)
 rfl
theorem isD_iff (c : UInt8) : isD c = true ↔ (48 ≤ c.toNat ∧ c.toNat ≤ 57) := by unfold isD; simp
theorem all_of_take {l : List UInt8} {k : Nat} (h : ∀ j, j < k → isD (l.getD j 0) = true) (hk : k = l.length) : l.all isD = true := by
 subst hk
 rw [List.all_eq_true]
 intro x hx
 obtain ⟨j, hj, rfl⟩ := List.getElem_of_mem hx
 have := h j hj
 rwa [List.getD_eq_getElem?_getD, List.getElem?_eq_getElem hj] at this
theorem not_all {l : List UInt8} {j : Nat} (hj : j < l.length) (h : ¬ isD (l.getD j 0) = true) : ¬ l.all isD = true := fun h2 => h (all_getD h2 hj)
theorem head_getD {l : List UInt8} (h : l ≠ []) : l.head? = some (l.getD 0 0) := by
 cases l with
 | nil => exact absurd rfl h
 | cons c r => rfl
theorem u8_eq {c : UInt8} {n : Nat} (hn : n < 256) : c = UInt8.ofNat n ↔ c.toNat = n := by
 constructor
 ·rintro rfl; rw [UInt8.toNat_ofNat']; exact Nat.mod_eq_of_lt hn
 ·intro h; rw [← h, UInt8.ofNat_toNat]
def ckD (s d : List UInt8) : Int := if d = [] ∨ (d.head? = some 48 ∧ s ≠ [48]) then 4 else if d.all isD = true then (if 200 < d.length then 80 else 0) else 4
theorem ck_empty {s d : List UInt8} (h : d = []) : (4 : Int) = ckD s d := by unfold ckD; rw [if_pos (Or.inl h)]
theorem ck_zero {s d : List UInt8} (h0 : d ≠ []) (h : (d.getD 0 0).toNat = 48) (h2 : s ≠ [48]) : (4 : Int) = ckD s d := by
 unfold ckD
 rw [if_pos (Or.inr ⟨by rw [head_getD h0]; exact congrArg some ((u8_eq (n := 48) (by decide)).2 h), h2⟩)]
theorem ck_bad {s d : List UInt8} {j : Nat} (hj : j < d.length) (h : ¬ isD (d.getD j 0) = true) : (4 : Int) = ckD s d := by
 unfold ckD
 rw [if_neg (not_all hj h)]; split <;> rfl
theorem ck_over {s d : List UInt8} (h0 : d ≠ []) (h1 : (d.getD 0 0).toNat = 48 → s = [48]) (h2 : d.all isD = true) (h3 : 200 < d.length) : (80 : Int) = ckD s d := by
 unfold ckD
 rw [if_neg (by rintro (h9 | ⟨h9, h10⟩); exact h0 h9; rw [head_getD h0] at h9; exact h10 (h1 ((u8_eq (n := 48) (by decide)).1 (Option.some.inj h9)))), if_pos h2, if_pos h3]
theorem ck_ok {s d : List UInt8} (h0 : d ≠ []) (h1 : (d.getD 0 0).toNat = 48 → s = [48]) (h2 : d.all isD = true) (h3 : ¬ 200 < d.length) : (0 : Int) = ckD s d := by
 unfold ckD
 rw [if_neg (by rintro (h9 | ⟨h9, h10⟩); exact h0 h9; rw [head_getD h0] at h9; exact h10 (h1 ((u8_eq (n := 48) (by decide)).1 (Option.some.inj h9)))), if_pos h2, if_neg h3]
theorem zzBig20 {p : Prop} (h : p := by (rw [hck]; refine congrArg _ ?_; first | exact ck_empty (by assumption) | exact ck_zero (by assumption) (by omega) (by assumption) | exact ck_bad (j := i) (by omega) (by rw [isD_iff]; omega) | exact ck_over (by assumption) (by first | (intro; assumption) | (intro; omega)) (all_of_take hall (by omega)) (by omega) | exact ck_ok (by assumption) (by first | (intro; assumption) | (intro; omega)) (all_of_take hall (by omega)) (by omega))) : p := h
theorem zzBig21 {p : Prop} (h : p := by (refine ⟨d.length - (i + 1), by omega, i + 1, rfl, by omega, ?_, ?_⟩; rotate_left 1; (refine S.keep ?_; exact zk); intro j hj; rcases Nat.lt_succ_iff_lt_or_eq.1 hj with h9 | h9; exact hall j h9; subst h9; rw [isD_iff]; omega)) : p := h
theorem checkCt (s : List UInt8) (F : Heap) (hs : s.length ≤ 140737488355328) : Ct Tryz.prog 150 [.string (bs s)] F [] (fun _ _ u => u = .int .i64 (checkS s)) := by
 have hbl := bodyS_len s
 have htd := trimDashCt s F hs
 have hck : checkS s = ckD s (bodyS s) := rfl
 generalize hd : bodyS s = d at *
 refine Ct.enter Tryz.func150 rfl Tryz.ntmps150 rfl fun w0 a S => ?_
 (revert S a; refine go 6 ?_; intro Z hZ a S)
 (refine wc0 S (htd) ?_; clear S a; intro v a w hv S; subst hv)
 (revert S a; revert hZ Z; refine go 8 ?_; intro Z hZ Z hZ a S)
 refine wgd S ?_ ?_
 ·(clear S; intro h S)
  (revert S a; refine go 2 ?_; intro a S)
  (have hdl : 0 < d.length := List.length_pos_iff.2 (by assumption)); (refine wv S (sv_indexSN (i := 0) S rfl rfl rfl (by omega)) ?_; clear S a; intro a S)
  (revert S a; refine go 4 ?_; intro a S)
  refine wgd S ?_ ?_
  ·(clear S; intro h S)
   (revert S a; revert hZ Z; refine go 8 ?_; intro a S)
   refine wpc_sp S rfl ?_ ?_ <;> intro h
   ·(revert S a; refine go 4 ?_; intro a S)
    refine wp_ret (fr1 S Tryz.results150 ?_)
    exact zzBig20
   (revert S a; revert hZ Z; refine go 10 ?_; intro Z hZ a S)
   refine wpc_loop (fun m a w' => ∃ (i : Nat), m = d.length - i ∧ i ≤ d.length ∧ (∀ j, j < i → isD (d.getD j 0) = true) ∧ St 37 [(3, .string (bs d)), (19, .int .i64 d.length), (20, .int .i64 i)] w0 F [] F [] a w') ?_ ?_
   ·(refine ⟨d.length, 0, rfl, Nat.zero_le _, (fun j hj => absurd hj (by omega)), ?_⟩; refine S.keep ?_; exact zk)
   (clear S; rintro m a w ⟨i, rfl, hi, hall, S⟩)
   (revert S a; refine go 5 ?_; intro Z hZ a S)
   refine wpc_sp S rfl ?_ ?_ <;> intro h
   ·(revert S a; revert hZ Z; refine go 12 ?_; intro Z hZ Z hZ a S)
    first | (refine wv S (sv_indexSN S rfl rfl rfl (by first | omega | (simp only [List.length_append, List.length_cons, List.length_nil]; omega))) ?_; clear S a; intro a S) | (refine wv S (sv_indexS S rfl rfl rfl (by first | omega | (simp only [List.length_append, List.length_cons, List.length_nil]; omega))) ?_; clear S a; intro a S)
    (revert S a; refine go 2 ?_; intro a S)
    refine wgd S ?_ ?_
    ·(clear S; intro h S)
     (revert S a; refine go 4 ?_; intro a S)
     first | (refine wv S (sv_indexSN S rfl rfl rfl (by first | omega | (simp only [List.length_append, List.length_cons, List.length_nil]; omega))) ?_; clear S a; intro a S) | (refine wv S (sv_indexS S rfl rfl rfl (by first | omega | (simp only [List.length_append, List.length_cons, List.length_nil]; omega))) ?_; clear S a; intro a S)
     (revert S a; revert hZ Z; refine go 5 ?_; intro a S)
     refine wpc_sp S rfl ?_ ?_ <;> intro h
     ·(revert S a; refine go 4 ?_; intro a S)
      refine wp_ret (fr1 S Tryz.results150 ?_)
      exact zzBig20
     (revert S a; revert hZ Z; refine go 6 ?_; intro a S)
     change ∃ m', _ ∧ _
     exact zzBig21
    (clear S a; intro h a S)
    (revert S a; revert hZ Z; refine go 6 ?_; intro a S)
    refine wpc_true S rfl ?_
    (revert S a; refine go 4 ?_; intro a S)
    refine wp_ret (fr1 S Tryz.results150 ?_)
    exact zzBig20
   (refine wp_exit ?_; conv => whnf)
   clear hZ Z
   (revert S a; revert hZ Z; refine go 8 ?_; intro Z hZ a S)
   refine wpc_sp S rfl ?_ ?_ <;> intro h
   ·(revert S a; refine go 4 ?_; intro a S)
    refine wp_ret (fr1 S Tryz.results150 ?_)
    exact zzBig20
   (revert S a; revert hZ Z; refine go 6 ?_; intro a S)
   refine wp_ret (fr1 S Tryz.results150 ?_)
   exact zzBig20
  (clear S a; intro h a S)
  (revert S a; revert hZ Z; refine go 6 ?_; intro a S)
  refine wpc_false S rfl ?_
  (revert S a; revert hZ Z; refine go 10 ?_; intro Z hZ a S)
  refine wpc_loop (fun m a w' => ∃ (i : Nat), m = d.length - i ∧ i ≤ d.length ∧ (∀ j, j < i → isD (d.getD j 0) = true) ∧ St 37 [(3, .string (bs d)), (19, .int .i64 d.length), (20, .int .i64 i)] w0 F [] F [] a w') ?_ ?_
  ·(refine ⟨d.length, 0, rfl, Nat.zero_le _, (fun j hj => absurd hj (by omega)), ?_⟩; refine S.keep ?_; exact zk)
  (clear S; rintro m a w ⟨i, rfl, hi, hall, S⟩)
  (revert S a; refine go 5 ?_; intro Z hZ a S)
  refine wpc_sp S rfl ?_ ?_ <;> intro h
  ·(revert S a; revert hZ Z; refine go 12 ?_; intro Z hZ Z hZ a S)
   first | (refine wv S (sv_indexSN S rfl rfl rfl (by first | omega | (simp only [List.length_append, List.length_cons, List.length_nil]; omega))) ?_; clear S a; intro a S) | (refine wv S (sv_indexS S rfl rfl rfl (by first | omega | (simp only [List.length_append, List.length_cons, List.length_nil]; omega))) ?_; clear S a; intro a S)
   (revert S a; refine go 2 ?_; intro a S)
   refine wgd S ?_ ?_
   ·(clear S; intro h S)
    (revert S a; refine go 4 ?_; intro a S)
    first | (refine wv S (sv_indexSN S rfl rfl rfl (by first | omega | (simp only [List.length_append, List.length_cons, List.length_nil]; omega))) ?_; clear S a; intro a S) | (refine wv S (sv_indexS S rfl rfl rfl (by first | omega | (simp only [List.length_append, List.length_cons, List.length_nil]; omega))) ?_; clear S a; intro a S)
    (revert S a; revert hZ Z; refine go 5 ?_; intro a S)
    refine wpc_sp S rfl ?_ ?_ <;> intro h
    ·(revert S a; refine go 4 ?_; intro a S)
     refine wp_ret (fr1 S Tryz.results150 ?_)
     exact zzBig20
    (revert S a; revert hZ Z; refine go 6 ?_; intro a S)
    change ∃ m', _ ∧ _
    exact zzBig21
   (clear S a; intro h a S)
   (revert S a; revert hZ Z; refine go 6 ?_; intro a S)
   refine wpc_true S rfl ?_
   (revert S a; refine go 4 ?_; intro a S)
   refine wp_ret (fr1 S Tryz.results150 ?_)
   exact zzBig20
  (refine wp_exit ?_; conv => whnf)
  clear hZ Z
  (revert S a; revert hZ Z; refine go 8 ?_; intro Z hZ a S)
  refine wpc_sp S rfl ?_ ?_ <;> intro h
  ·(revert S a; refine go 4 ?_; intro a S)
   refine wp_ret (fr1 S Tryz.results150 ?_)
   exact zzBig20
  (revert S a; revert hZ Z; refine go 6 ?_; intro a S)
  refine wp_ret (fr1 S Tryz.results150 ?_)
  exact zzBig20
 (clear S a; intro h a S)
 (revert S a; revert hZ Z; refine go 9 ?_; intro a S)
 refine wpc_true S rfl ?_
 (revert S a; refine go 4 ?_; intro a S)
 refine wp_ret (fr1 S Tryz.results150 ?_)
 exact zzBig20
def NumV (F : Heap) (u : Value) (neg : Bool) (N : Nat) : Prop := ∃ ps, u = .agg ⟨[.bool neg, ps]⟩ ∧ Mag F ps N
theorem NumV.mono {F F' : Heap} {u : Value} {neg N} (hF : ∀ b o, F b = some o → F' b = some o) (h : NumV F u neg N) : NumV F' u neg N := by
 obtain ⟨ps, h1, h2⟩ := h; exact ⟨ps, h1, h2.mono hF⟩
theorem dv_cast {c : UInt8} (h : isD c = true) : ((c.toNat : Int) - 48) = ((dv c : Nat) : Int) := by
 have := (isD_iff c).1 h; unfold dv; omega
theorem own_snoc {e : TypeId} {v : Value} {k : Nat} {f : Nat → Nat} {gr : Grp} {x : Value} (h : OwnS e 1 v (k + 1) (cel k f ++ [x]) gr) (hx : x = .int .i64 ((f k : Nat) : Int)) : OwnS e 1 v (k + 1) (cel (k + 1) f) gr := by
 rw [cel_succ, ← hx]; exact h
theorem ofCt (s : List UInt8) (F : Heap) (hck : checkS s = 0) : Ct Tryz.prog 151 [.string (bs s)] F [] (fun F' _ u => NumV F' u (negS s) (decV (bodyS s))) := by
 obtain ⟨hall, hlen, hne⟩ := check_digits hck
 have hsl : s.length ≤ 201 := by
  have h1 : s.length ≤ (bodyS s).length + 1 := by unfold bodyS; split <;> simp; omega
  omega
 have htd := trimDashCt s F (by omega)
 have hneg : decide (((bodyS s).length : Int) < (s.length : Int)) = negS s := by
  unfold negS; simp only [Int.ofNat_lt, bodyS_lt]
 generalize hd : bodyS s = d at *
 refine Ct.enter Tryz.func151 rfl Tryz.ntmps151 rfl fun w0 a S => ?_
 refine wp_sr fun Z hZ => ?_
 (refine wpl_alloc S rfl rfl rfl rfl ?_; clear S a; intro b1 a w S)
 (revert S a; revert hZ Z; refine go 4 ?_; intro Z hZ a S)
 (refine wc0 S (htd) ?_; clear S a; intro v a w hv S; subst hv)
 (revert S a; revert hZ Z; refine go 10 ?_; intro Z hZ a S)
 (refine wpl_alloc S rfl rfl rfl rfl ?_; clear S a; intro b2 a w S)
 (refine wso S rfl rfl ?_; clear S; intro w S)
 (revert S a; revert hZ Z; refine go 10 ?_; intro Z hZ a S)
 refine wpc_loop (fun m a w' => ∃ (e : Int) (c : Nat) (v : Value) (g : Grp), m = e.toNat ∧ e + 9 * c = d.length ∧ -9 < e ∧ OwnS 2 1 v c (cel c (dig 1000000000 (decV d))) g ∧ St 49 [(2, .pointer (some ⟨b1, 0, none⟩)), (4, .pointer (some ⟨b2, 0, none⟩)), (3, .string (bs d)), (5, .int .i64 e)] w0 F [] F [g, [(b2, .cells ⟨[.bool (negS s), v]⟩ 180 (0, 0))], [(b1, .cells ⟨[.bool false, .slice none 0 0]⟩ 180 (0, 0))]] a w') ?_ ?_
 ·(refine ⟨_, (d.length : Int), 0, _, _, rfl, by omega, by omega, OwnS.nil _ _, ?_⟩; replace S := S.nilg; rw [hneg] at S; refine S.keep ?_; exact zk)
 (clear S; rintro m a w ⟨e, c, v, g, rfl, he, he9, hown, S⟩)
 (revert S a; refine go 6 ?_; intro Z hZ a S)
 refine wpc_sp S rfl ?_ ?_ <;> intro h
 ·(revert S a; revert hZ Z; refine go 9 ?_; intro Z hZ Z hZ a S)
  (revert S a; refine go 3 ?_; intro Z hZ a S)
  first | (refine wv S (sv_maxN S rfl rfl rfl) ?_; clear S a; intro a S) | (refine wv S (sv_max0 S rfl rfl rfl) ?_; clear S a; intro a S)
  (revert S a; revert hZ Z; refine go 4 ?_; intro a S)
  refine wpc_loop (fun m a w' => ∃ (i n : Nat), m = e.toNat - i ∧ (e - 9).toNat ≤ i ∧ i ≤ e.toNat ∧ decV (d.take i) = decV (d.take (e - 9).toNat) * 10 ^ (i - (e - 9).toNat) + n ∧ n < 10 ^ (i - (e - 9).toNat) ∧ St 49 [(2, .pointer (some ⟨b1, 0, none⟩)), (4, .pointer (some ⟨b2, 0, none⟩)), (3, .string (bs d)), (5, .int .i64 e), (6, .int .i64 n), (7, .int .i64 i)] w0 F [] F [g, [(b2, .cells ⟨[.bool (negS s), v]⟩ 180 (0, 0))], [(b1, .cells ⟨[.bool false, .slice none 0 0]⟩ 180 (0, 0))]] a w') ?_ ?_
  ·(refine ⟨_, (e - 9).toNat, 0, rfl, Nat.le_refl _, by omega, by simp, by simp, ?_⟩; refine S.keep ?_; exact zk)
  (clear S; rintro m a w ⟨i, n, rfl, hi1, hi2, hdec, hnl, S⟩)
  (revert S a; refine go 7 ?_; intro Z hZ a S)
  refine wpc_sp S rfl ?_ ?_ <;> intro h
  ·(revert S a; revert hZ Z; refine go 4 ?_; intro Z hZ a S)
   (have hisd := all_getD hall (k := i) (by omega); have hdv := dv_cast hisd; have hdl := dv_lt hisd; have hn9 : n < 10 ^ 9 := Nat.lt_of_lt_of_le hnl (Nat.pow_le_pow_right (by decide) (by omega)); have hisd2 := (isD_iff _).1 hisd)
   (revert S a; refine go 2 ?_; intro a S)
   (refine wv S (sv_mul S rfl rfl rfl (by first | omega | (simp only [List.length_append, List.length_cons, List.length_nil]; omega))) ?_; clear S a; intro a S)
   (revert S a; refine go 2 ?_; intro a S)
   (refine wv S (sv_indexSN (i := i) S rfl rfl rfl (by omega)) ?_; clear S a; intro a S)
   (refine wv S (sv_sub8 S rfl rfl rfl (by first | omega | (simp only [List.length_append, List.length_cons, List.length_nil]; omega))) ?_; clear S a; intro a S)
   (refine wv S (sv_conv_i64 S rfl rfl (by first | omega | (simp only [List.length_append, List.length_cons, List.length_nil]; omega))) ?_; clear S a; intro a S)
   (revert S a; revert hZ Z; refine go 9 ?_; intro a S)
   change ∃ m', _ ∧ _
   (refine ⟨_, by omega, i + 1, 10 * n + dv (d.getD i 0), rfl, by omega, by omega, ?_, ?_, ?_⟩; rotate_left 2; (rw [hdv] at S; refine S.keep ?_; exact zk); (rw [decV_take_succ (by omega), show i + 1 - (e - 9).toNat = (i - (e - 9).toNat) + 1 by omega, Nat.pow_succ]; exact dec_step hdec); (rw [show i + 1 - (e - 9).toNat = (i - (e - 9).toNat) + 1 by omega, Nat.pow_succ]; omega))
  (refine wp_exit ?_; conv => whnf)
  clear hZ Z
  (revert S a; revert hZ Z; refine go 5 ?_; intro a S)
  (refine wpl_append S rfl rfl rfl rfl rfl rfl rfl rfl rfl rfl rfl (fun _ => rfl) hown (by rfl) (by simp [Value.cells, splice, splice]) (by simp [Value.cells, Value.oneCell', splice, splice]) rfl (by rfl) (by rfl) rfl (by omega) (by omega) ?_; clear hown S a; intro v u g a w hown S)
  (revert S a; refine go 1 ?_; intro a S)
  (refine wpl_store1 S rfl rfl rfl rfl rfl hown.oneCell (by simp) ?_; clear S; intro w S)
  (revert S a; revert hZ Z; refine go 7 ?_; intro a S)
  change ∃ m', _ ∧ _
  (refine ⟨_, by omega, e - 9, c + 1, v, g, rfl, by omega, by omega, own_snoc hown (congrArg _ ?_), ?_⟩; rotate_left 1; (refine S.keep ?_; exact zk); rw [dig_chunk hall (e := e.toNat) (by omega)]; have hie : i = e.toNat := (by omega); subst hie; rw [chunk (f := (e - 9).toNat) (by omega) hdec hnl])
 (refine wp_exit ?_; conv => whnf)
 clear hZ Z
 (refine hZ _ _ ?_; clear hZ Z)
 (refine wp_seq_k ?_; intro Z hZ)
 (replace S := St.freeze (G1 := []) S; simp only [List.nil_append] at S; have hsl3 := hown.slC F; have hlt : decV d < 1000000000 ^ c := Nat.lt_of_lt_of_le (decV_lt d hall) (by rw [show (1000000000 : Nat) = 10 ^ 9 by decide, ← Nat.pow_mul]; exact Nat.pow_le_pow_right (by decide) (by omega)))
 (revert S a; refine go 3 ?_; intro a S)
 (refine wc0 S (trimCt (decV d) c _ _ hlt (by omega) hsl3) ?_; clear S a; intro u a w hu S; have hu0 := hu; obtain ⟨uo, uc, rfl, hu1, hu2⟩ := hu)
 (revert S a; refine go 1 ?_; intro a S)
 (refine wpl_store1 S rfl rfl rfl rfl rfl rfl (by first | (simp; done) | (simp [Value.cells]; done) | exact Nat.le_of_ble_eq_true rfl) ?_; clear S; intro w S)
 (revert S a; revert hZ Z; refine go 4 ?_; intro Z hZ a S)
 (refine wso S rfl rfl ?_; clear S; intro w S)
 (revert S a; revert hZ Z; refine go 2 ?_; intro a S)
 refine wp_ret (fin_ret S (results1 Tryz.results151 (RV.cellO S rfl (by rfl))) ?_)
 exact ⟨_, rfl, hu0⟩
theorem isNaN1 (x : Int) (F : Heap) : Ct Tryz.prog 223 [.int .i64 x] F [] (fun _ _ u => u = .bool false) := by
 refine Ct.enter Tryz.func223 rfl Tryz.ntmps223 rfl fun w0 a S => ?_
 (revert S a; refine go 11 ?_; intro a S)
 refine wp_ret (fr1 S Tryz.results223 ?_)
 (simp)
theorem isNaN2 (x : Int) (F : Heap) : Ct Tryz.prog 224 [.int .i64 x] F [] (fun _ _ u => u = .bool false) := by
 refine Ct.enter Tryz.func224 rfl Tryz.ntmps224 rfl fun w0 a S => ?_
 (revert S a; refine go 11 ?_; intro a S)
 refine wp_ret (fr1 S Tryz.results224 ?_)
 (simp)
def cmpI (x y : Int) : Int := if x < y then -1 else if y < x then 1 else 0
theorem compare1 (x y : Int) (F : Heap) : Ct Tryz.prog 188 [.int .i64 x, .int .i64 y] F [] (fun _ _ u => u = .int .i64 (cmpI x y)) := by
 refine Ct.enter Tryz.func188 rfl Tryz.ntmps188 rfl fun w0 a S => ?_
 (revert S a; refine go 6 ?_; intro Z hZ a S)
 (refine wc0 S (isNaN1 _ F) ?_; clear S a; intro v a w hv S; subst hv)
 (revert S a; revert hZ Z; refine go 5 ?_; intro Z hZ a S)
 (refine wc0 S (isNaN1 _ F) ?_; clear S a; intro v a w hv S; subst hv)
 (revert S a; revert hZ Z; refine go 8 ?_; intro Z hZ a S)
 refine wpc_split S rfl (fun h => ?_) (fun h => ?_)
 ·(skip; (try simp only [tq] at h); cases h)
 (skip; (try simp only [tq] at h))
 (revert S a; revert hZ Z; refine go 7 ?_; intro Z hZ a S)
 refine wpc_split S rfl (fun h => ?_) (fun h => ?_)
 ·(skip; (try simp only [tq] at h); cases h)
 (skip; (try simp only [tq] at h))
 (revert S a; revert hZ Z; refine go 9 ?_; intro Z hZ a S)
 refine wpc_sp S rfl ?_ ?_ <;> intro h
 ·(revert S a; refine go 4 ?_; intro a S)
  refine wp_ret (fr1 S Tryz.results188 ?_)
  (unfold cmpI; (repeat (first | rw [if_pos (by assumption)] | rw [if_neg (by omega)])))
 (revert S a; revert hZ Z; refine go 9 ?_; intro Z hZ a S)
 refine wpc_sp S rfl ?_ ?_ <;> intro h
 ·(revert S a; refine go 4 ?_; intro a S)
  refine wp_ret (fr1 S Tryz.results188 ?_)
  (unfold cmpI; (repeat (first | rw [if_pos (by assumption)] | rw [if_neg (by omega)])))
 (revert S a; revert hZ Z; refine go 6 ?_; intro a S)
 refine wp_ret (fr1 S Tryz.results188 ?_)
 (unfold cmpI; (repeat (first | rw [if_pos (by assumption)] | rw [if_neg (by omega)])))
theorem compare2 (x y : Int) (F : Heap) : Ct Tryz.prog 189 [.int .i64 x, .int .i64 y] F [] (fun _ _ u => u = .int .i64 (cmpI x y)) := by
 refine Ct.enter Tryz.func189 rfl Tryz.ntmps189 rfl fun w0 a S => ?_
 (revert S a; refine go 6 ?_; intro Z hZ a S)
 (refine wc0 S (isNaN2 _ F) ?_; clear S a; intro v a w hv S; subst hv)
 (revert S a; revert hZ Z; refine go 5 ?_; intro Z hZ a S)
 (refine wc0 S (isNaN2 _ F) ?_; clear S a; intro v a w hv S; subst hv)
 (revert S a; revert hZ Z; refine go 8 ?_; intro Z hZ a S)
 refine wpc_split S rfl (fun h => ?_) (fun h => ?_)
 ·(skip; (try simp only [tq] at h); cases h)
 (skip; (try simp only [tq] at h))
 (revert S a; revert hZ Z; refine go 7 ?_; intro Z hZ a S)
 refine wpc_split S rfl (fun h => ?_) (fun h => ?_)
 ·(skip; (try simp only [tq] at h); cases h)
 (skip; (try simp only [tq] at h))
 (revert S a; revert hZ Z; refine go 9 ?_; intro Z hZ a S)
 refine wpc_sp S rfl ?_ ?_ <;> intro h
 ·(revert S a; refine go 4 ?_; intro a S)
  refine wp_ret (fr1 S Tryz.results189 ?_)
  (unfold cmpI; (repeat (first | rw [if_pos (by assumption)] | rw [if_neg (by omega)])))
 (revert S a; revert hZ Z; refine go 9 ?_; intro Z hZ a S)
 refine wpc_sp S rfl ?_ ?_ <;> intro h
 ·(revert S a; refine go 4 ?_; intro a S)
  refine wp_ret (fr1 S Tryz.results189 ?_)
  (unfold cmpI; (repeat (first | rw [if_pos (by assumption)] | rw [if_neg (by omega)])))
 (revert S a; revert hZ Z; refine go 6 ?_; intro a S)
 refine wp_ret (fr1 S Tryz.results189 ?_)
 (unfold cmpI; (repeat (first | rw [if_pos (by assumption)] | rw [if_neg (by omega)])))
theorem backwardCt (v : Value) (F : Heap) : Ct Tryz.prog 152 [v] F [] (fun _ G' u => ∃ bx, u = .func (.func 183) ⟨[]⟩ ⟨[.pointer (some ⟨bx, 0, none⟩)]⟩ ∧ G' = [[(bx, .cells ⟨v.cells.toList⟩ 178 (0, 0))]]) := by
 refine Ct.enter Tryz.func152 rfl Tryz.ntmps152 rfl fun w0 a S => ?_
 refine wp_sr fun Z hZ => ?_
 (refine wbx S ?_; clear S a; intro b a w S)
 (revert S a; revert hZ Z; refine go 8 ?_; intro a S)
 refine wp_ret (fr1 S Tryz.results152 ?_)
 exact ⟨_, rfl, rfl⟩
theorem div_eq (b A j : Nat) : A / b ^ j = b * (A / b ^ (j + 1)) + dig b A j := by
 rw [Nat.pow_succ, ← Nat.div_div_eq_div_mul]; exact (Nat.div_add_mod _ _).symm
theorem lt_of_div {b A C j : Nat} (h : A / b ^ j < C / b ^ j) : A < C := by
 rcases Nat.lt_or_ge A C with h1 | h1
 ·exact h1
 ·have := Nat.div_le_div_right (c := b ^ j) h1; omega
theorem lt_of_nd {b A C : Nat} (hb : 2 ≤ b) (h : nd b A < nd b C) : A < C := by
 have hC : 0 < C := by
  rcases Nat.eq_zero_or_pos C with e | e
  ·subst e; rw [nd_zero] at h; omega
  ·exact e
 exact Nat.lt_of_lt_of_le (lt_nd hb A) (Nat.le_trans (Nat.pow_le_pow_right (by omega) (by omega)) (le_pow_nd hb hC))
theorem cmp_len {A C : Nat} (h : ¬ ((nd 1000000000 A : Int) = (nd 1000000000 C : Int))) : cmpI (nd 1000000000 A) (nd 1000000000 C) = cmpI A C := by
 have hne : nd 1000000000 A ≠ nd 1000000000 C := fun e => h (by rw [e])
 unfold cmpI
 rcases Nat.lt_or_gt_of_ne hne with h1 | h1
 ·have := lt_of_nd b2 h1
  rw [if_pos (by omega), if_pos (by omega)]
 ·have := lt_of_nd b2 h1
  rw [if_neg (by omega), if_pos (by omega), if_neg (by omega), if_pos (by omega)]
theorem top_eq {b A C j : Nat} (h : A / b ^ (j + 1) = C / b ^ (j + 1)) (hd : ((dig b A j : Nat) : Int) = ((dig b C j : Nat) : Int)) : A / b ^ j = C / b ^ j := by
 rw [div_eq, div_eq b C, h]; omega
theorem cmp_dig {b A C j : Nat} (h : A / b ^ (j + 1) = C / b ^ (j + 1)) (hd : ¬ ((dig b A j : Nat) : Int) = ((dig b C j : Nat) : Int)) : cmpI (dig b A j) (dig b C j) = cmpI A C := by
 have e1 := div_eq b A j
 have e2 := div_eq b C j
 rw [h] at e1
 unfold cmpI
 have hne : dig b A j ≠ dig b C j := fun e => hd (by rw [e])
 rcases Nat.lt_or_gt_of_ne hne with h1 | h1
 ·have := lt_of_div (b := b) (j := j) (A := A) (C := C) (by omega)
  rw [if_pos (by omega), if_pos (by omega)]
 ·have := lt_of_div (b := b) (j := j) (A := C) (C := A) (by omega)
  rw [if_neg (by omega), if_pos (by omega), if_neg (by omega), if_pos (by omega)]
theorem sizesCt (A C : Nat) (v u : Value) (F : Heap) (hlA : nd 1000000000 A ≤ 1000000) (hlC : nd 1000000000 C ≤ 1000000) (hv : Mag F v A) (hu : Mag F u C) : Ct Tryz.prog 159 [v, u] F [] (fun _ _ r => r = .int .i64 (cmpI A C)) := by
 obtain ⟨ao, ca, rfl, hca, hpa⟩ := hv
 obtain ⟨co, cc, rfl, hcc, hpc⟩ := hu
 refine Ct.enterM Tryz.func159 rfl Tryz.ntmps159 rfl fun w0 a S => ?_
 (refine wpIn_seq_k ?_; intro Z hZ)
 refine wpi_region rfl ?_
 (refine wbx S ?_; clear S a; intro b3 a w S)
 (refine wpl_alloc S rfl rfl rfl rfl ?_; clear S a; intro b4 a w S)
 (revert S a; revert hZ Z; refine go 2 ?_; intro a S)
 iterate 2 (refine wpIn_seq_k ?_; intro Z hZ)
 refine wpi_region rfl ?_
 (revert S a; revert hZ Z; refine go 7 ?_; intro a S)
 refine wpi_split S rfl (fun h => ?_) (fun h => ?_)
 ·(skip; (try simp only [tq] at h))
  (refine wpIn_seq_k ?_; intro Z hZ)
  refine wpi_region rfl ?_
  (revert S a; refine go 4 ?_; intro a S)
  (refine wc0 S (compare1 _ _ F) ?_; clear S a; intro v a w hv S; subst hv)
  (refine wpl_store1 S rfl rfl rfl rfl rfl rfl (by first | (simp; done) | (simp [Value.cells]; done) | exact Nat.le_of_ble_eq_true rfl) ?_; clear S; intro w S)
  (revert S a; revert hZ Z; refine go 2 ?_; intro a S)
  refine wpIn_ret ?_
  refine fin_retN S (results1 Tryz.results159 (RV.cell1O S rfl (by rfl))) ?_
  (rw [cmp_len h])
 (skip; (try simp only [tq] at h))
 refine wpIn_skip ?_
 (refine hZ _ _ ?_; clear hZ Z)
 iterate 2 (refine wpIn_seq_k ?_; intro Z hZ)
 refine wpi_region rfl ?_
 (revert S a; refine go 1 ?_; intro a S)
 (refine wpl_callFrz S rfl rfl rfl rfl rfl rfl (backwardCt _ F) rfl ?_; clear S a; intro bx F5 a w hF5 hbx S; have hbox := hbx 0 _ rfl)
 (revert S a; revert hZ Z; refine go 2 ?_; intro a S)
 refine wpIn_block ?_
 refine wpi_back S rfl rfl rfl rfl (backIter bx (nd 1000000000 A) (dig 1000000000 A) F5 ao ca (by omega) hbox (fun h0 => by obtain ⟨b, off, h1, h2⟩ := hpa h0; exact ⟨b, off, h1, h2.mono hF5⟩)) (fun j F2 G2 => F5 = F2 ∧ G2 = [[(b4, .cells ⟨[.int .i64 0]⟩ 3 (0, 0))], [(b3, .cells ⟨[.slice co (nd 1000000000 C) cc]⟩ 178 (0, 0))]] ∧ A / 1000000000 ^ j = C / 1000000000 ^ j) (fun F2 G2 => F5 = F2 ∧ G2 = [[(b4, .cells ⟨[.int .i64 (cmpI A C)]⟩ 3 (0, 0))], [(b3, .cells ⟨[.slice co (nd 1000000000 C) cc]⟩ 178 (0, 0))]]) (⟨rfl, rfl, by rw [Nat.div_eq_of_lt (lt_nd b2 A), Nat.div_eq_of_lt (by have := lt_nd b2 C; rw [show nd 1000000000 C = nd 1000000000 A by omega] at this; exact this)]⟩) (fun j => [(5, .int .i64 (j : Int)), (6, .int .i64 ((dig 1000000000 A j : Nat) : Int)), (3, .pointer (some ⟨b3, 0, none⟩)), (4, .pointer (some ⟨b4, 0, none⟩))]) ?_ ?_ ?_ ?_
 ·(clear S; intro r j w F1 G1 a KA S hKA)
  (refine wpIn_seq_k ?_; intro Z hZ)
  refine wpi_region rfl ?_
  (revert S a; revert hZ Z; refine go 3 ?_; intro a S)
  refine wpi_region rfl ?_
  (revert S a; refine go 2 ?_; intro a S)
  (refine hKA _ ?_; refine S.keep ?_; exact zk)
 ·(clear S; intro r j w F1 G1 a hj hF1 hI S)
  (obtain ⟨rfl, rfl, he⟩ := hI; obtain ⟨bc, offc, rfl, hcs⟩ := hpc (by omega); have hcf := (celN hcs (j := j) (by omega)).mono hF5)
  refine wpIn_block ?_
  (refine wpIn_seq_k ?_; intro Z hZ)
  refine wpi_region rfl ?_
  (revert S a; revert hZ Z; refine go 8 ?_; intro a S)
  refine wpi_split S rfl (fun h => ?_) (fun h => ?_)
  ·(skip; (try simp only [tq] at h))
   (refine wpIn_seq_k ?_; intro Z hZ)
   refine wpi_region rfl ?_
   (revert S a; refine go 5 ?_; intro a S)
   (refine wc0 S (compare2 _ _ F5) ?_; clear S a; intro v a w hv S; subst hv)
   (refine wpl_store1 S rfl rfl rfl rfl rfl rfl (by first | (simp; done) | (simp [Value.cells]; done) | exact Nat.le_of_ble_eq_true rfl) ?_; clear S; intro w S)
   (revert S a; revert hZ Z; refine go 2 ?_; intro a S)
   refine wpIn_ret ?_
   skip
   refine round_ret S.tr ?_
   exact ⟨rfl, by rw [← cmp_dig he h]; rfl⟩
  (skip; (try simp only [tq] at h))
  refine wpIn_skip ?_
  skip
  refine round_normal S.tr ?_
  exact ⟨rfl, rfl, top_eq he h⟩
 ·(clear S; intro D F1 G1 a w hF1 hI S)
  (obtain ⟨rfl, rfl, he⟩ := hI)
  (refine hZ _ _ ?_; clear hZ Z)
  (refine wpIn_seq_k ?_; intro Z hZ)
  refine wpi_region rfl ?_
  (refine wpl_store1 S rfl rfl rfl rfl rfl rfl (by first | (simp; done) | (simp [Value.cells]; done) | exact Nat.le_of_ble_eq_true rfl) ?_; clear S; intro w S)
  (revert S a; revert hZ Z; refine go 2 ?_; intro a S)
  refine wpIn_ret ?_
  (refine fin_retM S fun w S => ?_; try (dsimp only at S))
  refine ⟨_, results1 Tryz.results159 (RV.cell1O S rfl (by rfl)), ?_⟩
  (first | rfl | (have he2 : A = C := (by simpa using he); subst he2; unfold cmpI; rw [if_neg (by omega), if_neg (by omega)]))
 (clear S; intro D F1 G1 a w hF1 hI S)
 (obtain ⟨rfl, rfl⟩ := hI)
 (refine fin_retM S fun w S => ?_; try (dsimp only at S))
 refine ⟨_, results1 Tryz.results159 (RV.cell1O S rfl (by rfl)), ?_⟩
 (first | rfl | (have he2 : A = C := (by simpa using he); subst he2; unfold cmpI; rw [if_neg (by omega), if_neg (by omega)]))
def addS (n1 : Bool) (A : Nat) (n2 : Bool) (C : Nat) : Bool × Nat := if n1 = n2 then (n1, A + C) else if 0 ≤ cmpI A C then (n1, A - C) else (n2, C - A)
def toZ (x : Bool × Nat) : Int := if x.1 then -(x.2 : Int) else x.2
theorem toZ_addS (n1 : Bool) (A : Nat) (n2 : Bool) (C : Nat) : toZ (addS n1 A n2 C) = toZ (n1, A) + toZ (n2, C) := by
 unfold addS toZ cmpI
 by_cases h1 : (A : Int) < C
 ·rw [if_pos h1]; cases n1 <;> cases n2 <;> simp <;> omega
 ·rw [if_neg h1]
  by_cases h2 : (C : Int) < A
  ·rw [if_pos h2]; cases n1 <;> cases n2 <;> simp <;> omega
  ·rw [if_neg h2]; cases n1 <;> cases n2 <;> simp <;> omega
def NumZ (F : Heap) (u : Value) (x : Bool × Nat) : Prop := NumV F u x.1 x.2
theorem cmp_le {A C : Nat} (h : 0 ≤ cmpI A C) : C ≤ A := by
 unfold cmpI at h; split at h; omega; omega
theorem cmp_gt {A C : Nat} (h : ¬ 0 ≤ cmpI A C) : A ≤ C := by
 unfold cmpI at h; split at h; omega; split at h <;> omega
theorem zzBig50 {p : Prop} (h : p := by (first | (rw [show addS n1 A n2 C = (n1, A + C) from (by unfold addS; rw [if_pos (by assumption)])]; exact ⟨_, rfl, hv⟩) | (rw [show addS n1 A n2 C = (n1, A - C) from (by unfold addS; rw [if_neg (by assumption), if_pos (by assumption)])]; exact ⟨_, rfl, hv⟩) | (rw [show addS n1 A n2 C = (n2, C - A) from (by unfold addS; rw [if_neg (by assumption), if_neg (by assumption)])]; exact ⟨_, rfl, hv⟩))) : p := h
theorem addCt (n1 : Bool) (A : Nat) (n2 : Bool) (C : Nat) (v u : Value) (F : Heap) (hlA : nd 1000000000 A ≤ 1000000) (hlC : nd 1000000000 C ≤ 1000000) (hv : NumV F v n1 A) (hu : NumV F u n2 C) : Ct Tryz.prog 112 [v, u] F [] (fun F' _ r => NumZ F' r (addS n1 A n2 C)) := by
 obtain ⟨pv, rfl, hpv⟩ := hv
 obtain ⟨pu, rfl, hpu⟩ := hu
 have hv0 := hpv
 have hu0 := hpu
 obtain ⟨ao, ca, rfl, -, -⟩ := hv0
 obtain ⟨co, cc, rfl, -, -⟩ := hu0
 refine Ct.enter Tryz.func112 rfl Tryz.ntmps112 rfl fun w0 a S => ?_
 refine wp_sr fun Z hZ => ?_
 (refine wbx S ?_; clear S a; intro b2 a w S)
 (refine wbx S ?_; clear S a; intro b3 a w S)
 (refine wpl_alloc S rfl rfl rfl rfl ?_; clear S a; intro b a w S)
 (revert S a; revert hZ Z; refine go 13 ?_; intro Z hZ a S)
 refine wpc_sp S rfl ?_ ?_ <;> intro h
 ·(refine wp_seq_k ?_; intro Z hZ)
  (refine wpc_mixL [0, 1, 2, 3, 4, 5, 7] [1] [b2, b3] S mixed (by kernel_rfl) ?_; clear S; intro w S)
  refine wppk_one rfl rfl ?_
  (refine wpp_v S rfl rfl rfl rfl (fun _ S => sv_fieldAddr S rfl rfl rfl inferInstance rfl) ?_; clear S a; intro a S)
  refine wpp_nil ?_
  first | (refine wppk_late S rfl rfl rfl rfl rfl (fun w' hw => hw.1) (fun w' S => sv_loadO S rfl rfl (by rfl)) ?_; clear S a; intro a S) | (refine wppk_late S rfl rfl rfl rfl rfl (fun w' hw => hw.1) (fun w' S => sv_loadAO S rfl rfl (by rfl)) ?_; clear S a; intro a S) | (refine wppk_late S rfl rfl rfl rfl rfl (fun w' hw => hw.2.1) (fun w' S => sv_loadO S rfl rfl (by rfl)) ?_; clear S a; intro a S) | (refine wppk_late S rfl rfl rfl rfl rfl (fun w' hw => hw.2.1) (fun w' S => sv_loadAO S rfl rfl (by rfl)) ?_; clear S a; intro a S)
  refine wppk_one rfl rfl ?_
  (refine wpp_v S rfl rfl rfl rfl (fun _ S => sv_fieldAddr S rfl rfl rfl inferInstance rfl) ?_; clear S a; intro a S)
  refine wpp_nil ?_
  refine wppk_one rfl rfl ?_
  first | (refine wpp_s S rfl rfl rfl rfl (sv_loadO S rfl rfl (by rfl)) ?_; clear S a; intro a S) | (refine wpp_s S rfl rfl rfl rfl (sv_loadF S rfl rfl (by assumption)) ?_; clear S a; intro a S)
  refine wpp_nil ?_
  refine wppk_one rfl rfl ?_
  (refine wpp_v S rfl rfl rfl rfl (fun _ S => sv_fieldAddr S rfl rfl rfl inferInstance rfl) ?_; clear S a; intro a S)
  refine wpp_nil ?_
  refine wppk_one rfl rfl ?_
  first | (refine wpp_s S rfl rfl rfl rfl (sv_loadO S rfl rfl (by rfl)) ?_; clear S a; intro a S) | (refine wpp_s S rfl rfl rfl rfl (sv_loadF S rfl rfl (by assumption)) ?_; clear S a; intro a S)
  refine wpp_nil ?_
  refine wplk_one rfl ⟨S.has inferInstance, S.has inferInstance, trivial⟩ ?_
  (refine wcF S (plusCt A C _ _ F hlA hlC hpv hpu) ?_; clear S a; intro v F1 a w hv hF1 S; have hv0 := hv; obtain ⟨ro, rc, rfl, -, -⟩ := hv0)
  refine wpList_nil ?_
  refine wppk_one rfl rfl ?_
  (refine wpp_v S rfl rfl rfl rfl (fun _ S => sv_build S rfl rfl rfl) ?_; clear S a; intro a S)
  refine wpp_nil ?_
  refine wplk_one rfl ⟨S.has inferInstance, S.has inferInstance, trivial⟩ ?_
  (refine wso S rfl rfl ?_; clear S; intro w S)
  refine wpList_nil ?_
  refine wplk_nil ⟨S.has inferInstance, S.has inferInstance, trivial⟩ ?_
  (refine hZ _ _ ?_; clear hZ Z)
  refine wp_ret (fin_ret S (results1 Tryz.results112 (RV.cellO S rfl (by rfl))) ?_)
  exact zzBig50
 (revert S a; refine go 5 ?_; intro Z hZ a S)
 (refine wc0 S (sizesCt A C _ _ F hlA hlC hpv hpu) ?_; clear S a; intro v a w hv S; subst hv)
 (revert S a; revert hZ Z; refine go 4 ?_; intro a S)
 refine wpc_sp S rfl ?_ ?_ <;> intro h
 ·(refine wp_seq_k ?_; intro Z hZ)
  (refine wpc_mixL [0, 1, 2, 3, 4, 5, 7] [1] [b2, b3] S mixed (by kernel_rfl) ?_; clear S; intro w S)
  refine wppk_one rfl rfl ?_
  (refine wpp_v S rfl rfl rfl rfl (fun _ S => sv_fieldAddr S rfl rfl rfl inferInstance rfl) ?_; clear S a; intro a S)
  refine wpp_nil ?_
  first | (refine wppk_late S rfl rfl rfl rfl rfl (fun w' hw => hw.1) (fun w' S => sv_loadO S rfl rfl (by rfl)) ?_; clear S a; intro a S) | (refine wppk_late S rfl rfl rfl rfl rfl (fun w' hw => hw.1) (fun w' S => sv_loadAO S rfl rfl (by rfl)) ?_; clear S a; intro a S) | (refine wppk_late S rfl rfl rfl rfl rfl (fun w' hw => hw.2.1) (fun w' S => sv_loadO S rfl rfl (by rfl)) ?_; clear S a; intro a S) | (refine wppk_late S rfl rfl rfl rfl rfl (fun w' hw => hw.2.1) (fun w' S => sv_loadAO S rfl rfl (by rfl)) ?_; clear S a; intro a S)
  refine wppk_one rfl rfl ?_
  (refine wpp_v S rfl rfl rfl rfl (fun _ S => sv_fieldAddr S rfl rfl rfl inferInstance rfl) ?_; clear S a; intro a S)
  refine wpp_nil ?_
  refine wppk_one rfl rfl ?_
  first | (refine wpp_s S rfl rfl rfl rfl (sv_loadO S rfl rfl (by rfl)) ?_; clear S a; intro a S) | (refine wpp_s S rfl rfl rfl rfl (sv_loadF S rfl rfl (by assumption)) ?_; clear S a; intro a S)
  refine wpp_nil ?_
  refine wppk_one rfl rfl ?_
  (refine wpp_v S rfl rfl rfl rfl (fun _ S => sv_fieldAddr S rfl rfl rfl inferInstance rfl) ?_; clear S a; intro a S)
  refine wpp_nil ?_
  refine wppk_one rfl rfl ?_
  first | (refine wpp_s S rfl rfl rfl rfl (sv_loadO S rfl rfl (by rfl)) ?_; clear S a; intro a S) | (refine wpp_s S rfl rfl rfl rfl (sv_loadF S rfl rfl (by assumption)) ?_; clear S a; intro a S)
  refine wpp_nil ?_
  refine wplk_one rfl ⟨S.has inferInstance, S.has inferInstance, trivial⟩ ?_
  (first | (refine wcF S (minusCt A C _ _ F (cmp_le h) hlA hlC hpv hpu) ?_; clear S a; intro v F1 a w hv hF1 S; have hv0 := hv; obtain ⟨ro, rc, rfl, -, -⟩ := hv0) | (refine wcF S (minusCt C A _ _ F (cmp_gt h) hlC hlA hpu hpv) ?_; clear S a; intro v F1 a w hv hF1 S; have hv0 := hv; obtain ⟨ro, rc, rfl, -, -⟩ := hv0))
  refine wpList_nil ?_
  refine wppk_one rfl rfl ?_
  (refine wpp_v S rfl rfl rfl rfl (fun _ S => sv_build S rfl rfl rfl) ?_; clear S a; intro a S)
  refine wpp_nil ?_
  refine wplk_one rfl ⟨S.has inferInstance, S.has inferInstance, trivial⟩ ?_
  (refine wso S rfl rfl ?_; clear S; intro w S)
  refine wpList_nil ?_
  refine wplk_nil ⟨S.has inferInstance, S.has inferInstance, trivial⟩ ?_
  (refine hZ _ _ ?_; clear hZ Z)
  refine wp_ret (fin_ret S (results1 Tryz.results112 (RV.cellO S rfl (by rfl))) ?_)
  exact zzBig50
 refine wp_skip ?_
 (refine hZ _ _ ?_; clear hZ Z)
 (refine wp_seq_k ?_; intro Z hZ)
 (refine wpc_mixL [0, 1, 2, 3, 4, 5, 7] [1] [b2, b3] S mixed (by kernel_rfl) ?_; clear S; intro w S)
 refine wppk_one rfl rfl ?_
 (refine wpp_v S rfl rfl rfl rfl (fun _ S => sv_fieldAddr S rfl rfl rfl inferInstance rfl) ?_; clear S a; intro a S)
 refine wpp_nil ?_
 first | (refine wppk_late S rfl rfl rfl rfl rfl (fun w' hw => hw.1) (fun w' S => sv_loadO S rfl rfl (by rfl)) ?_; clear S a; intro a S) | (refine wppk_late S rfl rfl rfl rfl rfl (fun w' hw => hw.1) (fun w' S => sv_loadAO S rfl rfl (by rfl)) ?_; clear S a; intro a S) | (refine wppk_late S rfl rfl rfl rfl rfl (fun w' hw => hw.2.1) (fun w' S => sv_loadO S rfl rfl (by rfl)) ?_; clear S a; intro a S) | (refine wppk_late S rfl rfl rfl rfl rfl (fun w' hw => hw.2.1) (fun w' S => sv_loadAO S rfl rfl (by rfl)) ?_; clear S a; intro a S)
 refine wppk_one rfl rfl ?_
 (refine wpp_v S rfl rfl rfl rfl (fun _ S => sv_fieldAddr S rfl rfl rfl inferInstance rfl) ?_; clear S a; intro a S)
 refine wpp_nil ?_
 refine wppk_one rfl rfl ?_
 first | (refine wpp_s S rfl rfl rfl rfl (sv_loadO S rfl rfl (by rfl)) ?_; clear S a; intro a S) | (refine wpp_s S rfl rfl rfl rfl (sv_loadF S rfl rfl (by assumption)) ?_; clear S a; intro a S)
 refine wpp_nil ?_
 refine wppk_one rfl rfl ?_
 (refine wpp_v S rfl rfl rfl rfl (fun _ S => sv_fieldAddr S rfl rfl rfl inferInstance rfl) ?_; clear S a; intro a S)
 refine wpp_nil ?_
 refine wppk_one rfl rfl ?_
 first | (refine wpp_s S rfl rfl rfl rfl (sv_loadO S rfl rfl (by rfl)) ?_; clear S a; intro a S) | (refine wpp_s S rfl rfl rfl rfl (sv_loadF S rfl rfl (by assumption)) ?_; clear S a; intro a S)
 refine wpp_nil ?_
 refine wplk_one rfl ⟨S.has inferInstance, S.has inferInstance, trivial⟩ ?_
 (first | (refine wcF S (minusCt A C _ _ F (cmp_le h) hlA hlC hpv hpu) ?_; clear S a; intro v F1 a w hv hF1 S; have hv0 := hv; obtain ⟨ro, rc, rfl, -, -⟩ := hv0) | (refine wcF S (minusCt C A _ _ F (cmp_gt h) hlC hlA hpu hpv) ?_; clear S a; intro v F1 a w hv hF1 S; have hv0 := hv; obtain ⟨ro, rc, rfl, -, -⟩ := hv0))
 refine wpList_nil ?_
 refine wppk_one rfl rfl ?_
 (refine wpp_v S rfl rfl rfl rfl (fun _ S => sv_build S rfl rfl rfl) ?_; clear S a; intro a S)
 refine wpp_nil ?_
 refine wplk_one rfl ⟨S.has inferInstance, S.has inferInstance, trivial⟩ ?_
 (refine wso S rfl rfl ?_; clear S; intro w S)
 refine wpList_nil ?_
 refine wplk_nil ⟨S.has inferInstance, S.has inferInstance, trivial⟩ ?_
 (refine hZ _ _ ?_; clear hZ Z)
 refine wp_ret (fin_ret S (results1 Tryz.results112 (RV.cellO S rfl (by rfl))) ?_)
 exact zzBig50
def bothE (s t : List UInt8) : Int := if checkS s = 0 then checkS t else checkS s
def BothV (F : Heap) (u : Value) (s t : List UInt8) : Prop :=
 if bothE s t = 0 then ∃ p q, u = .tuple ⟨[.agg ⟨[.bool (negS s), p]⟩, .agg ⟨[.bool (negS t), q]⟩, .int .i64 0]⟩ ∧ Mag F p (decV (bodyS s)) ∧ Mag F q (decV (bodyS t))
 else u = .tuple ⟨[.agg ⟨[.bool false, .slice none 0 0]⟩, .agg ⟨[.bool false, .slice none 0 0]⟩, .int .i64 (bothE s t)]⟩
theorem zzBig51 {p : Prop} (h : p := by (first | (unfold BothV; rw [if_pos (by unfold bothE; rw [if_pos (hc1 (by omega))]; exact hc2 (by omega))]; exact ⟨_, _, rfl, hpp.mono hF2, hpq⟩) | (have hbe : bothE s t = checkS x := (by unfold bothE; rcases hx0 with ⟨h8, rfl⟩ | ⟨h8, rfl⟩; (rw [if_neg h]); (rw [if_pos (hc1 (by omega))])); unfold BothV; rw [if_neg (by rw [hbe]; exact h), hbe]; rfl))) : p := h
theorem bothCt (s t : List UInt8) (F : Heap) (hs : s.length ≤ 1000000000) (ht : t.length ≤ 1000000000) : Ct Tryz.prog 110 [.string (bs s), .string (bs t)] F [] (fun F' _ u => BothV F' u s t) := by
 refine Ct.enter Tryz.func110 rfl Tryz.ntmps110 rfl fun w0 a S => ?_
 refine wp_sr fun Z hZ => ?_
 (refine wpl_alloc S rfl rfl rfl rfl ?_; clear S a; intro b4 a w S)
 (refine wpl_alloc S rfl rfl rfl rfl ?_; clear S a; intro b5 a w S)
 (revert S a; revert hZ Z; refine go 7 ?_; intro Z hZ Z hZ a S)
 (refine wv S (sv_buildA S rfl rfl rfl (by simp [Value.cells]) rfl) ?_; clear S a; intro a S)
 (revert S a; revert hZ Z; refine go 4 ?_; intro a S)
 refine wpc_loop (fun m a w' => ∃ (i : Nat), m = 2 - i ∧ i ≤ 2 ∧ (0 < i → checkS s = 0) ∧ (1 < i → checkS t = 0) ∧ St 28 [(0, .string (bs s)), (1, .string (bs t)), (4, .pointer (some ⟨b4, 0, none⟩)), (5, .pointer (some ⟨b5, 0, none⟩)), (12, .agg ⟨[.string (bs s), .string (bs t)]⟩), (13, .int .i64 i)] w0 F [] F [[(b5, .cells ⟨[.bool false, .slice none 0 0]⟩ 180 (0, 0))], [(b4, .cells ⟨[.bool false, .slice none 0 0]⟩ 180 (0, 0))]] a w') ?_ ?_
 ·(refine ⟨2, 0, rfl, by omega, by omega, by omega, ?_⟩; refine S.keep ?_; exact zk)
 (clear S; rintro m a w ⟨i, rfl, hi, hc1, hc2, S⟩)
 (revert S a; refine go 5 ?_; intro Z hZ a S)
 refine wpc_sp S rfl ?_ ?_ <;> intro h
 ·(revert S a; revert hZ Z; refine go 5 ?_; intro Z hZ Z hZ a S)
  (obtain ⟨x, hxe, hx, hx0⟩ : ∃ x : List UInt8, ([.string (bs s), .string (bs t)] : List Value)[i]? = some (.string (bs x)) ∧ x.length ≤ 1000000000000 ∧ ((i = 0 ∧ x = s) ∨ (i = 1 ∧ x = t)) := (by rcases Nat.lt_or_ge i 1 with h9 | h9; (have h8 : i = 0 := (by omega); subst h8; exact ⟨s, rfl, by omega, Or.inl ⟨rfl, rfl⟩⟩); (have h8 : i = 1 := (by omega); subst h8; exact ⟨t, rfl, by omega, Or.inr ⟨rfl, rfl⟩⟩))); (refine wv S (sv_indexA S rfl rfl rfl (by omega) hxe) ?_; clear S a; intro a S)
  (revert S a; revert hZ Z; refine go 5 ?_; intro Z hZ a S)
  (refine wc0 S (checkCt x F (by omega)) ?_; clear S a; intro v a w hv S; subst hv)
  (revert S a; revert hZ Z; refine go 8 ?_; intro a S)
  refine wpc_sp S rfl ?_ ?_ <;> intro h
  ·(revert S a; refine go 4 ?_; intro Z hZ a S)
   iterate 2 (refine wso S rfl rfl ?_; clear S; intro w S)
   (revert S a; revert hZ Z; refine go 3 ?_; intro a S)
   refine wp_ret (fin_ret S (results3 Tryz.results110 (RV.cellO S rfl (by rfl)) (RV.cellO S rfl (by rfl)) (RV.tmp S rfl)) ?_)
   exact zzBig51
  (revert S a; revert hZ Z; refine go 6 ?_; intro a S)
  change ∃ m', _ ∧ _
  (refine ⟨2 - (i + 1), by omega, i + 1, rfl, by omega, ?_, ?_, ?_⟩; rotate_left 2; (refine S.keep ?_; exact zk); (intro h8; rcases hx0 with ⟨h9, rfl⟩ | ⟨h9, rfl⟩; exact h; exact hc1 (by omega)); (intro h8; rcases hx0 with ⟨h9, rfl⟩ | ⟨h9, rfl⟩; omega; exact h))
 (refine wp_exit ?_; conv => whnf)
 clear hZ Z
 (revert S a; revert hZ Z; refine go 3 ?_; intro Z hZ a S)
 (first | (refine wcF S (ofCt t F1 hct) ?_; clear S a; intro v2 F2 a w hv2 hF2 S; obtain ⟨pq, rfl, hpq⟩ := hv2; have hpq0 := hpq; obtain ⟨qo, qc, rfl, -, -⟩ := hpq0) | (refine wcF S (ofCt s F (hc1 (by omega))) ?_; clear S a; intro v F1 a w hv hF1 S; have hct := hc2 (by omega); obtain ⟨pp, rfl, hpp⟩ := hv; have hpp0 := hpp; obtain ⟨po, pc, rfl, -, -⟩ := hpp0))
 (revert S a; refine go 1 ?_; intro a S)
 (first | (refine wcF S (ofCt t F1 hct) ?_; clear S a; intro v2 F2 a w hv2 hF2 S; obtain ⟨pq, rfl, hpq⟩ := hv2; have hpq0 := hpq; obtain ⟨qo, qc, rfl, -, -⟩ := hpq0) | (refine wcF S (ofCt s F (hc1 (by omega))) ?_; clear S a; intro v F1 a w hv hF1 S; have hct := hc2 (by omega); obtain ⟨pp, rfl, hpp⟩ := hv; have hpp0 := hpp; obtain ⟨po, pc, rfl, -, -⟩ := hpp0))
 iterate 2 (refine wso S rfl rfl ?_; clear S; intro w S)
 (revert S a; revert hZ Z; refine go 3 ?_; intro a S)
 refine wp_ret (fin_ret S (results3 Tryz.results110 (RV.cellO S rfl (by rfl)) (RV.cellO S rfl (by rfl)) (RV.tmp S rfl)) ?_)
 exact zzBig51
theorem turnedCt (n1 : Bool) (A : Nat) (v : Value) (F : Heap) (hv : NumV F v n1 A) : Ct Tryz.prog 113 [v] F [] (fun F' _ r => NumV F' r (!n1) A) := by
 obtain ⟨pv, rfl, hpv⟩ := hv
 have hv0 := hpv
 obtain ⟨ao, ca, rfl, -, -⟩ := hv0
 refine Ct.enter Tryz.func113 rfl Tryz.ntmps113 rfl fun w0 a S => ?_
 refine wp_sr fun Z hZ => ?_
 (refine wbx S ?_; clear S a; intro b a w S)
 (refine wpl_alloc S rfl rfl rfl rfl ?_; clear S a; intro b a w S)
 (revert S a; revert hZ Z; refine go 9 ?_; intro Z hZ a S)
 (refine wso S rfl rfl ?_; clear S; intro w S)
 (revert S a; revert hZ Z; refine go 2 ?_; intro a S)
 refine wp_ret (fin_ret S (results1 Tryz.results113 (RV.cellO S rfl (by rfl))) ?_)
 exact ⟨_, rfl, hpv⟩
theorem writeString2Ct (b : Nat) (p v : Value) (k : Nat) (l s : List UInt8) (g : Grp) (F : Heap) (hp : bldP b p) (hown : OwnS 5 1 v k (u8c l) g) (hs : 0 < s.length) (hk : k + s.length ≤ 1000000000) :
  Ct Tryz.prog 155 [.pointer (some ⟨b, 0, none⟩), .string (bs s)] F [bldG b p v, g] (fun _ G' _ => ∃ v' g', G' = [bldG b (.pointer (some ⟨b, 0, none⟩)) v', g'] ∧ OwnS 5 1 v' (k + s.length) (u8c (l ++ s)) g') := by
 refine Ct.enter Tryz.func155 rfl Tryz.ntmps155 rfl fun w0 a S => ?_
 (revert S a; refine go 7 ?_; intro Z hZ a S)
 (refine wpl_callOwn (Gs := [bldG b p v]) (Gr := [g]) S rfl rfl rfl rfl rfl rfl (copyCheckCt b p v F hp) rfl (by simp) ?_; clear S a; intro u G1 a w hv1 S; subst hv1; replace S : St _ _ _ _ _ _ [[(b, .cells ⟨[.pointer (some ⟨b, 0, none⟩), v]⟩ 234 (0, 0))], g] _ _ := S)
 (revert S a; revert hZ Z; refine go 9 ?_; intro Z hZ a S)
 (refine wpl_appendStr S rfl rfl rfl rfl rfl rfl hown (by rfl) (by omega) (by omega) (by omega) ?_; clear hown S a; intro v1 g1 a w hown S)
 (revert S a; refine go 2 ?_; intro a S)
 (refine wpl_store1 S rfl rfl rfl rfl rfl hown.oneCell (by simp) ?_; clear S; intro w S)
 (revert S a; revert hZ Z; refine go 9 ?_; intro a S)
 refine wp_ret (fr2 S Tryz.results155 ?_)
 (refine ⟨_, _, rfl, ?_⟩; unfold u8c; rw [List.map_append]; exact hown)
theorem bldLenCt (b : Nat) (p v : Value) (k : Nat) (l : List UInt8) (g : Grp) (F : Heap) (hown : OwnS 5 1 v k (u8c l) g) :
  Ct Tryz.prog 156 [.pointer (some ⟨b, 0, none⟩)] F [bldG b p v, g] (fun _ G' u => u = .int .i64 k ∧ G' = [bldG b p v, g]) := by
 obtain ⟨ao, cap, rfl, -, -, -⟩ := hown.at
 (refine Ct.enter Tryz.func156 rfl Tryz.ntmps156 rfl fun w0 a S => ?_); replace S : St _ _ _ _ _ _ [[(b, .cells ⟨[p, .slice ao k cap]⟩ 234 (0, 0))], g] _ _ := S
 (revert S a; refine go 13 ?_; intro a S)
 refine wp_ret (fr1 S Tryz.results156 ?_)
 exact ⟨rfl, rfl⟩
theorem bldString2Ct (b : Nat) (p v : Value) (k : Nat) (l : List UInt8) (g : Grp) (F : Heap) (hk : k ≤ 1000000000) (h0 : 0 < k) (hown : OwnS 5 1 v k (u8c l) g) :
  Ct Tryz.prog 157 [.pointer (some ⟨b, 0, none⟩)] F [bldG b p v, g] (fun _ _ u => u = .string (bs l)) := by
 obtain ⟨ao, cap, rfl, hcap, -, hpos⟩ := hown.at
 obtain ⟨br, rfl⟩ := hpos h0
 (refine Ct.enter Tryz.func157 rfl Tryz.ntmps157 rfl fun w0 a S => ?_); replace S : St _ _ _ _ _ _ [[(b, .cells ⟨[p, .slice (some ⟨br, 0, none⟩) k cap]⟩ 234 (0, 0))], g] _ _ := S
 (revert S a; refine go 4 ?_; intro a S)
 (refine wp_seq_k ?_; intro Z hZ)
 (refine wpc_mixL [0, 1, 2, 3, 4, 5, 6, 7, 8, 9] [3, 4, 8, 9] [b] S mixed (by kernel_rfl) ?_; clear S; intro w S)
 refine wppk_one rfl rfl ?_
 (refine wpp_v S rfl rfl rfl rfl (fun _ S => sv_pure S rfl) ?_; clear S a; intro a S)
 refine wpp_nil ?_
 refine wppk_one rfl rfl ?_
 (refine wpp_v S rfl rfl rfl rfl (fun _ S => sv_nilCheck S rfl rfl) ?_; clear S a; intro a S)
 refine wpp_nil ?_
 refine wppk_one rfl rfl ?_
 (refine wpp_v S rfl rfl rfl rfl (fun _ S => sv_fieldAddr S rfl rfl rfl inferInstance rfl) ?_; clear S a; intro a S)
 refine wpp_nil ?_
 first | (refine wppk_late S rfl rfl rfl rfl rfl (fun w' hw => hw.1) (fun w' S => sv_loadO S rfl rfl (by rfl)) ?_; clear S a; intro a S) | (refine wppk_late S rfl rfl rfl rfl rfl (fun w' hw => hw.1) (fun w' S => sv_loadAO S rfl rfl (by rfl)) ?_; clear S a; intro a S)
 (refine wppk_late S rfl rfl rfl rfl rfl (fun w' hw => hw.1) (fun w' S => sv_sliceData S rfl rfl (by omega)) ?_; clear S a; intro a S)
 refine wppk_one rfl rfl ?_
 (refine wpp_v S rfl rfl rfl rfl (fun _ S => sv_pure S rfl) ?_; clear S a; intro a S)
 refine wpp_nil ?_
 refine wppk_one rfl rfl ?_
 (refine wpp_v S rfl rfl rfl rfl (fun _ S => sv_nilCheck S rfl rfl) ?_; clear S a; intro a S)
 refine wpp_nil ?_
 refine wppk_one rfl rfl ?_
 (refine wpp_v S rfl rfl rfl rfl (fun _ S => sv_fieldAddr S rfl rfl rfl inferInstance rfl) ?_; clear S a; intro a S)
 refine wpp_nil ?_
 first | (refine wppk_late S rfl rfl rfl rfl rfl (fun w' hw => hw.1) (fun w' S => sv_loadO S rfl rfl (by rfl)) ?_; clear S a; intro a S) | (refine wppk_late S rfl rfl rfl rfl rfl (fun w' hw => hw.1) (fun w' S => sv_loadAO S rfl rfl (by rfl)) ?_; clear S a; intro a S)
 (refine wppk_late S rfl rfl rfl rfl rfl (fun w' hw => hw.1) (fun w' S => sv_lenSl S rfl rfl) ?_; clear S a; intro a S)
 refine wplk_one rfl ⟨S.has inferInstance, trivial⟩ ?_
 (refine wpl_unsafeString S rfl rfl rfl rfl rfl rfl hown (by kernel_rfl) h0 (by omega) ?_; clear S a; intro a w S)
 refine wpList_nil ?_
 refine wplk_one rfl ⟨S.has inferInstance, trivial⟩ ?_
 (revert S a; refine go 2 ?_; intro a S)
 refine wplk_nil ⟨S.has inferInstance, trivial⟩ ?_
 (refine hZ _ _ ?_; clear hZ Z)
 refine wp_ret (fr1 S Tryz.results157 ?_)
 rfl
end Go.Proofs.YtgefmjghdijbfaaGreatDoor
