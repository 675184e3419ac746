/- The walk of of of package big: the digits of the number that a text is. The walks of cmp.Compare, slices.Backward and of sizes of package big: which of two magnitudes is the greater one. The walks of add, turned, both of package big. More rules: pointers held against each other, pointers turned to unsafe ones and back, unsafe.SliceData and unsafe.String over a row of the call's own, a call that takes own blocks along. Nothing here knows the program. The walks of strings.Builder's methods, the builder's two blocks taken along: WriteString appends the bytes, Len counts them, String makes them a string. -/
import Derived.Test.YtigblodhdfnleaaGreatDoorBig2
import Derived.Test.YtigblodhdfnleaaGreatDoorWk10
import Derived.Lib.Builder
import Derived.Lib.UnsafeStr
import Derived.Laws.Externs
import Derived.Laws.Pointers
namespace Go.Proofs.YtigblodhdfnleaaGreatDoor
open Go Go.Wk Go.Num
set_option linter.unusedSimpArgs false
set_option linter.unusedVariables false
attribute [local irreducible] Go.wpList Go.Code.wp Go.wpStill Go.Wk.wpPre Go.bodyPost Go.Calls Go.Wk.Ct Go.Wk.OwnS

/-- The value u is a number of package big: its sign, and the digits of N. -/
def NumV (F : Heap) (u : Value) (neg : Bool) (N : Nat) : Prop := ∃ ps, u = .agg ⟨[.bool neg, ps]⟩ ∧ Mag F ps N
theorem NumV.mono {F F' : Heap} {u : Value} {neg N} (hF : ∀ b o, F b = some o → F' b = some o) (h : NumV F u neg N) : NumV F' u neg N := by
  obtain ⟨ps, h1, h2⟩ := h; exact ⟨ps, h1, h2.mono hF⟩
theorem dv_cast {c : UInt8} (h : isD c = true) : ((c.toNat : Int) - 48) = ((dv c : Nat) : Int) := by
  have := (isD_iff c).1 h; unfold dv; omega
theorem own_snoc {e : TypeId} {v : Value} {k : Nat} {f : Nat → Nat} {gr : Grp} {x : Value} (h : OwnS e 1 v (k + 1) (cel k f ++ [x]) gr) (hx : x = .int .i64 ((f k : Nat) : Int)) : OwnS e 1 v (k + 1) (cel (k + 1) f) gr := by
  rw [cel_succ, ← hx]; exact h

set_option maxHeartbeats 2000000 in
theorem ofCt (s : List UInt8) (F : Heap) (hck : checkS s = 0) : Ct Tryz.prog 94 [.string (bs s)] F [] (fun F' _ u => NumV F' u (negS s) (decV (bodyS s))) := by
  obtain ⟨hall, hlen, hne⟩ := check_digits hck
  have hsl : s.length ≤ 201 := by
    have h1 : s.length ≤ (bodyS s).length + 1 := by unfold bodyS; split <;> simp; omega
    omega
  have htd := trimDashCt s F (by omega)
  have hneg : decide (((bodyS s).length : Int) < (s.length : Int)) = negS s := by
    unfold negS; simp only [Int.ofNat_lt, bodyS_lt]
  generalize hd : bodyS s = d at *
  refine Ct.enter Tryz.func94 rfl Tryz.ntmps94 rfl fun w0 a S => ?_
  refine wp_sr fun Z hZ => ?_
  (refine wpl_alloc S rfl rfl rfl rfl ?_; clear S a; intro b1 a w S)
  (revert S a; revert hZ Z; refine go11 4 ?_; intro Z hZ a S)
  (refine wpl_call0 S rfl rfl rfl rfl rfl rfl (htd) rfl ?_; clear S a; intro v a w hv S; subst hv)
  (revert S a; revert hZ Z; refine go11 10 ?_; intro Z hZ a S)
  (refine wpl_alloc S rfl rfl rfl rfl ?_; clear S a; intro b2 a w S)
  (refine wpl_storeO S rfl rfl rfl rfl rfl (by rfl) (by simp [Value.cells, Value.oneCell', splice]) (by rfl) ?_; clear S; intro w S)
  (revert S a; revert hZ Z; refine go11 10 ?_; intro Z hZ a S)
  refine wpc_loop (fun m a w' => ∃ (e : Int) (c : Nat) (v : Value) (g : Grp), m = e.toNat ∧ e + 9 * c = d.length ∧ -9 < e ∧ OwnS 2 1 v c (cel c (dig 1000000000 (decV d))) g ∧ St 49 [(2, .pointer (some ⟨b1, 0, none⟩)), (4, .pointer (some ⟨b2, 0, none⟩)), (3, .string (bs d)), (5, .int .i64 e)] w0 F [] F [g, [(b2, .cells ⟨[.bool (negS s), v]⟩ 93 (0, 0))], [(b1, .cells ⟨[.bool false, .slice none 0 0]⟩ 93 (0, 0))]] a w') ?_ ?_
  · (refine ⟨_, (d.length : Int), 0, _, _, rfl, by omega, by omega, OwnS.nil _ _, ?_⟩; replace S := S.nilg; rw [hneg] at S; refine S.keep ?_; repeat (first | exact trivial | refine ⟨rfl, ?_⟩))
  (clear S; rintro m a w ⟨e, c, v, g, rfl, he, he9, hown, S⟩)
  (revert S a; refine go01 6 ?_; intro Z hZ a S)
  refine wpc_split S rfl (fun h => ?_) (fun h => ?_)
  · (skip; (try simp only [tq] at h))
    (revert S a; revert hZ Z; refine go12 9 ?_; intro Z hZ Z hZ a S)
    (revert S a; refine go01 3 ?_; intro Z hZ a S)
    first | (refine wpl_v S rfl rfl rfl (sv_maxN S rfl rfl rfl) ?_; clear S a; intro a S) | (refine wpl_v S rfl rfl rfl (sv_max0 S rfl rfl rfl) ?_; clear S a; intro a S)
    (revert S a; revert hZ Z; refine go10 4 ?_; intro a S)
    refine wpc_loop (fun m a w' => ∃ (i n : Nat), m = e.toNat - i ∧ (e - 9).toNat ≤ i ∧ i ≤ e.toNat ∧ decV (d.take i) = decV (d.take (e - 9).toNat) * 10 ^ (i - (e - 9).toNat) + n ∧ n < 10 ^ (i - (e - 9).toNat) ∧ St 49 [(2, .pointer (some ⟨b1, 0, none⟩)), (4, .pointer (some ⟨b2, 0, none⟩)), (3, .string (bs d)), (5, .int .i64 e), (6, .int .i64 n), (7, .int .i64 i)] w0 F [] F [g, [(b2, .cells ⟨[.bool (negS s), v]⟩ 93 (0, 0))], [(b1, .cells ⟨[.bool false, .slice none 0 0]⟩ 93 (0, 0))]] a w') ?_ ?_
    · (refine ⟨_, (e - 9).toNat, 0, rfl, Nat.le_refl _, by omega, by simp, by simp, ?_⟩; refine S.keep ?_; repeat (first | exact trivial | refine ⟨rfl, ?_⟩))
    (clear S; rintro m a w ⟨i, n, rfl, hi1, hi2, hdec, hnl, S⟩)
    (revert S a; refine go01 7 ?_; intro Z hZ a S)
    refine wpc_split S rfl (fun h => ?_) (fun h => ?_)
    · (skip; (try simp only [tq] at h))
      (revert S a; revert hZ Z; refine go11 4 ?_; intro Z hZ a S)
      (have hisd := all_getD hall (k := i) (by omega); have hdv := dv_cast hisd; have hdl := dv_lt hisd; have hn9 : n < 10 ^ 9 := Nat.lt_of_lt_of_le hnl (Nat.pow_le_pow_right (by decide) (by omega)); have hisd2 := (isD_iff _).1 hisd)
      (revert S a; refine go00 2 ?_; intro a S)
      (refine wpl_v S rfl rfl rfl (sv_mul S rfl rfl rfl (by first | omega | (simp only [List.length_append, List.length_cons, List.length_nil]; omega))) ?_; clear S a; intro a S)
      (revert S a; refine go00 2 ?_; intro a S)
      (refine wpl_v S rfl rfl rfl (sv_indexSN (i := i) S rfl rfl rfl (by omega)) ?_; clear S a; intro a S)
      (refine wpl_v S rfl rfl rfl (sv_sub8 S rfl rfl rfl (by first | omega | (simp only [List.length_append, List.length_cons, List.length_nil]; omega))) ?_; clear S a; intro a S)
      (refine wpl_v S rfl rfl rfl (sv_conv_i64 S rfl rfl (by first | omega | (simp only [List.length_append, List.length_cons, List.length_nil]; omega))) ?_; clear S a; intro a S)
      (revert S a; revert hZ Z; refine go10 9 ?_; intro a S)
      change ∃ m', _ ∧ _
      (refine ⟨_, by omega, i + 1, 10 * n + dv (d.getD i 0), rfl, by omega, by omega, ?_, ?_, ?_⟩; rotate_left 2; (rw [hdv] at S; refine S.keep ?_; repeat (first | exact trivial | refine ⟨rfl, ?_⟩)); (rw [decV_take_succ (by omega), show i + 1 - (e - 9).toNat = (i - (e - 9).toNat) + 1 by omega, Nat.pow_succ]; exact dec_step hdec); (rw [show i + 1 - (e - 9).toNat = (i - (e - 9).toNat) + 1 by omega, Nat.pow_succ]; omega))
    (skip; (try simp only [tq] at h))
    (refine wp_exit ?_; conv => whnf)
    clear hZ Z
    (revert S a; revert hZ Z; refine go10 5 ?_; intro a S)
    (refine wpl_append S rfl rfl rfl rfl rfl rfl rfl rfl rfl rfl rfl (fun _ => rfl) hown (by rfl) (by simp [Value.cells, splice, splice]) (by simp [Value.cells, Value.oneCell', splice, splice]) rfl (by rfl) (by rfl) rfl (by omega) (by omega) ?_; clear hown S a; intro v u g a w hown S)
    (revert S a; refine go00 1 ?_; intro a S)
    (refine wpl_store1 S rfl rfl rfl rfl rfl hown.oneCell (by simp) ?_; clear S; intro w S)
    (revert S a; revert hZ Z; refine go10 7 ?_; intro a S)
    change ∃ m', _ ∧ _
    (refine ⟨_, by omega, e - 9, c + 1, v, g, rfl, by omega, by omega, own_snoc hown (congrArg _ ?_), ?_⟩; rotate_left 1; (refine S.keep ?_; repeat (first | exact trivial | refine ⟨rfl, ?_⟩)); rw [dig_chunk hall (e := e.toNat) (by omega)]; have hie : i = e.toNat := (by omega); subst hie; rw [chunk (f := (e - 9).toNat) (by omega) hdec hnl])
  (skip; (try simp only [tq] at h))
  (refine wp_exit ?_; conv => whnf)
  clear hZ Z
  (refine hZ _ _ ?_; clear hZ Z)
  (refine wp_seq_k ?_; intro Z hZ)
  (replace S := St.freeze (G1 := []) S; simp only [List.nil_append] at S; have hsl3 := hown.slC F; have hlt : decV d < 1000000000 ^ c := Nat.lt_of_lt_of_le (decV_lt d hall) (by rw [show (1000000000 : Nat) = 10 ^ 9 by decide, ← Nat.pow_mul]; exact Nat.pow_le_pow_right (by decide) (by omega)))
  (revert S a; refine go00 3 ?_; intro a S)
  (refine wpl_call0 S rfl rfl rfl rfl rfl rfl (trimCt (decV d) c _ _ hlt (by omega) hsl3) rfl ?_; clear S a; intro u a w hu S; have hu0 := hu; obtain ⟨uo, uc, rfl, hu1, hu2⟩ := hu)
  (revert S a; refine go00 1 ?_; intro a S)
  (refine wpl_store1 S rfl rfl rfl rfl rfl rfl (by first | (simp; done) | (simp [Value.cells]; done) | exact Nat.le_of_ble_eq_true rfl) ?_; clear S; intro w S)
  (revert S a; revert hZ Z; refine go11 4 ?_; intro Z hZ a S)
  (refine wpl_storeO S rfl rfl rfl rfl rfl (by rfl) (by simp [Value.cells, Value.oneCell', splice]) (by rfl) ?_; clear S; intro w S)
  (refine wpList_nil (hZ _ _ ?_); clear hZ Z)
  refine wp_ret (fin_ret S (results1 Tryz.results94 (RV.cellO S rfl (by rfl))) ?_)
  exact ⟨_, rfl, hu0⟩
end Go.Proofs.YtigblodhdfnleaaGreatDoor
namespace Go.Proofs.YtigblodhdfnleaaGreatDoor
open Go Go.Wk Go.Num
set_option linter.unusedSimpArgs false
set_option linter.unusedVariables false
attribute [local irreducible] Go.wpList Go.Code.wp Go.wpStill Go.Wk.wpPre Go.bodyPost Go.Calls Go.Wk.Ct Go.Wk.OwnS
attribute [local irreducible] Go.wpListIn Go.Code.wpIn Go.CallsIn Go.bodyPostM Go.Wk.roundP

set_option maxHeartbeats 1000000 in
theorem isNaN1 (x : Int) (F : Heap) : Ct Tryz.prog 147 [.int .i64 x] F [] (fun _ _ u => u = .bool false) := by
  refine Ct.enter Tryz.func147 rfl Tryz.ntmps147 rfl fun w0 a S => ?_
  (revert S a; refine go00 11 ?_; intro a S)
  refine wp_ret (fin_ret S (results1 Tryz.results147 (RV.tmp S rfl)) ?_)
  (simp)
set_option maxHeartbeats 1000000 in
theorem isNaN2 (x : Int) (F : Heap) : Ct Tryz.prog 148 [.int .i64 x] F [] (fun _ _ u => u = .bool false) := by
  refine Ct.enter Tryz.func148 rfl Tryz.ntmps148 rfl fun w0 a S => ?_
  (revert S a; refine go00 11 ?_; intro a S)
  refine wp_ret (fin_ret S (results1 Tryz.results148 (RV.tmp S rfl)) ?_)
  (simp)
def cmpI (x y : Int) : Int := if x < y then -1 else if y < x then 1 else 0
set_option maxHeartbeats 1000000 in
theorem compare1 (x y : Int) (F : Heap) : Ct Tryz.prog 121 [.int .i64 x, .int .i64 y] F [] (fun _ _ u => u = .int .i64 (cmpI x y)) := by
  refine Ct.enter Tryz.func121 rfl Tryz.ntmps121 rfl fun w0 a S => ?_
  (revert S a; refine go01 6 ?_; intro Z hZ a S)
  (refine wpl_call0 S rfl rfl rfl rfl rfl rfl (isNaN1 _ F) rfl ?_; clear S a; intro v a w hv S; subst hv)
  (revert S a; revert hZ Z; refine go11 5 ?_; intro Z hZ a S)
  (refine wpl_call0 S rfl rfl rfl rfl rfl rfl (isNaN1 _ F) rfl ?_; clear S a; intro v a w hv S; subst hv)
  (revert S a; revert hZ Z; refine go11 8 ?_; intro Z hZ a S)
  refine wpc_split S rfl (fun h => ?_) (fun h => ?_)
  · (skip; (try simp only [tq] at h); cases h)
  (skip; (try simp only [tq] at h))
  (revert S a; revert hZ Z; refine go11 7 ?_; intro Z hZ a S)
  refine wpc_split S rfl (fun h => ?_) (fun h => ?_)
  · (skip; (try simp only [tq] at h); cases h)
  (skip; (try simp only [tq] at h))
  (revert S a; revert hZ Z; refine go11 9 ?_; intro Z hZ a S)
  refine wpc_split S rfl (fun h => ?_) (fun h => ?_)
  · (skip; (try simp only [tq] at h))
    (revert S a; refine go00 4 ?_; intro a S)
    refine wp_ret (fin_ret S (results1 Tryz.results121 (RV.tmp S rfl)) ?_)
    (unfold cmpI; (repeat (first | rw [if_pos (by assumption)] | rw [if_neg (by omega)])))
  (skip; (try simp only [tq] at h))
  (revert S a; revert hZ Z; refine go11 9 ?_; intro Z hZ a S)
  refine wpc_split S rfl (fun h => ?_) (fun h => ?_)
  · (skip; (try simp only [tq] at h))
    (revert S a; refine go00 4 ?_; intro a S)
    refine wp_ret (fin_ret S (results1 Tryz.results121 (RV.tmp S rfl)) ?_)
    (unfold cmpI; (repeat (first | rw [if_pos (by assumption)] | rw [if_neg (by omega)])))
  (skip; (try simp only [tq] at h))
  (revert S a; revert hZ Z; refine go10 6 ?_; intro a S)
  refine wp_ret (fin_ret S (results1 Tryz.results121 (RV.tmp S rfl)) ?_)
  (unfold cmpI; (repeat (first | rw [if_pos (by assumption)] | rw [if_neg (by omega)])))
set_option maxHeartbeats 1000000 in
theorem compare2 (x y : Int) (F : Heap) : Ct Tryz.prog 122 [.int .i64 x, .int .i64 y] F [] (fun _ _ u => u = .int .i64 (cmpI x y)) := by
  refine Ct.enter Tryz.func122 rfl Tryz.ntmps122 rfl fun w0 a S => ?_
  (revert S a; refine go01 6 ?_; intro Z hZ a S)
  (refine wpl_call0 S rfl rfl rfl rfl rfl rfl (isNaN2 _ F) rfl ?_; clear S a; intro v a w hv S; subst hv)
  (revert S a; revert hZ Z; refine go11 5 ?_; intro Z hZ a S)
  (refine wpl_call0 S rfl rfl rfl rfl rfl rfl (isNaN2 _ F) rfl ?_; clear S a; intro v a w hv S; subst hv)
  (revert S a; revert hZ Z; refine go11 8 ?_; intro Z hZ a S)
  refine wpc_split S rfl (fun h => ?_) (fun h => ?_)
  · (skip; (try simp only [tq] at h); cases h)
  (skip; (try simp only [tq] at h))
  (revert S a; revert hZ Z; refine go11 7 ?_; intro Z hZ a S)
  refine wpc_split S rfl (fun h => ?_) (fun h => ?_)
  · (skip; (try simp only [tq] at h); cases h)
  (skip; (try simp only [tq] at h))
  (revert S a; revert hZ Z; refine go11 9 ?_; intro Z hZ a S)
  refine wpc_split S rfl (fun h => ?_) (fun h => ?_)
  · (skip; (try simp only [tq] at h))
    (revert S a; refine go00 4 ?_; intro a S)
    refine wp_ret (fin_ret S (results1 Tryz.results122 (RV.tmp S rfl)) ?_)
    (unfold cmpI; (repeat (first | rw [if_pos (by assumption)] | rw [if_neg (by omega)])))
  (skip; (try simp only [tq] at h))
  (revert S a; revert hZ Z; refine go11 9 ?_; intro Z hZ a S)
  refine wpc_split S rfl (fun h => ?_) (fun h => ?_)
  · (skip; (try simp only [tq] at h))
    (revert S a; refine go00 4 ?_; intro a S)
    refine wp_ret (fin_ret S (results1 Tryz.results122 (RV.tmp S rfl)) ?_)
    (unfold cmpI; (repeat (first | rw [if_pos (by assumption)] | rw [if_neg (by omega)])))
  (skip; (try simp only [tq] at h))
  (revert S a; revert hZ Z; refine go10 6 ?_; intro a S)
  refine wp_ret (fin_ret S (results1 Tryz.results122 (RV.tmp S rfl)) ?_)
  (unfold cmpI; (repeat (first | rw [if_pos (by assumption)] | rw [if_neg (by omega)])))

set_option maxHeartbeats 1000000 in
theorem backwardCt (v : Value) (F : Heap) : Ct Tryz.prog 95 [v] F [] (fun _ G' u => ∃ bx, u = .func (.func 115) ⟨[]⟩ ⟨[.pointer (some ⟨bx, 0, none⟩)]⟩ ∧ G' = [[(bx, .cells ⟨v.cells.toList⟩ 91 (0, 0))]]) := by
  refine Ct.enter Tryz.func95 rfl Tryz.ntmps95 rfl fun w0 a S => ?_
  refine wp_sr fun Z hZ => ?_
  (refine wpl_box S rfl rfl rfl rfl rfl ?_; clear S a; intro b a w S)
  (revert S a; revert hZ Z; refine go10 8 ?_; intro a S)
  refine wp_ret (fin_ret S (results1 Tryz.results95 (RV.tmp S rfl)) ?_)
  exact ⟨_, rfl, rfl⟩

theorem div_eq (b A j : Nat) : A / b ^ j = b * (A / b ^ (j + 1)) + dig b A j := by
  rw [Nat.pow_succ, ← Nat.div_div_eq_div_mul]; exact (Nat.div_add_mod _ _).symm
theorem lt_of_div {b A C j : Nat} (h : A / b ^ j < C / b ^ j) : A < C := by
  rcases Nat.lt_or_ge A C with h1 | h1
  · exact h1
  · have := Nat.div_le_div_right (c := b ^ j) h1; omega
theorem lt_of_nd {b A C : Nat} (hb : 2 ≤ b) (h : nd b A < nd b C) : A < C := by
  have hC : 0 < C := by
    rcases Nat.eq_zero_or_pos C with e | e
    · subst e; rw [nd_zero] at h; omega
    · exact e
  exact Nat.lt_of_lt_of_le (lt_nd hb A) (Nat.le_trans (Nat.pow_le_pow_right (by omega) (by omega)) (le_pow_nd hb hC))
theorem cmp_len {A C : Nat} (h : ¬ ((nd 1000000000 A : Int) = (nd 1000000000 C : Int))) : cmpI (nd 1000000000 A) (nd 1000000000 C) = cmpI A C := by
  have hne : nd 1000000000 A ≠ nd 1000000000 C := fun e => h (by rw [e])
  unfold cmpI
  rcases Nat.lt_or_gt_of_ne hne with h1 | h1
  · have := lt_of_nd b2 h1
    rw [if_pos (by omega), if_pos (by omega)]
  · have := lt_of_nd b2 h1
    rw [if_neg (by omega), if_pos (by omega), if_neg (by omega), if_pos (by omega)]
theorem top_eq {b A C j : Nat} (h : A / b ^ (j + 1) = C / b ^ (j + 1)) (hd : ((dig b A j : Nat) : Int) = ((dig b C j : Nat) : Int)) : A / b ^ j = C / b ^ j := by
  rw [div_eq, div_eq b C, h]; omega
theorem cmp_dig {b A C j : Nat} (h : A / b ^ (j + 1) = C / b ^ (j + 1)) (hd : ¬ ((dig b A j : Nat) : Int) = ((dig b C j : Nat) : Int)) : cmpI (dig b A j) (dig b C j) = cmpI A C := by
  have e1 := div_eq b A j
  have e2 := div_eq b C j
  rw [h] at e1
  unfold cmpI
  have hne : dig b A j ≠ dig b C j := fun e => hd (by rw [e])
  rcases Nat.lt_or_gt_of_ne hne with h1 | h1
  · have := lt_of_div (b := b) (j := j) (A := A) (C := C) (by omega)
    rw [if_pos (by omega), if_pos (by omega)]
  · have := lt_of_div (b := b) (j := j) (A := C) (C := A) (by omega)
    rw [if_neg (by omega), if_pos (by omega), if_neg (by omega), if_pos (by omega)]

set_option maxHeartbeats 2000000 in
theorem sizesCt (A C : Nat) (v u : Value) (F : Heap) (hlA : nd 1000000000 A ≤ 1000000) (hlC : nd 1000000000 C ≤ 1000000) (hv : Mag F v A) (hu : Mag F u C) : Ct Tryz.prog 102 [v, u] F [] (fun _ _ r => r = .int .i64 (cmpI A C)) := by
  obtain ⟨ao, ca, rfl, hca, hpa⟩ := hv
  obtain ⟨co, cc, rfl, hcc, hpc⟩ := hu
  refine Ct.enterM Tryz.func102 rfl Tryz.ntmps102 rfl fun w0 a S => ?_
  (refine wpIn_seq_k ?_; intro Z hZ)
  refine wpi_region rfl ?_
  (refine wpl_box S rfl rfl rfl rfl rfl ?_; clear S a; intro b3 a w S)
  (refine wpl_alloc S rfl rfl rfl rfl ?_; clear S a; intro b4 a w S)
  (refine wpList_nil (hZ _ _ ?_); clear hZ Z)
  iterate 2 (refine wpIn_seq_k ?_; intro Z hZ)
  refine wpi_region rfl ?_
  (revert S a; revert hZ Z; refine go10 7 ?_; intro a S)
  refine wpi_split S rfl (fun h => ?_) (fun h => ?_)
  · (skip; (try simp only [tq] at h))
    (refine wpIn_seq_k ?_; intro Z hZ)
    refine wpi_region rfl ?_
    (revert S a; refine go00 4 ?_; intro a S)
    (refine wpl_call0 S rfl rfl rfl rfl rfl rfl (compare1 _ _ F) rfl ?_; clear S a; intro v a w hv S; subst hv)
    (refine wpl_store1 S rfl rfl rfl rfl rfl rfl (by first | (simp; done) | (simp [Value.cells]; done) | exact Nat.le_of_ble_eq_true rfl) ?_; clear S; intro w S)
    (revert S a; revert hZ Z; refine go10 2 ?_; intro a S)
    refine wpIn_ret ?_
    refine fin_retN S (results1 Tryz.results102 (RV.cell1O S rfl (by rfl))) ?_
    (rw [cmp_len h])
  (skip; (try simp only [tq] at h))
  refine wpIn_skip ?_
  (refine hZ _ _ ?_; clear hZ Z)
  iterate 2 (refine wpIn_seq_k ?_; intro Z hZ)
  refine wpi_region rfl ?_
  (revert S a; refine go00 1 ?_; intro a S)
  (refine wpl_callFrz S rfl rfl rfl rfl rfl rfl (backwardCt _ F) rfl ?_; clear S a; intro bx F5 a w hF5 hbx S; have hbox := hbx 0 _ rfl)
  (refine wpList_nil (hZ _ _ ?_); clear hZ Z)
  refine wpIn_block ?_
  refine wpi_back S rfl rfl rfl rfl (backIter bx (nd 1000000000 A) (dig 1000000000 A) F5 ao ca (by omega) hbox (fun h0 => by obtain ⟨b, off, h1, h2⟩ := hpa h0; exact ⟨b, off, h1, h2.mono hF5⟩)) (fun j F2 G2 => F5 = F2 ∧ G2 = [[(b4, .cells ⟨[.int .i64 0]⟩ 3 (0, 0))], [(b3, .cells ⟨[.slice co (nd 1000000000 C) cc]⟩ 91 (0, 0))]] ∧ A / 1000000000 ^ j = C / 1000000000 ^ j) (fun F2 G2 => F5 = F2 ∧ G2 = [[(b4, .cells ⟨[.int .i64 (cmpI A C)]⟩ 3 (0, 0))], [(b3, .cells ⟨[.slice co (nd 1000000000 C) cc]⟩ 91 (0, 0))]]) (⟨rfl, rfl, by rw [Nat.div_eq_of_lt (lt_nd b2 A), Nat.div_eq_of_lt (by have := lt_nd b2 C; rw [show nd 1000000000 C = nd 1000000000 A by omega] at this; exact this)]⟩) (fun j => [(5, .int .i64 (j : Int)), (6, .int .i64 ((dig 1000000000 A j : Nat) : Int)), (3, .pointer (some ⟨b3, 0, none⟩)), (4, .pointer (some ⟨b4, 0, none⟩))]) ?_ ?_ ?_ ?_
  · (clear S; intro r j w F1 G1 a KA S hKA)
    (refine wpIn_seq_k ?_; intro Z hZ)
    refine wpi_region rfl ?_
    (revert S a; revert hZ Z; refine go10 3 ?_; intro a S)
    refine wpi_region rfl ?_
    (revert S a; refine go00 2 ?_; intro a S)
    (refine hKA _ ?_; refine S.keep ?_; repeat (first | exact trivial | refine ⟨rfl, ?_⟩))
  · (clear S; intro r j w F1 G1 a hj hF1 hI S)
    (obtain ⟨rfl, rfl, he⟩ := hI; obtain ⟨bc, offc, rfl, hcs⟩ := hpc (by omega); have hcf := (celN hcs (j := j) (by omega)).mono hF5)
    refine wpIn_block ?_
    (refine wpIn_seq_k ?_; intro Z hZ)
    refine wpi_region rfl ?_
    (revert S a; revert hZ Z; refine go10 8 ?_; intro a S)
    refine wpi_split S rfl (fun h => ?_) (fun h => ?_)
    · (skip; (try simp only [tq] at h))
      (refine wpIn_seq_k ?_; intro Z hZ)
      refine wpi_region rfl ?_
      (revert S a; refine go00 5 ?_; intro a S)
      (refine wpl_call0 S rfl rfl rfl rfl rfl rfl (compare2 _ _ F5) rfl ?_; clear S a; intro v a w hv S; subst hv)
      (refine wpl_store1 S rfl rfl rfl rfl rfl rfl (by first | (simp; done) | (simp [Value.cells]; done) | exact Nat.le_of_ble_eq_true rfl) ?_; clear S; intro w S)
      (revert S a; revert hZ Z; refine go10 2 ?_; intro a S)
      refine wpIn_ret ?_
      skip
      refine round_ret S.tr ?_
      exact ⟨rfl, by rw [← cmp_dig he h]; rfl⟩
    (skip; (try simp only [tq] at h))
    refine wpIn_skip ?_
    skip
    refine round_normal S.tr ?_
    exact ⟨rfl, rfl, top_eq he h⟩
  · (clear S; intro D F1 G1 a w hF1 hI S)
    (obtain ⟨rfl, rfl, he⟩ := hI)
    (refine hZ _ _ ?_; clear hZ Z)
    (refine wpIn_seq_k ?_; intro Z hZ)
    refine wpi_region rfl ?_
    (refine wpl_store1 S rfl rfl rfl rfl rfl rfl (by first | (simp; done) | (simp [Value.cells]; done) | exact Nat.le_of_ble_eq_true rfl) ?_; clear S; intro w S)
    (revert S a; revert hZ Z; refine go10 2 ?_; intro a S)
    refine wpIn_ret ?_
    (refine fin_retM S fun w S => ?_; try (dsimp only at S))
    refine ⟨_, results1 Tryz.results102 (RV.cell1O S rfl (by rfl)), ?_⟩
    (first | rfl | (have he2 : A = C := (by simpa using he); subst he2; unfold cmpI; rw [if_neg (by omega), if_neg (by omega)]))
  (clear S; intro D F1 G1 a w hF1 hI S)
  (obtain ⟨rfl, rfl⟩ := hI)
  (refine fin_retM S fun w S => ?_; try (dsimp only at S))
  refine ⟨_, results1 Tryz.results102 (RV.cell1O S rfl (by rfl)), ?_⟩
  (first | rfl | (have he2 : A = C := (by simpa using he); subst he2; unfold cmpI; rw [if_neg (by omega), if_neg (by omega)]))
end Go.Proofs.YtigblodhdfnleaaGreatDoor
namespace Go.Proofs.YtigblodhdfnleaaGreatDoor
open Go Go.Wk Go.Num
set_option linter.unusedSimpArgs false
set_option linter.unusedVariables false
attribute [local irreducible] Go.wpList Go.Code.wp Go.wpStill Go.Wk.wpPre Go.bodyPost Go.Calls Go.Wk.Ct Go.Wk.OwnS
attribute [local irreducible] Go.Wk.wpG

def addS (n1 : Bool) (A : Nat) (n2 : Bool) (C : Nat) : Bool × Nat := if n1 = n2 then (n1, A + C) else if 0 ≤ cmpI A C then (n1, A - C) else (n2, C - A)
def toZ (x : Bool × Nat) : Int := if x.1 then -(x.2 : Int) else x.2
theorem toZ_addS (n1 : Bool) (A : Nat) (n2 : Bool) (C : Nat) : toZ (addS n1 A n2 C) = toZ (n1, A) + toZ (n2, C) := by
  unfold addS toZ cmpI
  by_cases h1 : (A : Int) < C
  · rw [if_pos h1]; cases n1 <;> cases n2 <;> simp <;> omega
  · rw [if_neg h1]
    by_cases h2 : (C : Int) < A
    · rw [if_pos h2]; cases n1 <;> cases n2 <;> simp <;> omega
    · rw [if_neg h2]; cases n1 <;> cases n2 <;> simp <;> omega
def NumZ (F : Heap) (u : Value) (x : Bool × Nat) : Prop := NumV F u x.1 x.2
theorem cmp_le {A C : Nat} (h : 0 ≤ cmpI A C) : C ≤ A := by
  unfold cmpI at h; split at h; omega; omega
theorem cmp_gt {A C : Nat} (h : ¬ 0 ≤ cmpI A C) : A ≤ C := by
  unfold cmpI at h; split at h; omega; split at h <;> omega

theorem zzBig50 {p : Prop} (h : p := by (first | (rw [show addS n1 A n2 C = (n1, A + C) from (by unfold addS; rw [if_pos (by assumption)])]; exact ⟨_, rfl, hv⟩) | (rw [show addS n1 A n2 C = (n1, A - C) from (by unfold addS; rw [if_neg (by assumption), if_pos (by assumption)])]; exact ⟨_, rfl, hv⟩) | (rw [show addS n1 A n2 C = (n2, C - A) from (by unfold addS; rw [if_neg (by assumption), if_neg (by assumption)])]; exact ⟨_, rfl, hv⟩))) : p := h
set_option maxHeartbeats 2000000 in
theorem addCt (n1 : Bool) (A : Nat) (n2 : Bool) (C : Nat) (v u : Value) (F : Heap) (hlA : nd 1000000000 A ≤ 1000000) (hlC : nd 1000000000 C ≤ 1000000) (hv : NumV F v n1 A) (hu : NumV F u n2 C) : Ct Tryz.prog 72 [v, u] F [] (fun F' _ r => NumZ F' r (addS n1 A n2 C)) := by
  obtain ⟨pv, rfl, hpv⟩ := hv
  obtain ⟨pu, rfl, hpu⟩ := hu
  have hv0 := hpv
  have hu0 := hpu
  obtain ⟨ao, ca, rfl, -, -⟩ := hv0
  obtain ⟨co, cc, rfl, -, -⟩ := hu0
  refine Ct.enter Tryz.func72 rfl Tryz.ntmps72 rfl fun w0 a S => ?_
  refine wp_sr fun Z hZ => ?_
  (refine wpl_box S rfl rfl rfl rfl rfl ?_; clear S a; intro b2 a w S)
  (refine wpl_box S rfl rfl rfl rfl rfl ?_; clear S a; intro b3 a w S)
  (refine wpl_alloc S rfl rfl rfl rfl ?_; clear S a; intro b a w S)
  (revert S a; revert hZ Z; refine go11 13 ?_; intro Z hZ a S)
  refine wpc_split S rfl (fun h => ?_) (fun h => ?_)
  · (skip; (try simp only [tq] at h))
    (refine wp_seq_k ?_; intro Z hZ)
    (refine wpc_mixL [0, 1, 2, 3, 4, 5, 7] [1] [b2, b3] S mixed (by kernel_rfl) ?_; clear S; intro w S)
    refine wppk_one rfl rfl ?_
    (refine wpp_v S rfl rfl rfl rfl (fun _ S => sv_fieldAddr S rfl rfl rfl inferInstance rfl) ?_; clear S a; intro a S)
    refine wpp_nil ?_
    first | (refine wppk_late S rfl rfl rfl rfl rfl (fun w' hw => hw.1) (fun w' S => sv_loadO S rfl rfl (by rfl)) ?_; clear S a; intro a S) | (refine wppk_late S rfl rfl rfl rfl rfl (fun w' hw => hw.1) (fun w' S => sv_loadAO S rfl rfl (by rfl)) ?_; clear S a; intro a S) | (refine wppk_late S rfl rfl rfl rfl rfl (fun w' hw => hw.2.1) (fun w' S => sv_loadO S rfl rfl (by rfl)) ?_; clear S a; intro a S) | (refine wppk_late S rfl rfl rfl rfl rfl (fun w' hw => hw.2.1) (fun w' S => sv_loadAO S rfl rfl (by rfl)) ?_; clear S a; intro a S)
    refine wppk_one rfl rfl ?_
    (refine wpp_v S rfl rfl rfl rfl (fun _ S => sv_fieldAddr S rfl rfl rfl inferInstance rfl) ?_; clear S a; intro a S)
    refine wpp_nil ?_
    refine wppk_one rfl rfl ?_
    first | (refine wpp_s S rfl rfl rfl rfl (sv_loadO S rfl rfl (by rfl)) ?_; clear S a; intro a S) | (refine wpp_s S rfl rfl rfl rfl (sv_loadF S rfl rfl (by assumption)) ?_; clear S a; intro a S)
    refine wpp_nil ?_
    refine wppk_one rfl rfl ?_
    (refine wpp_v S rfl rfl rfl rfl (fun _ S => sv_fieldAddr S rfl rfl rfl inferInstance rfl) ?_; clear S a; intro a S)
    refine wpp_nil ?_
    refine wppk_one rfl rfl ?_
    first | (refine wpp_s S rfl rfl rfl rfl (sv_loadO S rfl rfl (by rfl)) ?_; clear S a; intro a S) | (refine wpp_s S rfl rfl rfl rfl (sv_loadF S rfl rfl (by assumption)) ?_; clear S a; intro a S)
    refine wpp_nil ?_
    refine wplk_one rfl ⟨S.has inferInstance, S.has inferInstance, trivial⟩ ?_
    (refine wpl_callF S rfl rfl rfl rfl rfl rfl (plusCt A C _ _ F hlA hlC hpv hpu) rfl ?_; clear S a; intro v F1 a w hv hF1 S; have hv0 := hv; obtain ⟨ro, rc, rfl, -, -⟩ := hv0)
    refine wpList_nil ?_
    refine wppk_one rfl rfl ?_
    (refine wpp_v S rfl rfl rfl rfl (fun _ S => sv_build S rfl rfl rfl) ?_; clear S a; intro a S)
    refine wpp_nil ?_
    refine wplk_one rfl ⟨S.has inferInstance, S.has inferInstance, trivial⟩ ?_
    (refine wpl_storeO S rfl rfl rfl rfl rfl (by rfl) (by simp [Value.cells, Value.oneCell', splice]) (by rfl) ?_; clear S; intro w S)
    refine wpList_nil ?_
    refine wplk_nil ⟨S.has inferInstance, S.has inferInstance, trivial⟩ ?_
    (refine hZ _ _ ?_; clear hZ Z)
    refine wp_ret (fin_ret S (results1 Tryz.results72 (RV.cellO S rfl (by rfl))) ?_)
    exact zzBig50
  (skip; (try simp only [tq] at h))
  (revert S a; refine go01 5 ?_; intro Z hZ a S)
  (refine wpl_call0 S rfl rfl rfl rfl rfl rfl (sizesCt A C _ _ F hlA hlC hpv hpu) rfl ?_; clear S a; intro v a w hv S; subst hv)
  (revert S a; revert hZ Z; refine go10 4 ?_; intro a S)
  refine wpc_split S rfl (fun h => ?_) (fun h => ?_)
  · (skip; (try simp only [tq] at h))
    (refine wp_seq_k ?_; intro Z hZ)
    (refine wpc_mixL [0, 1, 2, 3, 4, 5, 7] [1] [b2, b3] S mixed (by kernel_rfl) ?_; clear S; intro w S)
    refine wppk_one rfl rfl ?_
    (refine wpp_v S rfl rfl rfl rfl (fun _ S => sv_fieldAddr S rfl rfl rfl inferInstance rfl) ?_; clear S a; intro a S)
    refine wpp_nil ?_
    first | (refine wppk_late S rfl rfl rfl rfl rfl (fun w' hw => hw.1) (fun w' S => sv_loadO S rfl rfl (by rfl)) ?_; clear S a; intro a S) | (refine wppk_late S rfl rfl rfl rfl rfl (fun w' hw => hw.1) (fun w' S => sv_loadAO S rfl rfl (by rfl)) ?_; clear S a; intro a S) | (refine wppk_late S rfl rfl rfl rfl rfl (fun w' hw => hw.2.1) (fun w' S => sv_loadO S rfl rfl (by rfl)) ?_; clear S a; intro a S) | (refine wppk_late S rfl rfl rfl rfl rfl (fun w' hw => hw.2.1) (fun w' S => sv_loadAO S rfl rfl (by rfl)) ?_; clear S a; intro a S)
    refine wppk_one rfl rfl ?_
    (refine wpp_v S rfl rfl rfl rfl (fun _ S => sv_fieldAddr S rfl rfl rfl inferInstance rfl) ?_; clear S a; intro a S)
    refine wpp_nil ?_
    refine wppk_one rfl rfl ?_
    first | (refine wpp_s S rfl rfl rfl rfl (sv_loadO S rfl rfl (by rfl)) ?_; clear S a; intro a S) | (refine wpp_s S rfl rfl rfl rfl (sv_loadF S rfl rfl (by assumption)) ?_; clear S a; intro a S)
    refine wpp_nil ?_
    refine wppk_one rfl rfl ?_
    (refine wpp_v S rfl rfl rfl rfl (fun _ S => sv_fieldAddr S rfl rfl rfl inferInstance rfl) ?_; clear S a; intro a S)
    refine wpp_nil ?_
    refine wppk_one rfl rfl ?_
    first | (refine wpp_s S rfl rfl rfl rfl (sv_loadO S rfl rfl (by rfl)) ?_; clear S a; intro a S) | (refine wpp_s S rfl rfl rfl rfl (sv_loadF S rfl rfl (by assumption)) ?_; clear S a; intro a S)
    refine wpp_nil ?_
    refine wplk_one rfl ⟨S.has inferInstance, S.has inferInstance, trivial⟩ ?_
    (first | (refine wpl_callF S rfl rfl rfl rfl rfl rfl (minusCt A C _ _ F (cmp_le h) hlA hlC hpv hpu) rfl ?_; clear S a; intro v F1 a w hv hF1 S; have hv0 := hv; obtain ⟨ro, rc, rfl, -, -⟩ := hv0) | (refine wpl_callF S rfl rfl rfl rfl rfl rfl (minusCt C A _ _ F (cmp_gt h) hlC hlA hpu hpv) rfl ?_; clear S a; intro v F1 a w hv hF1 S; have hv0 := hv; obtain ⟨ro, rc, rfl, -, -⟩ := hv0))
    refine wpList_nil ?_
    refine wppk_one rfl rfl ?_
    (refine wpp_v S rfl rfl rfl rfl (fun _ S => sv_build S rfl rfl rfl) ?_; clear S a; intro a S)
    refine wpp_nil ?_
    refine wplk_one rfl ⟨S.has inferInstance, S.has inferInstance, trivial⟩ ?_
    (refine wpl_storeO S rfl rfl rfl rfl rfl (by rfl) (by simp [Value.cells, Value.oneCell', splice]) (by rfl) ?_; clear S; intro w S)
    refine wpList_nil ?_
    refine wplk_nil ⟨S.has inferInstance, S.has inferInstance, trivial⟩ ?_
    (refine hZ _ _ ?_; clear hZ Z)
    refine wp_ret (fin_ret S (results1 Tryz.results72 (RV.cellO S rfl (by rfl))) ?_)
    exact zzBig50
  (skip; (try simp only [tq] at h))
  refine wp_skip ?_
  (refine hZ _ _ ?_; clear hZ Z)
  (refine wp_seq_k ?_; intro Z hZ)
  (refine wpc_mixL [0, 1, 2, 3, 4, 5, 7] [1] [b2, b3] S mixed (by kernel_rfl) ?_; clear S; intro w S)
  refine wppk_one rfl rfl ?_
  (refine wpp_v S rfl rfl rfl rfl (fun _ S => sv_fieldAddr S rfl rfl rfl inferInstance rfl) ?_; clear S a; intro a S)
  refine wpp_nil ?_
  first | (refine wppk_late S rfl rfl rfl rfl rfl (fun w' hw => hw.1) (fun w' S => sv_loadO S rfl rfl (by rfl)) ?_; clear S a; intro a S) | (refine wppk_late S rfl rfl rfl rfl rfl (fun w' hw => hw.1) (fun w' S => sv_loadAO S rfl rfl (by rfl)) ?_; clear S a; intro a S) | (refine wppk_late S rfl rfl rfl rfl rfl (fun w' hw => hw.2.1) (fun w' S => sv_loadO S rfl rfl (by rfl)) ?_; clear S a; intro a S) | (refine wppk_late S rfl rfl rfl rfl rfl (fun w' hw => hw.2.1) (fun w' S => sv_loadAO S rfl rfl (by rfl)) ?_; clear S a; intro a S)
  refine wppk_one rfl rfl ?_
  (refine wpp_v S rfl rfl rfl rfl (fun _ S => sv_fieldAddr S rfl rfl rfl inferInstance rfl) ?_; clear S a; intro a S)
  refine wpp_nil ?_
  refine wppk_one rfl rfl ?_
  first | (refine wpp_s S rfl rfl rfl rfl (sv_loadO S rfl rfl (by rfl)) ?_; clear S a; intro a S) | (refine wpp_s S rfl rfl rfl rfl (sv_loadF S rfl rfl (by assumption)) ?_; clear S a; intro a S)
  refine wpp_nil ?_
  refine wppk_one rfl rfl ?_
  (refine wpp_v S rfl rfl rfl rfl (fun _ S => sv_fieldAddr S rfl rfl rfl inferInstance rfl) ?_; clear S a; intro a S)
  refine wpp_nil ?_
  refine wppk_one rfl rfl ?_
  first | (refine wpp_s S rfl rfl rfl rfl (sv_loadO S rfl rfl (by rfl)) ?_; clear S a; intro a S) | (refine wpp_s S rfl rfl rfl rfl (sv_loadF S rfl rfl (by assumption)) ?_; clear S a; intro a S)
  refine wpp_nil ?_
  refine wplk_one rfl ⟨S.has inferInstance, S.has inferInstance, trivial⟩ ?_
  (first | (refine wpl_callF S rfl rfl rfl rfl rfl rfl (minusCt A C _ _ F (cmp_le h) hlA hlC hpv hpu) rfl ?_; clear S a; intro v F1 a w hv hF1 S; have hv0 := hv; obtain ⟨ro, rc, rfl, -, -⟩ := hv0) | (refine wpl_callF S rfl rfl rfl rfl rfl rfl (minusCt C A _ _ F (cmp_gt h) hlC hlA hpu hpv) rfl ?_; clear S a; intro v F1 a w hv hF1 S; have hv0 := hv; obtain ⟨ro, rc, rfl, -, -⟩ := hv0))
  refine wpList_nil ?_
  refine wppk_one rfl rfl ?_
  (refine wpp_v S rfl rfl rfl rfl (fun _ S => sv_build S rfl rfl rfl) ?_; clear S a; intro a S)
  refine wpp_nil ?_
  refine wplk_one rfl ⟨S.has inferInstance, S.has inferInstance, trivial⟩ ?_
  (refine wpl_storeO S rfl rfl rfl rfl rfl (by rfl) (by simp [Value.cells, Value.oneCell', splice]) (by rfl) ?_; clear S; intro w S)
  refine wpList_nil ?_
  refine wplk_nil ⟨S.has inferInstance, S.has inferInstance, trivial⟩ ?_
  (refine hZ _ _ ?_; clear hZ Z)
  refine wp_ret (fin_ret S (results1 Tryz.results72 (RV.cellO S rfl (by rfl))) ?_)
  exact zzBig50

set_option maxHeartbeats 1000000 in
theorem turnedCt (n1 : Bool) (A : Nat) (v : Value) (F : Heap) (hv : NumV F v n1 A) : Ct Tryz.prog 73 [v] F [] (fun F' _ r => NumV F' r (!n1) A) := by
  obtain ⟨pv, rfl, hpv⟩ := hv
  have hv0 := hpv
  obtain ⟨ao, ca, rfl, -, -⟩ := hv0
  refine Ct.enter Tryz.func73 rfl Tryz.ntmps73 rfl fun w0 a S => ?_
  refine wp_sr fun Z hZ => ?_
  (refine wpl_box S rfl rfl rfl rfl rfl ?_; clear S a; intro b a w S)
  (refine wpl_alloc S rfl rfl rfl rfl ?_; clear S a; intro b a w S)
  (revert S a; revert hZ Z; refine go11 9 ?_; intro Z hZ a S)
  (refine wpl_storeO S rfl rfl rfl rfl rfl (by rfl) (by simp [Value.cells, Value.oneCell', splice]) (by rfl) ?_; clear S; intro w S)
  (refine wpList_nil (hZ _ _ ?_); clear hZ Z)
  refine wp_ret (fin_ret S (results1 Tryz.results73 (RV.cellO S rfl (by rfl))) ?_)
  exact ⟨_, rfl, hpv⟩

/-- What both say: the refusal, or the two numbers. -/
def bothE (s t : List UInt8) : Int := if checkS s = 0 then checkS t else checkS s
def BothV (F : Heap) (u : Value) (s t : List UInt8) : Prop :=
  if bothE s t = 0 then ∃ p q, u = .tuple ⟨[.agg ⟨[.bool (negS s), p]⟩, .agg ⟨[.bool (negS t), q]⟩, .int .i64 0]⟩ ∧ Mag F p (decV (bodyS s)) ∧ Mag F q (decV (bodyS t))
  else u = .tuple ⟨[.agg ⟨[.bool false, .slice none 0 0]⟩, .agg ⟨[.bool false, .slice none 0 0]⟩, .int .i64 (bothE s t)]⟩

theorem zzBig51 {p : Prop} (h : p := by (first | (unfold BothV; rw [if_pos (by unfold bothE; rw [if_pos (hc1 (by omega))]; exact hc2 (by omega))]; exact ⟨_, _, rfl, hpp.mono hF2, hpq⟩) | (have hbe : bothE s t = checkS x := (by unfold bothE; rcases hx0 with ⟨h8, rfl⟩ | ⟨h8, rfl⟩; (rw [if_neg h]); (rw [if_pos (hc1 (by omega))])); unfold BothV; rw [if_neg (by rw [hbe]; exact h), hbe]; rfl))) : p := h
set_option maxHeartbeats 2000000 in
theorem bothCt (s t : List UInt8) (F : Heap) (hs : s.length ≤ 1000000000) (ht : t.length ≤ 1000000000) : Ct Tryz.prog 70 [.string (bs s), .string (bs t)] F [] (fun F' _ u => BothV F' u s t) := by
  refine Ct.enter Tryz.func70 rfl Tryz.ntmps70 rfl fun w0 a S => ?_
  refine wp_sr fun Z hZ => ?_
  (refine wpl_alloc S rfl rfl rfl rfl ?_; clear S a; intro b4 a w S)
  (refine wpl_alloc S rfl rfl rfl rfl ?_; clear S a; intro b5 a w S)
  (revert S a; revert hZ Z; refine go12 7 ?_; intro Z hZ Z hZ a S)
  (refine wpl_v S rfl rfl rfl (sv_buildA S rfl rfl rfl (by simp [Value.cells]) rfl) ?_; clear S a; intro a S)
  (revert S a; revert hZ Z; refine go10 4 ?_; intro a S)
  refine wpc_loop (fun m a w' => ∃ (i : Nat), m = 2 - i ∧ i ≤ 2 ∧ (0 < i → checkS s = 0) ∧ (1 < i → checkS t = 0) ∧ St 28 [(0, .string (bs s)), (1, .string (bs t)), (4, .pointer (some ⟨b4, 0, none⟩)), (5, .pointer (some ⟨b5, 0, none⟩)), (12, .agg ⟨[.string (bs s), .string (bs t)]⟩), (13, .int .i64 i)] w0 F [] F [[(b5, .cells ⟨[.bool false, .slice none 0 0]⟩ 93 (0, 0))], [(b4, .cells ⟨[.bool false, .slice none 0 0]⟩ 93 (0, 0))]] a w') ?_ ?_
  · (refine ⟨2, 0, rfl, by omega, by omega, by omega, ?_⟩; refine S.keep ?_; repeat (first | exact trivial | refine ⟨rfl, ?_⟩))
  (clear S; rintro m a w ⟨i, rfl, hi, hc1, hc2, S⟩)
  (revert S a; refine go01 5 ?_; intro Z hZ a S)
  refine wpc_split S rfl (fun h => ?_) (fun h => ?_)
  · (skip; (try simp only [tq] at h))
    (revert S a; revert hZ Z; refine go12 5 ?_; intro Z hZ Z hZ a S)
    (obtain ⟨x, hxe, hx, hx0⟩ : ∃ x : List UInt8, ([.string (bs s), .string (bs t)] : List Value)[i]? = some (.string (bs x)) ∧ x.length ≤ 1000000000000 ∧ ((i = 0 ∧ x = s) ∨ (i = 1 ∧ x = t)) := (by rcases Nat.lt_or_ge i 1 with h9 | h9; (have h8 : i = 0 := (by omega); subst h8; exact ⟨s, rfl, by omega, Or.inl ⟨rfl, rfl⟩⟩); (have h8 : i = 1 := (by omega); subst h8; exact ⟨t, rfl, by omega, Or.inr ⟨rfl, rfl⟩⟩))); (refine wpl_v S rfl rfl rfl (sv_indexA S rfl rfl rfl (by omega) hxe) ?_; clear S a; intro a S)
    (revert S a; revert hZ Z; refine go11 5 ?_; intro Z hZ a S)
    (refine wpl_call0 S rfl rfl rfl rfl rfl rfl (checkCt x F (by omega)) rfl ?_; clear S a; intro v a w hv S; subst hv)
    (revert S a; revert hZ Z; refine go10 8 ?_; intro a S)
    refine wpc_split S rfl (fun h => ?_) (fun h => ?_)
    · (skip; (try simp only [tq] at h))
      (revert S a; refine go01 4 ?_; intro Z hZ a S)
      iterate 2 (refine wpl_storeO S rfl rfl rfl rfl rfl (by rfl) (by simp [Value.cells, Value.oneCell', splice]) (by rfl) ?_; clear S; intro w S)
      (revert S a; revert hZ Z; refine go10 3 ?_; intro a S)
      refine wp_ret (fin_ret S (results3 Tryz.results70 (RV.cellO S rfl (by rfl)) (RV.cellO S rfl (by rfl)) (RV.tmp S rfl)) ?_)
      exact zzBig51
    (skip; (try simp only [tq] at h))
    (revert S a; revert hZ Z; refine go10 6 ?_; intro a S)
    change ∃ m', _ ∧ _
    (refine ⟨2 - (i + 1), by omega, i + 1, rfl, by omega, ?_, ?_, ?_⟩; rotate_left 2; (refine S.keep ?_; repeat (first | exact trivial | refine ⟨rfl, ?_⟩)); (intro h8; rcases hx0 with ⟨h9, rfl⟩ | ⟨h9, rfl⟩; exact h; exact hc1 (by omega)); (intro h8; rcases hx0 with ⟨h9, rfl⟩ | ⟨h9, rfl⟩; omega; exact h))
  (skip; (try simp only [tq] at h))
  (refine wp_exit ?_; conv => whnf)
  clear hZ Z
  (revert S a; revert hZ Z; refine go11 3 ?_; intro Z hZ a S)
  (first | (refine wpl_callF S rfl rfl rfl rfl rfl rfl (ofCt t F1 hct) rfl ?_; clear S a; intro v2 F2 a w hv2 hF2 S; obtain ⟨pq, rfl, hpq⟩ := hv2; have hpq0 := hpq; obtain ⟨qo, qc, rfl, -, -⟩ := hpq0) | (refine wpl_callF S rfl rfl rfl rfl rfl rfl (ofCt s F (hc1 (by omega))) rfl ?_; clear S a; intro v F1 a w hv hF1 S; have hct := hc2 (by omega); obtain ⟨pp, rfl, hpp⟩ := hv; have hpp0 := hpp; obtain ⟨po, pc, rfl, -, -⟩ := hpp0))
  (revert S a; refine go00 1 ?_; intro a S)
  (first | (refine wpl_callF S rfl rfl rfl rfl rfl rfl (ofCt t F1 hct) rfl ?_; clear S a; intro v2 F2 a w hv2 hF2 S; obtain ⟨pq, rfl, hpq⟩ := hv2; have hpq0 := hpq; obtain ⟨qo, qc, rfl, -, -⟩ := hpq0) | (refine wpl_callF S rfl rfl rfl rfl rfl rfl (ofCt s F (hc1 (by omega))) rfl ?_; clear S a; intro v F1 a w hv hF1 S; have hct := hc2 (by omega); obtain ⟨pp, rfl, hpp⟩ := hv; have hpp0 := hpp; obtain ⟨po, pc, rfl, -, -⟩ := hpp0))
  iterate 2 (refine wpl_storeO S rfl rfl rfl rfl rfl (by rfl) (by simp [Value.cells, Value.oneCell', splice]) (by rfl) ?_; clear S; intro w S)
  (revert S a; revert hZ Z; refine go10 3 ?_; intro a S)
  refine wp_ret (fin_ret S (results3 Tryz.results70 (RV.cellO S rfl (by rfl)) (RV.cellO S rfl (by rfl)) (RV.tmp S rfl)) ?_)
  exact zzBig51
end Go.Proofs.YtigblodhdfnleaaGreatDoor
namespace Go.Wk
open Go
set_option linter.unusedSimpArgs false
set_option linter.unusedVariables false
set_option linter.unusedVariables false
section
variable {P : Program} {n : Sz} {L : List (Nat × Value)} {w0 : World} {F0 : Heap} {K0 : List Nat} {F : Heap} {G : List Grp} {a : Act} {w : World} {o : Oper} {ops : Array Oper} {rest : List Oper} {Q : Exit → Act → World → Prop}

theorem wpl_callOwn {d : Nat} {x : Operand} {xs : Array Operand} {ts : Array TypeId} {f : FuncId} {fi ca vs args : List Value} {Gs Gr : List Grp} {Post : List Grp → Value → Prop} [hf : HasFn P f] (S : St n L w0 F0 K0 F G a w) (hg : o.guard = none) (hd : o.dst = some d) (hn : Nat.blt d n.sz = true)
    (ho : o.op = .call { callee := .value x, args := xs, argTypes := ts }) (hx : ev L x = some (.func (.func f) ⟨fi⟩ ⟨ca⟩)) (hxs : evs L xs.toList = some vs) (C : Ct P f args F Gs (fun _ G' u => Post G' u)) (ha : fi ++ vs ++ ca = args) (hp : G.flatten.Perm (Gs.flatten ++ Gr.flatten))
    (k : ∀ v G' a' w', Post G' v → St n ((d, v) :: L) w0 F0 K0 F (G' ++ Gr) a' w' → wpList P ops Q rest a' w') : wpList P ops Q (o :: rest) a w :=
  wpl_call S hg hd hn ho hx hxs C ha hp fun v F' G' a' w' hv hF S' => k v G' a' w' hv ⟨S'.fr, Tr.shrink S'.tr hF S.tr.ext⟩

theorem sv_eqPtrNil {x y : Operand} {t yt e : TypeId} [ht : Und P t (.pointer e)] (S : St n L w0 F0 K0 F G a w) (ho : o.op = .binOp .eql t x y yt) (hx : ev L x = some (.pointer none)) (hy : ev L y = some (.pointer none)) : SV P o a w (.bool true) := by
  unfold SV execOp
  rw [ho]
  have h1 : (eqGuard .eql t x y (.pointer none) (.pointer none)).run P w = .ok () w := rfl
  have hp : P.pointee t = e := by simp [Program.pointee, ht.h]
  have h2 := run_eql_pointer_nil (P := P) w t none (by rw [hp]; exact ht.h)
  simp only [S.fr.eval hx, S.fr.eval hy, Sem.run_bind, h1, Result.andThen_ok, h2, Sem.run_pure]
  rfl
theorem sv_eqPtrSome {x y : Operand} {t yt e : TypeId} {ad : Addr} [ht : Und P t (.pointer e)] (S : St n L w0 F0 K0 F G a w) (ho : o.op = .binOp .eql t x y yt) (hx : ev L x = some (.pointer (some ad))) (hy : ev L y = some (.pointer none)) : SV P o a w (.bool false) := by
  unfold SV execOp
  rw [ho]
  have h1 : (eqGuard .eql t x y (.pointer (some ad)) (.pointer none)).run P w = .ok () w := rfl
  have hp : P.pointee t = e := by simp [Program.pointee, ht.h]
  have h2 := run_eql_pointer_nil (P := P) w t (some ad) (by rw [hp]; exact ht.h)
  simp only [S.fr.eval hx, S.fr.eval hy, Sem.run_bind, h1, Result.andThen_ok, h2, Sem.run_pure]
  rfl
theorem sv_nePtrSame {x y : Operand} {t yt e : TypeId} {ad : Addr} {z : Value} {sz by_ : Nat} [ht : Und P t (.pointer e)] [hi : Inf P e z sz by_] (S : St n L w0 F0 K0 F G a w) (ho : o.op = .binOp .neq t x y yt) (hx : ev L x = some (.pointer (some ad))) (hy : ev L y = some (.pointer (some ad))) : SV P o a w (.bool false) := by
  obtain ⟨i, h1, _⟩ := hi.h
  unfold SV execOp
  rw [ho]
  have h2 : (eqGuard .neq t x y (.pointer (some ad)) (.pointer (some ad))).run P w = .ok () w := rfl
  simp [S.fr.eval hx, S.fr.eval hy, h2, Lib.run_neq_ptr_same w ad ht.h h1]

theorem shape_own {b : Nat} {c : List Value} {e : TypeId} {R} (S : St n L w0 F0 K0 F G a w) (hh : Has G b (.cells ⟨c⟩ e (0, 0)) R) : w.shape? b = some (e, c.length) := by
  have := S.has hh
  simp [World.shape?, this]
theorem sv_toUnsafe {x : Operand} {s t e1 : TypeId} {b : Nat} {c : List Value} {e : TypeId} {R} {z : Value} {sz by_ : Nat} [hs : Und P s (.pointer e1)] [ht : Und P t .unsafePointer] [hi : Inf P e1 z sz by_] [hh : Has G b (.cells ⟨c⟩ e (0, 0)) R] (S : St n L w0 F0 K0 F G a w) (ho : o.op = .convert s t x) (hx : ev L x = some (.pointer (some ⟨b, 0, none⟩)))
    (hsz : Nat.beq sz 0 = false) (hc : 0 < c.length) : SV P o a w (.pointer (some ⟨b, 0, none⟩)) := by
  obtain ⟨i, h1, h2, h3, h4⟩ := hi.h
  have hne : i.size ≠ 0 := fun h => by rw [h3] at h; subst h; simp at hsz
  unfold SV execOp
  rw [ho]
  simp [S.fr.eval hx, Lib.run_to_unsafe w ⟨b, 0, none⟩ hs.h ht.h h1 hne (shape_own S hh) hc]
theorem sv_fromUnsafe {x : Operand} {s t u : TypeId} {b : Nat} {c : List Value} {e : TypeId} {R} {z : Value} {sz by_ : Nat} [hs : Und P s .unsafePointer] [ht : Und P t (.pointer u)] [hi : Inf P u z sz by_] [hh : Has G b (.cells ⟨c⟩ e (0, 0)) R] (S : St n L w0 F0 K0 F G a w) (ho : o.op = .convert s t x) (hx : ev L x = some (.pointer (some ⟨b, 0, none⟩)))
    (hl : liesAt P P.depth e (c.length / P.cellsOf e) 0 u 1 = true) : SV P o a w (.pointer (some ⟨b, 0, none⟩)) := by
  obtain ⟨i, h1, _⟩ := hi.h
  unfold SV execOp
  rw [ho]
  simp [S.fr.eval hx, Lib.run_from_unsafe w ⟨b, 0, none⟩ hs.h ht.h h1 (shape_own S hh) hl]
/-- A function that hands back its argument, by the model's own entry. -/
class NoEsc (P : Program) (f : FuncId) : Prop where
  h : ∀ (x : Value) (w : World), (callFunc f #[x]).run P w = .ok (.value x) w
theorem sv_noEsc {x y : Operand} {ts : Array TypeId} {f : FuncId} {v : Value} [hf : NoEsc P f] (S : St n L w0 F0 K0 F G a w) (ho : o.op = .call { callee := .value x, args := #[y], argTypes := ts }) (hx : ev L x = some (.func (.func f) ⟨[]⟩ ⟨[]⟩)) (hy : ev L y = some v) : SV P o a w v := by
  unfold SV execOp
  rw [ho]
  simp [resolve, S.fr.eval hx, S.fr.eval hy, Deferred.ofValue, invoke, hf.h]
theorem sv_sliceData {x : Operand} {ts : Array TypeId} {ad : Addr} {q c : Nat} (S : St n L w0 F0 K0 F G a w) (ho : o.op = .call { callee := .builtin .unsafeSliceData, args := #[x], argTypes := ts }) (hx : ev L x = some (.slice (some ad) q c)) (hc : 0 < c) : SV P o a w (.pointer (some ad)) := by
  unfold SV execOp
  rw [ho]
  simp [resolve, invoke, builtin, S.fr.eval hx, Lib.run_unsafeSliceData_row w ts o.type ad q c (by omega)]

theorem freeze_heap (w : World) (b m : Nat) (c : Array Value) (e : TypeId) (hm : m ≠ 0) (h : w.heap[b]? = some (.cells c e (0, 0))) : (w.freeze ⟨b, 0, none⟩ m).heap[b]? = some (.cells c e (0, m)) := by
  obtain ⟨hlt, hk⟩ := Array.getElem?_eq_some_iff.1 h
  unfold World.freeze
  rw [if_neg hm]
  show (w.heap.modify b _)[b]? = _
  rw [Array.getElem?_eq_getElem (by rw [Array.size_modify]; exact hlt), Array.getElem_modify_self, hk]
  simp
theorem freeze_other (w : World) (b m k : Nat) (hk : k ≠ b) : (w.freeze ⟨b, 0, none⟩ m).heap[k]? = w.heap[k]? := by
  unfold World.freeze
  split
  · rfl
  · show (w.heap.modify b _)[k]? = _
    rw [Array.getElem?_modify, if_neg (fun e => hk e.symm)]
theorem freeze_size (w : World) (b m : Nat) : (w.freeze ⟨b, 0, none⟩ m).heap.size = w.heap.size ∧ (w.freeze ⟨b, 0, none⟩ m).os = w.os ∧ (w.freeze ⟨b, 0, none⟩ m).tape = w.tape ∧ (w.freeze ⟨b, 0, none⟩ m).output = w.output := by
  unfold World.freeze
  split
  · exact ⟨rfl, rfl, rfl, rfl⟩
  · exact ⟨Array.size_modify, rfl, rfl, rfl⟩

/-- The bytes of a row of the call's own, as a string; the row is let go. -/
theorem wpl_unsafeString {d : Nat} {x y : Operand} {pt it e : TypeId} {b cap q : Nat} {l : List UInt8} {g : Grp} {R} [hp : Und P pt (.pointer e)] (S : St n L w0 F0 K0 F G a w) (hg : o.guard = none) (hd : o.dst = some d) (hn : Nat.blt d n.sz = true)
    (ho : o.op = .call { callee := .builtin .unsafeString, args := #[x, y], argTypes := #[pt, it] }) (hx : ev L x = some (.pointer (some ⟨b, 0, none⟩))) (hy : ev L y = some (.int .i64 (Int.ofNat q)))
    (hown : OwnS e 1 (.slice (some ⟨b, 0, none⟩) q cap) q (l.map fun c => Value.int .u8 c.toNat) g) [hN : Nth G g R] (hc : P.cellsOf e = 1) (h0 : 0 < q) (h63 : q ≤ 9223372036854775807)
    (k : ∀ a' w', St n ((d, .string (bs l)) :: L) w0 F0 K0 F (R []) a' w' → wpList P ops Q rest a' w') : wpList P ops Q (o :: rest) a w := by
  obtain ⟨ex, rfl, h1, h2, h3, h4⟩ := hown.block
  obtain ⟨G1, G2, e1, hR⟩ := hN.h
  rw [List.length_map] at h3
  have ht := S.tr
  rw [e1] at ht
  have hb := (ht.own (b, _) (by simp only [List.flatten_append, List.flatten_cons]; exact List.mem_append_right _ (List.mem_append_left _ (List.mem_singleton.2 rfl)))).1
  have hlne : l ≠ [] := fun e => by rw [e] at h3; simp at h3; omega
  have hr := Lib.run_unsafeString_row (P := P) w pt it o.type e hp.h hc b (((l.map fun c => Value.int .u8 c.toNat) ++ ex).length) (by simp only [World.shape?, hb]; rfl) l hlne (by simp) (by omega) (fun j u hj => by
    rw [addr_add, Nat.zero_add]
    refine cell_of_heap hb ?_
    simp only [List.getElem?_toArray]
    rw [List.getElem?_append_left (by rw [List.length_map]; exact (List.getElem?_eq_some_iff.1 hj).1), List.getElem?_map, hj]; rfl)
  have hq : ((l.length : Nat) : Int) = Int.ofNat q := by rw [h3]; rfl
  rw [hq] at hr
  refine wpList_plain hg fun K hK => ?_
  unfold Oper.wp execOp
  rw [ho]
  simp [resolve, invoke, builtin, S.fr.eval hx, S.fr.eval hy]
  simp only [Int.ofNat_eq_natCast] at hr
  rw [hr, Result.andThen_ok, Oper.upon_value, hd]
  have hz := freeze_size w b l.length
  have ht2 := ht.write (w' := w.freeze ⟨b, 0, none⟩ l.length) hz.2.1 hz.2.2.1 hz.2.2.2 hz.1 (freeze_heap w b l.length _ e (by simpa using hlne) hb) (fun k hk => freeze_other w b _ k hk)
  refine hK _ _ (k _ _ ⟨S.fr.put _ hn, ?_⟩)
  rw [hR]
  exact ht2.sub (by simp only [List.flatten_append, List.flatten_cons, List.nil_append]; exact List.Sublist.append_left (List.sublist_append_right _ _) _)
end
end Go.Wk
namespace Go.Proofs.YtigblodhdfnleaaGreatDoor
open Go Go.Wk Go.Num
set_option linter.unusedSimpArgs false
set_option linter.unusedVariables false
attribute [local irreducible] Go.wpList Go.Code.wp Go.wpStill Go.Wk.wpPre Go.bodyPost Go.Calls Go.Wk.Ct Go.Wk.OwnS
attribute [local irreducible] Go.Wk.wpG

instance : NoEsc Tryz.prog 146 := ⟨fun x w => by
  rw [run_callFunc_extern Tryz.func146 (by kernel_rfl) (by kernel_rfl) (by kernel_rfl) (e := Extern.AbiNoEscape.same) (by kernel_rfl), Lib.run_noEscape]
  rfl⟩
/-- The builder's own block: never written, or written. -/
def bldG (b : Nat) (p v : Value) : Grp := [(b, .cells ⟨[p, v]⟩ 132 (0, 0))]
def bldP (b : Nat) (p : Value) : Prop := p = .pointer none ∨ p = .pointer (some ⟨b, 0, none⟩)

set_option maxHeartbeats 1000000 in
theorem copyCheck0 (b : Nat) (v : Value) (F : Heap) : Ct Tryz.prog 120 [.pointer (some ⟨b, 0, none⟩)] F [[(b, .cells ⟨[.pointer none, v]⟩ 132 (0, 0))]] (fun _ G' _ => G' = [[(b, .cells ⟨[.pointer (some ⟨b, 0, none⟩), v]⟩ 132 (0, 0))]]) := by
  refine Ct.enter Tryz.func120 rfl Tryz.ntmps120 rfl fun w0 a S => ?_
  (revert S a; refine go01 5 ?_; intro Z hZ a S)
  (refine wpl_v S rfl rfl rfl (sv_eqPtrNil S rfl rfl rfl) ?_; clear S a; intro a S)
  (refine wpList_nil (hZ _ _ ?_); clear hZ Z)
  refine wpc_split S rfl (fun h => ?_) (fun h => ?_)
  · (skip; (try simp only [tq] at h))
    (revert S a; refine go00 3 ?_; intro a S)
    (refine wpl_v S rfl rfl rfl (sv_toUnsafe S rfl rfl rfl (by simp)) ?_; clear S a; intro a S)
    (refine wpl_v S rfl rfl rfl (sv_noEsc S rfl rfl rfl) ?_; clear S a; intro a S)
    (refine wpl_v S rfl rfl rfl (sv_fromUnsafe S rfl rfl (by kernel_rfl)) ?_; clear S a; intro a S)
    (revert S a; refine go00 2 ?_; intro a S)
    (refine wpl_store1 S rfl rfl rfl rfl rfl rfl (by first | (simp; done) | (simp [Value.cells]; done) | exact Nat.le_of_ble_eq_true rfl) ?_; clear S; intro w S)
    refine wpList_nil ?_
    refine fin_end S (results0 Tryz.results120) ?_
    rfl
  (skip; (try simp only [tq] at h); cases h)
set_option maxHeartbeats 1000000 in
theorem copyCheck1 (b : Nat) (v : Value) (F : Heap) : Ct Tryz.prog 120 [.pointer (some ⟨b, 0, none⟩)] F [[(b, .cells ⟨[.pointer (some ⟨b, 0, none⟩), v]⟩ 132 (0, 0))]] (fun _ G' _ => G' = [[(b, .cells ⟨[.pointer (some ⟨b, 0, none⟩), v]⟩ 132 (0, 0))]]) := by
  refine Ct.enter Tryz.func120 rfl Tryz.ntmps120 rfl fun w0 a S => ?_
  (revert S a; refine go01 5 ?_; intro Z hZ a S)
  (refine wpl_v S rfl rfl rfl (sv_eqPtrSome S rfl rfl rfl) ?_; clear S a; intro a S)
  (refine wpList_nil (hZ _ _ ?_); clear hZ Z)
  refine wpc_split S rfl (fun h => ?_) (fun h => ?_)
  · (skip; (try simp only [tq] at h); cases h)
  (skip; (try simp only [tq] at h))
  (revert S a; refine go01 6 ?_; intro Z hZ a S)
  (refine wpl_v S rfl rfl rfl (sv_nePtrSame S rfl rfl rfl) ?_; clear S a; intro a S)
  (refine wpList_nil (hZ _ _ ?_); clear hZ Z)
  refine wpc_split S rfl (fun h => ?_) (fun h => ?_)
  · (skip; (try simp only [tq] at h); cases h)
  (skip; (try simp only [tq] at h))
  refine wp_skip ?_
  refine fin_end S (results0 Tryz.results120) ?_
  rfl
theorem copyCheckCt (b : Nat) (p v : Value) (F : Heap) (hp : bldP b p) : Ct Tryz.prog 120 [.pointer (some ⟨b, 0, none⟩)] F [bldG b p v] (fun _ G' _ => G' = [bldG b (.pointer (some ⟨b, 0, none⟩)) v]) := by
  rcases hp with rfl | rfl
  · exact copyCheck0 b v F
  · exact copyCheck1 b v F

def u8c (l : List UInt8) : List Value := l.map fun c => Value.int .u8 c.toNat
set_option maxHeartbeats 1000000 in
theorem writeStringCt (b : Nat) (p v : Value) (k : Nat) (l s : List UInt8) (g : Grp) (F : Heap) (hp : bldP b p) (hown : OwnS 5 1 v k (u8c l) g) (hs : 0 < s.length) (hk : k + s.length ≤ 1000000000) :
    Ct Tryz.prog 98 [.pointer (some ⟨b, 0, none⟩), .string (bs s)] F [bldG b p v, g] (fun _ G' _ => ∃ v' g', G' = [bldG b (.pointer (some ⟨b, 0, none⟩)) v', g'] ∧ OwnS 5 1 v' (k + s.length) (u8c (l ++ s)) g') := by
  refine Ct.enter Tryz.func98 rfl Tryz.ntmps98 rfl fun w0 a S => ?_
  (revert S a; refine go01 7 ?_; intro Z hZ a S)
  (refine wpl_callOwn (Gs := [bldG b p v]) (Gr := [g]) S rfl rfl rfl rfl rfl rfl (copyCheckCt b p v F hp) rfl (by simp) ?_; clear S a; intro u G1 a w hv1 S; subst hv1; replace S : St _ _ _ _ _ _ [[(b, .cells ⟨[.pointer (some ⟨b, 0, none⟩), v]⟩ 132 (0, 0))], g] _ _ := S)
  (revert S a; revert hZ Z; refine go11 9 ?_; intro Z hZ a S)
  (refine wpl_appendStr S rfl rfl rfl rfl rfl rfl hown (by rfl) (by omega) (by omega) (by omega) ?_; clear hown S a; intro v1 g1 a w hown S)
  (revert S a; refine go00 2 ?_; intro a S)
  (refine wpl_store1 S rfl rfl rfl rfl rfl hown.oneCell (by simp) ?_; clear S; intro w S)
  (revert S a; revert hZ Z; refine go10 9 ?_; intro a S)
  refine wp_ret (fin_ret S (results2 Tryz.results98 (RV.tmp S rfl) (RV.tmp S rfl)) ?_)
  (refine ⟨_, _, rfl, ?_⟩; unfold u8c; rw [List.map_append]; exact hown)
set_option maxHeartbeats 1000000 in
theorem bldLenCt (b : Nat) (p v : Value) (k : Nat) (l : List UInt8) (g : Grp) (F : Heap) (hown : OwnS 5 1 v k (u8c l) g) :
    Ct Tryz.prog 99 [.pointer (some ⟨b, 0, none⟩)] F [bldG b p v, g] (fun _ G' u => u = .int .i64 k ∧ G' = [bldG b p v, g]) := by
  obtain ⟨ao, cap, rfl, -, -, -⟩ := hown.at
  (refine Ct.enter Tryz.func99 rfl Tryz.ntmps99 rfl fun w0 a S => ?_); replace S : St _ _ _ _ _ _ [[(b, .cells ⟨[p, .slice ao k cap]⟩ 132 (0, 0))], g] _ _ := S
  (revert S a; refine go00 13 ?_; intro a S)
  refine wp_ret (fin_ret S (results1 Tryz.results99 (RV.tmp S rfl)) ?_)
  exact ⟨rfl, rfl⟩
set_option maxHeartbeats 1000000 in
theorem bldStringCt (b : Nat) (p v : Value) (k : Nat) (l : List UInt8) (g : Grp) (F : Heap) (hk : k ≤ 1000000000) (h0 : 0 < k) (hown : OwnS 5 1 v k (u8c l) g) :
    Ct Tryz.prog 100 [.pointer (some ⟨b, 0, none⟩)] F [bldG b p v, g] (fun _ _ u => u = .string (bs l)) := by
  obtain ⟨ao, cap, rfl, hcap, -, hpos⟩ := hown.at
  obtain ⟨br, rfl⟩ := hpos h0
  (refine Ct.enter Tryz.func100 rfl Tryz.ntmps100 rfl fun w0 a S => ?_); replace S : St _ _ _ _ _ _ [[(b, .cells ⟨[p, .slice (some ⟨br, 0, none⟩) k cap]⟩ 132 (0, 0))], g] _ _ := S
  (revert S a; refine go00 4 ?_; intro a S)
  (refine wp_seq_k ?_; intro Z hZ)
  (refine wpc_mixL [0, 1, 2, 3, 4, 5, 6, 7, 8, 9] [3, 4, 8, 9] [b] S mixed (by kernel_rfl) ?_; clear S; intro w S)
  refine wppk_one rfl rfl ?_
  (refine wpp_v S rfl rfl rfl rfl (fun _ S => sv_pure S rfl) ?_; clear S a; intro a S)
  refine wpp_nil ?_
  refine wppk_one rfl rfl ?_
  (refine wpp_v S rfl rfl rfl rfl (fun _ S => sv_nilCheck S rfl rfl) ?_; clear S a; intro a S)
  refine wpp_nil ?_
  refine wppk_one rfl rfl ?_
  (refine wpp_v S rfl rfl rfl rfl (fun _ S => sv_fieldAddr S rfl rfl rfl inferInstance rfl) ?_; clear S a; intro a S)
  refine wpp_nil ?_
  first | (refine wppk_late S rfl rfl rfl rfl rfl (fun w' hw => hw.1) (fun w' S => sv_loadO S rfl rfl (by rfl)) ?_; clear S a; intro a S) | (refine wppk_late S rfl rfl rfl rfl rfl (fun w' hw => hw.1) (fun w' S => sv_loadAO S rfl rfl (by rfl)) ?_; clear S a; intro a S)
  (refine wppk_late S rfl rfl rfl rfl rfl (fun w' hw => hw.1) (fun w' S => sv_sliceData S rfl rfl (by omega)) ?_; clear S a; intro a S)
  refine wppk_one rfl rfl ?_
  (refine wpp_v S rfl rfl rfl rfl (fun _ S => sv_pure S rfl) ?_; clear S a; intro a S)
  refine wpp_nil ?_
  refine wppk_one rfl rfl ?_
  (refine wpp_v S rfl rfl rfl rfl (fun _ S => sv_nilCheck S rfl rfl) ?_; clear S a; intro a S)
  refine wpp_nil ?_
  refine wppk_one rfl rfl ?_
  (refine wpp_v S rfl rfl rfl rfl (fun _ S => sv_fieldAddr S rfl rfl rfl inferInstance rfl) ?_; clear S a; intro a S)
  refine wpp_nil ?_
  first | (refine wppk_late S rfl rfl rfl rfl rfl (fun w' hw => hw.1) (fun w' S => sv_loadO S rfl rfl (by rfl)) ?_; clear S a; intro a S) | (refine wppk_late S rfl rfl rfl rfl rfl (fun w' hw => hw.1) (fun w' S => sv_loadAO S rfl rfl (by rfl)) ?_; clear S a; intro a S)
  (refine wppk_late S rfl rfl rfl rfl rfl (fun w' hw => hw.1) (fun w' S => sv_lenSl S rfl rfl) ?_; clear S a; intro a S)
  refine wplk_one rfl ⟨S.has inferInstance, trivial⟩ ?_
  (refine wpl_unsafeString S rfl rfl rfl rfl rfl rfl hown (by kernel_rfl) h0 (by omega) ?_; clear S a; intro a w S)
  refine wpList_nil ?_
  refine wplk_one rfl ⟨S.has inferInstance, trivial⟩ ?_
  (revert S a; refine go00 2 ?_; intro a S)
  refine wplk_nil ⟨S.has inferInstance, trivial⟩ ?_
  (refine hZ _ _ ?_; clear hZ Z)
  refine wp_ret (fin_ret S (results1 Tryz.results100 (RV.tmp S rfl)) ?_)
  rfl
end Go.Proofs.YtigblodhdfnleaaGreatDoor
