/- The program's regions may be run in any order that Go leaves open. The walks of trim, plus, minus, times of package big: they compute the digits, to the base of a thousand million, of the number itself, the sum, the difference and the product. slices.Backward, over a slice that never turns, hands out its elements from the end. Decimal texts: what number a row of digits is, and its digits to the base of a thousand million. No program. The walks of strings.TrimPrefix, and of Check and of of package big: what is a number, and the digits of the number that a text is. -/
import Derived.Test.YtigblodhdfnleaaGreatDoorTy
import Derived.Test.YtigblodhdfnleaaGreatDoorWk7
import Derived.Test.YtigblodhdfnleaaGreatDoorWk18
import Derived.Test.YtigblodhdfnleaaGreatDoorWk10
namespace Go.Proofs.YtigblodhdfnleaaGreatDoor
open Go
theorem mixed : Tryz.prog.follows .mixedOrders = true := by kernel_rfl
end Go.Proofs.YtigblodhdfnleaaGreatDoor
namespace Go.Proofs.YtigblodhdfnleaaGreatDoor
open Go Go.Wk Go.Num
set_option linter.unusedSimpArgs false
set_option linter.unusedVariables false
attribute [local irreducible] Go.wpList Go.Code.wp Go.wpStill Go.Wk.wpPre Go.bodyPost Go.Calls Go.Wk.Ct Go.Wk.OwnS

theorem b2 : 2 ≤ 1000000000 := by decide
/-- The slice v, of memory that does not turn, holds the digits of N. -/
def Mag (F : Heap) (v : Value) (N : Nat) : Prop := SlC F v (nd 1000000000 N) (cel (nd 1000000000 N) (dig 1000000000 N))
theorem Mag.mono {F F' : Heap} {v N} (hF : ∀ b o, F b = some o → F' b = some o) (h : Mag F v N) : Mag F' v N := SlC.mono hF h
theorem celN {F : Heap} {b off k j : Nat} {f : Nat → Nat} (h : Cels F b off (cel k f)) (hj : j < k) : Cel F b (off + j * 1) (.int .i64 ((f j : Nat) : Int)) := by
  rw [Nat.mul_one]; exact h.cel (cel_get hj)
theorem SlC.cut {F : Heap} {ao : Option Addr} {k cap i : Nat} {f : Nat → Nat} (h : SlC F (.slice ao k cap) k (cel k f)) (hi : i ≤ k) (j : Nat) (hj : i ≤ j) : SlC F (.slice ao i j) i (cel i f) := by
  obtain ⟨ao', cap', e, h1, h2⟩ := h
  cases e
  refine ⟨ao, j, rfl, hj, fun h0 => ?_⟩
  obtain ⟨b, off, rfl, hc⟩ := h2 (by omega)
  exact ⟨b, off, rfl, by rw [← cel_take hi]; exact hc.take i⟩
theorem ndf_down {b S i : Nat} (h : 0 < i) (hd : dig b S (i - 1) = 0) : ndf b S (i - 1) = ndf b S i := by
  cases i with
  | zero => omega
  | succ i => rw [ndf, if_pos (by simpa using hd)]; rfl
theorem ndf_self {b S i : Nat} (h : i = 0 ∨ dig b S (i - 1) ≠ 0) : ndf b S i = i := by
  cases i with
  | zero => rfl
  | succ i => rw [ndf, if_neg (by rcases h with h | h; omega; simpa using h)]

theorem zzBig10 {p : Prop} (h : p := by (have e : nd 1000000000 N = m := (by rw [← hn]; exact ndf_self (by omega)); unfold Mag; rw [e]; exact SlC.cut hv0 (by omega) m (Nat.le_refl _))) : p := h
set_option maxHeartbeats 1000000 in
theorem trimCt (N k : Nat) (v : Value) (F : Heap) (hS : N < 1000000000 ^ k) (hk : k ≤ 1000000000) (hv : SlC F v k (cel k (dig 1000000000 N))) : Ct Tryz.prog 76 [v] F [] (fun _ _ u => Mag F u N) := by
  have hv0 := hv
  obtain ⟨ao, cap, rfl, hcap, hpos⟩ := hv
  have hnd := ndf_eq hS b2
  refine Ct.enter Tryz.func76 rfl Tryz.ntmps76 rfl fun w0 a S => ?_
  (revert S a; refine go01 12 ?_; intro Z hZ a S)
  refine wpc_loop (fun m a w' => ∃ (i : Nat), m = i ∧ i ≤ k ∧ ndf 1000000000 N i = nd 1000000000 N ∧ St 22 [(0, .slice ao k cap), (3, .int .i64 i)] w0 F [] F [] a w') ?_ ?_
  · (refine ⟨k, k, rfl, Nat.le_refl _, hnd, ?_⟩; refine S.keep ?_; repeat (first | exact trivial | refine ⟨rfl, ?_⟩))
  (clear S; rintro m a w ⟨i, rfl, hi, hn, S⟩)
  (revert S a; refine go02 5 ?_; intro Z hZ Z hZ a S)
  refine wpl_guard S rfl rfl rfl rfl rfl ?_ ?_
  · (clear S; intro h S; (try simp only [tq] at h))
    (revert S a; refine go00 4 ?_; intro a S)
    first | (refine wpl_v S rfl rfl rfl (sv_subN (q := 1) S rfl rfl rfl (by omega)) ?_; clear S a; intro a S) | (refine wpl_v S rfl rfl rfl (sv_sub S rfl rfl rfl (by omega)) ?_; clear S a; intro a S)
    refine wpl_take S rfl rfl rfl ?_
    (obtain ⟨b, off, rfl, hcs⟩ := hpos (by omega); have hce := celN hcs (j := m - 1) (by omega); have hdl := dig_lt b2 N (m - 1)); (refine wpl_v S rfl rfl rfl (sv_indexAddrSl S rfl rfl rfl (by omega)) ?_; clear S a; intro a S)
    (revert S a; revert hZ Z; refine go10 7 ?_; intro a S)
    refine wpc_split S rfl (fun h => ?_) (fun h => ?_)
    · (skip; (try simp only [tq] at h))
      (revert S a; revert hZ Z; refine go10 5 ?_; intro a S)
      first | (refine wpl_v S rfl rfl rfl (sv_subN (q := 1) S rfl rfl rfl (by omega)) ?_; clear S a; intro a S) | (refine wpl_v S rfl rfl rfl (sv_sub S rfl rfl rfl (by omega)) ?_; clear S a; intro a S)
      (revert S a; refine go00 2 ?_; intro a S)
      change ∃ m', _ ∧ _
      (refine ⟨m - 1, by omega, m - 1, rfl, by omega, ?_, ?_⟩; rotate_left 1; (refine S.keep ?_; repeat (first | exact trivial | refine ⟨rfl, ?_⟩)); rw [← hn]; exact ndf_down (by omega) (by omega))
    (skip; (try simp only [tq] at h))
    (refine wp_exit ?_; conv => whnf)
    clear hZ Z
    (revert S a; revert hZ Z; refine go11 5 ?_; intro Z hZ a S)
    (refine wpl_v S rfl rfl rfl (sv_sliceSl_hm S rfl rfl rfl rfl (by omega) (by omega)) ?_; clear S a; intro a S)
    (revert S a; revert hZ Z; refine go10 3 ?_; intro a S)
    refine wp_ret (fin_ret S (results1 Tryz.results76 (RV.tmp S rfl)) ?_)
    exact zzBig10
  (intro h; clear S a; intro a S; (try simp only [tq] at h))
  (revert S a; revert hZ Z; refine go10 8 ?_; intro a S)
  refine wpc_false S rfl ?_
  (refine wp_exit ?_; conv => whnf)
  clear hZ Z
  (revert S a; revert hZ Z; refine go11 5 ?_; intro Z hZ a S)
  (refine wpl_v S rfl rfl rfl (sv_sliceSl_hm S rfl rfl rfl rfl (by omega) (by omega)) ?_; clear S a; intro a S)
  (revert S a; revert hZ Z; refine go10 3 ?_; intro a S)
  refine wp_ret (fin_ret S (results1 Tryz.results76 (RV.tmp S rfl)) ?_)
  exact zzBig10


theorem lt_pow_max {b A C la lc : Nat} (hb : 2 ≤ b) (h1 : A < b ^ la) (h2 : C < b ^ lc) : A + C < b ^ (max la lc + 1) := by
  have e1 : b ^ la ≤ b ^ max la lc := Nat.pow_le_pow_right (by omega) (Nat.le_max_left _ _)
  have e2 : b ^ lc ≤ b ^ max la lc := Nat.pow_le_pow_right (by omega) (Nat.le_max_right _ _)
  have e3 : 2 * b ^ max la lc ≤ b ^ (max la lc + 1) := by rw [Nat.pow_succ, Nat.mul_comm]; exact Nat.mul_le_mul_left _ hb
  omega
theorem reg {k : IntKind} {x y : Int} (h : x = y) : some (Value.int k x) = some (Value.int k y) := by rw [h]
theorem own_full {e : TypeId} {v : Value} {K i : Nat} {f g : Nat → Nat} {gr : Grp} (h : OwnS e 1 v K (mixL K i f g) gr) (hi : i = K) : OwnS e 1 v K (cel K f) gr := by
  subst hi; rw [mixL_full] at h; exact h
theorem own_set {e : TypeId} {v x : Value} {K i : Nat} {f g : Nat → Nat} {gr : Grp} (h : OwnS e 1 v K ((mixL K i f g).set i x) gr) (hx : x = .int .i64 ((f i : Nat) : Int)) : OwnS e 1 v K (mixL K (i + 1) f g) gr := by
  rw [mixL_set hx] at h; exact h

theorem zzBig11 {p : Prop} (h : p := by (refine ⟨K - (i + 1), by omega, i + 1, g, rfl, by omega, own_set hown (congrArg _ (by rw [← dig_add b2]; rfl)), ?_⟩; rw [cy_step b2]; refine S.keep ?_; repeat (first | exact trivial | refine ⟨rfl, ?_⟩))) : p := h
set_option maxHeartbeats 1000000 in
theorem plusCt (A C : Nat) (v u : Value) (F : Heap) (hlA : nd 1000000000 A ≤ 1000000) (hlC : nd 1000000000 C ≤ 1000000) (hv : Mag F v A) (hu : Mag F u C) : Ct Tryz.prog 101 [v, u] F [] (fun F' _ r => Mag F' r (A + C)) := by
  obtain ⟨ao, ca, rfl, hca, hpa⟩ := hv
  obtain ⟨co, cc, rfl, hcc, hpc⟩ := hu
  have hlt := lt_pow_max b2 (lt_nd b2 A) (lt_nd b2 C)
  refine Ct.enter Tryz.func101 rfl Tryz.ntmps101 rfl fun w0 a S => ?_
  (revert S a; refine go01 9 ?_; intro Z hZ a S)
  first | (refine wpl_v S rfl rfl rfl (sv_maxN S rfl rfl rfl) ?_; clear S a; intro a S) | (refine wpl_v S rfl rfl rfl (sv_max0 S rfl rfl rfl) ?_; clear S a; intro a S)
  (revert S a; refine go00 1 ?_; intro a S)
  (refine wpl_makeSlice (q := max (nd 1000000000 A) (nd 1000000000 C) + 1) S rfl rfl rfl rfl rfl rfl rfl (by omega) (by omega) ?_; clear S a; intro b a w hown S; generalize hK : max (nd 1000000000 A) (nd 1000000000 C) + 1 = K at S hown hlt)
  (revert S a; revert hZ Z; refine go11 15 ?_; intro Z hZ a S)
  refine wpc_loop (fun m a w' => ∃ (i : Nat) (g : Grp), m = K - i ∧ i ≤ K ∧ OwnS 2 1 (.slice (some ⟨b, 0, none⟩) K K) K (mixL K i (dig 1000000000 (A + C)) fun _ => 0) g ∧ St 52 [(0, .slice ao (nd 1000000000 A) ca), (1, .slice co (nd 1000000000 C) cc), (5, .slice (some ⟨b, 0, none⟩) K K), (6, .int .i64 ((cy 1000000000 A C i : Nat) : Int)), (17, .int .i64 K), (18, .int .i64 i)] w0 F [] F [g] a w') ?_ ?_
  · (refine ⟨K, 0, _, rfl, Nat.zero_le _, (by rw [mixL_zero, ← replicate_cel]; exact hown), ?_⟩; rw [cy_zero]; refine S.keep ?_; repeat (first | exact trivial | refine ⟨rfl, ?_⟩))
  (clear hown S; rintro m a w ⟨i, g, rfl, hi, hown, S⟩; have hcy := cy_le b2 (A := A) (B := C) (k := i); have hdA := dig_lt b2 A i; have hdC := dig_lt b2 C i; have hzA : nd 1000000000 A ≤ i → dig 1000000000 A i = 0 := fun h => dig_zero (lt_nd b2 A) h b2; have hzC : nd 1000000000 C ≤ i → dig 1000000000 C i = 0 := fun h => dig_zero (lt_nd b2 C) h b2)
  (revert S a; refine go01 5 ?_; intro Z hZ a S)
  refine wpc_split S rfl (fun h => ?_) (fun h => ?_)
  · (skip; (try simp only [tq] at h))
    (revert S a; revert hZ Z; refine go12 15 ?_; intro Z hZ Z hZ a S)
    (revert S a; refine go00 7 ?_; intro a S)
    refine wpc_split S rfl (fun h => ?_) (fun h => ?_)
    · (skip; (try simp only [tq] at h))
      (obtain ⟨ba, offa, rfl, hcsa⟩ := hpa (by omega); have hce := celN hcsa h)
      (revert S a; revert hZ Z; refine go11 18 ?_; intro Z hZ a S)
      refine wpc_split S rfl (fun h => ?_) (fun h => ?_)
      · (skip; (try simp only [tq] at h))
        (obtain ⟨bc, offc, rfl, hcsc⟩ := hpc (by omega); have hcf := celN hcsc h)
        (revert S a; revert hZ Z; refine go10 10 ?_; intro a S)
        (replace S := S.keep (L' := [(0, .slice _ (nd 1000000000 A) ca), (1, .slice _ (nd 1000000000 C) cc), (5, .slice (some ⟨b, 0, none⟩) K K), (17, .int .i64 K), (18, .int .i64 i), (7, .int .i64 i), (8, .int .i64 ((cy 1000000000 A C i + dig 1000000000 A i + dig 1000000000 C i : Nat) : Int))]) ⟨rfl, rfl, rfl, rfl, rfl, rfl, reg (by omega), trivial⟩)
        (revert S a; refine go00 4 ?_; intro a S)
        (refine wpl_v S rfl rfl rfl (sv_rem S rfl rfl rfl (by first | omega | (simp only [List.length_append, List.length_cons, List.length_nil]; omega))) ?_; clear S a; intro a S)
        (revert S a; refine go00 1 ?_; intro a S)
        (refine wpl_v S rfl rfl rfl (sv_quo S rfl rfl rfl (by first | omega | (simp only [List.length_append, List.length_cons, List.length_nil]; omega))) ?_; clear S a; intro a S)
        (revert S a; refine go00 1 ?_; intro a S)
        (refine wpl_storeOwn S rfl rfl rfl rfl rfl hown rfl (by omega) ?_; clear hown S; intro g w hown S)
        (revert S a; revert hZ Z; refine go10 7 ?_; intro a S)
        change ∃ m', _ ∧ _
        exact zzBig11
      (skip; (try simp only [tq] at h))
      refine wp_skip ?_
      (refine hZ _ _ ?_; clear hZ Z)
      (replace S := S.keep (L' := [(0, .slice _ (nd 1000000000 A) ca), (1, .slice _ (nd 1000000000 C) cc), (5, .slice (some ⟨b, 0, none⟩) K K), (17, .int .i64 K), (18, .int .i64 i), (7, .int .i64 i), (8, .int .i64 ((cy 1000000000 A C i + dig 1000000000 A i + dig 1000000000 C i : Nat) : Int))]) ⟨rfl, rfl, rfl, rfl, rfl, rfl, reg (by omega), trivial⟩)
      (revert S a; refine go00 4 ?_; intro a S)
      (refine wpl_v S rfl rfl rfl (sv_rem S rfl rfl rfl (by first | omega | (simp only [List.length_append, List.length_cons, List.length_nil]; omega))) ?_; clear S a; intro a S)
      (revert S a; refine go00 1 ?_; intro a S)
      (refine wpl_v S rfl rfl rfl (sv_quo S rfl rfl rfl (by first | omega | (simp only [List.length_append, List.length_cons, List.length_nil]; omega))) ?_; clear S a; intro a S)
      (revert S a; refine go00 1 ?_; intro a S)
      (refine wpl_storeOwn S rfl rfl rfl rfl rfl hown rfl (by omega) ?_; clear hown S; intro g w hown S)
      (revert S a; revert hZ Z; refine go10 7 ?_; intro a S)
      change ∃ m', _ ∧ _
      exact zzBig11
    (skip; (try simp only [tq] at h))
    (revert S a; revert hZ Z; refine go11 10 ?_; intro Z hZ a S)
    refine wpc_split S rfl (fun h => ?_) (fun h => ?_)
    · (skip; (try simp only [tq] at h))
      (obtain ⟨bc, offc, rfl, hcsc⟩ := hpc (by omega); have hcf := celN hcsc h)
      (revert S a; revert hZ Z; refine go10 10 ?_; intro a S)
      (replace S := S.keep (L' := [(0, .slice _ (nd 1000000000 A) ca), (1, .slice _ (nd 1000000000 C) cc), (5, .slice (some ⟨b, 0, none⟩) K K), (17, .int .i64 K), (18, .int .i64 i), (7, .int .i64 i), (8, .int .i64 ((cy 1000000000 A C i + dig 1000000000 A i + dig 1000000000 C i : Nat) : Int))]) ⟨rfl, rfl, rfl, rfl, rfl, rfl, reg (by omega), trivial⟩)
      (revert S a; refine go00 4 ?_; intro a S)
      (refine wpl_v S rfl rfl rfl (sv_rem S rfl rfl rfl (by first | omega | (simp only [List.length_append, List.length_cons, List.length_nil]; omega))) ?_; clear S a; intro a S)
      (revert S a; refine go00 1 ?_; intro a S)
      (refine wpl_v S rfl rfl rfl (sv_quo S rfl rfl rfl (by first | omega | (simp only [List.length_append, List.length_cons, List.length_nil]; omega))) ?_; clear S a; intro a S)
      (revert S a; refine go00 1 ?_; intro a S)
      (refine wpl_storeOwn S rfl rfl rfl rfl rfl hown rfl (by omega) ?_; clear hown S; intro g w hown S)
      (revert S a; revert hZ Z; refine go10 7 ?_; intro a S)
      change ∃ m', _ ∧ _
      exact zzBig11
    (skip; (try simp only [tq] at h))
    refine wp_skip ?_
    (refine hZ _ _ ?_; clear hZ Z)
    (replace S := S.keep (L' := [(0, .slice _ (nd 1000000000 A) ca), (1, .slice _ (nd 1000000000 C) cc), (5, .slice (some ⟨b, 0, none⟩) K K), (17, .int .i64 K), (18, .int .i64 i), (7, .int .i64 i), (8, .int .i64 ((cy 1000000000 A C i + dig 1000000000 A i + dig 1000000000 C i : Nat) : Int))]) ⟨rfl, rfl, rfl, rfl, rfl, rfl, reg (by omega), trivial⟩)
    (revert S a; refine go00 4 ?_; intro a S)
    (refine wpl_v S rfl rfl rfl (sv_rem S rfl rfl rfl (by first | omega | (simp only [List.length_append, List.length_cons, List.length_nil]; omega))) ?_; clear S a; intro a S)
    (revert S a; refine go00 1 ?_; intro a S)
    (refine wpl_v S rfl rfl rfl (sv_quo S rfl rfl rfl (by first | omega | (simp only [List.length_append, List.length_cons, List.length_nil]; omega))) ?_; clear S a; intro a S)
    (revert S a; refine go00 1 ?_; intro a S)
    (refine wpl_storeOwn S rfl rfl rfl rfl rfl hown rfl (by omega) ?_; clear hown S; intro g w hown S)
    (revert S a; revert hZ Z; refine go10 7 ?_; intro a S)
    change ∃ m', _ ∧ _
    exact zzBig11
  (skip; (try simp only [tq] at h))
  (refine wp_exit ?_; conv => whnf)
  clear hZ Z
  (refine hZ _ _ ?_; clear hZ Z)
  (refine wp_seq_k ?_; intro Z hZ)
  (replace S := St.freeze (G1 := []) S; have hsl := (own_full hown (by omega)).slC F)
  (revert S a; refine go00 2 ?_; intro a S)
  (refine wpl_call0 S rfl rfl rfl rfl rfl rfl (trimCt (A + C) K _ _ hlt (by omega) hsl) rfl ?_; clear S a; intro u a w hu S)
  (revert S a; revert hZ Z; refine go10 3 ?_; intro a S)
  refine wp_ret (fin_ret S (results1 Tryz.results101 (RV.tmp S rfl)) ?_)
  exact hu

theorem zzBig12 {p : Prop} (h : p := by (first | (refine ⟨_, rfl, ?_⟩; rw [Nat.zero_add, List.flatMap_nil, List.nil_append] at hown; exact hown) | (refine ⟨[], rfl, ?_⟩; have h0 : k = 0 := (by rcases Nat.eq_zero_or_pos k with e | e; exact e; obtain ⟨b, off, rfl, _⟩ := hpos e; simp at h); subst h0; have h2 : cells = [] := List.eq_nil_of_length_eq_zero hl; subst h2; exact OwnS.nil _ _))) : p := h
set_option maxHeartbeats 1000000 in
theorem cloneCt (k : Nat) (cells : List Value) (v : Value) (F : Heap) (hk : k ≤ 1000000000) (hl : cells.length = k) (h1 : ∀ u ∈ cells, u.oneCell' = true) (hv : SlC F v k cells) : Ct Tryz.prog 123 [v] F [] (fun _ G' r => ∃ g, G' = [g] ∧ OwnS 2 1 r k cells g) := by
  obtain ⟨ao, cap, rfl, hcap, hpos⟩ := hv
  refine Ct.enter Tryz.func123 rfl Tryz.ntmps123 rfl fun w0 a S => ?_
  (revert S a; refine go01 10 ?_; intro Z hZ a S)
  refine wpc_split S rfl (fun h => ?_) (fun h => ?_)
  · (skip; (try simp only [tq] at h))
    (revert S a; refine go00 4 ?_; intro a S)
    refine wp_ret ?_
    skip
    (first | (have h9 := hown; clear h9) | (replace S := S.nilg))
    refine fin_ret S (results1 Tryz.results123 (RV.tmp S rfl)) ?_
    exact zzBig12
  (skip; (try simp only [tq] at h))
  (revert S a; revert hZ Z; refine go11 3 ?_; intro Z hZ a S)
  (refine wpl_buildSlice S rfl rfl rfl rfl rfl rfl (by rfl) (by simp [Value.cells, splice]) rfl (by rfl) (by rfl) ?_; clear S a; intro b a w hown S)
  (revert S a; refine go00 1 ?_; intro a S)
  (refine wpl_appendSl S rfl rfl rfl rfl rfl rfl hown (by rfl) (by rw [hl, Nat.mul_one]) hpos h1 (by omega) (by omega) ?_; clear hown S a; intro v g a w hown S)
  (revert S a; revert hZ Z; refine go10 3 ?_; intro a S)
  refine wp_ret ?_
  skip
  (first | (have h9 := hown; clear h9) | (replace S := S.nilg))
  refine fin_ret S (results1 Tryz.results123 (RV.tmp S rfl)) ?_
  exact zzBig12

theorem zzBig13 {p : Prop} (h : p := by (have hds := dig_sub (k := i) b2 hCA; have hbs := bw_step (A := A) (B := C) (k := i) b2; (first | (rw [if_pos h] at hds hbs) | (rw [if_neg (by omega)] at hds hbs)); refine ⟨K - (i + 1), by omega, i + 1, g, rfl, by omega, own_set hown (congrArg _ hds.symm), ?_⟩; rw [hbs]; refine S.keep ?_; repeat (first | exact trivial | refine ⟨rfl, ?_⟩))) : p := h
set_option maxHeartbeats 1000000 in
theorem minusCt (A C : Nat) (v u : Value) (F : Heap) (hCA : C ≤ A) (hlA : nd 1000000000 A ≤ 1000000) (hlC : nd 1000000000 C ≤ 1000000) (hv : Mag F v A) (hu : Mag F u C) : Ct Tryz.prog 103 [v, u] F [] (fun F' _ r => Mag F' r (A - C)) := by
  have hv0 := hv
  obtain ⟨co, cc, rfl, hcc, hpc0⟩ := hu
  have hlt : A - C < 1000000000 ^ nd 1000000000 A := Nat.lt_of_le_of_lt (Nat.sub_le _ _) (lt_nd b2 A)
  have hlt2 : C < 1000000000 ^ nd 1000000000 A := Nat.lt_of_le_of_lt hCA (lt_nd b2 A)
  generalize hK : nd 1000000000 A = K at *
  refine Ct.enter Tryz.func103 rfl Tryz.ntmps103 rfl fun w0 a S => ?_
  (revert S a; refine go01 6 ?_; intro Z hZ a S)
  (refine wpl_call (Gs := []) (Gr := []) S rfl rfl rfl rfl rfl rfl (cloneCt K (cel K (dig 1000000000 A)) _ _ (by omega) (cel_len _ _) cel_one (by have h9 := hv0; unfold Mag at h9; rw [hK] at h9; exact h9)) rfl (List.Perm.refl _) ?_; clear S a; intro v1 F1 G1 a w hv1 hF1 S; obtain ⟨g, rfl, hown⟩ := hv1; obtain ⟨bo, cb, rfl, hcb, hcb2, hbo⟩ := hown.at)
  (revert S a; revert hZ Z; refine go11 15 ?_; intro Z hZ a S)
  refine wpc_loop (fun m a w' => ∃ (i : Nat) (g : Grp), m = K - i ∧ i ≤ K ∧ OwnS 2 1 (.slice bo K cb) K (mixL K i (dig 1000000000 (A - C)) (dig 1000000000 A)) g ∧ St 43 [(1, .slice co (nd 1000000000 C) cc), (5, .slice bo K cb), (6, .int .i64 ((bw 1000000000 A C i : Nat) : Int)), (12, .int .i64 K), (13, .int .i64 i)] w0 F [] F1 [g] a w') ?_ ?_
  · (refine ⟨K, 0, _, rfl, Nat.zero_le _, (by rw [mixL_zero]; exact hown), ?_⟩; rw [bw_zero]; refine S.keep ?_; repeat (first | exact trivial | refine ⟨rfl, ?_⟩))
  (clear hown S; rintro m a w ⟨i, g, rfl, hi, hown, S⟩; have hcy : bw 1000000000 A C i ≤ 1 := (by unfold bw; split <;> omega); have hdA := dig_lt b2 A i; have hdC := dig_lt b2 C i; have hzC : nd 1000000000 C ≤ i → dig 1000000000 C i = 0 := fun h => dig_zero (lt_nd b2 C) h b2)
  (revert S a; refine go01 5 ?_; intro Z hZ a S)
  refine wpc_split S rfl (fun h => ?_) (fun h => ?_)
  · (skip; (try simp only [tq] at h))
    (revert S a; revert hZ Z; refine go11 9 ?_; intro Z hZ a S)
    (refine wp_seq_k ?_; intro Z hZ)
    (obtain ⟨b, rfl⟩ := hbo (by omega))
    (revert S a; refine go00 4 ?_; intro a S)
    first | (refine wpl_v S rfl rfl rfl (sv_loadO S rfl rfl (by rfl)) ?_; clear S a; intro a S) | (refine wpl_v S rfl rfl rfl (sv_loadF S rfl rfl (by assumption)) ?_; clear S a; intro a S) | (refine wpl_v S rfl rfl rfl (sv_loadOwn S rfl rfl hown (mixL_at (by omega))) ?_; clear S a; intro a S)
    (revert S a; revert hZ Z; refine go11 13 ?_; intro Z hZ a S)
    refine wpc_split S rfl (fun h => ?_) (fun h => ?_)
    · (skip; (try simp only [tq] at h))
      (obtain ⟨bc, offc, rfl, hcsc⟩ := hpc0 (by omega); have hcf := (celN hcsc h).mono hF1)
      (revert S a; refine go00 5 ?_; intro a S)
      first | (refine wpl_v S rfl rfl rfl (sv_loadO S rfl rfl (by rfl)) ?_; clear S a; intro a S) | (refine wpl_v S rfl rfl rfl (sv_loadF S rfl rfl (by assumption)) ?_; clear S a; intro a S) | (refine wpl_v S rfl rfl rfl (sv_loadOwn S rfl rfl hown (mixL_at (by omega))) ?_; clear S a; intro a S)
      (revert S a; revert hZ Z; refine go10 4 ?_; intro a S)
      (refine wp_seq_k ?_; intro Z hZ)
      (replace S := S.keep (L' := [(1, .slice _ (nd 1000000000 C) cc), (5, .slice (some ⟨b, 0, none⟩) K cb), (12, .int .i64 K), (13, .int .i64 i), (7, .int .i64 i), (8, .int .i64 ((dig 1000000000 A i : Int) - (bw 1000000000 A C i : Int) - (dig 1000000000 C i : Int)))]) ⟨rfl, rfl, rfl, rfl, rfl, reg (by omega), trivial⟩)
      (revert S a; revert hZ Z; refine go11 10 ?_; intro Z hZ a S)
      refine wpc_split S rfl (fun h => ?_) (fun h => ?_)
      · (skip; (try simp only [tq] at h))
        (revert S a; revert hZ Z; refine go10 15 ?_; intro a S)
        (refine wpl_storeOwn S rfl rfl rfl rfl rfl hown rfl (by omega) ?_; clear hown S; intro g w hown S)
        (revert S a; revert hZ Z; refine go10 6 ?_; intro a S)
        change ∃ m', _ ∧ _
        exact zzBig13
      (skip; (try simp only [tq] at h))
      (revert S a; revert hZ Z; refine go10 7 ?_; intro a S)
      (refine wpl_storeOwn S rfl rfl rfl rfl rfl hown rfl (by omega) ?_; clear hown S; intro g w hown S)
      (revert S a; revert hZ Z; refine go10 6 ?_; intro a S)
      change ∃ m', _ ∧ _
      exact zzBig13
    (skip; (try simp only [tq] at h))
    refine wp_skip ?_
    (refine hZ _ _ ?_; clear hZ Z)
    (refine wp_seq_k ?_; intro Z hZ)
    (replace S := S.keep (L' := [(1, .slice _ (nd 1000000000 C) cc), (5, .slice (some ⟨b, 0, none⟩) K cb), (12, .int .i64 K), (13, .int .i64 i), (7, .int .i64 i), (8, .int .i64 ((dig 1000000000 A i : Int) - (bw 1000000000 A C i : Int) - (dig 1000000000 C i : Int)))]) ⟨rfl, rfl, rfl, rfl, rfl, reg (by omega), trivial⟩)
    (revert S a; revert hZ Z; refine go11 10 ?_; intro Z hZ a S)
    refine wpc_split S rfl (fun h => ?_) (fun h => ?_)
    · (skip; (try simp only [tq] at h))
      (revert S a; revert hZ Z; refine go10 15 ?_; intro a S)
      (refine wpl_storeOwn S rfl rfl rfl rfl rfl hown rfl (by omega) ?_; clear hown S; intro g w hown S)
      (revert S a; revert hZ Z; refine go10 6 ?_; intro a S)
      change ∃ m', _ ∧ _
      exact zzBig13
    (skip; (try simp only [tq] at h))
    (revert S a; revert hZ Z; refine go10 7 ?_; intro a S)
    (refine wpl_storeOwn S rfl rfl rfl rfl rfl hown rfl (by omega) ?_; clear hown S; intro g w hown S)
    (revert S a; revert hZ Z; refine go10 6 ?_; intro a S)
    change ∃ m', _ ∧ _
    exact zzBig13
  (skip; (try simp only [tq] at h))
  (refine wp_exit ?_; conv => whnf)
  clear hZ Z
  (refine hZ _ _ ?_; clear hZ Z)
  (refine wp_seq_k ?_; intro Z hZ)
  (replace S := St.freeze (G1 := []) S; have hsl := (own_full hown (by omega)).slC F1)
  (revert S a; refine go00 2 ?_; intro a S)
  (refine wpl_call0 S rfl rfl rfl rfl rfl rfl (trimCt (A - C) K _ _ hlt (by omega) hsl) rfl ?_; clear S a; intro u a w hu S)
  (revert S a; revert hZ Z; refine go10 3 ?_; intro a S)
  refine wp_ret (fin_ret S (results1 Tryz.results103 (RV.tmp S rfl)) ?_)
  exact hu

theorem cyT_le2 {A n k : Nat} (h : n < 1000000000) : cyT 1000000000 A n k ≤ 999999999 := by
  rcases Nat.eq_zero_or_pos n with e | e
  · subst e; simp [cyT]
  · have := cyT_le (A := A) (k := k) b2 e; omega

theorem zzBig14 {p : Prop} (h : p := by (refine ⟨K - (i + 1), by omega, i + 1, g, rfl, by omega, own_set hown (congrArg _ (by rw [← dig_mul b2]; rfl)), ?_⟩; rw [cyT_step b2]; refine S.keep ?_; repeat (first | exact trivial | refine ⟨rfl, ?_⟩))) : p := h
set_option maxHeartbeats 1000000 in
theorem timesCt (A n : Nat) (v : Value) (F : Heap) (hn : n < 1000000000) (hlA : nd 1000000000 A ≤ 1000000) (hv : Mag F v A) : Ct Tryz.prog 124 [v, .int .i64 n] F [] (fun F' _ r => Mag F' r (A * n)) := by
  obtain ⟨ao, ca, rfl, hca, hpa⟩ := hv
  have hlt : A * n < 1000000000 ^ (nd 1000000000 A + 1) := by
    rw [Nat.pow_succ]
    exact Nat.mul_lt_mul_of_lt_of_le (lt_nd b2 A) (Nat.le_of_lt hn) (by decide)
  refine Ct.enter Tryz.func124 rfl Tryz.ntmps124 rfl fun w0 a S => ?_
  (revert S a; refine go01 8 ?_; intro Z hZ a S)
  (refine wpl_makeSlice (q := nd 1000000000 A + 1) S rfl rfl rfl rfl rfl rfl rfl (by omega) (by omega) ?_; clear S a; intro b a w hown S; generalize hK : nd 1000000000 A + 1 = K at S hown hlt)
  (revert S a; revert hZ Z; refine go11 15 ?_; intro Z hZ a S)
  refine wpc_loop (fun m a w' => ∃ (i : Nat) (g : Grp), m = K - i ∧ i ≤ K ∧ OwnS 2 1 (.slice (some ⟨b, 0, none⟩) K K) K (mixL K i (dig 1000000000 (A * n)) fun _ => 0) g ∧ St 41 [(0, .slice ao (nd 1000000000 A) ca), (1, .int .i64 n), (5, .slice (some ⟨b, 0, none⟩) K K), (6, .int .i64 ((cyT 1000000000 A n i : Nat) : Int)), (14, .int .i64 K), (15, .int .i64 i)] w0 F [] F [g] a w') ?_ ?_
  · (refine ⟨K, 0, _, rfl, Nat.zero_le _, (by rw [mixL_zero, ← replicate_cel]; exact hown), ?_⟩; rw [cyT_zero]; refine S.keep ?_; repeat (first | exact trivial | refine ⟨rfl, ?_⟩))
  (clear hown S; rintro m a w ⟨i, g, rfl, hi, hown, S⟩; have hcy := cyT_le2 (A := A) (k := i) hn; have hdA := dig_lt b2 A i; have hdm : dig 1000000000 A i * n ≤ 999999999 * 999999999 := Nat.mul_le_mul (by omega) (by omega); have hzA : nd 1000000000 A ≤ i → dig 1000000000 A i = 0 := fun h => dig_zero (lt_nd b2 A) h b2)
  (revert S a; refine go01 5 ?_; intro Z hZ a S)
  refine wpc_split S rfl (fun h => ?_) (fun h => ?_)
  · (skip; (try simp only [tq] at h))
    (revert S a; revert hZ Z; refine go12 15 ?_; intro Z hZ Z hZ a S)
    (revert S a; refine go00 7 ?_; intro a S)
    refine wpc_split S rfl (fun h => ?_) (fun h => ?_)
    · (skip; (try simp only [tq] at h))
      (obtain ⟨ba, offa, rfl, hcsa⟩ := hpa (by omega); have hce := celN hcsa h)
      (revert S a; refine go00 7 ?_; intro a S)
      (refine wpl_v S rfl rfl rfl (sv_mul S rfl rfl rfl (by first | omega | (simp only [List.length_append, List.length_cons, List.length_nil]; omega))) ?_; clear S a; intro a S)
      (revert S a; revert hZ Z; refine go10 4 ?_; intro a S)
      (replace S := S.keep (L' := [(0, .slice _ (nd 1000000000 A) ca), (1, .int .i64 n), (5, .slice (some ⟨b, 0, none⟩) K K), (14, .int .i64 K), (15, .int .i64 i), (7, .int .i64 i), (8, .int .i64 ((cyT 1000000000 A n i + dig 1000000000 A i * n : Nat) : Int))]) ⟨rfl, rfl, rfl, rfl, rfl, rfl, reg (by first | rfl | (rw [hzA (by omega)]; simp)), trivial⟩)
      (revert S a; refine go00 4 ?_; intro a S)
      (refine wpl_v S rfl rfl rfl (sv_rem S rfl rfl rfl (by first | omega | (simp only [List.length_append, List.length_cons, List.length_nil]; omega))) ?_; clear S a; intro a S)
      (revert S a; refine go00 1 ?_; intro a S)
      (refine wpl_v S rfl rfl rfl (sv_quo S rfl rfl rfl (by first | omega | (simp only [List.length_append, List.length_cons, List.length_nil]; omega))) ?_; clear S a; intro a S)
      (revert S a; refine go00 1 ?_; intro a S)
      (refine wpl_storeOwn S rfl rfl rfl rfl rfl hown rfl (by omega) ?_; clear hown S; intro g w hown S)
      (revert S a; revert hZ Z; refine go10 7 ?_; intro a S)
      change ∃ m', _ ∧ _
      exact zzBig14
    (skip; (try simp only [tq] at h))
    refine wp_skip ?_
    (refine hZ _ _ ?_; clear hZ Z)
    (replace S := S.keep (L' := [(0, .slice _ (nd 1000000000 A) ca), (1, .int .i64 n), (5, .slice (some ⟨b, 0, none⟩) K K), (14, .int .i64 K), (15, .int .i64 i), (7, .int .i64 i), (8, .int .i64 ((cyT 1000000000 A n i + dig 1000000000 A i * n : Nat) : Int))]) ⟨rfl, rfl, rfl, rfl, rfl, rfl, reg (by first | rfl | (rw [hzA (by omega)]; simp)), trivial⟩)
    (revert S a; refine go00 4 ?_; intro a S)
    (refine wpl_v S rfl rfl rfl (sv_rem S rfl rfl rfl (by first | omega | (simp only [List.length_append, List.length_cons, List.length_nil]; omega))) ?_; clear S a; intro a S)
    (revert S a; refine go00 1 ?_; intro a S)
    (refine wpl_v S rfl rfl rfl (sv_quo S rfl rfl rfl (by first | omega | (simp only [List.length_append, List.length_cons, List.length_nil]; omega))) ?_; clear S a; intro a S)
    (revert S a; refine go00 1 ?_; intro a S)
    (refine wpl_storeOwn S rfl rfl rfl rfl rfl hown rfl (by omega) ?_; clear hown S; intro g w hown S)
    (revert S a; revert hZ Z; refine go10 7 ?_; intro a S)
    change ∃ m', _ ∧ _
    exact zzBig14
  (skip; (try simp only [tq] at h))
  (refine wp_exit ?_; conv => whnf)
  clear hZ Z
  (refine hZ _ _ ?_; clear hZ Z)
  (refine wp_seq_k ?_; intro Z hZ)
  (replace S := St.freeze (G1 := []) S; have hsl := (own_full hown (by omega)).slC F)
  (revert S a; refine go00 2 ?_; intro a S)
  (refine wpl_call0 S rfl rfl rfl rfl rfl rfl (trimCt (A * n) K _ _ hlt (by omega) hsl) rfl ?_; clear S a; intro u a w hu S)
  (revert S a; revert hZ Z; refine go10 3 ?_; intro a S)
  refine wp_ret (fin_ret S (results1 Tryz.results124 (RV.tmp S rfl)) ?_)
  exact hu
end Go.Proofs.YtigblodhdfnleaaGreatDoor
namespace Go.Proofs.YtigblodhdfnleaaGreatDoor
open Go Go.Wk Go.Num
set_option linter.unusedSimpArgs false
set_option linter.unusedVariables false
attribute [local irreducible] Go.wpList Go.Code.wp Go.wpStill Go.Wk.wpPre Go.bodyPost Go.Calls Go.Wk.Ct Go.Wk.OwnS
attribute [local irreducible] Go.wpListIn Go.Code.wpIn Go.CallsIn Go.bodyPostM Go.Wk.roundP

set_option maxHeartbeats 1000000 in
theorem backIter (bx k : Nat) (f : Nat → Nat) (F : Heap) (ao : Option Addr) (cap : Nat) (hk : k ≤ 1000000000) (hbox : Cel F bx 0 (.slice ao k cap)) (hpos : 0 < k → ∃ b off, ao = some ⟨b, off, none⟩ ∧ Cels F b off (cel k f)) :
    BackIter Tryz.prog 115 bx k f F := by
  intro l J Jx W hat hJk hy
  refine CallsIn.enter0 Tryz.func115 rfl Tryz.ntmps115 rfl (hat k W hJk) fun a S => ?_
  (refine wpIn_seq_k ?_; intro Z hZ)
  refine wpi_region rfl ?_
  (revert S a; revert hZ Z; refine go10 6 ?_; intro a S)
  refine wpIn_block ?_
  refine wpi_loop (fun m a w' => ∃ (j : Nat), m = j ∧ j ≤ k ∧ J j w' ∧ St 19 [(0, .func (.yield l) ⟨[]⟩ ⟨[]⟩), (1, .pointer (some ⟨bx, 0, none⟩)), (3, .int .i64 ((j : Int) - 1))] w' F [] F [] a w') ?_ ?_
  · (refine ⟨k, k, rfl, Nat.le_refl _, hJk, ?_⟩; refine S.keep ?_; repeat (first | exact trivial | refine ⟨rfl, ?_⟩))
  (clear S hJk; rintro m a w ⟨j, rfl, hjk, hJ, S⟩)
  iterate 2 (refine wpIn_seq_k ?_; intro Z hZ)
  refine wpi_region rfl ?_
  (revert S a; revert hZ Z; refine go10 4 ?_; intro a S)
  refine wpi_split S rfl (fun h => ?_) (fun h => ?_)
  · (skip; (try simp only [tq] at h))
    refine wpIn_skip ?_
    (refine hZ _ _ ?_; clear hZ Z)
    (refine wpIn_seq_k ?_; intro Z hZ)
    refine wpIn_block ?_
    (refine wpIn_seq_k ?_; intro Z hZ)
    (obtain ⟨i, rfl⟩ : ∃ i, m = i + 1 := ⟨m - 1, by omega⟩; replace S := S.keep (L' := [(0, .func (.yield l) ⟨[]⟩ ⟨[]⟩), (1, .pointer (some ⟨bx, 0, none⟩)), (3, .int .i64 (i : Int))]) ⟨rfl, rfl, reg (by omega), trivial⟩; obtain ⟨b, off, rfl, hcs⟩ := hpos (by omega); have hce := celN hcs (j := i) (by omega))
    refine wpIn_region_lit ?_
    iterate 2 (refine wpli_v S rfl rfl rfl rfl (sv_pure S rfl) ?_; clear S a; intro a S)
    first | (refine wpli_v S rfl rfl rfl rfl (sv_loadO S rfl rfl (by rfl)) ?_; clear S a; intro a S) | (refine wpli_v S rfl rfl rfl rfl (sv_loadF S rfl rfl (by assumption)) ?_; clear S a; intro a S)
    (refine wpli_v S rfl rfl rfl rfl (sv_pure S rfl) ?_; clear S a; intro a S)
    (refine wpli_v S rfl rfl rfl rfl (sv_indexAddrSl S rfl rfl rfl (by first | omega | (simp only [List.length_append, List.length_cons, List.length_nil]; omega))) ?_; clear S a; intro a S)
    first | (refine wpli_v S rfl rfl rfl rfl (sv_loadO S rfl rfl (by rfl)) ?_; clear S a; intro a S) | (refine wpli_v S rfl rfl rfl rfl (sv_loadF S rfl rfl (by assumption)) ?_; clear S a; intro a S)
    (obtain ⟨fn, tmps, asg, bd, hyr, hrd⟩ := hy i w (by omega) hJ; refine wpli_yield S rfl rfl rfl rfl rfl rfl hyr hrd ?_; have hr9 : ∀ (e : Ending) (w' : World), ((e = .returned (.bool true) ∧ J i w') ∨ (e = .returned (.bool false) ∧ Jx w')) → ∃ bv : Bool, e = .returned (.bool bv) ∧ (bv = true → J i w') ∧ (bv = false → Jx w') := (fun e w' h9 => h9.elim (fun h9 => ⟨true, h9.1, fun _ => h9.2, fun h8 => (by cases h8)⟩) (fun h9 => ⟨false, h9.1, fun h8 => (by cases h8), fun _ => h9.2⟩)); clear S a; intro e w' h9; obtain ⟨bv, rfl, hb1, hb2⟩ := hr9 e w' h9; clear hJ h9 hyr hrd; refine ⟨_, rfl, fun a S => ?_⟩)
    (refine wpli_v S rfl rfl rfl rfl (sv_pure S rfl) ?_; clear S a; intro a S)
    refine wpListIn_nil ?_
    (refine hZ _ _ ?_; clear hZ Z)
    refine wpi_split S rfl (fun h => ?_) (fun h => ?_)
    · (skip; (try simp only [tq] at h))
      refine wpIn_ret ?_
      (first | exact post_ret S (results0 Tryz.results115) ⟨⟨_, rfl⟩, .inr (hb2 h)⟩ | exact post_end S (results0 Tryz.results115) ⟨⟨_, rfl⟩, .inl (by have h0 : m = 0 := (by omega); subst h0; exact hJ)⟩)
    (skip; (try simp only [tq] at h))
    refine wpIn_skip ?_
    (refine hZ _ _ ?_; clear hZ Z)
    refine wpi_region rfl ?_
    (revert S a; refine go00 4 ?_; intro a S)
    change ∃ m', _ ∧ _
    (refine ⟨i, by omega, i, rfl, by omega, hb1 h, ⟨?_, (hat i _ (hb1 h)).tr⟩⟩; refine S.fr.keep ?_; repeat (first | exact trivial | refine ⟨rfl, ?_⟩))
  (skip; (try simp only [tq] at h))
  (refine wpIn_exit ?_; conv => whnf)
  (first | exact post_ret S (results0 Tryz.results115) ⟨⟨_, rfl⟩, .inr (hb2 h)⟩ | exact post_end S (results0 Tryz.results115) ⟨⟨_, rfl⟩, .inl (by have h0 : m = 0 := (by omega); subst h0; exact hJ)⟩)
end Go.Proofs.YtigblodhdfnleaaGreatDoor
namespace Go.Num
open Go
set_option linter.unusedSimpArgs false
set_option linter.unusedVariables false

def dv (c : UInt8) : Nat := c.toNat - 48
def isD (c : UInt8) : Bool := decide (48 ≤ c.toNat) && decide (c.toNat ≤ 57)
def decV (l : List UInt8) : Nat := l.foldl (fun n c => 10 * n + dv c) 0
theorem dv_lt {c : UInt8} (h : isD c = true) : dv c < 10 := by
  unfold isD at h; unfold dv; simp only [Bool.and_eq_true, decide_eq_true_eq] at h; omega
theorem decV_nil : decV [] = 0 := rfl
theorem foldV (m : List UInt8) : ∀ a : Nat, m.foldl (fun n c => 10 * n + dv c) a = a * 10 ^ m.length + decV m := by
  induction m with
  | nil => intro a; simp [decV]
  | cons c m ih =>
    intro a
    have h1 := ih (10 * a + dv c)
    have h2 := ih (10 * 0 + dv c)
    simp only [decV, List.foldl_cons, List.length_cons] at *
    rw [h1, h2, Nat.pow_succ, Nat.add_mul, Nat.add_mul]
    have : 10 * a * 10 ^ m.length = a * (10 ^ m.length * 10) := by rw [Nat.mul_comm 10 a, Nat.mul_assoc, Nat.mul_comm 10]
    omega
theorem decV_append (l m : List UInt8) : decV (l ++ m) = decV l * 10 ^ m.length + decV m := by
  have := foldV m (decV l)
  unfold decV at *
  rw [List.foldl_append]; exact this
theorem decV_snoc (l : List UInt8) (c : UInt8) : decV (l ++ [c]) = 10 * decV l + dv c := by simp [decV]
theorem decV_take_succ {l : List UInt8} {k : Nat} (h : k < l.length) : decV (l.take (k + 1)) = 10 * decV (l.take k) + dv (l.getD k 0) := by
  rw [List.take_succ_eq_append_getElem h, decV_snoc, List.getD_eq_getElem?_getD, List.getElem?_eq_getElem h]; rfl
theorem all_getD {l : List UInt8} (h : l.all isD = true) {k : Nat} (hk : k < l.length) : isD (l.getD k 0) = true := by
  rw [List.getD_eq_getElem?_getD, List.getElem?_eq_getElem hk]
  exact List.all_eq_true.1 h _ (List.getElem_mem hk)
theorem decV_lt : ∀ (l : List UInt8), l.all isD = true → decV l < 10 ^ l.length
  | [], _ => by simp [decV]
  | c :: m, h => by
    simp only [List.all_cons, Bool.and_eq_true] at h
    have h1 := dv_lt h.1
    have h2 := decV_lt m h.2
    have : decV (c :: m) = decV [c] * 10 ^ m.length + decV m := decV_append [c] m
    have h3 : decV [c] = dv c := by simp [decV]
    rw [this, h3, List.length_cons, Nat.pow_succ]
    have h4 : (dv c + 1) * 10 ^ m.length ≤ 10 * 10 ^ m.length := Nat.mul_le_mul_right _ h1
    rw [Nat.add_mul, Nat.one_mul] at h4
    rw [Nat.mul_comm (10 ^ m.length)]; omega
theorem all_drop {l : List UInt8} (h : l.all isD = true) (k : Nat) : (l.drop k).all isD = true := by
  rw [List.all_eq_true] at *; exact fun x hx => h x (List.mem_of_mem_drop hx)
/-- The digits of N, above the place. -/
theorem decV_div {l : List UInt8} (h : l.all isD = true) {e : Nat} (he : e ≤ l.length) : decV l / 10 ^ (l.length - e) = decV (l.take e) := by
  conv => lhs; rw [← List.take_append_drop e l, decV_append]
  have hl := decV_lt _ (all_drop h e)
  rw [List.length_drop] at hl
  rw [List.length_append, List.length_take, List.length_drop, Nat.min_eq_left he, show e + (l.length - e) - e = l.length - e by omega]
  rw [Nat.add_comm, Nat.add_mul_div_right _ _ (Nat.pow_pos (by decide)), Nat.div_eq_of_lt hl, Nat.zero_add]
theorem dig_chunk {l : List UInt8} (h : l.all isD = true) {e c : Nat} (he : e + 9 * c = l.length) : dig 1000000000 (decV l) c = decV (l.take e) % 1000000000 := by
  unfold dig
  have e1 : 1000000000 ^ c = 10 ^ (l.length - e) := by
    rw [show (1000000000 : Nat) = 10 ^ 9 by decide, ← Nat.pow_mul]; congr 1; omega
  rw [e1, decV_div h (by omega)]
theorem chunk {l : List UInt8} {e f n : Nat} (hf : f = e - 9) (hn : decV (l.take e) = decV (l.take f) * 10 ^ (e - f) + n) (hl : n < 10 ^ (e - f)) : decV (l.take e) % 1000000000 = n := by
  by_cases h9 : 9 ≤ e
  · have : e - f = 9 := by omega
    rw [this] at hn hl
    rw [hn, show (10 : Nat) ^ 9 = 1000000000 by decide, Nat.mul_comm, Nat.mul_add_mod, Nat.mod_eq_of_lt (by simpa using hl)]
  · have h0 : f = 0 := by omega
    subst h0
    rw [List.take_zero, decV_nil, Nat.zero_mul, Nat.zero_add] at hn
    rw [hn]
    refine Nat.mod_eq_of_lt (Nat.lt_of_lt_of_le hl ?_)
    rw [show (1000000000 : Nat) = 10 ^ 9 by decide]
    exact Nat.pow_le_pow_right (by decide) (by omega)

theorem dec_step {X Y p n z : Nat} (h : X = Y * p + n) : 10 * X + z = Y * (p * 10) + (10 * n + z) := by
  subst h
  rw [Nat.mul_add, ← Nat.mul_assoc Y, Nat.mul_comm 10 (Y * p), Nat.add_assoc]

/-! ### texts -/
def bodyS (s : List UInt8) : List UInt8 := if s.head? = some 45 then s.drop 1 else s
def negS (s : List UInt8) : Bool := decide (s.head? = some 45)
/-- What Check says. -/
def checkS (s : List UInt8) : Int :=
  if bodyS s = [] ∨ ((bodyS s).head? = some 48 ∧ s ≠ [48]) then 4 else if (bodyS s).all isD = true then (if 200 < (bodyS s).length then 80 else 0) else 4
theorem bodyS_len (s : List UInt8) : (bodyS s).length ≤ s.length := by unfold bodyS; split <;> simp
theorem bodyS_lt {s : List UInt8} : ((bodyS s).length < s.length) ↔ s.head? = some 45 := by
  unfold bodyS
  cases s with
  | nil => simp
  | cons c r => by_cases h : c = 45 <;> simp [h]
theorem check_digits {s : List UInt8} (h : checkS s = 0) : (bodyS s).all isD = true ∧ (bodyS s).length ≤ 200 ∧ bodyS s ≠ [] := by
  unfold checkS at h
  split at h
  · cases h
  · rename_i h1
    split at h
    · rename_i h2
      split at h
      · cases h
      · exact ⟨h2, by omega, fun e => h1 (Or.inl e)⟩
    · cases h
end Go.Num
namespace Go.Proofs.YtigblodhdfnleaaGreatDoor
open Go Go.Wk Go.Num
set_option linter.unusedSimpArgs false
set_option linter.unusedVariables false
attribute [local irreducible] Go.wpList Go.Code.wp Go.wpStill Go.Wk.wpPre Go.bodyPost Go.Calls Go.Wk.Ct Go.Wk.OwnS

def hasP (s p : List UInt8) : Bool := if p.length ≤ s.length then s.take p.length == p else false
set_option maxHeartbeats 1000000 in
theorem hasPrefixCt (s p : List UInt8) (F : Heap) (hs : s.length ≤ 140737488355328) (hp : p.length ≤ 140737488355328) : Ct Tryz.prog 144 [.string (bs s), .string (bs p)] F [] (fun _ _ u => u = .bool (hasP s p)) := by
  refine Ct.enter Tryz.func144 rfl Tryz.ntmps144 rfl fun w0 a S => ?_
  (revert S a; refine go01 11 ?_; intro Z hZ a S)
  refine wpl_guard S rfl rfl rfl rfl rfl ?_ ?_
  · (clear S; intro h S; (try simp only [tq] at h))
    (revert S a; refine go00 6 ?_; intro a S)
    (refine wpl_v S rfl rfl rfl (sv_sliceS_hi S rfl rfl rfl (by first | omega | (simp only [List.length_append, List.length_cons, List.length_nil]; omega))) ?_; clear S a; intro a S)
    (revert S a; revert hZ Z; refine go10 8 ?_; intro a S)
    refine wp_ret (fin_ret S (results1 Tryz.results144 (RV.tmp S rfl)) ?_)
    (unfold hasP; first | (rw [if_pos h]; rfl) | (rw [if_neg (by omega)]))
  (intro h; clear S a; intro a S; (try simp only [tq] at h))
  (revert S a; revert hZ Z; refine go10 9 ?_; intro a S)
  refine wp_ret (fin_ret S (results1 Tryz.results144 (RV.tmp S rfl)) ?_)
  (unfold hasP; first | (rw [if_pos h]; rfl) | (rw [if_neg (by omega)]))

set_option maxHeartbeats 1000000 in
theorem trimPrefixCt0 (s p : List UInt8) (F : Heap) (hs : s.length ≤ 140737488355328) (hp : p.length ≤ 140737488355328) : Ct Tryz.prog 128 [.string (bs s), .string (bs p)] F [] (fun _ _ u => u = .string (bs (if hasP s p = true then s.drop p.length else s))) := by
  refine Ct.enter Tryz.func128 rfl Tryz.ntmps128 rfl fun w0 a S => ?_
  (revert S a; refine go02 8 ?_; intro Z hZ Z hZ a S)
  (refine wpl_call0 S rfl rfl rfl rfl rfl rfl (hasPrefixCt s p F hs hp) rfl ?_; clear S a; intro v a w hv S; subst hv)
  (refine wpList_nil (hZ _ _ ?_); clear hZ Z)
  refine wpc_split S rfl (fun h => ?_) (fun h => ?_)
  · (skip; (try simp only [tq] at h))
    (revert S a; refine go01 4 ?_; intro Z hZ a S)
    (have hpl : p.length ≤ s.length := (by unfold hasP at h; split at h; assumption; cases h)); (refine wpl_v S rfl rfl rfl (sv_sliceS_lo S rfl rfl rfl (by omega)) ?_; clear S a; intro a S)
    (revert S a; revert hZ Z; refine go10 3 ?_; intro a S)
    refine wp_ret (fin_ret S (results1 Tryz.results128 (RV.tmp S rfl)) ?_)
    (first | (rw [if_pos h]; rfl) | (rw [if_neg (by simp [h])]))
  (skip; (try simp only [tq] at h))
  (revert S a; revert hZ Z; refine go10 7 ?_; intro a S)
  refine wp_ret (fin_ret S (results1 Tryz.results128 (RV.tmp S rfl)) ?_)
  (first | (rw [if_pos h]; rfl) | (rw [if_neg (by simp [h])]))

theorem trim_dash (s : List UInt8) : (if hasP s [45] = true then s.drop [45].length else s) = bodyS s := by
  unfold hasP bodyS
  cases s with
  | nil => rfl
  | cons c r => by_cases h : c = 45 <;> simp [h]

set_option maxHeartbeats 1000000 in
theorem trimDashCt (s : List UInt8) (F : Heap) (hs : s.length ≤ 140737488355328) : Ct Tryz.prog 106 [.string (bs s), .string (bs [45])] F [] (fun _ _ u => u = .string (bs (bodyS s))) := by
  rw [← trim_dash]
  refine Ct.enter Tryz.func106 rfl Tryz.ntmps106 rfl fun w0 a S => ?_
  (revert S a; refine go01 7 ?_; intro Z hZ a S)
  (refine wpl_call0 S rfl rfl rfl rfl rfl rfl (trimPrefixCt0 s [45] F hs (by decide)) rfl ?_; clear S a; intro v a w hv S; subst hv)
  (revert S a; revert hZ Z; refine go10 3 ?_; intro a S)
  refine wp_ret (fin_ret S (results1 Tryz.results106 (RV.tmp S rfl)) ?_)
  rfl

theorem isD_iff (c : UInt8) : isD c = true ↔ (48 ≤ c.toNat ∧ c.toNat ≤ 57) := by unfold isD; simp
theorem all_of_take {l : List UInt8} {k : Nat} (h : ∀ j, j < k → isD (l.getD j 0) = true) (hk : k = l.length) : l.all isD = true := by
  subst hk
  rw [List.all_eq_true]
  intro x hx
  obtain ⟨j, hj, rfl⟩ := List.getElem_of_mem hx
  have := h j hj
  rwa [List.getD_eq_getElem?_getD, List.getElem?_eq_getElem hj] at this
theorem not_all {l : List UInt8} {j : Nat} (hj : j < l.length) (h : ¬ isD (l.getD j 0) = true) : ¬ l.all isD = true := fun h2 => h (all_getD h2 hj)
theorem head_getD {l : List UInt8} (h : l ≠ []) : l.head? = some (l.getD 0 0) := by
  cases l with
  | nil => exact absurd rfl h
  | cons c r => rfl
theorem u8_eq {c : UInt8} {n : Nat} (hn : n < 256) : c = UInt8.ofNat n ↔ c.toNat = n := by
  constructor
  · rintro rfl; rw [UInt8.toNat_ofNat']; exact Nat.mod_eq_of_lt hn
  · intro h; rw [← h, UInt8.ofNat_toNat]

def ckD (s d : List UInt8) : Int := if d = [] ∨ (d.head? = some 48 ∧ s ≠ [48]) then 4 else if d.all isD = true then (if 200 < d.length then 80 else 0) else 4
theorem ck_empty {s d : List UInt8} (h : d = []) : (4 : Int) = ckD s d := by unfold ckD; rw [if_pos (Or.inl h)]
theorem ck_zero {s d : List UInt8} (h0 : d ≠ []) (h : (d.getD 0 0).toNat = 48) (h2 : s ≠ [48]) : (4 : Int) = ckD s d := by
  unfold ckD
  rw [if_pos (Or.inr ⟨by rw [head_getD h0]; exact congrArg some ((u8_eq (n := 48) (by decide)).2 h), h2⟩)]
theorem ck_bad {s d : List UInt8} {j : Nat} (hj : j < d.length) (h : ¬ isD (d.getD j 0) = true) : (4 : Int) = ckD s d := by
  unfold ckD
  rw [if_neg (not_all hj h)]; split <;> rfl
theorem ck_over {s d : List UInt8} (h0 : d ≠ []) (h1 : (d.getD 0 0).toNat = 48 → s = [48]) (h2 : d.all isD = true) (h3 : 200 < d.length) : (80 : Int) = ckD s d := by
  unfold ckD
  rw [if_neg (by rintro (h9 | ⟨h9, h10⟩); exact h0 h9; rw [head_getD h0] at h9; exact h10 (h1 ((u8_eq (n := 48) (by decide)).1 (Option.some.inj h9)))), if_pos h2, if_pos h3]
theorem ck_ok {s d : List UInt8} (h0 : d ≠ []) (h1 : (d.getD 0 0).toNat = 48 → s = [48]) (h2 : d.all isD = true) (h3 : ¬ 200 < d.length) : (0 : Int) = ckD s d := by
  unfold ckD
  rw [if_neg (by rintro (h9 | ⟨h9, h10⟩); exact h0 h9; rw [head_getD h0] at h9; exact h10 (h1 ((u8_eq (n := 48) (by decide)).1 (Option.some.inj h9)))), if_pos h2, if_neg h3]

theorem zzBig20 {p : Prop} (h : p := by (rw [hck]; refine congrArg _ ?_; first | exact ck_empty (by assumption) | exact ck_zero (by assumption) (by omega) (by assumption) | exact ck_bad (j := i) (by omega) (by rw [isD_iff]; omega) | exact ck_over (by assumption) (by first | (intro; assumption) | (intro; omega)) (all_of_take hall (by omega)) (by omega) | exact ck_ok (by assumption) (by first | (intro; assumption) | (intro; omega)) (all_of_take hall (by omega)) (by omega))) : p := h
theorem zzBig21 {p : Prop} (h : p := by (refine ⟨d.length - (i + 1), by omega, i + 1, rfl, by omega, ?_, ?_⟩; rotate_left 1; (refine S.keep ?_; repeat (first | exact trivial | refine ⟨rfl, ?_⟩)); intro j hj; rcases Nat.lt_succ_iff_lt_or_eq.1 hj with h9 | h9; exact hall j h9; subst h9; rw [isD_iff]; omega)) : p := h
set_option maxHeartbeats 1000000 in
theorem checkCt (s : List UInt8) (F : Heap) (hs : s.length ≤ 140737488355328) : Ct Tryz.prog 93 [.string (bs s)] F [] (fun _ _ u => u = .int .i64 (checkS s)) := by
  have hbl := bodyS_len s
  have htd := trimDashCt s F hs
  have hck : checkS s = ckD s (bodyS s) := rfl
  generalize hd : bodyS s = d at *
  refine Ct.enter Tryz.func93 rfl Tryz.ntmps93 rfl fun w0 a S => ?_
  (revert S a; refine go01 6 ?_; intro Z hZ a S)
  (refine wpl_call0 S rfl rfl rfl rfl rfl rfl (htd) rfl ?_; clear S a; intro v a w hv S; subst hv)
  (revert S a; revert hZ Z; refine go12 8 ?_; intro Z hZ Z hZ a S)
  refine wpl_guard S rfl rfl rfl rfl rfl ?_ ?_
  · (clear S; intro h S; (try simp only [tq] at h))
    (revert S a; refine go00 2 ?_; intro a S)
    (have hdl : 0 < d.length := List.length_pos_iff.2 (by assumption)); (refine wpl_v S rfl rfl rfl (sv_indexSN (i := 0) S rfl rfl rfl (by omega)) ?_; clear S a; intro a S)
    (revert S a; refine go00 4 ?_; intro a S)
    refine wpl_guard S rfl rfl rfl rfl rfl ?_ ?_
    · (clear S; intro h S; (try simp only [tq] at h))
      (revert S a; revert hZ Z; refine go10 8 ?_; intro a S)
      refine wpc_split S rfl (fun h => ?_) (fun h => ?_)
      · (skip; (try simp only [tq] at h))
        (revert S a; refine go00 4 ?_; intro a S)
        refine wp_ret (fin_ret S (results1 Tryz.results93 (RV.tmp S rfl)) ?_)
        exact zzBig20
      (skip; (try simp only [tq] at h))
      (revert S a; revert hZ Z; refine go11 10 ?_; intro Z hZ a S)
      refine wpc_loop (fun m a w' => ∃ (i : Nat), m = d.length - i ∧ i ≤ d.length ∧ (∀ j, j < i → isD (d.getD j 0) = true) ∧ St 37 [(3, .string (bs d)), (19, .int .i64 d.length), (20, .int .i64 i)] w0 F [] F [] a w') ?_ ?_
      · (refine ⟨d.length, 0, rfl, Nat.zero_le _, (fun j hj => absurd hj (by omega)), ?_⟩; refine S.keep ?_; repeat (first | exact trivial | refine ⟨rfl, ?_⟩))
      (clear S; rintro m a w ⟨i, rfl, hi, hall, S⟩)
      (revert S a; refine go01 5 ?_; intro Z hZ a S)
      refine wpc_split S rfl (fun h => ?_) (fun h => ?_)
      · (skip; (try simp only [tq] at h))
        (revert S a; revert hZ Z; refine go12 12 ?_; intro Z hZ Z hZ a S)
        first | (refine wpl_v S rfl rfl rfl (sv_indexSN S rfl rfl rfl (by first | omega | (simp only [List.length_append, List.length_cons, List.length_nil]; omega))) ?_; clear S a; intro a S) | (refine wpl_v S rfl rfl rfl (sv_indexS S rfl rfl rfl (by first | omega | (simp only [List.length_append, List.length_cons, List.length_nil]; omega))) ?_; clear S a; intro a S)
        (revert S a; refine go00 2 ?_; intro a S)
        refine wpl_guard S rfl rfl rfl rfl rfl ?_ ?_
        · (clear S; intro h S; (try simp only [tq] at h))
          (revert S a; refine go00 4 ?_; intro a S)
          first | (refine wpl_v S rfl rfl rfl (sv_indexSN S rfl rfl rfl (by first | omega | (simp only [List.length_append, List.length_cons, List.length_nil]; omega))) ?_; clear S a; intro a S) | (refine wpl_v S rfl rfl rfl (sv_indexS S rfl rfl rfl (by first | omega | (simp only [List.length_append, List.length_cons, List.length_nil]; omega))) ?_; clear S a; intro a S)
          (revert S a; revert hZ Z; refine go10 5 ?_; intro a S)
          refine wpc_split S rfl (fun h => ?_) (fun h => ?_)
          · (skip; (try simp only [tq] at h))
            (revert S a; refine go00 4 ?_; intro a S)
            refine wp_ret (fin_ret S (results1 Tryz.results93 (RV.tmp S rfl)) ?_)
            exact zzBig20
          (skip; (try simp only [tq] at h))
          (revert S a; revert hZ Z; refine go10 6 ?_; intro a S)
          change ∃ m', _ ∧ _
          exact zzBig21
        (intro h; clear S a; intro a S; (try simp only [tq] at h))
        (revert S a; revert hZ Z; refine go10 6 ?_; intro a S)
        refine wpc_true S rfl ?_
        (revert S a; refine go00 4 ?_; intro a S)
        refine wp_ret (fin_ret S (results1 Tryz.results93 (RV.tmp S rfl)) ?_)
        exact zzBig20
      (skip; (try simp only [tq] at h))
      (refine wp_exit ?_; conv => whnf)
      clear hZ Z
      (revert S a; revert hZ Z; refine go11 8 ?_; intro Z hZ a S)
      refine wpc_split S rfl (fun h => ?_) (fun h => ?_)
      · (skip; (try simp only [tq] at h))
        (revert S a; refine go00 4 ?_; intro a S)
        refine wp_ret (fin_ret S (results1 Tryz.results93 (RV.tmp S rfl)) ?_)
        exact zzBig20
      (skip; (try simp only [tq] at h))
      (revert S a; revert hZ Z; refine go10 6 ?_; intro a S)
      refine wp_ret (fin_ret S (results1 Tryz.results93 (RV.tmp S rfl)) ?_)
      exact zzBig20
    (intro h; clear S a; intro a S; (try simp only [tq] at h))
    (revert S a; revert hZ Z; refine go10 6 ?_; intro a S)
    refine wpc_false S rfl ?_
    (revert S a; revert hZ Z; refine go11 10 ?_; intro Z hZ a S)
    refine wpc_loop (fun m a w' => ∃ (i : Nat), m = d.length - i ∧ i ≤ d.length ∧ (∀ j, j < i → isD (d.getD j 0) = true) ∧ St 37 [(3, .string (bs d)), (19, .int .i64 d.length), (20, .int .i64 i)] w0 F [] F [] a w') ?_ ?_
    · (refine ⟨d.length, 0, rfl, Nat.zero_le _, (fun j hj => absurd hj (by omega)), ?_⟩; refine S.keep ?_; repeat (first | exact trivial | refine ⟨rfl, ?_⟩))
    (clear S; rintro m a w ⟨i, rfl, hi, hall, S⟩)
    (revert S a; refine go01 5 ?_; intro Z hZ a S)
    refine wpc_split S rfl (fun h => ?_) (fun h => ?_)
    · (skip; (try simp only [tq] at h))
      (revert S a; revert hZ Z; refine go12 12 ?_; intro Z hZ Z hZ a S)
      first | (refine wpl_v S rfl rfl rfl (sv_indexSN S rfl rfl rfl (by first | omega | (simp only [List.length_append, List.length_cons, List.length_nil]; omega))) ?_; clear S a; intro a S) | (refine wpl_v S rfl rfl rfl (sv_indexS S rfl rfl rfl (by first | omega | (simp only [List.length_append, List.length_cons, List.length_nil]; omega))) ?_; clear S a; intro a S)
      (revert S a; refine go00 2 ?_; intro a S)
      refine wpl_guard S rfl rfl rfl rfl rfl ?_ ?_
      · (clear S; intro h S; (try simp only [tq] at h))
        (revert S a; refine go00 4 ?_; intro a S)
        first | (refine wpl_v S rfl rfl rfl (sv_indexSN S rfl rfl rfl (by first | omega | (simp only [List.length_append, List.length_cons, List.length_nil]; omega))) ?_; clear S a; intro a S) | (refine wpl_v S rfl rfl rfl (sv_indexS S rfl rfl rfl (by first | omega | (simp only [List.length_append, List.length_cons, List.length_nil]; omega))) ?_; clear S a; intro a S)
        (revert S a; revert hZ Z; refine go10 5 ?_; intro a S)
        refine wpc_split S rfl (fun h => ?_) (fun h => ?_)
        · (skip; (try simp only [tq] at h))
          (revert S a; refine go00 4 ?_; intro a S)
          refine wp_ret (fin_ret S (results1 Tryz.results93 (RV.tmp S rfl)) ?_)
          exact zzBig20
        (skip; (try simp only [tq] at h))
        (revert S a; revert hZ Z; refine go10 6 ?_; intro a S)
        change ∃ m', _ ∧ _
        exact zzBig21
      (intro h; clear S a; intro a S; (try simp only [tq] at h))
      (revert S a; revert hZ Z; refine go10 6 ?_; intro a S)
      refine wpc_true S rfl ?_
      (revert S a; refine go00 4 ?_; intro a S)
      refine wp_ret (fin_ret S (results1 Tryz.results93 (RV.tmp S rfl)) ?_)
      exact zzBig20
    (skip; (try simp only [tq] at h))
    (refine wp_exit ?_; conv => whnf)
    clear hZ Z
    (revert S a; revert hZ Z; refine go11 8 ?_; intro Z hZ a S)
    refine wpc_split S rfl (fun h => ?_) (fun h => ?_)
    · (skip; (try simp only [tq] at h))
      (revert S a; refine go00 4 ?_; intro a S)
      refine wp_ret (fin_ret S (results1 Tryz.results93 (RV.tmp S rfl)) ?_)
      exact zzBig20
    (skip; (try simp only [tq] at h))
    (revert S a; revert hZ Z; refine go10 6 ?_; intro a S)
    refine wp_ret (fin_ret S (results1 Tryz.results93 (RV.tmp S rfl)) ?_)
    exact zzBig20
  (intro h; clear S a; intro a S; (try simp only [tq] at h))
  (revert S a; refine go00 3 ?_; intro a S)
  iterate 2 (refine wpl_skipU S rfl rfl rfl rfl rfl ?_; clear S a; intro a S)
  (revert S a; revert hZ Z; refine go10 4 ?_; intro a S)
  refine wpc_true S rfl ?_
  (revert S a; refine go00 4 ?_; intro a S)
  refine wp_ret (fin_ret S (results1 Tryz.results93 (RV.tmp S rfl)) ?_)
  exact zzBig20
end Go.Proofs.YtigblodhdfnleaaGreatDoor
