/- Walks. -/
import Derived.Test.YtgefmjghdijbfaaGreatDoorQTy
import Derived.Test.YtgefmjghdijbfaaGreatDoorQ03
import Derived.Test.YtgefmjghdijbfaaGreatDoorQ05
import Derived.Test.YtgefmjghdijbfaaGreatDoorQ04
import Derived.Lib.Builder
import Derived.Lib.UnsafeStr
import Derived.Laws.Externs
import Derived.Laws.Pointers
set_option maxHeartbeats 1000000
namespace Go.Proofs.YtgefmjghdijbfaaGreatDoor
open Go Go.Wk Go.Num
set_option linter.unusedSimpArgs false
set_option linter.unusedVariables false
attribute [local irreducible] Go.wpList Go.Code.wp Go.wpStill Go.Wk.wpPre Go.bodyPost Go.Calls Go.Wk.Ct Go.Wk.OwnS Go.wpListIn Go.Code.wpIn Go.CallsIn Go.bodyPostM Go.Wk.roundP
theorem mixed : Tryz.prog.follows .mixedOrders = true := by kernel_rfl
theorem b2 : 2 ≤ 1000000000 := by decide
def Mag (F : Heap) (v : Value) (N : Nat) : Prop := SlC F v (nd 1000000000 N) (cel (nd 1000000000 N) (dig 1000000000 N))
theorem Mag.mono {F F' : Heap} {v N} (hF : ∀ b o, F b = some o → F' b = some o) (h : Mag F v N) : Mag F' v N := SlC.mono hF h
theorem celN {F : Heap} {b off k j : Nat} {f : Nat → Nat} (h : Cels F b off (cel k f)) (hj : j < k) : Cel F b (off + j * 1) (.int .i64 ((f j : Nat) : Int)) := by
 rw [Nat.mul_one]; exact h.cel (cel_get hj)
theorem SlC.cut {F : Heap} {ao : Option Addr} {k cap i : Nat} {f : Nat → Nat} (h : SlC F (.slice ao k cap) k (cel k f)) (hi : i ≤ k) (j : Nat) (hj : i ≤ j) : SlC F (.slice ao i j) i (cel i f) := by
 obtain ⟨ao', cap', e, h1, h2⟩ := h
 cases e
 refine ⟨ao, j, rfl, hj, fun h0 => ?_⟩
 obtain ⟨b, off, rfl, hc⟩ := h2 (by omega)
 exact ⟨b, off, rfl, by rw [← cel_take hi]; exact hc.take i⟩
theorem ndf_down {b S i : Nat} (h : 0 < i) (hd : dig b S (i - 1) = 0) : ndf b S (i - 1) = ndf b S i := by
 cases i with
 | zero => omega
 | succ i => rw [ndf, if_pos (by simpa using hd)]; rfl
theorem ndf_self {b S i : Nat} (h : i = 0 ∨ dig b S (i - 1) ≠ 0) : ndf b S i = i := by
 cases i with
 | zero => rfl
 | succ i => rw [ndf, if_neg (by rcases h with h | h; omega; simpa using h)]
theorem zzBig10 {p : Prop} (h : p := by (have e : nd 1000000000 N = m := (by rw [← hn]; exact ndf_self (by omega)); unfold Mag; rw [e]; exact SlC.cut hv0 (by omega) m (Nat.le_refl _))) : p := h
theorem trimCt (N k : Nat) (v : Value) (F : Heap) (hS : N < 1000000000 ^ k) (hk : k ≤ 1000000000) (hv : SlC F v k (cel k (dig 1000000000 N))) : Ct Tryz.prog 116 [v] F [] (fun _ _ u => Mag F u N) := by
 have hv0 := hv
 obtain ⟨ao, cap, rfl, hcap, hpos⟩ := hv
 have hnd := ndf_eq hS b2
 refine Ct.enter Tryz.func116 rfl Tryz.ntmps116 rfl fun w0 a S => ?_
 (revert S a; refine go 12 ?_; intro Z hZ a S)
 refine wpc_loop (fun m a w' => ∃ (i : Nat), m = i ∧ i ≤ k ∧ ndf 1000000000 N i = nd 1000000000 N ∧ St 22 [(0, .slice ao k cap), (3, .int .i64 i)] w0 F [] F [] a w') ?_ ?_
 ·(refine ⟨k, k, rfl, Nat.le_refl _, hnd, ?_⟩; refine S.keep ?_; exact zk)
 (clear S; rintro m a w ⟨i, rfl, hi, hn, S⟩)
 (revert S a; refine go 5 ?_; intro Z hZ Z hZ a S)
 refine wgd S ?_ ?_
 ·(clear S; intro h S)
  (revert S a; refine go 4 ?_; intro a S)
  first | (refine wv S (sv_subN (q := 1) S rfl rfl rfl (by omega)) ?_; clear S a; intro a S) | (refine wv S (sv_sub S rfl rfl rfl (by omega)) ?_; clear S a; intro a S)
  refine wpl_take S rfl rfl rfl ?_
  (obtain ⟨b, off, rfl, hcs⟩ := hpos (by omega); have hce := celN hcs (j := m - 1) (by omega); have hdl := dig_lt b2 N (m - 1)); (refine wv S (sv_indexAddrSl S rfl rfl rfl (by omega)) ?_; clear S a; intro a S)
  (revert S a; revert hZ Z; refine go 7 ?_; intro a S)
  refine wpc_sp S rfl ?_ ?_ <;> intro h
  ·(revert S a; revert hZ Z; refine go 5 ?_; intro a S)
   first | (refine wv S (sv_subN (q := 1) S rfl rfl rfl (by omega)) ?_; clear S a; intro a S) | (refine wv S (sv_sub S rfl rfl rfl (by omega)) ?_; clear S a; intro a S)
   (revert S a; refine go 2 ?_; intro a S)
   change ∃ m', _ ∧ _
   (refine ⟨m - 1, by omega, m - 1, rfl, by omega, ?_, ?_⟩; rotate_left 1; (refine S.keep ?_; exact zk); rw [← hn]; exact ndf_down (by omega) (by omega))
  (refine wp_exit ?_; conv => whnf)
  clear hZ Z
  (revert S a; revert hZ Z; refine go 5 ?_; intro Z hZ a S)
  (refine wv S (sv_sliceSl_hm S rfl rfl rfl rfl (by omega) (by omega)) ?_; clear S a; intro a S)
  (revert S a; revert hZ Z; refine go 3 ?_; intro a S)
  refine wp_ret (fr1 S Tryz.results116 ?_)
  exact zzBig10
 (clear S a; intro h a S)
 (revert S a; revert hZ Z; refine go 8 ?_; intro a S)
 refine wpc_false S rfl ?_
 (refine wp_exit ?_; conv => whnf)
 clear hZ Z
 (revert S a; revert hZ Z; refine go 5 ?_; intro Z hZ a S)
 (refine wv S (sv_sliceSl_hm S rfl rfl rfl rfl (by omega) (by omega)) ?_; clear S a; intro a S)
 (revert S a; revert hZ Z; refine go 3 ?_; intro a S)
 refine wp_ret (fr1 S Tryz.results116 ?_)
 exact zzBig10
theorem lt_pow_max {b A C la lc : Nat} (hb : 2 ≤ b) (h1 : A < b ^ la) (h2 : C < b ^ lc) : A + C < b ^ (max la lc + 1) := by
 have e1 : b ^ la ≤ b ^ max la lc := Nat.pow_le_pow_right (by omega) (Nat.le_max_left _ _)
 have e2 : b ^ lc ≤ b ^ max la lc := Nat.pow_le_pow_right (by omega) (Nat.le_max_right _ _)
 have e3 : 2 * b ^ max la lc ≤ b ^ (max la lc + 1) := by rw [Nat.pow_succ, Nat.mul_comm]; exact Nat.mul_le_mul_left _ hb
 omega
theorem reg {k : IntKind} {x y : Int} (h : x = y) : some (Value.int k x) = some (Value.int k y) := by rw [h]
theorem own_full {e : TypeId} {v : Value} {K i : Nat} {f g : Nat → Nat} {gr : Grp} (h : OwnS e 1 v K (mixL K i f g) gr) (hi : i = K) : OwnS e 1 v K (cel K f) gr := by
 subst hi; rw [mixL_full] at h; exact h
theorem own_set {e : TypeId} {v x : Value} {K i : Nat} {f g : Nat → Nat} {gr : Grp} (h : OwnS e 1 v K ((mixL K i f g).set i x) gr) (hx : x = .int .i64 ((f i : Nat) : Int)) : OwnS e 1 v K (mixL K (i + 1) f g) gr := by
 rw [mixL_set hx] at h; exact h
theorem zzBig11 {p : Prop} (h : p := by (refine ⟨K - (i + 1), by omega, i + 1, g, rfl, by omega, own_set hown (congrArg _ (by rw [← dig_add b2]; rfl)), ?_⟩; rw [cy_step b2]; refine S.keep ?_; exact zk)) : p := h
theorem plusCt (A C : Nat) (v u : Value) (F : Heap) (hlA : nd 1000000000 A ≤ 1000000) (hlC : nd 1000000000 C ≤ 1000000) (hv : Mag F v A) (hu : Mag F u C) : Ct Tryz.prog 158 [v, u] F [] (fun F' _ r => Mag F' r (A + C)) := by
 obtain ⟨ao, ca, rfl, hca, hpa⟩ := hv
 obtain ⟨co, cc, rfl, hcc, hpc⟩ := hu
 have hlt := lt_pow_max b2 (lt_nd b2 A) (lt_nd b2 C)
 refine Ct.enter Tryz.func158 rfl Tryz.ntmps158 rfl fun w0 a S => ?_
 (revert S a; refine go 9 ?_; intro Z hZ a S)
 first | (refine wv S (sv_maxN S rfl rfl rfl) ?_; clear S a; intro a S) | (refine wv S (sv_max0 S rfl rfl rfl) ?_; clear S a; intro a S)
 (revert S a; refine go 1 ?_; intro a S)
 (refine wpl_makeSlice (q := max (nd 1000000000 A) (nd 1000000000 C) + 1) S rfl rfl rfl rfl rfl rfl rfl (by omega) (by omega) ?_; clear S a; intro b a w hown S; generalize hK : max (nd 1000000000 A) (nd 1000000000 C) + 1 = K at S hown hlt)
 (revert S a; revert hZ Z; refine go 15 ?_; intro Z hZ a S)
 refine wpc_loop (fun m a w' => ∃ (i : Nat) (g : Grp), m = K - i ∧ i ≤ K ∧ OwnS 2 1 (.slice (some ⟨b, 0, none⟩) K K) K (mixL K i (dig 1000000000 (A + C)) fun _ => 0) g ∧ St 52 [(0, .slice ao (nd 1000000000 A) ca), (1, .slice co (nd 1000000000 C) cc), (5, .slice (some ⟨b, 0, none⟩) K K), (6, .int .i64 ((cy 1000000000 A C i : Nat) : Int)), (17, .int .i64 K), (18, .int .i64 i)] w0 F [] F [g] a w') ?_ ?_
 ·(refine ⟨K, 0, _, rfl, Nat.zero_le _, (by rw [mixL_zero, ← replicate_cel]; exact hown), ?_⟩; rw [cy_zero]; refine S.keep ?_; exact zk)
 (clear hown S; rintro m a w ⟨i, g, rfl, hi, hown, S⟩; have hcy := cy_le b2 (A := A) (B := C) (k := i); have hdA := dig_lt b2 A i; have hdC := dig_lt b2 C i; have hzA : nd 1000000000 A ≤ i → dig 1000000000 A i = 0 := fun h => dig_zero (lt_nd b2 A) h b2; have hzC : nd 1000000000 C ≤ i → dig 1000000000 C i = 0 := fun h => dig_zero (lt_nd b2 C) h b2)
 (revert S a; refine go 5 ?_; intro Z hZ a S)
 refine wpc_sp S rfl ?_ ?_ <;> intro h
 ·(revert S a; revert hZ Z; refine go 15 ?_; intro Z hZ Z hZ a S)
  (revert S a; refine go 7 ?_; intro a S)
  refine wpc_sp S rfl ?_ ?_ <;> intro h
  ·(obtain ⟨ba, offa, rfl, hcsa⟩ := hpa (by omega); have hce := celN hcsa h)
   (revert S a; revert hZ Z; refine go 18 ?_; intro Z hZ a S)
   refine wpc_sp S rfl ?_ ?_ <;> intro h
   ·(obtain ⟨bc, offc, rfl, hcsc⟩ := hpc (by omega); have hcf := celN hcsc h)
    (revert S a; revert hZ Z; refine go 10 ?_; intro a S)
    (replace S := S.keep (L' := [(0, .slice _ (nd 1000000000 A) ca), (1, .slice _ (nd 1000000000 C) cc), (5, .slice (some ⟨b, 0, none⟩) K K), (17, .int .i64 K), (18, .int .i64 i), (7, .int .i64 i), (8, .int .i64 ((cy 1000000000 A C i + dig 1000000000 A i + dig 1000000000 C i : Nat) : Int))]) ⟨rfl, rfl, rfl, rfl, rfl, rfl, reg (by omega), trivial⟩)
    (revert S a; refine go 4 ?_; intro a S)
    (refine wv S (sv_rem S rfl rfl rfl (by first | omega | (simp only [List.length_append, List.length_cons, List.length_nil]; omega))) ?_; clear S a; intro a S)
    (revert S a; refine go 1 ?_; intro a S)
    (refine wv S (sv_quo S rfl rfl rfl (by first | omega | (simp only [List.length_append, List.length_cons, List.length_nil]; omega))) ?_; clear S a; intro a S)
    (revert S a; refine go 1 ?_; intro a S)
    (refine wpl_storeOwn S rfl rfl rfl rfl rfl hown rfl (by omega) ?_; clear hown S; intro g w hown S)
    (revert S a; revert hZ Z; refine go 7 ?_; intro a S)
    change ∃ m', _ ∧ _
    exact zzBig11
   (revert S a; revert hZ Z; refine go 2 ?_; intro a S)
   (replace S := S.keep (L' := [(0, .slice _ (nd 1000000000 A) ca), (1, .slice _ (nd 1000000000 C) cc), (5, .slice (some ⟨b, 0, none⟩) K K), (17, .int .i64 K), (18, .int .i64 i), (7, .int .i64 i), (8, .int .i64 ((cy 1000000000 A C i + dig 1000000000 A i + dig 1000000000 C i : Nat) : Int))]) ⟨rfl, rfl, rfl, rfl, rfl, rfl, reg (by omega), trivial⟩)
   (revert S a; refine go 4 ?_; intro a S)
   (refine wv S (sv_rem S rfl rfl rfl (by first | omega | (simp only [List.length_append, List.length_cons, List.length_nil]; omega))) ?_; clear S a; intro a S)
   (revert S a; refine go 1 ?_; intro a S)
   (refine wv S (sv_quo S rfl rfl rfl (by first | omega | (simp only [List.length_append, List.length_cons, List.length_nil]; omega))) ?_; clear S a; intro a S)
   (revert S a; refine go 1 ?_; intro a S)
   (refine wpl_storeOwn S rfl rfl rfl rfl rfl hown rfl (by omega) ?_; clear hown S; intro g w hown S)
   (revert S a; revert hZ Z; refine go 7 ?_; intro a S)
   change ∃ m', _ ∧ _
   exact zzBig11
  (revert S a; revert hZ Z; refine go 10 ?_; intro Z hZ a S)
  refine wpc_sp S rfl ?_ ?_ <;> intro h
  ·(obtain ⟨bc, offc, rfl, hcsc⟩ := hpc (by omega); have hcf := celN hcsc h)
   (revert S a; revert hZ Z; refine go 10 ?_; intro a S)
   (replace S := S.keep (L' := [(0, .slice _ (nd 1000000000 A) ca), (1, .slice _ (nd 1000000000 C) cc), (5, .slice (some ⟨b, 0, none⟩) K K), (17, .int .i64 K), (18, .int .i64 i), (7, .int .i64 i), (8, .int .i64 ((cy 1000000000 A C i + dig 1000000000 A i + dig 1000000000 C i : Nat) : Int))]) ⟨rfl, rfl, rfl, rfl, rfl, rfl, reg (by omega), trivial⟩)
   (revert S a; refine go 4 ?_; intro a S)
   (refine wv S (sv_rem S rfl rfl rfl (by first | omega | (simp only [List.length_append, List.length_cons, List.length_nil]; omega))) ?_; clear S a; intro a S)
   (revert S a; refine go 1 ?_; intro a S)
   (refine wv S (sv_quo S rfl rfl rfl (by first | omega | (simp only [List.length_append, List.length_cons, List.length_nil]; omega))) ?_; clear S a; intro a S)
   (revert S a; refine go 1 ?_; intro a S)
   (refine wpl_storeOwn S rfl rfl rfl rfl rfl hown rfl (by omega) ?_; clear hown S; intro g w hown S)
   (revert S a; revert hZ Z; refine go 7 ?_; intro a S)
   change ∃ m', _ ∧ _
   exact zzBig11
  refine wp_skip ?_
  (refine hZ _ _ ?_; clear hZ Z)
  (replace S := S.keep (L' := [(0, .slice _ (nd 1000000000 A) ca), (1, .slice _ (nd 1000000000 C) cc), (5, .slice (some ⟨b, 0, none⟩) K K), (17, .int .i64 K), (18, .int .i64 i), (7, .int .i64 i), (8, .int .i64 ((cy 1000000000 A C i + dig 1000000000 A i + dig 1000000000 C i : Nat) : Int))]) ⟨rfl, rfl, rfl, rfl, rfl, rfl, reg (by omega), trivial⟩)
  (revert S a; refine go 4 ?_; intro a S)
  (refine wv S (sv_rem S rfl rfl rfl (by first | omega | (simp only [List.length_append, List.length_cons, List.length_nil]; omega))) ?_; clear S a; intro a S)
  (revert S a; refine go 1 ?_; intro a S)
  (refine wv S (sv_quo S rfl rfl rfl (by first | omega | (simp only [List.length_append, List.length_cons, List.length_nil]; omega))) ?_; clear S a; intro a S)
  (revert S a; refine go 1 ?_; intro a S)
  (refine wpl_storeOwn S rfl rfl rfl rfl rfl hown rfl (by omega) ?_; clear hown S; intro g w hown S)
  (revert S a; revert hZ Z; refine go 7 ?_; intro a S)
  change ∃ m', _ ∧ _
  exact zzBig11
 (refine wp_exit ?_; conv => whnf)
 clear hZ Z
 (refine hZ _ _ ?_; clear hZ Z)
 (refine wp_seq_k ?_; intro Z hZ)
 (replace S := St.freeze (G1 := []) S; have hsl := (own_full hown (by omega)).slC F)
 (revert S a; refine go 2 ?_; intro a S)
 (refine wc0 S (trimCt (A + C) K _ _ hlt (by omega) hsl) ?_; clear S a; intro u a w hu S)
 (revert S a; revert hZ Z; refine go 3 ?_; intro a S)
 refine wp_ret (fr1 S Tryz.results158 ?_)
 exact hu
theorem zzBig12 {p : Prop} (h : p := by (first | (refine ⟨_, rfl, ?_⟩; rw [Nat.zero_add, List.flatMap_nil, List.nil_append] at hown; exact hown) | (refine ⟨[], rfl, ?_⟩; have h0 : k = 0 := (by rcases Nat.eq_zero_or_pos k with e | e; exact e; obtain ⟨b, off, rfl, _⟩ := hpos e; simp at h); subst h0; have h2 : cells = [] := List.eq_nil_of_length_eq_zero hl; subst h2; exact OwnS.nil _ _))) : p := h
theorem cloneCt (k : Nat) (cells : List Value) (v : Value) (F : Heap) (hk : k ≤ 1000000000) (hl : cells.length = k) (h1 : ∀ u ∈ cells, u.oneCell' = true) (hv : SlC F v k cells) : Ct Tryz.prog 190 [v] F [] (fun _ G' r => ∃ g, G' = [g] ∧ OwnS 2 1 r k cells g) := by
 obtain ⟨ao, cap, rfl, hcap, hpos⟩ := hv
 refine Ct.enter Tryz.func190 rfl Tryz.ntmps190 rfl fun w0 a S => ?_
 (revert S a; refine go 10 ?_; intro Z hZ a S)
 refine wpc_sp S rfl ?_ ?_ <;> intro h
 ·(revert S a; refine go 4 ?_; intro a S)
  refine wp_ret ?_
  skip
  (first | (have h9 := hown; clear h9) | (replace S := S.nilg))
  refine fin_ret S (results1 Tryz.results190 (RV.tmp S rfl)) ?_
  exact zzBig12
 (revert S a; revert hZ Z; refine go 3 ?_; intro Z hZ a S)
 (refine wpl_buildSlice S rfl rfl rfl rfl rfl rfl (by rfl) (by simp [Value.cells, splice]) rfl (by rfl) (by rfl) ?_; clear S a; intro b a w hown S)
 (revert S a; refine go 1 ?_; intro a S)
 (refine wpl_appendSl S rfl rfl rfl rfl rfl rfl hown (by rfl) (by rw [hl, Nat.mul_one]) hpos h1 (by omega) (by omega) ?_; clear hown S a; intro v g a w hown S)
 (revert S a; revert hZ Z; refine go 3 ?_; intro a S)
 refine wp_ret ?_
 skip
 (first | (have h9 := hown; clear h9) | (replace S := S.nilg))
 refine fin_ret S (results1 Tryz.results190 (RV.tmp S rfl)) ?_
 exact zzBig12
theorem zzBig13 {p : Prop} (h : p := by (have hds := dig_sub (k := i) b2 hCA; have hbs := bw_step (A := A) (B := C) (k := i) b2; (first | (rw [if_pos h] at hds hbs) | (rw [if_neg (by omega)] at hds hbs)); refine ⟨K - (i + 1), by omega, i + 1, g, rfl, by omega, own_set hown (congrArg _ hds.symm), ?_⟩; rw [hbs]; refine S.keep ?_; exact zk)) : p := h
theorem minusCt (A C : Nat) (v u : Value) (F : Heap) (hCA : C ≤ A) (hlA : nd 1000000000 A ≤ 1000000) (hlC : nd 1000000000 C ≤ 1000000) (hv : Mag F v A) (hu : Mag F u C) : Ct Tryz.prog 160 [v, u] F [] (fun F' _ r => Mag F' r (A - C)) := by
 have hv0 := hv
 obtain ⟨co, cc, rfl, hcc, hpc0⟩ := hu
 have hlt : A - C < 1000000000 ^ nd 1000000000 A := Nat.lt_of_le_of_lt (Nat.sub_le _ _) (lt_nd b2 A)
 have hlt2 : C < 1000000000 ^ nd 1000000000 A := Nat.lt_of_le_of_lt hCA (lt_nd b2 A)
 generalize hK : nd 1000000000 A = K at *
 refine Ct.enter Tryz.func160 rfl Tryz.ntmps160 rfl fun w0 a S => ?_
 (revert S a; refine go 6 ?_; intro Z hZ a S)
 (refine wpl_call (Gs := []) (Gr := []) S rfl rfl rfl rfl rfl rfl (cloneCt K (cel K (dig 1000000000 A)) _ _ (by omega) (cel_len _ _) cel_one (by have h9 := hv0; unfold Mag at h9; rw [hK] at h9; exact h9)) rfl (List.Perm.refl _) ?_; clear S a; intro v1 F1 G1 a w hv1 hF1 S; obtain ⟨g, rfl, hown⟩ := hv1; obtain ⟨bo, cb, rfl, hcb, hcb2, hbo⟩ := hown.at)
 (revert S a; revert hZ Z; refine go 15 ?_; intro Z hZ a S)
 refine wpc_loop (fun m a w' => ∃ (i : Nat) (g : Grp), m = K - i ∧ i ≤ K ∧ OwnS 2 1 (.slice bo K cb) K (mixL K i (dig 1000000000 (A - C)) (dig 1000000000 A)) g ∧ St 43 [(1, .slice co (nd 1000000000 C) cc), (5, .slice bo K cb), (6, .int .i64 ((bw 1000000000 A C i : Nat) : Int)), (12, .int .i64 K), (13, .int .i64 i)] w0 F [] F1 [g] a w') ?_ ?_
 ·(refine ⟨K, 0, _, rfl, Nat.zero_le _, (by rw [mixL_zero]; exact hown), ?_⟩; rw [bw_zero]; refine S.keep ?_; exact zk)
 (clear hown S; rintro m a w ⟨i, g, rfl, hi, hown, S⟩; have hcy : bw 1000000000 A C i ≤ 1 := (by unfold bw; split <;> omega); have hdA := dig_lt b2 A i; have hdC := dig_lt b2 C i; have hzC : nd 1000000000 C ≤ i → dig 1000000000 C i = 0 := fun h => dig_zero (lt_nd b2 C) h b2)
 (revert S a; refine go 5 ?_; intro Z hZ a S)
 refine wpc_sp S rfl ?_ ?_ <;> intro h
 ·(revert S a; revert hZ Z; refine go 9 ?_; intro Z hZ a S)
  (refine wp_seq_k ?_; intro Z hZ)
  (obtain ⟨b, rfl⟩ := hbo (by omega))
  (revert S a; refine go 4 ?_; intro a S)
  first | (refine wv S (sv_loadO S rfl rfl (by rfl)) ?_; clear S a; intro a S) | (refine wv S (sv_loadF S rfl rfl (by assumption)) ?_; clear S a; intro a S) | (refine wv S (sv_loadOwn S rfl rfl hown (mixL_at (by omega))) ?_; clear S a; intro a S)
  (revert S a; revert hZ Z; refine go 13 ?_; intro Z hZ a S)
  refine wpc_sp S rfl ?_ ?_ <;> intro h
  ·(obtain ⟨bc, offc, rfl, hcsc⟩ := hpc0 (by omega); have hcf := (celN hcsc h).mono hF1)
   (revert S a; refine go 5 ?_; intro a S)
   first | (refine wv S (sv_loadO S rfl rfl (by rfl)) ?_; clear S a; intro a S) | (refine wv S (sv_loadF S rfl rfl (by assumption)) ?_; clear S a; intro a S) | (refine wv S (sv_loadOwn S rfl rfl hown (mixL_at (by omega))) ?_; clear S a; intro a S)
   (revert S a; revert hZ Z; refine go 4 ?_; intro a S)
   (refine wp_seq_k ?_; intro Z hZ)
   (replace S := S.keep (L' := [(1, .slice _ (nd 1000000000 C) cc), (5, .slice (some ⟨b, 0, none⟩) K cb), (12, .int .i64 K), (13, .int .i64 i), (7, .int .i64 i), (8, .int .i64 ((dig 1000000000 A i : Int) - (bw 1000000000 A C i : Int) - (dig 1000000000 C i : Int)))]) ⟨rfl, rfl, rfl, rfl, rfl, reg (by omega), trivial⟩)
   (revert S a; revert hZ Z; refine go 10 ?_; intro Z hZ a S)
   refine wpc_sp S rfl ?_ ?_ <;> intro h
   ·(revert S a; revert hZ Z; refine go 15 ?_; intro a S)
    (refine wpl_storeOwn S rfl rfl rfl rfl rfl hown rfl (by omega) ?_; clear hown S; intro g w hown S)
    (revert S a; revert hZ Z; refine go 6 ?_; intro a S)
    change ∃ m', _ ∧ _
    exact zzBig13
   (revert S a; revert hZ Z; refine go 7 ?_; intro a S)
   (refine wpl_storeOwn S rfl rfl rfl rfl rfl hown rfl (by omega) ?_; clear hown S; intro g w hown S)
   (revert S a; revert hZ Z; refine go 6 ?_; intro a S)
   change ∃ m', _ ∧ _
   exact zzBig13
  refine wp_skip ?_
  (refine hZ _ _ ?_; clear hZ Z)
  (refine wp_seq_k ?_; intro Z hZ)
  (replace S := S.keep (L' := [(1, .slice _ (nd 1000000000 C) cc), (5, .slice (some ⟨b, 0, none⟩) K cb), (12, .int .i64 K), (13, .int .i64 i), (7, .int .i64 i), (8, .int .i64 ((dig 1000000000 A i : Int) - (bw 1000000000 A C i : Int) - (dig 1000000000 C i : Int)))]) ⟨rfl, rfl, rfl, rfl, rfl, reg (by omega), trivial⟩)
  (revert S a; revert hZ Z; refine go 10 ?_; intro Z hZ a S)
  refine wpc_sp S rfl ?_ ?_ <;> intro h
  ·(revert S a; revert hZ Z; refine go 15 ?_; intro a S)
   (refine wpl_storeOwn S rfl rfl rfl rfl rfl hown rfl (by omega) ?_; clear hown S; intro g w hown S)
   (revert S a; revert hZ Z; refine go 6 ?_; intro a S)
   change ∃ m', _ ∧ _
   exact zzBig13
  (revert S a; revert hZ Z; refine go 7 ?_; intro a S)
  (refine wpl_storeOwn S rfl rfl rfl rfl rfl hown rfl (by omega) ?_; clear hown S; intro g w hown S)
  (revert S a; revert hZ Z; refine go 6 ?_; intro a S)
  change ∃ m', _ ∧ _
  exact zzBig13
 (refine wp_exit ?_; conv => whnf)
 clear hZ Z
 (refine hZ _ _ ?_; clear hZ Z)
 (refine wp_seq_k ?_; intro Z hZ)
 (replace S := St.freeze (G1 := []) S; have hsl := (own_full hown (by omega)).slC F1)
 (revert S a; refine go 2 ?_; intro a S)
 (refine wc0 S (trimCt (A - C) K _ _ hlt (by omega) hsl) ?_; clear S a; intro u a w hu S)
 (revert S a; revert hZ Z; refine go 3 ?_; intro a S)
 refine wp_ret (fr1 S Tryz.results160 ?_)
 exact hu
theorem backIter (bx k : Nat) (f : Nat → Nat) (F : Heap) (ao : Option Addr) (cap : Nat) (hk : k ≤ 1000000000) (hbox : Cel F bx 0 (.slice ao k cap)) (hpos : 0 < k → ∃ b off, ao = some ⟨b, off, none⟩ ∧ Cels F b off (cel k f)) :
  BackIter Tryz.prog 183 bx k f F := by
 intro l J Jx W hat hJk hy
 refine CallsIn.enter0 Tryz.func183 rfl Tryz.ntmps183 rfl (hat k W hJk) fun a S => ?_
 (refine wpIn_seq_k ?_; intro Z hZ)
 refine wpi_region rfl ?_
 (revert S a; revert hZ Z; refine go 6 ?_; intro a S)
 refine wpIn_block ?_
 refine wpi_loop (fun m a w' => ∃ (j : Nat), m = j ∧ j ≤ k ∧ J j w' ∧ St 19 [(0, .func (.yield l) ⟨[]⟩ ⟨[]⟩), (1, .pointer (some ⟨bx, 0, none⟩)), (3, .int .i64 ((j : Int) - 1))] w' F [] F [] a w') ?_ ?_
 ·(refine ⟨k, k, rfl, Nat.le_refl _, hJk, ?_⟩; refine S.keep ?_; exact zk)
 (clear S hJk; rintro m a w ⟨j, rfl, hjk, hJ, S⟩)
 iterate 2 (refine wpIn_seq_k ?_; intro Z hZ)
 refine wpi_region rfl ?_
 (revert S a; revert hZ Z; refine go 4 ?_; intro a S)
 refine wpi_split S rfl (fun h => ?_) (fun h => ?_)
 ·(skip; (try simp only [tq] at h))
  refine wpIn_skip ?_
  (refine hZ _ _ ?_; clear hZ Z)
  (refine wpIn_seq_k ?_; intro Z hZ)
  refine wpIn_block ?_
  (refine wpIn_seq_k ?_; intro Z hZ)
  (obtain ⟨i, rfl⟩ : ∃ i, m = i + 1 := ⟨m - 1, by omega⟩; replace S := S.keep (L' := [(0, .func (.yield l) ⟨[]⟩ ⟨[]⟩), (1, .pointer (some ⟨bx, 0, none⟩)), (3, .int .i64 (i : Int))]) ⟨rfl, rfl, reg (by omega), trivial⟩; obtain ⟨b, off, rfl, hcs⟩ := hpos (by omega); have hce := celN hcs (j := i) (by omega))
  refine wpIn_region_lit ?_
  iterate 2 (refine wpli_v S rfl rfl rfl rfl (sv_pure S rfl) ?_; clear S a; intro a S)
  first | (refine wpli_v S rfl rfl rfl rfl (sv_loadO S rfl rfl (by rfl)) ?_; clear S a; intro a S) | (refine wpli_v S rfl rfl rfl rfl (sv_loadF S rfl rfl (by assumption)) ?_; clear S a; intro a S)
  (refine wpli_v S rfl rfl rfl rfl (sv_pure S rfl) ?_; clear S a; intro a S)
  (refine wpli_v S rfl rfl rfl rfl (sv_indexAddrSl S rfl rfl rfl (by first | omega | (simp only [List.length_append, List.length_cons, List.length_nil]; omega))) ?_; clear S a; intro a S)
  first | (refine wpli_v S rfl rfl rfl rfl (sv_loadO S rfl rfl (by rfl)) ?_; clear S a; intro a S) | (refine wpli_v S rfl rfl rfl rfl (sv_loadF S rfl rfl (by assumption)) ?_; clear S a; intro a S)
  (obtain ⟨fn, tmps, asg, bd, hyr, hrd⟩ := hy i w (by omega) hJ; refine wpli_yield S rfl rfl rfl rfl rfl rfl hyr hrd ?_; have hr9 : ∀ (e : Ending) (w' : World), ((e = .returned (.bool true) ∧ J i w') ∨ (e = .returned (.bool false) ∧ Jx w')) → ∃ bv : Bool, e = .returned (.bool bv) ∧ (bv = true → J i w') ∧ (bv = false → Jx w') := (fun e w' h9 => h9.elim (fun h9 => ⟨true, h9.1, fun _ => h9.2, fun h8 => (by cases h8)⟩) (fun h9 => ⟨false, h9.1, fun h8 => (by cases h8), fun _ => h9.2⟩)); clear S a; intro e w' h9; obtain ⟨bv, rfl, hb1, hb2⟩ := hr9 e w' h9; clear hJ h9 hyr hrd; refine ⟨_, rfl, fun a S => ?_⟩)
  (refine wpli_v S rfl rfl rfl rfl (sv_pure S rfl) ?_; clear S a; intro a S)
  refine wpListIn_nil ?_
  (refine hZ _ _ ?_; clear hZ Z)
  refine wpi_split S rfl (fun h => ?_) (fun h => ?_)
  ·(skip; (try simp only [tq] at h))
   refine wpIn_ret ?_
   (first | exact post_ret S (results0 Tryz.results183) ⟨⟨_, rfl⟩, .inr (hb2 h)⟩ | exact post_end S (results0 Tryz.results183) ⟨⟨_, rfl⟩, .inl (by have h0 : m = 0 := (by omega); subst h0; exact hJ)⟩)
  (skip; (try simp only [tq] at h))
  refine wpIn_skip ?_
  (refine hZ _ _ ?_; clear hZ Z)
  refine wpi_region rfl ?_
  (revert S a; refine go 4 ?_; intro a S)
  change ∃ m', _ ∧ _
  (refine ⟨i, by omega, i, rfl, by omega, hb1 h, ⟨?_, (hat i _ (hb1 h)).tr⟩⟩; refine S.fr.keep ?_; repeat (first | exact trivial | refine ⟨rfl, ?_⟩))
 (skip; (try simp only [tq] at h))
 (refine wpIn_exit ?_; conv => whnf)
 (first | exact post_ret S (results0 Tryz.results183) ⟨⟨_, rfl⟩, .inr (hb2 h)⟩ | exact post_end S (results0 Tryz.results183) ⟨⟨_, rfl⟩, .inl (by have h0 : m = 0 := (by omega); subst h0; exact hJ)⟩)
end Go.Proofs.YtgefmjghdijbfaaGreatDoor
namespace Go.Wk
open Go
set_option linter.unusedSimpArgs false
set_option linter.unusedVariables false
section
variable {P : Program} {n : Sz} {L : List (Nat × Value)} {w0 : World} {F0 : Heap} {K0 : List Nat} {F : Heap} {G : List Grp} {a : Act} {w : World} {o : Oper} {ops : Array Oper} {rest : List Oper} {Q : Exit → Act → World → Prop}
theorem wpl_callOwn {d : Nat} {x : Operand} {xs : Array Operand} {ts : Array TypeId} {f : FuncId} {fi ca vs args : List Value} {Gs Gr : List Grp} {Post : List Grp → Value → Prop} [hf : HasFn P f] (S : St n L w0 F0 K0 F G a w) (hg : o.guard = none) (hd : o.dst = some d) (hn : Nat.blt d n.sz = true)
  (ho : o.op = .call { callee := .value x, args := xs, argTypes := ts }) (hx : ev L x = some (.func (.func f) ⟨fi⟩ ⟨ca⟩)) (hxs : evs L xs.toList = some vs) (C : Ct P f args F Gs (fun _ G' u => Post G' u)) (ha : fi ++ vs ++ ca = args) (hp : G.flatten.Perm (Gs.flatten ++ Gr.flatten))
  (k : ∀ v G' a' w', Post G' v → St n ((d, v) :: L) w0 F0 K0 F (G' ++ Gr) a' w' → wpList P ops Q rest a' w') : wpList P ops Q (o :: rest) a w :=
 wpl_call S hg hd hn ho hx hxs C ha hp fun v F' G' a' w' hv hF S' => k v G' a' w' hv ⟨S'.fr, Tr.shrink S'.tr hF S.tr.ext⟩
theorem sv_eqPtrNil {x y : Operand} {t yt e : TypeId} [ht : Und P t (.pointer e)] (S : St n L w0 F0 K0 F G a w) (ho : o.op = .binOp .eql t x y yt) (hx : ev L x = some (.pointer none)) (hy : ev L y = some (.pointer none)) : SV P o a w (.bool true) := by
 unfold SV execOp
 rw [ho]
 have h1 : (eqGuard .eql t x y (.pointer none) (.pointer none)).run P w = .ok () w := rfl
 have hp : P.pointee t = e := by simp [Program.pointee, ht.h]
 have h2 := run_eql_pointer_nil (P := P) w t none (by rw [hp]; exact ht.h)
 simp only [S.fr.eval hx, S.fr.eval hy, Sem.run_bind, h1, Result.andThen_ok, h2, Sem.run_pure]
 rfl
theorem sv_eqPtrSome {x y : Operand} {t yt e : TypeId} {ad : Addr} [ht : Und P t (.pointer e)] (S : St n L w0 F0 K0 F G a w) (ho : o.op = .binOp .eql t x y yt) (hx : ev L x = some (.pointer (some ad))) (hy : ev L y = some (.pointer none)) : SV P o a w (.bool false) := by
 unfold SV execOp
 rw [ho]
 have h1 : (eqGuard .eql t x y (.pointer (some ad)) (.pointer none)).run P w = .ok () w := rfl
 have hp : P.pointee t = e := by simp [Program.pointee, ht.h]
 have h2 := run_eql_pointer_nil (P := P) w t (some ad) (by rw [hp]; exact ht.h)
 simp only [S.fr.eval hx, S.fr.eval hy, Sem.run_bind, h1, Result.andThen_ok, h2, Sem.run_pure]
 rfl
theorem sv_nePtrSame {x y : Operand} {t yt e : TypeId} {ad : Addr} {z : Value} {sz by_ : Nat} [ht : Und P t (.pointer e)] [hi : Inf P e z sz by_] (S : St n L w0 F0 K0 F G a w) (ho : o.op = .binOp .neq t x y yt) (hx : ev L x = some (.pointer (some ad))) (hy : ev L y = some (.pointer (some ad))) : SV P o a w (.bool false) := by
 obtain ⟨i, h1, _⟩ := hi.h
 unfold SV execOp
 rw [ho]
 have h2 : (eqGuard .neq t x y (.pointer (some ad)) (.pointer (some ad))).run P w = .ok () w := rfl
 simp [S.fr.eval hx, S.fr.eval hy, h2, Lib.run_neq_ptr_same w ad ht.h h1]
theorem shape_own {b : Nat} {c : List Value} {e : TypeId} {R} (S : St n L w0 F0 K0 F G a w) (hh : Has G b (.cells ⟨c⟩ e (0, 0)) R) : w.shape? b = some (e, c.length) := by
 have := S.has hh
 simp [World.shape?, this]
theorem sv_toUnsafe {x : Operand} {s t e1 : TypeId} {b : Nat} {c : List Value} {e : TypeId} {R} {z : Value} {sz by_ : Nat} [hs : Und P s (.pointer e1)] [ht : Und P t .unsafePointer] [hi : Inf P e1 z sz by_] [hh : Has G b (.cells ⟨c⟩ e (0, 0)) R] (S : St n L w0 F0 K0 F G a w) (ho : o.op = .convert s t x) (hx : ev L x = some (.pointer (some ⟨b, 0, none⟩)))
  (hsz : Nat.beq sz 0 = false) (hc : 0 < c.length) : SV P o a w (.pointer (some ⟨b, 0, none⟩)) := by
 obtain ⟨i, h1, h2, h3, h4⟩ := hi.h
 have hne : i.size ≠ 0 := fun h => by rw [h3] at h; subst h; simp at hsz
 unfold SV execOp
 rw [ho]
 simp [S.fr.eval hx, Lib.run_to_unsafe w ⟨b, 0, none⟩ hs.h ht.h h1 hne (shape_own S hh) hc]
theorem sv_fromUnsafe {x : Operand} {s t u : TypeId} {b : Nat} {c : List Value} {e : TypeId} {R} {z : Value} {sz by_ : Nat} [hs : Und P s .unsafePointer] [ht : Und P t (.pointer u)] [hi : Inf P u z sz by_] [hh : Has G b (.cells ⟨c⟩ e (0, 0)) R] (S : St n L w0 F0 K0 F G a w) (ho : o.op = .convert s t x) (hx : ev L x = some (.pointer (some ⟨b, 0, none⟩)))
  (hl : liesAt P P.depth e (c.length / P.cellsOf e) 0 u 1 = true) : SV P o a w (.pointer (some ⟨b, 0, none⟩)) := by
 obtain ⟨i, h1, _⟩ := hi.h
 unfold SV execOp
 rw [ho]
 simp [S.fr.eval hx, Lib.run_from_unsafe w ⟨b, 0, none⟩ hs.h ht.h h1 (shape_own S hh) hl]
class NoEsc (P : Program) (f : FuncId) : Prop where
  h : ∀ (x : Value) (w : World), (callFunc f #[x]).run P w = .ok (.value x) w
theorem sv_noEsc {x y : Operand} {ts : Array TypeId} {f : FuncId} {v : Value} [hf : NoEsc P f] (S : St n L w0 F0 K0 F G a w) (ho : o.op = .call { callee := .value x, args := #[y], argTypes := ts }) (hx : ev L x = some (.func (.func f) ⟨[]⟩ ⟨[]⟩)) (hy : ev L y = some v) : SV P o a w v := by
 unfold SV execOp
 rw [ho]
 simp [resolve, S.fr.eval hx, S.fr.eval hy, Deferred.ofValue, invoke, hf.h]
theorem sv_sliceData {x : Operand} {ts : Array TypeId} {ad : Addr} {q c : Nat} (S : St n L w0 F0 K0 F G a w) (ho : o.op = .call { callee := .builtin .unsafeSliceData, args := #[x], argTypes := ts }) (hx : ev L x = some (.slice (some ad) q c)) (hc : 0 < c) : SV P o a w (.pointer (some ad)) := by
 unfold SV execOp
 rw [ho]
 simp [resolve, invoke, builtin, S.fr.eval hx, Lib.run_unsafeSliceData_row w ts o.type ad q c (by omega)]
theorem freeze_heap (w : World) (b m : Nat) (c : Array Value) (e : TypeId) (hm : m ≠ 0) (h : w.heap[b]? = some (.cells c e (0, 0))) : (w.freeze ⟨b, 0, none⟩ m).heap[b]? = some (.cells c e (0, m)) := by
 obtain ⟨hlt, hk⟩ := Array.getElem?_eq_some_iff.1 h
 unfold World.freeze
 rw [if_neg hm]
 show (w.heap.modify b _)[b]? = _
 rw [Array.getElem?_eq_getElem (by rw [Array.size_modify]; exact hlt), Array.getElem_modify_self, hk]
 simp
theorem freeze_other (w : World) (b m k : Nat) (hk : k ≠ b) : (w.freeze ⟨b, 0, none⟩ m).heap[k]? = w.heap[k]? := by
 unfold World.freeze
 split
 ·rfl
 ·show (w.heap.modify b _)[k]? = _
  rw [Array.getElem?_modify, if_neg (fun e => hk e.symm)]
theorem freeze_size (w : World) (b m : Nat) : (w.freeze ⟨b, 0, none⟩ m).heap.size = w.heap.size ∧ (w.freeze ⟨b, 0, none⟩ m).os = w.os ∧ (w.freeze ⟨b, 0, none⟩ m).tape = w.tape ∧ (w.freeze ⟨b, 0, none⟩ m).output = w.output := by
 unfold World.freeze
 split
 ·exact ⟨rfl, rfl, rfl, rfl⟩
 ·exact ⟨Array.size_modify, rfl, rfl, rfl⟩
theorem wpl_unsafeString {d : Nat} {x y : Operand} {pt it e : TypeId} {b cap q : Nat} {l : List UInt8} {g : Grp} {R} [hp : Und P pt (.pointer e)] (S : St n L w0 F0 K0 F G a w) (hg : o.guard = none) (hd : o.dst = some d) (hn : Nat.blt d n.sz = true)
  (ho : o.op = .call { callee := .builtin .unsafeString, args := #[x, y], argTypes := #[pt, it] }) (hx : ev L x = some (.pointer (some ⟨b, 0, none⟩))) (hy : ev L y = some (.int .i64 (Int.ofNat q)))
  (hown : OwnS e 1 (.slice (some ⟨b, 0, none⟩) q cap) q (l.map fun c => Value.int .u8 c.toNat) g) [hN : Nth G g R] (hc : P.cellsOf e = 1) (h0 : 0 < q) (h63 : q ≤ 9223372036854775807)
  (k : ∀ a' w', St n ((d, .string (bs l)) :: L) w0 F0 K0 F (R []) a' w' → wpList P ops Q rest a' w') : wpList P ops Q (o :: rest) a w := by
 obtain ⟨ex, rfl, h1, h2, h3, h4⟩ := hown.block
 obtain ⟨G1, G2, e1, hR⟩ := hN.h
 rw [List.length_map] at h3
 have ht := S.tr
 rw [e1] at ht
 have hb := (ht.own (b, _) (by simp only [List.flatten_append, List.flatten_cons]; exact List.mem_append_right _ (List.mem_append_left _ (List.mem_singleton.2 rfl)))).1
 have hlne : l ≠ [] := fun e => by rw [e] at h3; simp at h3; omega
 have hr := Lib.run_unsafeString_row (P := P) w pt it o.type e hp.h hc b (((l.map fun c => Value.int .u8 c.toNat) ++ ex).length) (by simp only [World.shape?, hb]; rfl) l hlne (by simp) (by omega) (fun j u hj => by
  rw [addr_add, Nat.zero_add]
  refine cell_of_heap hb ?_
  simp only [List.getElem?_toArray]
  rw [List.getElem?_append_left (by rw [List.length_map]; exact (List.getElem?_eq_some_iff.1 hj).1), List.getElem?_map, hj]; rfl)
 have hq : ((l.length : Nat) : Int) = Int.ofNat q := by rw [h3]; rfl
 rw [hq] at hr
 refine wpList_plain hg fun K hK => ?_
 unfold Oper.wp execOp
 rw [ho]
 simp [resolve, invoke, builtin, S.fr.eval hx, S.fr.eval hy]
 simp only [Int.ofNat_eq_natCast] at hr
 rw [hr, Result.andThen_ok, Oper.upon_value, hd]
 have hz := freeze_size w b l.length
 have ht2 := ht.write (w' := w.freeze ⟨b, 0, none⟩ l.length) hz.2.1 hz.2.2.1 hz.2.2.2 hz.1 (freeze_heap w b l.length _ e (by simpa using hlne) hb) (fun k hk => freeze_other w b _ k hk)
 refine hK _ _ (k _ _ ⟨S.fr.put _ hn, ?_⟩)
 rw [hR]
 exact ht2.sub (by simp only [List.flatten_append, List.flatten_cons, List.nil_append]; exact List.Sublist.append_left (List.sublist_append_right _ _) _)
end
end Go.Wk
namespace Go.Proofs.YtgefmjghdijbfaaGreatDoor
open Go Go.Wk Go.Num
set_option linter.unusedSimpArgs false
set_option linter.unusedVariables false
attribute [local irreducible] Go.wpList Go.Code.wp Go.wpStill Go.Wk.wpPre Go.bodyPost Go.Calls Go.Wk.Ct Go.Wk.OwnS Go.Wk.wpG Go.Wk.wpM
instance : NoEsc Tryz.prog 222 := ⟨fun x w => by
 rw [run_callFunc_extern Tryz.func222 (by kernel_rfl) (by kernel_rfl) (by kernel_rfl) (e := Extern.AbiNoEscape.same) (by kernel_rfl), Lib.run_noEscape]
 rfl⟩
def bldG (b : Nat) (p v : Value) : Grp := [(b, .cells ⟨[p, v]⟩ 234 (0, 0))]
def bldP (b : Nat) (p : Value) : Prop := p = .pointer none ∨ p = .pointer (some ⟨b, 0, none⟩)
theorem copyCheck0 (b : Nat) (v : Value) (F : Heap) : Ct Tryz.prog 187 [.pointer (some ⟨b, 0, none⟩)] F [[(b, .cells ⟨[.pointer none, v]⟩ 234 (0, 0))]] (fun _ G' _ => G' = [[(b, .cells ⟨[.pointer (some ⟨b, 0, none⟩), v]⟩ 234 (0, 0))]]) := by
 refine Ct.enter Tryz.func187 rfl Tryz.ntmps187 rfl fun w0 a S => ?_
 (revert S a; refine go 5 ?_; intro Z hZ a S)
 (refine wv S (sv_eqPtrNil S rfl rfl rfl) ?_; clear S a; intro a S)
 (revert S a; revert hZ Z; refine go 2 ?_; intro a S)
 refine wpc_split S rfl (fun h => ?_) (fun h => ?_)
 ·(skip; (try simp only [tq] at h))
  (revert S a; refine go 3 ?_; intro a S)
  (refine wv S (sv_toUnsafe S rfl rfl rfl (by simp)) ?_; clear S a; intro a S)
  (refine wv S (sv_noEsc S rfl rfl rfl) ?_; clear S a; intro a S)
  (refine wv S (sv_fromUnsafe S rfl rfl (by kernel_rfl)) ?_; clear S a; intro a S)
  (revert S a; refine go 2 ?_; intro a S)
  (refine wpl_store1 S rfl rfl rfl rfl rfl rfl (by first | (simp; done) | (simp [Value.cells]; done) | exact Nat.le_of_ble_eq_true rfl) ?_; clear S; intro w S)
  refine wpList_nil ?_
  refine fin_end S (results0 Tryz.results187) ?_
  rfl
 (skip; (try simp only [tq] at h); cases h)
theorem copyCheck1 (b : Nat) (v : Value) (F : Heap) : Ct Tryz.prog 187 [.pointer (some ⟨b, 0, none⟩)] F [[(b, .cells ⟨[.pointer (some ⟨b, 0, none⟩), v]⟩ 234 (0, 0))]] (fun _ G' _ => G' = [[(b, .cells ⟨[.pointer (some ⟨b, 0, none⟩), v]⟩ 234 (0, 0))]]) := by
 refine Ct.enter Tryz.func187 rfl Tryz.ntmps187 rfl fun w0 a S => ?_
 (revert S a; refine go 5 ?_; intro Z hZ a S)
 (refine wv S (sv_eqPtrSome S rfl rfl rfl) ?_; clear S a; intro a S)
 (revert S a; revert hZ Z; refine go 2 ?_; intro a S)
 refine wpc_split S rfl (fun h => ?_) (fun h => ?_)
 ·(skip; (try simp only [tq] at h); cases h)
 (skip; (try simp only [tq] at h))
 (revert S a; refine go 6 ?_; intro Z hZ a S)
 (refine wv S (sv_nePtrSame S rfl rfl rfl) ?_; clear S a; intro a S)
 (revert S a; revert hZ Z; refine go 2 ?_; intro a S)
 refine wpc_split S rfl (fun h => ?_) (fun h => ?_)
 ·(skip; (try simp only [tq] at h); cases h)
 (skip; (try simp only [tq] at h))
 refine wp_skip ?_
 refine fin_end S (results0 Tryz.results187) ?_
 rfl
theorem copyCheckCt (b : Nat) (p v : Value) (F : Heap) (hp : bldP b p) : Ct Tryz.prog 187 [.pointer (some ⟨b, 0, none⟩)] F [bldG b p v] (fun _ G' _ => G' = [bldG b (.pointer (some ⟨b, 0, none⟩)) v]) := by
 rcases hp with rfl | rfl
 ·exact copyCheck0 b v F
 ·exact copyCheck1 b v F
def u8c (l : List UInt8) : List Value := l.map fun c => Value.int .u8 c.toNat
theorem cyT_le2 {A n k : Nat} (h : n < 1000000000) : cyT 1000000000 A n k ≤ 999999999 := by
 rcases Nat.eq_zero_or_pos n with e | e
 ·subst e; simp [cyT]
 ·have := cyT_le (A := A) (k := k) b2 e; omega
theorem zzBgt0 {p : Prop} (h : p := by (refine ⟨K - (i + 1), by omega, i + 1, g, rfl, by omega, own_set hown (congrArg _ (by rw [← dig_mul b2]; rfl)), ?_⟩; rw [cyT_step b2]; refine S.keep ?_; exact zk)) : p := h
theorem timesCt (A n : Nat) (v : Value) (F : Heap) (hn : n < 1000000000) (hlA : nd 1000000000 A ≤ 1000000) (hv : Mag F v A) : Ct Tryz.prog 191 [v, .int .i64 n] F [] (fun F' _ r => Mag F' r (A * n)) := by
 obtain ⟨ao, ca, rfl, hca, hpa⟩ := hv
 have hlt : A * n < 1000000000 ^ (nd 1000000000 A + 1) := by
  rw [Nat.pow_succ]
  exact Nat.mul_lt_mul_of_lt_of_le (lt_nd b2 A) (Nat.le_of_lt hn) (by decide)
 refine Ct.enter Tryz.func191 rfl Tryz.ntmps191 rfl fun w0 a S => ?_
 (revert S a; refine go 8 ?_; intro Z hZ a S)
 (refine wpl_makeSlice (q := nd 1000000000 A + 1) S rfl rfl rfl rfl rfl rfl rfl (by omega) (by omega) ?_; clear S a; intro b a w hown S; generalize hK : nd 1000000000 A + 1 = K at S hown hlt)
 (revert S a; revert hZ Z; refine go 15 ?_; intro Z hZ a S)
 refine wpc_loop (fun m a w' => ∃ (i : Nat) (g : Grp), m = K - i ∧ i ≤ K ∧ OwnS 2 1 (.slice (some ⟨b, 0, none⟩) K K) K (mixL K i (dig 1000000000 (A * n)) fun _ => 0) g ∧ St 41 [(0, .slice ao (nd 1000000000 A) ca), (1, .int .i64 n), (5, .slice (some ⟨b, 0, none⟩) K K), (6, .int .i64 ((cyT 1000000000 A n i : Nat) : Int)), (14, .int .i64 K), (15, .int .i64 i)] w0 F [] F [g] a w') ?_ ?_
 ·(refine ⟨K, 0, _, rfl, Nat.zero_le _, (by rw [mixL_zero, ← replicate_cel]; exact hown), ?_⟩; rw [cyT_zero]; refine S.keep ?_; exact zk)
 (clear hown S; rintro m a w ⟨i, g, rfl, hi, hown, S⟩; have hcy := cyT_le2 (A := A) (k := i) hn; have hdA := dig_lt b2 A i; have hdm : dig 1000000000 A i * n ≤ 999999999 * 999999999 := Nat.mul_le_mul (by omega) (by omega); have hzA : nd 1000000000 A ≤ i → dig 1000000000 A i = 0 := fun h => dig_zero (lt_nd b2 A) h b2)
 (revert S a; refine go 5 ?_; intro Z hZ a S)
 refine wpc_sp S rfl ?_ ?_ <;> intro h
 ·(revert S a; revert hZ Z; refine go 15 ?_; intro Z hZ Z hZ a S)
  (revert S a; refine go 7 ?_; intro a S)
  refine wpc_sp S rfl ?_ ?_ <;> intro h
  ·(obtain ⟨ba, offa, rfl, hcsa⟩ := hpa (by omega); have hce := celN hcsa h)
   (revert S a; refine go 7 ?_; intro a S)
   (refine wv S (sv_mul S rfl rfl rfl (by first | omega | (simp only [List.length_append, List.length_cons, List.length_nil]; omega))) ?_; clear S a; intro a S)
   (revert S a; revert hZ Z; refine go 4 ?_; intro a S)
   (replace S := S.keep (L' := [(0, .slice _ (nd 1000000000 A) ca), (1, .int .i64 n), (5, .slice (some ⟨b, 0, none⟩) K K), (14, .int .i64 K), (15, .int .i64 i), (7, .int .i64 i), (8, .int .i64 ((cyT 1000000000 A n i + dig 1000000000 A i * n : Nat) : Int))]) ⟨rfl, rfl, rfl, rfl, rfl, rfl, reg (by first | rfl | (rw [hzA (by omega)]; simp)), trivial⟩)
   (revert S a; refine go 4 ?_; intro a S)
   (refine wv S (sv_rem S rfl rfl rfl (by first | omega | (simp only [List.length_append, List.length_cons, List.length_nil]; omega))) ?_; clear S a; intro a S)
   (revert S a; refine go 1 ?_; intro a S)
   (refine wv S (sv_quo S rfl rfl rfl (by first | omega | (simp only [List.length_append, List.length_cons, List.length_nil]; omega))) ?_; clear S a; intro a S)
   (revert S a; refine go 1 ?_; intro a S)
   (refine wpl_storeOwn S rfl rfl rfl rfl rfl hown rfl (by omega) ?_; clear hown S; intro g w hown S)
   (revert S a; revert hZ Z; refine go 7 ?_; intro a S)
   change ∃ m', _ ∧ _
   exact zzBgt0
  refine wp_skip ?_
  (refine hZ _ _ ?_; clear hZ Z)
  (replace S := S.keep (L' := [(0, .slice _ (nd 1000000000 A) ca), (1, .int .i64 n), (5, .slice (some ⟨b, 0, none⟩) K K), (14, .int .i64 K), (15, .int .i64 i), (7, .int .i64 i), (8, .int .i64 ((cyT 1000000000 A n i + dig 1000000000 A i * n : Nat) : Int))]) ⟨rfl, rfl, rfl, rfl, rfl, rfl, reg (by first | rfl | (rw [hzA (by omega)]; simp)), trivial⟩)
  (revert S a; refine go 4 ?_; intro a S)
  (refine wv S (sv_rem S rfl rfl rfl (by first | omega | (simp only [List.length_append, List.length_cons, List.length_nil]; omega))) ?_; clear S a; intro a S)
  (revert S a; refine go 1 ?_; intro a S)
  (refine wv S (sv_quo S rfl rfl rfl (by first | omega | (simp only [List.length_append, List.length_cons, List.length_nil]; omega))) ?_; clear S a; intro a S)
  (revert S a; refine go 1 ?_; intro a S)
  (refine wpl_storeOwn S rfl rfl rfl rfl rfl hown rfl (by omega) ?_; clear hown S; intro g w hown S)
  (revert S a; revert hZ Z; refine go 7 ?_; intro a S)
  change ∃ m', _ ∧ _
  exact zzBgt0
 (refine wp_exit ?_; conv => whnf)
 clear hZ Z
 (refine hZ _ _ ?_; clear hZ Z)
 (refine wp_seq_k ?_; intro Z hZ)
 (replace S := St.freeze (G1 := []) S; have hsl := (own_full hown (by omega)).slC F)
 (revert S a; refine go 2 ?_; intro a S)
 (refine wc0 S (trimCt (A * n) K _ _ hlt (by omega) hsl) ?_; clear S a; intro u a w hu S)
 (revert S a; revert hZ Z; refine go 3 ?_; intro a S)
 refine wp_ret (fr1 S Tryz.results191 ?_)
 exact hu
end Go.Proofs.YtgefmjghdijbfaaGreatDoor
namespace Go.Num
open Go
set_option linter.unusedSimpArgs false
set_option linter.unusedVariables false
def dv (c : UInt8) : Nat := c.toNat - 48
def isD (c : UInt8) : Bool := decide (48 ≤ c.toNat) && decide (c.toNat ≤ 57)
def decV (l : List UInt8) : Nat := l.foldl (fun n c => 10 * n + dv c) 0
theorem dv_lt {c : UInt8} (h : isD c = true) : dv c < 10 := by
 unfold isD at h; unfold dv; simp only [Bool.and_eq_true, decide_eq_true_eq] at h; omega
theorem decV_nil : decV [] = 0 := rfl
theorem foldV (m : List UInt8) : ∀ a : Nat, m.foldl (fun n c => 10 * n + dv c) a = a * 10 ^ m.length + decV m := by
 induction m with
 | nil => intro a; simp [decV]
 | cons c m ih =>
  intro a
  have h1 := ih (10 * a + dv c)
  have h2 := ih (10 * 0 + dv c)
  simp only [decV, List.foldl_cons, List.length_cons] at *
  rw [h1, h2, Nat.pow_succ, Nat.add_mul, Nat.add_mul]
  have : 10 * a * 10 ^ m.length = a * (10 ^ m.length * 10) := by rw [Nat.mul_comm 10 a, Nat.mul_assoc, Nat.mul_comm 10]
  omega
theorem decV_append (l m : List UInt8) : decV (l ++ m) = decV l * 10 ^ m.length + decV m := by
 have := foldV m (decV l)
 unfold decV at *
 rw [List.foldl_append]; exact this
theorem decV_snoc (l : List UInt8) (c : UInt8) : decV (l ++ [c]) = 10 * decV l + dv c := by simp [decV]
theorem decV_take_succ {l : List UInt8} {k : Nat} (h : k < l.length) : decV (l.take (k + 1)) = 10 * decV (l.take k) + dv (l.getD k 0) := by
 rw [List.take_succ_eq_append_getElem h, decV_snoc, List.getD_eq_getElem?_getD, List.getElem?_eq_getElem h]; rfl
theorem all_getD {l : List UInt8} (h : l.all isD = true) {k : Nat} (hk : k < l.length) : isD (l.getD k 0) = true := by
 rw [List.getD_eq_getElem?_getD, List.getElem?_eq_getElem hk]
 exact List.all_eq_true.1 h _ (List.getElem_mem hk)
theorem decV_lt : ∀ (l : List UInt8), l.all isD = true → decV l < 10 ^ l.length
 | [], _ => by simp [decV]
 | c :: m, h => by
  simp only [List.all_cons, Bool.and_eq_true] at h
  have h1 := dv_lt h.1
  have h2 := decV_lt m h.2
  have : decV (c :: m) = decV [c] * 10 ^ m.length + decV m := decV_append [c] m
  have h3 : decV [c] = dv c := by simp [decV]
  rw [this, h3, List.length_cons, Nat.pow_succ]
  have h4 : (dv c + 1) * 10 ^ m.length ≤ 10 * 10 ^ m.length := Nat.mul_le_mul_right _ h1
  rw [Nat.add_mul, Nat.one_mul] at h4
  rw [Nat.mul_comm (10 ^ m.length)]; omega
theorem all_drop {l : List UInt8} (h : l.all isD = true) (k : Nat) : (l.drop k).all isD = true := by
 rw [List.all_eq_true] at *; exact fun x hx => h x (List.mem_of_mem_drop hx)
theorem decV_div {l : List UInt8} (h : l.all isD = true) {e : Nat} (he : e ≤ l.length) : decV l / 10 ^ (l.length - e) = decV (l.take e) := by
 conv => lhs; rw [← List.take_append_drop e l, decV_append]
 have hl := decV_lt _ (all_drop h e)
 rw [List.length_drop] at hl
 rw [List.length_append, List.length_take, List.length_drop, Nat.min_eq_left he, show e + (l.length - e) - e = l.length - e by omega]
 rw [Nat.add_comm, Nat.add_mul_div_right _ _ (Nat.pow_pos (by decide)), Nat.div_eq_of_lt hl, Nat.zero_add]
theorem dig_chunk {l : List UInt8} (h : l.all isD = true) {e c : Nat} (he : e + 9 * c = l.length) : dig 1000000000 (decV l) c = decV (l.take e) % 1000000000 := by
 unfold dig
 have e1 : 1000000000 ^ c = 10 ^ (l.length - e) := by
  rw [show (1000000000 : Nat) = 10 ^ 9 by decide, ← Nat.pow_mul]; congr 1; omega
 rw [e1, decV_div h (by omega)]
theorem chunk {l : List UInt8} {e f n : Nat} (hf : f = e - 9) (hn : decV (l.take e) = decV (l.take f) * 10 ^ (e - f) + n) (hl : n < 10 ^ (e - f)) : decV (l.take e) % 1000000000 = n := by
 by_cases h9 : 9 ≤ e
 ·have : e - f = 9 := by omega
  rw [this] at hn hl
  rw [hn, show (10 : Nat) ^ 9 = 1000000000 by decide, Nat.mul_comm, Nat.mul_add_mod, Nat.mod_eq_of_lt (by simpa using hl)]
 ·have h0 : f = 0 := by omega
  subst h0
  rw [List.take_zero, decV_nil, Nat.zero_mul, Nat.zero_add] at hn
  rw [hn]
  refine Nat.mod_eq_of_lt (Nat.lt_of_lt_of_le hl ?_)
  rw [show (1000000000 : Nat) = 10 ^ 9 by decide]
  exact Nat.pow_le_pow_right (by decide) (by omega)
theorem dec_step {X Y p n z : Nat} (h : X = Y * p + n) : 10 * X + z = Y * (p * 10) + (10 * n + z) := by
 subst h
 rw [Nat.mul_add, ← Nat.mul_assoc Y, Nat.mul_comm 10 (Y * p), Nat.add_assoc]
def bodyS (s : List UInt8) : List UInt8 := if s.head? = some 45 then s.drop 1 else s
def negS (s : List UInt8) : Bool := decide (s.head? = some 45)
def checkS (s : List UInt8) : Int :=
 if bodyS s = [] ∨ ((bodyS s).head? = some 48 ∧ s ≠ [48]) then 4 else if (bodyS s).all isD = true then (if 200 < (bodyS s).length then 80 else 0) else 4
theorem bodyS_len (s : List UInt8) : (bodyS s).length ≤ s.length := by unfold bodyS; split <;> simp
theorem bodyS_lt {s : List UInt8} : ((bodyS s).length < s.length) ↔ s.head? = some 45 := by
 unfold bodyS
 cases s with
 | nil => simp
 | cons c r => by_cases h : c = 45 <;> simp [h]
theorem check_digits {s : List UInt8} (h : checkS s = 0) : (bodyS s).all isD = true ∧ (bodyS s).length ≤ 200 ∧ bodyS s ≠ [] := by
 unfold checkS at h
 split at h
 ·cases h
 ·rename_i h1
  split at h
  ·rename_i h2
   split at h
   ·cases h
   ·exact ⟨h2, by omega, fun e => h1 (Or.inl e)⟩
  ·cases h
end Go.Num
namespace Go.Proofs.YtgefmjghdijbfaaGreatDoor
open Go Go.Wk
set_option linter.unusedSimpArgs false
set_option linter.unusedVariables false
attribute [local irreducible] Go.wpList Go.Code.wp Go.wpStill Go.Wk.wpPre Go.bodyPost Go.Calls Go.Wk.Ct Go.Wk.OwnS
def hasP (s p : List UInt8) : Bool := if p.length ≤ s.length then s.take p.length == p else false
theorem hasPfxCt (s p : List UInt8) (F : Heap) (hs : s.length ≤ 140737488355328) (hp : p.length ≤ 140737488355328) : Ct Tryz.prog 205 [.string (bs s), .string (bs p)] F [] (fun _ _ u => u = .bool (hasP s p)) := by
 refine Ct.enter Tryz.func205 rfl Tryz.ntmps205 rfl fun w0 a S => ?_
 (revert S a; refine go 11 ?_; intro Z hZ a S)
 refine wgd S ?_ ?_
 ·(clear S; intro h S)
  (revert S a; refine go 6 ?_; intro a S)
  (refine wv S (sv_sliceS_hi S rfl rfl rfl (by first | omega | (simp only [List.length_append, List.length_cons, List.length_nil]; omega))) ?_; clear S a; intro a S)
  (revert S a; revert hZ Z; refine go 8 ?_; intro a S)
  refine wp_ret (fr1 S Tryz.results205 ?_)
  (unfold hasP; first | (rw [if_pos h]; rfl) | (rw [if_neg (by omega)]))
 (clear S a; intro h a S)
 (revert S a; revert hZ Z; refine go 9 ?_; intro a S)
 refine wp_ret (fr1 S Tryz.results205 ?_)
 (unfold hasP; first | (rw [if_pos h]; rfl) | (rw [if_neg (by omega)]))
end Go.Proofs.YtgefmjghdijbfaaGreatDoor
