/- The walks of the document's answer for layer 1: Product, Over. -/
import Derived.Test.YtmmpbpfdnpgklaaDoorRefE
import Derived.Test.YtmmpbpfdnpgklaaDoorDivM
namespace Go.Proofs.YtmmpbpfdnpgklaaDoor
open Go Go.Wk Go.Num
set_option linter.unusedSimpArgs false
set_option linter.unusedVariables false
attribute [local irreducible] Go.wpList Go.Code.wp Go.wpStill Go.Wk.wpPre Go.bodyPost Go.Calls Go.Wk.Ct Go.Wk.OwnS
attribute [local irreducible] Go.Wk.wpG Go.Wk.wpM

theorem dig10_0 {r a : Nat} (ha : a < 10) : dig 10 (r * 10 + a) 0 = a := by unfold dig; rw [Nat.pow_zero, Nat.div_one]; omega
theorem dig10_s {r a j : Nat} (ha : a < 10) : dig 10 (r * 10 + a) (j + 1) = dig 10 r j := by
  unfold dig; rw [Nat.pow_succ', ← Nat.div_div_eq_div_mul, show (r * 10 + a) / 10 = r by omega]
theorem cel10_push {k r a : Nat} (ha : a < 10) : [Value.int .i64 ((a : Nat) : Int)] ++ cel k (dig 10 r) = cel (k + 1) (dig 10 (r * 10 + a)) := by
  rw [cel_cons, dig10_0 ha, show (fun j => dig 10 (r * 10 + a) (j + 1)) = dig 10 r from funext fun j => dig10_s ha]; rfl
theorem push10_lt {r a k : Nat} (ha : a < 10) (h : r < 10 ^ k) : r * 10 + a < 10 ^ (k + 1) := by
  rw [Nat.pow_succ]
  have : (r + 1) * 10 ≤ 10 ^ k * 10 := Nat.mul_le_mul_right _ h
  omega
theorem top10 (C e : Nat) : C / 10 ^ e = C / 10 ^ (e + 1) * 10 + dig 10 C e := by rw [top_split 10 C e, Nat.mul_comm]
theorem prodB {A C KA KC e O : Nat} (hA : A < 10 ^ KA) (hC : C < 10 ^ KC) (he : e ≤ KC) (hO : O ≤ (C / 10 ^ e) * A) : nd 10 O ≤ (KC - e) + KA := by
  refine nd_le (Nat.lt_of_le_of_lt hO (lt_pow_mul ?_ hA)) t2
  refine Nat.div_lt_of_lt_mul ?_
  rw [← Nat.pow_add, show e + (KC - e) = KC by omega]; exact hC
theorem prod_step {A C e k : Nat} (hk : k < dig 10 C e) : C / 10 ^ (e + 1) * A * 10 + k * A + A ≤ C / 10 ^ e * A := by
  have h1 : (k + 1) * A ≤ dig 10 C e * A := Nat.mul_le_mul_right _ hk
  rw [Nat.add_mul, Nat.one_mul] at h1
  have h2 : C / 10 ^ (e + 1) * 10 * A = C / 10 ^ (e + 1) * A * 10 := by simp only [Nat.mul_comm, Nat.mul_left_comm, Nat.mul_assoc]
  rw [top10 C e, Nat.add_mul, h2]
  omega
theorem Num10.val {F : Heap} {u : Value} {N : Nat} (h : Num10 F u (toZ (false, N))) : ∃ nb po pc, u = .agg ⟨[.bool nb, .slice po (nd 10 N) pc]⟩ ∧ SlC F (.slice po (nd 10 N) pc) (nd 10 N) (cel (nd 10 N) (dig 10 N)) := by
  obtain ⟨p, rfl, hp⟩ := h.at
  have hp0 := hp
  obtain ⟨po, pc, rfl, -, -⟩ := hp0
  exact ⟨_, po, pc, rfl, hp⟩
theorem SlC.pos {F : Heap} {po : Option Addr} {k pc : Nat} {cs : List Value} (h : SlC F (.slice po k pc) k cs) : k ≤ pc ∧ (0 < k → ∃ b off, po = some ⟨b, off, none⟩ ∧ Cels F b off cs) := by
  obtain ⟨ao, cap, e, h1, h2⟩ := h
  cases e
  exact ⟨h1, h2⟩
theorem prod_sign {x y : Int} {nb : Bool} (h : nb = (decide (x < 0) != decide (y < 0))) : toZ (nb, y.natAbs * x.natAbs) = x * y := by
  have hx := toZ_self x
  have hy := toZ_self y
  have := toZ_mul (decide (x < 0)) (decide (y < 0)) x.natAbs y.natAbs
  rw [hx, hy] at this
  rw [h, Nat.mul_comm, this]

set_option maxHeartbeats 4000000 in
theorem rproductCt (x y : Int) (v u : Value) (F : Heap) (hx : nd 10 x.natAbs ≤ 10000) (hy : nd 10 y.natAbs ≤ 10000) (hv : Num10 F v x) (hu : Num10 F u y) : Ct Tryd.prog 39 [v, u] F [] (fun F' _ r => Num10 F' r (x * y)) := by
  obtain ⟨p, rfl, hp⟩ := hv
  obtain ⟨q, rfl, hq⟩ := hu
  have hp0 := hp
  obtain ⟨ao, ca, rfl, -, -⟩ := hp0
  have hq0 := hq
  obtain ⟨co, cc, rfl, -, hqpos⟩ := hq0
  have hA := lt_nd t2 x.natAbs
  have hC := lt_nd t2 y.natAbs
  unfold D10 at hp hq
  have hprod := prod_sign (x := x) (y := y) rfl
  generalize hKA : nd 10 x.natAbs = KA at *
  generalize hKC : nd 10 y.natAbs = KC at *
  generalize hAe : x.natAbs = A at *
  generalize hCe : y.natAbs = C at *
  refine Ct.enter Tryd.func39 rfl Tryd.ntmps39 rfl fun w0 a S => ?_
  (refine wp_seq_k ?_; intro Kq1 hKq1)
  refine wp_region_lit ?_
  (refine wpl_box S rfl rfl rfl rfl rfl ?_; clear S a; intro b2 a w S)
  (refine wpl_box S rfl rfl rfl rfl rfl ?_; clear S a; intro b3 a w S)
  (refine wpl_alloc S rfl rfl rfl rfl ?_; clear S a; intro b4 a w S)
  refine wpList_nil ?_
  (refine hKq1 _ _ ?_; try (clear hKq1 Kq1))
  (refine wp_seq_k ?_; intro Kq2 hKq2)
  refine wp_region_lit ?_
  (refine wpl_v S rfl rfl rfl (sv_build S rfl rfl rfl) ?_; clear S a; intro a S)
  (refine wpl_alloc S rfl rfl rfl rfl ?_; clear S a; intro b5 a w S)
  (refine wpl_storeO S rfl rfl rfl rfl rfl (by rfl) (by simp [Value.cells, Value.oneCell', splice]) (by rfl) ?_; clear S; intro w S)
  refine wpList_nil ?_
  (refine hKq2 _ _ ?_; try (clear hKq2 Kq2))
  (refine wp_seq_k ?_; intro Kq3 hKq3)
  (refine wp_seq_k ?_; intro Kq4 hKq4)
  refine wp_region_lit ?_
  (refine wpl_v S rfl rfl rfl (sv_fieldAddr S rfl rfl rfl inferInstance rfl) ?_; clear S a; intro a S)
  first | (refine wpl_v S rfl rfl rfl (sv_loadO S rfl rfl (by rfl)) ?_; clear S a; intro a S) | (refine wpl_v S rfl rfl rfl (sv_loadF S rfl rfl (by assumption)) ?_; clear S a; intro a S)
  (refine wpl_v S rfl rfl rfl (sv_lenSl S rfl rfl) ?_; clear S a; intro a S)
  (refine wpl_v S rfl rfl rfl (sv_sub S rfl rfl rfl (by first | omega | (simp only [List.length_append, List.length_cons, List.length_nil]; omega))) ?_; clear S a; intro a S)
  (refine wpl_v S rfl rfl rfl (sv_pure S rfl) ?_; clear S a; intro a S)
  refine wpList_nil ?_
  (refine hKq4 _ _ ?_; try (clear hKq4 Kq4))
  refine wp_block ?_
  refine wpc_loop (fun m a w' => ∃ (e : Nat) (F2 : Heap) (K : Nat) (nb : Bool) (oo : Option Addr) (oc : Nat), m = e ∧ e ≤ KC ∧ (∀ b o, F b = some o → F2 b = some o) ∧ (C / 10 ^ e) * A < 10 ^ K ∧ K + e ≤ KA + KC + 1 ∧ SlC F2 (.slice oo K oc) K (cel K (dig 10 ((C / 10 ^ e) * A))) ∧ St 44 [(2, .pointer (some ⟨b2, 0, none⟩)), (3, .pointer (some ⟨b3, 0, none⟩)), (4, .pointer (some ⟨b4, 0, none⟩)), (5, .pointer (some ⟨b5, 0, none⟩)), (6, .int .i64 ((e : Int) - 1))] w0 F [] F2 [[(b5, .cells ⟨[.bool nb, .slice oo K oc]⟩ 38 (0, 0))], [(b4, .cells ⟨[.bool false, .slice none 0 0]⟩ 38 (0, 0))], [(b3, .cells ⟨[.bool (decide (y < 0)), .slice co KC cc]⟩ 38 (0, 0))], [(b2, .cells ⟨[.bool (decide (x < 0)), .slice ao KA ca]⟩ 38 (0, 0))]] a w') ?_ ?_
  · (refine ⟨KC, KC, F, 0, false, none, 0, rfl, Nat.le_refl _, (fun _ _ h => h), ?_, by omega, ?_, ?_⟩; (rw [Nat.div_eq_of_lt hC, Nat.zero_mul]; decide); (exact ⟨none, 0, rfl, Nat.le_refl _, fun h => absurd h (Nat.lt_irrefl _)⟩); refine S.keep ?_; repeat (first | exact trivial | refine ⟨rfl, ?_⟩))
  · (clear S; rintro m a w ⟨e, F2, K, nb, oo, oc, rfl, he, hF2, hlt, hKe, hsl, S⟩)
    (refine wp_seq_k ?_; intro Kq5 hKq5)
    (refine wp_seq_k ?_; intro Kq6 hKq6)
    refine wp_region_lit ?_
    (refine wpl_v S rfl rfl rfl (sv_pure S rfl) ?_; clear S a; intro a S)
    (refine wpl_v S rfl rfl rfl (sv_pure S rfl) ?_; clear S a; intro a S)
    refine wpList_nil ?_
    (refine hKq6 _ _ ?_; try (clear hKq6 Kq6))
    refine wpc_split S rfl (fun h => ?_) (fun h => ?_)
    · (skip; (try simp only [decide_eq_true_eq, decide_eq_false_iff_not, beq_iff_eq, bne_iff_ne, bne_eq_false_iff_eq, beq_eq_false_iff_ne, ne_eq, Bool.not_eq_true', Bool.not_eq_false', Bool.not_eq_true, Bool.not_eq_false, Bool.not_true, Bool.not_false, Int.ofNat_lt, Int.ofNat_le, Nat.not_lt, Nat.not_le] at h))
      refine wp_skip ?_
      (refine hKq5 _ _ ?_; try (clear hKq5 Kq5))
      (refine wp_seq_k ?_; intro Kq7 hKq7)
      refine wp_block ?_
      (refine wp_seq_k ?_; intro Kq8 hKq8)
      (obtain ⟨e, rfl⟩ : ∃ e, m = e + 1 := ⟨m - 1, by omega⟩; replace S := S.keep (L' := [(2, .pointer (some ⟨b2, 0, none⟩)), (3, .pointer (some ⟨b3, 0, none⟩)), (4, .pointer (some ⟨b4, 0, none⟩)), (5, .pointer (some ⟨b5, 0, none⟩)), (6, .int .i64 (e : Int))]) ⟨rfl, rfl, rfl, rfl, reg (by omega), trivial⟩; have hop := (SlC.pos hsl).2; have hoc := (SlC.pos hsl).1)
      refine wp_region_lit ?_
      (refine wpl_buildSlice S rfl rfl rfl rfl rfl rfl (by rfl) (by simp [Value.cells, splice, splice]) rfl (by rfl) (by rfl) ?_; clear S a; intro b17 a w hown S)
      (refine wpl_v S rfl rfl rfl (sv_fieldAddr S rfl rfl rfl inferInstance rfl) ?_; clear S a; intro a S)
      first | (refine wpl_v S rfl rfl rfl (sv_loadO S rfl rfl (by rfl)) ?_; clear S a; intro a S) | (refine wpl_v S rfl rfl rfl (sv_loadF S rfl rfl (by assumption)) ?_; clear S a; intro a S)
      (refine wpl_appendSl S rfl rfl rfl rfl rfl rfl hown (by rfl) (by rw [cel_len, Nat.mul_one]) hop cel_one (by omega) (by omega) ?_; clear hown S a; intro v g a w hown S)
      (refine wpl_v S rfl rfl rfl (sv_fieldAddr S rfl rfl rfl inferInstance rfl) ?_; clear S a; intro a S)
      (refine wpl_store1 S rfl rfl rfl rfl rfl hown.oneCell (by simp) ?_; clear S; intro w S)
      refine wpList_nil ?_
      (refine hKq8 _ _ ?_; try (clear hKq8 Kq8))
      (refine wp_seq_k ?_; intro Kq9 hKq9)
      (obtain ⟨vo, vc, rfl, -, -⟩ := hown.at; have hle := add_le (G1 := []) S; replace S := St.freeze (G1 := []) S; simp only [List.nil_append] at S; have hslg := hown.slC F2; rw [show (1 + K) = K + 1 from Nat.add_comm _ _] at hslg S; replace hslg : SlC (F2.add g) (.slice vo (K + 1) vc) (K + 1) (cel (K + 1) (dig 10 ((C / 10 ^ (e + 1)) * A * 10 + 0))) := (by rw [← cel10_push (by decide)]; exact hslg); have hF2g : ∀ b o, F b = some o → (F2.add g) b = some o := fun b o h => hle b o (hF2 b o h))
      refine wp_region_lit ?_
      (refine wpl_v S rfl rfl rfl (sv_pure S rfl) ?_; clear S a; intro a S)
      refine wpList_nil ?_
      (refine hKq9 _ _ ?_; try (clear hKq9 Kq9))
      refine wp_block ?_
      refine wpc_loop (fun m a w' => ∃ (k : Nat) (F3 : Heap) (K : Nat) (nb : Bool) (oo : Option Addr) (oc : Nat), m = dig 10 C e - k ∧ k ≤ dig 10 C e ∧ (∀ b o, F b = some o → F3 b = some o) ∧ (C / 10 ^ (e + 1)) * A * 10 + k * A < 10 ^ K ∧ K + e ≤ KA + KC + 1 ∧ SlC F3 (.slice oo K oc) K (cel K (dig 10 ((C / 10 ^ (e + 1)) * A * 10 + k * A))) ∧ St 44 [(2, .pointer (some ⟨b2, 0, none⟩)), (3, .pointer (some ⟨b3, 0, none⟩)), (4, .pointer (some ⟨b4, 0, none⟩)), (5, .pointer (some ⟨b5, 0, none⟩)), (6, .int .i64 (e : Int)), (7, .int .i64 (k : Int))] w0 F [] F3 [[(b5, .cells ⟨[.bool nb, .slice oo K oc]⟩ 38 (0, 0))], [(b4, .cells ⟨[.bool false, .slice none 0 0]⟩ 38 (0, 0))], [(b3, .cells ⟨[.bool (decide (y < 0)), .slice co KC cc]⟩ 38 (0, 0))], [(b2, .cells ⟨[.bool (decide (x < 0)), .slice ao KA ca]⟩ 38 (0, 0))]] a w') ?_ ?_
      · (refine ⟨dig 10 C e, 0, F2.add g, K + 1, nb, vo, vc, rfl, Nat.zero_le _, hF2g, ?_, ?_, ?_, ?_⟩; rotate_left 3; (focus (refine S.keep ?_; repeat (first | exact trivial | refine ⟨rfl, ?_⟩))); (rw [Nat.zero_mul]; exact push10_lt (by decide) hlt); omega; (rw [Nat.zero_mul]; exact hslg))
      · (clear S; rintro m a w ⟨k, F3, K3, nb3, o3, c3, rfl, hk, hF3, hlt3, hKe3, hsl3, S⟩; have hdC := dig_lt t2 C e; obtain ⟨bq, oq, rfl, hcq⟩ := hqpos (by omega); have hce := (celN hcq (j := e) (by omega)).mono hF3)
        (refine wp_seq_k ?_; intro Kq10 hKq10)
        (refine wp_seq_k ?_; intro Kq11 hKq11)
        refine wp_region_lit ?_
        (refine wpl_v S rfl rfl rfl (sv_pure S rfl) ?_; clear S a; intro a S)
        (refine wpl_v S rfl rfl rfl (sv_fieldAddr S rfl rfl rfl inferInstance rfl) ?_; clear S a; intro a S)
        first | (refine wpl_v S rfl rfl rfl (sv_loadO S rfl rfl (by rfl)) ?_; clear S a; intro a S) | (refine wpl_v S rfl rfl rfl (sv_loadF S rfl rfl (by assumption)) ?_; clear S a; intro a S)
        (refine wpl_v S rfl rfl rfl (sv_pure S rfl) ?_; clear S a; intro a S)
        (refine wpl_v S rfl rfl rfl (sv_indexAddrSl S rfl rfl rfl (by first | omega | (simp only [List.length_append, List.length_cons, List.length_nil]; omega))) ?_; clear S a; intro a S)
        first | (refine wpl_v S rfl rfl rfl (sv_loadO S rfl rfl (by rfl)) ?_; clear S a; intro a S) | (refine wpl_v S rfl rfl rfl (sv_loadF S rfl rfl (by assumption)) ?_; clear S a; intro a S)
        (refine wpl_v S rfl rfl rfl (sv_pure S rfl) ?_; clear S a; intro a S)
        refine wpList_nil ?_
        (refine hKq11 _ _ ?_; try (clear hKq11 Kq11))
        refine wpc_split S rfl (fun h => ?_) (fun h => ?_)
        · (skip; (try simp only [decide_eq_true_eq, decide_eq_false_iff_not, beq_iff_eq, bne_iff_ne, bne_eq_false_iff_eq, beq_eq_false_iff_ne, ne_eq, Bool.not_eq_true', Bool.not_eq_false', Bool.not_eq_true, Bool.not_eq_false, Bool.not_true, Bool.not_false, Int.ofNat_lt, Int.ofNat_le, Nat.not_lt, Nat.not_le] at h))
          refine wp_skip ?_
          (refine hKq10 _ _ ?_; try (clear hKq10 Kq10))
          (refine wp_seq_k ?_; intro Kq12 hKq12)
          refine wp_block ?_
          refine wp_region_lit ?_
          first | (refine wpl_v S rfl rfl rfl (sv_loadAO S rfl rfl (by rfl)) ?_; clear S a; intro a S) | (refine wpl_v S rfl rfl rfl (sv_loadAF S rfl rfl (by assumption) (by rfl)) ?_; clear S a; intro a S)
          (refine wpl_v S rfl rfl rfl (sv_fieldAddr S rfl rfl rfl inferInstance rfl) ?_; clear S a; intro a S)
          first | (refine wpl_v S rfl rfl rfl (sv_loadO S rfl rfl (by rfl)) ?_; clear S a; intro a S) | (refine wpl_v S rfl rfl rfl (sv_loadF S rfl rfl (by assumption)) ?_; clear S a; intro a S)
          (refine wpl_v S rfl rfl rfl (sv_build S rfl rfl rfl) ?_; clear S a; intro a S)
          (refine wpl_callF S rfl rfl rfl rfl rfl rfl (rplusCt nb3 false _ A K3 KA _ _ F3 hlt3 hA (by omega) (by omega) hsl3 (hp.mono hF3)) rfl ?_; clear S a; intro v F1 a w hv hF1 S; have hF31 : ∀ b o, F b = some o → F1 b = some o := fun b o h => hF1 b o (hF3 b o h); have hkk : C / 10 ^ (e + 1) * A * 10 + (k + 1) * A = C / 10 ^ (e + 1) * A * 10 + k * A + A := (by rw [Nat.add_mul, Nat.one_mul, Nat.add_assoc]); obtain ⟨pu, rfl, hpu⟩ := hv.at; have hpu0 := hpu; obtain ⟨uo, uc, rfl, -, -⟩ := hpu0)
          (refine wpl_storeO S rfl rfl rfl rfl rfl (by rfl) (by simp [Value.cells, Value.oneCell', splice]) (by rfl) ?_; clear S; intro w S)
          refine wpList_nil ?_
          (refine hKq12 _ _ ?_; try (clear hKq12 Kq12))
          refine wp_region_lit ?_
          (refine wpl_v S rfl rfl rfl (sv_pure S rfl) ?_; clear S a; intro a S)
          (refine wpl_v S rfl rfl rfl (sv_add S rfl rfl rfl (by first | omega | (simp only [List.length_append, List.length_cons, List.length_nil]; omega))) ?_; clear S a; intro a S)
          (refine wpl_v S rfl rfl rfl (sv_pure S rfl) ?_; clear S a; intro a S)
          refine wpList_nil ?_
          change ∃ m', _ ∧ _
          (obtain ⟨nb4, o4, c4, he4, hs4⟩ := hv.val; cases he4; refine ⟨dig 10 C e - (k + 1), by omega, k + 1, F1, nd 10 (C / 10 ^ (e + 1) * A * 10 + k * A + A), decide (toZ (false, C / 10 ^ (e + 1) * A * 10 + k * A + A) < 0), uo, uc, rfl, by omega, hF31, ?_, ?_, ?_, ?_⟩; rotate_left 3; (focus (refine S.keep ?_; repeat (first | exact trivial | refine ⟨rfl, ?_⟩))); (rw [hkk]; exact lt_nd t2 _); (have := prodB (e := e) hA hC (by omega) (O := C / 10 ^ (e + 1) * A * 10 + k * A + A) (prod_step (by omega)); omega); (rw [hkk]; exact hs4))
        · (skip; (try simp only [decide_eq_true_eq, decide_eq_false_iff_not, beq_iff_eq, bne_iff_ne, bne_eq_false_iff_eq, beq_eq_false_iff_ne, ne_eq, Bool.not_eq_true', Bool.not_eq_false', Bool.not_eq_true, Bool.not_eq_false, Bool.not_true, Bool.not_false, Int.ofNat_lt, Int.ofNat_le, Nat.not_lt, Nat.not_le] at h))
          refine wp_exit ?_
          (refine hKq7 _ _ ?_; try (clear hKq7 Kq7))
          (have hke : k = dig 10 C e := (by omega); have hO3 : C / 10 ^ (e + 1) * A * 10 + k * A = C / 10 ^ e * A := (by rw [hke, top10 C e, Nat.add_mul, show C / 10 ^ (e + 1) * 10 * A = C / 10 ^ (e + 1) * A * 10 by simp only [Nat.mul_comm, Nat.mul_left_comm, Nat.mul_assoc]]))
          refine wp_region_lit ?_
          (refine wpl_v S rfl rfl rfl (sv_pure S rfl) ?_; clear S a; intro a S)
          (refine wpl_v S rfl rfl rfl (sv_sub S rfl rfl rfl (by first | omega | (simp only [List.length_append, List.length_cons, List.length_nil]; omega))) ?_; clear S a; intro a S)
          (refine wpl_v S rfl rfl rfl (sv_pure S rfl) ?_; clear S a; intro a S)
          refine wpList_nil ?_
          change ∃ m', _ ∧ _
          (refine ⟨e, by omega, e, F3, K3, nb3, o3, c3, rfl, by omega, hF3, ?_, by omega, ?_, ?_⟩; (rw [← hO3]; exact hlt3); (rw [← hO3]; exact hsl3); refine S.keep ⟨rfl, rfl, rfl, rfl, reg (by omega), trivial⟩)
    · (skip; (try simp only [decide_eq_true_eq, decide_eq_false_iff_not, beq_iff_eq, bne_iff_ne, bne_eq_false_iff_eq, beq_eq_false_iff_ne, ne_eq, Bool.not_eq_true', Bool.not_eq_false', Bool.not_eq_true, Bool.not_eq_false, Bool.not_true, Bool.not_false, Int.ofNat_lt, Int.ofNat_le, Nat.not_lt, Nat.not_le] at h))
      refine wp_exit ?_
      (refine hKq3 _ _ ?_; try (clear hKq3 Kq3))
      (refine wp_seq_k ?_; intro Kq7 hKq7)
      (have hm0 : m = 0 := (by omega); subst hm0; have hltf := hlt; have hslf := hsl; rw [Nat.pow_zero, Nat.div_one] at hltf hslf)
      refine wp_region_lit ?_
      (refine wpl_v S rfl rfl rfl (sv_fieldAddr S rfl rfl rfl inferInstance rfl) ?_; clear S a; intro a S)
      first | (refine wpl_v S rfl rfl rfl (sv_loadO S rfl rfl (by rfl)) ?_; clear S a; intro a S) | (refine wpl_v S rfl rfl rfl (sv_loadF S rfl rfl (by assumption)) ?_; clear S a; intro a S)
      (refine wpl_v S rfl rfl rfl (sv_fieldAddr S rfl rfl rfl inferInstance rfl) ?_; clear S a; intro a S)
      first | (refine wpl_v S rfl rfl rfl (sv_loadO S rfl rfl (by rfl)) ?_; clear S a; intro a S) | (refine wpl_v S rfl rfl rfl (sv_loadF S rfl rfl (by assumption)) ?_; clear S a; intro a S)
      (refine wpl_v S rfl rfl rfl (sv_neB S rfl rfl rfl) ?_; clear S a; intro a S)
      (refine wpl_v S rfl rfl rfl (sv_fieldAddr S rfl rfl rfl inferInstance rfl) ?_; clear S a; intro a S)
      (refine wpl_store1 S rfl rfl rfl rfl rfl rfl (by first | (simp; done) | (simp [Value.cells]; done)) ?_; clear S; intro w S)
      refine wpList_nil ?_
      (refine hKq7 _ _ ?_; try (clear hKq7 Kq7))
      (refine wp_seq_k ?_; intro Kq8 hKq8)
      refine wp_region_lit ?_
      first | (refine wpl_v S rfl rfl rfl (sv_loadAO S rfl rfl (by rfl)) ?_; clear S a; intro a S) | (refine wpl_v S rfl rfl rfl (sv_loadAF S rfl rfl (by assumption) (by rfl)) ?_; clear S a; intro a S)
      (refine wpl_callF S rfl rfl rfl rfl rfl rfl (tidyCt _ (C * A) K _ F2 hltf (by omega) hslf) rfl ?_; clear S a; intro u2 F5 a w hu hF5 S; have hu0 := hu; obtain ⟨p2, rfl, hp2⟩ := hu0; have hp20 := hp2; obtain ⟨u2o, u2c, rfl, -, -⟩ := hp20)
      (refine wpl_storeO S rfl rfl rfl rfl rfl (by rfl) (by simp [Value.cells, Value.oneCell', splice]) (by rfl) ?_; clear S; intro w S)
      refine wpList_nil ?_
      (refine hKq8 _ _ ?_; try (clear hKq8 Kq8))
      refine wp_ret ?_
      refine fin_ret S (results1 Tryd.results39 (RV.cellO S rfl (by rfl))) ?_
      (rw [← hprod]; exact hu)
end Go.Proofs.YtmmpbpfdnpgklaaDoor
