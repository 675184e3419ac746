/- The walks of Int and Whole of the document's answer, and of Of of package big; BigChecks. -/
import Derived.Test.YtmmpbpfdnpgklaaDoorInt
import Derived.Test.YtmmpbpfdnpgklaaDoorLaws
namespace Go.Proofs.YtmmpbpfdnpgklaaDoor
open Go Go.Wk Go.Num
set_option linter.unusedSimpArgs false
set_option linter.unusedVariables false
attribute [local irreducible] Go.wpList Go.Code.wp Go.wpStill Go.Wk.wpPre Go.bodyPost Go.Calls Go.Wk.Ct Go.Wk.OwnS
attribute [local irreducible] Go.Wk.wpG Go.Wk.wpM

def lowS : List UInt8 := [45, 57, 50, 50, 51, 51, 55, 50, 48, 51, 54, 56, 53, 52, 55, 55, 53, 56, 48, 56]
def highS : List UInt8 := [57, 50, 50, 51, 51, 55, 50, 48, 51, 54, 56, 53, 52, 55, 55, 53, 56, 48, 55]
theorem low_ok : checkS lowS = 0 ∧ valS lowS = -9223372036854775808 := by decide +kernel
theorem high_ok : checkS highS = 0 ∧ valS highS = 9223372036854775807 := by decide +kernel
theorem cmpI_pos {A C : Nat} : 0 < cmpI A C ↔ C < A := by
  unfold cmpI; split
  · constructor <;> intro h <;> omega
  · split
    · constructor <;> intro h <;> omega
    · constructor <;> intro h <;> omega
theorem fits_neg {x : Int} (h : x < 0) : fitsI x = true ↔ x.natAbs ≤ 9223372036854775808 := by unfold fitsI; simp; omega
theorem fits_pos {x : Int} (h : ¬ x < 0) : fitsI x = true ↔ x.natAbs ≤ 9223372036854775807 := by unfold fitsI; simp; omega
theorem top_div {N e : Nat} : N / 10 ^ e = 10 * (N / 10 ^ (e + 1)) + dig 10 N e := by rw [top10 N e, Nat.mul_comm]
theorem div_le_self' (N e : Nat) : N / 10 ^ e ≤ N := Nat.div_le_self _ _

set_option maxHeartbeats 4000000 in
theorem rintNF (s : List UInt8) (F : Heap) (hs : s.length ≤ 1000000) (hck : checkS s = 0) (x : Int) (hx : valS s = x) (hsg : x < 0) (hN : x.natAbs ≤ 9223372036854775808) : Ct Tryd.prog 15 [.string (bs s)] F [] (fun _ _ u => u = cmpV (x, 0)) := by
  have hn := check_nd10 hck
  have hlo := check_nd10 low_ok.1
  have hhi := check_nd10 high_ok.1
  have hof := rofCt s F hck
  have hlv : (valS lowS).natAbs = 9223372036854775808 := by rw [low_ok.2]; rfl
  have hhv : (valS highS).natAbs = 9223372036854775807 := by rw [high_ok.2]; rfl
  have hdb : decide (x < 0) = true := by simpa using hsg
  rw [hx] at hof hn
  clear hx
  refine Ct.enter Tryd.func15 rfl Tryd.ntmps15 rfl fun w0 a S => ?_
  (refine wp_seq_k ?_; intro Kq1 hKq1)
  refine wp_region_lit ?_
  (refine wpl_v S rfl rfl rfl (sv_pure S rfl) ?_; clear S a; intro a S)
  (refine wpl_v S rfl rfl rfl (sv_pure S rfl) ?_; clear S a; intro a S)
  refine wpList_nil ?_
  (refine hKq1 _ _ ?_; try (clear hKq1 Kq1))
  (refine wp_seq_k ?_; intro Kq2 hKq2)
  refine wp_region_lit ?_
  (refine wpl_v S rfl rfl rfl (sv_pure S rfl) ?_; clear S a; intro a S)
  (refine wpl_call0 S rfl rfl rfl rfl rfl rfl (rcheckCt s F (by omega)) rfl ?_; clear S a; intro v a w hv S; subst hv)
  (refine wpl_v S rfl rfl rfl (sv_pure S rfl) ?_; clear S a; intro a S)
  refine wpList_nil ?_
  (refine hKq2 _ _ ?_; try (clear hKq2 Kq2))
  (refine wp_seq_k ?_; intro Kq3 hKq3)
  (refine wp_seq_k ?_; intro Kq4 hKq4)
  refine wp_region_lit ?_
  (refine wpl_v S rfl rfl rfl (sv_pure S rfl) ?_; clear S a; intro a S)
  (refine wpl_v S rfl rfl rfl (sv_pure S rfl) ?_; clear S a; intro a S)
  refine wpList_nil ?_
  (refine hKq4 _ _ ?_; try (clear hKq4 Kq4))
  refine wpc_split S rfl (fun h => ?_) (fun h => ?_)
  · (skip; (try simp only [decide_eq_true_eq, decide_eq_false_iff_not, beq_iff_eq, bne_iff_ne, bne_eq_false_iff_eq, beq_eq_false_iff_ne, ne_eq, Bool.not_eq_true', Bool.not_eq_false', Bool.not_eq_true, Bool.not_eq_false, Bool.not_true, Bool.not_false, Int.ofNat_lt, Int.ofNat_le, Nat.not_lt, Nat.not_le] at h); exact absurd hck h)
  · (skip; (try simp only [decide_eq_true_eq, decide_eq_false_iff_not, beq_iff_eq, bne_iff_ne, bne_eq_false_iff_eq, beq_eq_false_iff_ne, ne_eq, Bool.not_eq_true', Bool.not_eq_false', Bool.not_eq_true, Bool.not_eq_false, Bool.not_true, Bool.not_false, Int.ofNat_lt, Int.ofNat_le, Nat.not_lt, Nat.not_le] at h))
    refine wp_skip ?_
    (refine hKq3 _ _ ?_; try (clear hKq3 Kq3))
    (refine wp_seq_k ?_; intro Kq5 hKq5)
    refine wp_region_lit ?_
    (refine wpl_v S rfl rfl rfl (sv_pure S rfl) ?_; clear S a; intro a S)
    (first | (refine wpl_callF S rfl rfl rfl rfl rfl rfl (hof) rfl ?_; clear S a; intro v1 F1 a w hv1 hF1 S; have hv10 := hv1; obtain ⟨p1, rfl, hp1⟩ := hv10; rw [hdb] at S; have hp10 := hp1; obtain ⟨xo, xc, rfl, hxc, hxp⟩ := hp10) | (refine wpl_callF S rfl rfl rfl rfl rfl rfl (rofCt lowS F1 low_ok.1) rfl ?_; clear S a; intro v2 F2 a w hv2 hF2 S; have hv20 := hv2; obtain ⟨p2, rfl, hp2⟩ := hv20; have hp20 := hp2; obtain ⟨lo, lc, rfl, -, -⟩ := hp20; generalize hlb : decide (valS lowS < 0) = lb at *) | (refine wpl_callF S rfl rfl rfl rfl rfl rfl (rofCt highS F2 high_ok.1) rfl ?_; clear S a; intro v3 F3 a w hv3 hF3 S; have hv30 := hv3; obtain ⟨p3, rfl, hp3⟩ := hv30; have hp30 := hp3; obtain ⟨ho, hc, rfl, -, -⟩ := hp30; generalize hhb : decide (valS highS < 0) = hb at *; have hF13 : ∀ b o, F1 b = some o → F3 b = some o := fun b o h => hF3 _ _ (hF2 _ _ h)))
    (refine wpl_alloc S rfl rfl rfl rfl ?_; clear S a; intro b5 a w S)
    (refine wpl_storeO S rfl rfl rfl rfl rfl (by rfl) (by simp [Value.cells, Value.oneCell', splice]) (by rfl) ?_; clear S; intro w S)
    refine wpList_nil ?_
    (refine hKq5 _ _ ?_; try (clear hKq5 Kq5))
    (refine wp_seq_k ?_; intro Kq6 hKq6)
    refine wp_region_lit ?_
    (first | (refine wpl_callF S rfl rfl rfl rfl rfl rfl (hof) rfl ?_; clear S a; intro v1 F1 a w hv1 hF1 S; have hv10 := hv1; obtain ⟨p1, rfl, hp1⟩ := hv10; rw [hdb] at S; have hp10 := hp1; obtain ⟨xo, xc, rfl, hxc, hxp⟩ := hp10) | (refine wpl_callF S rfl rfl rfl rfl rfl rfl (rofCt lowS F1 low_ok.1) rfl ?_; clear S a; intro v2 F2 a w hv2 hF2 S; have hv20 := hv2; obtain ⟨p2, rfl, hp2⟩ := hv20; have hp20 := hp2; obtain ⟨lo, lc, rfl, -, -⟩ := hp20; generalize hlb : decide (valS lowS < 0) = lb at *) | (refine wpl_callF S rfl rfl rfl rfl rfl rfl (rofCt highS F2 high_ok.1) rfl ?_; clear S a; intro v3 F3 a w hv3 hF3 S; have hv30 := hv3; obtain ⟨p3, rfl, hp3⟩ := hv30; have hp30 := hp3; obtain ⟨ho, hc, rfl, -, -⟩ := hp30; generalize hhb : decide (valS highS < 0) = hb at *; have hF13 : ∀ b o, F1 b = some o → F3 b = some o := fun b o h => hF3 _ _ (hF2 _ _ h)))
    (refine wpl_alloc S rfl rfl rfl rfl ?_; clear S a; intro b6 a w S)
    (refine wpl_storeO S rfl rfl rfl rfl rfl (by rfl) (by simp [Value.cells, Value.oneCell', splice]) (by rfl) ?_; clear S; intro w S)
    refine wpList_nil ?_
    (refine hKq6 _ _ ?_; try (clear hKq6 Kq6))
    (refine wp_seq_k ?_; intro Kq7 hKq7)
    refine wp_region_lit ?_
    (first | (refine wpl_callF S rfl rfl rfl rfl rfl rfl (hof) rfl ?_; clear S a; intro v1 F1 a w hv1 hF1 S; have hv10 := hv1; obtain ⟨p1, rfl, hp1⟩ := hv10; rw [hdb] at S; have hp10 := hp1; obtain ⟨xo, xc, rfl, hxc, hxp⟩ := hp10) | (refine wpl_callF S rfl rfl rfl rfl rfl rfl (rofCt lowS F1 low_ok.1) rfl ?_; clear S a; intro v2 F2 a w hv2 hF2 S; have hv20 := hv2; obtain ⟨p2, rfl, hp2⟩ := hv20; have hp20 := hp2; obtain ⟨lo, lc, rfl, -, -⟩ := hp20; generalize hlb : decide (valS lowS < 0) = lb at *) | (refine wpl_callF S rfl rfl rfl rfl rfl rfl (rofCt highS F2 high_ok.1) rfl ?_; clear S a; intro v3 F3 a w hv3 hF3 S; have hv30 := hv3; obtain ⟨p3, rfl, hp3⟩ := hv30; have hp30 := hp3; obtain ⟨ho, hc, rfl, -, -⟩ := hp30; generalize hhb : decide (valS highS < 0) = hb at *; have hF13 : ∀ b o, F1 b = some o → F3 b = some o := fun b o h => hF3 _ _ (hF2 _ _ h)))
    (refine wpl_alloc S rfl rfl rfl rfl ?_; clear S a; intro b7 a w S)
    (refine wpl_storeO S rfl rfl rfl rfl rfl (by rfl) (by simp [Value.cells, Value.oneCell', splice]) (by rfl) ?_; clear S; intro w S)
    refine wpList_nil ?_
    (refine hKq7 _ _ ?_; try (clear hKq7 Kq7))
    (refine wp_seq_k ?_; intro Kq8 hKq8)
    (refine wp_seq_k ?_; intro Kq9 hKq9)
    refine wp_region_lit ?_
    (refine wpl_v S rfl rfl rfl (sv_fieldAddr S rfl rfl rfl inferInstance rfl) ?_; clear S a; intro a S)
    first | (refine wpl_v S rfl rfl rfl (sv_loadO S rfl rfl (by rfl)) ?_; clear S a; intro a S) | (refine wpl_v S rfl rfl rfl (sv_loadF S rfl rfl (by assumption)) ?_; clear S a; intro a S)
    skip
    (refine wpl_v S rfl rfl rfl (sv_pure S rfl) ?_; clear S a; intro a S)
    refine wpl_take S rfl rfl rfl ?_
    first | (refine wpl_v S rfl rfl rfl (sv_loadAO S rfl rfl (by rfl)) ?_; clear S a; intro a S) | (refine wpl_v S rfl rfl rfl (sv_loadAF S rfl rfl (by assumption) (by rfl)) ?_; clear S a; intro a S)
    refine wpl_take S rfl rfl rfl ?_
    first | (refine wpl_v S rfl rfl rfl (sv_loadAO S rfl rfl (by rfl)) ?_; clear S a; intro a S) | (refine wpl_v S rfl rfl rfl (sv_loadAF S rfl rfl (by assumption) (by rfl)) ?_; clear S a; intro a S)
    refine wpl_take S rfl rfl rfl ?_
    (first | (refine wpl_call0 S rfl rfl rfl rfl rfl rfl (sizeCt _ _ x.natAbs (valS lowS).natAbs _ _ _ _ F3 (lt_nd t2 _) (lt_nd t2 _) (by omega) (by omega) (hp1.mono hF13) (hp2.mono hF3)) rfl ?_; clear S a; intro v a w hv S; subst hv) | (refine wpl_call0 S rfl rfl rfl rfl rfl rfl (sizeCt _ _ x.natAbs (valS highS).natAbs _ _ _ _ F3 (lt_nd t2 _) (lt_nd t2 _) (by omega) (by omega) (hp1.mono hF13) hp3) rfl ?_; clear S a; intro v a w hv S; subst hv))
    refine wpl_take S rfl rfl rfl ?_
    (refine wpl_v S rfl rfl rfl (sv_lit (c := false) (sv_pure S rfl) (by exact decide_eq_false (fun h9 => by have := cmpI_pos.1 h9; rw [hlv] at this; omega))) ?_; clear S a; intro a S)
    first | (refine wpl_v S rfl rfl rfl (sv_pure S rfl) ?_; clear S a; intro a S) | (refine wpl_v S rfl rfl rfl (sv_pickB S rfl rfl rfl rfl) ?_; clear S a; intro a S)
    (refine wpl_v S rfl rfl rfl (sv_pure S rfl) ?_; clear S a; intro a S)
    refine wpl_take S rfl rfl rfl ?_
    (refine wpl_v S rfl rfl rfl (sv_fieldAddr S rfl rfl rfl inferInstance rfl) ?_; clear S a; intro a S)
    refine wpl_take S rfl rfl rfl ?_
    first | (refine wpl_v S rfl rfl rfl (sv_loadO S rfl rfl (by rfl)) ?_; clear S a; intro a S) | (refine wpl_v S rfl rfl rfl (sv_loadF S rfl rfl (by assumption)) ?_; clear S a; intro a S)
    skip
    refine wpl_take S rfl rfl rfl ?_
    (refine wpl_v S rfl rfl rfl (sv_pure S rfl) ?_; clear S a; intro a S)
    refine wpl_take S rfl rfl rfl ?_
    (refine wpl_v S rfl rfl rfl (sv_pure S rfl) ?_; clear S a; intro a S)
    (refine wpl_skip S rfl rfl rfl rfl rfl ?_; clear S a; intro a S)
    (refine wpl_skip S rfl rfl rfl rfl rfl ?_; clear S a; intro a S)
    (refine wpl_skip S rfl rfl rfl rfl rfl ?_; clear S a; intro a S)
    (refine wpl_skip S rfl rfl rfl rfl rfl ?_; clear S a; intro a S)
    refine wpl_take S rfl rfl rfl ?_
    first | (refine wpl_v S rfl rfl rfl (sv_pure S rfl) ?_; clear S a; intro a S) | (refine wpl_v S rfl rfl rfl (sv_pickB S rfl rfl rfl rfl) ?_; clear S a; intro a S)
    first | (refine wpl_v S rfl rfl rfl (sv_pure S rfl) ?_; clear S a; intro a S) | (refine wpl_v S rfl rfl rfl (sv_pickB S rfl rfl rfl rfl) ?_; clear S a; intro a S)
    refine wpList_nil ?_
    (refine hKq9 _ _ ?_; try (clear hKq9 Kq9))
    refine wpc_false S rfl ?_
    refine wp_skip ?_
    (refine hKq8 _ _ ?_; try (clear hKq8 Kq8))
    (refine wp_seq_k ?_; intro Kq10 hKq10)
    refine wp_region_lit ?_
    (refine wpl_v S rfl rfl rfl (sv_pure S rfl) ?_; clear S a; intro a S)
    refine wpList_nil ?_
    (refine hKq10 _ _ ?_; try (clear hKq10 Kq10))
    (refine wp_seq_k ?_; intro Kq11 hKq11)
    (refine wp_seq_k ?_; intro Kq12 hKq12)
    refine wp_region_lit ?_
    (refine wpl_v S rfl rfl rfl (sv_fieldAddr S rfl rfl rfl inferInstance rfl) ?_; clear S a; intro a S)
    first | (refine wpl_v S rfl rfl rfl (sv_loadO S rfl rfl (by rfl)) ?_; clear S a; intro a S) | (refine wpl_v S rfl rfl rfl (sv_loadF S rfl rfl (by assumption)) ?_; clear S a; intro a S)
    (refine wpl_v S rfl rfl rfl (sv_lenSl S rfl rfl) ?_; clear S a; intro a S)
    (refine wpl_v S rfl rfl rfl (sv_sub S rfl rfl rfl (by first | omega | (simp only [List.length_append, List.length_cons, List.length_nil]; omega))) ?_; clear S a; intro a S)
    (refine wpl_v S rfl rfl rfl (sv_pure S rfl) ?_; clear S a; intro a S)
    refine wpList_nil ?_
    (refine hKq12 _ _ ?_; try (clear hKq12 Kq12))
    refine wp_block ?_
    refine wpc_loop (fun m a w' => ∃ (e : Nat), m = e ∧ e ≤ nd 10 x.natAbs ∧ St 65 [(5, .pointer (some ⟨b5, 0, none⟩)), (8, .int .i64 (-((x.natAbs / 10 ^ e : Nat) : Int))), (9, .int .i64 ((e : Int) - 1))] w0 F [] F3 [[(b7, .cells ⟨[.bool hb, .slice ho (nd 10 (valS highS).natAbs) hc]⟩ 38 (0, 0))], [(b6, .cells ⟨[.bool lb, .slice lo (nd 10 (valS lowS).natAbs) lc]⟩ 38 (0, 0))], [(b5, .cells ⟨[.bool true, .slice xo (nd 10 x.natAbs) xc]⟩ 38 (0, 0))]] a w') ?_ ?_
    · (refine ⟨_, nd 10 x.natAbs, rfl, Nat.le_refl _, ?_⟩; rw [Nat.div_eq_of_lt (lt_nd t2 _)]; refine S.keep ⟨rfl, rfl, rfl, trivial⟩)
    · (clear S; rintro m a w ⟨e, rfl, he, S⟩)
      (refine wp_seq_k ?_; intro Kq13 hKq13)
      (refine wp_seq_k ?_; intro Kq14 hKq14)
      refine wp_region_lit ?_
      (refine wpl_v S rfl rfl rfl (sv_pure S rfl) ?_; clear S a; intro a S)
      (refine wpl_v S rfl rfl rfl (sv_pure S rfl) ?_; clear S a; intro a S)
      refine wpList_nil ?_
      (refine hKq14 _ _ ?_; try (clear hKq14 Kq14))
      refine wpc_split S rfl (fun h => ?_) (fun h => ?_)
      · (skip; (try simp only [decide_eq_true_eq, decide_eq_false_iff_not, beq_iff_eq, bne_iff_ne, bne_eq_false_iff_eq, beq_eq_false_iff_ne, ne_eq, Bool.not_eq_true', Bool.not_eq_false', Bool.not_eq_true, Bool.not_eq_false, Bool.not_true, Bool.not_false, Int.ofNat_lt, Int.ofNat_le, Nat.not_lt, Nat.not_le] at h))
        refine wp_skip ?_
        (refine hKq13 _ _ ?_; try (clear hKq13 Kq13))
        (refine wp_seq_k ?_; intro Kq15 hKq15)
        refine wp_block ?_
        (refine wp_seq_k ?_; intro Kq16 hKq16)
        (obtain ⟨k, rfl⟩ : ∃ k, m = k + 1 := ⟨m - 1, by omega⟩; have htd := top_div (N := x.natAbs) (e := k); have hdl := dig_lt t2 x.natAbs k; have hle := div_le_self' x.natAbs k; generalize x.natAbs / 10 ^ (k + 1) = q at *; obtain ⟨bx, ox, rfl, hcx⟩ := hxp (by omega); have hce := (celN hcx (j := k) (by omega)).mono hF13; replace S := S.keep (L' := [(5, .pointer (some ⟨b5, 0, none⟩)), (8, .int .i64 (-(q : Int))), (9, .int .i64 (k : Int))]) ⟨rfl, rfl, reg (by omega), trivial⟩)
        refine wp_region_lit ?_
        (refine wpl_v S rfl rfl rfl (sv_fieldAddr S rfl rfl rfl inferInstance rfl) ?_; clear S a; intro a S)
        first | (refine wpl_v S rfl rfl rfl (sv_loadO S rfl rfl (by rfl)) ?_; clear S a; intro a S) | (refine wpl_v S rfl rfl rfl (sv_loadF S rfl rfl (by assumption)) ?_; clear S a; intro a S)
        skip
        refine wpList_nil ?_
        (refine hKq16 _ _ ?_; try (clear hKq16 Kq16))
        refine wpc_true S rfl ?_
        refine wp_region_lit ?_
        (refine wpl_v S rfl rfl rfl (sv_pure S rfl) ?_; clear S a; intro a S)
        (refine wpl_v S rfl rfl rfl (sv_mul S rfl rfl rfl (by first | omega | (simp only [List.length_append, List.length_cons, List.length_nil]; omega))) ?_; clear S a; intro a S)
        (refine wpl_v S rfl rfl rfl (sv_fieldAddr S rfl rfl rfl inferInstance rfl) ?_; clear S a; intro a S)
        first | (refine wpl_v S rfl rfl rfl (sv_loadO S rfl rfl (by rfl)) ?_; clear S a; intro a S) | (refine wpl_v S rfl rfl rfl (sv_loadF S rfl rfl (by assumption)) ?_; clear S a; intro a S)
        (refine wpl_v S rfl rfl rfl (sv_pure S rfl) ?_; clear S a; intro a S)
        (refine wpl_v S rfl rfl rfl (sv_indexAddrSl S rfl rfl rfl (by first | omega | (simp only [List.length_append, List.length_cons, List.length_nil]; omega))) ?_; clear S a; intro a S)
        first | (refine wpl_v S rfl rfl rfl (sv_loadO S rfl rfl (by rfl)) ?_; clear S a; intro a S) | (refine wpl_v S rfl rfl rfl (sv_loadF S rfl rfl (by assumption)) ?_; clear S a; intro a S)
        (refine wpl_v S rfl rfl rfl (sv_sub S rfl rfl rfl (by first | omega | (simp only [List.length_append, List.length_cons, List.length_nil]; omega))) ?_; clear S a; intro a S)
        (refine wpl_v S rfl rfl rfl (sv_pure S rfl) ?_; clear S a; intro a S)
        refine wpList_nil ?_
        (refine hKq15 _ _ ?_; try (clear hKq15 Kq15))
        refine wp_region_lit ?_
        (refine wpl_v S rfl rfl rfl (sv_pure S rfl) ?_; clear S a; intro a S)
        (refine wpl_v S rfl rfl rfl (sv_sub S rfl rfl rfl (by first | omega | (simp only [List.length_append, List.length_cons, List.length_nil]; omega))) ?_; clear S a; intro a S)
        (refine wpl_v S rfl rfl rfl (sv_pure S rfl) ?_; clear S a; intro a S)
        refine wpList_nil ?_
        change ∃ m', _ ∧ _
        (refine ⟨k, by omega, k, rfl, by omega, ?_⟩; refine S.keep ⟨rfl, reg (by rw [htd]; omega), reg (by omega), trivial⟩)
      · (skip; (try simp only [decide_eq_true_eq, decide_eq_false_iff_not, beq_iff_eq, bne_iff_ne, bne_eq_false_iff_eq, beq_eq_false_iff_ne, ne_eq, Bool.not_eq_true', Bool.not_eq_false', Bool.not_eq_true, Bool.not_eq_false, Bool.not_true, Bool.not_false, Int.ofNat_lt, Int.ofNat_le, Nat.not_lt, Nat.not_le] at h))
        refine wp_exit ?_
        (refine hKq11 _ _ ?_; try (clear hKq11 Kq11))
        (refine wp_seq_k ?_; intro Kq15 hKq15)
        refine wp_region_lit ?_
        (refine wpl_v S rfl rfl rfl (sv_pure S rfl) ?_; clear S a; intro a S)
        (refine wpl_v S rfl rfl rfl (sv_pure S rfl) ?_; clear S a; intro a S)
        (refine wpl_v S rfl rfl rfl (sv_pure S rfl) ?_; clear S a; intro a S)
        refine wpList_nil ?_
        (refine hKq15 _ _ ?_; try (clear hKq15 Kq15))
        refine wp_ret ?_
        refine fin_ret S (results2 Tryd.results15 (RV.tmp S rfl) (RV.tmp S rfl)) ?_
        (have e0 : m = 0 := (by omega); subst e0; refine congrArg (fun z => cmpV (z, 0)) ?_; rw [Nat.pow_zero, Nat.div_one]; omega)
set_option maxHeartbeats 4000000 in
theorem rintNR (s : List UInt8) (F : Heap) (hs : s.length ≤ 1000000) (hck : checkS s = 0) (x : Int) (hx : valS s = x) (hsg : x < 0) (hN : 9223372036854775808 < x.natAbs) : Ct Tryd.prog 15 [.string (bs s)] F [] (fun _ _ u => u = cmpV (0, 80)) := by
  have hn := check_nd10 hck
  have hlo := check_nd10 low_ok.1
  have hhi := check_nd10 high_ok.1
  have hof := rofCt s F hck
  have hlv : (valS lowS).natAbs = 9223372036854775808 := by rw [low_ok.2]; rfl
  have hhv : (valS highS).natAbs = 9223372036854775807 := by rw [high_ok.2]; rfl
  have hdb : decide (x < 0) = true := by simpa using hsg
  rw [hx] at hof hn
  clear hx
  refine Ct.enter Tryd.func15 rfl Tryd.ntmps15 rfl fun w0 a S => ?_
  (refine wp_seq_k ?_; intro Kq1 hKq1)
  refine wp_region_lit ?_
  (refine wpl_v S rfl rfl rfl (sv_pure S rfl) ?_; clear S a; intro a S)
  (refine wpl_v S rfl rfl rfl (sv_pure S rfl) ?_; clear S a; intro a S)
  refine wpList_nil ?_
  (refine hKq1 _ _ ?_; try (clear hKq1 Kq1))
  (refine wp_seq_k ?_; intro Kq2 hKq2)
  refine wp_region_lit ?_
  (refine wpl_v S rfl rfl rfl (sv_pure S rfl) ?_; clear S a; intro a S)
  (refine wpl_call0 S rfl rfl rfl rfl rfl rfl (rcheckCt s F (by omega)) rfl ?_; clear S a; intro v a w hv S; subst hv)
  (refine wpl_v S rfl rfl rfl (sv_pure S rfl) ?_; clear S a; intro a S)
  refine wpList_nil ?_
  (refine hKq2 _ _ ?_; try (clear hKq2 Kq2))
  (refine wp_seq_k ?_; intro Kq3 hKq3)
  (refine wp_seq_k ?_; intro Kq4 hKq4)
  refine wp_region_lit ?_
  (refine wpl_v S rfl rfl rfl (sv_pure S rfl) ?_; clear S a; intro a S)
  (refine wpl_v S rfl rfl rfl (sv_pure S rfl) ?_; clear S a; intro a S)
  refine wpList_nil ?_
  (refine hKq4 _ _ ?_; try (clear hKq4 Kq4))
  refine wpc_split S rfl (fun h => ?_) (fun h => ?_)
  · (skip; (try simp only [decide_eq_true_eq, decide_eq_false_iff_not, beq_iff_eq, bne_iff_ne, bne_eq_false_iff_eq, beq_eq_false_iff_ne, ne_eq, Bool.not_eq_true', Bool.not_eq_false', Bool.not_eq_true, Bool.not_eq_false, Bool.not_true, Bool.not_false, Int.ofNat_lt, Int.ofNat_le, Nat.not_lt, Nat.not_le] at h); exact absurd hck h)
  · (skip; (try simp only [decide_eq_true_eq, decide_eq_false_iff_not, beq_iff_eq, bne_iff_ne, bne_eq_false_iff_eq, beq_eq_false_iff_ne, ne_eq, Bool.not_eq_true', Bool.not_eq_false', Bool.not_eq_true, Bool.not_eq_false, Bool.not_true, Bool.not_false, Int.ofNat_lt, Int.ofNat_le, Nat.not_lt, Nat.not_le] at h))
    refine wp_skip ?_
    (refine hKq3 _ _ ?_; try (clear hKq3 Kq3))
    (refine wp_seq_k ?_; intro Kq5 hKq5)
    refine wp_region_lit ?_
    (refine wpl_v S rfl rfl rfl (sv_pure S rfl) ?_; clear S a; intro a S)
    (first | (refine wpl_callF S rfl rfl rfl rfl rfl rfl (hof) rfl ?_; clear S a; intro v1 F1 a w hv1 hF1 S; have hv10 := hv1; obtain ⟨p1, rfl, hp1⟩ := hv10; rw [hdb] at S; have hp10 := hp1; obtain ⟨xo, xc, rfl, hxc, hxp⟩ := hp10) | (refine wpl_callF S rfl rfl rfl rfl rfl rfl (rofCt lowS F1 low_ok.1) rfl ?_; clear S a; intro v2 F2 a w hv2 hF2 S; have hv20 := hv2; obtain ⟨p2, rfl, hp2⟩ := hv20; have hp20 := hp2; obtain ⟨lo, lc, rfl, -, -⟩ := hp20; generalize hlb : decide (valS lowS < 0) = lb at *) | (refine wpl_callF S rfl rfl rfl rfl rfl rfl (rofCt highS F2 high_ok.1) rfl ?_; clear S a; intro v3 F3 a w hv3 hF3 S; have hv30 := hv3; obtain ⟨p3, rfl, hp3⟩ := hv30; have hp30 := hp3; obtain ⟨ho, hc, rfl, -, -⟩ := hp30; generalize hhb : decide (valS highS < 0) = hb at *; have hF13 : ∀ b o, F1 b = some o → F3 b = some o := fun b o h => hF3 _ _ (hF2 _ _ h)))
    (refine wpl_alloc S rfl rfl rfl rfl ?_; clear S a; intro b5 a w S)
    (refine wpl_storeO S rfl rfl rfl rfl rfl (by rfl) (by simp [Value.cells, Value.oneCell', splice]) (by rfl) ?_; clear S; intro w S)
    refine wpList_nil ?_
    (refine hKq5 _ _ ?_; try (clear hKq5 Kq5))
    (refine wp_seq_k ?_; intro Kq6 hKq6)
    refine wp_region_lit ?_
    (first | (refine wpl_callF S rfl rfl rfl rfl rfl rfl (hof) rfl ?_; clear S a; intro v1 F1 a w hv1 hF1 S; have hv10 := hv1; obtain ⟨p1, rfl, hp1⟩ := hv10; rw [hdb] at S; have hp10 := hp1; obtain ⟨xo, xc, rfl, hxc, hxp⟩ := hp10) | (refine wpl_callF S rfl rfl rfl rfl rfl rfl (rofCt lowS F1 low_ok.1) rfl ?_; clear S a; intro v2 F2 a w hv2 hF2 S; have hv20 := hv2; obtain ⟨p2, rfl, hp2⟩ := hv20; have hp20 := hp2; obtain ⟨lo, lc, rfl, -, -⟩ := hp20; generalize hlb : decide (valS lowS < 0) = lb at *) | (refine wpl_callF S rfl rfl rfl rfl rfl rfl (rofCt highS F2 high_ok.1) rfl ?_; clear S a; intro v3 F3 a w hv3 hF3 S; have hv30 := hv3; obtain ⟨p3, rfl, hp3⟩ := hv30; have hp30 := hp3; obtain ⟨ho, hc, rfl, -, -⟩ := hp30; generalize hhb : decide (valS highS < 0) = hb at *; have hF13 : ∀ b o, F1 b = some o → F3 b = some o := fun b o h => hF3 _ _ (hF2 _ _ h)))
    (refine wpl_alloc S rfl rfl rfl rfl ?_; clear S a; intro b6 a w S)
    (refine wpl_storeO S rfl rfl rfl rfl rfl (by rfl) (by simp [Value.cells, Value.oneCell', splice]) (by rfl) ?_; clear S; intro w S)
    refine wpList_nil ?_
    (refine hKq6 _ _ ?_; try (clear hKq6 Kq6))
    (refine wp_seq_k ?_; intro Kq7 hKq7)
    refine wp_region_lit ?_
    (first | (refine wpl_callF S rfl rfl rfl rfl rfl rfl (hof) rfl ?_; clear S a; intro v1 F1 a w hv1 hF1 S; have hv10 := hv1; obtain ⟨p1, rfl, hp1⟩ := hv10; rw [hdb] at S; have hp10 := hp1; obtain ⟨xo, xc, rfl, hxc, hxp⟩ := hp10) | (refine wpl_callF S rfl rfl rfl rfl rfl rfl (rofCt lowS F1 low_ok.1) rfl ?_; clear S a; intro v2 F2 a w hv2 hF2 S; have hv20 := hv2; obtain ⟨p2, rfl, hp2⟩ := hv20; have hp20 := hp2; obtain ⟨lo, lc, rfl, -, -⟩ := hp20; generalize hlb : decide (valS lowS < 0) = lb at *) | (refine wpl_callF S rfl rfl rfl rfl rfl rfl (rofCt highS F2 high_ok.1) rfl ?_; clear S a; intro v3 F3 a w hv3 hF3 S; have hv30 := hv3; obtain ⟨p3, rfl, hp3⟩ := hv30; have hp30 := hp3; obtain ⟨ho, hc, rfl, -, -⟩ := hp30; generalize hhb : decide (valS highS < 0) = hb at *; have hF13 : ∀ b o, F1 b = some o → F3 b = some o := fun b o h => hF3 _ _ (hF2 _ _ h)))
    (refine wpl_alloc S rfl rfl rfl rfl ?_; clear S a; intro b7 a w S)
    (refine wpl_storeO S rfl rfl rfl rfl rfl (by rfl) (by simp [Value.cells, Value.oneCell', splice]) (by rfl) ?_; clear S; intro w S)
    refine wpList_nil ?_
    (refine hKq7 _ _ ?_; try (clear hKq7 Kq7))
    (refine wp_seq_k ?_; intro Kq8 hKq8)
    (refine wp_seq_k ?_; intro Kq9 hKq9)
    refine wp_region_lit ?_
    (refine wpl_v S rfl rfl rfl (sv_fieldAddr S rfl rfl rfl inferInstance rfl) ?_; clear S a; intro a S)
    first | (refine wpl_v S rfl rfl rfl (sv_loadO S rfl rfl (by rfl)) ?_; clear S a; intro a S) | (refine wpl_v S rfl rfl rfl (sv_loadF S rfl rfl (by assumption)) ?_; clear S a; intro a S)
    skip
    (refine wpl_v S rfl rfl rfl (sv_pure S rfl) ?_; clear S a; intro a S)
    refine wpl_take S rfl rfl rfl ?_
    first | (refine wpl_v S rfl rfl rfl (sv_loadAO S rfl rfl (by rfl)) ?_; clear S a; intro a S) | (refine wpl_v S rfl rfl rfl (sv_loadAF S rfl rfl (by assumption) (by rfl)) ?_; clear S a; intro a S)
    refine wpl_take S rfl rfl rfl ?_
    first | (refine wpl_v S rfl rfl rfl (sv_loadAO S rfl rfl (by rfl)) ?_; clear S a; intro a S) | (refine wpl_v S rfl rfl rfl (sv_loadAF S rfl rfl (by assumption) (by rfl)) ?_; clear S a; intro a S)
    refine wpl_take S rfl rfl rfl ?_
    (first | (refine wpl_call0 S rfl rfl rfl rfl rfl rfl (sizeCt _ _ x.natAbs (valS lowS).natAbs _ _ _ _ F3 (lt_nd t2 _) (lt_nd t2 _) (by omega) (by omega) (hp1.mono hF13) (hp2.mono hF3)) rfl ?_; clear S a; intro v a w hv S; subst hv) | (refine wpl_call0 S rfl rfl rfl rfl rfl rfl (sizeCt _ _ x.natAbs (valS highS).natAbs _ _ _ _ F3 (lt_nd t2 _) (lt_nd t2 _) (by omega) (by omega) (hp1.mono hF13) hp3) rfl ?_; clear S a; intro v a w hv S; subst hv))
    refine wpl_take S rfl rfl rfl ?_
    (refine wpl_v S rfl rfl rfl (sv_lit (c := true) (sv_pure S rfl) (by exact decide_eq_true (cmpI_pos.2 (by rw [hlv]; omega)))) ?_; clear S a; intro a S)
    first | (refine wpl_v S rfl rfl rfl (sv_pure S rfl) ?_; clear S a; intro a S) | (refine wpl_v S rfl rfl rfl (sv_pickB S rfl rfl rfl rfl) ?_; clear S a; intro a S)
    (refine wpl_v S rfl rfl rfl (sv_pure S rfl) ?_; clear S a; intro a S)
    (refine wpl_skip S rfl rfl rfl rfl rfl ?_; clear S a; intro a S)
    (refine wpl_skip S rfl rfl rfl rfl rfl ?_; clear S a; intro a S)
    (refine wpl_skip S rfl rfl rfl rfl rfl ?_; clear S a; intro a S)
    (refine wpl_skip S rfl rfl rfl rfl rfl ?_; clear S a; intro a S)
    (refine wpl_skipU S rfl rfl rfl rfl rfl ?_; clear S a; intro a S)
    (refine wpl_skipU S rfl rfl rfl rfl rfl ?_; clear S a; intro a S)
    (refine wpl_skipU S rfl rfl rfl rfl rfl ?_; clear S a; intro a S)
    (refine wpl_skipU S rfl rfl rfl rfl rfl ?_; clear S a; intro a S)
    (refine wpl_skip S rfl rfl rfl rfl rfl ?_; clear S a; intro a S)
    first | (refine wpl_v S rfl rfl rfl (sv_pure S rfl) ?_; clear S a; intro a S) | (refine wpl_v S rfl rfl rfl (sv_pickB S rfl rfl rfl rfl) ?_; clear S a; intro a S)
    refine wpList_nil ?_
    (refine hKq9 _ _ ?_; try (clear hKq9 Kq9))
    refine wpc_true S rfl ?_
    (refine wp_seq_k ?_; intro Kq10 hKq10)
    refine wp_region_lit ?_
    (refine wpl_v S rfl rfl rfl (sv_pure S rfl) ?_; clear S a; intro a S)
    (refine wpl_v S rfl rfl rfl (sv_pure S rfl) ?_; clear S a; intro a S)
    refine wpList_nil ?_
    (refine hKq10 _ _ ?_; try (clear hKq10 Kq10))
    refine wp_ret ?_
    refine fin_ret S (results2 Tryd.results15 (RV.tmp S rfl) (RV.tmp S rfl)) ?_
    rfl
set_option maxHeartbeats 4000000 in
theorem rintPF (s : List UInt8) (F : Heap) (hs : s.length ≤ 1000000) (hck : checkS s = 0) (x : Int) (hx : valS s = x) (hsg : ¬ x < 0) (hN : x.natAbs ≤ 9223372036854775807) : Ct Tryd.prog 15 [.string (bs s)] F [] (fun _ _ u => u = cmpV (x, 0)) := by
  have hn := check_nd10 hck
  have hlo := check_nd10 low_ok.1
  have hhi := check_nd10 high_ok.1
  have hof := rofCt s F hck
  have hlv : (valS lowS).natAbs = 9223372036854775808 := by rw [low_ok.2]; rfl
  have hhv : (valS highS).natAbs = 9223372036854775807 := by rw [high_ok.2]; rfl
  have hdb : decide (x < 0) = false := by simpa using hsg
  rw [hx] at hof hn
  clear hx
  refine Ct.enter Tryd.func15 rfl Tryd.ntmps15 rfl fun w0 a S => ?_
  (refine wp_seq_k ?_; intro Kq1 hKq1)
  refine wp_region_lit ?_
  (refine wpl_v S rfl rfl rfl (sv_pure S rfl) ?_; clear S a; intro a S)
  (refine wpl_v S rfl rfl rfl (sv_pure S rfl) ?_; clear S a; intro a S)
  refine wpList_nil ?_
  (refine hKq1 _ _ ?_; try (clear hKq1 Kq1))
  (refine wp_seq_k ?_; intro Kq2 hKq2)
  refine wp_region_lit ?_
  (refine wpl_v S rfl rfl rfl (sv_pure S rfl) ?_; clear S a; intro a S)
  (refine wpl_call0 S rfl rfl rfl rfl rfl rfl (rcheckCt s F (by omega)) rfl ?_; clear S a; intro v a w hv S; subst hv)
  (refine wpl_v S rfl rfl rfl (sv_pure S rfl) ?_; clear S a; intro a S)
  refine wpList_nil ?_
  (refine hKq2 _ _ ?_; try (clear hKq2 Kq2))
  (refine wp_seq_k ?_; intro Kq3 hKq3)
  (refine wp_seq_k ?_; intro Kq4 hKq4)
  refine wp_region_lit ?_
  (refine wpl_v S rfl rfl rfl (sv_pure S rfl) ?_; clear S a; intro a S)
  (refine wpl_v S rfl rfl rfl (sv_pure S rfl) ?_; clear S a; intro a S)
  refine wpList_nil ?_
  (refine hKq4 _ _ ?_; try (clear hKq4 Kq4))
  refine wpc_split S rfl (fun h => ?_) (fun h => ?_)
  · (skip; (try simp only [decide_eq_true_eq, decide_eq_false_iff_not, beq_iff_eq, bne_iff_ne, bne_eq_false_iff_eq, beq_eq_false_iff_ne, ne_eq, Bool.not_eq_true', Bool.not_eq_false', Bool.not_eq_true, Bool.not_eq_false, Bool.not_true, Bool.not_false, Int.ofNat_lt, Int.ofNat_le, Nat.not_lt, Nat.not_le] at h); exact absurd hck h)
  · (skip; (try simp only [decide_eq_true_eq, decide_eq_false_iff_not, beq_iff_eq, bne_iff_ne, bne_eq_false_iff_eq, beq_eq_false_iff_ne, ne_eq, Bool.not_eq_true', Bool.not_eq_false', Bool.not_eq_true, Bool.not_eq_false, Bool.not_true, Bool.not_false, Int.ofNat_lt, Int.ofNat_le, Nat.not_lt, Nat.not_le] at h))
    refine wp_skip ?_
    (refine hKq3 _ _ ?_; try (clear hKq3 Kq3))
    (refine wp_seq_k ?_; intro Kq5 hKq5)
    refine wp_region_lit ?_
    (refine wpl_v S rfl rfl rfl (sv_pure S rfl) ?_; clear S a; intro a S)
    (first | (refine wpl_callF S rfl rfl rfl rfl rfl rfl (hof) rfl ?_; clear S a; intro v1 F1 a w hv1 hF1 S; have hv10 := hv1; obtain ⟨p1, rfl, hp1⟩ := hv10; rw [hdb] at S; have hp10 := hp1; obtain ⟨xo, xc, rfl, hxc, hxp⟩ := hp10) | (refine wpl_callF S rfl rfl rfl rfl rfl rfl (rofCt lowS F1 low_ok.1) rfl ?_; clear S a; intro v2 F2 a w hv2 hF2 S; have hv20 := hv2; obtain ⟨p2, rfl, hp2⟩ := hv20; have hp20 := hp2; obtain ⟨lo, lc, rfl, -, -⟩ := hp20; generalize hlb : decide (valS lowS < 0) = lb at *) | (refine wpl_callF S rfl rfl rfl rfl rfl rfl (rofCt highS F2 high_ok.1) rfl ?_; clear S a; intro v3 F3 a w hv3 hF3 S; have hv30 := hv3; obtain ⟨p3, rfl, hp3⟩ := hv30; have hp30 := hp3; obtain ⟨ho, hc, rfl, -, -⟩ := hp30; generalize hhb : decide (valS highS < 0) = hb at *; have hF13 : ∀ b o, F1 b = some o → F3 b = some o := fun b o h => hF3 _ _ (hF2 _ _ h)))
    (refine wpl_alloc S rfl rfl rfl rfl ?_; clear S a; intro b5 a w S)
    (refine wpl_storeO S rfl rfl rfl rfl rfl (by rfl) (by simp [Value.cells, Value.oneCell', splice]) (by rfl) ?_; clear S; intro w S)
    refine wpList_nil ?_
    (refine hKq5 _ _ ?_; try (clear hKq5 Kq5))
    (refine wp_seq_k ?_; intro Kq6 hKq6)
    refine wp_region_lit ?_
    (first | (refine wpl_callF S rfl rfl rfl rfl rfl rfl (hof) rfl ?_; clear S a; intro v1 F1 a w hv1 hF1 S; have hv10 := hv1; obtain ⟨p1, rfl, hp1⟩ := hv10; rw [hdb] at S; have hp10 := hp1; obtain ⟨xo, xc, rfl, hxc, hxp⟩ := hp10) | (refine wpl_callF S rfl rfl rfl rfl rfl rfl (rofCt lowS F1 low_ok.1) rfl ?_; clear S a; intro v2 F2 a w hv2 hF2 S; have hv20 := hv2; obtain ⟨p2, rfl, hp2⟩ := hv20; have hp20 := hp2; obtain ⟨lo, lc, rfl, -, -⟩ := hp20; generalize hlb : decide (valS lowS < 0) = lb at *) | (refine wpl_callF S rfl rfl rfl rfl rfl rfl (rofCt highS F2 high_ok.1) rfl ?_; clear S a; intro v3 F3 a w hv3 hF3 S; have hv30 := hv3; obtain ⟨p3, rfl, hp3⟩ := hv30; have hp30 := hp3; obtain ⟨ho, hc, rfl, -, -⟩ := hp30; generalize hhb : decide (valS highS < 0) = hb at *; have hF13 : ∀ b o, F1 b = some o → F3 b = some o := fun b o h => hF3 _ _ (hF2 _ _ h)))
    (refine wpl_alloc S rfl rfl rfl rfl ?_; clear S a; intro b6 a w S)
    (refine wpl_storeO S rfl rfl rfl rfl rfl (by rfl) (by simp [Value.cells, Value.oneCell', splice]) (by rfl) ?_; clear S; intro w S)
    refine wpList_nil ?_
    (refine hKq6 _ _ ?_; try (clear hKq6 Kq6))
    (refine wp_seq_k ?_; intro Kq7 hKq7)
    refine wp_region_lit ?_
    (first | (refine wpl_callF S rfl rfl rfl rfl rfl rfl (hof) rfl ?_; clear S a; intro v1 F1 a w hv1 hF1 S; have hv10 := hv1; obtain ⟨p1, rfl, hp1⟩ := hv10; rw [hdb] at S; have hp10 := hp1; obtain ⟨xo, xc, rfl, hxc, hxp⟩ := hp10) | (refine wpl_callF S rfl rfl rfl rfl rfl rfl (rofCt lowS F1 low_ok.1) rfl ?_; clear S a; intro v2 F2 a w hv2 hF2 S; have hv20 := hv2; obtain ⟨p2, rfl, hp2⟩ := hv20; have hp20 := hp2; obtain ⟨lo, lc, rfl, -, -⟩ := hp20; generalize hlb : decide (valS lowS < 0) = lb at *) | (refine wpl_callF S rfl rfl rfl rfl rfl rfl (rofCt highS F2 high_ok.1) rfl ?_; clear S a; intro v3 F3 a w hv3 hF3 S; have hv30 := hv3; obtain ⟨p3, rfl, hp3⟩ := hv30; have hp30 := hp3; obtain ⟨ho, hc, rfl, -, -⟩ := hp30; generalize hhb : decide (valS highS < 0) = hb at *; have hF13 : ∀ b o, F1 b = some o → F3 b = some o := fun b o h => hF3 _ _ (hF2 _ _ h)))
    (refine wpl_alloc S rfl rfl rfl rfl ?_; clear S a; intro b7 a w S)
    (refine wpl_storeO S rfl rfl rfl rfl rfl (by rfl) (by simp [Value.cells, Value.oneCell', splice]) (by rfl) ?_; clear S; intro w S)
    refine wpList_nil ?_
    (refine hKq7 _ _ ?_; try (clear hKq7 Kq7))
    (refine wp_seq_k ?_; intro Kq8 hKq8)
    (refine wp_seq_k ?_; intro Kq9 hKq9)
    refine wp_region_lit ?_
    (refine wpl_v S rfl rfl rfl (sv_fieldAddr S rfl rfl rfl inferInstance rfl) ?_; clear S a; intro a S)
    first | (refine wpl_v S rfl rfl rfl (sv_loadO S rfl rfl (by rfl)) ?_; clear S a; intro a S) | (refine wpl_v S rfl rfl rfl (sv_loadF S rfl rfl (by assumption)) ?_; clear S a; intro a S)
    skip
    (refine wpl_v S rfl rfl rfl (sv_pure S rfl) ?_; clear S a; intro a S)
    (refine wpl_skip S rfl rfl rfl rfl rfl ?_; clear S a; intro a S)
    (refine wpl_skip S rfl rfl rfl rfl rfl ?_; clear S a; intro a S)
    (refine wpl_skip S rfl rfl rfl rfl rfl ?_; clear S a; intro a S)
    (refine wpl_skip S rfl rfl rfl rfl rfl ?_; clear S a; intro a S)
    first | (refine wpl_v S rfl rfl rfl (sv_pure S rfl) ?_; clear S a; intro a S) | (refine wpl_v S rfl rfl rfl (sv_pickB S rfl rfl rfl rfl) ?_; clear S a; intro a S)
    (refine wpl_v S rfl rfl rfl (sv_pure S rfl) ?_; clear S a; intro a S)
    refine wpl_take S rfl rfl rfl ?_
    (refine wpl_v S rfl rfl rfl (sv_fieldAddr S rfl rfl rfl inferInstance rfl) ?_; clear S a; intro a S)
    refine wpl_take S rfl rfl rfl ?_
    first | (refine wpl_v S rfl rfl rfl (sv_loadO S rfl rfl (by rfl)) ?_; clear S a; intro a S) | (refine wpl_v S rfl rfl rfl (sv_loadF S rfl rfl (by assumption)) ?_; clear S a; intro a S)
    skip
    refine wpl_take S rfl rfl rfl ?_
    (refine wpl_v S rfl rfl rfl (sv_pure S rfl) ?_; clear S a; intro a S)
    refine wpl_take S rfl rfl rfl ?_
    (refine wpl_v S rfl rfl rfl (sv_pure S rfl) ?_; clear S a; intro a S)
    refine wpl_take S rfl rfl rfl ?_
    first | (refine wpl_v S rfl rfl rfl (sv_loadAO S rfl rfl (by rfl)) ?_; clear S a; intro a S) | (refine wpl_v S rfl rfl rfl (sv_loadAF S rfl rfl (by assumption) (by rfl)) ?_; clear S a; intro a S)
    refine wpl_take S rfl rfl rfl ?_
    first | (refine wpl_v S rfl rfl rfl (sv_loadAO S rfl rfl (by rfl)) ?_; clear S a; intro a S) | (refine wpl_v S rfl rfl rfl (sv_loadAF S rfl rfl (by assumption) (by rfl)) ?_; clear S a; intro a S)
    refine wpl_take S rfl rfl rfl ?_
    (first | (refine wpl_call0 S rfl rfl rfl rfl rfl rfl (sizeCt _ _ x.natAbs (valS lowS).natAbs _ _ _ _ F3 (lt_nd t2 _) (lt_nd t2 _) (by omega) (by omega) (hp1.mono hF13) (hp2.mono hF3)) rfl ?_; clear S a; intro v a w hv S; subst hv) | (refine wpl_call0 S rfl rfl rfl rfl rfl rfl (sizeCt _ _ x.natAbs (valS highS).natAbs _ _ _ _ F3 (lt_nd t2 _) (lt_nd t2 _) (by omega) (by omega) (hp1.mono hF13) hp3) rfl ?_; clear S a; intro v a w hv S; subst hv))
    refine wpl_take S rfl rfl rfl ?_
    (refine wpl_v S rfl rfl rfl (sv_lit (c := false) (sv_pure S rfl) (by exact decide_eq_false (fun h9 => by have := cmpI_pos.1 h9; rw [hhv] at this; omega))) ?_; clear S a; intro a S)
    refine wpl_take S rfl rfl rfl ?_
    first | (refine wpl_v S rfl rfl rfl (sv_pure S rfl) ?_; clear S a; intro a S) | (refine wpl_v S rfl rfl rfl (sv_pickB S rfl rfl rfl rfl) ?_; clear S a; intro a S)
    first | (refine wpl_v S rfl rfl rfl (sv_pure S rfl) ?_; clear S a; intro a S) | (refine wpl_v S rfl rfl rfl (sv_pickB S rfl rfl rfl rfl) ?_; clear S a; intro a S)
    refine wpList_nil ?_
    (refine hKq9 _ _ ?_; try (clear hKq9 Kq9))
    refine wpc_false S rfl ?_
    refine wp_skip ?_
    (refine hKq8 _ _ ?_; try (clear hKq8 Kq8))
    (refine wp_seq_k ?_; intro Kq10 hKq10)
    refine wp_region_lit ?_
    (refine wpl_v S rfl rfl rfl (sv_pure S rfl) ?_; clear S a; intro a S)
    refine wpList_nil ?_
    (refine hKq10 _ _ ?_; try (clear hKq10 Kq10))
    (refine wp_seq_k ?_; intro Kq11 hKq11)
    (refine wp_seq_k ?_; intro Kq12 hKq12)
    refine wp_region_lit ?_
    (refine wpl_v S rfl rfl rfl (sv_fieldAddr S rfl rfl rfl inferInstance rfl) ?_; clear S a; intro a S)
    first | (refine wpl_v S rfl rfl rfl (sv_loadO S rfl rfl (by rfl)) ?_; clear S a; intro a S) | (refine wpl_v S rfl rfl rfl (sv_loadF S rfl rfl (by assumption)) ?_; clear S a; intro a S)
    (refine wpl_v S rfl rfl rfl (sv_lenSl S rfl rfl) ?_; clear S a; intro a S)
    (refine wpl_v S rfl rfl rfl (sv_sub S rfl rfl rfl (by first | omega | (simp only [List.length_append, List.length_cons, List.length_nil]; omega))) ?_; clear S a; intro a S)
    (refine wpl_v S rfl rfl rfl (sv_pure S rfl) ?_; clear S a; intro a S)
    refine wpList_nil ?_
    (refine hKq12 _ _ ?_; try (clear hKq12 Kq12))
    refine wp_block ?_
    refine wpc_loop (fun m a w' => ∃ (e : Nat), m = e ∧ e ≤ nd 10 x.natAbs ∧ St 65 [(5, .pointer (some ⟨b5, 0, none⟩)), (8, .int .i64 (((x.natAbs / 10 ^ e : Nat) : Int))), (9, .int .i64 ((e : Int) - 1))] w0 F [] F3 [[(b7, .cells ⟨[.bool hb, .slice ho (nd 10 (valS highS).natAbs) hc]⟩ 38 (0, 0))], [(b6, .cells ⟨[.bool lb, .slice lo (nd 10 (valS lowS).natAbs) lc]⟩ 38 (0, 0))], [(b5, .cells ⟨[.bool false, .slice xo (nd 10 x.natAbs) xc]⟩ 38 (0, 0))]] a w') ?_ ?_
    · (refine ⟨_, nd 10 x.natAbs, rfl, Nat.le_refl _, ?_⟩; rw [Nat.div_eq_of_lt (lt_nd t2 _)]; refine S.keep ⟨rfl, rfl, rfl, trivial⟩)
    · (clear S; rintro m a w ⟨e, rfl, he, S⟩)
      (refine wp_seq_k ?_; intro Kq13 hKq13)
      (refine wp_seq_k ?_; intro Kq14 hKq14)
      refine wp_region_lit ?_
      (refine wpl_v S rfl rfl rfl (sv_pure S rfl) ?_; clear S a; intro a S)
      (refine wpl_v S rfl rfl rfl (sv_pure S rfl) ?_; clear S a; intro a S)
      refine wpList_nil ?_
      (refine hKq14 _ _ ?_; try (clear hKq14 Kq14))
      refine wpc_split S rfl (fun h => ?_) (fun h => ?_)
      · (skip; (try simp only [decide_eq_true_eq, decide_eq_false_iff_not, beq_iff_eq, bne_iff_ne, bne_eq_false_iff_eq, beq_eq_false_iff_ne, ne_eq, Bool.not_eq_true', Bool.not_eq_false', Bool.not_eq_true, Bool.not_eq_false, Bool.not_true, Bool.not_false, Int.ofNat_lt, Int.ofNat_le, Nat.not_lt, Nat.not_le] at h))
        refine wp_skip ?_
        (refine hKq13 _ _ ?_; try (clear hKq13 Kq13))
        (refine wp_seq_k ?_; intro Kq15 hKq15)
        refine wp_block ?_
        (refine wp_seq_k ?_; intro Kq16 hKq16)
        (obtain ⟨k, rfl⟩ : ∃ k, m = k + 1 := ⟨m - 1, by omega⟩; have htd := top_div (N := x.natAbs) (e := k); have hdl := dig_lt t2 x.natAbs k; have hle := div_le_self' x.natAbs k; generalize x.natAbs / 10 ^ (k + 1) = q at *; obtain ⟨bx, ox, rfl, hcx⟩ := hxp (by omega); have hce := (celN hcx (j := k) (by omega)).mono hF13; replace S := S.keep (L' := [(5, .pointer (some ⟨b5, 0, none⟩)), (8, .int .i64 ((q : Int))), (9, .int .i64 (k : Int))]) ⟨rfl, rfl, reg (by omega), trivial⟩)
        refine wp_region_lit ?_
        (refine wpl_v S rfl rfl rfl (sv_fieldAddr S rfl rfl rfl inferInstance rfl) ?_; clear S a; intro a S)
        first | (refine wpl_v S rfl rfl rfl (sv_loadO S rfl rfl (by rfl)) ?_; clear S a; intro a S) | (refine wpl_v S rfl rfl rfl (sv_loadF S rfl rfl (by assumption)) ?_; clear S a; intro a S)
        skip
        refine wpList_nil ?_
        (refine hKq16 _ _ ?_; try (clear hKq16 Kq16))
        refine wpc_false S rfl ?_
        refine wp_region_lit ?_
        (refine wpl_v S rfl rfl rfl (sv_pure S rfl) ?_; clear S a; intro a S)
        (refine wpl_v S rfl rfl rfl (sv_mul S rfl rfl rfl (by first | omega | (simp only [List.length_append, List.length_cons, List.length_nil]; omega))) ?_; clear S a; intro a S)
        (refine wpl_v S rfl rfl rfl (sv_fieldAddr S rfl rfl rfl inferInstance rfl) ?_; clear S a; intro a S)
        first | (refine wpl_v S rfl rfl rfl (sv_loadO S rfl rfl (by rfl)) ?_; clear S a; intro a S) | (refine wpl_v S rfl rfl rfl (sv_loadF S rfl rfl (by assumption)) ?_; clear S a; intro a S)
        (refine wpl_v S rfl rfl rfl (sv_pure S rfl) ?_; clear S a; intro a S)
        (refine wpl_v S rfl rfl rfl (sv_indexAddrSl S rfl rfl rfl (by first | omega | (simp only [List.length_append, List.length_cons, List.length_nil]; omega))) ?_; clear S a; intro a S)
        first | (refine wpl_v S rfl rfl rfl (sv_loadO S rfl rfl (by rfl)) ?_; clear S a; intro a S) | (refine wpl_v S rfl rfl rfl (sv_loadF S rfl rfl (by assumption)) ?_; clear S a; intro a S)
        (refine wpl_v S rfl rfl rfl (sv_add S rfl rfl rfl (by first | omega | (simp only [List.length_append, List.length_cons, List.length_nil]; omega))) ?_; clear S a; intro a S)
        (refine wpl_v S rfl rfl rfl (sv_pure S rfl) ?_; clear S a; intro a S)
        refine wpList_nil ?_
        (refine hKq15 _ _ ?_; try (clear hKq15 Kq15))
        refine wp_region_lit ?_
        (refine wpl_v S rfl rfl rfl (sv_pure S rfl) ?_; clear S a; intro a S)
        (refine wpl_v S rfl rfl rfl (sv_sub S rfl rfl rfl (by first | omega | (simp only [List.length_append, List.length_cons, List.length_nil]; omega))) ?_; clear S a; intro a S)
        (refine wpl_v S rfl rfl rfl (sv_pure S rfl) ?_; clear S a; intro a S)
        refine wpList_nil ?_
        change ∃ m', _ ∧ _
        (refine ⟨k, by omega, k, rfl, by omega, ?_⟩; refine S.keep ⟨rfl, reg (by rw [htd]; omega), reg (by omega), trivial⟩)
      · (skip; (try simp only [decide_eq_true_eq, decide_eq_false_iff_not, beq_iff_eq, bne_iff_ne, bne_eq_false_iff_eq, beq_eq_false_iff_ne, ne_eq, Bool.not_eq_true', Bool.not_eq_false', Bool.not_eq_true, Bool.not_eq_false, Bool.not_true, Bool.not_false, Int.ofNat_lt, Int.ofNat_le, Nat.not_lt, Nat.not_le] at h))
        refine wp_exit ?_
        (refine hKq11 _ _ ?_; try (clear hKq11 Kq11))
        (refine wp_seq_k ?_; intro Kq15 hKq15)
        refine wp_region_lit ?_
        (refine wpl_v S rfl rfl rfl (sv_pure S rfl) ?_; clear S a; intro a S)
        (refine wpl_v S rfl rfl rfl (sv_pure S rfl) ?_; clear S a; intro a S)
        (refine wpl_v S rfl rfl rfl (sv_pure S rfl) ?_; clear S a; intro a S)
        refine wpList_nil ?_
        (refine hKq15 _ _ ?_; try (clear hKq15 Kq15))
        refine wp_ret ?_
        refine fin_ret S (results2 Tryd.results15 (RV.tmp S rfl) (RV.tmp S rfl)) ?_
        (have e0 : m = 0 := (by omega); subst e0; refine congrArg (fun z => cmpV (z, 0)) ?_; rw [Nat.pow_zero, Nat.div_one]; exact Int.natAbs_of_nonneg (by omega))
set_option maxHeartbeats 4000000 in
theorem rintPR (s : List UInt8) (F : Heap) (hs : s.length ≤ 1000000) (hck : checkS s = 0) (x : Int) (hx : valS s = x) (hsg : ¬ x < 0) (hN : 9223372036854775807 < x.natAbs) : Ct Tryd.prog 15 [.string (bs s)] F [] (fun _ _ u => u = cmpV (0, 80)) := by
  have hn := check_nd10 hck
  have hlo := check_nd10 low_ok.1
  have hhi := check_nd10 high_ok.1
  have hof := rofCt s F hck
  have hlv : (valS lowS).natAbs = 9223372036854775808 := by rw [low_ok.2]; rfl
  have hhv : (valS highS).natAbs = 9223372036854775807 := by rw [high_ok.2]; rfl
  have hdb : decide (x < 0) = false := by simpa using hsg
  rw [hx] at hof hn
  clear hx
  refine Ct.enter Tryd.func15 rfl Tryd.ntmps15 rfl fun w0 a S => ?_
  (refine wp_seq_k ?_; intro Kq1 hKq1)
  refine wp_region_lit ?_
  (refine wpl_v S rfl rfl rfl (sv_pure S rfl) ?_; clear S a; intro a S)
  (refine wpl_v S rfl rfl rfl (sv_pure S rfl) ?_; clear S a; intro a S)
  refine wpList_nil ?_
  (refine hKq1 _ _ ?_; try (clear hKq1 Kq1))
  (refine wp_seq_k ?_; intro Kq2 hKq2)
  refine wp_region_lit ?_
  (refine wpl_v S rfl rfl rfl (sv_pure S rfl) ?_; clear S a; intro a S)
  (refine wpl_call0 S rfl rfl rfl rfl rfl rfl (rcheckCt s F (by omega)) rfl ?_; clear S a; intro v a w hv S; subst hv)
  (refine wpl_v S rfl rfl rfl (sv_pure S rfl) ?_; clear S a; intro a S)
  refine wpList_nil ?_
  (refine hKq2 _ _ ?_; try (clear hKq2 Kq2))
  (refine wp_seq_k ?_; intro Kq3 hKq3)
  (refine wp_seq_k ?_; intro Kq4 hKq4)
  refine wp_region_lit ?_
  (refine wpl_v S rfl rfl rfl (sv_pure S rfl) ?_; clear S a; intro a S)
  (refine wpl_v S rfl rfl rfl (sv_pure S rfl) ?_; clear S a; intro a S)
  refine wpList_nil ?_
  (refine hKq4 _ _ ?_; try (clear hKq4 Kq4))
  refine wpc_split S rfl (fun h => ?_) (fun h => ?_)
  · (skip; (try simp only [decide_eq_true_eq, decide_eq_false_iff_not, beq_iff_eq, bne_iff_ne, bne_eq_false_iff_eq, beq_eq_false_iff_ne, ne_eq, Bool.not_eq_true', Bool.not_eq_false', Bool.not_eq_true, Bool.not_eq_false, Bool.not_true, Bool.not_false, Int.ofNat_lt, Int.ofNat_le, Nat.not_lt, Nat.not_le] at h); exact absurd hck h)
  · (skip; (try simp only [decide_eq_true_eq, decide_eq_false_iff_not, beq_iff_eq, bne_iff_ne, bne_eq_false_iff_eq, beq_eq_false_iff_ne, ne_eq, Bool.not_eq_true', Bool.not_eq_false', Bool.not_eq_true, Bool.not_eq_false, Bool.not_true, Bool.not_false, Int.ofNat_lt, Int.ofNat_le, Nat.not_lt, Nat.not_le] at h))
    refine wp_skip ?_
    (refine hKq3 _ _ ?_; try (clear hKq3 Kq3))
    (refine wp_seq_k ?_; intro Kq5 hKq5)
    refine wp_region_lit ?_
    (refine wpl_v S rfl rfl rfl (sv_pure S rfl) ?_; clear S a; intro a S)
    (first | (refine wpl_callF S rfl rfl rfl rfl rfl rfl (hof) rfl ?_; clear S a; intro v1 F1 a w hv1 hF1 S; have hv10 := hv1; obtain ⟨p1, rfl, hp1⟩ := hv10; rw [hdb] at S; have hp10 := hp1; obtain ⟨xo, xc, rfl, hxc, hxp⟩ := hp10) | (refine wpl_callF S rfl rfl rfl rfl rfl rfl (rofCt lowS F1 low_ok.1) rfl ?_; clear S a; intro v2 F2 a w hv2 hF2 S; have hv20 := hv2; obtain ⟨p2, rfl, hp2⟩ := hv20; have hp20 := hp2; obtain ⟨lo, lc, rfl, -, -⟩ := hp20; generalize hlb : decide (valS lowS < 0) = lb at *) | (refine wpl_callF S rfl rfl rfl rfl rfl rfl (rofCt highS F2 high_ok.1) rfl ?_; clear S a; intro v3 F3 a w hv3 hF3 S; have hv30 := hv3; obtain ⟨p3, rfl, hp3⟩ := hv30; have hp30 := hp3; obtain ⟨ho, hc, rfl, -, -⟩ := hp30; generalize hhb : decide (valS highS < 0) = hb at *; have hF13 : ∀ b o, F1 b = some o → F3 b = some o := fun b o h => hF3 _ _ (hF2 _ _ h)))
    (refine wpl_alloc S rfl rfl rfl rfl ?_; clear S a; intro b5 a w S)
    (refine wpl_storeO S rfl rfl rfl rfl rfl (by rfl) (by simp [Value.cells, Value.oneCell', splice]) (by rfl) ?_; clear S; intro w S)
    refine wpList_nil ?_
    (refine hKq5 _ _ ?_; try (clear hKq5 Kq5))
    (refine wp_seq_k ?_; intro Kq6 hKq6)
    refine wp_region_lit ?_
    (first | (refine wpl_callF S rfl rfl rfl rfl rfl rfl (hof) rfl ?_; clear S a; intro v1 F1 a w hv1 hF1 S; have hv10 := hv1; obtain ⟨p1, rfl, hp1⟩ := hv10; rw [hdb] at S; have hp10 := hp1; obtain ⟨xo, xc, rfl, hxc, hxp⟩ := hp10) | (refine wpl_callF S rfl rfl rfl rfl rfl rfl (rofCt lowS F1 low_ok.1) rfl ?_; clear S a; intro v2 F2 a w hv2 hF2 S; have hv20 := hv2; obtain ⟨p2, rfl, hp2⟩ := hv20; have hp20 := hp2; obtain ⟨lo, lc, rfl, -, -⟩ := hp20; generalize hlb : decide (valS lowS < 0) = lb at *) | (refine wpl_callF S rfl rfl rfl rfl rfl rfl (rofCt highS F2 high_ok.1) rfl ?_; clear S a; intro v3 F3 a w hv3 hF3 S; have hv30 := hv3; obtain ⟨p3, rfl, hp3⟩ := hv30; have hp30 := hp3; obtain ⟨ho, hc, rfl, -, -⟩ := hp30; generalize hhb : decide (valS highS < 0) = hb at *; have hF13 : ∀ b o, F1 b = some o → F3 b = some o := fun b o h => hF3 _ _ (hF2 _ _ h)))
    (refine wpl_alloc S rfl rfl rfl rfl ?_; clear S a; intro b6 a w S)
    (refine wpl_storeO S rfl rfl rfl rfl rfl (by rfl) (by simp [Value.cells, Value.oneCell', splice]) (by rfl) ?_; clear S; intro w S)
    refine wpList_nil ?_
    (refine hKq6 _ _ ?_; try (clear hKq6 Kq6))
    (refine wp_seq_k ?_; intro Kq7 hKq7)
    refine wp_region_lit ?_
    (first | (refine wpl_callF S rfl rfl rfl rfl rfl rfl (hof) rfl ?_; clear S a; intro v1 F1 a w hv1 hF1 S; have hv10 := hv1; obtain ⟨p1, rfl, hp1⟩ := hv10; rw [hdb] at S; have hp10 := hp1; obtain ⟨xo, xc, rfl, hxc, hxp⟩ := hp10) | (refine wpl_callF S rfl rfl rfl rfl rfl rfl (rofCt lowS F1 low_ok.1) rfl ?_; clear S a; intro v2 F2 a w hv2 hF2 S; have hv20 := hv2; obtain ⟨p2, rfl, hp2⟩ := hv20; have hp20 := hp2; obtain ⟨lo, lc, rfl, -, -⟩ := hp20; generalize hlb : decide (valS lowS < 0) = lb at *) | (refine wpl_callF S rfl rfl rfl rfl rfl rfl (rofCt highS F2 high_ok.1) rfl ?_; clear S a; intro v3 F3 a w hv3 hF3 S; have hv30 := hv3; obtain ⟨p3, rfl, hp3⟩ := hv30; have hp30 := hp3; obtain ⟨ho, hc, rfl, -, -⟩ := hp30; generalize hhb : decide (valS highS < 0) = hb at *; have hF13 : ∀ b o, F1 b = some o → F3 b = some o := fun b o h => hF3 _ _ (hF2 _ _ h)))
    (refine wpl_alloc S rfl rfl rfl rfl ?_; clear S a; intro b7 a w S)
    (refine wpl_storeO S rfl rfl rfl rfl rfl (by rfl) (by simp [Value.cells, Value.oneCell', splice]) (by rfl) ?_; clear S; intro w S)
    refine wpList_nil ?_
    (refine hKq7 _ _ ?_; try (clear hKq7 Kq7))
    (refine wp_seq_k ?_; intro Kq8 hKq8)
    (refine wp_seq_k ?_; intro Kq9 hKq9)
    refine wp_region_lit ?_
    (refine wpl_v S rfl rfl rfl (sv_fieldAddr S rfl rfl rfl inferInstance rfl) ?_; clear S a; intro a S)
    first | (refine wpl_v S rfl rfl rfl (sv_loadO S rfl rfl (by rfl)) ?_; clear S a; intro a S) | (refine wpl_v S rfl rfl rfl (sv_loadF S rfl rfl (by assumption)) ?_; clear S a; intro a S)
    skip
    (refine wpl_v S rfl rfl rfl (sv_pure S rfl) ?_; clear S a; intro a S)
    (refine wpl_skip S rfl rfl rfl rfl rfl ?_; clear S a; intro a S)
    (refine wpl_skip S rfl rfl rfl rfl rfl ?_; clear S a; intro a S)
    (refine wpl_skip S rfl rfl rfl rfl rfl ?_; clear S a; intro a S)
    (refine wpl_skip S rfl rfl rfl rfl rfl ?_; clear S a; intro a S)
    first | (refine wpl_v S rfl rfl rfl (sv_pure S rfl) ?_; clear S a; intro a S) | (refine wpl_v S rfl rfl rfl (sv_pickB S rfl rfl rfl rfl) ?_; clear S a; intro a S)
    (refine wpl_v S rfl rfl rfl (sv_pure S rfl) ?_; clear S a; intro a S)
    refine wpl_take S rfl rfl rfl ?_
    (refine wpl_v S rfl rfl rfl (sv_fieldAddr S rfl rfl rfl inferInstance rfl) ?_; clear S a; intro a S)
    refine wpl_take S rfl rfl rfl ?_
    first | (refine wpl_v S rfl rfl rfl (sv_loadO S rfl rfl (by rfl)) ?_; clear S a; intro a S) | (refine wpl_v S rfl rfl rfl (sv_loadF S rfl rfl (by assumption)) ?_; clear S a; intro a S)
    skip
    refine wpl_take S rfl rfl rfl ?_
    (refine wpl_v S rfl rfl rfl (sv_pure S rfl) ?_; clear S a; intro a S)
    refine wpl_take S rfl rfl rfl ?_
    (refine wpl_v S rfl rfl rfl (sv_pure S rfl) ?_; clear S a; intro a S)
    refine wpl_take S rfl rfl rfl ?_
    first | (refine wpl_v S rfl rfl rfl (sv_loadAO S rfl rfl (by rfl)) ?_; clear S a; intro a S) | (refine wpl_v S rfl rfl rfl (sv_loadAF S rfl rfl (by assumption) (by rfl)) ?_; clear S a; intro a S)
    refine wpl_take S rfl rfl rfl ?_
    first | (refine wpl_v S rfl rfl rfl (sv_loadAO S rfl rfl (by rfl)) ?_; clear S a; intro a S) | (refine wpl_v S rfl rfl rfl (sv_loadAF S rfl rfl (by assumption) (by rfl)) ?_; clear S a; intro a S)
    refine wpl_take S rfl rfl rfl ?_
    (first | (refine wpl_call0 S rfl rfl rfl rfl rfl rfl (sizeCt _ _ x.natAbs (valS lowS).natAbs _ _ _ _ F3 (lt_nd t2 _) (lt_nd t2 _) (by omega) (by omega) (hp1.mono hF13) (hp2.mono hF3)) rfl ?_; clear S a; intro v a w hv S; subst hv) | (refine wpl_call0 S rfl rfl rfl rfl rfl rfl (sizeCt _ _ x.natAbs (valS highS).natAbs _ _ _ _ F3 (lt_nd t2 _) (lt_nd t2 _) (by omega) (by omega) (hp1.mono hF13) hp3) rfl ?_; clear S a; intro v a w hv S; subst hv))
    refine wpl_take S rfl rfl rfl ?_
    (refine wpl_v S rfl rfl rfl (sv_lit (c := true) (sv_pure S rfl) (by exact decide_eq_true (cmpI_pos.2 (by rw [hhv]; omega)))) ?_; clear S a; intro a S)
    refine wpl_take S rfl rfl rfl ?_
    first | (refine wpl_v S rfl rfl rfl (sv_pure S rfl) ?_; clear S a; intro a S) | (refine wpl_v S rfl rfl rfl (sv_pickB S rfl rfl rfl rfl) ?_; clear S a; intro a S)
    first | (refine wpl_v S rfl rfl rfl (sv_pure S rfl) ?_; clear S a; intro a S) | (refine wpl_v S rfl rfl rfl (sv_pickB S rfl rfl rfl rfl) ?_; clear S a; intro a S)
    refine wpList_nil ?_
    (refine hKq9 _ _ ?_; try (clear hKq9 Kq9))
    refine wpc_true S rfl ?_
    (refine wp_seq_k ?_; intro Kq10 hKq10)
    refine wp_region_lit ?_
    (refine wpl_v S rfl rfl rfl (sv_pure S rfl) ?_; clear S a; intro a S)
    (refine wpl_v S rfl rfl rfl (sv_pure S rfl) ?_; clear S a; intro a S)
    refine wpList_nil ?_
    (refine hKq10 _ _ ?_; try (clear hKq10 Kq10))
    refine wp_ret ?_
    refine fin_ret S (results2 Tryd.results15 (RV.tmp S rfl) (RV.tmp S rfl)) ?_
    rfl
set_option maxHeartbeats 1000000 in
theorem rintErr (s : List UInt8) (F : Heap) (hs : s.length ≤ 1000000) (hck : ¬ checkS s = 0) : Ct Tryd.prog 15 [.string (bs s)] F [] (fun _ _ u => u = cmpV (0, checkS s)) := by
  refine Ct.enter Tryd.func15 rfl Tryd.ntmps15 rfl fun w0 a S => ?_
  (refine wp_seq_k ?_; intro Kq1 hKq1)
  refine wp_region_lit ?_
  (refine wpl_v S rfl rfl rfl (sv_pure S rfl) ?_; clear S a; intro a S)
  (refine wpl_v S rfl rfl rfl (sv_pure S rfl) ?_; clear S a; intro a S)
  refine wpList_nil ?_
  (refine hKq1 _ _ ?_; try (clear hKq1 Kq1))
  (refine wp_seq_k ?_; intro Kq2 hKq2)
  refine wp_region_lit ?_
  (refine wpl_v S rfl rfl rfl (sv_pure S rfl) ?_; clear S a; intro a S)
  (refine wpl_call0 S rfl rfl rfl rfl rfl rfl (rcheckCt s F (by omega)) rfl ?_; clear S a; intro v a w hv S; subst hv)
  (refine wpl_v S rfl rfl rfl (sv_pure S rfl) ?_; clear S a; intro a S)
  refine wpList_nil ?_
  (refine hKq2 _ _ ?_; try (clear hKq2 Kq2))
  (refine wp_seq_k ?_; intro Kq3 hKq3)
  (refine wp_seq_k ?_; intro Kq4 hKq4)
  refine wp_region_lit ?_
  (refine wpl_v S rfl rfl rfl (sv_pure S rfl) ?_; clear S a; intro a S)
  (refine wpl_v S rfl rfl rfl (sv_pure S rfl) ?_; clear S a; intro a S)
  refine wpList_nil ?_
  (refine hKq4 _ _ ?_; try (clear hKq4 Kq4))
  refine wpc_split S rfl (fun h => ?_) (fun h => ?_)
  · (skip; (try simp only [decide_eq_true_eq, decide_eq_false_iff_not, beq_iff_eq, bne_iff_ne, bne_eq_false_iff_eq, beq_eq_false_iff_ne, ne_eq, Bool.not_eq_true', Bool.not_eq_false', Bool.not_eq_true, Bool.not_eq_false, Bool.not_true, Bool.not_false, Int.ofNat_lt, Int.ofNat_le, Nat.not_lt, Nat.not_le] at h))
    (refine wp_seq_k ?_; intro Kq5 hKq5)
    refine wp_region_lit ?_
    (refine wpl_v S rfl rfl rfl (sv_pure S rfl) ?_; clear S a; intro a S)
    (refine wpl_v S rfl rfl rfl (sv_pure S rfl) ?_; clear S a; intro a S)
    (refine wpl_v S rfl rfl rfl (sv_pure S rfl) ?_; clear S a; intro a S)
    refine wpList_nil ?_
    (refine hKq5 _ _ ?_; try (clear hKq5 Kq5))
    refine wp_ret ?_
    refine fin_ret S (results2 Tryd.results15 (RV.tmp S rfl) (RV.tmp S rfl)) ?_
    rfl
  · (skip; (try simp only [decide_eq_true_eq, decide_eq_false_iff_not, beq_iff_eq, bne_iff_ne, bne_eq_false_iff_eq, beq_eq_false_iff_ne, ne_eq, Bool.not_eq_true', Bool.not_eq_false', Bool.not_eq_true, Bool.not_eq_false, Bool.not_true, Bool.not_false, Int.ofNat_lt, Int.ofNat_le, Nat.not_lt, Nat.not_le] at h); exact absurd h hck)
theorem rintCt (s : List UInt8) (F : Heap) (hs : s.length ≤ 1000000) : Ct Tryd.prog 15 [.string (bs s)] F [] (fun _ _ u => u = cmpV (intA s)) := by
  unfold intA
  by_cases hck : checkS s = 0
  · rw [if_pos hck]
    by_cases hsg : valS s < 0
    · by_cases hf : fitsI (valS s) = true
      · rw [if_pos hf]; exact rintNF s F hs hck _ rfl hsg ((fits_neg hsg).1 hf)
      · rw [if_neg hf]; exact rintNR s F hs hck _ rfl hsg (Nat.lt_of_not_le fun h => hf ((fits_neg hsg).2 h))
    · by_cases hf : fitsI (valS s) = true
      · rw [if_pos hf]; exact rintPF s F hs hck _ rfl hsg ((fits_pos hsg).1 hf)
      · rw [if_neg hf]; exact rintPR s F hs hck _ rfl hsg (Nat.lt_of_not_le fun h => hf ((fits_pos hsg).2 h))
  · rw [if_neg hck]; exact rintErr s F hs hck
end Go.Proofs.YtmmpbpfdnpgklaaDoor
