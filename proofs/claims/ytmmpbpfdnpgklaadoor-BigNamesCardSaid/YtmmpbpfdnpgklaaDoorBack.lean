/- slices.Backward, over a slice that never turns, hands out its elements from the end. -/
import Derived.Test.YtmmpbpfdnpgklaaDoorWk9
import Derived.Test.YtmmpbpfdnpgklaaDoorBig1
namespace Go.Proofs.YtmmpbpfdnpgklaaDoor
open Go Go.Wk Go.Num
set_option linter.unusedSimpArgs false
set_option linter.unusedVariables false
attribute [local irreducible] Go.wpList Go.Code.wp Go.wpStill Go.Wk.wpPre Go.bodyPost Go.Calls Go.Wk.Ct Go.Wk.OwnS
attribute [local irreducible] Go.wpListIn Go.Code.wpIn Go.CallsIn Go.bodyPostM Go.Wk.roundP

set_option maxHeartbeats 1000000 in
theorem backIter (bx k : Nat) (f : Nat → Nat) (F : Heap) (ao : Option Addr) (cap : Nat) (hk : k ≤ 1000000000) (hbox : Cel F bx 0 (.slice ao k cap)) (hpos : 0 < k → ∃ b off, ao = some ⟨b, off, none⟩ ∧ Cels F b off (cel k f)) :
    BackIter Tryd.prog 66 bx k f F := by
  intro l J Jx W hat hJk hy
  refine CallsIn.enter0 Tryd.func66 rfl Tryd.ntmps66 rfl (hat k W hJk) fun a S => ?_
  (refine wpIn_seq_k ?_; intro Kq1 hKq1)
  refine wpi_region rfl ?_
  first | (refine wpl_v S rfl rfl rfl (sv_loadO S rfl rfl (by rfl)) ?_; clear S a; intro a S) | (refine wpl_v S rfl rfl rfl (sv_loadF S rfl rfl (by assumption)) ?_; clear S a; intro a S)
  (refine wpl_v S rfl rfl rfl (sv_lenSl S rfl rfl) ?_; clear S a; intro a S)
  (refine wpl_v S rfl rfl rfl (sv_sub S rfl rfl rfl (by first | omega | (simp only [List.length_append, List.length_cons, List.length_nil]; omega))) ?_; clear S a; intro a S)
  (refine wpl_v S rfl rfl rfl (sv_pure S rfl) ?_; clear S a; intro a S)
  refine wpList_nil ?_
  (refine hKq1 _ _ ?_; try (clear hKq1 Kq1))
  refine wpIn_block ?_
  refine wpi_loop (fun m a w' => ∃ (j : Nat), m = j ∧ j ≤ k ∧ J j w' ∧ St 19 [(0, .func (.yield l) ⟨[]⟩ ⟨[]⟩), (1, .pointer (some ⟨bx, 0, none⟩)), (3, .int .i64 ((j : Int) - 1))] w' F [] F [] a w') ?_ ?_
  · (refine ⟨k, k, rfl, Nat.le_refl _, hJk, ?_⟩; refine S.keep ?_; repeat (first | exact trivial | refine ⟨rfl, ?_⟩))
  · (clear S hJk; rintro m a w ⟨j, rfl, hjk, hJ, S⟩)
    (refine wpIn_seq_k ?_; intro Kq2 hKq2)
    (refine wpIn_seq_k ?_; intro Kq3 hKq3)
    refine wpi_region rfl ?_
    (refine wpl_v S rfl rfl rfl (sv_pure S rfl) ?_; clear S a; intro a S)
    (refine wpl_v S rfl rfl rfl (sv_pure S rfl) ?_; clear S a; intro a S)
    refine wpList_nil ?_
    (refine hKq3 _ _ ?_; try (clear hKq3 Kq3))
    refine wpi_split S rfl (fun h => ?_) (fun h => ?_)
    · (skip; (try simp only [decide_eq_true_eq, decide_eq_false_iff_not, beq_iff_eq, bne_iff_ne, bne_eq_false_iff_eq, beq_eq_false_iff_ne, ne_eq, Bool.not_eq_true', Bool.not_eq_false', Bool.not_eq_true, Bool.not_eq_false, Bool.not_true, Bool.not_false, Int.ofNat_lt, Int.ofNat_le, Nat.not_lt, Nat.not_le] at h))
      refine wpIn_skip ?_
      (refine hKq2 _ _ ?_; try (clear hKq2 Kq2))
      (refine wpIn_seq_k ?_; intro Kq4 hKq4)
      refine wpIn_block ?_
      (refine wpIn_seq_k ?_; intro Kq5 hKq5)
      (obtain ⟨i, rfl⟩ : ∃ i, m = i + 1 := ⟨m - 1, by omega⟩; replace S := S.keep (L' := [(0, .func (.yield l) ⟨[]⟩ ⟨[]⟩), (1, .pointer (some ⟨bx, 0, none⟩)), (3, .int .i64 (i : Int))]) ⟨rfl, rfl, reg (by omega), trivial⟩; obtain ⟨b, off, rfl, hcs⟩ := hpos (by omega); have hce := celN hcs (j := i) (by omega))
      refine wpIn_region_lit ?_
      (refine wpli_v S rfl rfl rfl rfl (sv_pure S rfl) ?_; clear S a; intro a S)
      (refine wpli_v S rfl rfl rfl rfl (sv_pure S rfl) ?_; clear S a; intro a S)
      first | (refine wpli_v S rfl rfl rfl rfl (sv_loadO S rfl rfl (by rfl)) ?_; clear S a; intro a S) | (refine wpli_v S rfl rfl rfl rfl (sv_loadF S rfl rfl (by assumption)) ?_; clear S a; intro a S)
      (refine wpli_v S rfl rfl rfl rfl (sv_pure S rfl) ?_; clear S a; intro a S)
      (refine wpli_v S rfl rfl rfl rfl (sv_indexAddrSl S rfl rfl rfl (by first | omega | (simp only [List.length_append, List.length_cons, List.length_nil]; omega))) ?_; clear S a; intro a S)
      first | (refine wpli_v S rfl rfl rfl rfl (sv_loadO S rfl rfl (by rfl)) ?_; clear S a; intro a S) | (refine wpli_v S rfl rfl rfl rfl (sv_loadF S rfl rfl (by assumption)) ?_; clear S a; intro a S)
      (obtain ⟨fn, tmps, asg, bd, hyr, hrd⟩ := hy i w (by omega) hJ; refine wpli_yield S rfl rfl rfl rfl rfl rfl hyr hrd ?_; have hr9 : ∀ (e : Ending) (w' : World), ((e = .returned (.bool true) ∧ J i w') ∨ (e = .returned (.bool false) ∧ Jx w')) → ∃ bv : Bool, e = .returned (.bool bv) ∧ (bv = true → J i w') ∧ (bv = false → Jx w') := (fun e w' h9 => h9.elim (fun h9 => ⟨true, h9.1, fun _ => h9.2, fun h8 => (by cases h8)⟩) (fun h9 => ⟨false, h9.1, fun h8 => (by cases h8), fun _ => h9.2⟩)); clear S a; intro e w' h9; obtain ⟨bv, rfl, hb1, hb2⟩ := hr9 e w' h9; clear hJ h9 hyr hrd; refine ⟨_, rfl, fun a S => ?_⟩)
      (refine wpli_v S rfl rfl rfl rfl (sv_pure S rfl) ?_; clear S a; intro a S)
      refine wpListIn_nil ?_
      (refine hKq5 _ _ ?_; try (clear hKq5 Kq5))
      refine wpi_split S rfl (fun h => ?_) (fun h => ?_)
      · (skip; (try simp only [decide_eq_true_eq, decide_eq_false_iff_not, beq_iff_eq, bne_iff_ne, bne_eq_false_iff_eq, beq_eq_false_iff_ne, ne_eq, Bool.not_eq_true', Bool.not_eq_false', Bool.not_eq_true, Bool.not_eq_false, Bool.not_true, Bool.not_false, Int.ofNat_lt, Int.ofNat_le, Nat.not_lt, Nat.not_le] at h))
        refine wpIn_ret ?_
        (first | exact post_ret S (results0 Tryd.results66) ⟨⟨_, rfl⟩, .inr (hb2 h)⟩ | exact post_end S (results0 Tryd.results66) ⟨⟨_, rfl⟩, .inl (by have h0 : m = 0 := (by omega); subst h0; exact hJ)⟩)
      · (skip; (try simp only [decide_eq_true_eq, decide_eq_false_iff_not, beq_iff_eq, bne_iff_ne, bne_eq_false_iff_eq, beq_eq_false_iff_ne, ne_eq, Bool.not_eq_true', Bool.not_eq_false', Bool.not_eq_true, Bool.not_eq_false, Bool.not_true, Bool.not_false, Int.ofNat_lt, Int.ofNat_le, Nat.not_lt, Nat.not_le] at h))
        refine wpIn_skip ?_
        (refine hKq4 _ _ ?_; try (clear hKq4 Kq4))
        refine wpi_region rfl ?_
        (refine wpl_v S rfl rfl rfl (sv_pure S rfl) ?_; clear S a; intro a S)
        (refine wpl_v S rfl rfl rfl (sv_sub S rfl rfl rfl (by first | omega | (simp only [List.length_append, List.length_cons, List.length_nil]; omega))) ?_; clear S a; intro a S)
        (refine wpl_v S rfl rfl rfl (sv_pure S rfl) ?_; clear S a; intro a S)
        refine wpList_nil ?_
        change ∃ m', _ ∧ _
        (refine ⟨i, by omega, i, rfl, by omega, hb1 h, ⟨?_, (hat i _ (hb1 h)).tr⟩⟩; refine S.fr.keep ?_; repeat (first | exact trivial | refine ⟨rfl, ?_⟩))
    · (skip; (try simp only [decide_eq_true_eq, decide_eq_false_iff_not, beq_iff_eq, bne_iff_ne, bne_eq_false_iff_eq, beq_eq_false_iff_ne, ne_eq, Bool.not_eq_true', Bool.not_eq_false', Bool.not_eq_true, Bool.not_eq_false, Bool.not_true, Bool.not_false, Int.ofNat_lt, Int.ofNat_le, Nat.not_lt, Nat.not_le] at h))
      refine wpIn_exit ?_
      (first | exact post_ret S (results0 Tryd.results66) ⟨⟨_, rfl⟩, .inr (hb2 h)⟩ | exact post_end S (results0 Tryd.results66) ⟨⟨_, rfl⟩, .inl (by have h0 : m = 0 := (by omega); subst h0; exact hJ)⟩)
end Go.Proofs.YtmmpbpfdnpgklaaDoor
