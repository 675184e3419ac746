/- The walks of ty and is. -/
import Derived.Test.YtcjnmehpkcblfaaDoorUnY
namespace Go.Proofs.YtcjnmehpkcblfaaDoor
open Go Go.Wk Go.Un
set_option linter.unusedSimpArgs false
set_option linter.unusedVariables false
attribute [local irreducible] Go.wpList Go.Code.wp Go.wpStill Go.Wk.wpPre Go.bodyPost Go.Calls Go.Wk.Ct Go.Wk.OwnS
attribute [local irreducible] Go.Wk.wpG Go.Wk.wpM

theorem tyCt (F : Heap) (nm : List UInt8) (ao : Option Addr) (q c : Nat) : Ct Tryd.prog 11 [.string (bs nm), .slice ao q c] F [] (fun _ _ u => u = .agg ⟨[.string (bs nm), .slice ao q c]⟩) := by
  refine Ct.enter Tryd.func11 rfl Tryd.ntmps11 rfl fun w0 a S => ?_
  (refine wp_seq_k ?_; intro Kq1 hKq1)
  refine wp_region_lit ?_
  (refine wpl_alloc S rfl rfl rfl rfl ?_; clear S a; intro b4 a w S)
  refine wpList_nil ?_
  (refine hKq1 _ _ ?_; try (clear hKq1 Kq1))
  (refine wp_seq_k ?_; intro Kq2 hKq2)
  refine wp_region_lit ?_
  (refine wpl_v S rfl rfl rfl (sv_pure S rfl) ?_; clear S a; intro a S)
  (refine wpl_v S rfl rfl rfl (sv_pure S rfl) ?_; clear S a; intro a S)
  (refine wpl_v S rfl rfl rfl (sv_build S rfl rfl rfl) ?_; clear S a; intro a S)
  (refine wpl_storeO S rfl rfl rfl rfl rfl (by rfl) (by simp [Value.cells, Value.oneCell', splice]) (by rfl) ?_; clear S; intro w S)
  refine wpList_nil ?_
  (refine hKq2 _ _ ?_; try (clear hKq2 Kq2))
  refine wp_ret ?_
  refine fin_ret S (results1 Tryd.results11 (RV.cellO S rfl (by rfl))) ?_
  rfl
def isv (σ : List UInt8 → Ty) (a b : Ty) : Bool := decide ((resv σ a).1 = 0) && decide ((resv σ a).2.1 = b.1 ∧ (resv σ a).2.2 = b.2)
set_option maxHeartbeats 4000000 in
theorem isCt (F : Heap) (tb N : Nat) (σ : List UInt8 → Ty) (G : List Grp) (nm : List UInt8) (ar : Fo) (cs : List Value) (nm2 : List UInt8) (ar2 : Fo) (cs2 : List Value) (hT : TyC F cs nm ar) (hT2 : TyC F cs2 nm2 ar2) (hN : N + 2048 ≤ 10000000) (hQ : TabQ F tb N σ G) :
    Ct Tryd.prog 13 [.pointer (some ⟨tb, 0, none⟩), .agg ⟨cs⟩, .agg ⟨cs2⟩] F G (fun F' G' u => u = .bool (isv σ (nm, ar) (nm2, ar2)) ∧ TabQ F' tb (N + 2048) σ G') := by
  have hT0 := hT
  have hT20 := hT2
  obtain ⟨v, rfl, ao, cap, rfl, hcap, hpos⟩ := hT
  obtain ⟨v2, rfl, ao2, cap2, rfl, hcap2, hpos2⟩ := hT2
  refine Ct.enter Tryd.func13 rfl Tryd.ntmps13 rfl fun w0 a S => ?_
  (refine wp_seq_k ?_; intro Kq1 hKq1)
  refine wp_region_lit ?_
  (refine wpl_box S rfl rfl rfl rfl rfl ?_; clear S a; intro b4 a w S)
  (refine wpl_box S rfl rfl rfl rfl rfl ?_; clear S a; intro b5 a w S)
  (refine wpl_v S rfl rfl rfl (sv_pure S rfl) ?_; clear S a; intro a S)
  refine wpList_nil ?_
  (refine hKq1 _ _ ?_; try (clear hKq1 Kq1))
  (refine wp_seq_k ?_; intro Kq2 hKq2)
  refine wp_region_lit ?_
  (refine wpl_v S rfl rfl rfl (sv_pure S rfl) ?_; clear S a; intro a S)
  first | (refine wpl_v S rfl rfl rfl (sv_loadAO S rfl rfl (by rfl)) ?_; clear S a; intro a S) | (refine wpl_v S rfl rfl rfl (sv_loadAF S rfl rfl (by assumption) (by rfl)) ?_; clear S a; intro a S)
  (refine wpl_call (Gs := G) (Gr := [[(b5, _)], [(b4, _)]]) S rfl rfl rfl rfl rfl rfl (resolveCt F tb N σ G nm ar _ hT0 (by omega) hQ) rfl (grp_perm (A := [[(b5, _)], [(b4, _)]])) ?_; clear S a; intro u9 F1 G1 a w hv hF1 S; obtain ⟨ao9, q9, c9, rfl, hs9, hQ1⟩ := hv; replace S : St _ _ _ _ _ F1 ([(b5, _)] :: [(b4, _)] :: G1) _ _ := St.rotL S)
  (refine wpl_v S rfl rfl rfl (sv_pure S rfl) ?_; clear S a; intro a S)
  (refine wpl_v S rfl rfl rfl (sv_pure S rfl) ?_; clear S a; intro a S)
  (refine wpl_v S rfl rfl rfl (sv_pure S rfl) ?_; clear S a; intro a S)
  (refine wpl_alloc S rfl rfl rfl rfl ?_; clear S a; intro b7 a w S)
  (refine wpl_storeO S rfl rfl rfl rfl rfl (by rfl) (by simp [Value.cells, Value.oneCell', splice]) (by rfl) ?_; clear S; intro w S)
  (refine wpl_v S rfl rfl rfl (sv_pure S rfl) ?_; clear S a; intro a S)
  refine wpList_nil ?_
  (refine hKq2 _ _ ?_; try (clear hKq2 Kq2))
  (refine wp_seq_k ?_; intro Kq3 hKq3)
  refine wp_region_lit ?_
  (refine wpl_v S rfl rfl rfl (sv_pure S rfl) ?_; clear S a; intro a S)
  (refine wpl_v S rfl rfl rfl (sv_pure S rfl) ?_; clear S a; intro a S)
  (refine wpl_v S rfl rfl rfl (sv_pure S rfl) ?_; clear S a; intro a S)
  refine wpl_guard S rfl rfl rfl rfl rfl ?_ ?_
  · (intro h S'; clear S; have S := S'; clear S'; (try simp only [decide_eq_true_eq, decide_eq_false_iff_not, beq_iff_eq, bne_iff_ne, bne_eq_false_iff_eq, beq_eq_false_iff_ne, ne_eq, Bool.not_eq_true', Bool.not_eq_false', Bool.not_eq_true, Bool.not_eq_false, Bool.not_true, Bool.not_false, Int.ofNat_lt, Int.ofNat_le, Nat.not_lt, Nat.not_le] at h))
    first | (refine wpl_v S rfl rfl rfl (sv_loadAO S rfl rfl (by rfl)) ?_; clear S a; intro a S) | (refine wpl_v S rfl rfl rfl (sv_loadAF S rfl rfl (by assumption) (by rfl)) ?_; clear S a; intro a S)
    refine wpl_take S rfl rfl rfl ?_
    first | (refine wpl_v S rfl rfl rfl (sv_loadAO S rfl rfl (by rfl)) ?_; clear S a; intro a S) | (refine wpl_v S rfl rfl rfl (sv_loadAF S rfl rfl (by assumption) (by rfl)) ?_; clear S a; intro a S)
    refine wpl_take S rfl rfl rfl ?_
    (refine wpl_call0 S rfl rfl rfl rfl rfl rfl (refSameCt F1 _ (resv σ (nm, ar)).2.1 nm2 (resv σ (nm, ar)).2.2 ar2 _ _ (Nat.le_refl _) ⟨_, rfl, hs9⟩ (hT20.mono hF1)) rfl ?_; clear S a; intro v a w hv S; subst hv)
    first | (refine wpl_v S rfl rfl rfl (sv_pure S rfl) ?_; clear S a; intro a S) | (refine wpl_v S rfl rfl rfl (sv_pickB S rfl rfl rfl rfl) ?_; clear S a; intro a S)
    (refine wpl_v S rfl rfl rfl (sv_pure S rfl) ?_; clear S a; intro a S)
    refine wpList_nil ?_
    (refine hKq3 _ _ ?_; try (clear hKq3 Kq3))
    refine wp_ret ?_
    (replace S := S.drop1.drop1.drop1)
    
    refine fin_ret S (results1 Tryd.results13 (RV.tmp S rfl)) ?_
    (first | (have h99 : (resv σ (nm, ar)).1 = 0 := (by first | assumption | simpa using h); exact ⟨by unfold isv; rw [decide_eq_true h99]; rfl, hQ1⟩) | (have h99 : ¬ (resv σ (nm, ar)).1 = 0 := (by first | assumption | simpa using h); exact ⟨by unfold isv; rw [decide_eq_false h99]; rfl, hQ1⟩) | trace_state)
  · (intro h; clear S a; intro a S; (try simp only [decide_eq_true_eq, decide_eq_false_iff_not, beq_iff_eq, bne_iff_ne, bne_eq_false_iff_eq, beq_eq_false_iff_ne, ne_eq, Bool.not_eq_true', Bool.not_eq_false', Bool.not_eq_true, Bool.not_eq_false, Bool.not_true, Bool.not_false, Int.ofNat_lt, Int.ofNat_le, Nat.not_lt, Nat.not_le] at h))
    (refine wpl_skip S rfl rfl rfl rfl rfl ?_; clear S a; intro a S)
    (refine wpl_skip S rfl rfl rfl rfl rfl ?_; clear S a; intro a S)
    first | (refine wpl_v S rfl rfl rfl (sv_pure S rfl) ?_; clear S a; intro a S) | (refine wpl_v S rfl rfl rfl (sv_pickB S rfl rfl rfl rfl) ?_; clear S a; intro a S)
    (refine wpl_v S rfl rfl rfl (sv_pure S rfl) ?_; clear S a; intro a S)
    refine wpList_nil ?_
    (refine hKq3 _ _ ?_; try (clear hKq3 Kq3))
    refine wp_ret ?_
    (replace S := S.drop1.drop1.drop1)
    
    refine fin_ret S (results1 Tryd.results13 (RV.tmp S rfl)) ?_
    (first | (have h99 : (resv σ (nm, ar)).1 = 0 := (by first | assumption | simpa using h); exact ⟨by unfold isv; rw [decide_eq_true h99]; rfl, hQ1⟩) | (have h99 : ¬ (resv σ (nm, ar)).1 = 0 := (by first | assumption | simpa using h); exact ⟨by unfold isv; rw [decide_eq_false h99]; rfl, hQ1⟩) | trace_state)
end Go.Proofs.YtcjnmehpkcblfaaDoor
