/- The walks of New and Unify. -/
import Derived.Test.YtcjnmehpkcblfaaDoorUnS
namespace Go.Proofs.YtcjnmehpkcblfaaDoor
open Go Go.Wk Go.Un
set_option linter.unusedSimpArgs false
set_option linter.unusedVariables false
attribute [local irreducible] Go.wpList Go.Code.wp Go.wpStill Go.Wk.wpPre Go.bodyPost Go.Calls Go.Wk.Ct Go.Wk.OwnS
attribute [local irreducible] Go.Wk.wpG Go.Wk.wpM

theorem tk_new : TK ⟨[], [], [], [], []⟩ ⟨fun i => i, fun _ => -1, fun _ => []⟩ vid := by
  refine ⟨⟨rfl, rfl, rfl, fun i hi => ?_, fun i hi => ?_, fun i hi => ?_⟩, ⟨⟨⟨fun i hi => ?_, fun i hi => ?_, fun u nm ks hu => ?_⟩, fun p hp => ?_, fun nm i hv => ?_, fun c hc => ?_, fun c hc => ?_, fun u nm ks hu => ?_⟩, fun c hc => ?_, fun u nm ks hu => ?_, fun u nm ks hu => ?_⟩, fun v => ⟨fun w hw => ?_, fun _ => rfl⟩⟩
  all_goals first | (exact absurd ‹_ < List.length _› (Nat.not_lt_zero _)) | (simp at hu; done) | (cases hp; done) | (cases hv; done) | (cases hw; done)
theorem newCt (F : Heap) : Ct Tryd.prog 6 [] F [] (fun F' G' u => ∃ tb, u = .pointer (some ⟨tb, 0, none⟩) ∧ TabQ F' tb 0 vid G') := by
  refine Ct.enter Tryd.func6 rfl Tryd.ntmps6 rfl fun w0 a S => ?_
  (refine wp_seq_k ?_; intro Kq1 hKq1)
  refine wp_region_lit ?_
  (refine wpl_v S rfl rfl rfl (sv_pure S rfl) ?_; clear S a; intro a S)
  refine wpList_nil ?_
  (refine hKq1 _ _ ?_; try (clear hKq1 Kq1))
  (refine wp_seq_k ?_; intro Kq2 hKq2)
  refine wp_region_lit ?_
  (refine wpl_makeMap kS S rfl rfl rfl rfl ?_; clear S a; intro b1 a w S)
  (refine wpl_v S rfl rfl rfl (sv_build S rfl rfl rfl) ?_; clear S a; intro a S)
  (refine wpl_box S rfl rfl rfl rfl rfl ?_; clear S a; intro b3 a w S)
  (refine wpl_v S rfl rfl rfl (sv_pure S rfl) ?_; clear S a; intro a S)
  refine wpList_nil ?_
  (refine hKq2 _ _ ?_; try (clear hKq2 Kq2))
  refine wp_ret ?_
  (replace S := S.nilg.nilg.nilg.nilg; replace S := St.permI S 6 rfl [4, 5, 0, 1, 2, 3] (by decide))
  
  refine fin_ret S (results1 Tryd.results6 (RV.tmp S rfl)) ?_
  exact ⟨b3, rfl, b1, ⟨[], [], [], [], []⟩, _, ⟨.slice none 0 0, .slice none 0 0, .slice none 0 0, .slice none 0 0, 0, [], [], [], [], rfl, ⟨⟨[], OwnS.nil _ _, trivial⟩, OwnS.nil _ _, OwnS.nil _ _, OwnS.nil _ _⟩⟩, tk_new, Nat.le_refl _⟩
theorem tk_uni {T2 T4 : Tb} {A3 : Ab} {σ' : List UInt8 → Ty} (hnd : T4.nd = T2.nd) (hvs : T4.vs = T2.vs) (hA : AbR T2.nd.length T4.pa T4.st T4.le A3) (hI : InvT T2.nd (vget T2.vs) A3) (hT : Tell T2.nd (vget T2.vs) A3 σ') : TK T4 A3 σ' := by
  obtain ⟨nd, vs, pa, st, le⟩ := T4
  simp only at hnd hvs hA
  subst hnd; subst hvs
  exact ⟨hA, hI, hT⟩
/-- What Unify tells, and what is said of variables behind it. -/
def UniP (σ : List UInt8 → Ty) (a b : Ty) (e : Int) (σ' : List UInt8 → Ty) : Prop :=
  if may a.1 a.2 = true ∧ may b.1 b.2 = true then (e = 0 ∧ Mgu σ σ' a b) ∨ (e = 70 ∧ σ' = σ ∧ ∀ θ : List UInt8 → Ty, (∀ v, subT θ (σ v) = θ v) → subT θ a ≠ subT θ b) else e = 4 ∧ σ' = σ
set_option maxRecDepth 20000 in
set_option maxHeartbeats 16000000 in
theorem unifyCt (F : Heap) (tb N : Nat) (σ : List UInt8 → Ty) (G : List Grp) (nm : List UInt8) (ar : Fo) (cs : List Value) (nm2 : List UInt8) (ar2 : Fo) (cs2 : List Value) (hT : TyC F cs nm ar) (hT2 : TyC F cs2 nm2 ar2) (hN : N + 4096 ≤ 10000000) (hQ : TabQ F tb N σ G) :
    Ct Tryd.prog 12 [.pointer (some ⟨tb, 0, none⟩), .agg ⟨cs⟩, .agg ⟨cs2⟩] F G (fun F' G' u => ∃ (e : Int) (σ' : List UInt8 → Ty), u = .int .i64 e ∧ TabQ F' tb (N + 4096) σ' G' ∧ UniP σ (nm, ar) (nm2, ar2) e σ') := by
  have hQ0 := hQ
  obtain ⟨mb, T, A, hTab, hK, hlN⟩ := hQ
  have hT0 := hT
  have hT20 := hT2
  obtain ⟨v, rfl, ao, cap, rfl, hcap, hpos⟩ := hT
  obtain ⟨v2, rfl, ao2, cap2, rfl, hcap2, hpos2⟩ := hT2
  refine Ct.enter Tryd.func12 rfl Tryd.ntmps12 rfl fun w0 a S => ?_
  (refine wp_seq_k ?_; intro Kq1 hKq1)
  refine wp_region_lit ?_
  (refine wpl_box S rfl rfl rfl rfl rfl ?_; clear S a; intro b4 a w S)
  (refine wpl_box S rfl rfl rfl rfl rfl ?_; clear S a; intro b5 a w S)
  (refine wpl_v S rfl rfl rfl (sv_pure S rfl) ?_; clear S a; intro a S)
  refine wpList_nil ?_
  (refine hKq1 _ _ ?_; try (clear hKq1 Kq1))
  (refine wp_seq_k ?_; intro Kq2 hKq2)
  refine wp_block ?_
  (refine wp_seq_k ?_; intro Kq3 hKq3)
  refine wp_region_lit ?_
  (refine wpl_v S rfl rfl rfl (sv_pure S rfl) ?_; clear S a; intro a S)
  (refine wpl_v S rfl rfl rfl (sv_lit (c := false) (sv_eqPtrSome S rfl rfl rfl) (by rfl)) ?_; clear S a; intro a S)
  (refine wpl_v S rfl rfl rfl (sv_lit (c := false) (sv_pure S rfl) (by rfl)) ?_; clear S a; intro a S)
  refine wpList_nil ?_
  (refine hKq3 _ _ ?_; try (clear hKq3 Kq3))
  refine wpc_false S rfl ?_
  (refine wp_seq_k ?_; intro Kq4 hKq4)
  refine wp_region_lit ?_
  first | (refine wpl_v S rfl rfl rfl (sv_loadAO S rfl rfl (by rfl)) ?_; clear S a; intro a S) | (refine wpl_v S rfl rfl rfl (sv_loadAF S rfl rfl (by assumption) (by rfl)) ?_; clear S a; intro a S)
  (first | (refine wpl_call0 S rfl rfl rfl rfl rfl rfl (mayCt F nm ar _ hT0) rfl ?_; clear S a; intro v a w hv S; subst hv) | (refine wpl_call0 S rfl rfl rfl rfl rfl rfl (mayCt F nm2 ar2 _ hT20) rfl ?_; clear S a; intro v a w hv S; subst hv))
  (refine wpl_v S rfl rfl rfl (sv_pure S rfl) ?_; clear S a; intro a S)
  (refine wpl_v S rfl rfl rfl (sv_pure S rfl) ?_; clear S a; intro a S)
  refine wpl_guard S rfl rfl rfl rfl rfl ?_ ?_
  · (intro h S'; clear S; have S := S'; clear S'; (try simp only [decide_eq_true_eq, decide_eq_false_iff_not, beq_iff_eq, bne_iff_ne, bne_eq_false_iff_eq, beq_eq_false_iff_ne, ne_eq, Bool.not_eq_true', Bool.not_eq_false', Bool.not_eq_true, Bool.not_eq_false, Bool.not_true, Bool.not_false, Int.ofNat_lt, Int.ofNat_le, Nat.not_lt, Nat.not_le] at h))
    first | (refine wpl_v S rfl rfl rfl (sv_loadAO S rfl rfl (by rfl)) ?_; clear S a; intro a S) | (refine wpl_v S rfl rfl rfl (sv_loadAF S rfl rfl (by assumption) (by rfl)) ?_; clear S a; intro a S)
    refine wpl_take S rfl rfl rfl ?_
    (first | (refine wpl_call0 S rfl rfl rfl rfl rfl rfl (mayCt F nm ar _ hT0) rfl ?_; clear S a; intro v a w hv S; subst hv) | (refine wpl_call0 S rfl rfl rfl rfl rfl rfl (mayCt F nm2 ar2 _ hT20) rfl ?_; clear S a; intro v a w hv S; subst hv))
    refine wpl_take S rfl rfl rfl ?_
    (refine wpl_v S rfl rfl rfl (sv_pure S rfl) ?_; clear S a; intro a S)
    first | (refine wpl_v S rfl rfl rfl (sv_pure S rfl) ?_; clear S a; intro a S) | (refine wpl_v S rfl rfl rfl (sv_pickB S rfl rfl rfl rfl) ?_; clear S a; intro a S)
    (refine wpl_v S rfl rfl rfl (sv_pure S rfl) ?_; clear S a; intro a S)
    refine wpList_nil ?_
    (refine hKq4 _ _ ?_; try (clear hKq4 Kq4))
    refine wpc_split S rfl (fun h => ?_) (fun h => ?_)
    · (skip; (try simp only [decide_eq_true_eq, decide_eq_false_iff_not, beq_iff_eq, bne_iff_ne, bne_eq_false_iff_eq, beq_eq_false_iff_ne, ne_eq, Bool.not_eq_true', Bool.not_eq_false', Bool.not_eq_true, Bool.not_eq_false, Bool.not_true, Bool.not_false, Int.ofNat_lt, Int.ofNat_le, Nat.not_lt, Nat.not_le] at h))
      (refine wp_seq_k ?_; intro Kq5 hKq5)
      refine wp_region_lit ?_
      (refine wpl_v S rfl rfl rfl (sv_pure S rfl) ?_; clear S a; intro a S)
      refine wpList_nil ?_
      (refine hKq5 _ _ ?_; try (clear hKq5 Kq5))
      refine wp_ret ?_
      (first | (have h99 := hA4; replace S : St _ _ _ _ _ F2 [[(tb, .cells ⟨[.slice aN T2.nd.length cN, .map (some mb2), .slice aP T2.nd.length cP, .slice aS T2.nd.length cS, .slice aL T2.nd.length cL, .int .i64 told3]⟩ 47 (0, 0))], [(mb2, mObj kS (mapV T4.vs))], gn3, gp3, gs3, gl3] _ _ := St.dropR (A := [_, _, _, _, _, _]) (St.permI S 15 rfl [2, 10, 11, 12, 13, 14, 0, 1, 3, 4, 5, 6, 7, 8, 9] (by decide))) | (replace S := St.dropR (A := Ga) S.drop1.drop1) | (replace S := S.drop1.drop1))
      
      refine fin_ret S (results1 Tryd.results12 (RV.tmp S rfl)) ?_
      (first | (have h99 := hA4; obtain ⟨hI5, σ', hT5, hM5⟩ := uni_yes hK2.i hK2.t hi12 hi2 hRx hR2 hJ hF9; exact ⟨0, σ', rfl, ⟨mb2, T4, A3, TabM.n (n := T2.nd.length) ⟨_, _, _, _, told3, _, _, _, _, rfl, ⟨⟨xs3, hN3, hNd3⟩, hP3, hS3, hL3⟩⟩ (by rw [hnd4, hnd3]), tk_uni (hnd4.trans hnd3) (hvs4.trans hvs3) hA4 hI5 hT5, by rw [hnd4, hnd3]; omega⟩, by unfold UniP; rw [if_pos ⟨hm1, hm2⟩]; exact .inl ⟨rfl, hM5⟩⟩) | (have h99 := hR4; have hb9 : b9 = true := (by first | assumption | simpa using h); exact ⟨70, σ, rfl, ⟨mb, T2, A2, hTaba, hK2, by omega⟩, by unfold UniP; rw [if_pos ⟨hm1, hm2⟩]; exact .inr ⟨rfl, rfl, fun θ hθ hab => (by obtain ⟨-, hm9, hj9⟩ := uni_no hK2.i hi12 hi2 hRx hR2 hJ hθ hab; exact hnf hb9 _ (mod_ranked hj9 hm9) (fun c hc => by simp [sget] at hc))⟩⟩) | (have h99 := hJ; have hr9 : r = false := (by first | assumption | simpa using h); exact ⟨70, σ, rfl, ⟨mb, T2, A2, hTaba, hK2, by omega⟩, by unfold UniP; rw [if_pos ⟨hm1, hm2⟩]; exact .inr ⟨rfl, rfl, fun θ hθ hab => (by obtain ⟨hr8, -, -⟩ := uni_no hK2.i hi12 hi2 hRx hR2 hJ hθ hab; rw [hr9] at hr8; cases hr8)⟩⟩) | (exact ⟨4, σ, rfl, hQ0.le (by omega), by unfold UniP; rw [if_neg (by rintro ⟨h1, h2⟩; simp_all)]; exact ⟨rfl, rfl⟩⟩) | trace_state)
    · (skip; (try simp only [decide_eq_true_eq, decide_eq_false_iff_not, beq_iff_eq, bne_iff_ne, bne_eq_false_iff_eq, beq_eq_false_iff_ne, ne_eq, Bool.not_eq_true', Bool.not_eq_false', Bool.not_eq_true, Bool.not_eq_false, Bool.not_true, Bool.not_false, Int.ofNat_lt, Int.ofNat_le, Nat.not_lt, Nat.not_le] at h))
      refine wp_skip ?_
      (refine hKq2 _ _ ?_; try (clear hKq2 Kq2))
      (refine wp_seq_k ?_; intro Kq5 hKq5)
      (obtain ⟨hm1, hm2⟩ : may nm ar = true ∧ may nm2 ar2 = true := (by constructor <;> first | assumption | (simp at *; done) | simp_all); have hsz := may_size hm1; have hsz2 := may_size hm2; have hlen9 := takeT_len nm ar T)
      (refine wpc_mixM [0, 1, 3, 4] [1, 4] [] (.one 0 (.one 1 (.one 3 (.one 4 (.one 2 (.one 5 (.one 6 (.one 7 .nil)))))))) [b4, b5] S mixed (by kernel_rfl) ?_; clear S; intro w S)
      (refine wpm_v S rfl rfl rfl (want_none _ rfl) rfl rfl (fun w' S => sv_pure S rfl) ?_; clear S a; intro a S)
      first | (refine wpm_lateO b4 S rfl rfl rfl (want_none _ rfl) rfl rfl (fun w' S => sv_loadO S rfl rfl (by rfl)) ?_; clear S a; intro a S) | (refine wpm_lateO b4 S rfl rfl rfl (want_none _ rfl) rfl rfl (fun w' S => sv_loadAO S rfl rfl (by rfl)) ?_; clear S a; intro a S)
      (refine wpm_v S rfl rfl rfl (want_none _ rfl) rfl rfl (fun w' S => sv_pure S rfl) ?_; clear S a; intro a S)
      first | (refine wpm_lateO b5 S rfl rfl rfl (want_none _ rfl) rfl rfl (fun w' S => sv_loadO S rfl rfl (by rfl)) ?_; clear S a; intro a S) | (refine wpm_lateO b5 S rfl rfl rfl (want_none _ rfl) rfl rfl (fun w' S => sv_loadAO S rfl rfl (by rfl)) ?_; clear S a; intro a S)
      refine wpm_eff rfl rfl (fun _ => ⟨fun b o h => S.tr.frz b o (by first | exact h | solve_by_elim), S.has inferInstance, S.has inferInstance, trivial⟩) ?_
      (first | (refine wpl_call (Gs := G) (Gr := [[(b5, _)], [(b4, _)]]) S rfl rfl rfl rfl rfl rfl (takeCt tb mb (ar.size + 1) F nm ar _ T G (by omega) hT0 hTab (by omega)) rfl (grp_perm (A := [[(b5, _)], [(b4, _)]])) ?_; clear S a; intro u9 F1 G1 a w hv hF1 S; obtain ⟨rfl, hTab1⟩ := hv; obtain ⟨A1, ⟨hK1, hX1⟩, hi1, hR1⟩ := takeT_law hK (may_ok hm1); replace S : St _ _ _ _ _ F1 ([(b5, _)] :: [(b4, _)] :: G1) _ _ := St.rotL S; generalize (takeT nm ar T).1 = T1 at hTab1 hK1 hX1 hi1 hR1 hlen9 S; generalize (takeT nm ar T).2 = x1 at hi1 hR1 S) | (have hlen10 := takeT_len nm2 ar2 T1; refine wpl_call (Gs := G1) (Gr := [[(b5, _)], [(b4, _)]]) S rfl rfl rfl rfl rfl rfl (takeCt tb mb (ar2.size + 1) F1 nm2 ar2 _ T1 G1 (by omega) (hT20.mono hF1) hTab1 (by omega)) rfl (grp_perm (A := [[(b5, _)], [(b4, _)]])) ?_; clear S a; intro u9 F2 G2 a w hv hF2 S; obtain ⟨rfl, hTab2⟩ := hv; obtain ⟨A2, ⟨hK2, hX2⟩, hi2, hR2⟩ := takeT_law hK1 (may_ok hm2); replace S : St _ _ _ _ _ F2 ([(b5, _)] :: [(b4, _)] :: G2) _ _ := St.rotL S; generalize (takeT nm2 ar2 T1).1 = T2 at hTab2 hK2 hX2 hi2 hR2 hlen10 S; generalize (takeT nm2 ar2 T1).2 = x2 at hi2 hR2 S; have hRx := Res.ext hK1.i.j.w hX2 hi1 hR1; have hi12 : x1 < T2.nd.length := Nat.lt_of_lt_of_le hi1 hX2.len))
      refine wpList_nil ?_
      refine wpm_eff rfl rfl (fun _ => ⟨fun b o h => S.tr.frz b o (by first | exact h | solve_by_elim), S.has inferInstance, S.has inferInstance, trivial⟩) ?_
      (first | (refine wpl_call (Gs := G) (Gr := [[(b5, _)], [(b4, _)]]) S rfl rfl rfl rfl rfl rfl (takeCt tb mb (ar.size + 1) F nm ar _ T G (by omega) hT0 hTab (by omega)) rfl (grp_perm (A := [[(b5, _)], [(b4, _)]])) ?_; clear S a; intro u9 F1 G1 a w hv hF1 S; obtain ⟨rfl, hTab1⟩ := hv; obtain ⟨A1, ⟨hK1, hX1⟩, hi1, hR1⟩ := takeT_law hK (may_ok hm1); replace S : St _ _ _ _ _ F1 ([(b5, _)] :: [(b4, _)] :: G1) _ _ := St.rotL S; generalize (takeT nm ar T).1 = T1 at hTab1 hK1 hX1 hi1 hR1 hlen9 S; generalize (takeT nm ar T).2 = x1 at hi1 hR1 S) | (have hlen10 := takeT_len nm2 ar2 T1; refine wpl_call (Gs := G1) (Gr := [[(b5, _)], [(b4, _)]]) S rfl rfl rfl rfl rfl rfl (takeCt tb mb (ar2.size + 1) F1 nm2 ar2 _ T1 G1 (by omega) (hT20.mono hF1) hTab1 (by omega)) rfl (grp_perm (A := [[(b5, _)], [(b4, _)]])) ?_; clear S a; intro u9 F2 G2 a w hv hF2 S; obtain ⟨rfl, hTab2⟩ := hv; obtain ⟨A2, ⟨hK2, hX2⟩, hi2, hR2⟩ := takeT_law hK1 (may_ok hm2); replace S : St _ _ _ _ _ F2 ([(b5, _)] :: [(b4, _)] :: G2) _ _ := St.rotL S; generalize (takeT nm2 ar2 T1).1 = T2 at hTab2 hK2 hX2 hi2 hR2 hlen10 S; generalize (takeT nm2 ar2 T1).2 = x2 at hi2 hR2 S; have hRx := Res.ext hK1.i.j.w hX2 hi1 hR1; have hi12 : x1 < T2.nd.length := Nat.lt_of_lt_of_le hi1 hX2.len))
      refine wpList_nil ?_
      refine wpm_eff rfl rfl (fun _ => ⟨fun b o h => S.tr.frz b o (by first | exact h | solve_by_elim), S.has inferInstance, S.has inferInstance, trivial⟩) ?_
      (refine wpl_v S rfl rfl rfl (sv_pure S rfl) ?_; clear S a; intro a S)
      refine wpList_nil ?_
      refine wpm_eff rfl rfl (fun _ => ⟨fun b o h => S.tr.frz b o (by first | exact h | solve_by_elim), S.has inferInstance, S.has inferInstance, trivial⟩) ?_
      (refine wpl_v S rfl rfl rfl (sv_pure S rfl) ?_; clear S a; intro a S)
      refine wpList_nil ?_
      refine wpm_nil (fun _ => ⟨fun b o h => S.tr.frz b o (by first | exact h | solve_by_elim), S.has inferInstance, S.has inferInstance, trivial⟩) ?_
      (refine hKq5 _ _ ?_; try (clear hKq5 Kq5))
      (refine wp_seq_k ?_; intro Kq6 hKq6)
      refine wp_region_lit ?_
      (refine wpl_v S rfl rfl rfl (sv_pure S rfl) ?_; clear S a; intro a S)
      (refine wpl_callOwn (Gs := G2) (Gr := [[(b5, _)], [(b4, _)]]) S rfl rfl rfl rfl rfl rfl (copyCt F2 tb mb T2 T2.nd.length G2 (by omega) (by omega) hTab2) rfl (grp_perm (A := [[(b5, _)], [(b4, _)]])) ?_; clear S a; intro u9 G9 a w hv S; obtain ⟨tb2, mb2, Ga, Gb, rfl, rfl, hTaba, hTabb⟩ := hv; replace S : St _ _ _ _ _ F2 ([(b5, _)] :: [(b4, _)] :: (Ga ++ Gb)) _ _ := St.rotL S)
      (refine wpl_v S rfl rfl rfl (sv_pure S rfl) ?_; clear S a; intro a S)
      refine wpList_nil ?_
      (refine hKq6 _ _ ?_; try (clear hKq6 Kq6))
      (refine wp_seq_k ?_; intro Kq7 hKq7)
      (refine wp_seq_k ?_; intro Kq8 hKq8)
      refine wp_region_lit ?_
      (refine wpl_v S rfl rfl rfl (sv_pure S rfl) ?_; clear S a; intro a S)
      (refine wpl_v S rfl rfl rfl (sv_pure S rfl) ?_; clear S a; intro a S)
      (refine wpl_v S rfl rfl rfl (sv_pure S rfl) ?_; clear S a; intro a S)
      (replace S : St _ _ _ _ _ F2 (([(b5, .cells ⟨[.string (bs nm2), .slice ao2 ar2.len cap2]⟩ 36 (0, 0))] :: [(b4, .cells ⟨[.string (bs nm), .slice ao ar.len cap]⟩ 36 (0, 0))] :: Ga) ++ Gb) _ _ := S; refine wpl_callOwn (Gs := Gb) (Gr := [(b5, _)] :: [(b4, _)] :: Ga) S rfl rfl rfl rfl rfl rfl (joinCt F2 tb2 mb2 T2 T2.nd.length x1 x2 Gb A2 rfl (by omega) hTabb hK2.r hK2.i.j.w hi12 hi2) rfl (grp_perm (A := [(b5, _)] :: [(b4, _)] :: Ga)) ?_; clear S a; intro u9 Gj a w hv S; obtain ⟨r, A3, rfl, hJ, hJ2⟩ := hv; replace S : St _ _ _ _ _ F2 ([(b5, _)] :: [(b4, _)] :: (Ga ++ Gj)) _ _ := St.rotL S)
      (refine wpl_v S rfl rfl rfl (sv_pure S rfl) ?_; clear S a; intro a S)
      (refine wpl_v S rfl rfl rfl (sv_pure S rfl) ?_; clear S a; intro a S)
      refine wpl_guard S rfl rfl rfl rfl rfl ?_ ?_
      · (intro h S'; clear S; have S := S'; clear S'; (try simp only [decide_eq_true_eq, decide_eq_false_iff_not, beq_iff_eq, bne_iff_ne, bne_eq_false_iff_eq, beq_eq_false_iff_ne, ne_eq, Bool.not_eq_true', Bool.not_eq_false', Bool.not_eq_true, Bool.not_eq_false, Bool.not_true, Bool.not_false, Int.ofNat_lt, Int.ofNat_le, Nat.not_lt, Nat.not_le] at h))
        (refine wpl_v S rfl rfl rfl (sv_pure S rfl) ?_; clear S a; intro a S)
        refine wpl_take S rfl rfl rfl ?_
        (refine wpl_v S rfl rfl rfl (sv_pure S rfl) ?_; clear S a; intro a S)
        refine wpl_take S rfl rfl rfl ?_
        (refine wpl_makeMap kS S rfl rfl rfl rfl ?_; clear S a; intro b38 a w S)
        refine wpl_take S rfl rfl rfl ?_
        (have hr : r = true := (by first | assumption | simpa using h); subst hr; obtain ⟨T3, hnd3, hvs3, hA3, hW3, hTab3⟩ := hJ2 rfl; replace S : St _ _ _ _ _ F2 ([(b38, mObj kI (stV []))] :: (([(b5, .cells ⟨[.string (bs nm2), .slice ao2 ar2.len cap2]⟩ 36 (0, 0))] :: [(b4, .cells ⟨[.string (bs nm), .slice ao ar.len cap]⟩ 36 (0, 0))] :: Ga) ++ Gj)) _ _ := S; refine wpl_callOwn (Gs := [(b38, mObj kI (stV []))] :: Gj) (Gr := [(b5, _)] :: [(b4, _)] :: Ga) S rfl rfl rfl rfl rfl rfl (roundCt F2 tb2 mb2 T2.nd.length T2.nd A3 rfl (by omega) hW3 (unv [] T2.nd.length + 1) T3 Gj x1 b38 [] (by omega) hnd3 hTab3 hA3 hi12 ⟨fun c v h => (by simp [sget] at h), fun c h => (by simp [sget] at h)⟩) rfl (List.Perm.cons _ (grp_perm (A := [(b5, _)] :: [(b4, _)] :: Ga))) ?_; clear S a; intro u9 G9 a w hv S; obtain ⟨b9, T4, l9, GG4, rfl, rfl, hR4, hfi, hnf⟩ := hv; replace S : St _ _ _ _ _ F2 ([(b5, _)] :: [(b4, _)] :: (Ga ++ ([(b38, mObj kI (stV l9))] :: GG4))) _ _ := St.rotL S)
        first | (refine wpl_v S rfl rfl rfl (sv_pure S rfl) ?_; clear S a; intro a S) | (refine wpl_v S rfl rfl rfl (sv_pickB S rfl rfl rfl rfl) ?_; clear S a; intro a S)
        refine wpList_nil ?_
        (refine hKq8 _ _ ?_; try (clear hKq8 Kq8))
        refine wpc_split S rfl (fun h => ?_) (fun h => ?_)
        · (skip; (try simp only [decide_eq_true_eq, decide_eq_false_iff_not, beq_iff_eq, bne_iff_ne, bne_eq_false_iff_eq, beq_eq_false_iff_ne, ne_eq, Bool.not_eq_true', Bool.not_eq_false', Bool.not_eq_true, Bool.not_eq_false, Bool.not_true, Bool.not_false, Int.ofNat_lt, Int.ofNat_le, Nat.not_lt, Nat.not_le] at h))
          (refine wp_seq_k ?_; intro Kq9 hKq9)
          refine wp_region_lit ?_
          (refine wpl_v S rfl rfl rfl (sv_pure S rfl) ?_; clear S a; intro a S)
          refine wpList_nil ?_
          (refine hKq9 _ _ ?_; try (clear hKq9 Kq9))
          refine wp_ret ?_
          (first | (have h99 := hA4; replace S : St _ _ _ _ _ F2 [[(tb, .cells ⟨[.slice aN T2.nd.length cN, .map (some mb2), .slice aP T2.nd.length cP, .slice aS T2.nd.length cS, .slice aL T2.nd.length cL, .int .i64 told3]⟩ 47 (0, 0))], [(mb2, mObj kS (mapV T4.vs))], gn3, gp3, gs3, gl3] _ _ := St.dropR (A := [_, _, _, _, _, _]) (St.permI S 15 rfl [2, 10, 11, 12, 13, 14, 0, 1, 3, 4, 5, 6, 7, 8, 9] (by decide))) | (replace S := St.dropR (A := Ga) S.drop1.drop1) | (replace S := S.drop1.drop1))
          
          refine fin_ret S (results1 Tryd.results12 (RV.tmp S rfl)) ?_
          (first | (have h99 := hA4; obtain ⟨hI5, σ', hT5, hM5⟩ := uni_yes hK2.i hK2.t hi12 hi2 hRx hR2 hJ hF9; exact ⟨0, σ', rfl, ⟨mb2, T4, A3, TabM.n (n := T2.nd.length) ⟨_, _, _, _, told3, _, _, _, _, rfl, ⟨⟨xs3, hN3, hNd3⟩, hP3, hS3, hL3⟩⟩ (by rw [hnd4, hnd3]), tk_uni (hnd4.trans hnd3) (hvs4.trans hvs3) hA4 hI5 hT5, by rw [hnd4, hnd3]; omega⟩, by unfold UniP; rw [if_pos ⟨hm1, hm2⟩]; exact .inl ⟨rfl, hM5⟩⟩) | (have h99 := hR4; have hb9 : b9 = true := (by first | assumption | simpa using h); exact ⟨70, σ, rfl, ⟨mb, T2, A2, hTaba, hK2, by omega⟩, by unfold UniP; rw [if_pos ⟨hm1, hm2⟩]; exact .inr ⟨rfl, rfl, fun θ hθ hab => (by obtain ⟨-, hm9, hj9⟩ := uni_no hK2.i hi12 hi2 hRx hR2 hJ hθ hab; exact hnf hb9 _ (mod_ranked hj9 hm9) (fun c hc => by simp [sget] at hc))⟩⟩) | (have h99 := hJ; have hr9 : r = false := (by first | assumption | simpa using h); exact ⟨70, σ, rfl, ⟨mb, T2, A2, hTaba, hK2, by omega⟩, by unfold UniP; rw [if_pos ⟨hm1, hm2⟩]; exact .inr ⟨rfl, rfl, fun θ hθ hab => (by obtain ⟨hr8, -, -⟩ := uni_no hK2.i hi12 hi2 hRx hR2 hJ hθ hab; rw [hr9] at hr8; cases hr8)⟩⟩) | (exact ⟨4, σ, rfl, hQ0.le (by omega), by unfold UniP; rw [if_neg (by rintro ⟨h1, h2⟩; simp_all)]; exact ⟨rfl, rfl⟩⟩) | trace_state)
        · (skip; (try simp only [decide_eq_true_eq, decide_eq_false_iff_not, beq_iff_eq, bne_iff_ne, bne_eq_false_iff_eq, beq_eq_false_iff_ne, ne_eq, Bool.not_eq_true', Bool.not_eq_false', Bool.not_eq_true, Bool.not_eq_false, Bool.not_true, Bool.not_false, Int.ofNat_lt, Int.ofNat_le, Nat.not_lt, Nat.not_le] at h))
          refine wp_skip ?_
          (refine hKq7 _ _ ?_; try (clear hKq7 Kq7))
          (refine wp_seq_k ?_; intro Kq9 hKq9)
          (have hb9 : b9 = false := (by first | assumption | simpa using h); subst hb9; obtain ⟨-, hF9⟩ := hfi rfl; obtain ⟨hnd4, hvs4, hTab4, hA4⟩ := hR4; obtain ⟨vn, vp, vt, vl, told, gn, gp, gs, gl, rfl, hTMa⟩ := hTaba; obtain ⟨vn3, vp3, vt3, vl3, told3, gn3, gp3, gs3, gl3, rfl, ⟨xs3, hN3, hNd3⟩, hP3, hS3, hL3⟩ := hTab4; obtain ⟨aN, cN, rfl, -⟩ := hN3.at; obtain ⟨aP, cP, rfl, -⟩ := hP3.at; obtain ⟨aS, cS, rfl, -⟩ := hS3.at; obtain ⟨aL, cL, rfl, -⟩ := hL3.at; (simp only [GT, List.cons_append, List.nil_append] at S))
          refine wp_region_lit ?_
          (refine wpl_v S rfl rfl rfl (sv_pure S rfl) ?_; clear S a; intro a S)
          (refine wpl_v S rfl rfl rfl (sv_pure S rfl) ?_; clear S a; intro a S)
          (refine wpl_v S rfl rfl rfl (sv_nilCheck S rfl rfl) ?_; clear S a; intro a S)
          first | (refine wpl_v S rfl rfl rfl (sv_loadAO S rfl rfl (by rfl)) ?_; clear S a; intro a S) | (refine wpl_v S rfl rfl rfl (sv_loadAF S rfl rfl (by assumption) (by rfl)) ?_; clear S a; intro a S)
          (refine wpl_v S rfl rfl rfl (sv_nilCheck S rfl rfl) ?_; clear S a; intro a S)
          (refine wpl_storeO S rfl rfl rfl rfl rfl (by rfl) (by simp [Value.cells, Value.oneCell', splice]) (by rfl) ?_; clear S; intro w S)
          refine wpList_nil ?_
          (refine hKq9 _ _ ?_; try (clear hKq9 Kq9))
          (refine wp_seq_k ?_; intro Kq10 hKq10)
          refine wp_region_lit ?_
          (refine wpl_v S rfl rfl rfl (sv_pure S rfl) ?_; clear S a; intro a S)
          refine wpList_nil ?_
          (refine hKq10 _ _ ?_; try (clear hKq10 Kq10))
          refine wp_ret ?_
          (first | (have h99 := hA4; replace S : St _ _ _ _ _ F2 [[(tb, .cells ⟨[.slice aN T2.nd.length cN, .map (some mb2), .slice aP T2.nd.length cP, .slice aS T2.nd.length cS, .slice aL T2.nd.length cL, .int .i64 told3]⟩ 47 (0, 0))], [(mb2, mObj kS (mapV T4.vs))], gn3, gp3, gs3, gl3] _ _ := St.dropR (A := [_, _, _, _, _, _]) (St.permI S 15 rfl [2, 10, 11, 12, 13, 14, 0, 1, 3, 4, 5, 6, 7, 8, 9] (by decide))) | (replace S := St.dropR (A := Ga) S.drop1.drop1) | (replace S := S.drop1.drop1))
          
          refine fin_ret S (results1 Tryd.results12 (RV.tmp S rfl)) ?_
          (first | (have h99 := hA4; obtain ⟨hI5, σ', hT5, hM5⟩ := uni_yes hK2.i hK2.t hi12 hi2 hRx hR2 hJ hF9; exact ⟨0, σ', rfl, ⟨mb2, T4, A3, TabM.n (n := T2.nd.length) ⟨_, _, _, _, told3, _, _, _, _, rfl, ⟨⟨xs3, hN3, hNd3⟩, hP3, hS3, hL3⟩⟩ (by rw [hnd4, hnd3]), tk_uni (hnd4.trans hnd3) (hvs4.trans hvs3) hA4 hI5 hT5, by rw [hnd4, hnd3]; omega⟩, by unfold UniP; rw [if_pos ⟨hm1, hm2⟩]; exact .inl ⟨rfl, hM5⟩⟩) | (have h99 := hR4; have hb9 : b9 = true := (by first | assumption | simpa using h); exact ⟨70, σ, rfl, ⟨mb, T2, A2, hTaba, hK2, by omega⟩, by unfold UniP; rw [if_pos ⟨hm1, hm2⟩]; exact .inr ⟨rfl, rfl, fun θ hθ hab => (by obtain ⟨-, hm9, hj9⟩ := uni_no hK2.i hi12 hi2 hRx hR2 hJ hθ hab; exact hnf hb9 _ (mod_ranked hj9 hm9) (fun c hc => by simp [sget] at hc))⟩⟩) | (have h99 := hJ; have hr9 : r = false := (by first | assumption | simpa using h); exact ⟨70, σ, rfl, ⟨mb, T2, A2, hTaba, hK2, by omega⟩, by unfold UniP; rw [if_pos ⟨hm1, hm2⟩]; exact .inr ⟨rfl, rfl, fun θ hθ hab => (by obtain ⟨hr8, -, -⟩ := uni_no hK2.i hi12 hi2 hRx hR2 hJ hθ hab; rw [hr9] at hr8; cases hr8)⟩⟩) | (exact ⟨4, σ, rfl, hQ0.le (by omega), by unfold UniP; rw [if_neg (by rintro ⟨h1, h2⟩; simp_all)]; exact ⟨rfl, rfl⟩⟩) | trace_state)
      · (intro h; clear S a; intro a S; (try simp only [decide_eq_true_eq, decide_eq_false_iff_not, beq_iff_eq, bne_iff_ne, bne_eq_false_iff_eq, beq_eq_false_iff_ne, ne_eq, Bool.not_eq_true', Bool.not_eq_false', Bool.not_eq_true, Bool.not_eq_false, Bool.not_true, Bool.not_false, Int.ofNat_lt, Int.ofNat_le, Nat.not_lt, Nat.not_le] at h))
        (refine wpl_skip S rfl rfl rfl rfl rfl ?_; clear S a; intro a S)
        (refine wpl_skip S rfl rfl rfl rfl rfl ?_; clear S a; intro a S)
        (refine wpl_skip S rfl rfl rfl rfl rfl ?_; clear S a; intro a S)
        first | (refine wpl_v S rfl rfl rfl (sv_pure S rfl) ?_; clear S a; intro a S) | (refine wpl_v S rfl rfl rfl (sv_pickB S rfl rfl rfl rfl) ?_; clear S a; intro a S)
        refine wpList_nil ?_
        (refine hKq8 _ _ ?_; try (clear hKq8 Kq8))
        refine wpc_true S rfl ?_
        (refine wp_seq_k ?_; intro Kq9 hKq9)
        refine wp_region_lit ?_
        (refine wpl_v S rfl rfl rfl (sv_pure S rfl) ?_; clear S a; intro a S)
        refine wpList_nil ?_
        (refine hKq9 _ _ ?_; try (clear hKq9 Kq9))
        refine wp_ret ?_
        (first | (have h99 := hA4; replace S : St _ _ _ _ _ F2 [[(tb, .cells ⟨[.slice aN T2.nd.length cN, .map (some mb2), .slice aP T2.nd.length cP, .slice aS T2.nd.length cS, .slice aL T2.nd.length cL, .int .i64 told3]⟩ 47 (0, 0))], [(mb2, mObj kS (mapV T4.vs))], gn3, gp3, gs3, gl3] _ _ := St.dropR (A := [_, _, _, _, _, _]) (St.permI S 15 rfl [2, 10, 11, 12, 13, 14, 0, 1, 3, 4, 5, 6, 7, 8, 9] (by decide))) | (replace S := St.dropR (A := Ga) S.drop1.drop1) | (replace S := S.drop1.drop1))
        
        refine fin_ret S (results1 Tryd.results12 (RV.tmp S rfl)) ?_
        (first | (have h99 := hA4; obtain ⟨hI5, σ', hT5, hM5⟩ := uni_yes hK2.i hK2.t hi12 hi2 hRx hR2 hJ hF9; exact ⟨0, σ', rfl, ⟨mb2, T4, A3, TabM.n (n := T2.nd.length) ⟨_, _, _, _, told3, _, _, _, _, rfl, ⟨⟨xs3, hN3, hNd3⟩, hP3, hS3, hL3⟩⟩ (by rw [hnd4, hnd3]), tk_uni (hnd4.trans hnd3) (hvs4.trans hvs3) hA4 hI5 hT5, by rw [hnd4, hnd3]; omega⟩, by unfold UniP; rw [if_pos ⟨hm1, hm2⟩]; exact .inl ⟨rfl, hM5⟩⟩) | (have h99 := hR4; have hb9 : b9 = true := (by first | assumption | simpa using h); exact ⟨70, σ, rfl, ⟨mb, T2, A2, hTaba, hK2, by omega⟩, by unfold UniP; rw [if_pos ⟨hm1, hm2⟩]; exact .inr ⟨rfl, rfl, fun θ hθ hab => (by obtain ⟨-, hm9, hj9⟩ := uni_no hK2.i hi12 hi2 hRx hR2 hJ hθ hab; exact hnf hb9 _ (mod_ranked hj9 hm9) (fun c hc => by simp [sget] at hc))⟩⟩) | (have h99 := hJ; have hr9 : r = false := (by first | assumption | simpa using h); exact ⟨70, σ, rfl, ⟨mb, T2, A2, hTaba, hK2, by omega⟩, by unfold UniP; rw [if_pos ⟨hm1, hm2⟩]; exact .inr ⟨rfl, rfl, fun θ hθ hab => (by obtain ⟨hr8, -, -⟩ := uni_no hK2.i hi12 hi2 hRx hR2 hJ hθ hab; rw [hr9] at hr8; cases hr8)⟩⟩) | (exact ⟨4, σ, rfl, hQ0.le (by omega), by unfold UniP; rw [if_neg (by rintro ⟨h1, h2⟩; simp_all)]; exact ⟨rfl, rfl⟩⟩) | trace_state)
  · (intro h; clear S a; intro a S; (try simp only [decide_eq_true_eq, decide_eq_false_iff_not, beq_iff_eq, bne_iff_ne, bne_eq_false_iff_eq, beq_eq_false_iff_ne, ne_eq, Bool.not_eq_true', Bool.not_eq_false', Bool.not_eq_true, Bool.not_eq_false, Bool.not_true, Bool.not_false, Int.ofNat_lt, Int.ofNat_le, Nat.not_lt, Nat.not_le] at h))
    (refine wpl_skip S rfl rfl rfl rfl rfl ?_; clear S a; intro a S)
    (refine wpl_skip S rfl rfl rfl rfl rfl ?_; clear S a; intro a S)
    first | (refine wpl_v S rfl rfl rfl (sv_pure S rfl) ?_; clear S a; intro a S) | (refine wpl_v S rfl rfl rfl (sv_pickB S rfl rfl rfl rfl) ?_; clear S a; intro a S)
    (refine wpl_v S rfl rfl rfl (sv_pure S rfl) ?_; clear S a; intro a S)
    refine wpList_nil ?_
    (refine hKq4 _ _ ?_; try (clear hKq4 Kq4))
    refine wpc_true S rfl ?_
    (refine wp_seq_k ?_; intro Kq5 hKq5)
    refine wp_region_lit ?_
    (refine wpl_v S rfl rfl rfl (sv_pure S rfl) ?_; clear S a; intro a S)
    refine wpList_nil ?_
    (refine hKq5 _ _ ?_; try (clear hKq5 Kq5))
    refine wp_ret ?_
    (first | (have h99 := hA4; replace S : St _ _ _ _ _ F2 [[(tb, .cells ⟨[.slice aN T2.nd.length cN, .map (some mb2), .slice aP T2.nd.length cP, .slice aS T2.nd.length cS, .slice aL T2.nd.length cL, .int .i64 told3]⟩ 47 (0, 0))], [(mb2, mObj kS (mapV T4.vs))], gn3, gp3, gs3, gl3] _ _ := St.dropR (A := [_, _, _, _, _, _]) (St.permI S 15 rfl [2, 10, 11, 12, 13, 14, 0, 1, 3, 4, 5, 6, 7, 8, 9] (by decide))) | (replace S := St.dropR (A := Ga) S.drop1.drop1) | (replace S := S.drop1.drop1))
    
    refine fin_ret S (results1 Tryd.results12 (RV.tmp S rfl)) ?_
    (first | (have h99 := hA4; obtain ⟨hI5, σ', hT5, hM5⟩ := uni_yes hK2.i hK2.t hi12 hi2 hRx hR2 hJ hF9; exact ⟨0, σ', rfl, ⟨mb2, T4, A3, TabM.n (n := T2.nd.length) ⟨_, _, _, _, told3, _, _, _, _, rfl, ⟨⟨xs3, hN3, hNd3⟩, hP3, hS3, hL3⟩⟩ (by rw [hnd4, hnd3]), tk_uni (hnd4.trans hnd3) (hvs4.trans hvs3) hA4 hI5 hT5, by rw [hnd4, hnd3]; omega⟩, by unfold UniP; rw [if_pos ⟨hm1, hm2⟩]; exact .inl ⟨rfl, hM5⟩⟩) | (have h99 := hR4; have hb9 : b9 = true := (by first | assumption | simpa using h); exact ⟨70, σ, rfl, ⟨mb, T2, A2, hTaba, hK2, by omega⟩, by unfold UniP; rw [if_pos ⟨hm1, hm2⟩]; exact .inr ⟨rfl, rfl, fun θ hθ hab => (by obtain ⟨-, hm9, hj9⟩ := uni_no hK2.i hi12 hi2 hRx hR2 hJ hθ hab; exact hnf hb9 _ (mod_ranked hj9 hm9) (fun c hc => by simp [sget] at hc))⟩⟩) | (have h99 := hJ; have hr9 : r = false := (by first | assumption | simpa using h); exact ⟨70, σ, rfl, ⟨mb, T2, A2, hTaba, hK2, by omega⟩, by unfold UniP; rw [if_pos ⟨hm1, hm2⟩]; exact .inr ⟨rfl, rfl, fun θ hθ hab => (by obtain ⟨hr8, -, -⟩ := uni_no hK2.i hi12 hi2 hRx hR2 hJ hθ hab; rw [hr9] at hr8; cases hr8)⟩⟩) | (exact ⟨4, σ, rfl, hQ0.le (by omega), by unfold UniP; rw [if_neg (by rintro ⟨h1, h2⟩; simp_all)]; exact ⟨rfl, rfl⟩⟩) | trace_state)
end Go.Proofs.YtcjnmehpkcblfaaDoor
