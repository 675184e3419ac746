/- The walk of find. -/
import Derived.Test.YtcjnmehpkcblfaaDoorUnT
import Derived.Test.YtcjnmehpkcblfaaDoorUnR
namespace Go.Proofs.YtcjnmehpkcblfaaDoor
open Go Go.Wk Go.Un
set_option linter.unusedSimpArgs false
set_option linter.unusedVariables false
attribute [local irreducible] Go.wpList Go.Code.wp Go.wpStill Go.Wk.wpPre Go.bodyPost Go.Calls Go.Wk.Ct Go.Wk.OwnS
attribute [local irreducible] Go.Wk.wpG Go.Wk.wpM

theorem inn {pa : List Nat} {ex : List Value} {i j : Nat} (h : pa[i]? = some j) : (intsN pa ++ ex)[0 + i * 1]? = some (.int .i64 (j : Int)) := by
  have hl := (List.getElem?_eq_some_iff.1 h).1
  rw [Nat.mul_one, Nat.zero_add, List.getElem?_append_left (by rw [intsN_len]; exact hl), intsN, List.getElem?_map, h]; rfl
theorem inn_set {pa : List Nat} {ex : List Value} {i : Nat} (j : Nat) (h : i < pa.length) : (intsN pa ++ ex).set (0 + i * 1) (.int .i64 (j : Int)) = intsN (pa.set i j) ++ ex := by
  rw [Nat.mul_one, Nat.zero_add, List.set_append_left _ _ (by rw [intsN_len]; exact h), intsN, intsN, List.map_set]
set_option maxHeartbeats 4000000 in
theorem findCt (F : Heap) (tb mb : Nat) (T : Tb) (n : Nat) (G : List Grp) (i r k0 : Nat) (hn : n ≤ 100000000) (h : TabM F tb mb T n G) (hr : RootN T.pa k0 i r) :
    Ct Tryd.prog 41 [.pointer (some ⟨tb, 0, none⟩), .int .i64 i] F G (fun _ G' u => u = .int .i64 r ∧ ∃ pa', Pars T.pa pa' ∧ TabM F tb mb { T with pa := pa' } n G') := by
  obtain ⟨vn, vp, vt, vl, told, gn, gp, gs, gl, rfl, hN, hP, hS, hL⟩ := h
  have hlp := ownS_len hP
  rw [intsN_len, Nat.mul_one] at hlp
  have hil := hr.lt
  obtain ⟨bp, cp, ex, rfl, rfl, hcp1, hcp2, -, hex⟩ := ownS_blk hP (by omega)
  unfold GT
  refine Ct.enter Tryd.func41 rfl Tryd.ntmps41 rfl fun w0 a S => ?_
  (refine wp_seq_k ?_; intro Kq1 hKq1)
  refine wp_region_lit ?_
  (refine wpl_v S rfl rfl rfl (sv_pure S rfl) ?_; clear S a; intro a S)
  refine wpList_nil ?_
  (refine hKq1 _ _ ?_; try (clear hKq1 Kq1))
  (refine wp_seq_k ?_; intro Kq2 hKq2)
  refine wp_block ?_
  refine wpc_loop (fun m a w' => ∃ (pa' : List Nat) (i : Nat), Pars T.pa pa' ∧ RootN pa' m i r ∧ St 41 [(0, .pointer (some ⟨tb, 0, none⟩)), (1, .int .i64 i)] w0 F (keys [[(tb, .cells ⟨[vn, .map (some mb), .slice (some ⟨bp, 0, none⟩) n cp, vt, vl, .int .i64 told]⟩ 47 (0, 0))], [(mb, mObj kS (mapV T.vs))], gn, [(bp, .cells ⟨intsN T.pa ++ ex⟩ 3 (0, 0))], gs, gl]) F [[(tb, .cells ⟨[vn, .map (some mb), .slice (some ⟨bp, 0, none⟩) n cp, vt, vl, .int .i64 told]⟩ 47 (0, 0))], [(mb, mObj kS (mapV T.vs))], gn, [(bp, .cells ⟨intsN pa' ++ ex⟩ 3 (0, 0))], gs, gl] a w') ?_ ?_
  · (refine ⟨k0, T.pa, i, Pars.refl _, hr, ?_⟩; refine S.keep ?_; repeat (first | exact trivial | refine ⟨rfl, ?_⟩))
  · (clear S; rintro m a w ⟨pa', i, hfd, hr', S⟩; have hil' := hr'.lt; have hpl := hfd.1; obtain ⟨j, hj⟩ : ∃ j, pa'[i]? = some j := ⟨_, List.getElem?_eq_getElem hil'⟩)
    (refine wp_seq_k ?_; intro Kq3 hKq3)
    (refine wp_seq_k ?_; intro Kq4 hKq4)
    refine wp_region_lit ?_
    (refine wpl_v S rfl rfl rfl (sv_pure S rfl) ?_; clear S a; intro a S)
    (refine wpl_v S rfl rfl rfl (sv_nilCheck S rfl rfl) ?_; clear S a; intro a S)
    (refine wpl_v S rfl rfl rfl (sv_fieldAddr S rfl rfl rfl inferInstance rfl) ?_; clear S a; intro a S)
    first | (refine wpl_v S rfl rfl rfl (sv_loadO S rfl rfl (by rfl)) ?_; clear S a; intro a S) | (refine wpl_v S rfl rfl rfl (sv_loadF S rfl rfl (by assumption)) ?_; clear S a; intro a S) | (refine wpl_v S rfl rfl rfl (sv_loadO S rfl rfl (inn hj)) ?_; clear S a; intro a S) | (refine wpl_v S rfl rfl rfl (sv_loadO S rfl rfl (inn hg2)) ?_; clear S a; intro a S)
    (refine wpl_v S rfl rfl rfl (sv_pure S rfl) ?_; clear S a; intro a S)
    (refine wpl_v S rfl rfl rfl (sv_indexAddrSl S rfl rfl rfl (by first | omega | (simp only [List.length_append, List.length_cons, List.length_nil]; omega))) ?_; clear S a; intro a S)
    first | (refine wpl_v S rfl rfl rfl (sv_loadO S rfl rfl (by rfl)) ?_; clear S a; intro a S) | (refine wpl_v S rfl rfl rfl (sv_loadF S rfl rfl (by assumption)) ?_; clear S a; intro a S) | (refine wpl_v S rfl rfl rfl (sv_loadO S rfl rfl (inn hj)) ?_; clear S a; intro a S) | (refine wpl_v S rfl rfl rfl (sv_loadO S rfl rfl (inn hg2)) ?_; clear S a; intro a S)
    (refine wpl_v S rfl rfl rfl (sv_pure S rfl) ?_; clear S a; intro a S)
    (refine wpl_v S rfl rfl rfl (sv_pure S rfl) ?_; clear S a; intro a S)
    refine wpList_nil ?_
    (refine hKq4 _ _ ?_; try (clear hKq4 Kq4))
    refine wpc_split S rfl (fun h => ?_) (fun h => ?_)
    · (skip; (try simp only [decide_eq_true_eq, decide_eq_false_iff_not, beq_iff_eq, bne_iff_ne, bne_eq_false_iff_eq, beq_eq_false_iff_ne, ne_eq, Bool.not_eq_true', Bool.not_eq_false', Bool.not_eq_true, Bool.not_eq_false, Bool.not_true, Bool.not_false, Int.ofNat_lt, Int.ofNat_le, Nat.not_lt, Nat.not_le] at h))
      refine wp_skip ?_
      (refine hKq3 _ _ ?_; try (clear hKq3 Kq3))
      refine wp_block ?_
      (refine wp_seq_k ?_; intro Kq5 hKq5)
      (have hji : j ≠ i := (by omega); obtain ⟨g, hg⟩ : ∃ g, pa'[j]? = some g := (by cases m with | zero => (exact absurd (Option.some.inj (hj.symm.trans hr'.2)) hji) | succ m => (obtain ⟨j2, e1, e2, e3⟩ := hr'; rw [hj] at e1; cases e1; exact ⟨_, List.getElem?_eq_getElem e3.lt⟩)); have hjl : j < pa'.length := (List.getElem?_eq_some_iff.1 hg).1; obtain ⟨m', hm', hr2, hfd2⟩ := find_step hj hji hr' hg; have hg2 : (pa'.set i g)[i]? = some g := List.getElem?_set_self hil')
      (refine wpc_mixM [0, 1, 2, 3, 4, 5, 6, 7, 8, 9, 10, 11, 12, 13, 14, 15, 16, 17, 18] [3, 8, 12, 15, 17] [19] (.one 0 (.one 1 (.one 2 (.one 3 (.one 4 (.one 5 (.one 6 (.one 7 (.one 8 (.one 9 (.one 10 (.one 11 (.one 12 (.one 13 (.one 14 (.one 15 (.one 16 (.one 17 (.one 18 (.one 19 .nil)))))))))))))))))))) [tb, bp] S mixed (by kernel_rfl) ?_; clear S; intro w S)
      (refine wpm_v S rfl rfl rfl (want_none _ rfl) rfl rfl (fun w' S => sv_pure S rfl) ?_; clear S a; intro a S)
      (refine wpm_v S rfl rfl rfl (want_none _ rfl) rfl rfl (fun w' S => sv_nilCheck S rfl rfl) ?_; clear S a; intro a S)
      (refine wpm_v S rfl rfl rfl (want_none _ rfl) rfl rfl (fun w' S => sv_fieldAddr S rfl rfl rfl inferInstance rfl) ?_; clear S a; intro a S)
      first | (refine wpm_lateO tb S rfl rfl rfl (want_none _ rfl) rfl rfl (fun w' S => sv_loadO S rfl rfl (by rfl)) ?_; clear S a; intro a S) | (refine wpm_lateO tb S rfl rfl rfl (want_none _ rfl) rfl rfl (fun w' S => sv_loadAO S rfl rfl (by rfl)) ?_; clear S a; intro a S)
      (refine wpm_v S rfl rfl rfl (want_none _ rfl) rfl rfl (fun w' S => sv_pure S rfl) ?_; clear S a; intro a S)
      (refine wpm_v S rfl rfl rfl (want_none _ rfl) rfl rfl (fun w' S => sv_pure S rfl) ?_; clear S a; intro a S)
      (refine wpm_v S rfl rfl rfl (want_none _ rfl) rfl rfl (fun w' S => sv_nilCheck S rfl rfl) ?_; clear S a; intro a S)
      (refine wpm_v S rfl rfl rfl (want_none _ rfl) rfl rfl (fun w' S => sv_fieldAddr S rfl rfl rfl inferInstance rfl) ?_; clear S a; intro a S)
      first | (refine wpm_lateO tb S rfl rfl rfl (want_none _ rfl) rfl rfl (fun w' S => sv_loadO S rfl rfl (by rfl)) ?_; clear S a; intro a S) | (refine wpm_lateO tb S rfl rfl rfl (want_none _ rfl) rfl rfl (fun w' S => sv_loadAO S rfl rfl (by rfl)) ?_; clear S a; intro a S)
      (refine wpm_v S rfl rfl rfl (want_none _ rfl) rfl rfl (fun w' S => sv_pure S rfl) ?_; clear S a; intro a S)
      (refine wpm_v S rfl rfl rfl (want_none _ rfl) rfl rfl (fun w' S => sv_nilCheck S rfl rfl) ?_; clear S a; intro a S)
      (refine wpm_v S rfl rfl rfl (want_none _ rfl) rfl rfl (fun w' S => sv_fieldAddr S rfl rfl rfl inferInstance rfl) ?_; clear S a; intro a S)
      first | (refine wpm_lateO tb S rfl rfl rfl (want_none _ rfl) rfl rfl (fun w' S => sv_loadO S rfl rfl (by rfl)) ?_; clear S a; intro a S) | (refine wpm_lateO tb S rfl rfl rfl (want_none _ rfl) rfl rfl (fun w' S => sv_loadAO S rfl rfl (by rfl)) ?_; clear S a; intro a S)
      (refine wpm_v S rfl rfl rfl (want_none _ rfl) rfl rfl (fun w' S => sv_pure S rfl) ?_; clear S a; intro a S)
      (refine wpm_v S rfl rfl rfl (want_none _ rfl) rfl rfl (fun w' S => sv_indexAddrSl S rfl rfl rfl (by first | omega | (simp only [List.length_append, List.length_cons, List.length_nil]; omega))) ?_; clear S a; intro a S)
      (refine wpm_lateO bp S rfl rfl rfl (want_none _ rfl) rfl rfl (fun w' S => sv_loadO S rfl rfl (inn hj)) ?_; clear S a; intro a S)
      (refine wpm_v S rfl rfl rfl (want_none _ rfl) rfl rfl (fun w' S => sv_indexAddrSl S rfl rfl rfl (by first | omega | (simp only [List.length_append, List.length_cons, List.length_nil]; omega))) ?_; clear S a; intro a S)
      (refine wpm_lateO bp S rfl rfl rfl (want_none _ rfl) rfl rfl (fun w' S => sv_loadO S rfl rfl (inn hg)) ?_; clear S a; intro a S)
      (refine wpm_v S rfl rfl rfl (want_none _ rfl) rfl rfl (fun w' S => sv_indexAddrSl S rfl rfl rfl (by first | omega | (simp only [List.length_append, List.length_cons, List.length_nil]; omega))) ?_; clear S a; intro a S)
      refine wpm_eff rfl rfl (fun _ => ⟨fun b o h => S.tr.frz b o (by first | exact h | solve_by_elim), S.has inferInstance, S.has inferInstance, trivial⟩) ?_
      (refine wpl_store1 S rfl rfl rfl rfl rfl rfl (by simp [intsN_len]; omega) ?_; clear S; intro w S; rw [inn_set g (by omega)] at S)
      refine wpList_nil ?_
      refine wpm_nil (fun h => absurd h (by decide)) ?_
      (refine hKq5 _ _ ?_; try (clear hKq5 Kq5))
      refine wp_region_lit ?_
      (refine wpl_v S rfl rfl rfl (sv_pure S rfl) ?_; clear S a; intro a S)
      (refine wpl_v S rfl rfl rfl (sv_nilCheck S rfl rfl) ?_; clear S a; intro a S)
      (refine wpl_v S rfl rfl rfl (sv_fieldAddr S rfl rfl rfl inferInstance rfl) ?_; clear S a; intro a S)
      first | (refine wpl_v S rfl rfl rfl (sv_loadO S rfl rfl (by rfl)) ?_; clear S a; intro a S) | (refine wpl_v S rfl rfl rfl (sv_loadF S rfl rfl (by assumption)) ?_; clear S a; intro a S) | (refine wpl_v S rfl rfl rfl (sv_loadO S rfl rfl (inn hj)) ?_; clear S a; intro a S) | (refine wpl_v S rfl rfl rfl (sv_loadO S rfl rfl (inn hg2)) ?_; clear S a; intro a S)
      (refine wpl_v S rfl rfl rfl (sv_pure S rfl) ?_; clear S a; intro a S)
      (refine wpl_v S rfl rfl rfl (sv_indexAddrSl S rfl rfl rfl (by first | omega | (simp only [List.length_append, List.length_cons, List.length_nil]; omega))) ?_; clear S a; intro a S)
      first | (refine wpl_v S rfl rfl rfl (sv_loadO S rfl rfl (by rfl)) ?_; clear S a; intro a S) | (refine wpl_v S rfl rfl rfl (sv_loadF S rfl rfl (by assumption)) ?_; clear S a; intro a S) | (refine wpl_v S rfl rfl rfl (sv_loadO S rfl rfl (inn hj)) ?_; clear S a; intro a S) | (refine wpl_v S rfl rfl rfl (sv_loadO S rfl rfl (inn hg2)) ?_; clear S a; intro a S)
      (refine wpl_v S rfl rfl rfl (sv_pure S rfl) ?_; clear S a; intro a S)
      refine wpList_nil ?_
      change ∃ m', _ ∧ _
      (refine ⟨m', hm', pa'.set i g, g, hfd.trans hfd2, hr2, ?_⟩; refine S.keep ?_; repeat (first | exact trivial | refine ⟨rfl, ?_⟩))
    · (skip; (try simp only [decide_eq_true_eq, decide_eq_false_iff_not, beq_iff_eq, bne_iff_ne, bne_eq_false_iff_eq, beq_eq_false_iff_ne, ne_eq, Bool.not_eq_true', Bool.not_eq_false', Bool.not_eq_true, Bool.not_eq_false, Bool.not_true, Bool.not_false, Int.ofNat_lt, Int.ofNat_le, Nat.not_lt, Nat.not_le] at h))
      refine wp_exit ?_
      (refine hKq2 _ _ ?_; try (clear hKq2 Kq2))
      (refine wp_seq_k ?_; intro Kq5 hKq5)
      refine wp_region_lit ?_
      (refine wpl_v S rfl rfl rfl (sv_pure S rfl) ?_; clear S a; intro a S)
      (refine wpl_v S rfl rfl rfl (sv_pure S rfl) ?_; clear S a; intro a S)
      refine wpList_nil ?_
      (refine hKq5 _ _ ?_; try (clear hKq5 Kq5))
      refine wp_ret ?_
      refine fin_ret S (results1 Tryd.results41 (RV.tmp S rfl)) ?_
      (have hii : i = r := (RootN.det (k := 0) (pa := pa') ⟨rfl, by rw [hj]; congr 1; omega⟩ hr').2; refine ⟨by rw [hii], pa', hfd, _, _, _, _, told, _, _, _, _, rfl, hN, ownS_mk1 (by show (intsN pa').length = n; rw [intsN_len]; omega) hcp1 hcp2 (by simp only [List.length_append, intsN_len] at hex ⊢; omega), hS, hL⟩)
end Go.Proofs.YtcjnmehpkcblfaaDoor
