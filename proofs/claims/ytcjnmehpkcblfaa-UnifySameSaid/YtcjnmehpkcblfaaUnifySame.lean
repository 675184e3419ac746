/- The walk of UnifySame. -/
import Derived.Test.YtcjnmehpkcblfaaUnW
namespace Go.Proofs.Ytcjnmehpkcblfaa
open Go Go.Wk Go.Un
set_option linter.unusedSimpArgs false
set_option linter.unusedVariables false
attribute [local irreducible] Go.wpList Go.Code.wp Go.wpStill Go.Wk.wpPre Go.bodyPost Go.Calls Go.Wk.Ct Go.Wk.OwnS
attribute [local irreducible] Go.Wk.wpG Go.Wk.wpM

set_option maxRecDepth 20000 in
set_option maxHeartbeats 32000000 in
theorem unifySameCt (F : Heap) (ps : List Pr) (v : Value) (h0 : PsM F v ps) : Ct Try.prog 3 [v] F [] (fun _ _ u => u = .bool true) := by
  have hps := h0
  obtain ⟨ao, cap, rfl, hcap, hpos⟩ := h0
  refine Ct.enter Try.func3 rfl Try.ntmps3 rfl fun w0 a S => ?_
  (refine wp_seq_k ?_; intro Kq1 hKq1)
  refine wp_region_lit ?_
  (refine wpl_v S rfl rfl rfl (sv_pure S rfl) ?_; clear S a; intro a S)
  refine wpList_nil ?_
  (refine hKq1 _ _ ?_; try (clear hKq1 Kq1))
  (refine wp_seq_k ?_; intro Kq2 hKq2)
  (refine wp_seq_k ?_; intro Kq3 hKq3)
  refine wp_region_lit ?_
  (refine wpl_call0 S rfl rfl rfl rfl rfl rfl (worksCt F) rfl ?_; clear S a; intro v a w hv S; subst hv)
  (refine wpl_v S rfl rfl rfl (sv_lit (c := false) (sv_pure S rfl) (by rfl)) ?_; clear S a; intro a S)
  (refine wpl_v S rfl rfl rfl (sv_pure S rfl) ?_; clear S a; intro a S)
  refine wpl_take S rfl rfl rfl ?_
  (refine wpl_v S rfl rfl rfl (sv_pure S rfl) ?_; clear S a; intro a S)
  refine wpl_take S rfl rfl rfl ?_
  (refine wpl_v S rfl rfl rfl (sv_lenSl S rfl rfl) ?_; clear S a; intro a S)
  refine wpl_take S rfl rfl rfl ?_
  (refine wpl_v S rfl rfl rfl (sv_pure S rfl) ?_; clear S a; intro a S)
  first | (refine wpl_v S rfl rfl rfl (sv_pure S rfl) ?_; clear S a; intro a S) | (refine wpl_v S rfl rfl rfl (sv_pickB S rfl rfl rfl rfl) ?_; clear S a; intro a S)
  (refine wpl_v S rfl rfl rfl (sv_pure S rfl) ?_; clear S a; intro a S)
  refine wpl_guard S rfl rfl rfl rfl rfl ?_ ?_
  · (intro h S'; clear S; have S := S'; clear S'; (try simp only [decide_eq_true_eq, decide_eq_false_iff_not, beq_iff_eq, bne_iff_ne, bne_eq_false_iff_eq, beq_eq_false_iff_ne, ne_eq, Bool.not_eq_true', Bool.not_eq_false', Bool.not_eq_true, Bool.not_eq_false, Bool.not_true, Bool.not_false, Int.ofNat_lt, Int.ofNat_le, Nat.not_lt, Nat.not_le] at h))
    (refine wpl_v S rfl rfl rfl (sv_pure S rfl) ?_; clear S a; intro a S)
    refine wpl_take S rfl rfl rfl ?_
    (refine wpl_callF S rfl rfl rfl rfl rfl rfl (typesCt F ps _ (by omega) hps) rfl ?_; clear S a; intro ut F1 a w hv hF1 S; obtain ⟨lt, hlt⟩ := hv)
    refine wpl_take S rfl rfl rfl ?_
    (refine wpl_call0 S rfl rfl rfl rfl rfl rfl (largeCt F1 lt _ 300 hlt) rfl ?_; clear S a; intro v a w hv S; obtain ⟨b23, rfl⟩ := hv)
    first | (refine wpl_v S rfl rfl rfl (sv_pure S rfl) ?_; clear S a; intro a S) | (refine wpl_v S rfl rfl rfl (sv_pickB S rfl rfl rfl rfl) ?_; clear S a; intro a S)
    refine wpList_nil ?_
    (refine hKq3 _ _ ?_; try (clear hKq3 Kq3))
    refine wpc_split S rfl (fun h => ?_) (fun h => ?_)
    · (skip; (try simp only [decide_eq_true_eq, decide_eq_false_iff_not, beq_iff_eq, bne_iff_ne, bne_eq_false_iff_eq, beq_eq_false_iff_ne, ne_eq, Bool.not_eq_true', Bool.not_eq_false', Bool.not_eq_true, Bool.not_eq_false, Bool.not_true, Bool.not_false, Int.ofNat_lt, Int.ofNat_le, Nat.not_lt, Nat.not_le] at h))
      (refine wp_seq_k ?_; intro Kq4 hKq4)
      refine wp_region_lit ?_
      (refine wpl_call0 S rfl rfl rfl rfl rfl rfl (worksCt _) rfl ?_; clear S a; intro v a w hv S; subst hv)
      (refine wpl_v S rfl rfl rfl (sv_pure S rfl) ?_; clear S a; intro a S)
      refine wpList_nil ?_
      (refine hKq4 _ _ ?_; try (clear hKq4 Kq4))
      refine wp_ret ?_
      refine fin_ret S (results1 Try.results3 (RV.tmp S rfl)) ?_
      (first | rfl | trace_state)
    · (skip; (try simp only [decide_eq_true_eq, decide_eq_false_iff_not, beq_iff_eq, bne_iff_ne, bne_eq_false_iff_eq, beq_eq_false_iff_ne, ne_eq, Bool.not_eq_true', Bool.not_eq_false', Bool.not_eq_true, Bool.not_eq_false, Bool.not_true, Bool.not_false, Int.ofNat_lt, Int.ofNat_le, Nat.not_lt, Nat.not_le] at h))
      refine wp_skip ?_
      (refine hKq2 _ _ ?_; try (clear hKq2 Kq2))
      (refine wp_seq_k ?_; intro Kq4 hKq4)
      refine wp_region_lit ?_
      (refine wpl_call (Gs := []) (Gr := []) S rfl rfl rfl rfl rfl rfl (newCt F1) rfl (by simp) ?_; clear S a; intro u9 F2 G2 a w hv hF2 S; obtain ⟨tb, rfl, hQ2⟩ := hv; rw [List.append_nil] at S)
      (refine wpl_v S rfl rfl rfl (sv_pure S rfl) ?_; clear S a; intro a S)
      refine wpList_nil ?_
      (refine hKq4 _ _ ?_; try (clear hKq4 Kq4))
      (refine wp_seq_k ?_; intro Kq5 hKq5)
      refine wp_region_lit ?_
      (refine wpl_v S rfl rfl rfl (sv_pure S rfl) ?_; clear S a; intro a S)
      refine wpList_nil ?_
      (refine hKq5 _ _ ?_; try (clear hKq5 Kq5))
      (refine wp_seq_k ?_; intro Kq6 hKq6)
      (refine wp_seq_k ?_; intro Kq7 hKq7)
      refine wp_region_lit ?_
      (refine wpl_v S rfl rfl rfl (sv_pure S rfl) ?_; clear S a; intro a S)
      refine wpList_nil ?_
      (refine hKq7 _ _ ?_; try (clear hKq7 Kq7))
      refine wp_block ?_
      refine wpc_loop (fun m a w' => ∃ (i : Nat) (v : Value) (g : Grp) (xs : List Value) (al : List Pr) (F' : Heap) (GG : List Grp) (σ : List UInt8 → Ty), m = ps.length - i ∧ i ≤ ps.length ∧ (∀ b o, F b = some o → F' b = some o) ∧ OwnS 34 5 v al.length xs g ∧ PrC F' xs al ∧ al.length ≤ i ∧ TabQ F' tb (i * 208896) σ GG ∧ AlikeP σ al ∧ St 122 [(0, .slice ao ps.length cap), (3, ptr tb), (4, v), (5, .int .i64 i)] w0 F [] F' (g :: GG) a w') ?_ ?_
      · (refine ⟨ps.length, 0, .slice none 0 0, [], [], [], F2, G2, vid, by omega, Nat.zero_le _, fun b o h => hF2 _ _ (hF1 _ _ h), OwnS.nil _ _, rfl, Nat.zero_le _, hQ2, (fun p hp => absurd hp List.not_mem_nil), ?_⟩; replace S := S.nilg; refine S.keep ?_; repeat (first | exact trivial | refine ⟨rfl, ?_⟩))
      · (clear S; rintro m a w ⟨i, v, g, xs, al, F', GG, σ, rfl, hil, hF', hown, hprc, hall, hQ, hak, S⟩)
        (refine wp_seq_k ?_; intro Kq8 hKq8)
        (refine wp_seq_k ?_; intro Kq9 hKq9)
        refine wp_region_lit ?_
        (refine wpl_v S rfl rfl rfl (sv_pure S rfl) ?_; clear S a; intro a S)
        (refine wpl_v S rfl rfl rfl (sv_pure S rfl) ?_; clear S a; intro a S)
        (refine wpl_v S rfl rfl rfl (sv_lenSl S rfl rfl) ?_; clear S a; intro a S)
        (refine wpl_v S rfl rfl rfl (sv_pure S rfl) ?_; clear S a; intro a S)
        refine wpList_nil ?_
        (refine hKq9 _ _ ?_; try (clear hKq9 Kq9))
        refine wpc_split S rfl (fun h => ?_) (fun h => ?_)
        · (skip; (try simp only [decide_eq_true_eq, decide_eq_false_iff_not, beq_iff_eq, bne_iff_ne, bne_eq_false_iff_eq, beq_eq_false_iff_ne, ne_eq, Bool.not_eq_true', Bool.not_eq_false', Bool.not_eq_true, Bool.not_eq_false, Bool.not_true, Bool.not_false, Int.ofNat_lt, Int.ofNat_le, Nat.not_lt, Nat.not_le] at h))
          refine wp_skip ?_
          (refine hKq8 _ _ ?_; try (clear hKq8 Kq8))
          (refine wp_seq_k ?_; intro Kq10 hKq10)
          refine wp_block ?_
          (refine wp_seq_k ?_; intro Kq11 hKq11)
          replace hKq11 : ∀ (a' : Act) (w' : World), (∃ (F9 : Heap) (G9 : List Grp) (σ9 : List UInt8 → Ty) (v1 : Value) (g1 : Grp) (xs1 : List Value) (al1 : List Pr), (∀ b o, F' b = some o → F9 b = some o) ∧ TabQ F9 tb (i * 208896 + 4096) σ9 G9 ∧ OwnS 34 5 v1 al1.length xs1 g1 ∧ PrC F9 xs1 al1 ∧ al1.length ≤ i + 1 ∧ AlikeP σ9 al1 ∧ St 122 [(0, .slice ao ps.length cap), (3, ptr tb), (4, v1), (5, .int .i64 i)] w0 F [] F9 (g1 :: G9) a' w') → Kq11 a' w' := (by
            (intro a w hM; refine hKq11 _ _ ?_; clear hKq11 Kq11; clear S; obtain ⟨F9, G9, σ9, v1, g1, xs1, al1, hF9, hQ9, hown1, hprc1, hall1, hak1, S⟩ := hM)
            (refine wp_seq_k ?_; intro Kq12 hKq12)
            (obtain ⟨aK, cK, rfl, -⟩ := hown1.at)
            refine wp_region_lit ?_
            (refine wpl_v S rfl rfl rfl (sv_pure S rfl) ?_; clear S a; intro a S)
            refine wpList_nil ?_
            (refine hKq12 _ _ ?_; try (clear hKq12 Kq12))
            refine wp_block ?_
            refine wpc_loop (fun m a w' => ∃ (k : Nat) (F3 : Heap) (GG3 : List Grp), m = al1.length - k ∧ k ≤ al1.length ∧ (∀ b o, F9 b = some o → F3 b = some o) ∧ TabQ F3 tb (i * 208896 + 4096 + k * 10240) σ9 GG3 ∧ St 122 [(0, .slice ao ps.length cap), (3, ptr tb), (4, .slice aK al1.length cK), (5, .int .i64 i), (6, .int .i64 k)] w0 F [] F3 (g1 :: GG3) a w') ?_ ?_
            · (refine ⟨al1.length, 0, F9, G9, by omega, Nat.zero_le _, fun _ _ h => h, hQ9.le (by omega), ?_⟩; refine S.keep ?_; repeat (first | exact trivial | refine ⟨rfl, ?_⟩))
            · (clear S; rintro m a w ⟨k, F3, GG3, rfl, hkl, hF3, hQ3, S⟩)
              (refine wp_seq_k ?_; intro Kq13 hKq13)
              (refine wp_seq_k ?_; intro Kq14 hKq14)
              refine wp_region_lit ?_
              (refine wpl_v S rfl rfl rfl (sv_pure S rfl) ?_; clear S a; intro a S)
              (refine wpl_v S rfl rfl rfl (sv_pure S rfl) ?_; clear S a; intro a S)
              (refine wpl_v S rfl rfl rfl (sv_lenSl S rfl rfl) ?_; clear S a; intro a S)
              (refine wpl_v S rfl rfl rfl (sv_pure S rfl) ?_; clear S a; intro a S)
              refine wpList_nil ?_
              (refine hKq14 _ _ ?_; try (clear hKq14 Kq14))
              refine wpc_split S rfl (fun h => ?_) (fun h => ?_)
              · (skip; (try simp only [decide_eq_true_eq, decide_eq_false_iff_not, beq_iff_eq, bne_iff_ne, bne_eq_false_iff_eq, beq_eq_false_iff_ne, ne_eq, Bool.not_eq_true', Bool.not_eq_false', Bool.not_eq_true, Bool.not_eq_false, Bool.not_true, Bool.not_false, Int.ofNat_lt, Int.ofNat_le, Nat.not_lt, Nat.not_le] at h))
                refine wp_skip ?_
                (refine hKq13 _ _ ?_; try (clear hKq13 Kq13))
                (refine wp_seq_k ?_; intro Kq15 hKq15)
                refine wp_block ?_
                (refine wp_seq_k ?_; intro Kq16 hKq16)
                (obtain ⟨q, hq⟩ : ∃ q, al1[k]? = some q := ⟨_, List.getElem?_eq_getElem (by omega)⟩; obtain ⟨bk, ck, exk, ev, rfl, -, -, -, -⟩ := ownS_blkN hown1 (by omega); cases ev; obtain ⟨hqa, hqb, hqe⟩ := hak1 q (List.mem_of_getElem? hq); obtain ⟨aa, ca, ab, cb, hga, hgb, hsa, hsb, -⟩ := (hprc1.mono hF3).atx (ex := exk) hq; have hC : ∀ b o, F3 b = some o → F3 b = some o := fun _ _ h => h; have hres : resv σ9 (q.nb, q.ab) = resv σ9 (q.na, q.aa) := resv_eq (a := q.B) (b := q.A) hqb hqa hqe.symm)
                refine wp_region_lit ?_
                (refine wpl_v S rfl rfl rfl (sv_pure S rfl) ?_; clear S a; intro a S)
                (refine wpl_v S rfl rfl rfl (sv_pure S rfl) ?_; clear S a; intro a S)
                (refine wpl_v S rfl rfl rfl (sv_pure S rfl) ?_; clear S a; intro a S)
                (refine wpl_v S rfl rfl rfl (sv_indexAddrSl S rfl rfl rfl (by first | omega | (simp only [List.length_append, List.length_cons, List.length_nil]; omega))) ?_; clear S a; intro a S)
                (refine wpl_v S rfl rfl rfl (sv_fieldAddr S rfl rfl rfl inferInstance rfl) ?_; clear S a; intro a S)
                (refine wpl_v S rfl rfl rfl (sv_loadAOc S rfl rfl hga rfl) ?_; clear S a; intro a S)
                (refine wpl_call (Gs := GG3) (Gr := [[(bk, _)]]) S rfl rfl rfl rfl rfl rfl (resolveCt F3 tb _ σ9 GG3 q.na q.aa _ ⟨_, rfl, hsa⟩ (by omega) hQ3) rfl (grp_perm (A := [[(bk, _)]])) ?_; clear S a; intro u9 F4 G4 a w hv hF4 S; replace hC : ∀ b o, F3 b = some o → F4 b = some o := fun b o h => hF4 _ _ (hC b o h); obtain ⟨a4, q4, c4, rfl, hs4, hQ4⟩ := hv; replace S : St _ _ _ _ _ F4 ([(bk, _)] :: G4) _ _ := St.rotL S)
                (refine wpl_v S rfl rfl rfl (sv_pure S rfl) ?_; clear S a; intro a S)
                (refine wpl_v S rfl rfl rfl (sv_pure S rfl) ?_; clear S a; intro a S)
                (refine wpl_v S rfl rfl rfl (sv_pure S rfl) ?_; clear S a; intro a S)
                (refine wpl_alloc S rfl rfl rfl rfl ?_; clear S a; intro b7 a w S)
                (refine wpl_storeO S rfl rfl rfl rfl rfl (by rfl) (by simp [Value.cells, Value.oneCell', splice]) (by rfl) ?_; clear S; intro w S)
                (refine wpl_v S rfl rfl rfl (sv_pure S rfl) ?_; clear S a; intro a S)
                refine wpList_nil ?_
                (refine hKq16 _ _ ?_; try (clear hKq16 Kq16))
                (refine wp_seq_k ?_; intro Kq17 hKq17)
                refine wp_region_lit ?_
                (refine wpl_v S rfl rfl rfl (sv_pure S rfl) ?_; clear S a; intro a S)
                (refine wpl_v S rfl rfl rfl (sv_pure S rfl) ?_; clear S a; intro a S)
                (refine wpl_v S rfl rfl rfl (sv_pure S rfl) ?_; clear S a; intro a S)
                (refine wpl_v S rfl rfl rfl (sv_indexAddrSl S rfl rfl rfl (by first | omega | (simp only [List.length_append, List.length_cons, List.length_nil]; omega))) ?_; clear S a; intro a S)
                (refine wpl_v S rfl rfl rfl (sv_fieldAddr S rfl rfl rfl inferInstance rfl) ?_; clear S a; intro a S)
                (refine wpl_v S rfl rfl rfl (sv_loadAOc S rfl rfl hgb rfl) ?_; clear S a; intro a S)
                (refine wpl_call (Gs := G4) (Gr := [[(b7, _)], [(bk, _)]]) S rfl rfl rfl rfl rfl rfl (resolveCt F4 tb _ σ9 G4 q.nb q.ab _ ⟨_, rfl, hsb.mono hC⟩ (by omega) hQ4) rfl (grp_perm (A := [[(b7, _)], [(bk, _)]])) ?_; clear S a; intro u9 F5 G5 a w hv hF5 S; replace hC : ∀ b o, F3 b = some o → F5 b = some o := fun b o h => hF5 _ _ (hC b o h); rw [hres] at hv; obtain ⟨a5, q5, c5, rfl, hs5, hQ5⟩ := hv; replace S : St _ _ _ _ _ F5 ([(b7, _)] :: [(bk, _)] :: G5) _ _ := St.rotL S)
                (refine wpl_v S rfl rfl rfl (sv_pure S rfl) ?_; clear S a; intro a S)
                (refine wpl_v S rfl rfl rfl (sv_pure S rfl) ?_; clear S a; intro a S)
                (refine wpl_v S rfl rfl rfl (sv_pure S rfl) ?_; clear S a; intro a S)
                (refine wpl_alloc S rfl rfl rfl rfl ?_; clear S a; intro b9 a w S)
                (refine wpl_storeO S rfl rfl rfl rfl rfl (by rfl) (by simp [Value.cells, Value.oneCell', splice]) (by rfl) ?_; clear S; intro w S)
                (refine wpl_v S rfl rfl rfl (sv_pure S rfl) ?_; clear S a; intro a S)
                refine wpList_nil ?_
                (refine hKq17 _ _ ?_; try (clear hKq17 Kq17))
                (refine wp_seq_k ?_; intro Kq18 hKq18)
                (refine wp_seq_k ?_; intro Kq19 hKq19)
                (refine wpc_mixM [0, 1, 2, 3, 4, 5, 7, 8, 9, 10, 11, 12, 13, 14, 15, 16, 17, 18, 19, 20, 22, 23] [4, 5, 15, 20] [] (.one 0 (.one 1 (.one 2 (.one 3 (.one 4 (.one 5 (.one 6 (.one 7 (.one 8 (.one 9 (.one 10 (.one 11 (.one 12 (.one 13 (.one 14 (.one 15 (.one 16 (.one 17 (.one 18 (.one 19 (.one 20 (.one 21 (.one 22 (.one 23 .nil)))))))))))))))))))))))) [b7, b9, bk] S mixed (by kernel_rfl) ?_; clear S; intro w S)
                (refine wpm_v S rfl rfl rfl (want_none _ rfl) rfl rfl (fun w' S => sv_pure S rfl) ?_; clear S a; intro a S)
                (refine wpm_v S rfl rfl rfl (want_none _ rfl) rfl rfl (fun w' S => sv_pure S rfl) ?_; clear S a; intro a S)
                (refine wpm_v S rfl rfl rfl (want_none _ rfl) rfl rfl (fun w' S => sv_lit (c := false) (sv_pure S rfl) (by simp)) ?_; clear S a; intro a S)
                (refine wpm_v S rfl rfl rfl (want_none _ rfl) rfl rfl (fun w' S => sv_pure S rfl) ?_; clear S a; intro a S)
                first | (refine wpm_lateO b7 S rfl rfl rfl (want_yes S rfl rfl rfl) rfl rfl (fun w' S => sv_loadO S rfl rfl (by rfl)) ?_; clear S a; intro a S) | (refine wpm_lateO b7 S rfl rfl rfl (want_yes S rfl rfl rfl) rfl rfl (fun w' S => sv_loadAO S rfl rfl (by rfl)) ?_; clear S a; intro a S)
                first | (refine wpm_lateO b9 S rfl rfl rfl (want_yes S rfl rfl rfl) rfl rfl (fun w' S => sv_loadO S rfl rfl (by rfl)) ?_; clear S a; intro a S) | (refine wpm_lateO b9 S rfl rfl rfl (want_yes S rfl rfl rfl) rfl rfl (fun w' S => sv_loadAO S rfl rfl (by rfl)) ?_; clear S a; intro a S)
                refine wpm_eff rfl rfl (fun _ => ⟨fun b o h => S.tr.frz b o (by first | exact h | solve_by_elim), S.has inferInstance, S.has inferInstance, S.has inferInstance, trivial⟩) ?_
                refine wpl_take S rfl rfl rfl ?_
                (refine wpl_call0 S rfl rfl rfl rfl rfl rfl (refSameCt F5 _ _ _ _ _ _ _ (Nat.le_refl _) ⟨_, rfl, hs4.mono hF5⟩ ⟨_, rfl, hs5⟩) rfl ?_; clear S a; intro v a w hv S; rw [decide_eq_true ⟨rfl, rfl⟩] at hv; subst hv)
                refine wpList_nil ?_
                (refine wpm_v S rfl rfl rfl (want_yes S rfl rfl rfl) rfl rfl (fun w' S => sv_pure S rfl) ?_; clear S a; intro a S)
                first | (refine wpm_v S rfl rfl rfl (want_none _ rfl) rfl rfl (fun w' S => sv_pure S rfl) ?_; clear S a; intro a S) | (refine wpm_v S rfl rfl rfl (want_none _ rfl) rfl rfl (fun w' S => sv_pickB S rfl rfl rfl rfl) ?_; clear S a; intro a S)
                (refine wpm_v S rfl rfl rfl (want_none _ rfl) rfl rfl (fun w' S => sv_pure S rfl) ?_; clear S a; intro a S)
                (refine wpm_v S rfl rfl rfl (want_yes S rfl rfl rfl) rfl rfl (fun w' S => sv_pure S rfl) ?_; clear S a; intro a S)
                (refine wpm_v S rfl rfl rfl (want_yes S rfl rfl rfl) rfl rfl (fun w' S => sv_pure S rfl) ?_; clear S a; intro a S)
                (refine wpm_v S rfl rfl rfl (want_yes S rfl rfl rfl) rfl rfl (fun w' S => sv_pure S rfl) ?_; clear S a; intro a S)
                (refine wpm_v S rfl rfl rfl (want_yes S rfl rfl rfl) rfl rfl (fun w' S => sv_indexAddrSl S rfl rfl rfl (by first | omega | (simp only [List.length_append, List.length_cons, List.length_nil]; omega))) ?_; clear S a; intro a S)
                (refine wpm_v S rfl rfl rfl (want_yes S rfl rfl rfl) rfl rfl (fun w' S => sv_fieldAddr S rfl rfl rfl inferInstance rfl) ?_; clear S a; intro a S)
                (refine wpm_lateO bk S rfl rfl rfl (want_yes S rfl rfl rfl) rfl rfl (fun w' S => sv_loadAOc S rfl rfl hgb rfl) ?_; clear S a; intro a S)
                (refine wpm_v S rfl rfl rfl (want_yes S rfl rfl rfl) rfl rfl (fun w' S => sv_pure S rfl) ?_; clear S a; intro a S)
                (refine wpm_v S rfl rfl rfl (want_yes S rfl rfl rfl) rfl rfl (fun w' S => sv_pure S rfl) ?_; clear S a; intro a S)
                (refine wpm_v S rfl rfl rfl (want_yes S rfl rfl rfl) rfl rfl (fun w' S => sv_indexAddrSl S rfl rfl rfl (by first | omega | (simp only [List.length_append, List.length_cons, List.length_nil]; omega))) ?_; clear S a; intro a S)
                (refine wpm_v S rfl rfl rfl (want_yes S rfl rfl rfl) rfl rfl (fun w' S => sv_fieldAddr S rfl rfl rfl inferInstance rfl) ?_; clear S a; intro a S)
                (refine wpm_lateO bk S rfl rfl rfl (want_yes S rfl rfl rfl) rfl rfl (fun w' S => sv_loadAOc S rfl rfl hga rfl) ?_; clear S a; intro a S)
                refine wpm_eff rfl rfl (fun _ => ⟨fun b o h => S.tr.frz b o (by first | exact h | solve_by_elim), S.has inferInstance, S.has inferInstance, S.has inferInstance, trivial⟩) ?_
                refine wpl_take S rfl rfl rfl ?_
                (refine wpl_call (Gs := G5) (Gr := [[(b9, _)], [(b7, _)], [(bk, _)]]) S rfl rfl rfl rfl rfl rfl (unifyCt F5 tb _ σ9 G5 q.nb q.ab _ q.na q.aa _ ⟨_, rfl, hsb.mono hC⟩ ⟨_, rfl, hsa.mono hC⟩ (by omega) hQ5) rfl (grp_perm (A := [[(b9, _)], [(b7, _)], [(bk, _)]])) ?_; clear S a; intro u9 F6 G6 a w hv hF6 S; replace hC : ∀ b o, F3 b = some o → F6 b = some o := fun b o h => hF6 _ _ (hC b o h); obtain ⟨e6, σ6, rfl, hQ6, hu6⟩ := hv; obtain ⟨rfl, e69⟩ := uni_again hQ5.good hQ6.good hqb hqa hqe.symm hu6; rw [e69] at hQ6; replace S : St _ _ _ _ _ F6 ([(b9, _)] :: [(b7, _)] :: [(bk, _)] :: G6) _ _ := St.rotL S)
                refine wpList_nil ?_
                (refine wpm_v S rfl rfl rfl (want_yes S rfl rfl rfl) rfl rfl (fun w' S => sv_lit (c := false) (sv_pure S rfl) (by rfl)) ?_; clear S a; intro a S)
                first | (refine wpm_v S rfl rfl rfl (want_none _ rfl) rfl rfl (fun w' S => sv_pure S rfl) ?_; clear S a; intro a S) | (refine wpm_v S rfl rfl rfl (want_none _ rfl) rfl rfl (fun w' S => sv_pickB S rfl rfl rfl rfl) ?_; clear S a; intro a S)
                refine wpm_nil (fun _ => ⟨fun b o h => S.tr.frz b o (by first | exact h | solve_by_elim), S.has inferInstance, S.has inferInstance, S.has inferInstance, trivial⟩) ?_
                (refine hKq19 _ _ ?_; try (clear hKq19 Kq19))
                refine wpc_false S rfl ?_
                refine wp_skip ?_
                (refine hKq18 _ _ ?_; try (clear hKq18 Kq18))
                (refine wp_seq_k ?_; intro Kq20 hKq20)
                refine wp_region_lit ?_
                (refine wpl_v S rfl rfl rfl (sv_pure S rfl) ?_; clear S a; intro a S)
                (refine wpl_v S rfl rfl rfl (sv_pure S rfl) ?_; clear S a; intro a S)
                (refine wpl_v S rfl rfl rfl (sv_pure S rfl) ?_; clear S a; intro a S)
                (refine wpl_v S rfl rfl rfl (sv_indexAddrSl S rfl rfl rfl (by first | omega | (simp only [List.length_append, List.length_cons, List.length_nil]; omega))) ?_; clear S a; intro a S)
                (refine wpl_v S rfl rfl rfl (sv_fieldAddr S rfl rfl rfl inferInstance rfl) ?_; clear S a; intro a S)
                (refine wpl_v S rfl rfl rfl (sv_loadAOc S rfl rfl hga rfl) ?_; clear S a; intro a S)
                (refine wpl_call (Gs := G6) (Gr := [[(b9, _)], [(b7, _)], [(bk, _)]]) S rfl rfl rfl rfl rfl rfl (resolveCt F6 tb _ σ9 G6 q.na q.aa _ ⟨_, rfl, hsa.mono hC⟩ (by omega) hQ6) rfl (grp_perm (A := [[(b9, _)], [(b7, _)], [(bk, _)]])) ?_; clear S a; intro u9 F7 G7 a w hv hF7 S; replace hC : ∀ b o, F3 b = some o → F7 b = some o := fun b o h => hF7 _ _ (hC b o h); obtain ⟨a7, q7, c7, rfl, hs7, hQ7⟩ := hv; replace S : St _ _ _ _ _ F7 ([(b9, _)] :: [(b7, _)] :: [(bk, _)] :: G7) _ _ := St.rotL S)
                (refine wpl_v S rfl rfl rfl (sv_pure S rfl) ?_; clear S a; intro a S)
                (refine wpl_v S rfl rfl rfl (sv_pure S rfl) ?_; clear S a; intro a S)
                (refine wpl_v S rfl rfl rfl (sv_pure S rfl) ?_; clear S a; intro a S)
                (refine wpl_alloc S rfl rfl rfl rfl ?_; clear S a; intro b11 a w S)
                (refine wpl_storeO S rfl rfl rfl rfl rfl (by rfl) (by simp [Value.cells, Value.oneCell', splice]) (by rfl) ?_; clear S; intro w S)
                (refine wpl_v S rfl rfl rfl (sv_pure S rfl) ?_; clear S a; intro a S)
                refine wpList_nil ?_
                (refine hKq20 _ _ ?_; try (clear hKq20 Kq20))
                (refine wp_seq_k ?_; intro Kq21 hKq21)
                refine wp_region_lit ?_
                (refine wpl_v S rfl rfl rfl (sv_pure S rfl) ?_; clear S a; intro a S)
                (refine wpl_v S rfl rfl rfl (sv_pure S rfl) ?_; clear S a; intro a S)
                (refine wpl_v S rfl rfl rfl (sv_lit (c := false) (sv_pure S rfl) (by simp)) ?_; clear S a; intro a S)
                (refine wpl_v S rfl rfl rfl (sv_pure S rfl) ?_; clear S a; intro a S)
                refine wpl_take S rfl rfl rfl ?_
                first | (refine wpl_v S rfl rfl rfl (sv_loadAO S rfl rfl (by rfl)) ?_; clear S a; intro a S) | (refine wpl_v S rfl rfl rfl (sv_loadAF S rfl rfl (by assumption) (by rfl)) ?_; clear S a; intro a S)
                refine wpl_take S rfl rfl rfl ?_
                first | (refine wpl_v S rfl rfl rfl (sv_loadAO S rfl rfl (by rfl)) ?_; clear S a; intro a S) | (refine wpl_v S rfl rfl rfl (sv_loadAF S rfl rfl (by assumption) (by rfl)) ?_; clear S a; intro a S)
                refine wpl_take S rfl rfl rfl ?_
                (refine wpl_call0 S rfl rfl rfl rfl rfl rfl (refSameCt F7 _ _ _ _ _ _ _ (Nat.le_refl _) ⟨_, rfl, hs4.mono (fun b o h => hF7 _ _ (hF6 _ _ (hF5 _ _ h)))⟩ ⟨_, rfl, hs7⟩) rfl ?_; clear S a; intro v a w hv S; rw [decide_eq_true ⟨rfl, rfl⟩] at hv; subst hv)
                refine wpl_take S rfl rfl rfl ?_
                (refine wpl_v S rfl rfl rfl (sv_pure S rfl) ?_; clear S a; intro a S)
                first | (refine wpl_v S rfl rfl rfl (sv_pure S rfl) ?_; clear S a; intro a S) | (refine wpl_v S rfl rfl rfl (sv_pickB S rfl rfl rfl rfl) ?_; clear S a; intro a S)
                refine wpList_nil ?_
                (refine hKq21 _ _ ?_; try (clear hKq21 Kq21))
                refine wpc_false S rfl ?_
                refine wp_skip ?_
                (refine hKq15 _ _ ?_; try (clear hKq15 Kq15))
                refine wp_region_lit ?_
                (refine wpl_v S rfl rfl rfl (sv_pure S rfl) ?_; clear S a; intro a S)
                (refine wpl_v S rfl rfl rfl (sv_add S rfl rfl rfl (by first | omega | (simp only [List.length_append, List.length_cons, List.length_nil]; omega))) ?_; clear S a; intro a S)
                (refine wpl_v S rfl rfl rfl (sv_pure S rfl) ?_; clear S a; intro a S)
                refine wpList_nil ?_
                change ∃ m', _ ∧ _
                (replace S := S.drop1.drop1.drop1; refine ⟨al1.length - (k + 1), by omega, k + 1, F7, G7, rfl, by omega, fun b o h => hC _ _ (hF3 _ _ h), hQ7.le (by omega), ?_⟩; refine S.keep ?_; repeat (first | exact trivial | refine ⟨rfl, ?_⟩))
              · (skip; (try simp only [decide_eq_true_eq, decide_eq_false_iff_not, beq_iff_eq, bne_iff_ne, bne_eq_false_iff_eq, beq_eq_false_iff_ne, ne_eq, Bool.not_eq_true', Bool.not_eq_false', Bool.not_eq_true, Bool.not_eq_false, Bool.not_true, Bool.not_false, Int.ofNat_lt, Int.ofNat_le, Nat.not_lt, Nat.not_le] at h))
                refine wp_exit ?_
                (refine hKq10 _ _ ?_; try (clear hKq10 Kq10))
                refine wp_region_lit ?_
                (refine wpl_v S rfl rfl rfl (sv_pure S rfl) ?_; clear S a; intro a S)
                (refine wpl_v S rfl rfl rfl (sv_add S rfl rfl rfl (by first | omega | (simp only [List.length_append, List.length_cons, List.length_nil]; omega))) ?_; clear S a; intro a S)
                (refine wpl_v S rfl rfl rfl (sv_pure S rfl) ?_; clear S a; intro a S)
                refine wpList_nil ?_
                change ∃ m', _ ∧ _
                (refine ⟨ps.length - (i + 1), by omega, i + 1, _, g1, xs1, al1, F3, GG3, σ9, rfl, by omega, fun b o h => hF3 _ _ (hF9 _ _ (hF' _ _ h)), hown1, hprc1.mono hF3, by omega, hQ3.le (by omega), hak1, ?_⟩; refine S.keep ?_; repeat (first | exact trivial | refine ⟨rfl, ?_⟩)))
          (refine wp_seq_k ?_; intro Kq15 hKq15)
          (obtain ⟨b8, o8, hao, hel⟩ := hpos (by omega); rw [hao] at S; obtain ⟨p, hp⟩ : ∃ p, ps[i]? = some p := ⟨_, List.getElem?_eq_getElem (by omega)⟩; obtain ⟨va, vb, hc5, hTa, hTb⟩ := hel i p hp; obtain ⟨aoa, capa, rfl, hTa1⟩ := hTa; obtain ⟨aob, capb, rfl, hTb1⟩ := hTb; have hTa : SlF F' (.slice aoa p.aa.len capa) p.aa := SlF.mono hF' ⟨_, _, rfl, hTa1⟩; have hTb : SlF F' (.slice aob p.ab.len capb) p.ab := SlF.mono hF' ⟨_, _, rfl, hTb1⟩; have hca : Cels F' b8 (o8 + i * 5 + 0) [.string (bs p.na), .slice aoa p.aa.len capa] := Cels.mono hF' (hc5.take 2).zero; have hcb : Cels F' b8 (o8 + i * 5 + 2) [.string (bs p.nb), .slice aob p.ab.len capb] := Cels.mono hF' ((hc5.drop 2).take 2))
          (refine wpc_mixM [0, 1, 2, 3, 4, 5, 6, 7, 8, 9, 10, 12] [5, 10] [] (.one 0 (.one 1 (.one 2 (.one 3 (.one 4 (.one 5 (.one 6 (.one 7 (.one 8 (.one 9 (.one 10 (.one 11 (.one 12 .nil))))))))))))) [] S mixed (by kernel_rfl) ?_; clear S; intro w S)
          (refine wpm_v S rfl rfl rfl (want_none _ rfl) rfl rfl (fun w' S => sv_pure S rfl) ?_; clear S a; intro a S)
          (refine wpm_v S rfl rfl rfl (want_none _ rfl) rfl rfl (fun w' S => sv_pure S rfl) ?_; clear S a; intro a S)
          (refine wpm_v S rfl rfl rfl (want_none _ rfl) rfl rfl (fun w' S => sv_pure S rfl) ?_; clear S a; intro a S)
          (refine wpm_v S rfl rfl rfl (want_none _ rfl) rfl rfl (fun w' S => sv_indexAddrSl S rfl rfl rfl (by first | omega | (simp only [List.length_append, List.length_cons, List.length_nil]; omega))) ?_; clear S a; intro a S)
          (refine wpm_v S rfl rfl rfl (want_none _ rfl) rfl rfl (fun w' S => sv_fieldAddr S rfl rfl rfl inferInstance rfl) ?_; clear S a; intro a S)
          first | (refine wpm_lateF S rfl rfl rfl (want_none _ rfl) rfl rfl (fun w' S => sv_loadF S rfl rfl (by assumption)) ?_; clear S a; intro a S) | (refine wpm_lateF S rfl rfl rfl (want_none _ rfl) rfl rfl (fun w' S => sv_loadAF S rfl rfl (by assumption) (by rfl)) ?_; clear S a; intro a S)
          (refine wpm_v S rfl rfl rfl (want_none _ rfl) rfl rfl (fun w' S => sv_pure S rfl) ?_; clear S a; intro a S)
          (refine wpm_v S rfl rfl rfl (want_none _ rfl) rfl rfl (fun w' S => sv_pure S rfl) ?_; clear S a; intro a S)
          (refine wpm_v S rfl rfl rfl (want_none _ rfl) rfl rfl (fun w' S => sv_indexAddrSl S rfl rfl rfl (by first | omega | (simp only [List.length_append, List.length_cons, List.length_nil]; omega))) ?_; clear S a; intro a S)
          (refine wpm_v S rfl rfl rfl (want_none _ rfl) rfl rfl (fun w' S => sv_fieldAddr S rfl rfl rfl inferInstance rfl) ?_; clear S a; intro a S)
          first | (refine wpm_lateF S rfl rfl rfl (want_none _ rfl) rfl rfl (fun w' S => sv_loadF S rfl rfl (by assumption)) ?_; clear S a; intro a S) | (refine wpm_lateF S rfl rfl rfl (want_none _ rfl) rfl rfl (fun w' S => sv_loadAF S rfl rfl (by assumption) (by rfl)) ?_; clear S a; intro a S)
          refine wpm_eff rfl rfl (fun _ => ⟨fun b o h => S.tr.frz b o (by first | exact h | solve_by_elim), trivial⟩) ?_
          (refine wpl_call (Gs := GG) (Gr := [g]) S rfl rfl rfl rfl rfl rfl (unifyCt F' tb (i * 208896) σ GG p.na p.aa _ p.nb p.ab _ ⟨_, rfl, hTa⟩ ⟨_, rfl, hTb⟩ (by omega) hQ) rfl (grp_perm (A := [g])) ?_; clear S a; intro u9 F9 G9 a w hv hF9 S; obtain ⟨e9, σ9, rfl, hQ9, hu9⟩ := hv; replace S : St _ _ _ _ _ F9 (g :: G9) _ _ := St.rotL S; have hc59 := Cels.mono hF9 (Cels.mono hF' hc5))
          refine wpList_nil ?_
          (refine wpm_v S rfl rfl rfl (want_none _ rfl) rfl rfl (fun w' S => sv_pure S rfl) ?_; clear S a; intro a S)
          refine wpm_nil (fun _ => ⟨fun b o h => S.tr.frz b o (by first | exact h | solve_by_elim), trivial⟩) ?_
          (refine hKq15 _ _ ?_; try (clear hKq15 Kq15))
          refine wpc_split S rfl (fun h => ?_) (fun h => ?_)
          · (skip; (try simp only [decide_eq_true_eq, decide_eq_false_iff_not, beq_iff_eq, bne_iff_ne, bne_eq_false_iff_eq, beq_eq_false_iff_ne, ne_eq, Bool.not_eq_true', Bool.not_eq_false', Bool.not_eq_true, Bool.not_eq_false, Bool.not_true, Bool.not_false, Int.ofNat_lt, Int.ofNat_le, Nat.not_lt, Nat.not_le] at h))
            refine wp_region_lit ?_
            (refine wpl_v S rfl rfl rfl (sv_pure S rfl) ?_; clear S a; intro a S)
            (refine wpl_v S rfl rfl rfl (sv_pure S rfl) ?_; clear S a; intro a S)
            (refine wpl_v S rfl rfl rfl (sv_pure S rfl) ?_; clear S a; intro a S)
            (refine wpl_v S rfl rfl rfl (sv_indexAddrSl S rfl rfl rfl (by first | omega | (simp only [List.length_append, List.length_cons, List.length_nil]; omega))) ?_; clear S a; intro a S)
            first | (refine wpl_v S rfl rfl rfl (sv_loadAO S rfl rfl (by rfl)) ?_; clear S a; intro a S) | (refine wpl_v S rfl rfl rfl (sv_loadAF S rfl rfl (by assumption) (by rfl)) ?_; clear S a; intro a S)
            (refine wpl_append S rfl rfl rfl rfl rfl rfl rfl rfl rfl rfl rfl (fun _ => rfl) hown (by rfl) (by simp [Value.cells, splice, splice]) (by simp [Value.cells, Value.oneCell', splice, splice]) rfl (by rfl) (by rfl) rfl (by omega) (by omega) ?_; clear hown S a; intro v u g a w hown S)
            (refine wpl_v S rfl rfl rfl (sv_pure S rfl) ?_; clear S a; intro a S)
            refine wpList_nil ?_
            (refine hKq11 _ _ ?_)
            (rw [← hao] at S; first | (have he9 : e9 = 0 := (by first | assumption | simpa using h); exact ⟨F9, G9, σ9, _, _, _, al ++ [p], hF9, hQ9, (by rw [List.length_append]; exact hown), (hprc.mono hF9).app (PrC.one (hTa.mono hF9) (hTb.mono hF9)), (by rw [List.length_append]; simp; omega), hak.add hu9 he9, S.keep ⟨rfl, rfl, rfl, rfl, trivial⟩⟩) | (exact ⟨F9, G9, σ9, _, _, _, al, hF9, hQ9, hown, hprc.mono hF9, by omega, hak.keep hu9, S.keep ⟨rfl, rfl, rfl, rfl, trivial⟩⟩) | trace_state)
          · (skip; (try simp only [decide_eq_true_eq, decide_eq_false_iff_not, beq_iff_eq, bne_iff_ne, bne_eq_false_iff_eq, beq_eq_false_iff_ne, ne_eq, Bool.not_eq_true', Bool.not_eq_false', Bool.not_eq_true, Bool.not_eq_false, Bool.not_true, Bool.not_false, Int.ofNat_lt, Int.ofNat_le, Nat.not_lt, Nat.not_le] at h))
            refine wp_skip ?_
            (refine hKq11 _ _ ?_)
            (rw [← hao] at S; first | (have he9 : e9 = 0 := (by first | assumption | simpa using h); exact ⟨F9, G9, σ9, _, _, _, al ++ [p], hF9, hQ9, (by rw [List.length_append]; exact hown), (hprc.mono hF9).app (PrC.one (hTa.mono hF9) (hTb.mono hF9)), (by rw [List.length_append]; simp; omega), hak.add hu9 he9, S.keep ⟨rfl, rfl, rfl, rfl, trivial⟩⟩) | (exact ⟨F9, G9, σ9, _, _, _, al, hF9, hQ9, hown, hprc.mono hF9, by omega, hak.keep hu9, S.keep ⟨rfl, rfl, rfl, rfl, trivial⟩⟩) | trace_state)
        · (skip; (try simp only [decide_eq_true_eq, decide_eq_false_iff_not, beq_iff_eq, bne_iff_ne, bne_eq_false_iff_eq, beq_eq_false_iff_ne, ne_eq, Bool.not_eq_true', Bool.not_eq_false', Bool.not_eq_true, Bool.not_eq_false, Bool.not_true, Bool.not_false, Int.ofNat_lt, Int.ofNat_le, Nat.not_lt, Nat.not_le] at h))
          refine wp_exit ?_
          (refine hKq6 _ _ ?_; try (clear hKq6 Kq6))
          (refine wp_seq_k ?_; intro Kq10 hKq10)
          refine wp_region_lit ?_
          (refine wpl_v S rfl rfl rfl (sv_pure S rfl) ?_; clear S a; intro a S)
          refine wpList_nil ?_
          (refine hKq10 _ _ ?_; try (clear hKq10 Kq10))
          refine wp_ret ?_
          refine fin_ret S (results1 Try.results3 (RV.tmp S rfl)) ?_
          (first | rfl | trace_state)
  · (intro h; clear S a; intro a S; (try simp only [decide_eq_true_eq, decide_eq_false_iff_not, beq_iff_eq, bne_iff_ne, bne_eq_false_iff_eq, beq_eq_false_iff_ne, ne_eq, Bool.not_eq_true', Bool.not_eq_false', Bool.not_eq_true, Bool.not_eq_false, Bool.not_true, Bool.not_false, Int.ofNat_lt, Int.ofNat_le, Nat.not_lt, Nat.not_le] at h))
    (refine wpl_skip S rfl rfl rfl rfl rfl ?_; clear S a; intro a S)
    (refine wpl_skip S rfl rfl rfl rfl rfl ?_; clear S a; intro a S)
    first | (refine wpl_v S rfl rfl rfl (sv_pure S rfl) ?_; clear S a; intro a S) | (refine wpl_v S rfl rfl rfl (sv_pickB S rfl rfl rfl rfl) ?_; clear S a; intro a S)
    refine wpList_nil ?_
    (refine hKq3 _ _ ?_; try (clear hKq3 Kq3))
    refine wpc_true S rfl ?_
    (refine wp_seq_k ?_; intro Kq4 hKq4)
    refine wp_region_lit ?_
    (refine wpl_call0 S rfl rfl rfl rfl rfl rfl (worksCt _) rfl ?_; clear S a; intro v a w hv S; subst hv)
    (refine wpl_v S rfl rfl rfl (sv_pure S rfl) ?_; clear S a; intro a S)
    refine wpList_nil ?_
    (refine hKq4 _ _ ?_; try (clear hKq4 Kq4))
    refine wp_ret ?_
    refine fin_ret S (results1 Try.results3 (RV.tmp S rfl)) ?_
    (first | rfl | trace_state)
end Go.Proofs.Ytcjnmehpkcblfaa
