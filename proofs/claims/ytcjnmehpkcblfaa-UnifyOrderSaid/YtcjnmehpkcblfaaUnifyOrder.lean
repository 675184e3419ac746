/- The walk of UnifyOrder. -/
import Derived.Test.YtcjnmehpkcblfaaUnZ
namespace Go.Proofs.Ytcjnmehpkcblfaa
open Go Go.Wk Go.Un
set_option linter.unusedSimpArgs false
set_option linter.unusedVariables false
attribute [local irreducible] Go.wpList Go.Code.wp Go.wpStill Go.Wk.wpPre Go.bodyPost Go.Calls Go.Wk.Ct Go.Wk.OwnS
attribute [local irreducible] Go.Wk.wpG Go.Wk.wpM

theorem take_mid {L : List Pr} {k : Nat} {p : Pr} (h : L[k]? = some p) : L.Perm (p :: (L.take k ++ L.drop (k + 1))) := by
  have hl := (List.getElem?_eq_some_iff.1 h).1
  have e : L = L.take k ++ p :: L.drop (k + 1) := by
    conv => lhs; rw [← List.take_append_drop k L]
    rw [List.drop_eq_getElem_cons hl, (List.getElem?_eq_some_iff.1 h).2]
  conv => lhs; rw [e]
  exact List.perm_middle
theorem take_mid_len {L : List Pr} {k : Nat} (h : k < L.length) : (L.take k ++ L.drop (k + 1)).length + 1 = L.length := by
  rw [List.length_append, List.length_take, List.length_drop]; omega
theorem perm_step {R L ps : List Pr} {k : Nat} {p : Pr} (h : L[k]? = some p) (hp : (R ++ L).Perm ps) : ((R ++ [p]) ++ (L.take k ++ L.drop (k + 1))).Perm ps := by
  refine List.Perm.trans ?_ hp
  rw [List.append_assoc]
  exact List.Perm.append_left R (take_mid h).symm
theorem take_one {ps : List Pr} {i : Nat} {p : Pr} (h : ps[i]? = some p) : ps.take (i + 1) = ps.take i ++ [p] := by
  rw [List.take_add_one, h]; rfl
theorem pick_lt {p : Int} {n : Nat} (hn : 0 < n) (hn2 : n ≤ 1000000) : ∃ k : Nat, IntKind.u64.wrap p % IntKind.u64.wrap (n : Int) = (k : Int) ∧ k < n := by
  rw [u64_same hn2]
  have h1 := Int.emod_nonneg (IntKind.u64.wrap p) (show (n : Int) ≠ 0 by omega)
  have h2 := Int.emod_lt_of_pos (IntKind.u64.wrap p) (show (0 : Int) < n by omega)
  exact ⟨(IntKind.u64.wrap p % (n : Int)).toNat, by omega, by omega⟩
set_option maxRecDepth 20000 in
set_option maxHeartbeats 32000000 in
theorem unifyOrderCt (F : Heap) (ps : List Pr) (v : Value) (picks : List Int) (v2 : Value) (h0 : PsM F v ps) (h2 : SlC F v2 picks.length (intsI picks)) : Ct Try.prog 4 [v, v2] F [] (fun _ _ u => u = .bool true) := by
  have hps := h0
  obtain ⟨ao, cap, rfl, hcap, hpos⟩ := h0
  obtain ⟨ap, cp, rfl, hcp, hpp⟩ := h2
  obtain ⟨xs0, hx0, hxc0, hxp0⟩ := hps.flat
  refine Ct.enter Try.func4 rfl Try.ntmps4 rfl fun w0 a S => ?_
  (refine wp_seq_k ?_; intro Kq1 hKq1)
  refine wp_region_lit ?_
  (refine wpl_v S rfl rfl rfl (sv_pure S rfl) ?_; clear S a; intro a S)
  refine wpList_nil ?_
  (refine hKq1 _ _ ?_; try (clear hKq1 Kq1))
  (refine wp_seq_k ?_; intro Kq2 hKq2)
  (refine wp_seq_k ?_; intro Kq3 hKq3)
  refine wp_region_lit ?_
  (refine wpl_call0 S rfl rfl rfl rfl rfl rfl (worksCt F) rfl ?_; clear S a; intro v a w hv S; subst hv)
  (refine wpl_v S rfl rfl rfl (sv_lit (c := false) (sv_pure S rfl) (by rfl)) ?_; clear S a; intro a S)
  (refine wpl_v S rfl rfl rfl (sv_pure S rfl) ?_; clear S a; intro a S)
  refine wpl_take S rfl rfl rfl ?_
  (refine wpl_v S rfl rfl rfl (sv_pure S rfl) ?_; clear S a; intro a S)
  refine wpl_take S rfl rfl rfl ?_
  (refine wpl_v S rfl rfl rfl (sv_lenSl S rfl rfl) ?_; clear S a; intro a S)
  refine wpl_take S rfl rfl rfl ?_
  (refine wpl_v S rfl rfl rfl (sv_pure S rfl) ?_; clear S a; intro a S)
  first | (refine wpl_v S rfl rfl rfl (sv_pure S rfl) ?_; clear S a; intro a S) | (refine wpl_v S rfl rfl rfl (sv_pickB S rfl rfl rfl rfl) ?_; clear S a; intro a S)
  (refine wpl_v S rfl rfl rfl (sv_pure S rfl) ?_; clear S a; intro a S)
  refine wpl_guard S rfl rfl rfl rfl rfl ?_ ?_
  · (intro h S'; clear S; have S := S'; clear S'; (try simp only [decide_eq_true_eq, decide_eq_false_iff_not, beq_iff_eq, bne_iff_ne, bne_eq_false_iff_eq, beq_eq_false_iff_ne, ne_eq, Bool.not_eq_true', Bool.not_eq_false', Bool.not_eq_true, Bool.not_eq_false, Bool.not_true, Bool.not_false, Int.ofNat_lt, Int.ofNat_le, Nat.not_lt, Nat.not_le] at h))
    (refine wpl_v S rfl rfl rfl (sv_pure S rfl) ?_; clear S a; intro a S)
    refine wpl_take S rfl rfl rfl ?_
    (refine wpl_callF S rfl rfl rfl rfl rfl rfl (typesCt F ps _ (by omega) hps) rfl ?_; clear S a; intro ut F1 a w hv hF1 S; obtain ⟨lt, hlt⟩ := hv)
    refine wpl_take S rfl rfl rfl ?_
    (refine wpl_call0 S rfl rfl rfl rfl rfl rfl (largeCt F1 lt _ 200 hlt) rfl ?_; clear S a; intro v a w hv S; obtain ⟨b27, rfl⟩ := hv)
    first | (refine wpl_v S rfl rfl rfl (sv_pure S rfl) ?_; clear S a; intro a S) | (refine wpl_v S rfl rfl rfl (sv_pickB S rfl rfl rfl rfl) ?_; clear S a; intro a S)
    refine wpList_nil ?_
    (refine hKq3 _ _ ?_; try (clear hKq3 Kq3))
    refine wpc_split S rfl (fun h => ?_) (fun h => ?_)
    · (skip; (try simp only [decide_eq_true_eq, decide_eq_false_iff_not, beq_iff_eq, bne_iff_ne, bne_eq_false_iff_eq, beq_eq_false_iff_ne, ne_eq, Bool.not_eq_true', Bool.not_eq_false', Bool.not_eq_true, Bool.not_eq_false, Bool.not_true, Bool.not_false, Int.ofNat_lt, Int.ofNat_le, Nat.not_lt, Nat.not_le] at h))
      (refine wp_seq_k ?_; intro Kq4 hKq4)
      refine wp_region_lit ?_
      (refine wpl_call0 S rfl rfl rfl rfl rfl rfl (worksCt _) rfl ?_; clear S a; intro v a w hv S; subst hv)
      (refine wpl_v S rfl rfl rfl (sv_pure S rfl) ?_; clear S a; intro a S)
      refine wpList_nil ?_
      (refine hKq4 _ _ ?_; try (clear hKq4 Kq4))
      refine wp_ret ?_
      refine fin_ret S (results1 Try.results4 (RV.tmp S rfl)) ?_
      (first | rfl | trace_state)
    · (skip; (try simp only [decide_eq_true_eq, decide_eq_false_iff_not, beq_iff_eq, bne_iff_ne, bne_eq_false_iff_eq, beq_eq_false_iff_ne, ne_eq, Bool.not_eq_true', Bool.not_eq_false', Bool.not_eq_true, Bool.not_eq_false, Bool.not_true, Bool.not_false, Int.ofNat_lt, Int.ofNat_le, Nat.not_lt, Nat.not_le] at h))
      refine wp_skip ?_
      (refine hKq2 _ _ ?_; try (clear hKq2 Kq2))
      (refine wp_seq_k ?_; intro Kq4 hKq4)
      refine wp_region_lit ?_
      (refine wpl_buildSlice S rfl rfl rfl rfl rfl rfl (by rfl) (by simp [Value.cells, splice, splice]) rfl (by rfl) (by rfl) ?_; clear S a; intro b30 a w hown S)
      (refine wpl_v S rfl rfl rfl (sv_pure S rfl) ?_; clear S a; intro a S)
      (refine wpl_appendSl S rfl rfl rfl rfl rfl rfl hown (by rfl) (hx0.len) (fun h => (by obtain ⟨b, o, e, h9⟩ := hxp0 h; exact ⟨b, o, e, Cels.mono hF1 h9⟩)) hx0.one' (by omega) (by omega) ?_; clear hown S a; intro vl0 g a w hown S; have hle := add_le (G1 := []) S; replace S := St.freeze (G1 := []) S; (simp only [List.nil_append] at S hle); have hvl0 : PsM (F1.add g) vl0 ps := PrC.psm hown (by simpa using hx0.mono hF1) (by omega) hle (by omega); generalize F1.add g = F2 at S hle hvl0)
      (refine wpl_v S rfl rfl rfl (sv_pure S rfl) ?_; clear S a; intro a S)
      refine wpList_nil ?_
      (refine hKq4 _ _ ?_; try (clear hKq4 Kq4))
      (refine wp_seq_k ?_; intro Kq5 hKq5)
      refine wp_region_lit ?_
      (refine wpl_call (Gs := []) (Gr := []) S rfl rfl rfl rfl rfl rfl (newCt F2) rfl (by simp) ?_; clear S a; intro u9 F3 Gt a w hv hF3 S; obtain ⟨tb, rfl, hQt⟩ := hv; rw [List.append_nil] at S)
      (refine wpl_v S rfl rfl rfl (sv_pure S rfl) ?_; clear S a; intro a S)
      refine wpList_nil ?_
      (refine hKq5 _ _ ?_; try (clear hKq5 Kq5))
      (refine wp_seq_k ?_; intro Kq6 hKq6)
      refine wp_region_lit ?_
      (refine wpl_call (Gs := []) (Gr := Gt) S rfl rfl rfl rfl rfl rfl (newCt F3) rfl (by simp) ?_; clear S a; intro u9 F4 Gu a w hv hF4 S; obtain ⟨ub, rfl, hQu⟩ := hv; replace S : St _ _ _ _ _ F4 (Gt ++ Gu) _ _ := St.rotL S)
      (refine wpl_v S rfl rfl rfl (sv_pure S rfl) ?_; clear S a; intro a S)
      refine wpList_nil ?_
      (refine hKq6 _ _ ?_; try (clear hKq6 Kq6))
      (refine wp_seq_k ?_; intro Kq7 hKq7)
      refine wp_region_lit ?_
      (refine wpl_v S rfl rfl rfl (sv_pure S rfl) ?_; clear S a; intro a S)
      refine wpList_nil ?_
      (refine hKq7 _ _ ?_; try (clear hKq7 Kq7))
      (refine wp_seq_k ?_; intro Kq8 hKq8)
      refine wp_region_lit ?_
      (refine wpl_v S rfl rfl rfl (sv_pure S rfl) ?_; clear S a; intro a S)
      refine wpList_nil ?_
      (refine hKq8 _ _ ?_; try (clear hKq8 Kq8))
      (refine wp_seq_k ?_; intro Kq9 hKq9)
      (refine wp_seq_k ?_; intro Kq10 hKq10)
      refine wp_region_lit ?_
      (refine wpl_v S rfl rfl rfl (sv_pure S rfl) ?_; clear S a; intro a S)
      refine wpList_nil ?_
      (refine hKq10 _ _ ?_; try (clear hKq10 Kq10))
      refine wp_block ?_
      refine wpc_loop (fun m a w' => ∃ (i : Nat) (R Lf : List Pr) (al : Option Addr) (cl : Nat) (okt oku : Bool) (σt σu : List UInt8 → Ty) (F5 : Heap) (Gt Gu : List Grp), m = Lf.length ∧ (∀ b o, F b = some o → F5 b = some o) ∧ PsM F5 (.slice al Lf.length cl) Lf ∧ i + Lf.length = ps.length ∧ (R ++ Lf).Perm ps ∧ TabQ F5 tb (i * 4096) σt Gt ∧ TabQ F5 ub (i * 4096) σu Gu ∧ StP (ps.take i) okt σt ∧ StP R oku σu ∧ St 137 [(0, .slice ao ps.length cap), (1, .slice ap picks.length cp), (5, .slice al Lf.length cl), (6, ptr tb), (7, ptr ub), (8, .bool okt), (9, .bool oku), (10, .int .i64 i)] w0 F [] F5 (Gt ++ Gu) a w') ?_ ?_
      · (obtain ⟨al, cl, rfl, -, -⟩ := id hvl0; refine ⟨ps.length, 0, [], ps, al, cl, true, true, vid, vid, F4, Gt, Gu, rfl, fun b o h => hF4 _ _ (hF3 _ _ (hle _ _ (hF1 _ _ h))), hvl0.mono (fun b o h => hF4 _ _ (hF3 _ _ h)), by omega, List.Perm.refl _, hQt.mono hF4, hQu, (by rw [List.take_zero]; exact stp_nil), stp_nil, ?_⟩; refine S.keep ?_; repeat (first | exact trivial | refine ⟨rfl, ?_⟩))
      · (clear S; rintro m a w ⟨i, R, Lf, al, cl, okt, oku, σt, σu, F5, Gt, Gu, rfl, hF5, hvl, hil, hperm, hQt, hQu, hst, hsu, S⟩)
        (refine wp_seq_k ?_; intro Kq11 hKq11)
        (refine wp_seq_k ?_; intro Kq12 hKq12)
        refine wp_region_lit ?_
        (refine wpl_v S rfl rfl rfl (sv_pure S rfl) ?_; clear S a; intro a S)
        (refine wpl_v S rfl rfl rfl (sv_lenSl S rfl rfl) ?_; clear S a; intro a S)
        (refine wpl_v S rfl rfl rfl (sv_pure S rfl) ?_; clear S a; intro a S)
        refine wpList_nil ?_
        (refine hKq12 _ _ ?_; try (clear hKq12 Kq12))
        refine wpc_split S rfl (fun h => ?_) (fun h => ?_)
        · (skip; (try simp only [decide_eq_true_eq, decide_eq_false_iff_not, beq_iff_eq, bne_iff_ne, bne_eq_false_iff_eq, beq_eq_false_iff_ne, ne_eq, Bool.not_eq_true', Bool.not_eq_false', Bool.not_eq_true, Bool.not_eq_false, Bool.not_true, Bool.not_false, Int.ofNat_lt, Int.ofNat_le, Nat.not_lt, Nat.not_le] at h))
          refine wp_skip ?_
          (refine hKq11 _ _ ?_; try (clear hKq11 Kq11))
          (refine wp_seq_k ?_; intro Kq13 hKq13)
          refine wp_block ?_
          (refine wp_seq_k ?_; intro Kq14 hKq14)
          refine wp_region_lit ?_
          (refine wpl_v S rfl rfl rfl (sv_pure S rfl) ?_; clear S a; intro a S)
          refine wpList_nil ?_
          (refine hKq14 _ _ ?_; try (clear hKq14 Kq14))
          (refine wp_seq_k ?_; intro Kq15 hKq15)
          replace hKq15 : ∀ (a' : Act) (w' : World), (∃ (k : Nat) (q : Pr), Lf[k]? = some q ∧ St 137 [(0, .slice ao ps.length cap), (1, .slice ap picks.length cp), (5, .slice al Lf.length cl), (6, ptr tb), (7, ptr ub), (8, .bool okt), (9, .bool oku), (10, .int .i64 i), (11, .int .i64 k)] w0 F [] F5 (Gt ++ Gu) a' w') → Kq15 a' w' := (by
            (intro a w hM; refine hKq15 _ _ ?_; clear hKq15 Kq15; clear S; obtain ⟨k, q, hq, S⟩ := hM)
            (refine wp_seq_k ?_; intro Kq16 hKq16)
            replace hKq16 : ∀ (a' : Act) (w' : World), (∃ (F6 : Heap) (Gu6 : List Grp) (σ6 : List UInt8 → Ty) (ok6 : Bool), (∀ b o, F5 b = some o → F6 b = some o) ∧ TabQ F6 ub ((i + 1) * 4096) σ6 Gu6 ∧ StP (R ++ [q]) ok6 σ6 ∧ St 137 [(0, .slice ao ps.length cap), (1, .slice ap picks.length cp), (5, .slice al Lf.length cl), (6, ptr tb), (7, ptr ub), (8, .bool okt), (9, .bool ok6), (10, .int .i64 i), (11, .int .i64 k)] w0 F [] F6 (Gt ++ Gu6) a' w') → Kq16 a' w' := (by
              (intro a w hM; refine hKq16 _ _ ?_; clear hKq16 Kq16; clear S; obtain ⟨F6, Gu6, σ6, ok6, hF6, hQ6, hs6, S⟩ := hM)
              (refine wp_seq_k ?_; intro Kq17 hKq17)
              (have hkl := (List.getElem?_eq_some_iff.1 hq).1; obtain ⟨xsL, hxL, hxcL, hxpL⟩ := (hvl.mono hF6).flat; have hml := take_mid_len hkl)
              (refine wpc_mixM [1, 2, 3, 5, 6, 7, 8] [] [] (.one 1 (.one 2 (.one 3 (.one 5 (.one 6 (.one 7 (.one 8 (.one 0 (.one 4 (.one 9 (.one 10 .nil))))))))))) [] S mixed (by kernel_rfl) ?_; clear S; intro w S)
              (refine wpm_v S rfl rfl rfl (want_none _ rfl) rfl rfl (fun w' S => sv_pure S rfl) ?_; clear S a; intro a S)
              (refine wpm_v S rfl rfl rfl (want_none _ rfl) rfl rfl (fun w' S => sv_pure S rfl) ?_; clear S a; intro a S)
              (refine wpm_v S rfl rfl rfl (want_none _ rfl) rfl rfl (fun w' S => sv_sliceSl_h S rfl rfl rfl (by omega)) ?_; clear S a; intro a S)
              (refine wpm_v S rfl rfl rfl (want_none _ rfl) rfl rfl (fun w' S => sv_pure S rfl) ?_; clear S a; intro a S)
              (refine wpm_v S rfl rfl rfl (want_none _ rfl) rfl rfl (fun w' S => sv_pure S rfl) ?_; clear S a; intro a S)
              (refine wpm_v S rfl rfl rfl (want_none _ rfl) rfl rfl (fun w' S => sv_add S rfl rfl rfl (by first | omega | (simp only [List.length_append, List.length_cons, List.length_nil]; omega))) ?_; clear S a; intro a S)
              (refine wpm_v S rfl rfl rfl (want_none _ rfl) rfl rfl (fun w' S => sv_sliceSl_l (i := k + 1) S rfl rfl rfl (by omega) (by omega)) ?_; clear S a; intro a S)
              refine wpm_eff rfl rfl (fun _ => ⟨fun b o h => S.tr.frz b o (by first | exact h | solve_by_elim), trivial⟩) ?_
              (refine wpl_buildSlice S rfl rfl rfl rfl rfl rfl (by rfl) (by simp [Value.cells, splice, splice]) rfl (by rfl) (by rfl) ?_; clear S a; intro b70 a w hown S)
              refine wpList_nil ?_
              refine wpm_eff rfl rfl (fun _ => ⟨fun b o h => S.tr.frz b o (by first | exact h | solve_by_elim), trivial⟩) ?_
              (refine wpl_appendSl (news := xsL.take (k * 5)) S rfl rfl rfl rfl rfl rfl hown (by rfl) (by rw [List.length_take, hxL.len]; omega) (fun h => (by obtain ⟨b, o, e, h9⟩ := hxpL (by omega); exact ⟨b, o, e, h9.take _⟩)) (fun u hu => hxL.one' u (List.mem_of_mem_take hu)) (by omega) (by omega) ?_; clear hown S a; intro v g a w hown S)
              refine wpList_nil ?_
              refine wpm_eff rfl rfl (fun _ => ⟨fun b o h => S.tr.frz b o (by first | exact h | solve_by_elim), trivial⟩) ?_
              (refine wpl_appendSl (news := xsL.drop ((k + 1) * 5)) S rfl rfl rfl rfl rfl rfl hown (by rfl) (by rw [List.length_drop, hxL.len]; omega) (fun h => (by obtain ⟨b, o, e, h9⟩ := hxpL (by omega); exact ⟨b, o + (k + 1) * 5, (by rw [if_neg (by omega), e, Option.map_some, addr_add]), h9.drop _⟩)) (fun u hu => hxL.one' u (List.mem_of_mem_drop hu)) (by omega) (by omega) ?_; clear hown S a; intro v g a w hown S; have hle7 := add_le (G1 := []) S; replace S := St.freeze (G1 := []) S; (simp only [List.nil_append] at S hle7); have hvl7 : PsM (F6.add g) v (Lf.take k ++ Lf.drop (k + 1)) := PrC.psm hown (by simpa using (hxL.take k).app (hxL.drop (k + 1))) (by omega) hle7 (by omega); generalize F6.add g = F7 at S hle7 hvl7; clear hown; obtain ⟨al7, cl7, rfl, -, -⟩ := id hvl7)
              refine wpList_nil ?_
              refine wpm_eff rfl rfl (fun _ => ⟨fun b o h => S.tr.frz b o (by first | exact h | solve_by_elim), trivial⟩) ?_
              (refine wpl_v S rfl rfl rfl (sv_pure S rfl) ?_; clear S a; intro a S)
              refine wpList_nil ?_
              refine wpm_nil (fun _ => ⟨fun b o h => S.tr.frz b o (by first | exact h | solve_by_elim), trivial⟩) ?_
              (refine hKq17 _ _ ?_; try (clear hKq17 Kq17))
              (obtain ⟨b8, o8, hao, hel⟩ := hpos (by omega); rw [hao] at S; obtain ⟨p, hp⟩ : ∃ p, ps[i]? = some p := ⟨_, List.getElem?_eq_getElem (by omega)⟩; obtain ⟨va, vb, hc5, hTa, hTb⟩ := hel i p hp; obtain ⟨aoa, capa, rfl, hTa1⟩ := hTa; obtain ⟨aob, capb, rfl, hTb1⟩ := hTb; have hF7 : ∀ b o, F b = some o → F7 b = some o := (fun b o h => hle7 _ _ (hF6 _ _ (hF5 _ _ h))); have hTa : SlF F7 (.slice aoa p.aa.len capa) p.aa := SlF.mono hF7 ⟨_, _, rfl, hTa1⟩; have hTb : SlF F7 (.slice aob p.ab.len capb) p.ab := SlF.mono hF7 ⟨_, _, rfl, hTb1⟩; have hca : Cels F7 b8 (o8 + i * 5 + 0) [.string (bs p.na), .slice aoa p.aa.len capa] := Cels.mono hF7 (hc5.take 2).zero; have hcb : Cels F7 b8 (o8 + i * 5 + 2) [.string (bs p.nb), .slice aob p.ab.len capb] := Cels.mono hF7 ((hc5.drop 2).take 2); have hQt7 : TabQ F7 tb (i * 4096) σt Gt := hQt.mono fun b o h => hle7 _ _ (hF6 _ _ h))
              (refine wpc_mixM [0, 1, 2, 3, 4, 5, 6, 7, 8, 9, 10, 11, 12, 14, 15] [7, 12] [] (.one 0 (.one 1 (.one 2 (.one 3 (.one 4 (.one 5 (.one 6 (.one 7 (.one 8 (.one 9 (.one 10 (.one 11 (.one 12 (.one 13 (.one 14 (.one 15 (.one 16 .nil))))))))))))))))) [] S mixed (by kernel_rfl) ?_; clear S; intro w S)
              (refine wpm_v S rfl rfl rfl (want_none _ rfl) rfl rfl (fun w' S => sv_pure S rfl) ?_; clear S a; intro a S)
              (refine wpm_v S rfl rfl rfl (want_none _ rfl) rfl rfl (fun w' S => sv_pure S rfl) ?_; clear S a; intro a S)
              refine St.part (dj := 81) (want := true) S rfl ?_ ?_
              · (intro h S'; clear S; have S := S'; clear S'; (try simp only [decide_eq_true_eq, decide_eq_false_iff_not, beq_iff_eq, bne_iff_ne, bne_eq_false_iff_eq, beq_eq_false_iff_ne, ne_eq, Bool.not_eq_true', Bool.not_eq_false', Bool.not_eq_true, Bool.not_eq_false, Bool.not_true, Bool.not_false, Int.ofNat_lt, Int.ofNat_le, Nat.not_lt, Nat.not_le] at h))
                (refine wpm_v S rfl rfl rfl (want_yes S rfl rfl rfl) rfl rfl (fun w' S => sv_pure S rfl) ?_; clear S a; intro a S)
                (refine wpm_v S rfl rfl rfl (want_yes S rfl rfl rfl) rfl rfl (fun w' S => sv_pure S rfl) ?_; clear S a; intro a S)
                (refine wpm_v S rfl rfl rfl (want_yes S rfl rfl rfl) rfl rfl (fun w' S => sv_pure S rfl) ?_; clear S a; intro a S)
                (refine wpm_v S rfl rfl rfl (want_yes S rfl rfl rfl) rfl rfl (fun w' S => sv_indexAddrSl S rfl rfl rfl (by first | omega | (simp only [List.length_append, List.length_cons, List.length_nil]; omega))) ?_; clear S a; intro a S)
                (refine wpm_v S rfl rfl rfl (want_yes S rfl rfl rfl) rfl rfl (fun w' S => sv_fieldAddr S rfl rfl rfl inferInstance rfl) ?_; clear S a; intro a S)
                first | (refine wpm_lateF S rfl rfl rfl (want_yes S rfl rfl rfl) rfl rfl (fun w' S => sv_loadF S rfl rfl (by assumption)) ?_; clear S a; intro a S) | (refine wpm_lateF S rfl rfl rfl (want_yes S rfl rfl rfl) rfl rfl (fun w' S => sv_loadAF S rfl rfl (by assumption) (by rfl)) ?_; clear S a; intro a S)
                (refine wpm_v S rfl rfl rfl (want_yes S rfl rfl rfl) rfl rfl (fun w' S => sv_pure S rfl) ?_; clear S a; intro a S)
                (refine wpm_v S rfl rfl rfl (want_yes S rfl rfl rfl) rfl rfl (fun w' S => sv_pure S rfl) ?_; clear S a; intro a S)
                (refine wpm_v S rfl rfl rfl (want_yes S rfl rfl rfl) rfl rfl (fun w' S => sv_indexAddrSl S rfl rfl rfl (by first | omega | (simp only [List.length_append, List.length_cons, List.length_nil]; omega))) ?_; clear S a; intro a S)
                (refine wpm_v S rfl rfl rfl (want_yes S rfl rfl rfl) rfl rfl (fun w' S => sv_fieldAddr S rfl rfl rfl inferInstance rfl) ?_; clear S a; intro a S)
                first | (refine wpm_lateF S rfl rfl rfl (want_yes S rfl rfl rfl) rfl rfl (fun w' S => sv_loadF S rfl rfl (by assumption)) ?_; clear S a; intro a S) | (refine wpm_lateF S rfl rfl rfl (want_yes S rfl rfl rfl) rfl rfl (fun w' S => sv_loadAF S rfl rfl (by assumption) (by rfl)) ?_; clear S a; intro a S)
                refine wpm_eff rfl rfl (fun _ => ⟨fun b o h => S.tr.frz b o (by first | exact h | solve_by_elim), trivial⟩) ?_
                refine wpl_take S rfl rfl rfl ?_
                (refine wpl_call (Gs := Gt) (Gr := Gu6) S rfl rfl rfl rfl rfl rfl (unifyCt F7 tb (i * 4096) σt Gt p.na p.aa _ p.nb p.ab _ ⟨_, rfl, hTa⟩ ⟨_, rfl, hTb⟩ (by omega) hQt7) rfl (grp_app (A := Gt)) ?_; clear S a; intro u9 F8 Gt8 a w hv hF8 S; obtain ⟨e8, σ8, rfl, hQ8, hu8⟩ := hv)
                refine wpList_nil ?_
                (refine wpm_v S rfl rfl rfl (want_yes S rfl rfl rfl) rfl rfl (fun w' S => sv_pure S rfl) ?_; clear S a; intro a S)
                first | (refine wpm_v S rfl rfl rfl (want_none _ rfl) rfl rfl (fun w' S => sv_pure S rfl) ?_; clear S a; intro a S) | (refine wpm_v S rfl rfl rfl (want_none _ rfl) rfl rfl (fun w' S => sv_pickB S rfl rfl rfl rfl) ?_; clear S a; intro a S)
                refine wpm_eff rfl rfl (fun _ => ⟨fun b o h => S.tr.frz b o (by first | exact h | solve_by_elim), trivial⟩) ?_
                (refine wpl_v S rfl rfl rfl (sv_pure S rfl) ?_; clear S a; intro a S)
                refine wpList_nil ?_
                refine wpm_nil (fun _ => ⟨fun b o h => S.tr.frz b o (by first | exact h | solve_by_elim), trivial⟩) ?_
                (refine hKq13 _ _ ?_; try (clear hKq13 Kq13))
                refine wp_region_lit ?_
                (refine wpl_v S rfl rfl rfl (sv_pure S rfl) ?_; clear S a; intro a S)
                (refine wpl_v S rfl rfl rfl (sv_add S rfl rfl rfl (by first | omega | (simp only [List.length_append, List.length_cons, List.length_nil]; omega))) ?_; clear S a; intro a S)
                (refine wpl_v S rfl rfl rfl (sv_pure S rfl) ?_; clear S a; intro a S)
                refine wpList_nil ?_
                change ∃ m', _ ∧ _
                (rw [← hao] at S; first | (have hok : okt = true := (by assumption); exact ⟨_, by omega, i + 1, R ++ [q], Lf.take k ++ Lf.drop (k + 1), al7, cl7, decide (e8 = 0), ok6, σ8, σ6, F8, Gt8, Gu6, rfl, fun b o h => hF8 _ _ (hle7 _ _ (hF6 _ _ (hF5 _ _ h))), hvl7.mono hF8, by omega, perm_step hq hperm, hQ8.le (by omega), (hQ6.mono fun b o h => hF8 _ _ (hle7 _ _ h)).le (by omega), (by rw [take_one hp]; exact StP.step (by rw [← hok]; exact hst) (.inl ⟨rfl, rfl⟩) hu8), hs6, S.keep ⟨rfl, rfl, rfl, rfl, rfl, rfl, rfl, rfl, trivial⟩⟩) | (have hok : okt = false := (by assumption); exact ⟨_, by omega, i + 1, R ++ [q], Lf.take k ++ Lf.drop (k + 1), al7, cl7, false, ok6, σt, σ6, F7, Gt, Gu6, rfl, fun b o h => hle7 _ _ (hF6 _ _ (hF5 _ _ h)), hvl7, by omega, perm_step hq hperm, (hQt.mono fun b o h => hle7 _ _ (hF6 _ _ h)).le (by omega), (hQ6.mono hle7).le (by omega), (by rw [take_one hp]; exact StP.no (by rw [← hok]; exact hst)), hs6, S.keep ⟨rfl, rfl, rfl, rfl, rfl, rfl, rfl, rfl, trivial⟩⟩) | trace_state)
              · (intro h S'; clear S; have S := S'; clear S'; (try simp only [decide_eq_true_eq, decide_eq_false_iff_not, beq_iff_eq, bne_iff_ne, bne_eq_false_iff_eq, beq_eq_false_iff_ne, ne_eq, Bool.not_eq_true', Bool.not_eq_false', Bool.not_eq_true, Bool.not_eq_false, Bool.not_true, Bool.not_false, Int.ofNat_lt, Int.ofNat_le, Nat.not_lt, Nat.not_le] at h))
                (refine wpm_skip S rfl rfl (want_no S rfl rfl rfl) rfl rfl ?_; clear S a; intro a S)
                (refine wpm_skip S rfl rfl (want_no S rfl rfl rfl) rfl rfl ?_; clear S a; intro a S)
                (refine wpm_skip S rfl rfl (want_no S rfl rfl rfl) rfl rfl ?_; clear S a; intro a S)
                (refine wpm_skip S rfl rfl (want_no S rfl rfl rfl) rfl rfl ?_; clear S a; intro a S)
                (refine wpm_skip S rfl rfl (want_no S rfl rfl rfl) rfl rfl ?_; clear S a; intro a S)
                (refine wpm_skip S rfl rfl (want_no S rfl rfl rfl) rfl rfl ?_; clear S a; intro a S)
                (refine wpm_skip S rfl rfl (want_no S rfl rfl rfl) rfl rfl ?_; clear S a; intro a S)
                (refine wpm_skip S rfl rfl (want_no S rfl rfl rfl) rfl rfl ?_; clear S a; intro a S)
                (refine wpm_skip S rfl rfl (want_no S rfl rfl rfl) rfl rfl ?_; clear S a; intro a S)
                (refine wpm_skip S rfl rfl (want_no S rfl rfl rfl) rfl rfl ?_; clear S a; intro a S)
                (refine wpm_skip S rfl rfl (want_no S rfl rfl rfl) rfl rfl ?_; clear S a; intro a S)
                (refine wpm_skipE S rfl rfl (want_no S rfl rfl rfl) (fun _ => ⟨fun b o h => S.tr.frz b o (by first | exact h | solve_by_elim), trivial⟩) rfl rfl ?_; clear S a; intro a S)
                (refine wpm_skip S rfl rfl (want_no S rfl rfl rfl) rfl rfl ?_; clear S a; intro a S)
                first | (refine wpm_v S rfl rfl rfl (want_none _ rfl) rfl rfl (fun w' S => sv_pure S rfl) ?_; clear S a; intro a S) | (refine wpm_v S rfl rfl rfl (want_none _ rfl) rfl rfl (fun w' S => sv_pickB S rfl rfl rfl rfl) ?_; clear S a; intro a S)
                refine wpm_eff rfl rfl (fun _ => ⟨fun b o h => S.tr.frz b o (by first | exact h | solve_by_elim), trivial⟩) ?_
                (refine wpl_v S rfl rfl rfl (sv_pure S rfl) ?_; clear S a; intro a S)
                refine wpList_nil ?_
                refine wpm_nil (fun _ => ⟨fun b o h => S.tr.frz b o (by first | exact h | solve_by_elim), trivial⟩) ?_
                (refine hKq13 _ _ ?_; try (clear hKq13 Kq13))
                refine wp_region_lit ?_
                (refine wpl_v S rfl rfl rfl (sv_pure S rfl) ?_; clear S a; intro a S)
                (refine wpl_v S rfl rfl rfl (sv_add S rfl rfl rfl (by first | omega | (simp only [List.length_append, List.length_cons, List.length_nil]; omega))) ?_; clear S a; intro a S)
                (refine wpl_v S rfl rfl rfl (sv_pure S rfl) ?_; clear S a; intro a S)
                refine wpList_nil ?_
                change ∃ m', _ ∧ _
                (rw [← hao] at S; first | (have hok : okt = true := (by assumption); exact ⟨_, by omega, i + 1, R ++ [q], Lf.take k ++ Lf.drop (k + 1), al7, cl7, decide (e8 = 0), ok6, σ8, σ6, F8, Gt8, Gu6, rfl, fun b o h => hF8 _ _ (hle7 _ _ (hF6 _ _ (hF5 _ _ h))), hvl7.mono hF8, by omega, perm_step hq hperm, hQ8.le (by omega), (hQ6.mono fun b o h => hF8 _ _ (hle7 _ _ h)).le (by omega), (by rw [take_one hp]; exact StP.step (by rw [← hok]; exact hst) (.inl ⟨rfl, rfl⟩) hu8), hs6, S.keep ⟨rfl, rfl, rfl, rfl, rfl, rfl, rfl, rfl, trivial⟩⟩) | (have hok : okt = false := (by assumption); exact ⟨_, by omega, i + 1, R ++ [q], Lf.take k ++ Lf.drop (k + 1), al7, cl7, false, ok6, σt, σ6, F7, Gt, Gu6, rfl, fun b o h => hle7 _ _ (hF6 _ _ (hF5 _ _ h)), hvl7, by omega, perm_step hq hperm, (hQt.mono fun b o h => hle7 _ _ (hF6 _ _ h)).le (by omega), (hQ6.mono hle7).le (by omega), (by rw [take_one hp]; exact StP.no (by rw [← hok]; exact hst)), hs6, S.keep ⟨rfl, rfl, rfl, rfl, rfl, rfl, rfl, rfl, trivial⟩⟩) | trace_state))
            (have hkl := (List.getElem?_eq_some_iff.1 hq).1; obtain ⟨xsL, hxL, hxcL, hxpL⟩ := hvl.flat; obtain ⟨bl, ol, hal, hcl⟩ := hxpL (by omega); rw [hal] at S; obtain ⟨va, vb, hat, hqa, hqb⟩ := hxL.at hq; have hc5 : Cels F5 bl (ol + k * 5) [.string (bs q.na), va, .string (bs q.nb), vb, .bool q.c] := (fun j u hj => by rw [Nat.add_assoc]; exact hcl _ _ (hat j u hj)); have hqa0 := hqa; have hqb0 := hqb; obtain ⟨aoa, capa, rfl, -⟩ := hqa0; obtain ⟨aob, capb, rfl, -⟩ := hqb0; have hca : Cels F5 bl (ol + k * 5 + 0) [.string (bs q.na), .slice aoa q.aa.len capa] := (hc5.take 2).zero; have hcb : Cels F5 bl (ol + k * 5 + 2) [.string (bs q.nb), .slice aob q.ab.len capb] := (hc5.drop 2).take 2)
            (refine wpc_mixM [0, 1, 2, 3, 4, 5, 6, 7, 8, 9, 10, 11, 12, 14, 15] [7, 12] [] (.one 0 (.one 1 (.one 2 (.one 3 (.one 4 (.one 5 (.one 6 (.one 7 (.one 8 (.one 9 (.one 10 (.one 11 (.one 12 (.one 13 (.one 14 (.one 15 (.one 16 .nil))))))))))))))))) [] S mixed (by kernel_rfl) ?_; clear S; intro w S)
            (refine wpm_v S rfl rfl rfl (want_none _ rfl) rfl rfl (fun w' S => sv_pure S rfl) ?_; clear S a; intro a S)
            (refine wpm_v S rfl rfl rfl (want_none _ rfl) rfl rfl (fun w' S => sv_pure S rfl) ?_; clear S a; intro a S)
            refine St.part (dj := 55) (want := true) S rfl ?_ ?_
            · (intro h S'; clear S; have S := S'; clear S'; (try simp only [decide_eq_true_eq, decide_eq_false_iff_not, beq_iff_eq, bne_iff_ne, bne_eq_false_iff_eq, beq_eq_false_iff_ne, ne_eq, Bool.not_eq_true', Bool.not_eq_false', Bool.not_eq_true, Bool.not_eq_false, Bool.not_true, Bool.not_false, Int.ofNat_lt, Int.ofNat_le, Nat.not_lt, Nat.not_le] at h))
              (refine wpm_v S rfl rfl rfl (want_yes S rfl rfl rfl) rfl rfl (fun w' S => sv_pure S rfl) ?_; clear S a; intro a S)
              (refine wpm_v S rfl rfl rfl (want_yes S rfl rfl rfl) rfl rfl (fun w' S => sv_pure S rfl) ?_; clear S a; intro a S)
              (refine wpm_v S rfl rfl rfl (want_yes S rfl rfl rfl) rfl rfl (fun w' S => sv_pure S rfl) ?_; clear S a; intro a S)
              (refine wpm_v S rfl rfl rfl (want_yes S rfl rfl rfl) rfl rfl (fun w' S => sv_indexAddrSl S rfl rfl rfl (by first | omega | (simp only [List.length_append, List.length_cons, List.length_nil]; omega))) ?_; clear S a; intro a S)
              (refine wpm_v S rfl rfl rfl (want_yes S rfl rfl rfl) rfl rfl (fun w' S => sv_fieldAddr S rfl rfl rfl inferInstance rfl) ?_; clear S a; intro a S)
              first | (refine wpm_lateF S rfl rfl rfl (want_yes S rfl rfl rfl) rfl rfl (fun w' S => sv_loadF S rfl rfl (by assumption)) ?_; clear S a; intro a S) | (refine wpm_lateF S rfl rfl rfl (want_yes S rfl rfl rfl) rfl rfl (fun w' S => sv_loadAF S rfl rfl (by assumption) (by rfl)) ?_; clear S a; intro a S)
              (refine wpm_v S rfl rfl rfl (want_yes S rfl rfl rfl) rfl rfl (fun w' S => sv_pure S rfl) ?_; clear S a; intro a S)
              (refine wpm_v S rfl rfl rfl (want_yes S rfl rfl rfl) rfl rfl (fun w' S => sv_pure S rfl) ?_; clear S a; intro a S)
              (refine wpm_v S rfl rfl rfl (want_yes S rfl rfl rfl) rfl rfl (fun w' S => sv_indexAddrSl S rfl rfl rfl (by first | omega | (simp only [List.length_append, List.length_cons, List.length_nil]; omega))) ?_; clear S a; intro a S)
              (refine wpm_v S rfl rfl rfl (want_yes S rfl rfl rfl) rfl rfl (fun w' S => sv_fieldAddr S rfl rfl rfl inferInstance rfl) ?_; clear S a; intro a S)
              first | (refine wpm_lateF S rfl rfl rfl (want_yes S rfl rfl rfl) rfl rfl (fun w' S => sv_loadF S rfl rfl (by assumption)) ?_; clear S a; intro a S) | (refine wpm_lateF S rfl rfl rfl (want_yes S rfl rfl rfl) rfl rfl (fun w' S => sv_loadAF S rfl rfl (by assumption) (by rfl)) ?_; clear S a; intro a S)
              refine wpm_eff rfl rfl (fun _ => ⟨fun b o h => S.tr.frz b o (by first | exact h | solve_by_elim), trivial⟩) ?_
              refine wpl_take S rfl rfl rfl ?_
              (refine wpl_call (Gs := Gu) (Gr := Gt) S rfl rfl rfl rfl rfl rfl (unifyCt F5 ub (i * 4096) σu Gu q.nb q.ab _ q.na q.aa _ ⟨_, rfl, hqb⟩ ⟨_, rfl, hqa⟩ (by omega) hQu) rfl (grp_perm (A := Gt)) ?_; clear S a; intro u9 F6 Gu6 a w hv hF6 S; obtain ⟨e6, σ6, rfl, hQ6, hu6⟩ := hv; replace S : St _ _ _ _ _ F6 (Gt ++ Gu6) _ _ := St.rotL S)
              refine wpList_nil ?_
              (refine wpm_v S rfl rfl rfl (want_yes S rfl rfl rfl) rfl rfl (fun w' S => sv_pure S rfl) ?_; clear S a; intro a S)
              first | (refine wpm_v S rfl rfl rfl (want_none _ rfl) rfl rfl (fun w' S => sv_pure S rfl) ?_; clear S a; intro a S) | (refine wpm_v S rfl rfl rfl (want_none _ rfl) rfl rfl (fun w' S => sv_pickB S rfl rfl rfl rfl) ?_; clear S a; intro a S)
              refine wpm_eff rfl rfl (fun _ => ⟨fun b o h => S.tr.frz b o (by first | exact h | solve_by_elim), trivial⟩) ?_
              (refine wpl_v S rfl rfl rfl (sv_pure S rfl) ?_; clear S a; intro a S)
              refine wpList_nil ?_
              refine wpm_nil (fun _ => ⟨fun b o h => S.tr.frz b o (by first | exact h | solve_by_elim), trivial⟩) ?_
              (refine hKq16 _ _ ?_)
              (rw [← hal] at S; first | (have hok : oku = true := (by assumption); exact ⟨F6, Gu6, σ6, decide (e6 = 0), hF6, hQ6.le (by omega), StP.step (by rw [← hok]; exact hsu) (.inr ⟨rfl, rfl⟩) hu6, S.keep ⟨rfl, rfl, rfl, rfl, rfl, rfl, rfl, rfl, rfl, trivial⟩⟩) | (have hok : oku = false := (by assumption); exact ⟨F5, Gu, σu, false, fun _ _ h => h, hQu.le (by omega), StP.no (by rw [← hok]; exact hsu), S.keep ⟨rfl, rfl, rfl, rfl, rfl, rfl, rfl, rfl, rfl, trivial⟩⟩) | trace_state)
            · (intro h S'; clear S; have S := S'; clear S'; (try simp only [decide_eq_true_eq, decide_eq_false_iff_not, beq_iff_eq, bne_iff_ne, bne_eq_false_iff_eq, beq_eq_false_iff_ne, ne_eq, Bool.not_eq_true', Bool.not_eq_false', Bool.not_eq_true, Bool.not_eq_false, Bool.not_true, Bool.not_false, Int.ofNat_lt, Int.ofNat_le, Nat.not_lt, Nat.not_le] at h))
              (refine wpm_skip S rfl rfl (want_no S rfl rfl rfl) rfl rfl ?_; clear S a; intro a S)
              (refine wpm_skip S rfl rfl (want_no S rfl rfl rfl) rfl rfl ?_; clear S a; intro a S)
              (refine wpm_skip S rfl rfl (want_no S rfl rfl rfl) rfl rfl ?_; clear S a; intro a S)
              (refine wpm_skip S rfl rfl (want_no S rfl rfl rfl) rfl rfl ?_; clear S a; intro a S)
              (refine wpm_skip S rfl rfl (want_no S rfl rfl rfl) rfl rfl ?_; clear S a; intro a S)
              (refine wpm_skip S rfl rfl (want_no S rfl rfl rfl) rfl rfl ?_; clear S a; intro a S)
              (refine wpm_skip S rfl rfl (want_no S rfl rfl rfl) rfl rfl ?_; clear S a; intro a S)
              (refine wpm_skip S rfl rfl (want_no S rfl rfl rfl) rfl rfl ?_; clear S a; intro a S)
              (refine wpm_skip S rfl rfl (want_no S rfl rfl rfl) rfl rfl ?_; clear S a; intro a S)
              (refine wpm_skip S rfl rfl (want_no S rfl rfl rfl) rfl rfl ?_; clear S a; intro a S)
              (refine wpm_skip S rfl rfl (want_no S rfl rfl rfl) rfl rfl ?_; clear S a; intro a S)
              (refine wpm_skipE S rfl rfl (want_no S rfl rfl rfl) (fun _ => ⟨fun b o h => S.tr.frz b o (by first | exact h | solve_by_elim), trivial⟩) rfl rfl ?_; clear S a; intro a S)
              (refine wpm_skip S rfl rfl (want_no S rfl rfl rfl) rfl rfl ?_; clear S a; intro a S)
              first | (refine wpm_v S rfl rfl rfl (want_none _ rfl) rfl rfl (fun w' S => sv_pure S rfl) ?_; clear S a; intro a S) | (refine wpm_v S rfl rfl rfl (want_none _ rfl) rfl rfl (fun w' S => sv_pickB S rfl rfl rfl rfl) ?_; clear S a; intro a S)
              refine wpm_eff rfl rfl (fun _ => ⟨fun b o h => S.tr.frz b o (by first | exact h | solve_by_elim), trivial⟩) ?_
              (refine wpl_v S rfl rfl rfl (sv_pure S rfl) ?_; clear S a; intro a S)
              refine wpList_nil ?_
              refine wpm_nil (fun _ => ⟨fun b o h => S.tr.frz b o (by first | exact h | solve_by_elim), trivial⟩) ?_
              (refine hKq16 _ _ ?_)
              (rw [← hal] at S; first | (have hok : oku = true := (by assumption); exact ⟨F6, Gu6, σ6, decide (e6 = 0), hF6, hQ6.le (by omega), StP.step (by rw [← hok]; exact hsu) (.inr ⟨rfl, rfl⟩) hu6, S.keep ⟨rfl, rfl, rfl, rfl, rfl, rfl, rfl, rfl, rfl, trivial⟩⟩) | (have hok : oku = false := (by assumption); exact ⟨F5, Gu, σu, false, fun _ _ h => h, hQu.le (by omega), StP.no (by rw [← hok]; exact hsu), S.keep ⟨rfl, rfl, rfl, rfl, rfl, rfl, rfl, rfl, rfl, trivial⟩⟩) | trace_state))
          (refine wp_seq_k ?_; intro Kq18 hKq18)
          refine wp_region_lit ?_
          (refine wpl_v S rfl rfl rfl (sv_pure S rfl) ?_; clear S a; intro a S)
          (refine wpl_v S rfl rfl rfl (sv_pure S rfl) ?_; clear S a; intro a S)
          (refine wpl_v S rfl rfl rfl (sv_lenSl S rfl rfl) ?_; clear S a; intro a S)
          (refine wpl_v S rfl rfl rfl (sv_pure S rfl) ?_; clear S a; intro a S)
          refine wpList_nil ?_
          (refine hKq18 _ _ ?_; try (clear hKq18 Kq18))
          refine wpc_split S rfl (fun h => ?_) (fun h => ?_)
          · (skip; (try simp only [decide_eq_true_eq, decide_eq_false_iff_not, beq_iff_eq, bne_iff_ne, bne_eq_false_iff_eq, beq_eq_false_iff_ne, ne_eq, Bool.not_eq_true', Bool.not_eq_false', Bool.not_eq_true, Bool.not_eq_false, Bool.not_true, Bool.not_false, Int.ofNat_lt, Int.ofNat_le, Nat.not_lt, Nat.not_le] at h))
            (obtain ⟨bpk, opk, hap, hcpk⟩ := hpp (by omega); obtain ⟨pk, hpk⟩ : ∃ pk, picks[i]? = some pk := ⟨_, List.getElem?_eq_getElem (by omega)⟩; have hck1 : Cel F5 bpk (opk + i * 1) (.int .i64 pk) := (by rw [Nat.mul_one]; exact (hcpk i _ (by rw [intsI, List.getElem?_map, hpk]; rfl)).mono hF5); rw [hap] at S)
            refine wp_region_lit ?_
            (refine wpl_v S rfl rfl rfl (sv_pure S rfl) ?_; clear S a; intro a S)
            (refine wpl_v S rfl rfl rfl (sv_pure S rfl) ?_; clear S a; intro a S)
            (refine wpl_v S rfl rfl rfl (sv_indexAddrSl S rfl rfl rfl (by first | omega | (simp only [List.length_append, List.length_cons, List.length_nil]; omega))) ?_; clear S a; intro a S)
            first | (refine wpl_v S rfl rfl rfl (sv_loadO S rfl rfl (by rfl)) ?_; clear S a; intro a S) | (refine wpl_v S rfl rfl rfl (sv_loadF S rfl rfl (by assumption)) ?_; clear S a; intro a S)
            (refine wpl_v S rfl rfl rfl (sv_conv S rfl rfl) ?_; clear S a; intro a S)
            (refine wpl_v S rfl rfl rfl (sv_pure S rfl) ?_; clear S a; intro a S)
            (refine wpl_v S rfl rfl rfl (sv_lenSl S rfl rfl) ?_; clear S a; intro a S)
            (refine wpl_v S rfl rfl rfl (sv_conv S rfl rfl) ?_; clear S a; intro a S)
            (refine wpl_v S rfl rfl rfl (sv_remU S rfl rfl rfl ⟨u64_pos _, by rw [u64_same (by omega)]; omega⟩) ?_; clear S a; intro a S)
            (obtain ⟨kk, hkk, hkl⟩ := pick_lt (p := pk) (n := Lf.length) (by omega) (by omega); rw [hkk] at S)
            (refine wpl_v S rfl rfl rfl (sv_conv_i64 S rfl rfl (by first | omega | (simp only [List.length_append, List.length_cons, List.length_nil]; omega))) ?_; clear S a; intro a S)
            (refine wpl_v S rfl rfl rfl (sv_pure S rfl) ?_; clear S a; intro a S)
            refine wpList_nil ?_
            (refine hKq15 _ _ ?_)
            (first | (rw [← hap] at S; exact ⟨kk, _, List.getElem?_eq_getElem hkl, S.keep ⟨rfl, rfl, rfl, rfl, rfl, rfl, rfl, rfl, rfl, trivial⟩⟩) | (have hl0 : 0 < Lf.length := (by omega); exact ⟨0, _, List.getElem?_eq_getElem hl0, S.keep ⟨rfl, rfl, rfl, rfl, rfl, rfl, rfl, rfl, rfl, trivial⟩⟩) | trace_state)
          · (skip; (try simp only [decide_eq_true_eq, decide_eq_false_iff_not, beq_iff_eq, bne_iff_ne, bne_eq_false_iff_eq, beq_eq_false_iff_ne, ne_eq, Bool.not_eq_true', Bool.not_eq_false', Bool.not_eq_true, Bool.not_eq_false, Bool.not_true, Bool.not_false, Int.ofNat_lt, Int.ofNat_le, Nat.not_lt, Nat.not_le] at h))
            refine wp_skip ?_
            (refine hKq15 _ _ ?_)
            (first | (rw [← hap] at S; exact ⟨kk, _, List.getElem?_eq_getElem hkl, S.keep ⟨rfl, rfl, rfl, rfl, rfl, rfl, rfl, rfl, rfl, trivial⟩⟩) | (have hl0 : 0 < Lf.length := (by omega); exact ⟨0, _, List.getElem?_eq_getElem hl0, S.keep ⟨rfl, rfl, rfl, rfl, rfl, rfl, rfl, rfl, rfl, trivial⟩⟩) | trace_state)
        · (skip; (try simp only [decide_eq_true_eq, decide_eq_false_iff_not, beq_iff_eq, bne_iff_ne, bne_eq_false_iff_eq, beq_eq_false_iff_ne, ne_eq, Bool.not_eq_true', Bool.not_eq_false', Bool.not_eq_true, Bool.not_eq_false, Bool.not_true, Bool.not_false, Int.ofNat_lt, Int.ofNat_le, Nat.not_lt, Nat.not_le] at h))
          refine wp_exit ?_
          (refine hKq9 _ _ ?_; try (clear hKq9 Kq9))
          (refine wp_seq_k ?_; intro Kq13 hKq13)
          (refine wp_seq_k ?_; intro Kq14 hKq14)
          (have hL0 : Lf = [] := List.eq_nil_of_length_eq_zero (by omega); subst hL0; have hi9 : i = ps.length := (by simpa using hil); subst hi9; obtain ⟨heq, hσ⟩ := StP.same hst hsu hQt.good hQu.good (fun p => (by rw [List.take_length, ← hperm.mem_iff, List.append_nil])); rw [heq] at S hσ)
          refine wp_region_lit ?_
          (refine wpl_v S rfl rfl rfl (sv_pure S rfl) ?_; clear S a; intro a S)
          (refine wpl_v S rfl rfl rfl (sv_pure S rfl) ?_; clear S a; intro a S)
          (refine wpl_v S rfl rfl rfl (sv_lit (c := false) (sv_neB S rfl rfl rfl) (by simp)) ?_; clear S a; intro a S)
          refine wpList_nil ?_
          (refine hKq14 _ _ ?_; try (clear hKq14 Kq14))
          refine wpc_false S rfl ?_
          refine wp_skip ?_
          (refine hKq13 _ _ ?_; try (clear hKq13 Kq13))
          (refine wp_seq_k ?_; intro Kq15 hKq15)
          (refine wp_seq_k ?_; intro Kq16 hKq16)
          refine wp_region_lit ?_
          (refine wpl_v S rfl rfl rfl (sv_pure S rfl) ?_; clear S a; intro a S)
          refine wpList_nil ?_
          (refine hKq16 _ _ ?_; try (clear hKq16 Kq16))
          refine wp_block ?_
          refine wpc_loop (fun m a w' => ∃ (j : Nat) (F6 : Heap) (Gt Gu : List Grp), m = ps.length - j ∧ j ≤ ps.length ∧ (∀ b o, F b = some o → F6 b = some o) ∧ TabQ F6 tb (ps.length * 4096 + j * 2048) σt Gt ∧ TabQ F6 ub (ps.length * 4096 + j * 2048) σu Gu ∧ St 137 [(0, .slice ao ps.length cap), (6, ptr tb), (7, ptr ub), (8, .bool oku), (12, .int .i64 j)] w0 F [] F6 (Gt ++ Gu) a w') ?_ ?_
          · (refine ⟨ps.length, 0, F5, Gt, Gu, by omega, Nat.zero_le _, hF5, hQt.le (by omega), hQu.le (by omega), ?_⟩; refine S.keep ?_; repeat (first | exact trivial | refine ⟨rfl, ?_⟩))
          · (clear S; rintro m a w ⟨j, F6, Gt, Gu, rfl, hjl, hF6, hQt, hQu, S⟩)
            (refine wp_seq_k ?_; intro Kq17 hKq17)
            (refine wp_seq_k ?_; intro Kq18 hKq18)
            refine wp_region_lit ?_
            (refine wpl_v S rfl rfl rfl (sv_pure S rfl) ?_; clear S a; intro a S)
            (refine wpl_v S rfl rfl rfl (sv_pure S rfl) ?_; clear S a; intro a S)
            (refine wpl_v S rfl rfl rfl (sv_lenSl S rfl rfl) ?_; clear S a; intro a S)
            (refine wpl_v S rfl rfl rfl (sv_pure S rfl) ?_; clear S a; intro a S)
            (refine wpl_v S rfl rfl rfl (sv_pure S rfl) ?_; clear S a; intro a S)
            refine wpl_guard S rfl rfl rfl rfl rfl ?_ ?_
            · (intro h S'; clear S; have S := S'; clear S'; (try simp only [decide_eq_true_eq, decide_eq_false_iff_not, beq_iff_eq, bne_iff_ne, bne_eq_false_iff_eq, beq_eq_false_iff_ne, ne_eq, Bool.not_eq_true', Bool.not_eq_false', Bool.not_eq_true, Bool.not_eq_false, Bool.not_true, Bool.not_false, Int.ofNat_lt, Int.ofNat_le, Nat.not_lt, Nat.not_le] at h))
              (refine wpl_v S rfl rfl rfl (sv_pure S rfl) ?_; clear S a; intro a S)
              first | (refine wpl_v S rfl rfl rfl (sv_pure S rfl) ?_; clear S a; intro a S) | (refine wpl_v S rfl rfl rfl (sv_pickB S rfl rfl rfl rfl) ?_; clear S a; intro a S)
              refine wpList_nil ?_
              (refine hKq18 _ _ ?_; try (clear hKq18 Kq18))
              refine wpc_split S rfl (fun h => ?_) (fun h => ?_)
              · (skip; (try simp only [decide_eq_true_eq, decide_eq_false_iff_not, beq_iff_eq, bne_iff_ne, bne_eq_false_iff_eq, beq_eq_false_iff_ne, ne_eq, Bool.not_eq_true', Bool.not_eq_false', Bool.not_eq_true, Bool.not_eq_false, Bool.not_true, Bool.not_false, Int.ofNat_lt, Int.ofNat_le, Nat.not_lt, Nat.not_le] at h))
                refine wp_skip ?_
                (refine hKq17 _ _ ?_; try (clear hKq17 Kq17))
                (refine wp_seq_k ?_; intro Kq19 hKq19)
                refine wp_block ?_
                (refine wp_seq_k ?_; intro Kq20 hKq20)
                (obtain rfl := hσ (by first | assumption | simp_all); obtain ⟨b8, o8, hao, hel⟩ := hpos (by omega); rw [hao] at S; obtain ⟨p, hp⟩ : ∃ p, ps[j]? = some p := ⟨_, List.getElem?_eq_getElem (by omega)⟩; obtain ⟨va, vb, hc5, hTa, hTb⟩ := hel j p hp; obtain ⟨aoa, capa, rfl, hTa1⟩ := hTa; have hTa : SlF F6 (.slice aoa p.aa.len capa) p.aa := SlF.mono hF6 ⟨_, _, rfl, hTa1⟩; have hca : Cels F6 b8 (o8 + j * 5 + 0) [.string (bs p.na), .slice aoa p.aa.len capa] := Cels.mono hF6 (hc5.take 2).zero)
                refine wp_region_lit ?_
                (refine wpl_v S rfl rfl rfl (sv_pure S rfl) ?_; clear S a; intro a S)
                (refine wpl_v S rfl rfl rfl (sv_pure S rfl) ?_; clear S a; intro a S)
                (refine wpl_v S rfl rfl rfl (sv_pure S rfl) ?_; clear S a; intro a S)
                (refine wpl_v S rfl rfl rfl (sv_indexAddrSl S rfl rfl rfl (by first | omega | (simp only [List.length_append, List.length_cons, List.length_nil]; omega))) ?_; clear S a; intro a S)
                (refine wpl_v S rfl rfl rfl (sv_fieldAddr S rfl rfl rfl inferInstance rfl) ?_; clear S a; intro a S)
                first | (refine wpl_v S rfl rfl rfl (sv_loadAO S rfl rfl (by rfl)) ?_; clear S a; intro a S) | (refine wpl_v S rfl rfl rfl (sv_loadAF S rfl rfl (by assumption) (by rfl)) ?_; clear S a; intro a S)
                (refine wpl_call (Gs := Gt) (Gr := Gu) S rfl rfl rfl rfl rfl rfl (resolveCt F6 tb _ σt Gt p.na p.aa _ ⟨_, rfl, hTa⟩ (by omega) hQt) rfl (grp_app (A := Gt)) ?_; clear S a; intro u9 F7 Gt7 a w hv hF7 S; obtain ⟨a7, q7, c7, rfl, hs7, hQ7⟩ := hv; have hca7 := Cels.mono hF7 hca)
                (refine wpl_v S rfl rfl rfl (sv_pure S rfl) ?_; clear S a; intro a S)
                (refine wpl_v S rfl rfl rfl (sv_pure S rfl) ?_; clear S a; intro a S)
                (refine wpl_v S rfl rfl rfl (sv_pure S rfl) ?_; clear S a; intro a S)
                (refine wpl_alloc S rfl rfl rfl rfl ?_; clear S a; intro b13 a w S)
                (refine wpl_storeO S rfl rfl rfl rfl rfl (by rfl) (by simp [Value.cells, Value.oneCell', splice]) (by rfl) ?_; clear S; intro w S)
                (refine wpl_v S rfl rfl rfl (sv_pure S rfl) ?_; clear S a; intro a S)
                refine wpList_nil ?_
                (refine hKq20 _ _ ?_; try (clear hKq20 Kq20))
                (refine wp_seq_k ?_; intro Kq21 hKq21)
                refine wp_region_lit ?_
                (refine wpl_v S rfl rfl rfl (sv_pure S rfl) ?_; clear S a; intro a S)
                (refine wpl_v S rfl rfl rfl (sv_pure S rfl) ?_; clear S a; intro a S)
                (refine wpl_v S rfl rfl rfl (sv_pure S rfl) ?_; clear S a; intro a S)
                (refine wpl_v S rfl rfl rfl (sv_indexAddrSl S rfl rfl rfl (by first | omega | (simp only [List.length_append, List.length_cons, List.length_nil]; omega))) ?_; clear S a; intro a S)
                (refine wpl_v S rfl rfl rfl (sv_fieldAddr S rfl rfl rfl inferInstance rfl) ?_; clear S a; intro a S)
                first | (refine wpl_v S rfl rfl rfl (sv_loadAO S rfl rfl (by rfl)) ?_; clear S a; intro a S) | (refine wpl_v S rfl rfl rfl (sv_loadAF S rfl rfl (by assumption) (by rfl)) ?_; clear S a; intro a S)
                (replace S : St _ _ _ _ _ F7 (([(b13, _)] :: Gt7) ++ Gu) _ _ := S; refine wpl_call (Gs := Gu) (Gr := [(b13, _)] :: Gt7) S rfl rfl rfl rfl rfl rfl (resolveCt F7 ub _ σt Gu p.na p.aa _ ⟨_, rfl, hTa.mono hF7⟩ (by omega) (hQu.mono hF7)) rfl (grp_perm (A := [(b13, _)] :: Gt7)) ?_; clear S a; intro u9 F8 Gu8 a w hv hF8 S; obtain ⟨a8, q8, c8, rfl, hs8, hQ8⟩ := hv; replace S : St _ _ _ _ _ F8 ([(b13, _)] :: (Gt7 ++ Gu8)) _ _ := St.rotL S)
                (refine wpl_v S rfl rfl rfl (sv_pure S rfl) ?_; clear S a; intro a S)
                (refine wpl_v S rfl rfl rfl (sv_pure S rfl) ?_; clear S a; intro a S)
                (refine wpl_v S rfl rfl rfl (sv_pure S rfl) ?_; clear S a; intro a S)
                (refine wpl_alloc S rfl rfl rfl rfl ?_; clear S a; intro b15 a w S)
                (refine wpl_storeO S rfl rfl rfl rfl rfl (by rfl) (by simp [Value.cells, Value.oneCell', splice]) (by rfl) ?_; clear S; intro w S)
                (refine wpl_v S rfl rfl rfl (sv_pure S rfl) ?_; clear S a; intro a S)
                refine wpList_nil ?_
                (refine hKq21 _ _ ?_; try (clear hKq21 Kq21))
                (refine wp_seq_k ?_; intro Kq22 hKq22)
                refine wp_region_lit ?_
                (refine wpl_v S rfl rfl rfl (sv_pure S rfl) ?_; clear S a; intro a S)
                (refine wpl_v S rfl rfl rfl (sv_pure S rfl) ?_; clear S a; intro a S)
                (refine wpl_v S rfl rfl rfl (sv_lit (c := false) (sv_pure S rfl) (by simp)) ?_; clear S a; intro a S)
                (refine wpl_v S rfl rfl rfl (sv_pure S rfl) ?_; clear S a; intro a S)
                refine wpl_take S rfl rfl rfl ?_
                first | (refine wpl_v S rfl rfl rfl (sv_loadAO S rfl rfl (by rfl)) ?_; clear S a; intro a S) | (refine wpl_v S rfl rfl rfl (sv_loadAF S rfl rfl (by assumption) (by rfl)) ?_; clear S a; intro a S)
                refine wpl_take S rfl rfl rfl ?_
                first | (refine wpl_v S rfl rfl rfl (sv_loadAO S rfl rfl (by rfl)) ?_; clear S a; intro a S) | (refine wpl_v S rfl rfl rfl (sv_loadAF S rfl rfl (by assumption) (by rfl)) ?_; clear S a; intro a S)
                refine wpl_take S rfl rfl rfl ?_
                (refine wpl_call0 S rfl rfl rfl rfl rfl rfl (refSameCt F8 _ _ _ _ _ _ _ (Nat.le_refl _) ⟨_, rfl, hs7.mono hF8⟩ ⟨_, rfl, hs8⟩) rfl ?_; clear S a; intro v a w hv S; rw [decide_eq_true ⟨rfl, rfl⟩] at hv; subst hv)
                refine wpl_take S rfl rfl rfl ?_
                (refine wpl_v S rfl rfl rfl (sv_pure S rfl) ?_; clear S a; intro a S)
                first | (refine wpl_v S rfl rfl rfl (sv_pure S rfl) ?_; clear S a; intro a S) | (refine wpl_v S rfl rfl rfl (sv_pickB S rfl rfl rfl rfl) ?_; clear S a; intro a S)
                refine wpList_nil ?_
                (refine hKq22 _ _ ?_; try (clear hKq22 Kq22))
                refine wpc_false S rfl ?_
                refine wp_skip ?_
                (refine hKq19 _ _ ?_; try (clear hKq19 Kq19))
                refine wp_region_lit ?_
                (refine wpl_v S rfl rfl rfl (sv_pure S rfl) ?_; clear S a; intro a S)
                (refine wpl_v S rfl rfl rfl (sv_add S rfl rfl rfl (by first | omega | (simp only [List.length_append, List.length_cons, List.length_nil]; omega))) ?_; clear S a; intro a S)
                (refine wpl_v S rfl rfl rfl (sv_pure S rfl) ?_; clear S a; intro a S)
                refine wpList_nil ?_
                change ∃ m', _ ∧ _
                (rw [← hao] at S; replace S := S.drop1.drop1; refine ⟨ps.length - (j + 1), by omega, j + 1, F8, Gt7, Gu8, rfl, by omega, fun b o h => hF8 _ _ (hF7 _ _ (hF6 _ _ h)), (hQ7.mono hF8).le (by omega), hQ8.le (by omega), ?_⟩; refine S.keep ?_; repeat (first | exact trivial | refine ⟨rfl, ?_⟩))
              · (skip; (try simp only [decide_eq_true_eq, decide_eq_false_iff_not, beq_iff_eq, bne_iff_ne, bne_eq_false_iff_eq, beq_eq_false_iff_ne, ne_eq, Bool.not_eq_true', Bool.not_eq_false', Bool.not_eq_true, Bool.not_eq_false, Bool.not_true, Bool.not_false, Int.ofNat_lt, Int.ofNat_le, Nat.not_lt, Nat.not_le] at h))
                refine wp_exit ?_
                (refine hKq15 _ _ ?_; try (clear hKq15 Kq15))
                (refine wp_seq_k ?_; intro Kq19 hKq19)
                refine wp_region_lit ?_
                (refine wpl_v S rfl rfl rfl (sv_pure S rfl) ?_; clear S a; intro a S)
                refine wpList_nil ?_
                (refine hKq19 _ _ ?_; try (clear hKq19 Kq19))
                refine wp_ret ?_
                refine fin_ret S (results1 Try.results4 (RV.tmp S rfl)) ?_
                (first | rfl | trace_state)
            · (intro h; clear S a; intro a S; (try simp only [decide_eq_true_eq, decide_eq_false_iff_not, beq_iff_eq, bne_iff_ne, bne_eq_false_iff_eq, beq_eq_false_iff_ne, ne_eq, Bool.not_eq_true', Bool.not_eq_false', Bool.not_eq_true, Bool.not_eq_false, Bool.not_true, Bool.not_false, Int.ofNat_lt, Int.ofNat_le, Nat.not_lt, Nat.not_le] at h))
              first | (refine wpl_v S rfl rfl rfl (sv_pure S rfl) ?_; clear S a; intro a S) | (refine wpl_v S rfl rfl rfl (sv_pickB S rfl rfl rfl rfl) ?_; clear S a; intro a S)
              refine wpList_nil ?_
              (refine hKq18 _ _ ?_; try (clear hKq18 Kq18))
              refine wpc_false S rfl ?_
              refine wp_exit ?_
              (refine hKq15 _ _ ?_; try (clear hKq15 Kq15))
              (refine wp_seq_k ?_; intro Kq19 hKq19)
              refine wp_region_lit ?_
              (refine wpl_v S rfl rfl rfl (sv_pure S rfl) ?_; clear S a; intro a S)
              refine wpList_nil ?_
              (refine hKq19 _ _ ?_; try (clear hKq19 Kq19))
              refine wp_ret ?_
              refine fin_ret S (results1 Try.results4 (RV.tmp S rfl)) ?_
              (first | rfl | trace_state)
  · (intro h; clear S a; intro a S; (try simp only [decide_eq_true_eq, decide_eq_false_iff_not, beq_iff_eq, bne_iff_ne, bne_eq_false_iff_eq, beq_eq_false_iff_ne, ne_eq, Bool.not_eq_true', Bool.not_eq_false', Bool.not_eq_true, Bool.not_eq_false, Bool.not_true, Bool.not_false, Int.ofNat_lt, Int.ofNat_le, Nat.not_lt, Nat.not_le] at h))
    (refine wpl_skip S rfl rfl rfl rfl rfl ?_; clear S a; intro a S)
    (refine wpl_skip S rfl rfl rfl rfl rfl ?_; clear S a; intro a S)
    first | (refine wpl_v S rfl rfl rfl (sv_pure S rfl) ?_; clear S a; intro a S) | (refine wpl_v S rfl rfl rfl (sv_pickB S rfl rfl rfl rfl) ?_; clear S a; intro a S)
    refine wpList_nil ?_
    (refine hKq3 _ _ ?_; try (clear hKq3 Kq3))
    refine wpc_true S rfl ?_
    (refine wp_seq_k ?_; intro Kq4 hKq4)
    refine wp_region_lit ?_
    (refine wpl_call0 S rfl rfl rfl rfl rfl rfl (worksCt _) rfl ?_; clear S a; intro v a w hv S; subst hv)
    (refine wpl_v S rfl rfl rfl (sv_pure S rfl) ?_; clear S a; intro a S)
    refine wpList_nil ?_
    (refine hKq4 _ _ ?_; try (clear hKq4 Kq4))
    refine wp_ret ?_
    refine fin_ret S (results1 Try.results4 (RV.tmp S rfl)) ?_
    (first | rfl | trace_state)
end Go.Proofs.Ytcjnmehpkcblfaa
