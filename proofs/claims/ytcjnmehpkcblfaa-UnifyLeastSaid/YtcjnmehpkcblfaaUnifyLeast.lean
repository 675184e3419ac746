/- The walk of UnifyLeast. -/
import Derived.Test.YtcjnmehpkcblfaaUnWf
namespace Go.Proofs.Ytcjnmehpkcblfaa
open Go Go.Wk Go.Un
set_option linter.unusedSimpArgs false
set_option linter.unusedVariables false
attribute [local irreducible] Go.wpList Go.Code.wp Go.wpStill Go.Wk.wpPre Go.bodyPost Go.Calls Go.Wk.Ct Go.Wk.OwnS
attribute [local irreducible] Go.Wk.wpG Go.Wk.wpM

set_option maxRecDepth 20000 in
set_option maxHeartbeats 32000000 in
theorem unifyLeastCt (F : Heap) (l : Fo) (v : Value) (L : Fo) (v2 : Value) (h0 : SlF F v l) (hthl : Thin l) (h2 : SlF F v2 L) (hthL : Thin L) : Ct Try.prog 5 [v, v2] F [] (fun _ _ u => u = .bool true) := by
  have hl0 := h0
  have hL0 := h2
  obtain ⟨ao, cap, rfl, hcap, hpos⟩ := h0
  obtain ⟨ab, cb, rfl, hcb, hposb⟩ := h2
  refine Ct.enter Try.func5 rfl Try.ntmps5 rfl fun w0 a S => ?_
  (refine wp_seq_k ?_; intro Kq1 hKq1)
  refine wp_region_lit ?_
  (refine wpl_v S rfl rfl rfl (sv_pure S rfl) ?_; clear S a; intro a S)
  refine wpList_nil ?_
  (refine hKq1 _ _ ?_; try (clear hKq1 Kq1))
  (refine wp_seq_k ?_; intro Kq2 hKq2)
  (refine wp_seq_k ?_; intro Kq3 hKq3)
  refine wp_region_lit ?_
  (refine wpl_call0 S rfl rfl rfl rfl rfl rfl (worksCt F) rfl ?_; clear S a; intro v a w hv S; subst hv)
  (refine wpl_v S rfl rfl rfl (sv_lit (c := false) (sv_pure S rfl) (by rfl)) ?_; clear S a; intro a S)
  (refine wpl_v S rfl rfl rfl (sv_pure S rfl) ?_; clear S a; intro a S)
  refine wpl_take S rfl rfl rfl ?_
  (refine wpl_v S rfl rfl rfl (sv_pure S rfl) ?_; clear S a; intro a S)
  refine wpl_take S rfl rfl rfl ?_
  (refine wpl_v S rfl rfl rfl (sv_lenSl S rfl rfl) ?_; clear S a; intro a S)
  refine wpl_take S rfl rfl rfl ?_
  (refine wpl_v S rfl rfl rfl (sv_pure S rfl) ?_; clear S a; intro a S)
  first | (refine wpl_v S rfl rfl rfl (sv_pure S rfl) ?_; clear S a; intro a S) | (refine wpl_v S rfl rfl rfl (sv_pickB S rfl rfl rfl rfl) ?_; clear S a; intro a S)
  (refine wpl_v S rfl rfl rfl (sv_pure S rfl) ?_; clear S a; intro a S)
  refine wpl_guard S rfl rfl rfl rfl rfl ?_ ?_
  · (intro h S'; clear S; have S := S'; clear S'; (try simp only [decide_eq_true_eq, decide_eq_false_iff_not, beq_iff_eq, bne_iff_ne, bne_eq_false_iff_eq, beq_eq_false_iff_ne, ne_eq, Bool.not_eq_true', Bool.not_eq_false', Bool.not_eq_true, Bool.not_eq_false, Bool.not_true, Bool.not_false, Int.ofNat_lt, Int.ofNat_le, Nat.not_lt, Nat.not_le] at h))
    (refine wpl_v S rfl rfl rfl (sv_pure S rfl) ?_; clear S a; intro a S)
    refine wpl_take S rfl rfl rfl ?_
    (refine wpl_call0 S rfl rfl rfl rfl rfl rfl (largeCt F l _ 150 hl0) rfl ?_; clear S a; intro v a w hv S; obtain ⟨b23, rfl⟩ := hv)
    first | (refine wpl_v S rfl rfl rfl (sv_pure S rfl) ?_; clear S a; intro a S) | (refine wpl_v S rfl rfl rfl (sv_pickB S rfl rfl rfl rfl) ?_; clear S a; intro a S)
    (refine wpl_v S rfl rfl rfl (sv_pure S rfl) ?_; clear S a; intro a S)
    refine wpl_guard S rfl rfl rfl rfl rfl ?_ ?_
    · (intro h S'; clear S; have S := S'; clear S'; (try simp only [decide_eq_true_eq, decide_eq_false_iff_not, beq_iff_eq, bne_iff_ne, bne_eq_false_iff_eq, beq_eq_false_iff_ne, ne_eq, Bool.not_eq_true', Bool.not_eq_false', Bool.not_eq_true, Bool.not_eq_false, Bool.not_true, Bool.not_false, Int.ofNat_lt, Int.ofNat_le, Nat.not_lt, Nat.not_le] at h))
      (refine wpl_v S rfl rfl rfl (sv_pure S rfl) ?_; clear S a; intro a S)
      refine wpl_take S rfl rfl rfl ?_
      (refine wpl_call0 S rfl rfl rfl rfl rfl rfl (largeCt F L _ 60 hL0) rfl ?_; clear S a; intro v a w hv S; obtain ⟨b27, rfl⟩ := hv)
      first | (refine wpl_v S rfl rfl rfl (sv_pure S rfl) ?_; clear S a; intro a S) | (refine wpl_v S rfl rfl rfl (sv_pickB S rfl rfl rfl rfl) ?_; clear S a; intro a S)
      (refine wpl_v S rfl rfl rfl (sv_pure S rfl) ?_; clear S a; intro a S)
      refine wpl_guard S rfl rfl rfl rfl rfl ?_ ?_
      · (intro h S'; clear S; have S := S'; clear S'; (try simp only [decide_eq_true_eq, decide_eq_false_iff_not, beq_iff_eq, bne_iff_ne, bne_eq_false_iff_eq, beq_eq_false_iff_ne, ne_eq, Bool.not_eq_true', Bool.not_eq_false', Bool.not_eq_true, Bool.not_eq_false, Bool.not_true, Bool.not_false, Int.ofNat_lt, Int.ofNat_le, Nat.not_lt, Nat.not_le] at h))
        (refine wpl_v S rfl rfl rfl (sv_pure S rfl) ?_; clear S a; intro a S)
        refine wpl_take S rfl rfl rfl ?_
        (refine wpl_v S rfl rfl rfl (sv_lenSl S rfl rfl) ?_; clear S a; intro a S)
        refine wpl_take S rfl rfl rfl ?_
        (refine wpl_v S rfl rfl rfl (sv_pure S rfl) ?_; clear S a; intro a S)
        first | (refine wpl_v S rfl rfl rfl (sv_pure S rfl) ?_; clear S a; intro a S) | (refine wpl_v S rfl rfl rfl (sv_pickB S rfl rfl rfl rfl) ?_; clear S a; intro a S)
        refine wpList_nil ?_
        (refine hKq3 _ _ ?_; try (clear hKq3 Kq3))
        refine wpc_split S rfl (fun h => ?_) (fun h => ?_)
        · (skip; (try simp only [decide_eq_true_eq, decide_eq_false_iff_not, beq_iff_eq, bne_iff_ne, bne_eq_false_iff_eq, beq_eq_false_iff_ne, ne_eq, Bool.not_eq_true', Bool.not_eq_false', Bool.not_eq_true, Bool.not_eq_false, Bool.not_true, Bool.not_false, Int.ofNat_lt, Int.ofNat_le, Nat.not_lt, Nat.not_le] at h))
          (refine wp_seq_k ?_; intro Kq4 hKq4)
          refine wp_region_lit ?_
          (refine wpl_call0 S rfl rfl rfl rfl rfl rfl (worksCt F) rfl ?_; clear S a; intro v a w hv S; subst hv)
          (refine wpl_v S rfl rfl rfl (sv_pure S rfl) ?_; clear S a; intro a S)
          refine wpList_nil ?_
          (refine hKq4 _ _ ?_; try (clear hKq4 Kq4))
          refine wp_ret ?_
          refine fin_ret S (results1 Try.results5 (RV.tmp S rfl)) ?_
          (first | rfl | trace_state)
        · (skip; (try simp only [decide_eq_true_eq, decide_eq_false_iff_not, beq_iff_eq, bne_iff_ne, bne_eq_false_iff_eq, beq_eq_false_iff_ne, ne_eq, Bool.not_eq_true', Bool.not_eq_false', Bool.not_eq_true, Bool.not_eq_false, Bool.not_true, Bool.not_false, Int.ofNat_lt, Int.ofNat_le, Nat.not_lt, Nat.not_le] at h))
          refine wp_skip ?_
          (refine hKq2 _ _ ?_; try (clear hKq2 Kq2))
          (refine wp_seq_k ?_; intro Kq4 hKq4)
          (refine wp_seq_k ?_; intro Kq5 hKq5)
          refine wp_region_lit ?_
          (refine wpl_v S rfl rfl rfl (sv_pure S rfl) ?_; clear S a; intro a S)
          refine wpList_nil ?_
          (refine hKq5 _ _ ?_; try (clear hKq5 Kq5))
          refine wp_block ?_
          refine wpc_loop (fun m a w' => ∃ (j : Nat) (F1 : Heap), m = L.len - j ∧ j ≤ L.len ∧ (∀ b o, F b = some o → F1 b = some o) ∧ St 133 [(0, .slice ao l.len cap), (1, .slice ab L.len cb), (5, .int .i64 j)] w0 F [] F1 [] a w') ?_ ?_
          · (refine ⟨L.len, 0, F, by omega, Nat.zero_le _, fun _ _ h => h, ?_⟩; refine S.keep ?_; repeat (first | exact trivial | refine ⟨rfl, ?_⟩))
          · (clear S; rintro m a w ⟨j, F1, rfl, hjl, hF1, S⟩)
            (refine wp_seq_k ?_; intro Kq6 hKq6)
            (refine wp_seq_k ?_; intro Kq7 hKq7)
            refine wp_region_lit ?_
            (refine wpl_v S rfl rfl rfl (sv_pure S rfl) ?_; clear S a; intro a S)
            (refine wpl_v S rfl rfl rfl (sv_pure S rfl) ?_; clear S a; intro a S)
            (refine wpl_v S rfl rfl rfl (sv_lenSl S rfl rfl) ?_; clear S a; intro a S)
            (refine wpl_v S rfl rfl rfl (sv_pure S rfl) ?_; clear S a; intro a S)
            refine wpList_nil ?_
            (refine hKq7 _ _ ?_; try (clear hKq7 Kq7))
            refine wpc_split S rfl (fun h => ?_) (fun h => ?_)
            · (skip; (try simp only [decide_eq_true_eq, decide_eq_false_iff_not, beq_iff_eq, bne_iff_ne, bne_eq_false_iff_eq, beq_eq_false_iff_ne, ne_eq, Bool.not_eq_true', Bool.not_eq_false', Bool.not_eq_true, Bool.not_eq_false, Bool.not_true, Bool.not_false, Int.ofNat_lt, Int.ofNat_le, Nat.not_lt, Nat.not_le] at h))
              refine wp_skip ?_
              (refine hKq6 _ _ ?_; try (clear hKq6 Kq6))
              (refine wp_seq_k ?_; intro Kq8 hKq8)
              refine wp_block ?_
              (refine wp_seq_k ?_; intro Kq9 hKq9)
              (obtain ⟨b8, o8, hab, x, v1, hx, hc1, hT1⟩ := FoM.pos hposb (k := j) (by omega); rw [hab] at S; replace hc1 := Cels.mono hF1 hc1; replace hT1 := hT1.mono hF1; have hT1c := hT1; obtain ⟨a91, c91, rfl, -⟩ := hT1c)
              refine wp_region_lit ?_
              (refine wpl_v S rfl rfl rfl (sv_pure S rfl) ?_; clear S a; intro a S)
              (refine wpl_v S rfl rfl rfl (sv_pure S rfl) ?_; clear S a; intro a S)
              (refine wpl_v S rfl rfl rfl (sv_indexAddrSl S rfl rfl rfl (by first | omega | (simp only [List.length_append, List.length_cons, List.length_nil]; omega))) ?_; clear S a; intro a S)
              first | (refine wpl_v S rfl rfl rfl (sv_loadAO S rfl rfl (by rfl)) ?_; clear S a; intro a S) | (refine wpl_v S rfl rfl rfl (sv_loadAF S rfl rfl (by assumption) (by rfl)) ?_; clear S a; intro a S)
              (refine wpl_buildSlice S rfl rfl rfl rfl rfl rfl (by rfl) (by simp [Value.cells, splice, splice]) rfl (by rfl) (by rfl) ?_; clear S a; intro b45 a w hown S)
              (have hown : OwnS 32 2 (.slice (some ⟨b45, 0, none⟩) 1 1) 1 [.string (bs x.1), .slice a91 x.2.len c91] [(b45, .cells ⟨[.string (bs x.1), .slice a91 x.2.len c91]⟩ 32 (0, 0))] := hown; have hle : ∀ b o, F1 b = some o → (F1.add [(b45, .cells ⟨[.string (bs x.1), .slice a91 x.2.len c91]⟩ 32 (0, 0))]) b = some o := add_le (G1 := []) S; replace S := St.freeze (G1 := []) S; (simp only [List.nil_append] at S); replace S : St _ _ _ _ _ (F1.add [(b45, .cells ⟨[.string (bs x.1), .slice a91 x.2.len c91]⟩ 32 (0, 0))]) _ _ _ := S; have hs45 : SlF (F1.add [(b45, .cells ⟨[.string (bs x.1), .slice a91 x.2.len c91]⟩ 32 (0, 0))]) (.slice (some ⟨b45, 0, none⟩) 1 1) (.cons x.1 x.2 .nil) := FoC.slf hown (FoC.one hT1) rfl hle (by decide); clear hown; generalize (F1.add [(b45, .cells ⟨[.string (bs x.1), .slice a91 x.2.len c91]⟩ 32 (0, 0))]) = F2 at S hle hs45)
              (refine wpl_callF S rfl rfl rfl rfl rfl rfl (varsCt F2 (.cons x.1 x.2 .nil) _ hs45 (show (1 : Nat) ≤ 1000 by decide)) rfl ?_; clear S a; intro uv F3 a w hv hF3 S; obtain ⟨av, cv, nmv, rfl, -, -⟩ := hv)
              (refine wpl_v S rfl rfl rfl (sv_lenSl S rfl rfl) ?_; clear S a; intro a S)
              (refine wpl_v S rfl rfl rfl (sv_pure S rfl) ?_; clear S a; intro a S)
              refine wpList_nil ?_
              (refine hKq9 _ _ ?_; try (clear hKq9 Kq9))
              refine wpc_split S rfl (fun h => ?_) (fun h => ?_)
              · (skip; (try simp only [decide_eq_true_eq, decide_eq_false_iff_not, beq_iff_eq, bne_iff_ne, bne_eq_false_iff_eq, beq_eq_false_iff_ne, ne_eq, Bool.not_eq_true', Bool.not_eq_false', Bool.not_eq_true, Bool.not_eq_false, Bool.not_true, Bool.not_false, Int.ofNat_lt, Int.ofNat_le, Nat.not_lt, Nat.not_le] at h))
                (refine wp_seq_k ?_; intro Kq10 hKq10)
                refine wp_region_lit ?_
                (refine wpl_v S rfl rfl rfl (sv_pure S rfl) ?_; clear S a; intro a S)
                refine wpList_nil ?_
                (refine hKq10 _ _ ?_; try (clear hKq10 Kq10))
                refine wp_ret ?_
                refine fin_ret S (results1 Try.results5 (RV.tmp S rfl)) ?_
                (first | rfl | trace_state)
              · (skip; (try simp only [decide_eq_true_eq, decide_eq_false_iff_not, beq_iff_eq, bne_iff_ne, bne_eq_false_iff_eq, beq_eq_false_iff_ne, ne_eq, Bool.not_eq_true', Bool.not_eq_false', Bool.not_eq_true, Bool.not_eq_false, Bool.not_true, Bool.not_false, Int.ofNat_lt, Int.ofNat_le, Nat.not_lt, Nat.not_le] at h))
                refine wp_skip ?_
                (refine hKq8 _ _ ?_; try (clear hKq8 Kq8))
                refine wp_region_lit ?_
                (refine wpl_v S rfl rfl rfl (sv_pure S rfl) ?_; clear S a; intro a S)
                (refine wpl_v S rfl rfl rfl (sv_add S rfl rfl rfl (by first | omega | (simp only [List.length_append, List.length_cons, List.length_nil]; omega))) ?_; clear S a; intro a S)
                (refine wpl_v S rfl rfl rfl (sv_pure S rfl) ?_; clear S a; intro a S)
                refine wpList_nil ?_
                change ∃ m', _ ∧ _
                (rw [← hab] at S; refine ⟨L.len - (j + 1), by omega, j + 1, F3, rfl, by omega, fun b o h => hF3 _ _ (hle _ _ (hF1 _ _ h)), ?_⟩; refine S.keep ?_; repeat (first | exact trivial | refine ⟨rfl, ?_⟩))
            · (skip; (try simp only [decide_eq_true_eq, decide_eq_false_iff_not, beq_iff_eq, bne_iff_ne, bne_eq_false_iff_eq, beq_eq_false_iff_ne, ne_eq, Bool.not_eq_true', Bool.not_eq_false', Bool.not_eq_true, Bool.not_eq_false, Bool.not_true, Bool.not_false, Int.ofNat_lt, Int.ofNat_le, Nat.not_lt, Nat.not_le] at h))
              refine wp_exit ?_
              (refine hKq4 _ _ ?_; try (clear hKq4 Kq4))
              (refine wp_seq_k ?_; intro Kq8 hKq8)
              refine wp_region_lit ?_
              (refine wpl_v S rfl rfl rfl (sv_pure S rfl) ?_; clear S a; intro a S)
              (refine wpl_callF S rfl rfl rfl rfl rfl rfl (varsCt F1 l _ (hl0.mono hF1) (by omega)) rfl ?_; clear S a; intro uv F3 a w hv hF3 S; obtain ⟨an, cn, names, rfl, hnames, hnml⟩ := hv)
              (refine wpl_v S rfl rfl rfl (sv_pure S rfl) ?_; clear S a; intro a S)
              refine wpList_nil ?_
              (refine hKq8 _ _ ?_; try (clear hKq8 Kq8))
              (refine wp_seq_k ?_; intro Kq9 hKq9)
              (refine wp_seq_k ?_; intro Kq10 hKq10)
              refine wp_region_lit ?_
              (refine wpl_v S rfl rfl rfl (sv_pure S rfl) ?_; clear S a; intro a S)
              (refine wpl_v S rfl rfl rfl (sv_lenSl S rfl rfl) ?_; clear S a; intro a S)
              (refine wpl_v S rfl rfl rfl (sv_pure S rfl) ?_; clear S a; intro a S)
              (refine wpl_v S rfl rfl rfl (sv_lenSl S rfl rfl) ?_; clear S a; intro a S)
              (refine wpl_v S rfl rfl rfl (sv_pure S rfl) ?_; clear S a; intro a S)
              refine wpList_nil ?_
              (refine hKq10 _ _ ?_; try (clear hKq10 Kq10))
              refine wpc_split S rfl (fun h => ?_) (fun h => ?_)
              · (skip; (try simp only [decide_eq_true_eq, decide_eq_false_iff_not, beq_iff_eq, bne_iff_ne, bne_eq_false_iff_eq, beq_eq_false_iff_ne, ne_eq, Bool.not_eq_true', Bool.not_eq_false', Bool.not_eq_true, Bool.not_eq_false, Bool.not_true, Bool.not_false, Int.ofNat_lt, Int.ofNat_le, Nat.not_lt, Nat.not_le] at h))
                (refine wp_seq_k ?_; intro Kq11 hKq11)
                refine wp_region_lit ?_
                (refine wpl_v S rfl rfl rfl (sv_pure S rfl) ?_; clear S a; intro a S)
                refine wpList_nil ?_
                (refine hKq11 _ _ ?_; try (clear hKq11 Kq11))
                refine wp_ret ?_
                refine fin_ret S (results1 Try.results5 (RV.tmp S rfl)) ?_
                (first | rfl | trace_state)
              · (skip; (try simp only [decide_eq_true_eq, decide_eq_false_iff_not, beq_iff_eq, bne_iff_ne, bne_eq_false_iff_eq, beq_eq_false_iff_ne, ne_eq, Bool.not_eq_true', Bool.not_eq_false', Bool.not_eq_true, Bool.not_eq_false, Bool.not_true, Bool.not_false, Int.ofNat_lt, Int.ofNat_le, Nat.not_lt, Nat.not_le] at h))
                refine wp_skip ?_
                (refine hKq9 _ _ ?_; try (clear hKq9 Kq9))
                (refine wp_seq_k ?_; intro Kq11 hKq11)
                refine wp_region_lit ?_
                (refine wpl_call (Gs := []) (Gr := []) S rfl rfl rfl rfl rfl rfl (newCt F3) rfl (by simp) ?_; clear S a; intro u9 F4 G4 a w hv hF4 S; obtain ⟨tb, rfl, hQ4⟩ := hv; rw [List.append_nil] at S)
                (refine wpl_v S rfl rfl rfl (sv_pure S rfl) ?_; clear S a; intro a S)
                refine wpList_nil ?_
                (refine hKq11 _ _ ?_; try (clear hKq11 Kq11))
                (refine wp_seq_k ?_; intro Kq12 hKq12)
                (refine wp_seq_k ?_; intro Kq13 hKq13)
                refine wp_region_lit ?_
                (refine wpl_v S rfl rfl rfl (sv_pure S rfl) ?_; clear S a; intro a S)
                refine wpList_nil ?_
                (refine hKq13 _ _ ?_; try (clear hKq13 Kq13))
                refine wp_block ?_
                refine wpc_loop (fun m a w' => ∃ (i : Nat) (F5 : Heap) (GG : List Grp) (σ : List UInt8 → Ty), m = l.len - i ∧ i ≤ l.len ∧ (∀ b o, F4 b = some o → F5 b = some o) ∧ TabQ F5 tb (i * 73728) σ GG ∧ Fac names L σ ∧ St 133 [(0, .slice ao l.len cap), (1, .slice ab L.len cb), (6, .slice an names.length cn), (7, ptr tb), (8, .int .i64 i)] w0 F [] F5 GG a w') ?_ ?_
                · (refine ⟨l.len, 0, F4, G4, vid, by omega, Nat.zero_le _, fun _ _ h => h, hQ4.le (by omega), thL_vid names L, ?_⟩; refine S.keep ?_; repeat (first | exact trivial | refine ⟨rfl, ?_⟩))
                · (clear S; rintro m a w ⟨i, F5, GG, σ, rfl, hil, hF5, hQ5, hfac5, S⟩)
                  (refine wp_seq_k ?_; intro Kq14 hKq14)
                  (refine wp_seq_k ?_; intro Kq15 hKq15)
                  refine wp_region_lit ?_
                  (refine wpl_v S rfl rfl rfl (sv_pure S rfl) ?_; clear S a; intro a S)
                  (refine wpl_v S rfl rfl rfl (sv_pure S rfl) ?_; clear S a; intro a S)
                  (refine wpl_v S rfl rfl rfl (sv_lenSl S rfl rfl) ?_; clear S a; intro a S)
                  (refine wpl_v S rfl rfl rfl (sv_pure S rfl) ?_; clear S a; intro a S)
                  refine wpList_nil ?_
                  (refine hKq15 _ _ ?_; try (clear hKq15 Kq15))
                  refine wpc_split S rfl (fun h => ?_) (fun h => ?_)
                  · (skip; (try simp only [decide_eq_true_eq, decide_eq_false_iff_not, beq_iff_eq, bne_iff_ne, bne_eq_false_iff_eq, beq_eq_false_iff_ne, ne_eq, Bool.not_eq_true', Bool.not_eq_false', Bool.not_eq_true, Bool.not_eq_false, Bool.not_true, Bool.not_false, Int.ofNat_lt, Int.ofNat_le, Nat.not_lt, Nat.not_le] at h))
                    refine wp_skip ?_
                    (refine hKq14 _ _ ?_; try (clear hKq14 Kq14))
                    (refine wp_seq_k ?_; intro Kq16 hKq16)
                    refine wp_block ?_
                    (refine wp_seq_k ?_; intro Kq17 hKq17)
                    refine wp_region_lit ?_
                    (refine wpl_v S rfl rfl rfl (sv_pure S rfl) ?_; clear S a; intro a S)
                    refine wpList_nil ?_
                    (refine hKq17 _ _ ?_; try (clear hKq17 Kq17))
                    refine wp_block ?_
                    refine wpc_loop (fun m a w' => ∃ (k : Nat) (F6 : Heap) (GG6 : List Grp) (σ6 : List UInt8 → Ty), m = i - k ∧ k ≤ i ∧ (∀ b o, F5 b = some o → F6 b = some o) ∧ TabQ F6 tb (i * 73728 + k * 6144) σ6 GG6 ∧ Fac names L σ6 ∧ St 133 [(0, .slice ao l.len cap), (1, .slice ab L.len cb), (6, .slice an names.length cn), (7, ptr tb), (8, .int .i64 i), (9, .int .i64 k)] w0 F [] F6 GG6 a w') ?_ ?_
                    · (refine ⟨i, 0, F5, GG, σ, by omega, Nat.zero_le _, fun _ _ h => h, hQ5.le (by omega), hfac5, ?_⟩; refine S.keep ?_; repeat (first | exact trivial | refine ⟨rfl, ?_⟩))
                    · (clear S; rintro m a w ⟨k, F6, GG6, σ6, rfl, hki, hF6, hQ6, hfac6, S⟩)
                      (refine wp_seq_k ?_; intro Kq18 hKq18)
                      (refine wp_seq_k ?_; intro Kq19 hKq19)
                      refine wp_region_lit ?_
                      (refine wpl_v S rfl rfl rfl (sv_pure S rfl) ?_; clear S a; intro a S)
                      (refine wpl_v S rfl rfl rfl (sv_pure S rfl) ?_; clear S a; intro a S)
                      (refine wpl_v S rfl rfl rfl (sv_pure S rfl) ?_; clear S a; intro a S)
                      refine wpList_nil ?_
                      (refine hKq19 _ _ ?_; try (clear hKq19 Kq19))
                      refine wpc_split S rfl (fun h => ?_) (fun h => ?_)
                      · (skip; (try simp only [decide_eq_true_eq, decide_eq_false_iff_not, beq_iff_eq, bne_iff_ne, bne_eq_false_iff_eq, beq_eq_false_iff_ne, ne_eq, Bool.not_eq_true', Bool.not_eq_false', Bool.not_eq_true, Bool.not_eq_false, Bool.not_true, Bool.not_false, Int.ofNat_lt, Int.ofNat_le, Nat.not_lt, Nat.not_le] at h))
                        refine wp_skip ?_
                        (refine hKq18 _ _ ?_; try (clear hKq18 Kq18))
                        (refine wp_seq_k ?_; intro Kq20 hKq20)
                        refine wp_block ?_
                        (refine wp_seq_k ?_; intro Kq21 hKq21)
                        (have hF06 : ∀ b o, F b = some o → F6 b = some o := (fun b o h => hF6 _ _ (hF5 _ _ (hF4 _ _ (hF3 _ _ (hF1 _ _ h))))); obtain ⟨b8, o8, hao, x, v1, hx, hc1, hT1⟩ := FoM.pos hpos (k := i) (by omega); have hpos2 := hpos; obtain ⟨b9, o9, hao2, y, v2, hy, hc2, hT2⟩ := FoM.pos hpos2 (k := k) (by omega); have he89 : b9 = b8 ∧ o9 = o8 := (by rw [hao] at hao2; cases hao2; exact ⟨rfl, rfl⟩); obtain ⟨rfl, rfl⟩ := he89; rw [hao] at S; replace hc1 := Cels.mono hF06 hc1; replace hT1 := hT1.mono hF06; replace hc2 := Cels.mono hF06 hc2; replace hT2 := hT2.mono hF06; have hT1c := hT1; obtain ⟨a91, c91, rfl, -⟩ := hT1c; have hT2c := hT2; obtain ⟨a92, c92, rfl, -⟩ := hT2c; obtain ⟨hx40, hxth⟩ := hthl.get hx; obtain ⟨hy40, hyth⟩ := hthl.get hy; have hnm6 := (hnames.mono hF4).mono (fun b o h => hF6 _ _ (hF5 _ _ h)); have hL6 := hL0.mono hF06)
                        refine wp_region_lit ?_
                        (refine wpl_v S rfl rfl rfl (sv_pure S rfl) ?_; clear S a; intro a S)
                        (refine wpl_v S rfl rfl rfl (sv_pure S rfl) ?_; clear S a; intro a S)
                        (refine wpl_v S rfl rfl rfl (sv_indexAddrSl S rfl rfl rfl (by first | omega | (simp only [List.length_append, List.length_cons, List.length_nil]; omega))) ?_; clear S a; intro a S)
                        (refine wpl_v S rfl rfl rfl (sv_loadAF S rfl rfl hc1 (by rfl)) ?_; clear S a; intro a S)
                        (refine wpl_v S rfl rfl rfl (sv_pure S rfl) ?_; clear S a; intro a S)
                        (refine wpl_v S rfl rfl rfl (sv_pure S rfl) ?_; clear S a; intro a S)
                        (refine wpl_callF S rfl rfl rfl rfl rfl rfl (substCt F6 x.1 x.2 _ names L _ _ ⟨_, rfl, hT1⟩ hx40 hxth hnm6 (by omega) hL6 hthL) rfl ?_; clear S a; intro ua F7 a w hv hF7 S; obtain ⟨a7, q7, c7, rfl, hs7⟩ := hv; have hc27 := Cels.mono hF7 hc2)
                        (refine wpl_alloc S rfl rfl rfl rfl ?_; clear S a; intro b10 a w S)
                        (refine wpl_storeO S rfl rfl rfl rfl rfl (by rfl) (by simp [Value.cells, Value.oneCell', splice]) (by rfl) ?_; clear S; intro w S)
                        refine wpList_nil ?_
                        (refine hKq21 _ _ ?_; try (clear hKq21 Kq21))
                        (refine wp_seq_k ?_; intro Kq22 hKq22)
                        refine wp_region_lit ?_
                        (refine wpl_v S rfl rfl rfl (sv_pure S rfl) ?_; clear S a; intro a S)
                        (refine wpl_v S rfl rfl rfl (sv_pure S rfl) ?_; clear S a; intro a S)
                        (refine wpl_v S rfl rfl rfl (sv_indexAddrSl S rfl rfl rfl (by first | omega | (simp only [List.length_append, List.length_cons, List.length_nil]; omega))) ?_; clear S a; intro a S)
                        (refine wpl_v S rfl rfl rfl (sv_loadAF S rfl rfl hc27 (by rfl)) ?_; clear S a; intro a S)
                        (refine wpl_v S rfl rfl rfl (sv_pure S rfl) ?_; clear S a; intro a S)
                        (refine wpl_v S rfl rfl rfl (sv_pure S rfl) ?_; clear S a; intro a S)
                        (refine wpl_callF S rfl rfl rfl rfl rfl rfl (substCt F7 y.1 y.2 _ names L _ _ ⟨_, rfl, hT2.mono hF7⟩ hy40 hyth (hnm6.mono hF7) (by omega) (hL6.mono hF7) hthL) rfl ?_; clear S a; intro ub F8 a w hv hF8 S; obtain ⟨a8, q8, c8, rfl, hs8⟩ := hv; have hF68 : ∀ b o, F6 b = some o → F8 b = some o := (fun b o h => hF8 _ _ (hF7 _ _ h)); have hc18 := Cels.mono hF68 hc1; have hc28 := Cels.mono hF68 hc2; have hx8 := hT1.mono hF68; have hy8 := hT2.mono hF68)
                        (refine wpl_alloc S rfl rfl rfl rfl ?_; clear S a; intro b11 a w S)
                        (refine wpl_storeO S rfl rfl rfl rfl rfl (by rfl) (by simp [Value.cells, Value.oneCell', splice]) (by rfl) ?_; clear S; intro w S)
                        refine wpList_nil ?_
                        (refine hKq22 _ _ ?_; try (clear hKq22 Kq22))
                        (refine wp_seq_k ?_; intro Kq23 hKq23)
                        (refine wp_seq_k ?_; intro Kq24 hKq24)
                        refine wp_region_lit ?_
                        (refine wpl_v S rfl rfl rfl (sv_pure S rfl) ?_; clear S a; intro a S)
                        (refine wpl_v S rfl rfl rfl (sv_pure S rfl) ?_; clear S a; intro a S)
                        (refine wpl_v S rfl rfl rfl (sv_indexAddrSl S rfl rfl rfl (by first | omega | (simp only [List.length_append, List.length_cons, List.length_nil]; omega))) ?_; clear S a; intro a S)
                        first | (refine wpl_v S rfl rfl rfl (sv_loadAO S rfl rfl (by rfl)) ?_; clear S a; intro a S) | (refine wpl_v S rfl rfl rfl (sv_loadAF S rfl rfl (by assumption) (by rfl)) ?_; clear S a; intro a S)
                        (first | (refine wpl_call0 S rfl rfl rfl rfl rfl rfl (mayCt F8 x.1 x.2 _ ⟨_, rfl, hx8⟩) rfl ?_; clear S a; intro v a w hv S; subst hv) | (refine wpl_call0 S rfl rfl rfl rfl rfl rfl (mayCt F8 y.1 y.2 _ ⟨_, rfl, hy8⟩) rfl ?_; clear S a; intro v a w hv S; subst hv))
                        (refine wpl_v S rfl rfl rfl (sv_pure S rfl) ?_; clear S a; intro a S)
                        (refine wpl_v S rfl rfl rfl (sv_pure S rfl) ?_; clear S a; intro a S)
                        refine wpl_guard S rfl rfl rfl rfl rfl ?_ ?_
                        · (intro h S'; clear S; have S := S'; clear S'; (try simp only [decide_eq_true_eq, decide_eq_false_iff_not, beq_iff_eq, bne_iff_ne, bne_eq_false_iff_eq, beq_eq_false_iff_ne, ne_eq, Bool.not_eq_true', Bool.not_eq_false', Bool.not_eq_true, Bool.not_eq_false, Bool.not_true, Bool.not_false, Int.ofNat_lt, Int.ofNat_le, Nat.not_lt, Nat.not_le] at h))
                          (refine wpl_v S rfl rfl rfl (sv_pure S rfl) ?_; clear S a; intro a S)
                          refine wpl_take S rfl rfl rfl ?_
                          (refine wpl_v S rfl rfl rfl (sv_pure S rfl) ?_; clear S a; intro a S)
                          refine wpl_take S rfl rfl rfl ?_
                          (refine wpl_v S rfl rfl rfl (sv_indexAddrSl S rfl rfl rfl (by first | omega | (simp only [List.length_append, List.length_cons, List.length_nil]; omega))) ?_; clear S a; intro a S)
                          refine wpl_take S rfl rfl rfl ?_
                          first | (refine wpl_v S rfl rfl rfl (sv_loadAO S rfl rfl (by rfl)) ?_; clear S a; intro a S) | (refine wpl_v S rfl rfl rfl (sv_loadAF S rfl rfl (by assumption) (by rfl)) ?_; clear S a; intro a S)
                          refine wpl_take S rfl rfl rfl ?_
                          (first | (refine wpl_call0 S rfl rfl rfl rfl rfl rfl (mayCt F8 x.1 x.2 _ ⟨_, rfl, hx8⟩) rfl ?_; clear S a; intro v a w hv S; subst hv) | (refine wpl_call0 S rfl rfl rfl rfl rfl rfl (mayCt F8 y.1 y.2 _ ⟨_, rfl, hy8⟩) rfl ?_; clear S a; intro v a w hv S; subst hv))
                          refine wpl_take S rfl rfl rfl ?_
                          (refine wpl_v S rfl rfl rfl (sv_pure S rfl) ?_; clear S a; intro a S)
                          first | (refine wpl_v S rfl rfl rfl (sv_pure S rfl) ?_; clear S a; intro a S) | (refine wpl_v S rfl rfl rfl (sv_pickB S rfl rfl rfl rfl) ?_; clear S a; intro a S)
                          (refine wpl_v S rfl rfl rfl (sv_pure S rfl) ?_; clear S a; intro a S)
                          refine wpl_guard S rfl rfl rfl rfl rfl ?_ ?_
                          · (intro h S'; clear S; have S := S'; clear S'; (try simp only [decide_eq_true_eq, decide_eq_false_iff_not, beq_iff_eq, bne_iff_ne, bne_eq_false_iff_eq, beq_eq_false_iff_ne, ne_eq, Bool.not_eq_true', Bool.not_eq_false', Bool.not_eq_true, Bool.not_eq_false, Bool.not_true, Bool.not_false, Int.ofNat_lt, Int.ofNat_le, Nat.not_lt, Nat.not_le] at h))
                            first | (refine wpl_v S rfl rfl rfl (sv_loadAO S rfl rfl (by rfl)) ?_; clear S a; intro a S) | (refine wpl_v S rfl rfl rfl (sv_loadAF S rfl rfl (by assumption) (by rfl)) ?_; clear S a; intro a S)
                            refine wpl_take S rfl rfl rfl ?_
                            first | (refine wpl_v S rfl rfl rfl (sv_loadAO S rfl rfl (by rfl)) ?_; clear S a; intro a S) | (refine wpl_v S rfl rfl rfl (sv_loadAF S rfl rfl (by assumption) (by rfl)) ?_; clear S a; intro a S)
                            refine wpl_take S rfl rfl rfl ?_
                            (refine wpl_call0 S rfl rfl rfl rfl rfl rfl (sameCt F8 _ _ _ _ _ _ _ (Nat.le_refl _) ⟨_, rfl, hs7.mono hF8⟩ ⟨_, rfl, hs8⟩) rfl ?_; clear S a; intro v a w hv S; subst hv)
                            refine wpl_take S rfl rfl rfl ?_
                            (refine wpl_v S rfl rfl rfl (sv_pure S rfl) ?_; clear S a; intro a S)
                            first | (refine wpl_v S rfl rfl rfl (sv_pure S rfl) ?_; clear S a; intro a S) | (refine wpl_v S rfl rfl rfl (sv_pickB S rfl rfl rfl rfl) ?_; clear S a; intro a S)
                            refine wpList_nil ?_
                            (refine hKq24 _ _ ?_; try (clear hKq24 Kq24))
                            refine wpc_split S rfl (fun h => ?_) (fun h => ?_)
                            · (skip; (try simp only [decide_eq_true_eq, decide_eq_false_iff_not, beq_iff_eq, bne_iff_ne, bne_eq_false_iff_eq, beq_eq_false_iff_ne, ne_eq, Bool.not_eq_true', Bool.not_eq_false', Bool.not_eq_true, Bool.not_eq_false, Bool.not_true, Bool.not_false, Int.ofNat_lt, Int.ofNat_le, Nat.not_lt, Nat.not_le] at h))
                              refine wp_exit ?_
                              (refine hKq20 _ _ ?_; try (clear hKq20 Kq20))
                              refine wp_region_lit ?_
                              (refine wpl_v S rfl rfl rfl (sv_pure S rfl) ?_; clear S a; intro a S)
                              (refine wpl_v S rfl rfl rfl (sv_add S rfl rfl rfl (by first | omega | (simp only [List.length_append, List.length_cons, List.length_nil]; omega))) ?_; clear S a; intro a S)
                              (refine wpl_v S rfl rfl rfl (sv_pure S rfl) ?_; clear S a; intro a S)
                              refine wpList_nil ?_
                              change ∃ m', _ ∧ _
                              (rw [← hao] at S; first | (have h9 := hF11; replace S := S.drop1.drop1.drop1; refine ⟨i - (k + 1), by omega, k + 1, F11, G10, σ9, rfl, by omega, fun b o h => hF11 _ _ (hF10 _ _ (hF9 _ _ (hF68 _ _ (hF6 _ _ h)))), (hQ10.mono hF11).le (by omega), hfac9, ?_⟩; refine S.keep ?_; repeat (first | exact trivial | refine ⟨rfl, ?_⟩)) | (have h9 := hF10; replace S := S.drop1.drop1.drop1; refine ⟨i - (k + 1), by omega, k + 1, F10, G10, σ9, rfl, by omega, fun b o h => hF10 _ _ (hF9 _ _ (hF68 _ _ (hF6 _ _ h))), hQ10.le (by omega), hfac9, ?_⟩; refine S.keep ?_; repeat (first | exact trivial | refine ⟨rfl, ?_⟩)) | (replace S := S.drop1.drop1; refine ⟨i - (k + 1), by omega, k + 1, F8, GG6, σ6, rfl, by omega, fun b o h => hF68 _ _ (hF6 _ _ h), (hQ6.mono hF68).le (by omega), hfac6, ?_⟩; refine S.keep ?_; repeat (first | exact trivial | refine ⟨rfl, ?_⟩)) | trace_state)
                            · (skip; (try simp only [decide_eq_true_eq, decide_eq_false_iff_not, beq_iff_eq, bne_iff_ne, bne_eq_false_iff_eq, beq_eq_false_iff_ne, ne_eq, Bool.not_eq_true', Bool.not_eq_false', Bool.not_eq_true, Bool.not_eq_false, Bool.not_true, Bool.not_false, Int.ofNat_lt, Int.ofNat_le, Nat.not_lt, Nat.not_le] at h))
                              refine wp_skip ?_
                              (refine hKq23 _ _ ?_; try (clear hKq23 Kq23))
                              (refine wp_seq_k ?_; intro Kq25 hKq25)
                              (refine wp_seq_k ?_; intro Kq26 hKq26)
                              (obtain ⟨hm1, hm2, hsm⟩ : may x.1 x.2 = true ∧ may y.1 y.2 = true ∧ ((sbv names L (x.1, x.2)).1 = (sbv names L (y.1, y.2)).1 ∧ (sbv names L (x.1, x.2)).2 = (sbv names L (y.1, y.2)).2) := (by refine ⟨?_, ?_, ?_⟩ <;> assumption); replace hsm : sbv names L (x.1, x.2) = sbv names L (y.1, y.2) := Prod.ext hsm.1 hsm.2)
                              (refine wpc_mixM [0, 1, 2, 3, 4, 5, 6, 7, 8, 10] [4, 8] [] (.one 0 (.one 1 (.one 2 (.one 3 (.one 4 (.one 5 (.one 6 (.one 7 (.one 8 (.one 9 (.one 10 .nil))))))))))) [] S mixed (by kernel_rfl) ?_; clear S; intro w S)
                              (refine wpm_v S rfl rfl rfl (want_none _ rfl) rfl rfl (fun w' S => sv_pure S rfl) ?_; clear S a; intro a S)
                              (refine wpm_v S rfl rfl rfl (want_none _ rfl) rfl rfl (fun w' S => sv_pure S rfl) ?_; clear S a; intro a S)
                              (refine wpm_v S rfl rfl rfl (want_none _ rfl) rfl rfl (fun w' S => sv_pure S rfl) ?_; clear S a; intro a S)
                              (refine wpm_v S rfl rfl rfl (want_none _ rfl) rfl rfl (fun w' S => sv_indexAddrSl S rfl rfl rfl (by first | omega | (simp only [List.length_append, List.length_cons, List.length_nil]; omega))) ?_; clear S a; intro a S)
                              first | (refine wpm_lateF S rfl rfl rfl (want_none _ rfl) rfl rfl (fun w' S => sv_loadF S rfl rfl (by assumption)) ?_; clear S a; intro a S) | (refine wpm_lateF S rfl rfl rfl (want_none _ rfl) rfl rfl (fun w' S => sv_loadAF S rfl rfl (by assumption) (by rfl)) ?_; clear S a; intro a S)
                              (refine wpm_v S rfl rfl rfl (want_none _ rfl) rfl rfl (fun w' S => sv_pure S rfl) ?_; clear S a; intro a S)
                              (refine wpm_v S rfl rfl rfl (want_none _ rfl) rfl rfl (fun w' S => sv_pure S rfl) ?_; clear S a; intro a S)
                              (refine wpm_v S rfl rfl rfl (want_none _ rfl) rfl rfl (fun w' S => sv_indexAddrSl S rfl rfl rfl (by first | omega | (simp only [List.length_append, List.length_cons, List.length_nil]; omega))) ?_; clear S a; intro a S)
                              first | (refine wpm_lateF S rfl rfl rfl (want_none _ rfl) rfl rfl (fun w' S => sv_loadF S rfl rfl (by assumption)) ?_; clear S a; intro a S) | (refine wpm_lateF S rfl rfl rfl (want_none _ rfl) rfl rfl (fun w' S => sv_loadAF S rfl rfl (by assumption) (by rfl)) ?_; clear S a; intro a S)
                              refine wpm_eff rfl rfl (fun _ => ⟨fun b o h => S.tr.frz b o (by first | exact h | solve_by_elim), trivial⟩) ?_
                              (refine wpl_call (Gs := GG6) (Gr := [[(b11, _)], [(b10, _)]]) S rfl rfl rfl rfl rfl rfl (unifyCt F8 tb _ σ6 GG6 x.1 x.2 _ y.1 y.2 _ ⟨_, rfl, hx8⟩ ⟨_, rfl, hy8⟩ (by omega) (hQ6.mono hF68)) rfl (grp_perm (A := [[(b11, _)], [(b10, _)]])) ?_; clear S a; intro u9 F9 G9 a w hv hF9 S; obtain ⟨e9, σ9, rfl, hQ9, hu9⟩ := hv; obtain ⟨rfl, hfac9⟩ := least_step hfac6 hm1 hm2 hsm hu9; replace S : St _ _ _ _ _ F9 ([(b11, _)] :: [(b10, _)] :: G9) _ _ := St.rotL S; have hc19 := Cels.mono hF9 hc18)
                              refine wpList_nil ?_
                              (refine wpm_v S rfl rfl rfl (want_none _ rfl) rfl rfl (fun w' S => sv_lit (c := false) (sv_pure S rfl) (by rfl)) ?_; clear S a; intro a S)
                              refine wpm_nil (fun _ => ⟨fun b o h => S.tr.frz b o (by first | exact h | solve_by_elim), trivial⟩) ?_
                              (refine hKq26 _ _ ?_; try (clear hKq26 Kq26))
                              refine wpc_false S rfl ?_
                              refine wp_skip ?_
                              (refine hKq25 _ _ ?_; try (clear hKq25 Kq25))
                              (refine wp_seq_k ?_; intro Kq27 hKq27)
                              refine wp_region_lit ?_
                              (refine wpl_v S rfl rfl rfl (sv_pure S rfl) ?_; clear S a; intro a S)
                              (refine wpl_v S rfl rfl rfl (sv_pure S rfl) ?_; clear S a; intro a S)
                              (refine wpl_v S rfl rfl rfl (sv_pure S rfl) ?_; clear S a; intro a S)
                              (refine wpl_v S rfl rfl rfl (sv_indexAddrSl S rfl rfl rfl (by first | omega | (simp only [List.length_append, List.length_cons, List.length_nil]; omega))) ?_; clear S a; intro a S)
                              first | (refine wpl_v S rfl rfl rfl (sv_loadAO S rfl rfl (by rfl)) ?_; clear S a; intro a S) | (refine wpl_v S rfl rfl rfl (sv_loadAF S rfl rfl (by assumption) (by rfl)) ?_; clear S a; intro a S)
                              (refine wpl_call (Gs := G9) (Gr := [[(b11, _)], [(b10, _)]]) S rfl rfl rfl rfl rfl rfl (resolveCt F9 tb _ σ9 G9 x.1 x.2 _ ⟨_, rfl, hx8.mono hF9⟩ (by omega) hQ9) rfl (grp_perm (A := [[(b11, _)], [(b10, _)]])) ?_; clear S a; intro u9 F10 G10 a w hv hF10 S; obtain ⟨a12, q12, c12, rfl, hs12, hQ10⟩ := hv; replace S : St _ _ _ _ _ F10 ([(b11, _)] :: [(b10, _)] :: G10) _ _ := St.rotL S)
                              (refine wpl_v S rfl rfl rfl (sv_pure S rfl) ?_; clear S a; intro a S)
                              (refine wpl_v S rfl rfl rfl (sv_pure S rfl) ?_; clear S a; intro a S)
                              (refine wpl_v S rfl rfl rfl (sv_pure S rfl) ?_; clear S a; intro a S)
                              (refine wpl_alloc S rfl rfl rfl rfl ?_; clear S a; intro b12 a w S)
                              (refine wpl_storeO S rfl rfl rfl rfl rfl (by rfl) (by simp [Value.cells, Value.oneCell', splice]) (by rfl) ?_; clear S; intro w S)
                              (refine wpl_v S rfl rfl rfl (sv_pure S rfl) ?_; clear S a; intro a S)
                              refine wpList_nil ?_
                              (refine hKq27 _ _ ?_; try (clear hKq27 Kq27))
                              (refine wp_seq_k ?_; intro Kq28 hKq28)
                              (refine wpc_mixM [0, 1, 2, 3, 4, 5, 7, 9, 10] [3, 7] [] (.one 0 (.one 1 (.one 2 (.one 3 (.one 4 (.one 5 (.one 7 (.one 6 (.one 8 (.one 9 (.one 10 .nil))))))))))) [b12, b10] S mixed (by kernel_rfl) ?_; clear S; intro w S)
                              (refine wpm_v S rfl rfl rfl (want_none _ rfl) rfl rfl (fun w' S => sv_pure S rfl) ?_; clear S a; intro a S)
                              (refine wpm_v S rfl rfl rfl (want_none _ rfl) rfl rfl (fun w' S => sv_pure S rfl) ?_; clear S a; intro a S)
                              (refine wpm_v S rfl rfl rfl (want_none _ rfl) rfl rfl (fun w' S => sv_pure S rfl) ?_; clear S a; intro a S)
                              refine St.part (dj := 124) (want := true) S rfl ?_ ?_
                              · (intro h S'; clear S; have S := S'; clear S'; (try simp only [decide_eq_true_eq, decide_eq_false_iff_not, beq_iff_eq, bne_iff_ne, bne_eq_false_iff_eq, beq_eq_false_iff_ne, ne_eq, Bool.not_eq_true', Bool.not_eq_false', Bool.not_eq_true, Bool.not_eq_false, Bool.not_true, Bool.not_false, Int.ofNat_lt, Int.ofNat_le, Nat.not_lt, Nat.not_le] at h))
                                first | (refine wpm_lateO b12 S rfl rfl rfl (want_yes S rfl rfl rfl) rfl rfl (fun w' S => sv_loadO S rfl rfl (by rfl)) ?_; clear S a; intro a S) | (refine wpm_lateO b12 S rfl rfl rfl (want_yes S rfl rfl rfl) rfl rfl (fun w' S => sv_loadAO S rfl rfl (by rfl)) ?_; clear S a; intro a S)
                                (refine wpm_v S rfl rfl rfl (want_yes S rfl rfl rfl) rfl rfl (fun w' S => sv_pure S rfl) ?_; clear S a; intro a S)
                                (refine wpm_v S rfl rfl rfl (want_yes S rfl rfl rfl) rfl rfl (fun w' S => sv_pure S rfl) ?_; clear S a; intro a S)
                                first | (refine wpm_lateO b10 S rfl rfl rfl (want_yes S rfl rfl rfl) rfl rfl (fun w' S => sv_loadO S rfl rfl (by rfl)) ?_; clear S a; intro a S) | (refine wpm_lateO b10 S rfl rfl rfl (want_yes S rfl rfl rfl) rfl rfl (fun w' S => sv_loadAO S rfl rfl (by rfl)) ?_; clear S a; intro a S)
                                refine wpm_eff rfl rfl (fun _ => ⟨fun b o h => S.tr.frz b o (by first | exact h | solve_by_elim), S.has inferInstance, S.has inferInstance, trivial⟩) ?_
                                refine wpl_take S rfl rfl rfl ?_
                                (obtain ⟨hsb, hsz⟩ := least_res (a := (x.1, x.2)) hfac9 (tabQ_wf hQ9) hm1 (by assumption); have hszl := Fo.len_size (resv σ9 (x.1, x.2)).2.2; have hF610 : ∀ b o, F6 b = some o → F10 b = some o := (fun b o h => hF10 _ _ (hF9 _ _ (hF68 _ _ h))); refine wpl_callF S rfl rfl rfl rfl rfl rfl (substCt F10 (resv σ9 (x.1, x.2)).2.1 (resv σ9 (x.1, x.2)).2.2 _ names L _ _ ⟨_, rfl, hs12⟩ (by omega) (thin_size _ (by omega)) (hnm6.mono hF610) (by omega) (hL6.mono hF610) hthL) rfl ?_; clear S a; intro uc F11 a w hv hF11 S; obtain ⟨a13, q13, c13, rfl, hs13⟩ := hv)
                                refine wpList_nil ?_
                                refine wpm_eff rfl rfl (fun _ => ⟨fun b o h => S.tr.frz b o (by first | exact h | solve_by_elim), S.has inferInstance, S.has inferInstance, trivial⟩) ?_
                                refine wpl_take S rfl rfl rfl ?_
                                (refine wpl_call0 S rfl rfl rfl rfl rfl rfl (sameCt F11 _ _ _ _ _ _ _ (Nat.le_refl _) ⟨_, rfl, hs13⟩ ⟨_, rfl, (hs7.mono hF8).mono (fun b o h => hF11 _ _ (hF10 _ _ (hF9 _ _ h)))⟩) rfl ?_; clear S a; intro v a w hv S; rw [decide_eq_true (show (sbv names L (resv σ9 (x.1, x.2)).2).1 = (sbv names L (x.1, x.2)).1 ∧ (sbv names L (resv σ9 (x.1, x.2)).2).2 = (sbv names L (x.1, x.2)).2 from (by rw [hsb]; exact ⟨rfl, rfl⟩))] at hv; subst hv)
                                refine wpList_nil ?_
                                (refine wpm_v S rfl rfl rfl (want_yes S rfl rfl rfl) rfl rfl (fun w' S => sv_lit (c := false) (sv_pure S rfl) (by rfl)) ?_; clear S a; intro a S)
                                first | (refine wpm_v S rfl rfl rfl (want_none _ rfl) rfl rfl (fun w' S => sv_pure S rfl) ?_; clear S a; intro a S) | (refine wpm_v S rfl rfl rfl (want_none _ rfl) rfl rfl (fun w' S => sv_pickB S rfl rfl rfl rfl) ?_; clear S a; intro a S)
                                refine wpm_nil (fun _ => ⟨fun b o h => S.tr.frz b o (by first | exact h | solve_by_elim), S.has inferInstance, S.has inferInstance, trivial⟩) ?_
                                (refine hKq28 _ _ ?_; try (clear hKq28 Kq28))
                                refine wpc_false S rfl ?_
                                refine wp_skip ?_
                                (refine hKq20 _ _ ?_; try (clear hKq20 Kq20))
                                refine wp_region_lit ?_
                                (refine wpl_v S rfl rfl rfl (sv_pure S rfl) ?_; clear S a; intro a S)
                                (refine wpl_v S rfl rfl rfl (sv_add S rfl rfl rfl (by first | omega | (simp only [List.length_append, List.length_cons, List.length_nil]; omega))) ?_; clear S a; intro a S)
                                (refine wpl_v S rfl rfl rfl (sv_pure S rfl) ?_; clear S a; intro a S)
                                refine wpList_nil ?_
                                change ∃ m', _ ∧ _
                                (rw [← hao] at S; first | (have h9 := hF11; replace S := S.drop1.drop1.drop1; refine ⟨i - (k + 1), by omega, k + 1, F11, G10, σ9, rfl, by omega, fun b o h => hF11 _ _ (hF10 _ _ (hF9 _ _ (hF68 _ _ (hF6 _ _ h)))), (hQ10.mono hF11).le (by omega), hfac9, ?_⟩; refine S.keep ?_; repeat (first | exact trivial | refine ⟨rfl, ?_⟩)) | (have h9 := hF10; replace S := S.drop1.drop1.drop1; refine ⟨i - (k + 1), by omega, k + 1, F10, G10, σ9, rfl, by omega, fun b o h => hF10 _ _ (hF9 _ _ (hF68 _ _ (hF6 _ _ h))), hQ10.le (by omega), hfac9, ?_⟩; refine S.keep ?_; repeat (first | exact trivial | refine ⟨rfl, ?_⟩)) | (replace S := S.drop1.drop1; refine ⟨i - (k + 1), by omega, k + 1, F8, GG6, σ6, rfl, by omega, fun b o h => hF68 _ _ (hF6 _ _ h), (hQ6.mono hF68).le (by omega), hfac6, ?_⟩; refine S.keep ?_; repeat (first | exact trivial | refine ⟨rfl, ?_⟩)) | trace_state)
                              · (intro h S'; clear S; have S := S'; clear S'; (try simp only [decide_eq_true_eq, decide_eq_false_iff_not, beq_iff_eq, bne_iff_ne, bne_eq_false_iff_eq, beq_eq_false_iff_ne, ne_eq, Bool.not_eq_true', Bool.not_eq_false', Bool.not_eq_true, Bool.not_eq_false, Bool.not_true, Bool.not_false, Int.ofNat_lt, Int.ofNat_le, Nat.not_lt, Nat.not_le] at h))
                                (refine wpm_skip S rfl rfl (want_no S rfl rfl rfl) rfl rfl ?_; clear S a; intro a S)
                                (refine wpm_skip S rfl rfl (want_no S rfl rfl rfl) rfl rfl ?_; clear S a; intro a S)
                                (refine wpm_skip S rfl rfl (want_no S rfl rfl rfl) rfl rfl ?_; clear S a; intro a S)
                                (refine wpm_skip S rfl rfl (want_no S rfl rfl rfl) rfl rfl ?_; clear S a; intro a S)
                                (refine wpm_skipE S rfl rfl (want_no S rfl rfl rfl) (fun _ => ⟨fun b o h => S.tr.frz b o (by first | exact h | solve_by_elim), S.has inferInstance, S.has inferInstance, trivial⟩) rfl rfl ?_; clear S a; intro a S)
                                (refine wpm_skipE S rfl rfl (want_no S rfl rfl rfl) (fun _ => ⟨fun b o h => S.tr.frz b o (by first | exact h | solve_by_elim), S.has inferInstance, S.has inferInstance, trivial⟩) rfl rfl ?_; clear S a; intro a S)
                                (refine wpm_skip S rfl rfl (want_no S rfl rfl rfl) rfl rfl ?_; clear S a; intro a S)
                                first | (refine wpm_v S rfl rfl rfl (want_none _ rfl) rfl rfl (fun w' S => sv_pure S rfl) ?_; clear S a; intro a S) | (refine wpm_v S rfl rfl rfl (want_none _ rfl) rfl rfl (fun w' S => sv_pickB S rfl rfl rfl rfl) ?_; clear S a; intro a S)
                                refine wpm_nil (fun _ => ⟨fun b o h => S.tr.frz b o (by first | exact h | solve_by_elim), S.has inferInstance, S.has inferInstance, trivial⟩) ?_
                                (refine hKq28 _ _ ?_; try (clear hKq28 Kq28))
                                refine wpc_false S rfl ?_
                                refine wp_skip ?_
                                (refine hKq20 _ _ ?_; try (clear hKq20 Kq20))
                                refine wp_region_lit ?_
                                (refine wpl_v S rfl rfl rfl (sv_pure S rfl) ?_; clear S a; intro a S)
                                (refine wpl_v S rfl rfl rfl (sv_add S rfl rfl rfl (by first | omega | (simp only [List.length_append, List.length_cons, List.length_nil]; omega))) ?_; clear S a; intro a S)
                                (refine wpl_v S rfl rfl rfl (sv_pure S rfl) ?_; clear S a; intro a S)
                                refine wpList_nil ?_
                                change ∃ m', _ ∧ _
                                (rw [← hao] at S; first | (have h9 := hF11; replace S := S.drop1.drop1.drop1; refine ⟨i - (k + 1), by omega, k + 1, F11, G10, σ9, rfl, by omega, fun b o h => hF11 _ _ (hF10 _ _ (hF9 _ _ (hF68 _ _ (hF6 _ _ h)))), (hQ10.mono hF11).le (by omega), hfac9, ?_⟩; refine S.keep ?_; repeat (first | exact trivial | refine ⟨rfl, ?_⟩)) | (have h9 := hF10; replace S := S.drop1.drop1.drop1; refine ⟨i - (k + 1), by omega, k + 1, F10, G10, σ9, rfl, by omega, fun b o h => hF10 _ _ (hF9 _ _ (hF68 _ _ (hF6 _ _ h))), hQ10.le (by omega), hfac9, ?_⟩; refine S.keep ?_; repeat (first | exact trivial | refine ⟨rfl, ?_⟩)) | (replace S := S.drop1.drop1; refine ⟨i - (k + 1), by omega, k + 1, F8, GG6, σ6, rfl, by omega, fun b o h => hF68 _ _ (hF6 _ _ h), (hQ6.mono hF68).le (by omega), hfac6, ?_⟩; refine S.keep ?_; repeat (first | exact trivial | refine ⟨rfl, ?_⟩)) | trace_state)
                          · (intro h; clear S a; intro a S; (try simp only [decide_eq_true_eq, decide_eq_false_iff_not, beq_iff_eq, bne_iff_ne, bne_eq_false_iff_eq, beq_eq_false_iff_ne, ne_eq, Bool.not_eq_true', Bool.not_eq_false', Bool.not_eq_true, Bool.not_eq_false, Bool.not_true, Bool.not_false, Int.ofNat_lt, Int.ofNat_le, Nat.not_lt, Nat.not_le] at h))
                            (refine wpl_skip S rfl rfl rfl rfl rfl ?_; clear S a; intro a S)
                            (refine wpl_skip S rfl rfl rfl rfl rfl ?_; clear S a; intro a S)
                            (refine wpl_skip S rfl rfl rfl rfl rfl ?_; clear S a; intro a S)
                            first | (refine wpl_v S rfl rfl rfl (sv_pure S rfl) ?_; clear S a; intro a S) | (refine wpl_v S rfl rfl rfl (sv_pickB S rfl rfl rfl rfl) ?_; clear S a; intro a S)
                            refine wpList_nil ?_
                            (refine hKq24 _ _ ?_; try (clear hKq24 Kq24))
                            refine wpc_true S rfl ?_
                            refine wp_exit ?_
                            (refine hKq20 _ _ ?_; try (clear hKq20 Kq20))
                            refine wp_region_lit ?_
                            (refine wpl_v S rfl rfl rfl (sv_pure S rfl) ?_; clear S a; intro a S)
                            (refine wpl_v S rfl rfl rfl (sv_add S rfl rfl rfl (by first | omega | (simp only [List.length_append, List.length_cons, List.length_nil]; omega))) ?_; clear S a; intro a S)
                            (refine wpl_v S rfl rfl rfl (sv_pure S rfl) ?_; clear S a; intro a S)
                            refine wpList_nil ?_
                            change ∃ m', _ ∧ _
                            (rw [← hao] at S; first | (have h9 := hF11; replace S := S.drop1.drop1.drop1; refine ⟨i - (k + 1), by omega, k + 1, F11, G10, σ9, rfl, by omega, fun b o h => hF11 _ _ (hF10 _ _ (hF9 _ _ (hF68 _ _ (hF6 _ _ h)))), (hQ10.mono hF11).le (by omega), hfac9, ?_⟩; refine S.keep ?_; repeat (first | exact trivial | refine ⟨rfl, ?_⟩)) | (have h9 := hF10; replace S := S.drop1.drop1.drop1; refine ⟨i - (k + 1), by omega, k + 1, F10, G10, σ9, rfl, by omega, fun b o h => hF10 _ _ (hF9 _ _ (hF68 _ _ (hF6 _ _ h))), hQ10.le (by omega), hfac9, ?_⟩; refine S.keep ?_; repeat (first | exact trivial | refine ⟨rfl, ?_⟩)) | (replace S := S.drop1.drop1; refine ⟨i - (k + 1), by omega, k + 1, F8, GG6, σ6, rfl, by omega, fun b o h => hF68 _ _ (hF6 _ _ h), (hQ6.mono hF68).le (by omega), hfac6, ?_⟩; refine S.keep ?_; repeat (first | exact trivial | refine ⟨rfl, ?_⟩)) | trace_state)
                        · (intro h; clear S a; intro a S; (try simp only [decide_eq_true_eq, decide_eq_false_iff_not, beq_iff_eq, bne_iff_ne, bne_eq_false_iff_eq, beq_eq_false_iff_ne, ne_eq, Bool.not_eq_true', Bool.not_eq_false', Bool.not_eq_true, Bool.not_eq_false, Bool.not_true, Bool.not_false, Int.ofNat_lt, Int.ofNat_le, Nat.not_lt, Nat.not_le] at h))
                          (refine wpl_skip S rfl rfl rfl rfl rfl ?_; clear S a; intro a S)
                          (refine wpl_skip S rfl rfl rfl rfl rfl ?_; clear S a; intro a S)
                          (refine wpl_skip S rfl rfl rfl rfl rfl ?_; clear S a; intro a S)
                          (refine wpl_skip S rfl rfl rfl rfl rfl ?_; clear S a; intro a S)
                          (refine wpl_skip S rfl rfl rfl rfl rfl ?_; clear S a; intro a S)
                          first | (refine wpl_v S rfl rfl rfl (sv_pure S rfl) ?_; clear S a; intro a S) | (refine wpl_v S rfl rfl rfl (sv_pickB S rfl rfl rfl rfl) ?_; clear S a; intro a S)
                          (refine wpl_v S rfl rfl rfl (sv_pure S rfl) ?_; clear S a; intro a S)
                          (refine wpl_skip S rfl rfl rfl rfl rfl ?_; clear S a; intro a S)
                          (refine wpl_skip S rfl rfl rfl rfl rfl ?_; clear S a; intro a S)
                          (refine wpl_skip S rfl rfl rfl rfl rfl ?_; clear S a; intro a S)
                          (refine wpl_skip S rfl rfl rfl rfl rfl ?_; clear S a; intro a S)
                          first | (refine wpl_v S rfl rfl rfl (sv_pure S rfl) ?_; clear S a; intro a S) | (refine wpl_v S rfl rfl rfl (sv_pickB S rfl rfl rfl rfl) ?_; clear S a; intro a S)
                          refine wpList_nil ?_
                          (refine hKq24 _ _ ?_; try (clear hKq24 Kq24))
                          refine wpc_true S rfl ?_
                          refine wp_exit ?_
                          (refine hKq20 _ _ ?_; try (clear hKq20 Kq20))
                          refine wp_region_lit ?_
                          (refine wpl_v S rfl rfl rfl (sv_pure S rfl) ?_; clear S a; intro a S)
                          (refine wpl_v S rfl rfl rfl (sv_add S rfl rfl rfl (by first | omega | (simp only [List.length_append, List.length_cons, List.length_nil]; omega))) ?_; clear S a; intro a S)
                          (refine wpl_v S rfl rfl rfl (sv_pure S rfl) ?_; clear S a; intro a S)
                          refine wpList_nil ?_
                          change ∃ m', _ ∧ _
                          (rw [← hao] at S; first | (have h9 := hF11; replace S := S.drop1.drop1.drop1; refine ⟨i - (k + 1), by omega, k + 1, F11, G10, σ9, rfl, by omega, fun b o h => hF11 _ _ (hF10 _ _ (hF9 _ _ (hF68 _ _ (hF6 _ _ h)))), (hQ10.mono hF11).le (by omega), hfac9, ?_⟩; refine S.keep ?_; repeat (first | exact trivial | refine ⟨rfl, ?_⟩)) | (have h9 := hF10; replace S := S.drop1.drop1.drop1; refine ⟨i - (k + 1), by omega, k + 1, F10, G10, σ9, rfl, by omega, fun b o h => hF10 _ _ (hF9 _ _ (hF68 _ _ (hF6 _ _ h))), hQ10.le (by omega), hfac9, ?_⟩; refine S.keep ?_; repeat (first | exact trivial | refine ⟨rfl, ?_⟩)) | (replace S := S.drop1.drop1; refine ⟨i - (k + 1), by omega, k + 1, F8, GG6, σ6, rfl, by omega, fun b o h => hF68 _ _ (hF6 _ _ h), (hQ6.mono hF68).le (by omega), hfac6, ?_⟩; refine S.keep ?_; repeat (first | exact trivial | refine ⟨rfl, ?_⟩)) | trace_state)
                      · (skip; (try simp only [decide_eq_true_eq, decide_eq_false_iff_not, beq_iff_eq, bne_iff_ne, bne_eq_false_iff_eq, beq_eq_false_iff_ne, ne_eq, Bool.not_eq_true', Bool.not_eq_false', Bool.not_eq_true, Bool.not_eq_false, Bool.not_true, Bool.not_false, Int.ofNat_lt, Int.ofNat_le, Nat.not_lt, Nat.not_le] at h))
                        refine wp_exit ?_
                        (refine hKq16 _ _ ?_; try (clear hKq16 Kq16))
                        refine wp_region_lit ?_
                        (refine wpl_v S rfl rfl rfl (sv_pure S rfl) ?_; clear S a; intro a S)
                        (refine wpl_v S rfl rfl rfl (sv_add S rfl rfl rfl (by first | omega | (simp only [List.length_append, List.length_cons, List.length_nil]; omega))) ?_; clear S a; intro a S)
                        (refine wpl_v S rfl rfl rfl (sv_pure S rfl) ?_; clear S a; intro a S)
                        refine wpList_nil ?_
                        change ∃ m', _ ∧ _
                        (refine ⟨l.len - (i + 1), by omega, i + 1, F6, GG6, σ6, rfl, by omega, fun b o h => hF6 _ _ (hF5 _ _ h), hQ6.le (by omega), hfac6, ?_⟩; refine S.keep ?_; repeat (first | exact trivial | refine ⟨rfl, ?_⟩))
                  · (skip; (try simp only [decide_eq_true_eq, decide_eq_false_iff_not, beq_iff_eq, bne_iff_ne, bne_eq_false_iff_eq, beq_eq_false_iff_ne, ne_eq, Bool.not_eq_true', Bool.not_eq_false', Bool.not_eq_true, Bool.not_eq_false, Bool.not_true, Bool.not_false, Int.ofNat_lt, Int.ofNat_le, Nat.not_lt, Nat.not_le] at h))
                    refine wp_exit ?_
                    (refine hKq12 _ _ ?_; try (clear hKq12 Kq12))
                    (refine wp_seq_k ?_; intro Kq16 hKq16)
                    refine wp_region_lit ?_
                    (refine wpl_v S rfl rfl rfl (sv_pure S rfl) ?_; clear S a; intro a S)
                    refine wpList_nil ?_
                    (refine hKq16 _ _ ?_; try (clear hKq16 Kq16))
                    refine wp_ret ?_
                    refine fin_ret S (results1 Try.results5 (RV.tmp S rfl)) ?_
                    (first | rfl | trace_state)
      · (intro h; clear S a; intro a S; (try simp only [decide_eq_true_eq, decide_eq_false_iff_not, beq_iff_eq, bne_iff_ne, bne_eq_false_iff_eq, beq_eq_false_iff_ne, ne_eq, Bool.not_eq_true', Bool.not_eq_false', Bool.not_eq_true, Bool.not_eq_false, Bool.not_true, Bool.not_false, Int.ofNat_lt, Int.ofNat_le, Nat.not_lt, Nat.not_le] at h))
        (refine wpl_skip S rfl rfl rfl rfl rfl ?_; clear S a; intro a S)
        (refine wpl_skip S rfl rfl rfl rfl rfl ?_; clear S a; intro a S)
        first | (refine wpl_v S rfl rfl rfl (sv_pure S rfl) ?_; clear S a; intro a S) | (refine wpl_v S rfl rfl rfl (sv_pickB S rfl rfl rfl rfl) ?_; clear S a; intro a S)
        refine wpList_nil ?_
        (refine hKq3 _ _ ?_; try (clear hKq3 Kq3))
        refine wpc_true S rfl ?_
        (refine wp_seq_k ?_; intro Kq4 hKq4)
        refine wp_region_lit ?_
        (refine wpl_call0 S rfl rfl rfl rfl rfl rfl (worksCt F) rfl ?_; clear S a; intro v a w hv S; subst hv)
        (refine wpl_v S rfl rfl rfl (sv_pure S rfl) ?_; clear S a; intro a S)
        refine wpList_nil ?_
        (refine hKq4 _ _ ?_; try (clear hKq4 Kq4))
        refine wp_ret ?_
        refine fin_ret S (results1 Try.results5 (RV.tmp S rfl)) ?_
        (first | rfl | trace_state)
    · (intro h; clear S a; intro a S; (try simp only [decide_eq_true_eq, decide_eq_false_iff_not, beq_iff_eq, bne_iff_ne, bne_eq_false_iff_eq, beq_eq_false_iff_ne, ne_eq, Bool.not_eq_true', Bool.not_eq_false', Bool.not_eq_true, Bool.not_eq_false, Bool.not_true, Bool.not_false, Int.ofNat_lt, Int.ofNat_le, Nat.not_lt, Nat.not_le] at h))
      (refine wpl_skip S rfl rfl rfl rfl rfl ?_; clear S a; intro a S)
      first | (refine wpl_v S rfl rfl rfl (sv_pure S rfl) ?_; clear S a; intro a S) | (refine wpl_v S rfl rfl rfl (sv_pickB S rfl rfl rfl rfl) ?_; clear S a; intro a S)
      (refine wpl_v S rfl rfl rfl (sv_pure S rfl) ?_; clear S a; intro a S)
      (refine wpl_skip S rfl rfl rfl rfl rfl ?_; clear S a; intro a S)
      (refine wpl_skip S rfl rfl rfl rfl rfl ?_; clear S a; intro a S)
      (refine wpl_skip S rfl rfl rfl rfl rfl ?_; clear S a; intro a S)
      first | (refine wpl_v S rfl rfl rfl (sv_pure S rfl) ?_; clear S a; intro a S) | (refine wpl_v S rfl rfl rfl (sv_pickB S rfl rfl rfl rfl) ?_; clear S a; intro a S)
      refine wpList_nil ?_
      (refine hKq3 _ _ ?_; try (clear hKq3 Kq3))
      refine wpc_true S rfl ?_
      (refine wp_seq_k ?_; intro Kq4 hKq4)
      refine wp_region_lit ?_
      (refine wpl_call0 S rfl rfl rfl rfl rfl rfl (worksCt F) rfl ?_; clear S a; intro v a w hv S; subst hv)
      (refine wpl_v S rfl rfl rfl (sv_pure S rfl) ?_; clear S a; intro a S)
      refine wpList_nil ?_
      (refine hKq4 _ _ ?_; try (clear hKq4 Kq4))
      refine wp_ret ?_
      refine fin_ret S (results1 Try.results5 (RV.tmp S rfl)) ?_
      (first | rfl | trace_state)
  · (intro h; clear S a; intro a S; (try simp only [decide_eq_true_eq, decide_eq_false_iff_not, beq_iff_eq, bne_iff_ne, bne_eq_false_iff_eq, beq_eq_false_iff_ne, ne_eq, Bool.not_eq_true', Bool.not_eq_false', Bool.not_eq_true, Bool.not_eq_false, Bool.not_true, Bool.not_false, Int.ofNat_lt, Int.ofNat_le, Nat.not_lt, Nat.not_le] at h))
    (refine wpl_skip S rfl rfl rfl rfl rfl ?_; clear S a; intro a S)
    first | (refine wpl_v S rfl rfl rfl (sv_pure S rfl) ?_; clear S a; intro a S) | (refine wpl_v S rfl rfl rfl (sv_pickB S rfl rfl rfl rfl) ?_; clear S a; intro a S)
    (refine wpl_v S rfl rfl rfl (sv_pure S rfl) ?_; clear S a; intro a S)
    (refine wpl_skip S rfl rfl rfl rfl rfl ?_; clear S a; intro a S)
    (refine wpl_skip S rfl rfl rfl rfl rfl ?_; clear S a; intro a S)
    first | (refine wpl_v S rfl rfl rfl (sv_pure S rfl) ?_; clear S a; intro a S) | (refine wpl_v S rfl rfl rfl (sv_pickB S rfl rfl rfl rfl) ?_; clear S a; intro a S)
    (refine wpl_v S rfl rfl rfl (sv_pure S rfl) ?_; clear S a; intro a S)
    (refine wpl_skip S rfl rfl rfl rfl rfl ?_; clear S a; intro a S)
    (refine wpl_skip S rfl rfl rfl rfl rfl ?_; clear S a; intro a S)
    (refine wpl_skip S rfl rfl rfl rfl rfl ?_; clear S a; intro a S)
    first | (refine wpl_v S rfl rfl rfl (sv_pure S rfl) ?_; clear S a; intro a S) | (refine wpl_v S rfl rfl rfl (sv_pickB S rfl rfl rfl rfl) ?_; clear S a; intro a S)
    refine wpList_nil ?_
    (refine hKq3 _ _ ?_; try (clear hKq3 Kq3))
    refine wpc_true S rfl ?_
    (refine wp_seq_k ?_; intro Kq4 hKq4)
    refine wp_region_lit ?_
    (refine wpl_call0 S rfl rfl rfl rfl rfl rfl (worksCt F) rfl ?_; clear S a; intro v a w hv S; subst hv)
    (refine wpl_v S rfl rfl rfl (sv_pure S rfl) ?_; clear S a; intro a S)
    refine wpList_nil ?_
    (refine hKq4 _ _ ?_; try (clear hKq4 Kq4))
    refine wp_ret ?_
    refine fin_ret S (results1 Try.results5 (RV.tmp S rfl)) ?_
    (first | rfl | trace_state)
end Go.Proofs.Ytcjnmehpkcblfaa
