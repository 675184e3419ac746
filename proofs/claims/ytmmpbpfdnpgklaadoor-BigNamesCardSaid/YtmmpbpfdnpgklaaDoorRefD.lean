/- The walks of the document's answer for layer 1: Of, Text, Check, Pair. -/
import Derived.Test.YtmmpbpfdnpgklaaDoorRefC
namespace Go.Proofs.YtmmpbpfdnpgklaaDoor
open Go Go.Wk Go.Num
set_option linter.unusedSimpArgs false
set_option linter.unusedVariables false
attribute [local irreducible] Go.wpList Go.Code.wp Go.wpStill Go.Wk.wpPre Go.bodyPost Go.Calls Go.Wk.Ct Go.Wk.OwnS
attribute [local irreducible] Go.Wk.wpG Go.Wk.wpM

theorem dig_dec {l : List UInt8} (h : l.all isD = true) {j : Nat} (hj : j < l.length) : dig 10 (decV l) j = dv (l.getD (l.length - 1 - j) 0) := by
  have h1 := decV_div h (e := l.length - j) (by omega)
  rw [show l.length - (l.length - j) = j by omega] at h1
  unfold dig
  rw [h1, show l.length - j = (l.length - 1 - j) + 1 by omega, decV_take_succ (by omega)]
  have := dv_lt (all_getD h (k := l.length - 1 - j) (by omega))
  omega
theorem body_getD {s : List UInt8} {f i : Nat} (hf : f = if negS s = true then 1 else 0) (hi : f ≤ i) : s.getD i 0 = (bodyS s).getD (i - f) 0 := by
  have h := s_of_body s
  by_cases hn : negS s = true
  · rw [if_pos hn] at hf h
    subst hf
    conv => lhs; rw [h]
    obtain ⟨k, rfl⟩ : ∃ k, i = k + 1 := ⟨i - 1, by omega⟩
    simp
  · rw [if_neg hn] at hf h
    subst hf
    conv => lhs; rw [h]
    simp
theorem body_length (s : List UInt8) : s.length = (bodyS s).length + if negS s = true then 1 else 0 := by
  have h := s_of_body s
  conv => lhs; rw [h]
  by_cases hn : negS s = true <;> simp [hn]
theorem neg_iff {s : List UInt8} (h : s ≠ []) : negS s = decide ((s.getD 0 0).toNat = 45) := by
  unfold negS
  rw [head_getD h]
  have := u8_eq (c := s.getD 0 0) (n := 45) (by decide)
  simp only [Option.some.injEq]
  exact decide_eq_decide.2 this
set_option maxHeartbeats 2000000 in
theorem rofCt (s : List UInt8) (F : Heap) (hck : checkS s = 0) : Ct Tryd.prog 27 [.string (bs s)] F [] (fun F' _ u => Num10 F' u (valS s)) := by
  obtain ⟨hall, hlen, hne⟩ := check_digits hck
  have hbl := body_length s
  have hs0 : s ≠ [] := fun e => hne (by rw [e]; rfl)
  have hpos : 0 < (bodyS s).length := List.length_pos_iff.2 hne
  have hn0 := neg_iff hs0
  have hslt : (decV (bodyS s)) < 10 ^ (bodyS s).length := decV_lt _ hall
  generalize hf : (if negS s = true then 1 else 0 : Nat) = f at hbl
  have hf1 : f ≤ 1 := by rw [← hf]; split <;> omega
  refine Ct.enter Tryd.func27 rfl Tryd.ntmps27 rfl fun w0 a S => ?_
  (refine wp_seq_k ?_; intro Kq1 hKq1)
  refine wp_region_lit ?_
  (refine wpl_alloc S rfl rfl rfl rfl ?_; clear S a; intro b2 a w S)
  refine wpList_nil ?_
  (refine hKq1 _ _ ?_; try (clear hKq1 Kq1))
  (refine wp_seq_k ?_; intro Kq2 hKq2)
  refine wp_region_lit ?_
  (refine wpl_v S rfl rfl rfl (sv_build S rfl rfl rfl) ?_; clear S a; intro a S)
  (refine wpl_alloc S rfl rfl rfl rfl ?_; clear S a; intro b3 a w S)
  (refine wpl_storeO S rfl rfl rfl rfl rfl (by rfl) (by simp [Value.cells, Value.oneCell', splice]) (by rfl) ?_; clear S; intro w S)
  refine wpList_nil ?_
  (refine hKq2 _ _ ?_; try (clear hKq2 Kq2))
  (refine wp_seq_k ?_; intro Kq3 hKq3)
  refine wp_region_lit ?_
  (refine wpl_v S rfl rfl rfl (sv_pure S rfl) ?_; clear S a; intro a S)
  refine wpList_nil ?_
  (refine hKq3 _ _ ?_; try (clear hKq3 Kq3))
  (refine wp_seq_k ?_; intro Kq4 hKq4)
  (refine wp_seq_k ?_; intro Kq5 hKq5)
  refine wp_region_lit ?_
  (refine wpl_v S rfl rfl rfl (sv_pure S rfl) ?_; clear S a; intro a S)
  (refine wpl_v S rfl rfl rfl (sv_indexSN (i := 0) S rfl rfl rfl (by omega)) ?_; clear S a; intro a S)
  (refine wpl_v S rfl rfl rfl (sv_pure S rfl) ?_; clear S a; intro a S)
  refine wpList_nil ?_
  (refine hKq5 _ _ ?_; try (clear hKq5 Kq5))
  refine wpc_split S rfl (fun h => ?_) (fun h => ?_)
  · (skip; (try simp only [decide_eq_true_eq, decide_eq_false_iff_not, beq_iff_eq, bne_iff_ne, bne_eq_false_iff_eq, beq_eq_false_iff_ne, ne_eq, Bool.not_eq_true', Bool.not_eq_false', Bool.not_eq_true, Bool.not_eq_false, Bool.not_true, Bool.not_false, Int.ofNat_lt, Int.ofNat_le, Nat.not_lt, Nat.not_le] at h))
    (refine wp_seq_k ?_; intro Kq6 hKq6)
    refine wp_region_lit ?_
    (refine wpl_v S rfl rfl rfl (sv_fieldAddr S rfl rfl rfl inferInstance rfl) ?_; clear S a; intro a S)
    (refine wpl_store1 S rfl rfl rfl rfl rfl rfl (by first | (simp; done) | (simp [Value.cells]; done)) ?_; clear S; intro w S)
    refine wpList_nil ?_
    (refine hKq6 _ _ ?_; try (clear hKq6 Kq6))
    refine wp_region_lit ?_
    (refine wpl_v S rfl rfl rfl (sv_pure S rfl) ?_; clear S a; intro a S)
    refine wpList_nil ?_
    (refine hKq4 _ _ ?_; try (clear hKq4 Kq4))
    (refine wp_seq_k ?_; intro Kq7 hKq7)
    (refine wp_seq_k ?_; intro Kq8 hKq8)
    (have hS2 : St 31 [(0, .string (bs s)), (2, .pointer (some ⟨b2, 0, none⟩)), (3, .pointer (some ⟨b3, 0, none⟩)), (4, .int .i64 (f : Int))] w0 F [] F [[(b3, .cells ⟨[.bool (negS s), .slice none 0 0]⟩ 38 (0, 0))], [(b2, .cells ⟨[.bool false, .slice none 0 0]⟩ 38 (0, 0))]] a w := (by first | (have h45 : negS s = true := (by rw [hn0]; exact decide_eq_true (by omega)); have hfe : f = 1 := (by rw [← hf, h45]; rfl); rw [h45, hfe]; exact S.keep ⟨rfl, rfl, rfl, rfl, trivial⟩) | (have h45 : negS s = false := (by rw [hn0]; exact decide_eq_false (by omega)); have hfe : f = 0 := (by rw [← hf, h45]; rfl); rw [h45, hfe]; exact S.keep ⟨rfl, rfl, rfl, rfl, trivial⟩)); clear S; have S := hS2; clear hS2)
    refine wp_region_lit ?_
    (refine wpl_v S rfl rfl rfl (sv_pure S rfl) ?_; clear S a; intro a S)
    (refine wpl_v S rfl rfl rfl (sv_lenS S rfl rfl) ?_; clear S a; intro a S)
    (refine wpl_v S rfl rfl rfl (sv_sub S rfl rfl rfl (by first | omega | (simp only [List.length_append, List.length_cons, List.length_nil]; omega))) ?_; clear S a; intro a S)
    (refine wpl_v S rfl rfl rfl (sv_pure S rfl) ?_; clear S a; intro a S)
    refine wpList_nil ?_
    (refine hKq8 _ _ ?_; try (clear hKq8 Kq8))
    refine wp_block ?_
    refine wpc_loop (fun m a w' => ∃ (e : Nat) (v : Value) (g : Grp), m = e ∧ e ≤ (bodyS s).length ∧ OwnS 3 1 v ((bodyS s).length - e) (cel ((bodyS s).length - e) (dig 10 (decV (bodyS s)))) g ∧ St 31 [(0, .string (bs s)), (2, .pointer (some ⟨b2, 0, none⟩)), (3, .pointer (some ⟨b3, 0, none⟩)), (4, .int .i64 (f : Int)), (5, .int .i64 ((e + f : Nat) - 1 : Int))] w0 F [] F [g, [(b3, .cells ⟨[.bool (negS s), v]⟩ 38 (0, 0))], [(b2, .cells ⟨[.bool false, .slice none 0 0]⟩ 38 (0, 0))]] a w') ?_ ?_
    · (refine ⟨(bodyS s).length, (bodyS s).length, _, _, rfl, Nat.le_refl _, (by rw [Nat.sub_self]; exact OwnS.nil _ _), ?_⟩; replace S := S.nilg; refine S.keep ⟨rfl, rfl, rfl, rfl, reg (by omega), trivial⟩)
    · (clear S; rintro m a w ⟨e, v, g, rfl, he, hown, S⟩)
      (refine wp_seq_k ?_; intro Kq9 hKq9)
      (refine wp_seq_k ?_; intro Kq10 hKq10)
      refine wp_region_lit ?_
      (refine wpl_v S rfl rfl rfl (sv_pure S rfl) ?_; clear S a; intro a S)
      (refine wpl_v S rfl rfl rfl (sv_pure S rfl) ?_; clear S a; intro a S)
      (refine wpl_v S rfl rfl rfl (sv_pure S rfl) ?_; clear S a; intro a S)
      refine wpList_nil ?_
      (refine hKq10 _ _ ?_; try (clear hKq10 Kq10))
      refine wpc_split S rfl (fun h => ?_) (fun h => ?_)
      · (skip; (try simp only [decide_eq_true_eq, decide_eq_false_iff_not, beq_iff_eq, bne_iff_ne, bne_eq_false_iff_eq, beq_eq_false_iff_ne, ne_eq, Bool.not_eq_true', Bool.not_eq_false', Bool.not_eq_true, Bool.not_eq_false, Bool.not_true, Bool.not_false, Int.ofNat_lt, Int.ofNat_le, Nat.not_lt, Nat.not_le] at h))
        refine wp_skip ?_
        (refine hKq9 _ _ ?_; try (clear hKq9 Kq9))
        (refine wp_seq_k ?_; intro Kq11 hKq11)
        refine wp_block ?_
        (obtain ⟨k, rfl⟩ : ∃ k, m = k + 1 := ⟨m - 1, by omega⟩; replace S := S.keep (L' := [(0, .string (bs s)), (2, .pointer (some ⟨b2, 0, none⟩)), (3, .pointer (some ⟨b3, 0, none⟩)), (4, .int .i64 (f : Int)), (5, .int .i64 ((k + f : Nat) : Int))]) ⟨rfl, rfl, rfl, rfl, reg (by omega), trivial⟩; have hgd := body_getD (s := s) (i := k + f) hf.symm (by omega); rw [Nat.add_sub_cancel] at hgd; have hisd := all_getD hall (k := k) (by omega); have hdv := dv_cast hisd; have hdl := dv_lt hisd; have hisd2 := (isD_iff _).1 hisd)
        (refine wpc_mixM [0, 1, 2, 3, 4, 5, 6, 9] [1] [10] (.one 0 (.one 1 (.one 2 (.one 3 (.one 4 (.one 5 (.one 6 (.one 7 (.one 8 (.one 9 (.one 10 .nil))))))))))) [b3] S mixed (by kernel_rfl) ?_; clear S; intro w S)
        (refine wpm_v S rfl rfl rfl (want_none _ rfl) rfl rfl (fun w' S => sv_fieldAddr S rfl rfl rfl inferInstance rfl) ?_; clear S a; intro a S)
        first | (refine wpm_lateO b3 S rfl rfl rfl (want_none _ rfl) rfl rfl (fun w' S => sv_loadO S rfl rfl (by rfl)) ?_; clear S a; intro a S) | (refine wpm_lateO b3 S rfl rfl rfl (want_none _ rfl) rfl rfl (fun w' S => sv_loadAO S rfl rfl (by rfl)) ?_; clear S a; intro a S)
        (refine wpm_v S rfl rfl rfl (want_none _ rfl) rfl rfl (fun w' S => sv_pure S rfl) ?_; clear S a; intro a S)
        (refine wpm_v S rfl rfl rfl (want_none _ rfl) rfl rfl (fun w' S => sv_pure S rfl) ?_; clear S a; intro a S)
        (refine wpm_v S rfl rfl rfl (want_none _ rfl) rfl rfl (fun w' S => sv_indexSN (i := k + f) S rfl rfl rfl (by omega)) ?_; clear S a; intro a S)
        (rw [hgd] at S)
        (refine wpm_v S rfl rfl rfl (want_none _ rfl) rfl rfl (fun w' S => sv_sub8 S rfl rfl rfl (by first | omega | (simp only [List.length_append, List.length_cons, List.length_nil]; omega))) ?_; clear S a; intro a S)
        (refine wpm_v S rfl rfl rfl (want_none _ rfl) rfl rfl (fun w' S => sv_conv_i64 S rfl rfl (by first | omega | (simp only [List.length_append, List.length_cons, List.length_nil]; omega))) ?_; clear S a; intro a S)
        refine wpm_eff rfl rfl (fun _ => ⟨fun b o h => S.tr.frz b o (by first | exact h | solve_by_elim), S.has inferInstance, trivial⟩) ?_
        (refine wpl_buildSlice S rfl rfl rfl rfl rfl rfl (by rfl) (by simp [Value.cells, splice, splice]) rfl (by rfl) (by rfl) ?_; clear S a; intro b26 a w hown2 S)
        refine wpList_nil ?_
        refine wpm_eff rfl rfl (fun _ => ⟨fun b o h => S.tr.frz b o (by first | exact h | solve_by_elim), S.has inferInstance, trivial⟩) ?_
        (refine wpl_appendOwn S rfl rfl rfl rfl rfl rfl hown hown2 (by rfl) (by simp [Value.cells, Value.oneCell', splice, splice]) (by omega) (by omega) ?_; clear hown S a; intro v g a w hown S)
        refine wpList_nil ?_
        (refine wpm_v S rfl rfl rfl (want_none _ rfl) rfl rfl (fun w' S => sv_fieldAddr S rfl rfl rfl inferInstance rfl) ?_; clear S a; intro a S)
        refine wpm_eff rfl rfl (fun _ => ⟨fun b o h => S.tr.frz b o (by first | exact h | solve_by_elim), S.has inferInstance, trivial⟩) ?_
        (refine wpl_store1 S rfl rfl rfl rfl rfl hown.oneCell (by simp) ?_; clear S; intro w S)
        refine wpList_nil ?_
        refine wpm_nil (fun h => absurd h (by decide)) ?_
        (refine hKq11 _ _ ?_; try (clear hKq11 Kq11))
        refine wp_region_lit ?_
        (refine wpl_v S rfl rfl rfl (sv_pure S rfl) ?_; clear S a; intro a S)
        (refine wpl_v S rfl rfl rfl (sv_sub S rfl rfl rfl (by first | omega | (simp only [List.length_append, List.length_cons, List.length_nil]; omega))) ?_; clear S a; intro a S)
        (refine wpl_v S rfl rfl rfl (sv_pure S rfl) ?_; clear S a; intro a S)
        refine wpList_nil ?_
        change ∃ m', _ ∧ _
        (refine ⟨k, by omega, k, v, g, rfl, by omega, ?_, ?_⟩; rotate_left 1; (refine S.keep ⟨rfl, rfl, rfl, rfl, reg (by omega), trivial⟩); rw [show (bodyS s).length - k = (bodyS s).length - (k + 1) + 1 by omega]; refine own_snoc hown (congrArg _ ?_); rw [dig_dec hall (by omega), show (bodyS s).length - 1 - ((bodyS s).length - (k + 1)) = k by omega]; exact hdv)
      · (skip; (try simp only [decide_eq_true_eq, decide_eq_false_iff_not, beq_iff_eq, bne_iff_ne, bne_eq_false_iff_eq, beq_eq_false_iff_ne, ne_eq, Bool.not_eq_true', Bool.not_eq_false', Bool.not_eq_true, Bool.not_eq_false, Bool.not_true, Bool.not_false, Int.ofNat_lt, Int.ofNat_le, Nat.not_lt, Nat.not_le] at h))
        refine wp_exit ?_
        (refine hKq7 _ _ ?_; try (clear hKq7 Kq7))
        (refine wp_seq_k ?_; intro Kq11 hKq11)
        (have he0 : m = 0 := (by omega); subst he0; rw [Nat.sub_zero] at hown; obtain ⟨vo, vc, rfl, -, -⟩ := hown.at; replace S := St.freeze (G1 := []) S; simp only [List.nil_append] at S; have hsl := hown.slC F)
        refine wp_region_lit ?_
        first | (refine wpl_v S rfl rfl rfl (sv_loadAO S rfl rfl (by rfl)) ?_; clear S a; intro a S) | (refine wpl_v S rfl rfl rfl (sv_loadAF S rfl rfl (by assumption) (by rfl)) ?_; clear S a; intro a S)
        (refine wpl_callF S rfl rfl rfl rfl rfl rfl (tidyCt (negS s) (decV (bodyS s)) _ _ _ hslt (by omega) hsl) rfl ?_; clear S a; intro u F1 a w hu hF1 S; have hu0 := hu; obtain ⟨pu, rfl, hpu⟩ := hu0; have hpu0 := hpu; obtain ⟨uo, uc, rfl, -, -⟩ := hpu0)
        (refine wpl_storeO S rfl rfl rfl rfl rfl (by rfl) (by simp [Value.cells, Value.oneCell', splice]) (by rfl) ?_; clear S; intro w S)
        refine wpList_nil ?_
        (refine hKq11 _ _ ?_; try (clear hKq11 Kq11))
        refine wp_ret ?_
        refine fin_ret S (results1 Tryd.results27 (RV.cellO S rfl (by rfl))) ?_
        exact hu
  · (skip; (try simp only [decide_eq_true_eq, decide_eq_false_iff_not, beq_iff_eq, bne_iff_ne, bne_eq_false_iff_eq, beq_eq_false_iff_ne, ne_eq, Bool.not_eq_true', Bool.not_eq_false', Bool.not_eq_true, Bool.not_eq_false, Bool.not_true, Bool.not_false, Int.ofNat_lt, Int.ofNat_le, Nat.not_lt, Nat.not_le] at h))
    refine wp_skip ?_
    (refine hKq4 _ _ ?_; try (clear hKq4 Kq4))
    (refine wp_seq_k ?_; intro Kq6 hKq6)
    (refine wp_seq_k ?_; intro Kq7 hKq7)
    (have hS2 : St 31 [(0, .string (bs s)), (2, .pointer (some ⟨b2, 0, none⟩)), (3, .pointer (some ⟨b3, 0, none⟩)), (4, .int .i64 (f : Int))] w0 F [] F [[(b3, .cells ⟨[.bool (negS s), .slice none 0 0]⟩ 38 (0, 0))], [(b2, .cells ⟨[.bool false, .slice none 0 0]⟩ 38 (0, 0))]] a w := (by first | (have h45 : negS s = true := (by rw [hn0]; exact decide_eq_true (by omega)); have hfe : f = 1 := (by rw [← hf, h45]; rfl); rw [h45, hfe]; exact S.keep ⟨rfl, rfl, rfl, rfl, trivial⟩) | (have h45 : negS s = false := (by rw [hn0]; exact decide_eq_false (by omega)); have hfe : f = 0 := (by rw [← hf, h45]; rfl); rw [h45, hfe]; exact S.keep ⟨rfl, rfl, rfl, rfl, trivial⟩)); clear S; have S := hS2; clear hS2)
    refine wp_region_lit ?_
    (refine wpl_v S rfl rfl rfl (sv_pure S rfl) ?_; clear S a; intro a S)
    (refine wpl_v S rfl rfl rfl (sv_lenS S rfl rfl) ?_; clear S a; intro a S)
    (refine wpl_v S rfl rfl rfl (sv_sub S rfl rfl rfl (by first | omega | (simp only [List.length_append, List.length_cons, List.length_nil]; omega))) ?_; clear S a; intro a S)
    (refine wpl_v S rfl rfl rfl (sv_pure S rfl) ?_; clear S a; intro a S)
    refine wpList_nil ?_
    (refine hKq7 _ _ ?_; try (clear hKq7 Kq7))
    refine wp_block ?_
    refine wpc_loop (fun m a w' => ∃ (e : Nat) (v : Value) (g : Grp), m = e ∧ e ≤ (bodyS s).length ∧ OwnS 3 1 v ((bodyS s).length - e) (cel ((bodyS s).length - e) (dig 10 (decV (bodyS s)))) g ∧ St 31 [(0, .string (bs s)), (2, .pointer (some ⟨b2, 0, none⟩)), (3, .pointer (some ⟨b3, 0, none⟩)), (4, .int .i64 (f : Int)), (5, .int .i64 ((e + f : Nat) - 1 : Int))] w0 F [] F [g, [(b3, .cells ⟨[.bool (negS s), v]⟩ 38 (0, 0))], [(b2, .cells ⟨[.bool false, .slice none 0 0]⟩ 38 (0, 0))]] a w') ?_ ?_
    · (refine ⟨(bodyS s).length, (bodyS s).length, _, _, rfl, Nat.le_refl _, (by rw [Nat.sub_self]; exact OwnS.nil _ _), ?_⟩; replace S := S.nilg; refine S.keep ⟨rfl, rfl, rfl, rfl, reg (by omega), trivial⟩)
    · (clear S; rintro m a w ⟨e, v, g, rfl, he, hown, S⟩)
      (refine wp_seq_k ?_; intro Kq8 hKq8)
      (refine wp_seq_k ?_; intro Kq9 hKq9)
      refine wp_region_lit ?_
      (refine wpl_v S rfl rfl rfl (sv_pure S rfl) ?_; clear S a; intro a S)
      (refine wpl_v S rfl rfl rfl (sv_pure S rfl) ?_; clear S a; intro a S)
      (refine wpl_v S rfl rfl rfl (sv_pure S rfl) ?_; clear S a; intro a S)
      refine wpList_nil ?_
      (refine hKq9 _ _ ?_; try (clear hKq9 Kq9))
      refine wpc_split S rfl (fun h => ?_) (fun h => ?_)
      · (skip; (try simp only [decide_eq_true_eq, decide_eq_false_iff_not, beq_iff_eq, bne_iff_ne, bne_eq_false_iff_eq, beq_eq_false_iff_ne, ne_eq, Bool.not_eq_true', Bool.not_eq_false', Bool.not_eq_true, Bool.not_eq_false, Bool.not_true, Bool.not_false, Int.ofNat_lt, Int.ofNat_le, Nat.not_lt, Nat.not_le] at h))
        refine wp_skip ?_
        (refine hKq8 _ _ ?_; try (clear hKq8 Kq8))
        (refine wp_seq_k ?_; intro Kq10 hKq10)
        refine wp_block ?_
        (obtain ⟨k, rfl⟩ : ∃ k, m = k + 1 := ⟨m - 1, by omega⟩; replace S := S.keep (L' := [(0, .string (bs s)), (2, .pointer (some ⟨b2, 0, none⟩)), (3, .pointer (some ⟨b3, 0, none⟩)), (4, .int .i64 (f : Int)), (5, .int .i64 ((k + f : Nat) : Int))]) ⟨rfl, rfl, rfl, rfl, reg (by omega), trivial⟩; have hgd := body_getD (s := s) (i := k + f) hf.symm (by omega); rw [Nat.add_sub_cancel] at hgd; have hisd := all_getD hall (k := k) (by omega); have hdv := dv_cast hisd; have hdl := dv_lt hisd; have hisd2 := (isD_iff _).1 hisd)
        (refine wpc_mixM [0, 1, 2, 3, 4, 5, 6, 9] [1] [10] (.one 0 (.one 1 (.one 2 (.one 3 (.one 4 (.one 5 (.one 6 (.one 7 (.one 8 (.one 9 (.one 10 .nil))))))))))) [b3] S mixed (by kernel_rfl) ?_; clear S; intro w S)
        (refine wpm_v S rfl rfl rfl (want_none _ rfl) rfl rfl (fun w' S => sv_fieldAddr S rfl rfl rfl inferInstance rfl) ?_; clear S a; intro a S)
        first | (refine wpm_lateO b3 S rfl rfl rfl (want_none _ rfl) rfl rfl (fun w' S => sv_loadO S rfl rfl (by rfl)) ?_; clear S a; intro a S) | (refine wpm_lateO b3 S rfl rfl rfl (want_none _ rfl) rfl rfl (fun w' S => sv_loadAO S rfl rfl (by rfl)) ?_; clear S a; intro a S)
        (refine wpm_v S rfl rfl rfl (want_none _ rfl) rfl rfl (fun w' S => sv_pure S rfl) ?_; clear S a; intro a S)
        (refine wpm_v S rfl rfl rfl (want_none _ rfl) rfl rfl (fun w' S => sv_pure S rfl) ?_; clear S a; intro a S)
        (refine wpm_v S rfl rfl rfl (want_none _ rfl) rfl rfl (fun w' S => sv_indexSN (i := k + f) S rfl rfl rfl (by omega)) ?_; clear S a; intro a S)
        (rw [hgd] at S)
        (refine wpm_v S rfl rfl rfl (want_none _ rfl) rfl rfl (fun w' S => sv_sub8 S rfl rfl rfl (by first | omega | (simp only [List.length_append, List.length_cons, List.length_nil]; omega))) ?_; clear S a; intro a S)
        (refine wpm_v S rfl rfl rfl (want_none _ rfl) rfl rfl (fun w' S => sv_conv_i64 S rfl rfl (by first | omega | (simp only [List.length_append, List.length_cons, List.length_nil]; omega))) ?_; clear S a; intro a S)
        refine wpm_eff rfl rfl (fun _ => ⟨fun b o h => S.tr.frz b o (by first | exact h | solve_by_elim), S.has inferInstance, trivial⟩) ?_
        (refine wpl_buildSlice S rfl rfl rfl rfl rfl rfl (by rfl) (by simp [Value.cells, splice, splice]) rfl (by rfl) (by rfl) ?_; clear S a; intro b26 a w hown2 S)
        refine wpList_nil ?_
        refine wpm_eff rfl rfl (fun _ => ⟨fun b o h => S.tr.frz b o (by first | exact h | solve_by_elim), S.has inferInstance, trivial⟩) ?_
        (refine wpl_appendOwn S rfl rfl rfl rfl rfl rfl hown hown2 (by rfl) (by simp [Value.cells, Value.oneCell', splice, splice]) (by omega) (by omega) ?_; clear hown S a; intro v g a w hown S)
        refine wpList_nil ?_
        (refine wpm_v S rfl rfl rfl (want_none _ rfl) rfl rfl (fun w' S => sv_fieldAddr S rfl rfl rfl inferInstance rfl) ?_; clear S a; intro a S)
        refine wpm_eff rfl rfl (fun _ => ⟨fun b o h => S.tr.frz b o (by first | exact h | solve_by_elim), S.has inferInstance, trivial⟩) ?_
        (refine wpl_store1 S rfl rfl rfl rfl rfl hown.oneCell (by simp) ?_; clear S; intro w S)
        refine wpList_nil ?_
        refine wpm_nil (fun h => absurd h (by decide)) ?_
        (refine hKq10 _ _ ?_; try (clear hKq10 Kq10))
        refine wp_region_lit ?_
        (refine wpl_v S rfl rfl rfl (sv_pure S rfl) ?_; clear S a; intro a S)
        (refine wpl_v S rfl rfl rfl (sv_sub S rfl rfl rfl (by first | omega | (simp only [List.length_append, List.length_cons, List.length_nil]; omega))) ?_; clear S a; intro a S)
        (refine wpl_v S rfl rfl rfl (sv_pure S rfl) ?_; clear S a; intro a S)
        refine wpList_nil ?_
        change ∃ m', _ ∧ _
        (refine ⟨k, by omega, k, v, g, rfl, by omega, ?_, ?_⟩; rotate_left 1; (refine S.keep ⟨rfl, rfl, rfl, rfl, reg (by omega), trivial⟩); rw [show (bodyS s).length - k = (bodyS s).length - (k + 1) + 1 by omega]; refine own_snoc hown (congrArg _ ?_); rw [dig_dec hall (by omega), show (bodyS s).length - 1 - ((bodyS s).length - (k + 1)) = k by omega]; exact hdv)
      · (skip; (try simp only [decide_eq_true_eq, decide_eq_false_iff_not, beq_iff_eq, bne_iff_ne, bne_eq_false_iff_eq, beq_eq_false_iff_ne, ne_eq, Bool.not_eq_true', Bool.not_eq_false', Bool.not_eq_true, Bool.not_eq_false, Bool.not_true, Bool.not_false, Int.ofNat_lt, Int.ofNat_le, Nat.not_lt, Nat.not_le] at h))
        refine wp_exit ?_
        (refine hKq6 _ _ ?_; try (clear hKq6 Kq6))
        (refine wp_seq_k ?_; intro Kq10 hKq10)
        (have he0 : m = 0 := (by omega); subst he0; rw [Nat.sub_zero] at hown; obtain ⟨vo, vc, rfl, -, -⟩ := hown.at; replace S := St.freeze (G1 := []) S; simp only [List.nil_append] at S; have hsl := hown.slC F)
        refine wp_region_lit ?_
        first | (refine wpl_v S rfl rfl rfl (sv_loadAO S rfl rfl (by rfl)) ?_; clear S a; intro a S) | (refine wpl_v S rfl rfl rfl (sv_loadAF S rfl rfl (by assumption) (by rfl)) ?_; clear S a; intro a S)
        (refine wpl_callF S rfl rfl rfl rfl rfl rfl (tidyCt (negS s) (decV (bodyS s)) _ _ _ hslt (by omega) hsl) rfl ?_; clear S a; intro u F1 a w hu hF1 S; have hu0 := hu; obtain ⟨pu, rfl, hpu⟩ := hu0; have hpu0 := hpu; obtain ⟨uo, uc, rfl, -, -⟩ := hpu0)
        (refine wpl_storeO S rfl rfl rfl rfl rfl (by rfl) (by simp [Value.cells, Value.oneCell', splice]) (by rfl) ?_; clear S; intro w S)
        refine wpList_nil ?_
        (refine hKq10 _ _ ?_; try (clear hKq10 Kq10))
        refine wp_ret ?_
        refine fin_ret S (results1 Tryd.results27 (RV.cellO S rfl (by rfl))) ?_
        exact hu

theorem dd_nd {N : Nat} (h : N ≠ 0) : (Lib.decDigits N).length = nd 10 N := by
  have h1 : nd 10 N ≤ (Lib.decDigits N).length := nd_le (by have := decV_lt _ (dd_isD N); rwa [dd_val] at this) t2
  have h2 := nd_pos t2 (S := N) (by omega)
  have h3 := dd_len (lt_nd t2 N) (by omega)
  omega
def tx10 (N j : Nat) : List UInt8 := if N / 10 ^ j = 0 then [] else Lib.decDigits (N / 10 ^ j)
theorem tx10_top (N : Nat) : tx10 N (nd 10 N) = [] := by unfold tx10; rw [if_pos (Nat.div_eq_of_lt (lt_nd t2 N))]
theorem tx10_zero {N : Nat} (h : N ≠ 0) : tx10 N 0 = Lib.decDigits N := by unfold tx10; rw [Nat.pow_zero, Nat.div_one, if_neg h]
theorem tx10_step {N k : Nat} (h : k < nd 10 N) : tx10 N k = tx10 N (k + 1) ++ [UInt8.ofNat (48 + dig 10 N k)] := by
  have hN : 0 < N := by
    rcases Nat.eq_zero_or_pos N with e | e
    · subst e; rw [nd_zero] at h; omega
    · exact e
  have h0 : 0 < N / 10 ^ k := Nat.div_pos (Nat.le_trans (Nat.pow_le_pow_right (by decide) (by omega)) (le_pow_nd t2 hN)) (Nat.pow_pos (by decide))
  have e1 : N / 10 ^ (k + 1) = N / 10 ^ k / 10 := by rw [Nat.pow_succ, Nat.div_div_eq_div_mul]
  have e2 : dig 10 N k = N / 10 ^ k % 10 := rfl
  unfold tx10
  rw [if_neg (by omega), e1, e2]
  by_cases h1 : N / 10 ^ k < 10
  · rw [dd_small h1, if_pos (by omega), Nat.mod_eq_of_lt h1]; rfl
  · rw [dd_big h1, if_neg (by omega)]
theorem tx10_len {N k M : Nat} (hM : nd 10 N ≤ M) : (tx10 N k).length ≤ M := by
  unfold tx10
  split
  · simp
  · rename_i h
    have h2 : N / 10 ^ k < 10 ^ nd 10 N := Nat.lt_of_le_of_lt (Nat.div_le_self _ _) (lt_nd t2 N)
    have h3 : nd 10 N ≠ 0 := fun e => by
      rw [e, Nat.pow_zero] at h2; exact h (Nat.lt_one_iff.1 h2)
    exact Nat.le_trans (dd_len h2 h3) hM
def u8s (l : List UInt8) : List Value := l.map fun b => Value.int .u8 b.toNat
theorem ownTx {e : TypeId} {v x : Value} {g : Grp} {p : List UInt8} {N k : Nat} (hown : OwnS e 1 v ((p ++ tx10 N (k + 1)).length + 1) (u8s (p ++ tx10 N (k + 1)) ++ [x]) g) (hk : k < nd 10 N) (hx : x = .int .u8 (48 + ((dig 10 N k : Nat) : Int))) : OwnS e 1 v (p ++ tx10 N k).length (u8s (p ++ tx10 N k)) g := by
  have hd := dig_lt t2 N k
  have e1 : (p ++ tx10 N k).length = (p ++ tx10 N (k + 1)).length + 1 := by rw [tx10_step hk, ← List.append_assoc, List.length_append (bs := [_])]; rfl
  have e2 : u8s (p ++ tx10 N k) = u8s (p ++ tx10 N (k + 1)) ++ [x] := by
    rw [tx10_step hk, ← List.append_assoc, hx]
    unfold u8s
    rw [List.map_append (l₂ := [_])]
    simp only [List.map_cons, List.map_nil]
    rw [UInt8.toNat_ofNat', Nat.mod_eq_of_lt (by omega)]
    rfl
  rw [e1, e2]; exact hown
theorem toZ_self (z : Int) : toZ (decide (z < 0), z.natAbs) = z := by unfold toZ; by_cases h : z < 0 <;> simp [h] <;> omega
theorem showZ_nil {z : Int} (h : nd 10 z.natAbs = 0) : showZ z = ([48], 0) := by
  unfold showZ; rw [nd_eq_zero t2 h]; exact showS_zero _
theorem showZ_long {z : Int} (h0 : nd 10 z.natAbs ≠ 0) (h : 200 < nd 10 z.natAbs) : showZ z = ([], 80) := by
  have hz : z.natAbs ≠ 0 := fun e => h0 (by rw [e, nd_zero])
  unfold showZ showS; rw [if_neg hz, dd_nd hz, if_pos h]
theorem showZ_some {z : Int} (h0 : nd 10 z.natAbs ≠ 0) (h : ¬ 200 < nd 10 z.natAbs) : showZ z = ((if decide (z < 0) = true then [45] else []) ++ tx10 z.natAbs 0, 0) := by
  have hz : z.natAbs ≠ 0 := fun e => h0 (by rw [e, nd_zero])
  unfold showZ showS; rw [if_neg hz, dd_nd hz, if_neg h, tx10_zero hz]

set_option maxHeartbeats 2000000 in
theorem rtextCt (z : Int) (v : Value) (F : Heap) (hz : nd 10 z.natAbs ≤ 1000000) (hv : Num10 F v z) : Ct Tryd.prog 25 [v] F [] (fun _ _ u => u = ansV (showZ z)) := by
  obtain ⟨p, rfl, hp⟩ := hv
  have hp0 := hp
  obtain ⟨ao, ca, rfl, -, -⟩ := hp0
  refine Ct.enter Tryd.func25 rfl Tryd.ntmps25 rfl fun w0 a S => ?_
  (refine wp_seq_k ?_; intro Kq1 hKq1)
  refine wp_region_lit ?_
  (refine wpl_box S rfl rfl rfl rfl rfl ?_; clear S a; intro b1 a w S)
  (refine wpl_v S rfl rfl rfl (sv_pure S rfl) ?_; clear S a; intro a S)
  (refine wpl_v S rfl rfl rfl (sv_pure S rfl) ?_; clear S a; intro a S)
  refine wpList_nil ?_
  (refine hKq1 _ _ ?_; try (clear hKq1 Kq1))
  (refine wp_seq_k ?_; intro Kq2 hKq2)
  refine wp_region_lit ?_
  first | (refine wpl_v S rfl rfl rfl (sv_loadAO S rfl rfl (by rfl)) ?_; clear S a; intro a S) | (refine wpl_v S rfl rfl rfl (sv_loadAF S rfl rfl (by assumption) (by rfl)) ?_; clear S a; intro a S)
  (refine wpl_callF S rfl rfl rfl rfl rfl rfl (tidyCt (decide (z < 0)) z.natAbs _ _ F (lt_nd t2 _) (by omega) hp) rfl ?_; clear S a; intro u F1 a w hu hF1 S; obtain ⟨pu, rfl, hpu⟩ := hu.at; have hpu0 := hpu; obtain ⟨uo, uc, rfl, huc, hupos⟩ := hpu0; rw [toZ_self] at S; generalize hK : nd 10 z.natAbs = K at *; generalize hnb : decide (z < 0) = nb at *)
  (refine wpl_storeO S rfl rfl rfl rfl rfl (by rfl) (by simp [Value.cells, Value.oneCell', splice]) (by rfl) ?_; clear S; intro w S)
  refine wpList_nil ?_
  (refine hKq2 _ _ ?_; try (clear hKq2 Kq2))
  (refine wp_seq_k ?_; intro Kq3 hKq3)
  (refine wp_seq_k ?_; intro Kq4 hKq4)
  refine wp_region_lit ?_
  (refine wpl_v S rfl rfl rfl (sv_fieldAddr S rfl rfl rfl inferInstance rfl) ?_; clear S a; intro a S)
  first | (refine wpl_v S rfl rfl rfl (sv_loadO S rfl rfl (by rfl)) ?_; clear S a; intro a S) | (refine wpl_v S rfl rfl rfl (sv_loadF S rfl rfl (by assumption)) ?_; clear S a; intro a S)
  (refine wpl_v S rfl rfl rfl (sv_lenSl S rfl rfl) ?_; clear S a; intro a S)
  (refine wpl_v S rfl rfl rfl (sv_pure S rfl) ?_; clear S a; intro a S)
  refine wpList_nil ?_
  (refine hKq4 _ _ ?_; try (clear hKq4 Kq4))
  refine wpc_split S rfl (fun h => ?_) (fun h => ?_)
  · (skip; (try simp only [decide_eq_true_eq, decide_eq_false_iff_not, beq_iff_eq, bne_iff_ne, bne_eq_false_iff_eq, beq_eq_false_iff_ne, ne_eq, Bool.not_eq_true', Bool.not_eq_false', Bool.not_eq_true, Bool.not_eq_false, Bool.not_true, Bool.not_false, Int.ofNat_lt, Int.ofNat_le, Nat.not_lt, Nat.not_le] at h))
    (refine wp_seq_k ?_; intro Kq5 hKq5)
    refine wp_region_lit ?_
    (refine wpl_v S rfl rfl rfl (sv_pure S rfl) ?_; clear S a; intro a S)
    (refine wpl_v S rfl rfl rfl (sv_pure S rfl) ?_; clear S a; intro a S)
    refine wpList_nil ?_
    (refine hKq5 _ _ ?_; try (clear hKq5 Kq5))
    refine wp_ret ?_
    refine fin_ret S (results2 Tryd.results25 (RV.tmp S rfl) (RV.tmp S rfl)) ?_
    (first | (rw [showZ_nil (by omega)]; rfl) | (rw [showZ_long (by omega) (by omega)]; rfl) | (rw [showZ_some (by omega) (by omega), hnb, hpre]; rfl))
  · (skip; (try simp only [decide_eq_true_eq, decide_eq_false_iff_not, beq_iff_eq, bne_iff_ne, bne_eq_false_iff_eq, beq_eq_false_iff_ne, ne_eq, Bool.not_eq_true', Bool.not_eq_false', Bool.not_eq_true, Bool.not_eq_false, Bool.not_true, Bool.not_false, Int.ofNat_lt, Int.ofNat_le, Nat.not_lt, Nat.not_le] at h))
    refine wp_skip ?_
    (refine hKq3 _ _ ?_; try (clear hKq3 Kq3))
    (refine wp_seq_k ?_; intro Kq5 hKq5)
    (refine wp_seq_k ?_; intro Kq6 hKq6)
    refine wp_region_lit ?_
    (refine wpl_v S rfl rfl rfl (sv_fieldAddr S rfl rfl rfl inferInstance rfl) ?_; clear S a; intro a S)
    first | (refine wpl_v S rfl rfl rfl (sv_loadO S rfl rfl (by rfl)) ?_; clear S a; intro a S) | (refine wpl_v S rfl rfl rfl (sv_loadF S rfl rfl (by assumption)) ?_; clear S a; intro a S)
    (refine wpl_v S rfl rfl rfl (sv_lenSl S rfl rfl) ?_; clear S a; intro a S)
    (refine wpl_v S rfl rfl rfl (sv_pure S rfl) ?_; clear S a; intro a S)
    refine wpList_nil ?_
    (refine hKq6 _ _ ?_; try (clear hKq6 Kq6))
    refine wpc_split S rfl (fun h => ?_) (fun h => ?_)
    · (skip; (try simp only [decide_eq_true_eq, decide_eq_false_iff_not, beq_iff_eq, bne_iff_ne, bne_eq_false_iff_eq, beq_eq_false_iff_ne, ne_eq, Bool.not_eq_true', Bool.not_eq_false', Bool.not_eq_true, Bool.not_eq_false, Bool.not_true, Bool.not_false, Int.ofNat_lt, Int.ofNat_le, Nat.not_lt, Nat.not_le] at h))
      (refine wp_seq_k ?_; intro Kq7 hKq7)
      refine wp_region_lit ?_
      (refine wpl_v S rfl rfl rfl (sv_pure S rfl) ?_; clear S a; intro a S)
      (refine wpl_v S rfl rfl rfl (sv_pure S rfl) ?_; clear S a; intro a S)
      refine wpList_nil ?_
      (refine hKq7 _ _ ?_; try (clear hKq7 Kq7))
      refine wp_ret ?_
      refine fin_ret S (results2 Tryd.results25 (RV.tmp S rfl) (RV.tmp S rfl)) ?_
      (first | (rw [showZ_nil (by omega)]; rfl) | (rw [showZ_long (by omega) (by omega)]; rfl) | (rw [showZ_some (by omega) (by omega), hnb, hpre]; rfl))
    · (skip; (try simp only [decide_eq_true_eq, decide_eq_false_iff_not, beq_iff_eq, bne_iff_ne, bne_eq_false_iff_eq, beq_eq_false_iff_ne, ne_eq, Bool.not_eq_true', Bool.not_eq_false', Bool.not_eq_true, Bool.not_eq_false, Bool.not_true, Bool.not_false, Int.ofNat_lt, Int.ofNat_le, Nat.not_lt, Nat.not_le] at h))
      refine wp_skip ?_
      (refine hKq5 _ _ ?_; try (clear hKq5 Kq5))
      (refine wp_seq_k ?_; intro Kq7 hKq7)
      refine wp_region_lit ?_
      (refine wpl_v S rfl rfl rfl (sv_pure S rfl) ?_; clear S a; intro a S)
      refine wpList_nil ?_
      (refine hKq7 _ _ ?_; try (clear hKq7 Kq7))
      (refine wp_seq_k ?_; intro Kq8 hKq8)
      (refine wp_seq_k ?_; intro Kq9 hKq9)
      refine wp_region_lit ?_
      (refine wpl_v S rfl rfl rfl (sv_fieldAddr S rfl rfl rfl inferInstance rfl) ?_; clear S a; intro a S)
      first | (refine wpl_v S rfl rfl rfl (sv_loadO S rfl rfl (by rfl)) ?_; clear S a; intro a S) | (refine wpl_v S rfl rfl rfl (sv_loadF S rfl rfl (by assumption)) ?_; clear S a; intro a S)
      refine wpList_nil ?_
      (refine hKq9 _ _ ?_; try (clear hKq9 Kq9))
      refine wpc_split S rfl (fun h => ?_) (fun h => ?_)
      · (skip; (try simp only [decide_eq_true_eq, decide_eq_false_iff_not, beq_iff_eq, bne_iff_ne, bne_eq_false_iff_eq, beq_eq_false_iff_ne, ne_eq, Bool.not_eq_true', Bool.not_eq_false', Bool.not_eq_true, Bool.not_eq_false, Bool.not_true, Bool.not_false, Int.ofNat_lt, Int.ofNat_le, Nat.not_lt, Nat.not_le] at h))
        (have hown := OwnS.nil 5 1; replace S := S.nilg)
        refine wp_region_lit ?_
        (refine wpl_v S rfl rfl rfl (sv_pure S rfl) ?_; clear S a; intro a S)
        (refine wpl_append S rfl rfl rfl rfl rfl rfl rfl rfl rfl rfl rfl (fun _ => rfl) hown (by rfl) (by simp [Value.cells, splice, splice]) (by simp [Value.cells, Value.oneCell', splice, splice]) rfl (by rfl) (by rfl) rfl (by omega) (by omega) ?_; clear hown S a; intro v u g a w hown S)
        (refine wpl_v S rfl rfl rfl (sv_pure S rfl) ?_; clear S a; intro a S)
        refine wpList_nil ?_
        (refine hKq8 _ _ ?_; try (clear hKq8 Kq8))
        (refine wp_seq_k ?_; intro Kq10 hKq10)
        (refine wp_seq_k ?_; intro Kq11 hKq11)
        (obtain ⟨v4, g4, hown, S2⟩ : ∃ v4 g4, OwnS 5 1 v4 (if nb = true then [45] else [] : List UInt8).length (u8s (if nb = true then [45] else [])) g4 ∧ St 41 [(1, .pointer (some ⟨b1, 0, none⟩)), (4, v4)] w0 F [] F1 [g4, [(b1, .cells ⟨[.bool nb, .slice uo K uc]⟩ 38 (0, 0))]] a w := (by first | (refine ⟨v, g, ?_, ?_⟩; rotate_left 1; (focus (refine S.keep ?_; repeat (first | exact trivial | refine ⟨rfl, ?_⟩))); rw [if_pos h]; exact hown) | (replace S := S.nilg; refine ⟨.slice none 0 0, [], ?_, ?_⟩; rotate_left 1; (focus (refine S.keep ?_; repeat (first | exact trivial | refine ⟨rfl, ?_⟩))); rw [if_neg (by rw [h]; simp)]; exact OwnS.nil _ _)); clear S; have S := S2; clear S2; have hpl : (if nb = true then [45] else [] : List UInt8).length ≤ 1 := (by split <;> simp); generalize hpre : (if nb = true then [45] else [] : List UInt8) = pre at *)
        refine wp_region_lit ?_
        (refine wpl_v S rfl rfl rfl (sv_fieldAddr S rfl rfl rfl inferInstance rfl) ?_; clear S a; intro a S)
        first | (refine wpl_v S rfl rfl rfl (sv_loadO S rfl rfl (by rfl)) ?_; clear S a; intro a S) | (refine wpl_v S rfl rfl rfl (sv_loadF S rfl rfl (by assumption)) ?_; clear S a; intro a S)
        (refine wpl_v S rfl rfl rfl (sv_lenSl S rfl rfl) ?_; clear S a; intro a S)
        (refine wpl_v S rfl rfl rfl (sv_sub S rfl rfl rfl (by first | omega | (simp only [List.length_append, List.length_cons, List.length_nil]; omega))) ?_; clear S a; intro a S)
        (refine wpl_v S rfl rfl rfl (sv_pure S rfl) ?_; clear S a; intro a S)
        refine wpList_nil ?_
        (refine hKq11 _ _ ?_; try (clear hKq11 Kq11))
        refine wp_block ?_
        refine wpc_loop (fun m a w' => ∃ (e : Nat) (v : Value) (g : Grp), m = e ∧ e ≤ K ∧ OwnS 5 1 v (pre ++ tx10 z.natAbs e).length (u8s (pre ++ tx10 z.natAbs e)) g ∧ St 41 [(1, .pointer (some ⟨b1, 0, none⟩)), (4, v), (5, .int .i64 ((e : Int) - 1))] w0 F [] F1 [g, [(b1, .cells ⟨[.bool nb, .slice uo K uc]⟩ 38 (0, 0))]] a w') ?_ ?_
        · (refine ⟨K, K, v4, g4, rfl, Nat.le_refl _, ?_, ?_⟩; rotate_left 1; (focus (refine S.keep ?_; repeat (first | exact trivial | refine ⟨rfl, ?_⟩))); rw [← hK, tx10_top, List.append_nil]; exact hown)
        · (clear hown S; rintro m a w ⟨e, v, g, rfl, he, hown, S⟩)
          (refine wp_seq_k ?_; intro Kq12 hKq12)
          (refine wp_seq_k ?_; intro Kq13 hKq13)
          refine wp_region_lit ?_
          (refine wpl_v S rfl rfl rfl (sv_pure S rfl) ?_; clear S a; intro a S)
          (refine wpl_v S rfl rfl rfl (sv_pure S rfl) ?_; clear S a; intro a S)
          refine wpList_nil ?_
          (refine hKq13 _ _ ?_; try (clear hKq13 Kq13))
          refine wpc_split S rfl (fun h => ?_) (fun h => ?_)
          · (skip; (try simp only [decide_eq_true_eq, decide_eq_false_iff_not, beq_iff_eq, bne_iff_ne, bne_eq_false_iff_eq, beq_eq_false_iff_ne, ne_eq, Bool.not_eq_true', Bool.not_eq_false', Bool.not_eq_true, Bool.not_eq_false, Bool.not_true, Bool.not_false, Int.ofNat_lt, Int.ofNat_le, Nat.not_lt, Nat.not_le] at h))
            refine wp_skip ?_
            (refine hKq12 _ _ ?_; try (clear hKq12 Kq12))
            (refine wp_seq_k ?_; intro Kq14 hKq14)
            refine wp_block ?_
            (obtain ⟨k, rfl⟩ : ∃ k, m = k + 1 := ⟨m - 1, by omega⟩; replace S := S.keep (L' := [(1, .pointer (some ⟨b1, 0, none⟩)), (4, v), (5, .int .i64 (k : Int))]) ⟨rfl, rfl, reg (by omega), trivial⟩; obtain ⟨b, off, rfl, hcs⟩ := hupos (by omega); have hce := celN hcs (j := k) (by omega); have hdl := dig_lt t2 z.natAbs k; have htl := tx10_len (N := z.natAbs) (k := k + 1) (M := 200) (by omega); have hal : (pre ++ tx10 z.natAbs (k + 1)).length ≤ 201 := (by rw [List.length_append]; omega))
            refine wp_region_lit ?_
            (refine wpl_v S rfl rfl rfl (sv_pure S rfl) ?_; clear S a; intro a S)
            (refine wpl_v S rfl rfl rfl (sv_fieldAddr S rfl rfl rfl inferInstance rfl) ?_; clear S a; intro a S)
            first | (refine wpl_v S rfl rfl rfl (sv_loadO S rfl rfl (by rfl)) ?_; clear S a; intro a S) | (refine wpl_v S rfl rfl rfl (sv_loadF S rfl rfl (by assumption)) ?_; clear S a; intro a S)
            (refine wpl_v S rfl rfl rfl (sv_pure S rfl) ?_; clear S a; intro a S)
            (refine wpl_v S rfl rfl rfl (sv_indexAddrSl S rfl rfl rfl (by first | omega | (simp only [List.length_append, List.length_cons, List.length_nil]; omega))) ?_; clear S a; intro a S)
            first | (refine wpl_v S rfl rfl rfl (sv_loadO S rfl rfl (by rfl)) ?_; clear S a; intro a S) | (refine wpl_v S rfl rfl rfl (sv_loadF S rfl rfl (by assumption)) ?_; clear S a; intro a S)
            (refine wpl_v S rfl rfl rfl (sv_add S rfl rfl rfl (by first | omega | (simp only [List.length_append, List.length_cons, List.length_nil]; omega))) ?_; clear S a; intro a S)
            first | (refine wpl_v S rfl rfl rfl (sv_conv_u8 S rfl rfl (by first | omega | (simp only [List.length_append, List.length_cons, List.length_nil]; omega))) ?_; clear S a; intro a S) | (refine wpl_v S rfl rfl rfl (sv_conv S rfl rfl) ?_; clear S a; intro a S)
            (refine wpl_append S rfl rfl rfl rfl rfl rfl rfl rfl rfl rfl rfl (fun _ => rfl) hown (by rfl) (by simp [Value.cells, splice, splice]) (by simp [Value.cells, Value.oneCell', splice, splice]) rfl (by rfl) (by rfl) rfl (by omega) (by omega) ?_; clear hown S a; intro v u g a w hown S)
            (refine wpl_v S rfl rfl rfl (sv_pure S rfl) ?_; clear S a; intro a S)
            refine wpList_nil ?_
            (refine hKq14 _ _ ?_; try (clear hKq14 Kq14))
            refine wp_region_lit ?_
            (refine wpl_v S rfl rfl rfl (sv_pure S rfl) ?_; clear S a; intro a S)
            (refine wpl_v S rfl rfl rfl (sv_sub S rfl rfl rfl (by first | omega | (simp only [List.length_append, List.length_cons, List.length_nil]; omega))) ?_; clear S a; intro a S)
            (refine wpl_v S rfl rfl rfl (sv_pure S rfl) ?_; clear S a; intro a S)
            refine wpList_nil ?_
            change ∃ m', _ ∧ _
            (refine ⟨k, by omega, k, v, g, rfl, by omega, ownTx hown (by omega) rfl, ?_⟩; refine S.keep ⟨rfl, rfl, reg (by omega), trivial⟩)
          · (skip; (try simp only [decide_eq_true_eq, decide_eq_false_iff_not, beq_iff_eq, bne_iff_ne, bne_eq_false_iff_eq, beq_eq_false_iff_ne, ne_eq, Bool.not_eq_true', Bool.not_eq_false', Bool.not_eq_true, Bool.not_eq_false, Bool.not_true, Bool.not_false, Int.ofNat_lt, Int.ofNat_le, Nat.not_lt, Nat.not_le] at h))
            refine wp_exit ?_
            (refine hKq10 _ _ ?_; try (clear hKq10 Kq10))
            (refine wp_seq_k ?_; intro Kq14 hKq14)
            refine wp_region_lit ?_
            (refine wpl_v S rfl rfl rfl (sv_pure S rfl) ?_; clear S a; intro a S)
            (have e0 : m = 0 := (by omega); subst e0; (refine wpl_v S rfl rfl rfl (sv_toStr (l := pre ++ tx10 z.natAbs 0) S rfl rfl hown) ?_; clear S a; intro a S))
            (refine wpl_v S rfl rfl rfl (sv_pure S rfl) ?_; clear S a; intro a S)
            (refine wpl_v S rfl rfl rfl (sv_pure S rfl) ?_; clear S a; intro a S)
            refine wpList_nil ?_
            (refine hKq14 _ _ ?_; try (clear hKq14 Kq14))
            refine wp_ret ?_
            refine fin_ret S (results2 Tryd.results25 (RV.tmp S rfl) (RV.tmp S rfl)) ?_
            (first | (rw [showZ_nil (by omega)]; rfl) | (rw [showZ_long (by omega) (by omega)]; rfl) | (rw [showZ_some (by omega) (by omega), hnb, hpre]; rfl))
      · (skip; (try simp only [decide_eq_true_eq, decide_eq_false_iff_not, beq_iff_eq, bne_iff_ne, bne_eq_false_iff_eq, beq_eq_false_iff_ne, ne_eq, Bool.not_eq_true', Bool.not_eq_false', Bool.not_eq_true, Bool.not_eq_false, Bool.not_true, Bool.not_false, Int.ofNat_lt, Int.ofNat_le, Nat.not_lt, Nat.not_le] at h))
        refine wp_skip ?_
        (refine hKq8 _ _ ?_; try (clear hKq8 Kq8))
        (refine wp_seq_k ?_; intro Kq10 hKq10)
        (refine wp_seq_k ?_; intro Kq11 hKq11)
        (obtain ⟨v4, g4, hown, S2⟩ : ∃ v4 g4, OwnS 5 1 v4 (if nb = true then [45] else [] : List UInt8).length (u8s (if nb = true then [45] else [])) g4 ∧ St 41 [(1, .pointer (some ⟨b1, 0, none⟩)), (4, v4)] w0 F [] F1 [g4, [(b1, .cells ⟨[.bool nb, .slice uo K uc]⟩ 38 (0, 0))]] a w := (by first | (refine ⟨v, g, ?_, ?_⟩; rotate_left 1; (focus (refine S.keep ?_; repeat (first | exact trivial | refine ⟨rfl, ?_⟩))); rw [if_pos h]; exact hown) | (replace S := S.nilg; refine ⟨.slice none 0 0, [], ?_, ?_⟩; rotate_left 1; (focus (refine S.keep ?_; repeat (first | exact trivial | refine ⟨rfl, ?_⟩))); rw [if_neg (by rw [h]; simp)]; exact OwnS.nil _ _)); clear S; have S := S2; clear S2; have hpl : (if nb = true then [45] else [] : List UInt8).length ≤ 1 := (by split <;> simp); generalize hpre : (if nb = true then [45] else [] : List UInt8) = pre at *)
        refine wp_region_lit ?_
        (refine wpl_v S rfl rfl rfl (sv_fieldAddr S rfl rfl rfl inferInstance rfl) ?_; clear S a; intro a S)
        first | (refine wpl_v S rfl rfl rfl (sv_loadO S rfl rfl (by rfl)) ?_; clear S a; intro a S) | (refine wpl_v S rfl rfl rfl (sv_loadF S rfl rfl (by assumption)) ?_; clear S a; intro a S)
        (refine wpl_v S rfl rfl rfl (sv_lenSl S rfl rfl) ?_; clear S a; intro a S)
        (refine wpl_v S rfl rfl rfl (sv_sub S rfl rfl rfl (by first | omega | (simp only [List.length_append, List.length_cons, List.length_nil]; omega))) ?_; clear S a; intro a S)
        (refine wpl_v S rfl rfl rfl (sv_pure S rfl) ?_; clear S a; intro a S)
        refine wpList_nil ?_
        (refine hKq11 _ _ ?_; try (clear hKq11 Kq11))
        refine wp_block ?_
        refine wpc_loop (fun m a w' => ∃ (e : Nat) (v : Value) (g : Grp), m = e ∧ e ≤ K ∧ OwnS 5 1 v (pre ++ tx10 z.natAbs e).length (u8s (pre ++ tx10 z.natAbs e)) g ∧ St 41 [(1, .pointer (some ⟨b1, 0, none⟩)), (4, v), (5, .int .i64 ((e : Int) - 1))] w0 F [] F1 [g, [(b1, .cells ⟨[.bool nb, .slice uo K uc]⟩ 38 (0, 0))]] a w') ?_ ?_
        · (refine ⟨K, K, v4, g4, rfl, Nat.le_refl _, ?_, ?_⟩; rotate_left 1; (focus (refine S.keep ?_; repeat (first | exact trivial | refine ⟨rfl, ?_⟩))); rw [← hK, tx10_top, List.append_nil]; exact hown)
        · (clear hown S; rintro m a w ⟨e, v, g, rfl, he, hown, S⟩)
          (refine wp_seq_k ?_; intro Kq12 hKq12)
          (refine wp_seq_k ?_; intro Kq13 hKq13)
          refine wp_region_lit ?_
          (refine wpl_v S rfl rfl rfl (sv_pure S rfl) ?_; clear S a; intro a S)
          (refine wpl_v S rfl rfl rfl (sv_pure S rfl) ?_; clear S a; intro a S)
          refine wpList_nil ?_
          (refine hKq13 _ _ ?_; try (clear hKq13 Kq13))
          refine wpc_split S rfl (fun h => ?_) (fun h => ?_)
          · (skip; (try simp only [decide_eq_true_eq, decide_eq_false_iff_not, beq_iff_eq, bne_iff_ne, bne_eq_false_iff_eq, beq_eq_false_iff_ne, ne_eq, Bool.not_eq_true', Bool.not_eq_false', Bool.not_eq_true, Bool.not_eq_false, Bool.not_true, Bool.not_false, Int.ofNat_lt, Int.ofNat_le, Nat.not_lt, Nat.not_le] at h))
            refine wp_skip ?_
            (refine hKq12 _ _ ?_; try (clear hKq12 Kq12))
            (refine wp_seq_k ?_; intro Kq14 hKq14)
            refine wp_block ?_
            (obtain ⟨k, rfl⟩ : ∃ k, m = k + 1 := ⟨m - 1, by omega⟩; replace S := S.keep (L' := [(1, .pointer (some ⟨b1, 0, none⟩)), (4, v), (5, .int .i64 (k : Int))]) ⟨rfl, rfl, reg (by omega), trivial⟩; obtain ⟨b, off, rfl, hcs⟩ := hupos (by omega); have hce := celN hcs (j := k) (by omega); have hdl := dig_lt t2 z.natAbs k; have htl := tx10_len (N := z.natAbs) (k := k + 1) (M := 200) (by omega); have hal : (pre ++ tx10 z.natAbs (k + 1)).length ≤ 201 := (by rw [List.length_append]; omega))
            refine wp_region_lit ?_
            (refine wpl_v S rfl rfl rfl (sv_pure S rfl) ?_; clear S a; intro a S)
            (refine wpl_v S rfl rfl rfl (sv_fieldAddr S rfl rfl rfl inferInstance rfl) ?_; clear S a; intro a S)
            first | (refine wpl_v S rfl rfl rfl (sv_loadO S rfl rfl (by rfl)) ?_; clear S a; intro a S) | (refine wpl_v S rfl rfl rfl (sv_loadF S rfl rfl (by assumption)) ?_; clear S a; intro a S)
            (refine wpl_v S rfl rfl rfl (sv_pure S rfl) ?_; clear S a; intro a S)
            (refine wpl_v S rfl rfl rfl (sv_indexAddrSl S rfl rfl rfl (by first | omega | (simp only [List.length_append, List.length_cons, List.length_nil]; omega))) ?_; clear S a; intro a S)
            first | (refine wpl_v S rfl rfl rfl (sv_loadO S rfl rfl (by rfl)) ?_; clear S a; intro a S) | (refine wpl_v S rfl rfl rfl (sv_loadF S rfl rfl (by assumption)) ?_; clear S a; intro a S)
            (refine wpl_v S rfl rfl rfl (sv_add S rfl rfl rfl (by first | omega | (simp only [List.length_append, List.length_cons, List.length_nil]; omega))) ?_; clear S a; intro a S)
            first | (refine wpl_v S rfl rfl rfl (sv_conv_u8 S rfl rfl (by first | omega | (simp only [List.length_append, List.length_cons, List.length_nil]; omega))) ?_; clear S a; intro a S) | (refine wpl_v S rfl rfl rfl (sv_conv S rfl rfl) ?_; clear S a; intro a S)
            (refine wpl_append S rfl rfl rfl rfl rfl rfl rfl rfl rfl rfl rfl (fun _ => rfl) hown (by rfl) (by simp [Value.cells, splice, splice]) (by simp [Value.cells, Value.oneCell', splice, splice]) rfl (by rfl) (by rfl) rfl (by omega) (by omega) ?_; clear hown S a; intro v u g a w hown S)
            (refine wpl_v S rfl rfl rfl (sv_pure S rfl) ?_; clear S a; intro a S)
            refine wpList_nil ?_
            (refine hKq14 _ _ ?_; try (clear hKq14 Kq14))
            refine wp_region_lit ?_
            (refine wpl_v S rfl rfl rfl (sv_pure S rfl) ?_; clear S a; intro a S)
            (refine wpl_v S rfl rfl rfl (sv_sub S rfl rfl rfl (by first | omega | (simp only [List.length_append, List.length_cons, List.length_nil]; omega))) ?_; clear S a; intro a S)
            (refine wpl_v S rfl rfl rfl (sv_pure S rfl) ?_; clear S a; intro a S)
            refine wpList_nil ?_
            change ∃ m', _ ∧ _
            (refine ⟨k, by omega, k, v, g, rfl, by omega, ownTx hown (by omega) rfl, ?_⟩; refine S.keep ⟨rfl, rfl, reg (by omega), trivial⟩)
          · (skip; (try simp only [decide_eq_true_eq, decide_eq_false_iff_not, beq_iff_eq, bne_iff_ne, bne_eq_false_iff_eq, beq_eq_false_iff_ne, ne_eq, Bool.not_eq_true', Bool.not_eq_false', Bool.not_eq_true, Bool.not_eq_false, Bool.not_true, Bool.not_false, Int.ofNat_lt, Int.ofNat_le, Nat.not_lt, Nat.not_le] at h))
            refine wp_exit ?_
            (refine hKq10 _ _ ?_; try (clear hKq10 Kq10))
            (refine wp_seq_k ?_; intro Kq14 hKq14)
            refine wp_region_lit ?_
            (refine wpl_v S rfl rfl rfl (sv_pure S rfl) ?_; clear S a; intro a S)
            (have e0 : m = 0 := (by omega); subst e0; (refine wpl_v S rfl rfl rfl (sv_toStr (l := pre ++ tx10 z.natAbs 0) S rfl rfl hown) ?_; clear S a; intro a S))
            (refine wpl_v S rfl rfl rfl (sv_pure S rfl) ?_; clear S a; intro a S)
            (refine wpl_v S rfl rfl rfl (sv_pure S rfl) ?_; clear S a; intro a S)
            refine wpList_nil ?_
            (refine hKq14 _ _ ?_; try (clear hKq14 Kq14))
            refine wp_ret ?_
            refine fin_ret S (results2 Tryd.results25 (RV.tmp S rfl) (RV.tmp S rfl)) ?_
            (first | (rw [showZ_nil (by omega)]; rfl) | (rw [showZ_long (by omega) (by omega)]; rfl) | (rw [showZ_some (by omega) (by omega), hnb, hpre]; rfl))
end Go.Proofs.YtmmpbpfdnpgklaaDoor
