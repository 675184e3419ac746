/- The walk of the law LexPlaces: places rise; what stands at a token's place begins as the token does. -/
import Derived.Test.YtpgnmnacfilnkaaDoorLxK
import Derived.Test.YtpgnmnacfilnkaaDoorLxW
namespace Go.Proofs.YtpgnmnacfilnkaaDoor
open Go Go.Wk Go.Lx
set_option linter.unusedSimpArgs false
set_option linter.unusedVariables false
attribute [local irreducible] Go.wpList Go.Code.wp Go.wpStill Go.Wk.wpPre Go.bodyPost Go.Calls Go.Wk.Ct Go.Wk.OwnS
attribute [local irreducible] Go.Wk.wpG Go.Wk.wpM

theorem Offs.le_nil {s : List UInt8} {i : Nat} {l : List Tok} (h : Offs s i l) (hi : s.length ≤ i) : l = [] := by
  cases h with
  | nil => rfl
  | cons h1 h2 h3 h4 h5 => omega
theorem Offs.at {s : List UInt8} {i k : Nat} {l : List Tok} (h : Offs s i (l.drop k)) (hk : k < l.length) : ∃ o, i ≤ o ∧ o < s.length ∧ place (1, 1) (s.take o) = ((l[k]'hk).line, (l[k]'hk).col) ∧ First (s.getD o 0) (l[k]'hk).kind (l[k]'hk).text ∧ Offs s (o + 1) (l.drop (k + 1)) := by
  rw [List.drop_eq_getElem_cons hk] at h
  cases h with
  | cons h1 h2 h3 h4 h5 => exact ⟨_, h1, h2, h3, h4, h5⟩
theorem Offs.back {s : List UInt8} {i k o : Nat} {l : List Tok} (hk : k < l.length) (h1 : i ≤ o) (h2 : o < s.length) (h3 : place (1, 1) (s.take o) = ((l[k]'hk).line, (l[k]'hk).col)) (h4 : First (s.getD o 0) (l[k]'hk).kind (l[k]'hk).text) (h5 : Offs s (o + 1) (l.drop (k + 1))) : Offs s i (l.drop k) := by
  rw [List.drop_eq_getElem_cons hk]
  exact .cons h1 h2 h3 h4 h5

set_option maxHeartbeats 4000000 in
theorem lawPlaces (s : List UInt8) (F : Heap) (hF : SpF F) (hs : s.length ≤ 140737488355328) : Ct Tryd.prog 7 [.string (bs s)] F [] (fun _ _ u => u = .bool true) := by
  have htl := tokens_len s
  have hp0 : ∀ j, s.length ≤ 6000 → 0 ≤ (place (1, 1) (s.take j)).1 ∧ 0 ≤ (place (1, 1) (s.take j)).2 ∧ (place (1, 1) (s.take j)).1 ≤ 1000001 ∧ (place (1, 1) (s.take j)).2 ≤ 1000001 := fun j _ => by
    have := place_bd (p := (1, 1)) (by decide) (by decide) (l := s.take j)
    rw [List.length_take] at this
    simp only at this
    omega
  refine Ct.enter Tryd.func7 rfl Tryd.ntmps7 rfl fun w0 a S => ?_
  (refine wp_seq_k ?_; intro Kq1 hKq1)
  refine wp_region_lit ?_
  (refine wpl_v S rfl rfl rfl (sv_pure S rfl) ?_; clear S a; intro a S)
  refine wpList_nil ?_
  (refine hKq1 _ _ ?_; try (clear hKq1 Kq1))
  (refine wp_seq_k ?_; intro Kq2 hKq2)
  (refine wp_seq_k ?_; intro Kq3 hKq3)
  refine wp_region_lit ?_
  ((first | (refine wpl_callF S rfl rfl rfl rfl rfl rfl (worksCt F hF) rfl ?_; clear S a; intro vw F0 a w hv hF0 S; subst hv) | (refine wpl_callF S rfl rfl rfl rfl rfl rfl (worksCt F0 (hF.mono hF0)) rfl ?_; clear S a; intro vw F9 a w hv hF9 S; subst hv)))
  (refine wpl_v S rfl rfl rfl (sv_lit (c := false) (sv_pure S rfl) (by rfl)) ?_; clear S a; intro a S)
  (refine wpl_v S rfl rfl rfl (sv_pure S rfl) ?_; clear S a; intro a S)
  refine wpl_take S rfl rfl rfl ?_
  (refine wpl_v S rfl rfl rfl (sv_pure S rfl) ?_; clear S a; intro a S)
  refine wpl_take S rfl rfl rfl ?_
  (refine wpl_v S rfl rfl rfl (sv_lenS S rfl rfl) ?_; clear S a; intro a S)
  refine wpl_take S rfl rfl rfl ?_
  (refine wpl_v S rfl rfl rfl (sv_pure S rfl) ?_; clear S a; intro a S)
  first | (refine wpl_v S rfl rfl rfl (sv_pure S rfl) ?_; clear S a; intro a S) | (refine wpl_v S rfl rfl rfl (sv_pickB S rfl rfl rfl rfl) ?_; clear S a; intro a S)
  refine wpList_nil ?_
  (refine hKq3 _ _ ?_; try (clear hKq3 Kq3))
  refine wpc_split S rfl (fun h => ?_) (fun h => ?_)
  · (skip; (try simp only [decide_eq_true_eq, decide_eq_false_iff_not, beq_iff_eq, bne_iff_ne, bne_eq_false_iff_eq, beq_eq_false_iff_ne, ne_eq, Bool.not_eq_true', Bool.not_eq_false', Bool.not_eq_true, Bool.not_eq_false, Bool.not_true, Bool.not_false, Int.ofNat_lt, Int.ofNat_le, Nat.not_lt, Nat.not_le] at h))
    (refine wp_seq_k ?_; intro Kq4 hKq4)
    refine wp_region_lit ?_
    ((first | (refine wpl_callF S rfl rfl rfl rfl rfl rfl (worksCt F hF) rfl ?_; clear S a; intro vw F0 a w hv hF0 S; subst hv) | (refine wpl_callF S rfl rfl rfl rfl rfl rfl (worksCt F0 (hF.mono hF0)) rfl ?_; clear S a; intro vw F9 a w hv hF9 S; subst hv)))
    (refine wpl_v S rfl rfl rfl (sv_pure S rfl) ?_; clear S a; intro a S)
    refine wpList_nil ?_
    (refine hKq4 _ _ ?_; try (clear hKq4 Kq4))
    refine wp_ret ?_
    refine fin_ret S (results1 Tryd.results7 (RV.tmp S rfl)) ?_
    (first | rfl | (have hke : k = (tokens s).1.length := (by first | omega | (have h9 := List.drop_eq_nil_iff.1 (hof.le_nil (by omega)); omega)); rw [hke]; simp; done) | (exfalso; first | omega | (have hf := hf0 (by assumption) (by assumption); first | exact absurd (by assumption) hf.1 | exact absurd (congrArg (fun c : UInt8 => ((c.toNat : Nat) : Int)) hf.2) (by assumption))) | trace_state)
  · (skip; (try simp only [decide_eq_true_eq, decide_eq_false_iff_not, beq_iff_eq, bne_iff_ne, bne_eq_false_iff_eq, beq_eq_false_iff_ne, ne_eq, Bool.not_eq_true', Bool.not_eq_false', Bool.not_eq_true, Bool.not_eq_false, Bool.not_true, Bool.not_false, Int.ofNat_lt, Int.ofNat_le, Nat.not_lt, Nat.not_le] at h))
    refine wp_skip ?_
    (refine hKq2 _ _ ?_; try (clear hKq2 Kq2))
    (refine wp_seq_k ?_; intro Kq4 hKq4)
    refine wp_region_lit ?_
    (refine wpl_v S rfl rfl rfl (sv_pure S rfl) ?_; clear S a; intro a S)
    (refine wpl_callF S rfl rfl rfl rfl rfl rfl (tokensCt s F0 (hF.mono hF0) (by omega)) rfl ?_; clear S a; intro v F1 a w hv hF1 S; obtain ⟨vt, rfl, hvt⟩ := hv; obtain ⟨ao, cap, rfl, hcap, hpos⟩ := hvt)
    (refine wpl_v S rfl rfl rfl (sv_pure S rfl) ?_; clear S a; intro a S)
    (refine wpl_v S rfl rfl rfl (sv_pure S rfl) ?_; clear S a; intro a S)
    (refine wpl_v S rfl rfl rfl (sv_pure S rfl) ?_; clear S a; intro a S)
    (refine wpl_v S rfl rfl rfl (sv_pure S rfl) ?_; clear S a; intro a S)
    (refine wpl_alloc S rfl rfl rfl rfl ?_; clear S a; intro b4 a w S)
    (refine wpl_v S rfl rfl rfl (sv_pure S rfl) ?_; clear S a; intro a S)
    (refine wpl_storeO S rfl rfl rfl rfl rfl (by rfl) (by simp [Value.cells, Value.oneCell', splice, tkC]) (by rfl) ?_; clear S; intro w S)
    (refine wpl_v S rfl rfl rfl (sv_pure S rfl) ?_; clear S a; intro a S)
    refine wpList_nil ?_
    (refine hKq4 _ _ ?_; try (clear hKq4 Kq4))
    (refine wp_seq_k ?_; intro Kq5 hKq5)
    (refine wp_seq_k ?_; intro Kq6 hKq6)
    refine wp_region_lit ?_
    (refine wpl_v S rfl rfl rfl (sv_pure S rfl) ?_; clear S a; intro a S)
    (refine wpl_v S rfl rfl rfl (sv_pure S rfl) ?_; clear S a; intro a S)
    refine wpList_nil ?_
    (refine hKq6 _ _ ?_; try (clear hKq6 Kq6))
    refine wpc_split S rfl (fun h => ?_) (fun h => ?_)
    · (skip; (try simp only [decide_eq_true_eq, decide_eq_false_iff_not, beq_iff_eq, bne_iff_ne, bne_eq_false_iff_eq, beq_eq_false_iff_ne, ne_eq, Bool.not_eq_true', Bool.not_eq_false', Bool.not_eq_true, Bool.not_eq_false, Bool.not_true, Bool.not_false, Int.ofNat_lt, Int.ofNat_le, Nat.not_lt, Nat.not_le] at h))
      (refine wp_seq_k ?_; intro Kq7 hKq7)
      refine wp_region_lit ?_
      (refine wpl_v S rfl rfl rfl (sv_pure S rfl) ?_; clear S a; intro a S)
      refine wpList_nil ?_
      (refine hKq7 _ _ ?_; try (clear hKq7 Kq7))
      refine wp_ret ?_
      refine fin_ret S (results1 Tryd.results7 (RV.tmp S rfl)) ?_
      (first | rfl | (have hke : k = (tokens s).1.length := (by first | omega | (have h9 := List.drop_eq_nil_iff.1 (hof.le_nil (by omega)); omega)); rw [hke]; simp; done) | (exfalso; first | omega | (have hf := hf0 (by assumption) (by assumption); first | exact absurd (by assumption) hf.1 | exact absurd (congrArg (fun c : UInt8 => ((c.toNat : Nat) : Int)) hf.2) (by assumption))) | trace_state)
    · (skip; (try simp only [decide_eq_true_eq, decide_eq_false_iff_not, beq_iff_eq, bne_iff_ne, bne_eq_false_iff_eq, beq_eq_false_iff_ne, ne_eq, Bool.not_eq_true', Bool.not_eq_false', Bool.not_eq_true, Bool.not_eq_false, Bool.not_true, Bool.not_false, Int.ofNat_lt, Int.ofNat_le, Nat.not_lt, Nat.not_le] at h))
      refine wp_skip ?_
      (refine hKq5 _ _ ?_; try (clear hKq5 Kq5))
      (refine wp_seq_k ?_; intro Kq7 hKq7)
      refine wp_region_lit ?_
      (refine wpl_v S rfl rfl rfl (sv_build S rfl rfl rfl) ?_; clear S a; intro a S)
      (refine wpl_alloc S rfl rfl rfl rfl ?_; clear S a; intro b6 a w S)
      (refine wpl_storeO S rfl rfl rfl rfl rfl (by rfl) (by simp [Value.cells, Value.oneCell', splice, tkC]) (by rfl) ?_; clear S; intro w S)
      refine wpList_nil ?_
      (refine hKq7 _ _ ?_; try (clear hKq7 Kq7))
      (refine wp_seq_k ?_; intro Kq8 hKq8)
      refine wp_region_lit ?_
      (refine wpl_v S rfl rfl rfl (sv_pure S rfl) ?_; clear S a; intro a S)
      refine wpList_nil ?_
      (refine hKq8 _ _ ?_; try (clear hKq8 Kq8))
      (refine wp_seq_k ?_; intro Kq9 hKq9)
      (refine wp_seq_k ?_; intro Kq10 hKq10)
      refine wp_region_lit ?_
      (refine wpl_v S rfl rfl rfl (sv_pure S rfl) ?_; clear S a; intro a S)
      refine wpList_nil ?_
      (refine hKq10 _ _ ?_; try (clear hKq10 Kq10))
      refine wp_block ?_
      refine wpc_loop (fun m a w' => ∃ (i k : Nat), m = s.length - i ∧ i ≤ s.length ∧ k ≤ (tokens s).1.length ∧ Offs s i ((tokens s).1.drop k) ∧ St 110 [(0, .string (bs s)), (3, .slice ao (tokens s).1.length cap), (6, ptr b6), (7, .int .i64 k), (8, .int .i64 i)] w0 F [] F1 [[(b6, .cells ⟨[.int .i64 (place (1, 1) (s.take i)).1, .int .i64 (place (1, 1) (s.take i)).2]⟩ 24 (0, 0))], [(b4, .cells ⟨[.int .i64 (tokens s).2.1.1, .int .i64 (tokens s).2.1.2]⟩ 24 (0, 0))]] a w') ?_ ?_
      · (refine ⟨s.length, 0, 0, by omega, Nat.zero_le _, Nat.zero_le _, offs_tokens (by omega), ?_⟩; refine S.keep ?_; repeat (first | exact trivial | refine ⟨rfl, ?_⟩))
      · (clear S; rintro m a w ⟨i, k, rfl, hil, hkl, hof, S⟩; have hpi := hp0 i (by omega))
        (refine wp_seq_k ?_; intro Kq11 hKq11)
        (refine wp_seq_k ?_; intro Kq12 hKq12)
        refine wp_region_lit ?_
        (refine wpl_v S rfl rfl rfl (sv_pure S rfl) ?_; clear S a; intro a S)
        (refine wpl_v S rfl rfl rfl (sv_pure S rfl) ?_; clear S a; intro a S)
        (refine wpl_v S rfl rfl rfl (sv_lenS S rfl rfl) ?_; clear S a; intro a S)
        (refine wpl_v S rfl rfl rfl (sv_pure S rfl) ?_; clear S a; intro a S)
        (refine wpl_v S rfl rfl rfl (sv_pure S rfl) ?_; clear S a; intro a S)
        refine wpl_guard S rfl rfl rfl rfl rfl ?_ ?_
        · (intro h S'; clear S; have S := S'; clear S'; (try simp only [decide_eq_true_eq, decide_eq_false_iff_not, beq_iff_eq, bne_iff_ne, bne_eq_false_iff_eq, beq_eq_false_iff_ne, ne_eq, Bool.not_eq_true', Bool.not_eq_false', Bool.not_eq_true, Bool.not_eq_false, Bool.not_true, Bool.not_false, Int.ofNat_lt, Int.ofNat_le, Nat.not_lt, Nat.not_le] at h))
          (refine wpl_v S rfl rfl rfl (sv_pure S rfl) ?_; clear S a; intro a S)
          refine wpl_take S rfl rfl rfl ?_
          (refine wpl_v S rfl rfl rfl (sv_pure S rfl) ?_; clear S a; intro a S)
          refine wpl_take S rfl rfl rfl ?_
          (refine wpl_v S rfl rfl rfl (sv_lenSl S rfl rfl) ?_; clear S a; intro a S)
          refine wpl_take S rfl rfl rfl ?_
          (refine wpl_v S rfl rfl rfl (sv_pure S rfl) ?_; clear S a; intro a S)
          first | (refine wpl_v S rfl rfl rfl (sv_pure S rfl) ?_; clear S a; intro a S) | (refine wpl_v S rfl rfl rfl (sv_pickB S rfl rfl rfl rfl) ?_; clear S a; intro a S)
          refine wpList_nil ?_
          (refine hKq12 _ _ ?_; try (clear hKq12 Kq12))
          refine wpc_split S rfl (fun h => ?_) (fun h => ?_)
          · (skip; (try simp only [decide_eq_true_eq, decide_eq_false_iff_not, beq_iff_eq, bne_iff_ne, bne_eq_false_iff_eq, beq_eq_false_iff_ne, ne_eq, Bool.not_eq_true', Bool.not_eq_false', Bool.not_eq_true, Bool.not_eq_false, Bool.not_true, Bool.not_false, Int.ofNat_lt, Int.ofNat_le, Nat.not_lt, Nat.not_le] at h))
            refine wp_skip ?_
            (refine hKq11 _ _ ?_; try (clear hKq11 Kq11))
            (refine wp_seq_k ?_; intro Kq13 hKq13)
            refine wp_block ?_
            (refine wp_seq_k ?_; intro Kq14 hKq14)
            (refine wp_seq_k ?_; intro Kq15 hKq15)
            (have hkl2 : k < (tokens s).1.length := (by omega); obtain ⟨bt, off, rfl, hcs⟩ := hpos (by omega); obtain ⟨hc0, hc2, hc3, -⟩ := tk_at hcs hkl2; obtain ⟨o, ho1, ho2, ho3, ho4, ho5⟩ := hof.at hkl2)
            (refine wpc_mixM [0, 1, 2, 3, 4, 5, 6] [0, 5] [] (.one 0 (.one 1 (.one 2 (.one 3 (.one 4 (.one 5 (.one 6 .nil))))))) [b6] S mixed (by kernel_rfl) ?_; clear S; intro w S)
            first | (refine wpm_lateO b6 S rfl rfl rfl (want_none _ rfl) rfl rfl (fun w' S => sv_loadO S rfl rfl (by rfl)) ?_; clear S a; intro a S) | (refine wpm_lateO b6 S rfl rfl rfl (want_none _ rfl) rfl rfl (fun w' S => sv_loadAO S rfl rfl (by rfl)) ?_; clear S a; intro a S)
            (refine wpm_v S rfl rfl rfl (want_none _ rfl) rfl rfl (fun w' S => sv_pure S rfl) ?_; clear S a; intro a S)
            (refine wpm_v S rfl rfl rfl (want_none _ rfl) rfl rfl (fun w' S => sv_pure S rfl) ?_; clear S a; intro a S)
            (refine wpm_v S rfl rfl rfl (want_none _ rfl) rfl rfl (fun w' S => sv_indexAddrSl S rfl rfl rfl (by first | omega | (have h9 := List.length_pos_iff.2 (hf0 (by assumption) (by assumption)).1; omega))) ?_; clear S a; intro a S)
            (refine wpm_v S rfl rfl rfl (want_none _ rfl) rfl rfl (fun w' S => sv_fieldAddr S rfl rfl rfl inferInstance rfl) ?_; clear S a; intro a S)
            first | (refine wpm_lateF S rfl rfl rfl (want_none _ rfl) rfl rfl (fun w' S => sv_loadF S rfl rfl (by assumption)) ?_; clear S a; intro a S) | (refine wpm_lateF S rfl rfl rfl (want_none _ rfl) rfl rfl (fun w' S => sv_loadAF S rfl rfl (by assumption) (by rfl)) ?_; clear S a; intro a S)
            (refine wpm_v S rfl rfl rfl (want_none _ rfl) rfl rfl (fun w' S => sv_eqAgg S rfl rfl rfl guardPos (fun w => eqPos _ _ _ _ w)) ?_; clear S a; intro a S)
            refine wpm_nil (fun _ => ⟨fun b o h => S.tr.frz b o (by first | exact h | solve_by_elim), S.has inferInstance, trivial⟩) ?_
            (refine hKq15 _ _ ?_; try (clear hKq15 Kq15))
            refine wpc_split S rfl (fun h => ?_) (fun h => ?_)
            · (skip; (try simp only [decide_eq_true_eq, decide_eq_false_iff_not, beq_iff_eq, bne_iff_ne, bne_eq_false_iff_eq, beq_eq_false_iff_ne, ne_eq, Bool.not_eq_true', Bool.not_eq_false', Bool.not_eq_true, Bool.not_eq_false, Bool.not_true, Bool.not_false, Int.ofNat_lt, Int.ofNat_le, Nat.not_lt, Nat.not_le] at h))
              (refine wp_seq_k ?_; intro Kq16 hKq16)
              (have hpe : place (1, 1) (s.take i) = (((tokens s).1[k]'hkl2).line, ((tokens s).1[k]'hkl2).col) := (by have hq : ((place (1, 1) (s.take i)).1 == ((tokens s).1[k]'hkl2).line && (place (1, 1) (s.take i)).2 == ((tokens s).1[k]'hkl2).col) = true := (by assumption); simp only [Bool.and_eq_true, beq_iff_eq] at hq; exact Prod.ext hq.1 hq.2); have hio : o = i := place_inj (p := (1, 1)) (s := s) (by omega) (by omega) (ho3.trans hpe.symm); rw [hio] at ho4 ho5; have hf7 := ho4.1; have hf9 := ho4.2.1; have hf0 := ho4.2.2)
              refine wp_region_lit ?_
              (refine wpl_v S rfl rfl rfl (sv_pure S rfl) ?_; clear S a; intro a S)
              (refine wpl_v S rfl rfl rfl (sv_pure S rfl) ?_; clear S a; intro a S)
              first | (refine wpl_v S rfl rfl rfl (sv_indexSN S rfl rfl rfl (by first | omega | (have h9 := List.length_pos_iff.2 (hf0 (by assumption) (by assumption)).1; omega))) ?_; clear S a; intro a S) | (refine wpl_v S rfl rfl rfl (sv_indexS S rfl rfl rfl (by first | omega | (have h9 := List.length_pos_iff.2 (hf0 (by assumption) (by assumption)).1; omega))) ?_; clear S a; intro a S)
              (refine wpl_v S rfl rfl rfl (sv_pure S rfl) ?_; clear S a; intro a S)
              refine wpList_nil ?_
              (refine hKq16 _ _ ?_; try (clear hKq16 Kq16))
              (refine wp_seq_k ?_; intro Kq17 hKq17)
              (clear hc0 hc2 hc3; obtain ⟨-, -, -, hca⟩ := tk_at hcs hkl2)
              refine wp_region_lit ?_
              (refine wpl_v S rfl rfl rfl (sv_pure S rfl) ?_; clear S a; intro a S)
              (refine wpl_v S rfl rfl rfl (sv_pure S rfl) ?_; clear S a; intro a S)
              (refine wpl_v S rfl rfl rfl (sv_indexAddrSl S rfl rfl rfl (by first | omega | (have h9 := List.length_pos_iff.2 (hf0 (by assumption) (by assumption)).1; omega))) ?_; clear S a; intro a S)
              first | (refine wpl_v S rfl rfl rfl (sv_loadAO S rfl rfl (by rfl)) ?_; clear S a; intro a S) | (refine wpl_v S rfl rfl rfl (sv_loadAF S rfl rfl (by assumption) (by rfl)) ?_; clear S a; intro a S)
              (refine wpl_alloc S rfl rfl rfl rfl ?_; clear S a; intro b10 a w S)
              (refine wpl_storeO S rfl rfl rfl rfl rfl (by rfl) (by simp [Value.cells, Value.oneCell', splice, tkC]) (by rfl) ?_; clear S; intro w S)
              refine wpList_nil ?_
              (refine hKq17 _ _ ?_; try (clear hKq17 Kq17))
              (refine wp_seq_k ?_; intro Kq18 hKq18)
              (refine wp_seq_k ?_; intro Kq19 hKq19)
              refine wp_region_lit ?_
              (refine wpl_v S rfl rfl rfl (sv_fieldAddr S rfl rfl rfl inferInstance rfl) ?_; clear S a; intro a S)
              first | (refine wpl_v S rfl rfl rfl (sv_loadO S rfl rfl (by rfl)) ?_; clear S a; intro a S) | (refine wpl_v S rfl rfl rfl (sv_loadF S rfl rfl (by assumption)) ?_; clear S a; intro a S)
              (refine wpl_v S rfl rfl rfl (sv_pure S rfl) ?_; clear S a; intro a S)
              (refine wpl_v S rfl rfl rfl (sv_pure S rfl) ?_; clear S a; intro a S)
              refine wpl_guard S rfl rfl rfl rfl rfl ?_ ?_
              · (intro h S'; clear S; have S := S'; clear S'; (try simp only [decide_eq_true_eq, decide_eq_false_iff_not, beq_iff_eq, bne_iff_ne, bne_eq_false_iff_eq, beq_eq_false_iff_ne, ne_eq, Bool.not_eq_true', Bool.not_eq_false', Bool.not_eq_true, Bool.not_eq_false, Bool.not_true, Bool.not_false, Int.ofNat_lt, Int.ofNat_le, Nat.not_lt, Nat.not_le] at h))
                (refine wpl_v S rfl rfl rfl (sv_pure S rfl) ?_; clear S a; intro a S)
                refine wpl_take S rfl rfl rfl ?_
                (refine wpl_v S rfl rfl rfl (sv_pure S rfl) ?_; clear S a; intro a S)
                first | (refine wpl_v S rfl rfl rfl (sv_pure S rfl) ?_; clear S a; intro a S) | (refine wpl_v S rfl rfl rfl (sv_pickB S rfl rfl rfl rfl) ?_; clear S a; intro a S)
                (refine wpl_v S rfl rfl rfl (sv_pure S rfl) ?_; clear S a; intro a S)
                refine wpl_guard S rfl rfl rfl rfl rfl ?_ ?_
                · (intro h S'; clear S; have S := S'; clear S'; (try simp only [decide_eq_true_eq, decide_eq_false_iff_not, beq_iff_eq, bne_iff_ne, bne_eq_false_iff_eq, beq_eq_false_iff_ne, ne_eq, Bool.not_eq_true', Bool.not_eq_false', Bool.not_eq_true, Bool.not_eq_false, Bool.not_true, Bool.not_false, Int.ofNat_lt, Int.ofNat_le, Nat.not_lt, Nat.not_le] at h))
                  (refine wpl_v S rfl rfl rfl (sv_fieldAddr S rfl rfl rfl inferInstance rfl) ?_; clear S a; intro a S)
                  refine wpl_take S rfl rfl rfl ?_
                  first | (refine wpl_v S rfl rfl rfl (sv_loadO S rfl rfl (by rfl)) ?_; clear S a; intro a S) | (refine wpl_v S rfl rfl rfl (sv_loadF S rfl rfl (by assumption)) ?_; clear S a; intro a S)
                  refine wpl_take S rfl rfl rfl ?_
                  (refine wpl_v S rfl rfl rfl (sv_pure S rfl) ?_; clear S a; intro a S)
                  refine wpl_take S rfl rfl rfl ?_
                  (refine wpl_v S rfl rfl rfl (sv_pure S rfl) ?_; clear S a; intro a S)
                  refine wpl_guard S rfl rfl rfl rfl rfl ?_ ?_
                  · (intro h S'; clear S; have S := S'; clear S'; (try simp only [decide_eq_true_eq, decide_eq_false_iff_not, beq_iff_eq, bne_iff_ne, bne_eq_false_iff_eq, beq_eq_false_iff_ne, ne_eq, Bool.not_eq_true', Bool.not_eq_false', Bool.not_eq_true, Bool.not_eq_false, Bool.not_true, Bool.not_false, Int.ofNat_lt, Int.ofNat_le, Nat.not_lt, Nat.not_le] at h))
                    (refine wpl_v S rfl rfl rfl (sv_pure S rfl) ?_; clear S a; intro a S)
                    refine wpl_take S rfl rfl rfl ?_
                    (refine wpl_v S rfl rfl rfl (sv_pure S rfl) ?_; clear S a; intro a S)
                    refine wpl_take S rfl rfl rfl ?_
                    first | (refine wpl_v S rfl rfl rfl (sv_pure S rfl) ?_; clear S a; intro a S) | (refine wpl_v S rfl rfl rfl (sv_pickB S rfl rfl rfl rfl) ?_; clear S a; intro a S)
                    first | (refine wpl_v S rfl rfl rfl (sv_pure S rfl) ?_; clear S a; intro a S) | (refine wpl_v S rfl rfl rfl (sv_pickB S rfl rfl rfl rfl) ?_; clear S a; intro a S)
                    (refine wpl_v S rfl rfl rfl (sv_pure S rfl) ?_; clear S a; intro a S)
                    refine wpl_guard S rfl rfl rfl rfl rfl ?_ ?_
                    · (intro h S'; clear S; have S := S'; clear S'; (try simp only [decide_eq_true_eq, decide_eq_false_iff_not, beq_iff_eq, bne_iff_ne, bne_eq_false_iff_eq, beq_eq_false_iff_ne, ne_eq, Bool.not_eq_true', Bool.not_eq_false', Bool.not_eq_true, Bool.not_eq_false, Bool.not_true, Bool.not_false, Int.ofNat_lt, Int.ofNat_le, Nat.not_lt, Nat.not_le] at h))
                      (refine wpl_v S rfl rfl rfl (sv_fieldAddr S rfl rfl rfl inferInstance rfl) ?_; clear S a; intro a S)
                      refine wpl_take S rfl rfl rfl ?_
                      first | (refine wpl_v S rfl rfl rfl (sv_loadO S rfl rfl (by rfl)) ?_; clear S a; intro a S) | (refine wpl_v S rfl rfl rfl (sv_loadF S rfl rfl (by assumption)) ?_; clear S a; intro a S)
                      refine wpl_take S rfl rfl rfl ?_
                      (refine wpl_v S rfl rfl rfl (sv_pure S rfl) ?_; clear S a; intro a S)
                      refine wpl_take S rfl rfl rfl ?_
                      (refine wpl_v S rfl rfl rfl (sv_pure S rfl) ?_; clear S a; intro a S)
                      refine wpl_guard S rfl rfl rfl rfl rfl ?_ ?_
                      · (intro h S'; clear S; have S := S'; clear S'; (try simp only [decide_eq_true_eq, decide_eq_false_iff_not, beq_iff_eq, bne_iff_ne, bne_eq_false_iff_eq, beq_eq_false_iff_ne, ne_eq, Bool.not_eq_true', Bool.not_eq_false', Bool.not_eq_true, Bool.not_eq_false, Bool.not_true, Bool.not_false, Int.ofNat_lt, Int.ofNat_le, Nat.not_lt, Nat.not_le] at h))
                        (refine wpl_v S rfl rfl rfl (sv_fieldAddr S rfl rfl rfl inferInstance rfl) ?_; clear S a; intro a S)
                        refine wpl_take S rfl rfl rfl ?_
                        first | (refine wpl_v S rfl rfl rfl (sv_loadO S rfl rfl (by rfl)) ?_; clear S a; intro a S) | (refine wpl_v S rfl rfl rfl (sv_loadF S rfl rfl (by assumption)) ?_; clear S a; intro a S)
                        refine wpl_take S rfl rfl rfl ?_
                        (refine wpl_v S rfl rfl rfl (sv_pure S rfl) ?_; clear S a; intro a S)
                        refine wpl_take S rfl rfl rfl ?_
                        first | (refine wpl_v S rfl rfl rfl (sv_pure S rfl) ?_; clear S a; intro a S) | (refine wpl_v S rfl rfl rfl (sv_pickB S rfl rfl rfl rfl) ?_; clear S a; intro a S)
                        refine wpl_take S rfl rfl rfl ?_
                        (refine wpl_v S rfl rfl rfl (sv_pure S rfl) ?_; clear S a; intro a S)
                        refine wpl_guard S rfl rfl rfl rfl rfl ?_ ?_
                        · (intro h S'; clear S; have S := S'; clear S'; (try simp only [decide_eq_true_eq, decide_eq_false_iff_not, beq_iff_eq, bne_iff_ne, bne_eq_false_iff_eq, beq_eq_false_iff_ne, ne_eq, Bool.not_eq_true', Bool.not_eq_false', Bool.not_eq_true, Bool.not_eq_false, Bool.not_true, Bool.not_false, Int.ofNat_lt, Int.ofNat_le, Nat.not_lt, Nat.not_le] at h))
                          (refine wpl_v S rfl rfl rfl (sv_fieldAddr S rfl rfl rfl inferInstance rfl) ?_; clear S a; intro a S)
                          refine wpl_take S rfl rfl rfl ?_
                          first | (refine wpl_v S rfl rfl rfl (sv_loadO S rfl rfl (by rfl)) ?_; clear S a; intro a S) | (refine wpl_v S rfl rfl rfl (sv_loadF S rfl rfl (by assumption)) ?_; clear S a; intro a S)
                          refine wpl_take S rfl rfl rfl ?_
                          (refine wpl_v S rfl rfl rfl (sv_pure S rfl) ?_; clear S a; intro a S)
                          refine wpl_take S rfl rfl rfl ?_
                          (refine wpl_v S rfl rfl rfl (sv_pure S rfl) ?_; clear S a; intro a S)
                          refine wpl_guard S rfl rfl rfl rfl rfl ?_ ?_
                          · (intro h S'; clear S; have S := S'; clear S'; (try simp only [decide_eq_true_eq, decide_eq_false_iff_not, beq_iff_eq, bne_iff_ne, bne_eq_false_iff_eq, beq_eq_false_iff_ne, ne_eq, Bool.not_eq_true', Bool.not_eq_false', Bool.not_eq_true, Bool.not_eq_false, Bool.not_true, Bool.not_false, Int.ofNat_lt, Int.ofNat_le, Nat.not_lt, Nat.not_le] at h))
                            (refine wpl_v S rfl rfl rfl (sv_pure S rfl) ?_; clear S a; intro a S)
                            refine wpl_take S rfl rfl rfl ?_
                            (refine wpl_v S rfl rfl rfl (sv_fieldAddr S rfl rfl rfl inferInstance rfl) ?_; clear S a; intro a S)
                            refine wpl_take S rfl rfl rfl ?_
                            first | (refine wpl_v S rfl rfl rfl (sv_loadO S rfl rfl (by rfl)) ?_; clear S a; intro a S) | (refine wpl_v S rfl rfl rfl (sv_loadF S rfl rfl (by assumption)) ?_; clear S a; intro a S)
                            refine wpl_take S rfl rfl rfl ?_
                            (refine wpl_v S rfl rfl rfl (sv_indexSN (i := 0) S rfl rfl rfl (by first | omega | (have h9 := List.length_pos_iff.2 (hf0 (by assumption) (by assumption)).1; omega))) ?_; clear S a; intro a S)
                            refine wpl_take S rfl rfl rfl ?_
                            (refine wpl_v S rfl rfl rfl (sv_pure S rfl) ?_; clear S a; intro a S)
                            refine wpl_take S rfl rfl rfl ?_
                            first | (refine wpl_v S rfl rfl rfl (sv_pure S rfl) ?_; clear S a; intro a S) | (refine wpl_v S rfl rfl rfl (sv_pickB S rfl rfl rfl rfl) ?_; clear S a; intro a S)
                            refine wpl_take S rfl rfl rfl ?_
                            first | (refine wpl_v S rfl rfl rfl (sv_pure S rfl) ?_; clear S a; intro a S) | (refine wpl_v S rfl rfl rfl (sv_pickB S rfl rfl rfl rfl) ?_; clear S a; intro a S)
                            first | (refine wpl_v S rfl rfl rfl (sv_pure S rfl) ?_; clear S a; intro a S) | (refine wpl_v S rfl rfl rfl (sv_pickB S rfl rfl rfl rfl) ?_; clear S a; intro a S)
                            refine wpList_nil ?_
                            (refine hKq19 _ _ ?_; try (clear hKq19 Kq19))
                            refine wpc_split S rfl (fun h => ?_) (fun h => ?_)
                            · (skip; (try simp only [decide_eq_true_eq, decide_eq_false_iff_not, beq_iff_eq, bne_iff_ne, bne_eq_false_iff_eq, beq_eq_false_iff_ne, ne_eq, Bool.not_eq_true', Bool.not_eq_false', Bool.not_eq_true, Bool.not_eq_false, Bool.not_true, Bool.not_false, Int.ofNat_lt, Int.ofNat_le, Nat.not_lt, Nat.not_le] at h))
                              (refine wp_seq_k ?_; intro Kq20 hKq20)
                              refine wp_region_lit ?_
                              (refine wpl_v S rfl rfl rfl (sv_pure S rfl) ?_; clear S a; intro a S)
                              refine wpList_nil ?_
                              (refine hKq20 _ _ ?_; try (clear hKq20 Kq20))
                              refine wp_ret ?_
                              refine fin_ret S (results1 Tryd.results7 (RV.tmp S rfl)) ?_
                              (first | rfl | (have hke : k = (tokens s).1.length := (by first | omega | (have h9 := List.drop_eq_nil_iff.1 (hof.le_nil (by omega)); omega)); rw [hke]; simp; done) | (exfalso; first | omega | (have hf := hf0 (by assumption) (by assumption); first | exact absurd (by assumption) hf.1 | exact absurd (congrArg (fun c : UInt8 => ((c.toNat : Nat) : Int)) hf.2) (by assumption))) | trace_state)
                            · (skip; (try simp only [decide_eq_true_eq, decide_eq_false_iff_not, beq_iff_eq, bne_iff_ne, bne_eq_false_iff_eq, beq_eq_false_iff_ne, ne_eq, Bool.not_eq_true', Bool.not_eq_false', Bool.not_eq_true, Bool.not_eq_false, Bool.not_true, Bool.not_false, Int.ofNat_lt, Int.ofNat_le, Nat.not_lt, Nat.not_le] at h))
                              refine wp_skip ?_
                              (refine hKq18 _ _ ?_; try (clear hKq18 Kq18))
                              refine wp_region_lit ?_
                              (refine wpl_v S rfl rfl rfl (sv_pure S rfl) ?_; clear S a; intro a S)
                              (refine wpl_v S rfl rfl rfl (sv_add S rfl rfl rfl (by first | omega | (have h9 := List.length_pos_iff.2 (hf0 (by assumption) (by assumption)).1; omega))) ?_; clear S a; intro a S)
                              (refine wpl_v S rfl rfl rfl (sv_pure S rfl) ?_; clear S a; intro a S)
                              refine wpList_nil ?_
                              (refine hKq14 _ _ ?_; try (clear hKq14 Kq14))
                              (refine wp_seq_k ?_; intro Kq20 hKq20)
                              (first | (have hK := hio) | (have hne : o ≠ i := fun h9 => (by have hq : ((place (1, 1) (s.take i)).1 == ((tokens s).1[k]'hkl2).line && (place (1, 1) (s.take i)).2 == ((tokens s).1[k]'hkl2).col) = false := (by assumption); rw [h9] at ho3; rw [ho3] at hq; simp at hq)))
                              refine wp_region_lit ?_
                              (refine wpl_v S rfl rfl rfl (sv_fieldAddr S rfl rfl rfl inferInstance rfl) ?_; clear S a; intro a S)
                              first | (refine wpl_v S rfl rfl rfl (sv_loadO S rfl rfl (by rfl)) ?_; clear S a; intro a S) | (refine wpl_v S rfl rfl rfl (sv_loadF S rfl rfl (by assumption)) ?_; clear S a; intro a S)
                              (refine wpl_v S rfl rfl rfl (sv_add S rfl rfl rfl (by first | omega | (have h9 := List.length_pos_iff.2 (hf0 (by assumption) (by assumption)).1; omega))) ?_; clear S a; intro a S)
                              (refine wpl_v S rfl rfl rfl (sv_fieldAddr S rfl rfl rfl inferInstance rfl) ?_; clear S a; intro a S)
                              (refine wpl_store1 S rfl rfl rfl rfl rfl rfl (by first | (simp; done) | (simp [Value.cells]; done) | exact Nat.le_of_ble_eq_true rfl) ?_; clear S; intro w S)
                              refine wpList_nil ?_
                              (refine hKq20 _ _ ?_; try (clear hKq20 Kq20))
                              (refine wp_seq_k ?_; intro Kq21 hKq21)
                              refine wp_region_lit ?_
                              (refine wpl_v S rfl rfl rfl (sv_pure S rfl) ?_; clear S a; intro a S)
                              (refine wpl_v S rfl rfl rfl (sv_pure S rfl) ?_; clear S a; intro a S)
                              first | (refine wpl_v S rfl rfl rfl (sv_indexSN S rfl rfl rfl (by first | omega | (have h9 := List.length_pos_iff.2 (hf0 (by assumption) (by assumption)).1; omega))) ?_; clear S a; intro a S) | (refine wpl_v S rfl rfl rfl (sv_indexS S rfl rfl rfl (by first | omega | (have h9 := List.length_pos_iff.2 (hf0 (by assumption) (by assumption)).1; omega))) ?_; clear S a; intro a S)
                              (refine wpl_v S rfl rfl rfl (sv_pure S rfl) ?_; clear S a; intro a S)
                              refine wpList_nil ?_
                              (refine hKq21 _ _ ?_; try (clear hKq21 Kq21))
                              refine wpc_split S rfl (fun h => ?_) (fun h => ?_)
                              · (skip; (try simp only [decide_eq_true_eq, decide_eq_false_iff_not, beq_iff_eq, bne_iff_ne, bne_eq_false_iff_eq, beq_eq_false_iff_ne, ne_eq, Bool.not_eq_true', Bool.not_eq_false', Bool.not_eq_true, Bool.not_eq_false, Bool.not_true, Bool.not_false, Int.ofNat_lt, Int.ofNat_le, Nat.not_lt, Nat.not_le] at h))
                                refine wp_region_lit ?_
                                (refine wpl_v S rfl rfl rfl (sv_fieldAddr S rfl rfl rfl inferInstance rfl) ?_; clear S a; intro a S)
                                first | (refine wpl_v S rfl rfl rfl (sv_loadO S rfl rfl (by rfl)) ?_; clear S a; intro a S) | (refine wpl_v S rfl rfl rfl (sv_loadF S rfl rfl (by assumption)) ?_; clear S a; intro a S)
                                (refine wpl_v S rfl rfl rfl (sv_add S rfl rfl rfl (by first | omega | (have h9 := List.length_pos_iff.2 (hf0 (by assumption) (by assumption)).1; omega))) ?_; clear S a; intro a S)
                                (refine wpl_v S rfl rfl rfl (sv_build S rfl rfl rfl) ?_; clear S a; intro a S)
                                (refine wpl_storeO S rfl rfl rfl rfl rfl (by rfl) (by simp [Value.cells, Value.oneCell', splice, tkC]) (by rfl) ?_; clear S; intro w S)
                                refine wpList_nil ?_
                                (refine hKq13 _ _ ?_; try (clear hKq13 Kq13))
                                refine wp_region_lit ?_
                                (refine wpl_v S rfl rfl rfl (sv_pure S rfl) ?_; clear S a; intro a S)
                                (refine wpl_v S rfl rfl rfl (sv_add S rfl rfl rfl (by first | omega | (have h9 := List.length_pos_iff.2 (hf0 (by assumption) (by assumption)).1; omega))) ?_; clear S a; intro a S)
                                (refine wpl_v S rfl rfl rfl (sv_pure S rfl) ?_; clear S a; intro a S)
                                refine wpList_nil ?_
                                change ∃ m', _ ∧ _
                                (first | (exfalso; omega) | (have hK := hio; replace S := S.drop1; refine ⟨s.length - (i + 1), by omega, i + 1, k + 1, rfl, by omega, by omega, ho5, ?_⟩; rw [place_succ (p := (1, 1)) (by omega)]; (first | rw [if_pos (by omega)] | rw [if_neg (by omega)]); refine S.keep ?_; repeat (first | exact trivial | refine ⟨rfl, ?_⟩)) | (refine ⟨s.length - (i + 1), by omega, i + 1, k, rfl, by omega, by omega, Offs.back hkl2 (by omega) ho2 ho3 ho4 ho5, ?_⟩; rw [place_succ (p := (1, 1)) (by omega)]; (first | rw [if_pos (by omega)] | rw [if_neg (by omega)]); refine S.keep ?_; repeat (first | exact trivial | refine ⟨rfl, ?_⟩)) | trace_state)
                              · (skip; (try simp only [decide_eq_true_eq, decide_eq_false_iff_not, beq_iff_eq, bne_iff_ne, bne_eq_false_iff_eq, beq_eq_false_iff_ne, ne_eq, Bool.not_eq_true', Bool.not_eq_false', Bool.not_eq_true, Bool.not_eq_false, Bool.not_true, Bool.not_false, Int.ofNat_lt, Int.ofNat_le, Nat.not_lt, Nat.not_le] at h))
                                refine wp_skip ?_
                                (refine hKq13 _ _ ?_; try (clear hKq13 Kq13))
                                refine wp_region_lit ?_
                                (refine wpl_v S rfl rfl rfl (sv_pure S rfl) ?_; clear S a; intro a S)
                                (refine wpl_v S rfl rfl rfl (sv_add S rfl rfl rfl (by first | omega | (have h9 := List.length_pos_iff.2 (hf0 (by assumption) (by assumption)).1; omega))) ?_; clear S a; intro a S)
                                (refine wpl_v S rfl rfl rfl (sv_pure S rfl) ?_; clear S a; intro a S)
                                refine wpList_nil ?_
                                change ∃ m', _ ∧ _
                                (first | (exfalso; omega) | (have hK := hio; replace S := S.drop1; refine ⟨s.length - (i + 1), by omega, i + 1, k + 1, rfl, by omega, by omega, ho5, ?_⟩; rw [place_succ (p := (1, 1)) (by omega)]; (first | rw [if_pos (by omega)] | rw [if_neg (by omega)]); refine S.keep ?_; repeat (first | exact trivial | refine ⟨rfl, ?_⟩)) | (refine ⟨s.length - (i + 1), by omega, i + 1, k, rfl, by omega, by omega, Offs.back hkl2 (by omega) ho2 ho3 ho4 ho5, ?_⟩; rw [place_succ (p := (1, 1)) (by omega)]; (first | rw [if_pos (by omega)] | rw [if_neg (by omega)]); refine S.keep ?_; repeat (first | exact trivial | refine ⟨rfl, ?_⟩)) | trace_state)
                          · (intro h; clear S a; intro a S; (try simp only [decide_eq_true_eq, decide_eq_false_iff_not, beq_iff_eq, bne_iff_ne, bne_eq_false_iff_eq, beq_eq_false_iff_ne, ne_eq, Bool.not_eq_true', Bool.not_eq_false', Bool.not_eq_true, Bool.not_eq_false, Bool.not_true, Bool.not_false, Int.ofNat_lt, Int.ofNat_le, Nat.not_lt, Nat.not_le] at h))
                            (refine wpl_skip S rfl rfl rfl rfl rfl ?_; clear S a; intro a S)
                            (refine wpl_skip S rfl rfl rfl rfl rfl ?_; clear S a; intro a S)
                            (refine wpl_skip S rfl rfl rfl rfl rfl ?_; clear S a; intro a S)
                            (refine wpl_skip S rfl rfl rfl rfl rfl ?_; clear S a; intro a S)
                            refine wpl_take S rfl rfl rfl ?_
                            first | (refine wpl_v S rfl rfl rfl (sv_pure S rfl) ?_; clear S a; intro a S) | (refine wpl_v S rfl rfl rfl (sv_pickB S rfl rfl rfl rfl) ?_; clear S a; intro a S)
                            refine wpl_take S rfl rfl rfl ?_
                            first | (refine wpl_v S rfl rfl rfl (sv_pure S rfl) ?_; clear S a; intro a S) | (refine wpl_v S rfl rfl rfl (sv_pickB S rfl rfl rfl rfl) ?_; clear S a; intro a S)
                            first | (refine wpl_v S rfl rfl rfl (sv_pure S rfl) ?_; clear S a; intro a S) | (refine wpl_v S rfl rfl rfl (sv_pickB S rfl rfl rfl rfl) ?_; clear S a; intro a S)
                            refine wpList_nil ?_
                            (refine hKq19 _ _ ?_; try (clear hKq19 Kq19))
                            refine wpc_true S rfl ?_
                            (refine wp_seq_k ?_; intro Kq20 hKq20)
                            refine wp_region_lit ?_
                            (refine wpl_v S rfl rfl rfl (sv_pure S rfl) ?_; clear S a; intro a S)
                            refine wpList_nil ?_
                            (refine hKq20 _ _ ?_; try (clear hKq20 Kq20))
                            refine wp_ret ?_
                            refine fin_ret S (results1 Tryd.results7 (RV.tmp S rfl)) ?_
                            (first | rfl | (have hke : k = (tokens s).1.length := (by first | omega | (have h9 := List.drop_eq_nil_iff.1 (hof.le_nil (by omega)); omega)); rw [hke]; simp; done) | (exfalso; first | omega | (have hf := hf0 (by assumption) (by assumption); first | exact absurd (by assumption) hf.1 | exact absurd (congrArg (fun c : UInt8 => ((c.toNat : Nat) : Int)) hf.2) (by assumption))) | trace_state)
                        · (intro h; clear S a; intro a S; (try simp only [decide_eq_true_eq, decide_eq_false_iff_not, beq_iff_eq, bne_iff_ne, bne_eq_false_iff_eq, beq_eq_false_iff_ne, ne_eq, Bool.not_eq_true', Bool.not_eq_false', Bool.not_eq_true, Bool.not_eq_false, Bool.not_true, Bool.not_false, Int.ofNat_lt, Int.ofNat_le, Nat.not_lt, Nat.not_le] at h))
                          (refine wpl_skip S rfl rfl rfl rfl rfl ?_; clear S a; intro a S)
                          (refine wpl_skip S rfl rfl rfl rfl rfl ?_; clear S a; intro a S)
                          (refine wpl_skip S rfl rfl rfl rfl rfl ?_; clear S a; intro a S)
                          (refine wpl_skipU S rfl rfl rfl rfl rfl ?_; clear S a; intro a S)
                          (refine wpl_skipU S rfl rfl rfl rfl rfl ?_; clear S a; intro a S)
                          (refine wpl_skipU S rfl rfl rfl rfl rfl ?_; clear S a; intro a S)
                          (refine wpl_skipU S rfl rfl rfl rfl rfl ?_; clear S a; intro a S)
                          (refine wpl_skipU S rfl rfl rfl rfl rfl ?_; clear S a; intro a S)
                          (refine wpl_skip S rfl rfl rfl rfl rfl ?_; clear S a; intro a S)
                          refine wpl_take S rfl rfl rfl ?_
                          first | (refine wpl_v S rfl rfl rfl (sv_pure S rfl) ?_; clear S a; intro a S) | (refine wpl_v S rfl rfl rfl (sv_pickB S rfl rfl rfl rfl) ?_; clear S a; intro a S)
                          first | (refine wpl_v S rfl rfl rfl (sv_pure S rfl) ?_; clear S a; intro a S) | (refine wpl_v S rfl rfl rfl (sv_pickB S rfl rfl rfl rfl) ?_; clear S a; intro a S)
                          refine wpList_nil ?_
                          (refine hKq19 _ _ ?_; try (clear hKq19 Kq19))
                          refine wpc_false S rfl ?_
                          refine wp_skip ?_
                          (refine hKq18 _ _ ?_; try (clear hKq18 Kq18))
                          refine wp_region_lit ?_
                          (refine wpl_v S rfl rfl rfl (sv_pure S rfl) ?_; clear S a; intro a S)
                          (refine wpl_v S rfl rfl rfl (sv_add S rfl rfl rfl (by first | omega | (have h9 := List.length_pos_iff.2 (hf0 (by assumption) (by assumption)).1; omega))) ?_; clear S a; intro a S)
                          (refine wpl_v S rfl rfl rfl (sv_pure S rfl) ?_; clear S a; intro a S)
                          refine wpList_nil ?_
                          (refine hKq14 _ _ ?_; try (clear hKq14 Kq14))
                          (refine wp_seq_k ?_; intro Kq20 hKq20)
                          (first | (have hK := hio) | (have hne : o ≠ i := fun h9 => (by have hq : ((place (1, 1) (s.take i)).1 == ((tokens s).1[k]'hkl2).line && (place (1, 1) (s.take i)).2 == ((tokens s).1[k]'hkl2).col) = false := (by assumption); rw [h9] at ho3; rw [ho3] at hq; simp at hq)))
                          refine wp_region_lit ?_
                          (refine wpl_v S rfl rfl rfl (sv_fieldAddr S rfl rfl rfl inferInstance rfl) ?_; clear S a; intro a S)
                          first | (refine wpl_v S rfl rfl rfl (sv_loadO S rfl rfl (by rfl)) ?_; clear S a; intro a S) | (refine wpl_v S rfl rfl rfl (sv_loadF S rfl rfl (by assumption)) ?_; clear S a; intro a S)
                          (refine wpl_v S rfl rfl rfl (sv_add S rfl rfl rfl (by first | omega | (have h9 := List.length_pos_iff.2 (hf0 (by assumption) (by assumption)).1; omega))) ?_; clear S a; intro a S)
                          (refine wpl_v S rfl rfl rfl (sv_fieldAddr S rfl rfl rfl inferInstance rfl) ?_; clear S a; intro a S)
                          (refine wpl_store1 S rfl rfl rfl rfl rfl rfl (by first | (simp; done) | (simp [Value.cells]; done) | exact Nat.le_of_ble_eq_true rfl) ?_; clear S; intro w S)
                          refine wpList_nil ?_
                          (refine hKq20 _ _ ?_; try (clear hKq20 Kq20))
                          (refine wp_seq_k ?_; intro Kq21 hKq21)
                          refine wp_region_lit ?_
                          (refine wpl_v S rfl rfl rfl (sv_pure S rfl) ?_; clear S a; intro a S)
                          (refine wpl_v S rfl rfl rfl (sv_pure S rfl) ?_; clear S a; intro a S)
                          first | (refine wpl_v S rfl rfl rfl (sv_indexSN S rfl rfl rfl (by first | omega | (have h9 := List.length_pos_iff.2 (hf0 (by assumption) (by assumption)).1; omega))) ?_; clear S a; intro a S) | (refine wpl_v S rfl rfl rfl (sv_indexS S rfl rfl rfl (by first | omega | (have h9 := List.length_pos_iff.2 (hf0 (by assumption) (by assumption)).1; omega))) ?_; clear S a; intro a S)
                          (refine wpl_v S rfl rfl rfl (sv_pure S rfl) ?_; clear S a; intro a S)
                          refine wpList_nil ?_
                          (refine hKq21 _ _ ?_; try (clear hKq21 Kq21))
                          refine wpc_split S rfl (fun h => ?_) (fun h => ?_)
                          · (skip; (try simp only [decide_eq_true_eq, decide_eq_false_iff_not, beq_iff_eq, bne_iff_ne, bne_eq_false_iff_eq, beq_eq_false_iff_ne, ne_eq, Bool.not_eq_true', Bool.not_eq_false', Bool.not_eq_true, Bool.not_eq_false, Bool.not_true, Bool.not_false, Int.ofNat_lt, Int.ofNat_le, Nat.not_lt, Nat.not_le] at h))
                            refine wp_region_lit ?_
                            (refine wpl_v S rfl rfl rfl (sv_fieldAddr S rfl rfl rfl inferInstance rfl) ?_; clear S a; intro a S)
                            first | (refine wpl_v S rfl rfl rfl (sv_loadO S rfl rfl (by rfl)) ?_; clear S a; intro a S) | (refine wpl_v S rfl rfl rfl (sv_loadF S rfl rfl (by assumption)) ?_; clear S a; intro a S)
                            (refine wpl_v S rfl rfl rfl (sv_add S rfl rfl rfl (by first | omega | (have h9 := List.length_pos_iff.2 (hf0 (by assumption) (by assumption)).1; omega))) ?_; clear S a; intro a S)
                            (refine wpl_v S rfl rfl rfl (sv_build S rfl rfl rfl) ?_; clear S a; intro a S)
                            (refine wpl_storeO S rfl rfl rfl rfl rfl (by rfl) (by simp [Value.cells, Value.oneCell', splice, tkC]) (by rfl) ?_; clear S; intro w S)
                            refine wpList_nil ?_
                            (refine hKq13 _ _ ?_; try (clear hKq13 Kq13))
                            refine wp_region_lit ?_
                            (refine wpl_v S rfl rfl rfl (sv_pure S rfl) ?_; clear S a; intro a S)
                            (refine wpl_v S rfl rfl rfl (sv_add S rfl rfl rfl (by first | omega | (have h9 := List.length_pos_iff.2 (hf0 (by assumption) (by assumption)).1; omega))) ?_; clear S a; intro a S)
                            (refine wpl_v S rfl rfl rfl (sv_pure S rfl) ?_; clear S a; intro a S)
                            refine wpList_nil ?_
                            change ∃ m', _ ∧ _
                            (first | (exfalso; omega) | (have hK := hio; replace S := S.drop1; refine ⟨s.length - (i + 1), by omega, i + 1, k + 1, rfl, by omega, by omega, ho5, ?_⟩; rw [place_succ (p := (1, 1)) (by omega)]; (first | rw [if_pos (by omega)] | rw [if_neg (by omega)]); refine S.keep ?_; repeat (first | exact trivial | refine ⟨rfl, ?_⟩)) | (refine ⟨s.length - (i + 1), by omega, i + 1, k, rfl, by omega, by omega, Offs.back hkl2 (by omega) ho2 ho3 ho4 ho5, ?_⟩; rw [place_succ (p := (1, 1)) (by omega)]; (first | rw [if_pos (by omega)] | rw [if_neg (by omega)]); refine S.keep ?_; repeat (first | exact trivial | refine ⟨rfl, ?_⟩)) | trace_state)
                          · (skip; (try simp only [decide_eq_true_eq, decide_eq_false_iff_not, beq_iff_eq, bne_iff_ne, bne_eq_false_iff_eq, beq_eq_false_iff_ne, ne_eq, Bool.not_eq_true', Bool.not_eq_false', Bool.not_eq_true, Bool.not_eq_false, Bool.not_true, Bool.not_false, Int.ofNat_lt, Int.ofNat_le, Nat.not_lt, Nat.not_le] at h))
                            refine wp_skip ?_
                            (refine hKq13 _ _ ?_; try (clear hKq13 Kq13))
                            refine wp_region_lit ?_
                            (refine wpl_v S rfl rfl rfl (sv_pure S rfl) ?_; clear S a; intro a S)
                            (refine wpl_v S rfl rfl rfl (sv_add S rfl rfl rfl (by first | omega | (have h9 := List.length_pos_iff.2 (hf0 (by assumption) (by assumption)).1; omega))) ?_; clear S a; intro a S)
                            (refine wpl_v S rfl rfl rfl (sv_pure S rfl) ?_; clear S a; intro a S)
                            refine wpList_nil ?_
                            change ∃ m', _ ∧ _
                            (first | (exfalso; omega) | (have hK := hio; replace S := S.drop1; refine ⟨s.length - (i + 1), by omega, i + 1, k + 1, rfl, by omega, by omega, ho5, ?_⟩; rw [place_succ (p := (1, 1)) (by omega)]; (first | rw [if_pos (by omega)] | rw [if_neg (by omega)]); refine S.keep ?_; repeat (first | exact trivial | refine ⟨rfl, ?_⟩)) | (refine ⟨s.length - (i + 1), by omega, i + 1, k, rfl, by omega, by omega, Offs.back hkl2 (by omega) ho2 ho3 ho4 ho5, ?_⟩; rw [place_succ (p := (1, 1)) (by omega)]; (first | rw [if_pos (by omega)] | rw [if_neg (by omega)]); refine S.keep ?_; repeat (first | exact trivial | refine ⟨rfl, ?_⟩)) | trace_state)
                      · (intro h; clear S a; intro a S; (try simp only [decide_eq_true_eq, decide_eq_false_iff_not, beq_iff_eq, bne_iff_ne, bne_eq_false_iff_eq, beq_eq_false_iff_ne, ne_eq, Bool.not_eq_true', Bool.not_eq_false', Bool.not_eq_true, Bool.not_eq_false, Bool.not_true, Bool.not_false, Int.ofNat_lt, Int.ofNat_le, Nat.not_lt, Nat.not_le] at h))
                        (refine wpl_skip S rfl rfl rfl rfl rfl ?_; clear S a; intro a S)
                        (refine wpl_skip S rfl rfl rfl rfl rfl ?_; clear S a; intro a S)
                        refine wpl_take S rfl rfl rfl ?_
                        first | (refine wpl_v S rfl rfl rfl (sv_pure S rfl) ?_; clear S a; intro a S) | (refine wpl_v S rfl rfl rfl (sv_pickB S rfl rfl rfl rfl) ?_; clear S a; intro a S)
                        refine wpl_take S rfl rfl rfl ?_
                        (refine wpl_v S rfl rfl rfl (sv_pure S rfl) ?_; clear S a; intro a S)
                        (refine wpl_skip S rfl rfl rfl rfl rfl ?_; clear S a; intro a S)
                        (refine wpl_skip S rfl rfl rfl rfl rfl ?_; clear S a; intro a S)
                        (refine wpl_skip S rfl rfl rfl rfl rfl ?_; clear S a; intro a S)
                        (refine wpl_skip S rfl rfl rfl rfl rfl ?_; clear S a; intro a S)
                        (refine wpl_skipU S rfl rfl rfl rfl rfl ?_; clear S a; intro a S)
                        (refine wpl_skipU S rfl rfl rfl rfl rfl ?_; clear S a; intro a S)
                        (refine wpl_skipU S rfl rfl rfl rfl rfl ?_; clear S a; intro a S)
                        (refine wpl_skipU S rfl rfl rfl rfl rfl ?_; clear S a; intro a S)
                        (refine wpl_skipU S rfl rfl rfl rfl rfl ?_; clear S a; intro a S)
                        (refine wpl_skip S rfl rfl rfl rfl rfl ?_; clear S a; intro a S)
                        refine wpl_take S rfl rfl rfl ?_
                        first | (refine wpl_v S rfl rfl rfl (sv_pure S rfl) ?_; clear S a; intro a S) | (refine wpl_v S rfl rfl rfl (sv_pickB S rfl rfl rfl rfl) ?_; clear S a; intro a S)
                        first | (refine wpl_v S rfl rfl rfl (sv_pure S rfl) ?_; clear S a; intro a S) | (refine wpl_v S rfl rfl rfl (sv_pickB S rfl rfl rfl rfl) ?_; clear S a; intro a S)
                        refine wpList_nil ?_
                        (refine hKq19 _ _ ?_; try (clear hKq19 Kq19))
                        refine wpc_false S rfl ?_
                        refine wp_skip ?_
                        (refine hKq18 _ _ ?_; try (clear hKq18 Kq18))
                        refine wp_region_lit ?_
                        (refine wpl_v S rfl rfl rfl (sv_pure S rfl) ?_; clear S a; intro a S)
                        (refine wpl_v S rfl rfl rfl (sv_add S rfl rfl rfl (by first | omega | (have h9 := List.length_pos_iff.2 (hf0 (by assumption) (by assumption)).1; omega))) ?_; clear S a; intro a S)
                        (refine wpl_v S rfl rfl rfl (sv_pure S rfl) ?_; clear S a; intro a S)
                        refine wpList_nil ?_
                        (refine hKq14 _ _ ?_; try (clear hKq14 Kq14))
                        (refine wp_seq_k ?_; intro Kq20 hKq20)
                        (first | (have hK := hio) | (have hne : o ≠ i := fun h9 => (by have hq : ((place (1, 1) (s.take i)).1 == ((tokens s).1[k]'hkl2).line && (place (1, 1) (s.take i)).2 == ((tokens s).1[k]'hkl2).col) = false := (by assumption); rw [h9] at ho3; rw [ho3] at hq; simp at hq)))
                        refine wp_region_lit ?_
                        (refine wpl_v S rfl rfl rfl (sv_fieldAddr S rfl rfl rfl inferInstance rfl) ?_; clear S a; intro a S)
                        first | (refine wpl_v S rfl rfl rfl (sv_loadO S rfl rfl (by rfl)) ?_; clear S a; intro a S) | (refine wpl_v S rfl rfl rfl (sv_loadF S rfl rfl (by assumption)) ?_; clear S a; intro a S)
                        (refine wpl_v S rfl rfl rfl (sv_add S rfl rfl rfl (by first | omega | (have h9 := List.length_pos_iff.2 (hf0 (by assumption) (by assumption)).1; omega))) ?_; clear S a; intro a S)
                        (refine wpl_v S rfl rfl rfl (sv_fieldAddr S rfl rfl rfl inferInstance rfl) ?_; clear S a; intro a S)
                        (refine wpl_store1 S rfl rfl rfl rfl rfl rfl (by first | (simp; done) | (simp [Value.cells]; done) | exact Nat.le_of_ble_eq_true rfl) ?_; clear S; intro w S)
                        refine wpList_nil ?_
                        (refine hKq20 _ _ ?_; try (clear hKq20 Kq20))
                        (refine wp_seq_k ?_; intro Kq21 hKq21)
                        refine wp_region_lit ?_
                        (refine wpl_v S rfl rfl rfl (sv_pure S rfl) ?_; clear S a; intro a S)
                        (refine wpl_v S rfl rfl rfl (sv_pure S rfl) ?_; clear S a; intro a S)
                        first | (refine wpl_v S rfl rfl rfl (sv_indexSN S rfl rfl rfl (by first | omega | (have h9 := List.length_pos_iff.2 (hf0 (by assumption) (by assumption)).1; omega))) ?_; clear S a; intro a S) | (refine wpl_v S rfl rfl rfl (sv_indexS S rfl rfl rfl (by first | omega | (have h9 := List.length_pos_iff.2 (hf0 (by assumption) (by assumption)).1; omega))) ?_; clear S a; intro a S)
                        (refine wpl_v S rfl rfl rfl (sv_pure S rfl) ?_; clear S a; intro a S)
                        refine wpList_nil ?_
                        (refine hKq21 _ _ ?_; try (clear hKq21 Kq21))
                        refine wpc_split S rfl (fun h => ?_) (fun h => ?_)
                        · (skip; (try simp only [decide_eq_true_eq, decide_eq_false_iff_not, beq_iff_eq, bne_iff_ne, bne_eq_false_iff_eq, beq_eq_false_iff_ne, ne_eq, Bool.not_eq_true', Bool.not_eq_false', Bool.not_eq_true, Bool.not_eq_false, Bool.not_true, Bool.not_false, Int.ofNat_lt, Int.ofNat_le, Nat.not_lt, Nat.not_le] at h))
                          refine wp_region_lit ?_
                          (refine wpl_v S rfl rfl rfl (sv_fieldAddr S rfl rfl rfl inferInstance rfl) ?_; clear S a; intro a S)
                          first | (refine wpl_v S rfl rfl rfl (sv_loadO S rfl rfl (by rfl)) ?_; clear S a; intro a S) | (refine wpl_v S rfl rfl rfl (sv_loadF S rfl rfl (by assumption)) ?_; clear S a; intro a S)
                          (refine wpl_v S rfl rfl rfl (sv_add S rfl rfl rfl (by first | omega | (have h9 := List.length_pos_iff.2 (hf0 (by assumption) (by assumption)).1; omega))) ?_; clear S a; intro a S)
                          (refine wpl_v S rfl rfl rfl (sv_build S rfl rfl rfl) ?_; clear S a; intro a S)
                          (refine wpl_storeO S rfl rfl rfl rfl rfl (by rfl) (by simp [Value.cells, Value.oneCell', splice, tkC]) (by rfl) ?_; clear S; intro w S)
                          refine wpList_nil ?_
                          (refine hKq13 _ _ ?_; try (clear hKq13 Kq13))
                          refine wp_region_lit ?_
                          (refine wpl_v S rfl rfl rfl (sv_pure S rfl) ?_; clear S a; intro a S)
                          (refine wpl_v S rfl rfl rfl (sv_add S rfl rfl rfl (by first | omega | (have h9 := List.length_pos_iff.2 (hf0 (by assumption) (by assumption)).1; omega))) ?_; clear S a; intro a S)
                          (refine wpl_v S rfl rfl rfl (sv_pure S rfl) ?_; clear S a; intro a S)
                          refine wpList_nil ?_
                          change ∃ m', _ ∧ _
                          (first | (exfalso; omega) | (have hK := hio; replace S := S.drop1; refine ⟨s.length - (i + 1), by omega, i + 1, k + 1, rfl, by omega, by omega, ho5, ?_⟩; rw [place_succ (p := (1, 1)) (by omega)]; (first | rw [if_pos (by omega)] | rw [if_neg (by omega)]); refine S.keep ?_; repeat (first | exact trivial | refine ⟨rfl, ?_⟩)) | (refine ⟨s.length - (i + 1), by omega, i + 1, k, rfl, by omega, by omega, Offs.back hkl2 (by omega) ho2 ho3 ho4 ho5, ?_⟩; rw [place_succ (p := (1, 1)) (by omega)]; (first | rw [if_pos (by omega)] | rw [if_neg (by omega)]); refine S.keep ?_; repeat (first | exact trivial | refine ⟨rfl, ?_⟩)) | trace_state)
                        · (skip; (try simp only [decide_eq_true_eq, decide_eq_false_iff_not, beq_iff_eq, bne_iff_ne, bne_eq_false_iff_eq, beq_eq_false_iff_ne, ne_eq, Bool.not_eq_true', Bool.not_eq_false', Bool.not_eq_true, Bool.not_eq_false, Bool.not_true, Bool.not_false, Int.ofNat_lt, Int.ofNat_le, Nat.not_lt, Nat.not_le] at h))
                          refine wp_skip ?_
                          (refine hKq13 _ _ ?_; try (clear hKq13 Kq13))
                          refine wp_region_lit ?_
                          (refine wpl_v S rfl rfl rfl (sv_pure S rfl) ?_; clear S a; intro a S)
                          (refine wpl_v S rfl rfl rfl (sv_add S rfl rfl rfl (by first | omega | (have h9 := List.length_pos_iff.2 (hf0 (by assumption) (by assumption)).1; omega))) ?_; clear S a; intro a S)
                          (refine wpl_v S rfl rfl rfl (sv_pure S rfl) ?_; clear S a; intro a S)
                          refine wpList_nil ?_
                          change ∃ m', _ ∧ _
                          (first | (exfalso; omega) | (have hK := hio; replace S := S.drop1; refine ⟨s.length - (i + 1), by omega, i + 1, k + 1, rfl, by omega, by omega, ho5, ?_⟩; rw [place_succ (p := (1, 1)) (by omega)]; (first | rw [if_pos (by omega)] | rw [if_neg (by omega)]); refine S.keep ?_; repeat (first | exact trivial | refine ⟨rfl, ?_⟩)) | (refine ⟨s.length - (i + 1), by omega, i + 1, k, rfl, by omega, by omega, Offs.back hkl2 (by omega) ho2 ho3 ho4 ho5, ?_⟩; rw [place_succ (p := (1, 1)) (by omega)]; (first | rw [if_pos (by omega)] | rw [if_neg (by omega)]); refine S.keep ?_; repeat (first | exact trivial | refine ⟨rfl, ?_⟩)) | trace_state)
                    · (intro h; clear S a; intro a S; (try simp only [decide_eq_true_eq, decide_eq_false_iff_not, beq_iff_eq, bne_iff_ne, bne_eq_false_iff_eq, beq_eq_false_iff_ne, ne_eq, Bool.not_eq_true', Bool.not_eq_false', Bool.not_eq_true, Bool.not_eq_false, Bool.not_true, Bool.not_false, Int.ofNat_lt, Int.ofNat_le, Nat.not_lt, Nat.not_le] at h))
                      (refine wpl_skip S rfl rfl rfl rfl rfl ?_; clear S a; intro a S)
                      (refine wpl_skip S rfl rfl rfl rfl rfl ?_; clear S a; intro a S)
                      (refine wpl_skip S rfl rfl rfl rfl rfl ?_; clear S a; intro a S)
                      (refine wpl_skipU S rfl rfl rfl rfl rfl ?_; clear S a; intro a S)
                      (refine wpl_skipU S rfl rfl rfl rfl rfl ?_; clear S a; intro a S)
                      (refine wpl_skipU S rfl rfl rfl rfl rfl ?_; clear S a; intro a S)
                      (refine wpl_skip S rfl rfl rfl rfl rfl ?_; clear S a; intro a S)
                      (refine wpl_skip S rfl rfl rfl rfl rfl ?_; clear S a; intro a S)
                      (refine wpl_skipU S rfl rfl rfl rfl rfl ?_; clear S a; intro a S)
                      (refine wpl_skipU S rfl rfl rfl rfl rfl ?_; clear S a; intro a S)
                      (refine wpl_skipU S rfl rfl rfl rfl rfl ?_; clear S a; intro a S)
                      (refine wpl_skipU S rfl rfl rfl rfl rfl ?_; clear S a; intro a S)
                      (refine wpl_skipU S rfl rfl rfl rfl rfl ?_; clear S a; intro a S)
                      (refine wpl_skipU S rfl rfl rfl rfl rfl ?_; clear S a; intro a S)
                      (refine wpl_skipU S rfl rfl rfl rfl rfl ?_; clear S a; intro a S)
                      (refine wpl_skipU S rfl rfl rfl rfl rfl ?_; clear S a; intro a S)
                      (refine wpl_skipU S rfl rfl rfl rfl rfl ?_; clear S a; intro a S)
                      (refine wpl_skipU S rfl rfl rfl rfl rfl ?_; clear S a; intro a S)
                      (refine wpl_skip S rfl rfl rfl rfl rfl ?_; clear S a; intro a S)
                      first | (refine wpl_v S rfl rfl rfl (sv_pure S rfl) ?_; clear S a; intro a S) | (refine wpl_v S rfl rfl rfl (sv_pickB S rfl rfl rfl rfl) ?_; clear S a; intro a S)
                      refine wpList_nil ?_
                      (refine hKq19 _ _ ?_; try (clear hKq19 Kq19))
                      refine wpc_true S rfl ?_
                      (refine wp_seq_k ?_; intro Kq20 hKq20)
                      refine wp_region_lit ?_
                      (refine wpl_v S rfl rfl rfl (sv_pure S rfl) ?_; clear S a; intro a S)
                      refine wpList_nil ?_
                      (refine hKq20 _ _ ?_; try (clear hKq20 Kq20))
                      refine wp_ret ?_
                      refine fin_ret S (results1 Tryd.results7 (RV.tmp S rfl)) ?_
                      (first | rfl | (have hke : k = (tokens s).1.length := (by first | omega | (have h9 := List.drop_eq_nil_iff.1 (hof.le_nil (by omega)); omega)); rw [hke]; simp; done) | (exfalso; first | omega | (have hf := hf0 (by assumption) (by assumption); first | exact absurd (by assumption) hf.1 | exact absurd (congrArg (fun c : UInt8 => ((c.toNat : Nat) : Int)) hf.2) (by assumption))) | trace_state)
                  · (intro h; clear S a; intro a S; (try simp only [decide_eq_true_eq, decide_eq_false_iff_not, beq_iff_eq, bne_iff_ne, bne_eq_false_iff_eq, beq_eq_false_iff_ne, ne_eq, Bool.not_eq_true', Bool.not_eq_false', Bool.not_eq_true, Bool.not_eq_false, Bool.not_true, Bool.not_false, Int.ofNat_lt, Int.ofNat_le, Nat.not_lt, Nat.not_le] at h))
                    (refine wpl_skip S rfl rfl rfl rfl rfl ?_; clear S a; intro a S)
                    refine wpl_take S rfl rfl rfl ?_
                    first | (refine wpl_v S rfl rfl rfl (sv_pure S rfl) ?_; clear S a; intro a S) | (refine wpl_v S rfl rfl rfl (sv_pickB S rfl rfl rfl rfl) ?_; clear S a; intro a S)
                    first | (refine wpl_v S rfl rfl rfl (sv_pure S rfl) ?_; clear S a; intro a S) | (refine wpl_v S rfl rfl rfl (sv_pickB S rfl rfl rfl rfl) ?_; clear S a; intro a S)
                    (refine wpl_v S rfl rfl rfl (sv_pure S rfl) ?_; clear S a; intro a S)
                    refine wpl_take S rfl rfl rfl ?_
                    (refine wpl_v S rfl rfl rfl (sv_fieldAddr S rfl rfl rfl inferInstance rfl) ?_; clear S a; intro a S)
                    refine wpl_take S rfl rfl rfl ?_
                    first | (refine wpl_v S rfl rfl rfl (sv_loadO S rfl rfl (by rfl)) ?_; clear S a; intro a S) | (refine wpl_v S rfl rfl rfl (sv_loadF S rfl rfl (by assumption)) ?_; clear S a; intro a S)
                    refine wpl_take S rfl rfl rfl ?_
                    (refine wpl_v S rfl rfl rfl (sv_pure S rfl) ?_; clear S a; intro a S)
                    refine wpl_take S rfl rfl rfl ?_
                    (refine wpl_v S rfl rfl rfl (sv_pure S rfl) ?_; clear S a; intro a S)
                    refine wpl_guard S rfl rfl rfl rfl rfl ?_ ?_
                    · (intro h S'; clear S; have S := S'; clear S'; (try simp only [decide_eq_true_eq, decide_eq_false_iff_not, beq_iff_eq, bne_iff_ne, bne_eq_false_iff_eq, beq_eq_false_iff_ne, ne_eq, Bool.not_eq_true', Bool.not_eq_false', Bool.not_eq_true, Bool.not_eq_false, Bool.not_true, Bool.not_false, Int.ofNat_lt, Int.ofNat_le, Nat.not_lt, Nat.not_le] at h))
                      (refine wpl_v S rfl rfl rfl (sv_fieldAddr S rfl rfl rfl inferInstance rfl) ?_; clear S a; intro a S)
                      refine wpl_take S rfl rfl rfl ?_
                      first | (refine wpl_v S rfl rfl rfl (sv_loadO S rfl rfl (by rfl)) ?_; clear S a; intro a S) | (refine wpl_v S rfl rfl rfl (sv_loadF S rfl rfl (by assumption)) ?_; clear S a; intro a S)
                      refine wpl_take S rfl rfl rfl ?_
                      (refine wpl_v S rfl rfl rfl (sv_pure S rfl) ?_; clear S a; intro a S)
                      refine wpl_take S rfl rfl rfl ?_
                      first | (refine wpl_v S rfl rfl rfl (sv_pure S rfl) ?_; clear S a; intro a S) | (refine wpl_v S rfl rfl rfl (sv_pickB S rfl rfl rfl rfl) ?_; clear S a; intro a S)
                      refine wpl_take S rfl rfl rfl ?_
                      (refine wpl_v S rfl rfl rfl (sv_pure S rfl) ?_; clear S a; intro a S)
                      refine wpl_guard S rfl rfl rfl rfl rfl ?_ ?_
                      · (intro h S'; clear S; have S := S'; clear S'; (try simp only [decide_eq_true_eq, decide_eq_false_iff_not, beq_iff_eq, bne_iff_ne, bne_eq_false_iff_eq, beq_eq_false_iff_ne, ne_eq, Bool.not_eq_true', Bool.not_eq_false', Bool.not_eq_true, Bool.not_eq_false, Bool.not_true, Bool.not_false, Int.ofNat_lt, Int.ofNat_le, Nat.not_lt, Nat.not_le] at h))
                        (refine wpl_v S rfl rfl rfl (sv_fieldAddr S rfl rfl rfl inferInstance rfl) ?_; clear S a; intro a S)
                        refine wpl_take S rfl rfl rfl ?_
                        first | (refine wpl_v S rfl rfl rfl (sv_loadO S rfl rfl (by rfl)) ?_; clear S a; intro a S) | (refine wpl_v S rfl rfl rfl (sv_loadF S rfl rfl (by assumption)) ?_; clear S a; intro a S)
                        refine wpl_take S rfl rfl rfl ?_
                        (refine wpl_v S rfl rfl rfl (sv_pure S rfl) ?_; clear S a; intro a S)
                        refine wpl_take S rfl rfl rfl ?_
                        (refine wpl_v S rfl rfl rfl (sv_pure S rfl) ?_; clear S a; intro a S)
                        refine wpl_guard S rfl rfl rfl rfl rfl ?_ ?_
                        · (intro h S'; clear S; have S := S'; clear S'; (try simp only [decide_eq_true_eq, decide_eq_false_iff_not, beq_iff_eq, bne_iff_ne, bne_eq_false_iff_eq, beq_eq_false_iff_ne, ne_eq, Bool.not_eq_true', Bool.not_eq_false', Bool.not_eq_true, Bool.not_eq_false, Bool.not_true, Bool.not_false, Int.ofNat_lt, Int.ofNat_le, Nat.not_lt, Nat.not_le] at h))
                          (refine wpl_v S rfl rfl rfl (sv_pure S rfl) ?_; clear S a; intro a S)
                          refine wpl_take S rfl rfl rfl ?_
                          (refine wpl_v S rfl rfl rfl (sv_fieldAddr S rfl rfl rfl inferInstance rfl) ?_; clear S a; intro a S)
                          refine wpl_take S rfl rfl rfl ?_
                          first | (refine wpl_v S rfl rfl rfl (sv_loadO S rfl rfl (by rfl)) ?_; clear S a; intro a S) | (refine wpl_v S rfl rfl rfl (sv_loadF S rfl rfl (by assumption)) ?_; clear S a; intro a S)
                          refine wpl_take S rfl rfl rfl ?_
                          (refine wpl_v S rfl rfl rfl (sv_indexSN (i := 0) S rfl rfl rfl (by first | omega | (have h9 := List.length_pos_iff.2 (hf0 (by assumption) (by assumption)).1; omega))) ?_; clear S a; intro a S)
                          refine wpl_take S rfl rfl rfl ?_
                          (refine wpl_v S rfl rfl rfl (sv_pure S rfl) ?_; clear S a; intro a S)
                          refine wpl_take S rfl rfl rfl ?_
                          first | (refine wpl_v S rfl rfl rfl (sv_pure S rfl) ?_; clear S a; intro a S) | (refine wpl_v S rfl rfl rfl (sv_pickB S rfl rfl rfl rfl) ?_; clear S a; intro a S)
                          refine wpl_take S rfl rfl rfl ?_
                          first | (refine wpl_v S rfl rfl rfl (sv_pure S rfl) ?_; clear S a; intro a S) | (refine wpl_v S rfl rfl rfl (sv_pickB S rfl rfl rfl rfl) ?_; clear S a; intro a S)
                          first | (refine wpl_v S rfl rfl rfl (sv_pure S rfl) ?_; clear S a; intro a S) | (refine wpl_v S rfl rfl rfl (sv_pickB S rfl rfl rfl rfl) ?_; clear S a; intro a S)
                          refine wpList_nil ?_
                          (refine hKq19 _ _ ?_; try (clear hKq19 Kq19))
                          refine wpc_split S rfl (fun h => ?_) (fun h => ?_)
                          · (skip; (try simp only [decide_eq_true_eq, decide_eq_false_iff_not, beq_iff_eq, bne_iff_ne, bne_eq_false_iff_eq, beq_eq_false_iff_ne, ne_eq, Bool.not_eq_true', Bool.not_eq_false', Bool.not_eq_true, Bool.not_eq_false, Bool.not_true, Bool.not_false, Int.ofNat_lt, Int.ofNat_le, Nat.not_lt, Nat.not_le] at h))
                            (refine wp_seq_k ?_; intro Kq20 hKq20)
                            refine wp_region_lit ?_
                            (refine wpl_v S rfl rfl rfl (sv_pure S rfl) ?_; clear S a; intro a S)
                            refine wpList_nil ?_
                            (refine hKq20 _ _ ?_; try (clear hKq20 Kq20))
                            refine wp_ret ?_
                            refine fin_ret S (results1 Tryd.results7 (RV.tmp S rfl)) ?_
                            (first | rfl | (have hke : k = (tokens s).1.length := (by first | omega | (have h9 := List.drop_eq_nil_iff.1 (hof.le_nil (by omega)); omega)); rw [hke]; simp; done) | (exfalso; first | omega | (have hf := hf0 (by assumption) (by assumption); first | exact absurd (by assumption) hf.1 | exact absurd (congrArg (fun c : UInt8 => ((c.toNat : Nat) : Int)) hf.2) (by assumption))) | trace_state)
                          · (skip; (try simp only [decide_eq_true_eq, decide_eq_false_iff_not, beq_iff_eq, bne_iff_ne, bne_eq_false_iff_eq, beq_eq_false_iff_ne, ne_eq, Bool.not_eq_true', Bool.not_eq_false', Bool.not_eq_true, Bool.not_eq_false, Bool.not_true, Bool.not_false, Int.ofNat_lt, Int.ofNat_le, Nat.not_lt, Nat.not_le] at h))
                            refine wp_skip ?_
                            (refine hKq18 _ _ ?_; try (clear hKq18 Kq18))
                            refine wp_region_lit ?_
                            (refine wpl_v S rfl rfl rfl (sv_pure S rfl) ?_; clear S a; intro a S)
                            (refine wpl_v S rfl rfl rfl (sv_add S rfl rfl rfl (by first | omega | (have h9 := List.length_pos_iff.2 (hf0 (by assumption) (by assumption)).1; omega))) ?_; clear S a; intro a S)
                            (refine wpl_v S rfl rfl rfl (sv_pure S rfl) ?_; clear S a; intro a S)
                            refine wpList_nil ?_
                            (refine hKq14 _ _ ?_; try (clear hKq14 Kq14))
                            (refine wp_seq_k ?_; intro Kq20 hKq20)
                            (first | (have hK := hio) | (have hne : o ≠ i := fun h9 => (by have hq : ((place (1, 1) (s.take i)).1 == ((tokens s).1[k]'hkl2).line && (place (1, 1) (s.take i)).2 == ((tokens s).1[k]'hkl2).col) = false := (by assumption); rw [h9] at ho3; rw [ho3] at hq; simp at hq)))
                            refine wp_region_lit ?_
                            (refine wpl_v S rfl rfl rfl (sv_fieldAddr S rfl rfl rfl inferInstance rfl) ?_; clear S a; intro a S)
                            first | (refine wpl_v S rfl rfl rfl (sv_loadO S rfl rfl (by rfl)) ?_; clear S a; intro a S) | (refine wpl_v S rfl rfl rfl (sv_loadF S rfl rfl (by assumption)) ?_; clear S a; intro a S)
                            (refine wpl_v S rfl rfl rfl (sv_add S rfl rfl rfl (by first | omega | (have h9 := List.length_pos_iff.2 (hf0 (by assumption) (by assumption)).1; omega))) ?_; clear S a; intro a S)
                            (refine wpl_v S rfl rfl rfl (sv_fieldAddr S rfl rfl rfl inferInstance rfl) ?_; clear S a; intro a S)
                            (refine wpl_store1 S rfl rfl rfl rfl rfl rfl (by first | (simp; done) | (simp [Value.cells]; done) | exact Nat.le_of_ble_eq_true rfl) ?_; clear S; intro w S)
                            refine wpList_nil ?_
                            (refine hKq20 _ _ ?_; try (clear hKq20 Kq20))
                            (refine wp_seq_k ?_; intro Kq21 hKq21)
                            refine wp_region_lit ?_
                            (refine wpl_v S rfl rfl rfl (sv_pure S rfl) ?_; clear S a; intro a S)
                            (refine wpl_v S rfl rfl rfl (sv_pure S rfl) ?_; clear S a; intro a S)
                            first | (refine wpl_v S rfl rfl rfl (sv_indexSN S rfl rfl rfl (by first | omega | (have h9 := List.length_pos_iff.2 (hf0 (by assumption) (by assumption)).1; omega))) ?_; clear S a; intro a S) | (refine wpl_v S rfl rfl rfl (sv_indexS S rfl rfl rfl (by first | omega | (have h9 := List.length_pos_iff.2 (hf0 (by assumption) (by assumption)).1; omega))) ?_; clear S a; intro a S)
                            (refine wpl_v S rfl rfl rfl (sv_pure S rfl) ?_; clear S a; intro a S)
                            refine wpList_nil ?_
                            (refine hKq21 _ _ ?_; try (clear hKq21 Kq21))
                            refine wpc_split S rfl (fun h => ?_) (fun h => ?_)
                            · (skip; (try simp only [decide_eq_true_eq, decide_eq_false_iff_not, beq_iff_eq, bne_iff_ne, bne_eq_false_iff_eq, beq_eq_false_iff_ne, ne_eq, Bool.not_eq_true', Bool.not_eq_false', Bool.not_eq_true, Bool.not_eq_false, Bool.not_true, Bool.not_false, Int.ofNat_lt, Int.ofNat_le, Nat.not_lt, Nat.not_le] at h))
                              refine wp_region_lit ?_
                              (refine wpl_v S rfl rfl rfl (sv_fieldAddr S rfl rfl rfl inferInstance rfl) ?_; clear S a; intro a S)
                              first | (refine wpl_v S rfl rfl rfl (sv_loadO S rfl rfl (by rfl)) ?_; clear S a; intro a S) | (refine wpl_v S rfl rfl rfl (sv_loadF S rfl rfl (by assumption)) ?_; clear S a; intro a S)
                              (refine wpl_v S rfl rfl rfl (sv_add S rfl rfl rfl (by first | omega | (have h9 := List.length_pos_iff.2 (hf0 (by assumption) (by assumption)).1; omega))) ?_; clear S a; intro a S)
                              (refine wpl_v S rfl rfl rfl (sv_build S rfl rfl rfl) ?_; clear S a; intro a S)
                              (refine wpl_storeO S rfl rfl rfl rfl rfl (by rfl) (by simp [Value.cells, Value.oneCell', splice, tkC]) (by rfl) ?_; clear S; intro w S)
                              refine wpList_nil ?_
                              (refine hKq13 _ _ ?_; try (clear hKq13 Kq13))
                              refine wp_region_lit ?_
                              (refine wpl_v S rfl rfl rfl (sv_pure S rfl) ?_; clear S a; intro a S)
                              (refine wpl_v S rfl rfl rfl (sv_add S rfl rfl rfl (by first | omega | (have h9 := List.length_pos_iff.2 (hf0 (by assumption) (by assumption)).1; omega))) ?_; clear S a; intro a S)
                              (refine wpl_v S rfl rfl rfl (sv_pure S rfl) ?_; clear S a; intro a S)
                              refine wpList_nil ?_
                              change ∃ m', _ ∧ _
                              (first | (exfalso; omega) | (have hK := hio; replace S := S.drop1; refine ⟨s.length - (i + 1), by omega, i + 1, k + 1, rfl, by omega, by omega, ho5, ?_⟩; rw [place_succ (p := (1, 1)) (by omega)]; (first | rw [if_pos (by omega)] | rw [if_neg (by omega)]); refine S.keep ?_; repeat (first | exact trivial | refine ⟨rfl, ?_⟩)) | (refine ⟨s.length - (i + 1), by omega, i + 1, k, rfl, by omega, by omega, Offs.back hkl2 (by omega) ho2 ho3 ho4 ho5, ?_⟩; rw [place_succ (p := (1, 1)) (by omega)]; (first | rw [if_pos (by omega)] | rw [if_neg (by omega)]); refine S.keep ?_; repeat (first | exact trivial | refine ⟨rfl, ?_⟩)) | trace_state)
                            · (skip; (try simp only [decide_eq_true_eq, decide_eq_false_iff_not, beq_iff_eq, bne_iff_ne, bne_eq_false_iff_eq, beq_eq_false_iff_ne, ne_eq, Bool.not_eq_true', Bool.not_eq_false', Bool.not_eq_true, Bool.not_eq_false, Bool.not_true, Bool.not_false, Int.ofNat_lt, Int.ofNat_le, Nat.not_lt, Nat.not_le] at h))
                              refine wp_skip ?_
                              (refine hKq13 _ _ ?_; try (clear hKq13 Kq13))
                              refine wp_region_lit ?_
                              (refine wpl_v S rfl rfl rfl (sv_pure S rfl) ?_; clear S a; intro a S)
                              (refine wpl_v S rfl rfl rfl (sv_add S rfl rfl rfl (by first | omega | (have h9 := List.length_pos_iff.2 (hf0 (by assumption) (by assumption)).1; omega))) ?_; clear S a; intro a S)
                              (refine wpl_v S rfl rfl rfl (sv_pure S rfl) ?_; clear S a; intro a S)
                              refine wpList_nil ?_
                              change ∃ m', _ ∧ _
                              (first | (exfalso; omega) | (have hK := hio; replace S := S.drop1; refine ⟨s.length - (i + 1), by omega, i + 1, k + 1, rfl, by omega, by omega, ho5, ?_⟩; rw [place_succ (p := (1, 1)) (by omega)]; (first | rw [if_pos (by omega)] | rw [if_neg (by omega)]); refine S.keep ?_; repeat (first | exact trivial | refine ⟨rfl, ?_⟩)) | (refine ⟨s.length - (i + 1), by omega, i + 1, k, rfl, by omega, by omega, Offs.back hkl2 (by omega) ho2 ho3 ho4 ho5, ?_⟩; rw [place_succ (p := (1, 1)) (by omega)]; (first | rw [if_pos (by omega)] | rw [if_neg (by omega)]); refine S.keep ?_; repeat (first | exact trivial | refine ⟨rfl, ?_⟩)) | trace_state)
                        · (intro h; clear S a; intro a S; (try simp only [decide_eq_true_eq, decide_eq_false_iff_not, beq_iff_eq, bne_iff_ne, bne_eq_false_iff_eq, beq_eq_false_iff_ne, ne_eq, Bool.not_eq_true', Bool.not_eq_false', Bool.not_eq_true, Bool.not_eq_false, Bool.not_true, Bool.not_false, Int.ofNat_lt, Int.ofNat_le, Nat.not_lt, Nat.not_le] at h))
                          (refine wpl_skip S rfl rfl rfl rfl rfl ?_; clear S a; intro a S)
                          (refine wpl_skip S rfl rfl rfl rfl rfl ?_; clear S a; intro a S)
                          (refine wpl_skip S rfl rfl rfl rfl rfl ?_; clear S a; intro a S)
                          (refine wpl_skip S rfl rfl rfl rfl rfl ?_; clear S a; intro a S)
                          refine wpl_take S rfl rfl rfl ?_
                          first | (refine wpl_v S rfl rfl rfl (sv_pure S rfl) ?_; clear S a; intro a S) | (refine wpl_v S rfl rfl rfl (sv_pickB S rfl rfl rfl rfl) ?_; clear S a; intro a S)
                          refine wpl_take S rfl rfl rfl ?_
                          first | (refine wpl_v S rfl rfl rfl (sv_pure S rfl) ?_; clear S a; intro a S) | (refine wpl_v S rfl rfl rfl (sv_pickB S rfl rfl rfl rfl) ?_; clear S a; intro a S)
                          first | (refine wpl_v S rfl rfl rfl (sv_pure S rfl) ?_; clear S a; intro a S) | (refine wpl_v S rfl rfl rfl (sv_pickB S rfl rfl rfl rfl) ?_; clear S a; intro a S)
                          refine wpList_nil ?_
                          (refine hKq19 _ _ ?_; try (clear hKq19 Kq19))
                          refine wpc_true S rfl ?_
                          (refine wp_seq_k ?_; intro Kq20 hKq20)
                          refine wp_region_lit ?_
                          (refine wpl_v S rfl rfl rfl (sv_pure S rfl) ?_; clear S a; intro a S)
                          refine wpList_nil ?_
                          (refine hKq20 _ _ ?_; try (clear hKq20 Kq20))
                          refine wp_ret ?_
                          refine fin_ret S (results1 Tryd.results7 (RV.tmp S rfl)) ?_
                          (first | rfl | (have hke : k = (tokens s).1.length := (by first | omega | (have h9 := List.drop_eq_nil_iff.1 (hof.le_nil (by omega)); omega)); rw [hke]; simp; done) | (exfalso; first | omega | (have hf := hf0 (by assumption) (by assumption); first | exact absurd (by assumption) hf.1 | exact absurd (congrArg (fun c : UInt8 => ((c.toNat : Nat) : Int)) hf.2) (by assumption))) | trace_state)
                      · (intro h; clear S a; intro a S; (try simp only [decide_eq_true_eq, decide_eq_false_iff_not, beq_iff_eq, bne_iff_ne, bne_eq_false_iff_eq, beq_eq_false_iff_ne, ne_eq, Bool.not_eq_true', Bool.not_eq_false', Bool.not_eq_true, Bool.not_eq_false, Bool.not_true, Bool.not_false, Int.ofNat_lt, Int.ofNat_le, Nat.not_lt, Nat.not_le] at h))
                        (refine wpl_skip S rfl rfl rfl rfl rfl ?_; clear S a; intro a S)
                        (refine wpl_skip S rfl rfl rfl rfl rfl ?_; clear S a; intro a S)
                        (refine wpl_skip S rfl rfl rfl rfl rfl ?_; clear S a; intro a S)
                        (refine wpl_skipU S rfl rfl rfl rfl rfl ?_; clear S a; intro a S)
                        (refine wpl_skipU S rfl rfl rfl rfl rfl ?_; clear S a; intro a S)
                        (refine wpl_skipU S rfl rfl rfl rfl rfl ?_; clear S a; intro a S)
                        (refine wpl_skipU S rfl rfl rfl rfl rfl ?_; clear S a; intro a S)
                        (refine wpl_skipU S rfl rfl rfl rfl rfl ?_; clear S a; intro a S)
                        (refine wpl_skip S rfl rfl rfl rfl rfl ?_; clear S a; intro a S)
                        refine wpl_take S rfl rfl rfl ?_
                        first | (refine wpl_v S rfl rfl rfl (sv_pure S rfl) ?_; clear S a; intro a S) | (refine wpl_v S rfl rfl rfl (sv_pickB S rfl rfl rfl rfl) ?_; clear S a; intro a S)
                        first | (refine wpl_v S rfl rfl rfl (sv_pure S rfl) ?_; clear S a; intro a S) | (refine wpl_v S rfl rfl rfl (sv_pickB S rfl rfl rfl rfl) ?_; clear S a; intro a S)
                        refine wpList_nil ?_
                        (refine hKq19 _ _ ?_; try (clear hKq19 Kq19))
                        refine wpc_false S rfl ?_
                        refine wp_skip ?_
                        (refine hKq18 _ _ ?_; try (clear hKq18 Kq18))
                        refine wp_region_lit ?_
                        (refine wpl_v S rfl rfl rfl (sv_pure S rfl) ?_; clear S a; intro a S)
                        (refine wpl_v S rfl rfl rfl (sv_add S rfl rfl rfl (by first | omega | (have h9 := List.length_pos_iff.2 (hf0 (by assumption) (by assumption)).1; omega))) ?_; clear S a; intro a S)
                        (refine wpl_v S rfl rfl rfl (sv_pure S rfl) ?_; clear S a; intro a S)
                        refine wpList_nil ?_
                        (refine hKq14 _ _ ?_; try (clear hKq14 Kq14))
                        (refine wp_seq_k ?_; intro Kq20 hKq20)
                        (first | (have hK := hio) | (have hne : o ≠ i := fun h9 => (by have hq : ((place (1, 1) (s.take i)).1 == ((tokens s).1[k]'hkl2).line && (place (1, 1) (s.take i)).2 == ((tokens s).1[k]'hkl2).col) = false := (by assumption); rw [h9] at ho3; rw [ho3] at hq; simp at hq)))
                        refine wp_region_lit ?_
                        (refine wpl_v S rfl rfl rfl (sv_fieldAddr S rfl rfl rfl inferInstance rfl) ?_; clear S a; intro a S)
                        first | (refine wpl_v S rfl rfl rfl (sv_loadO S rfl rfl (by rfl)) ?_; clear S a; intro a S) | (refine wpl_v S rfl rfl rfl (sv_loadF S rfl rfl (by assumption)) ?_; clear S a; intro a S)
                        (refine wpl_v S rfl rfl rfl (sv_add S rfl rfl rfl (by first | omega | (have h9 := List.length_pos_iff.2 (hf0 (by assumption) (by assumption)).1; omega))) ?_; clear S a; intro a S)
                        (refine wpl_v S rfl rfl rfl (sv_fieldAddr S rfl rfl rfl inferInstance rfl) ?_; clear S a; intro a S)
                        (refine wpl_store1 S rfl rfl rfl rfl rfl rfl (by first | (simp; done) | (simp [Value.cells]; done) | exact Nat.le_of_ble_eq_true rfl) ?_; clear S; intro w S)
                        refine wpList_nil ?_
                        (refine hKq20 _ _ ?_; try (clear hKq20 Kq20))
                        (refine wp_seq_k ?_; intro Kq21 hKq21)
                        refine wp_region_lit ?_
                        (refine wpl_v S rfl rfl rfl (sv_pure S rfl) ?_; clear S a; intro a S)
                        (refine wpl_v S rfl rfl rfl (sv_pure S rfl) ?_; clear S a; intro a S)
                        first | (refine wpl_v S rfl rfl rfl (sv_indexSN S rfl rfl rfl (by first | omega | (have h9 := List.length_pos_iff.2 (hf0 (by assumption) (by assumption)).1; omega))) ?_; clear S a; intro a S) | (refine wpl_v S rfl rfl rfl (sv_indexS S rfl rfl rfl (by first | omega | (have h9 := List.length_pos_iff.2 (hf0 (by assumption) (by assumption)).1; omega))) ?_; clear S a; intro a S)
                        (refine wpl_v S rfl rfl rfl (sv_pure S rfl) ?_; clear S a; intro a S)
                        refine wpList_nil ?_
                        (refine hKq21 _ _ ?_; try (clear hKq21 Kq21))
                        refine wpc_split S rfl (fun h => ?_) (fun h => ?_)
                        · (skip; (try simp only [decide_eq_true_eq, decide_eq_false_iff_not, beq_iff_eq, bne_iff_ne, bne_eq_false_iff_eq, beq_eq_false_iff_ne, ne_eq, Bool.not_eq_true', Bool.not_eq_false', Bool.not_eq_true, Bool.not_eq_false, Bool.not_true, Bool.not_false, Int.ofNat_lt, Int.ofNat_le, Nat.not_lt, Nat.not_le] at h))
                          refine wp_region_lit ?_
                          (refine wpl_v S rfl rfl rfl (sv_fieldAddr S rfl rfl rfl inferInstance rfl) ?_; clear S a; intro a S)
                          first | (refine wpl_v S rfl rfl rfl (sv_loadO S rfl rfl (by rfl)) ?_; clear S a; intro a S) | (refine wpl_v S rfl rfl rfl (sv_loadF S rfl rfl (by assumption)) ?_; clear S a; intro a S)
                          (refine wpl_v S rfl rfl rfl (sv_add S rfl rfl rfl (by first | omega | (have h9 := List.length_pos_iff.2 (hf0 (by assumption) (by assumption)).1; omega))) ?_; clear S a; intro a S)
                          (refine wpl_v S rfl rfl rfl (sv_build S rfl rfl rfl) ?_; clear S a; intro a S)
                          (refine wpl_storeO S rfl rfl rfl rfl rfl (by rfl) (by simp [Value.cells, Value.oneCell', splice, tkC]) (by rfl) ?_; clear S; intro w S)
                          refine wpList_nil ?_
                          (refine hKq13 _ _ ?_; try (clear hKq13 Kq13))
                          refine wp_region_lit ?_
                          (refine wpl_v S rfl rfl rfl (sv_pure S rfl) ?_; clear S a; intro a S)
                          (refine wpl_v S rfl rfl rfl (sv_add S rfl rfl rfl (by first | omega | (have h9 := List.length_pos_iff.2 (hf0 (by assumption) (by assumption)).1; omega))) ?_; clear S a; intro a S)
                          (refine wpl_v S rfl rfl rfl (sv_pure S rfl) ?_; clear S a; intro a S)
                          refine wpList_nil ?_
                          change ∃ m', _ ∧ _
                          (first | (exfalso; omega) | (have hK := hio; replace S := S.drop1; refine ⟨s.length - (i + 1), by omega, i + 1, k + 1, rfl, by omega, by omega, ho5, ?_⟩; rw [place_succ (p := (1, 1)) (by omega)]; (first | rw [if_pos (by omega)] | rw [if_neg (by omega)]); refine S.keep ?_; repeat (first | exact trivial | refine ⟨rfl, ?_⟩)) | (refine ⟨s.length - (i + 1), by omega, i + 1, k, rfl, by omega, by omega, Offs.back hkl2 (by omega) ho2 ho3 ho4 ho5, ?_⟩; rw [place_succ (p := (1, 1)) (by omega)]; (first | rw [if_pos (by omega)] | rw [if_neg (by omega)]); refine S.keep ?_; repeat (first | exact trivial | refine ⟨rfl, ?_⟩)) | trace_state)
                        · (skip; (try simp only [decide_eq_true_eq, decide_eq_false_iff_not, beq_iff_eq, bne_iff_ne, bne_eq_false_iff_eq, beq_eq_false_iff_ne, ne_eq, Bool.not_eq_true', Bool.not_eq_false', Bool.not_eq_true, Bool.not_eq_false, Bool.not_true, Bool.not_false, Int.ofNat_lt, Int.ofNat_le, Nat.not_lt, Nat.not_le] at h))
                          refine wp_skip ?_
                          (refine hKq13 _ _ ?_; try (clear hKq13 Kq13))
                          refine wp_region_lit ?_
                          (refine wpl_v S rfl rfl rfl (sv_pure S rfl) ?_; clear S a; intro a S)
                          (refine wpl_v S rfl rfl rfl (sv_add S rfl rfl rfl (by first | omega | (have h9 := List.length_pos_iff.2 (hf0 (by assumption) (by assumption)).1; omega))) ?_; clear S a; intro a S)
                          (refine wpl_v S rfl rfl rfl (sv_pure S rfl) ?_; clear S a; intro a S)
                          refine wpList_nil ?_
                          change ∃ m', _ ∧ _
                          (first | (exfalso; omega) | (have hK := hio; replace S := S.drop1; refine ⟨s.length - (i + 1), by omega, i + 1, k + 1, rfl, by omega, by omega, ho5, ?_⟩; rw [place_succ (p := (1, 1)) (by omega)]; (first | rw [if_pos (by omega)] | rw [if_neg (by omega)]); refine S.keep ?_; repeat (first | exact trivial | refine ⟨rfl, ?_⟩)) | (refine ⟨s.length - (i + 1), by omega, i + 1, k, rfl, by omega, by omega, Offs.back hkl2 (by omega) ho2 ho3 ho4 ho5, ?_⟩; rw [place_succ (p := (1, 1)) (by omega)]; (first | rw [if_pos (by omega)] | rw [if_neg (by omega)]); refine S.keep ?_; repeat (first | exact trivial | refine ⟨rfl, ?_⟩)) | trace_state)
                    · (intro h; clear S a; intro a S; (try simp only [decide_eq_true_eq, decide_eq_false_iff_not, beq_iff_eq, bne_iff_ne, bne_eq_false_iff_eq, beq_eq_false_iff_ne, ne_eq, Bool.not_eq_true', Bool.not_eq_false', Bool.not_eq_true, Bool.not_eq_false, Bool.not_true, Bool.not_false, Int.ofNat_lt, Int.ofNat_le, Nat.not_lt, Nat.not_le] at h))
                      (refine wpl_skip S rfl rfl rfl rfl rfl ?_; clear S a; intro a S)
                      (refine wpl_skip S rfl rfl rfl rfl rfl ?_; clear S a; intro a S)
                      refine wpl_take S rfl rfl rfl ?_
                      first | (refine wpl_v S rfl rfl rfl (sv_pure S rfl) ?_; clear S a; intro a S) | (refine wpl_v S rfl rfl rfl (sv_pickB S rfl rfl rfl rfl) ?_; clear S a; intro a S)
                      refine wpl_take S rfl rfl rfl ?_
                      (refine wpl_v S rfl rfl rfl (sv_pure S rfl) ?_; clear S a; intro a S)
                      (refine wpl_skip S rfl rfl rfl rfl rfl ?_; clear S a; intro a S)
                      (refine wpl_skip S rfl rfl rfl rfl rfl ?_; clear S a; intro a S)
                      (refine wpl_skip S rfl rfl rfl rfl rfl ?_; clear S a; intro a S)
                      (refine wpl_skip S rfl rfl rfl rfl rfl ?_; clear S a; intro a S)
                      (refine wpl_skipU S rfl rfl rfl rfl rfl ?_; clear S a; intro a S)
                      (refine wpl_skipU S rfl rfl rfl rfl rfl ?_; clear S a; intro a S)
                      (refine wpl_skipU S rfl rfl rfl rfl rfl ?_; clear S a; intro a S)
                      (refine wpl_skipU S rfl rfl rfl rfl rfl ?_; clear S a; intro a S)
                      (refine wpl_skipU S rfl rfl rfl rfl rfl ?_; clear S a; intro a S)
                      (refine wpl_skip S rfl rfl rfl rfl rfl ?_; clear S a; intro a S)
                      refine wpl_take S rfl rfl rfl ?_
                      first | (refine wpl_v S rfl rfl rfl (sv_pure S rfl) ?_; clear S a; intro a S) | (refine wpl_v S rfl rfl rfl (sv_pickB S rfl rfl rfl rfl) ?_; clear S a; intro a S)
                      first | (refine wpl_v S rfl rfl rfl (sv_pure S rfl) ?_; clear S a; intro a S) | (refine wpl_v S rfl rfl rfl (sv_pickB S rfl rfl rfl rfl) ?_; clear S a; intro a S)
                      refine wpList_nil ?_
                      (refine hKq19 _ _ ?_; try (clear hKq19 Kq19))
                      refine wpc_false S rfl ?_
                      refine wp_skip ?_
                      (refine hKq18 _ _ ?_; try (clear hKq18 Kq18))
                      refine wp_region_lit ?_
                      (refine wpl_v S rfl rfl rfl (sv_pure S rfl) ?_; clear S a; intro a S)
                      (refine wpl_v S rfl rfl rfl (sv_add S rfl rfl rfl (by first | omega | (have h9 := List.length_pos_iff.2 (hf0 (by assumption) (by assumption)).1; omega))) ?_; clear S a; intro a S)
                      (refine wpl_v S rfl rfl rfl (sv_pure S rfl) ?_; clear S a; intro a S)
                      refine wpList_nil ?_
                      (refine hKq14 _ _ ?_; try (clear hKq14 Kq14))
                      (refine wp_seq_k ?_; intro Kq20 hKq20)
                      (first | (have hK := hio) | (have hne : o ≠ i := fun h9 => (by have hq : ((place (1, 1) (s.take i)).1 == ((tokens s).1[k]'hkl2).line && (place (1, 1) (s.take i)).2 == ((tokens s).1[k]'hkl2).col) = false := (by assumption); rw [h9] at ho3; rw [ho3] at hq; simp at hq)))
                      refine wp_region_lit ?_
                      (refine wpl_v S rfl rfl rfl (sv_fieldAddr S rfl rfl rfl inferInstance rfl) ?_; clear S a; intro a S)
                      first | (refine wpl_v S rfl rfl rfl (sv_loadO S rfl rfl (by rfl)) ?_; clear S a; intro a S) | (refine wpl_v S rfl rfl rfl (sv_loadF S rfl rfl (by assumption)) ?_; clear S a; intro a S)
                      (refine wpl_v S rfl rfl rfl (sv_add S rfl rfl rfl (by first | omega | (have h9 := List.length_pos_iff.2 (hf0 (by assumption) (by assumption)).1; omega))) ?_; clear S a; intro a S)
                      (refine wpl_v S rfl rfl rfl (sv_fieldAddr S rfl rfl rfl inferInstance rfl) ?_; clear S a; intro a S)
                      (refine wpl_store1 S rfl rfl rfl rfl rfl rfl (by first | (simp; done) | (simp [Value.cells]; done) | exact Nat.le_of_ble_eq_true rfl) ?_; clear S; intro w S)
                      refine wpList_nil ?_
                      (refine hKq20 _ _ ?_; try (clear hKq20 Kq20))
                      (refine wp_seq_k ?_; intro Kq21 hKq21)
                      refine wp_region_lit ?_
                      (refine wpl_v S rfl rfl rfl (sv_pure S rfl) ?_; clear S a; intro a S)
                      (refine wpl_v S rfl rfl rfl (sv_pure S rfl) ?_; clear S a; intro a S)
                      first | (refine wpl_v S rfl rfl rfl (sv_indexSN S rfl rfl rfl (by first | omega | (have h9 := List.length_pos_iff.2 (hf0 (by assumption) (by assumption)).1; omega))) ?_; clear S a; intro a S) | (refine wpl_v S rfl rfl rfl (sv_indexS S rfl rfl rfl (by first | omega | (have h9 := List.length_pos_iff.2 (hf0 (by assumption) (by assumption)).1; omega))) ?_; clear S a; intro a S)
                      (refine wpl_v S rfl rfl rfl (sv_pure S rfl) ?_; clear S a; intro a S)
                      refine wpList_nil ?_
                      (refine hKq21 _ _ ?_; try (clear hKq21 Kq21))
                      refine wpc_split S rfl (fun h => ?_) (fun h => ?_)
                      · (skip; (try simp only [decide_eq_true_eq, decide_eq_false_iff_not, beq_iff_eq, bne_iff_ne, bne_eq_false_iff_eq, beq_eq_false_iff_ne, ne_eq, Bool.not_eq_true', Bool.not_eq_false', Bool.not_eq_true, Bool.not_eq_false, Bool.not_true, Bool.not_false, Int.ofNat_lt, Int.ofNat_le, Nat.not_lt, Nat.not_le] at h))
                        refine wp_region_lit ?_
                        (refine wpl_v S rfl rfl rfl (sv_fieldAddr S rfl rfl rfl inferInstance rfl) ?_; clear S a; intro a S)
                        first | (refine wpl_v S rfl rfl rfl (sv_loadO S rfl rfl (by rfl)) ?_; clear S a; intro a S) | (refine wpl_v S rfl rfl rfl (sv_loadF S rfl rfl (by assumption)) ?_; clear S a; intro a S)
                        (refine wpl_v S rfl rfl rfl (sv_add S rfl rfl rfl (by first | omega | (have h9 := List.length_pos_iff.2 (hf0 (by assumption) (by assumption)).1; omega))) ?_; clear S a; intro a S)
                        (refine wpl_v S rfl rfl rfl (sv_build S rfl rfl rfl) ?_; clear S a; intro a S)
                        (refine wpl_storeO S rfl rfl rfl rfl rfl (by rfl) (by simp [Value.cells, Value.oneCell', splice, tkC]) (by rfl) ?_; clear S; intro w S)
                        refine wpList_nil ?_
                        (refine hKq13 _ _ ?_; try (clear hKq13 Kq13))
                        refine wp_region_lit ?_
                        (refine wpl_v S rfl rfl rfl (sv_pure S rfl) ?_; clear S a; intro a S)
                        (refine wpl_v S rfl rfl rfl (sv_add S rfl rfl rfl (by first | omega | (have h9 := List.length_pos_iff.2 (hf0 (by assumption) (by assumption)).1; omega))) ?_; clear S a; intro a S)
                        (refine wpl_v S rfl rfl rfl (sv_pure S rfl) ?_; clear S a; intro a S)
                        refine wpList_nil ?_
                        change ∃ m', _ ∧ _
                        (first | (exfalso; omega) | (have hK := hio; replace S := S.drop1; refine ⟨s.length - (i + 1), by omega, i + 1, k + 1, rfl, by omega, by omega, ho5, ?_⟩; rw [place_succ (p := (1, 1)) (by omega)]; (first | rw [if_pos (by omega)] | rw [if_neg (by omega)]); refine S.keep ?_; repeat (first | exact trivial | refine ⟨rfl, ?_⟩)) | (refine ⟨s.length - (i + 1), by omega, i + 1, k, rfl, by omega, by omega, Offs.back hkl2 (by omega) ho2 ho3 ho4 ho5, ?_⟩; rw [place_succ (p := (1, 1)) (by omega)]; (first | rw [if_pos (by omega)] | rw [if_neg (by omega)]); refine S.keep ?_; repeat (first | exact trivial | refine ⟨rfl, ?_⟩)) | trace_state)
                      · (skip; (try simp only [decide_eq_true_eq, decide_eq_false_iff_not, beq_iff_eq, bne_iff_ne, bne_eq_false_iff_eq, beq_eq_false_iff_ne, ne_eq, Bool.not_eq_true', Bool.not_eq_false', Bool.not_eq_true, Bool.not_eq_false, Bool.not_true, Bool.not_false, Int.ofNat_lt, Int.ofNat_le, Nat.not_lt, Nat.not_le] at h))
                        refine wp_skip ?_
                        (refine hKq13 _ _ ?_; try (clear hKq13 Kq13))
                        refine wp_region_lit ?_
                        (refine wpl_v S rfl rfl rfl (sv_pure S rfl) ?_; clear S a; intro a S)
                        (refine wpl_v S rfl rfl rfl (sv_add S rfl rfl rfl (by first | omega | (have h9 := List.length_pos_iff.2 (hf0 (by assumption) (by assumption)).1; omega))) ?_; clear S a; intro a S)
                        (refine wpl_v S rfl rfl rfl (sv_pure S rfl) ?_; clear S a; intro a S)
                        refine wpList_nil ?_
                        change ∃ m', _ ∧ _
                        (first | (exfalso; omega) | (have hK := hio; replace S := S.drop1; refine ⟨s.length - (i + 1), by omega, i + 1, k + 1, rfl, by omega, by omega, ho5, ?_⟩; rw [place_succ (p := (1, 1)) (by omega)]; (first | rw [if_pos (by omega)] | rw [if_neg (by omega)]); refine S.keep ?_; repeat (first | exact trivial | refine ⟨rfl, ?_⟩)) | (refine ⟨s.length - (i + 1), by omega, i + 1, k, rfl, by omega, by omega, Offs.back hkl2 (by omega) ho2 ho3 ho4 ho5, ?_⟩; rw [place_succ (p := (1, 1)) (by omega)]; (first | rw [if_pos (by omega)] | rw [if_neg (by omega)]); refine S.keep ?_; repeat (first | exact trivial | refine ⟨rfl, ?_⟩)) | trace_state)
                · (intro h; clear S a; intro a S; (try simp only [decide_eq_true_eq, decide_eq_false_iff_not, beq_iff_eq, bne_iff_ne, bne_eq_false_iff_eq, beq_eq_false_iff_ne, ne_eq, Bool.not_eq_true', Bool.not_eq_false', Bool.not_eq_true, Bool.not_eq_false, Bool.not_true, Bool.not_false, Int.ofNat_lt, Int.ofNat_le, Nat.not_lt, Nat.not_le] at h))
                  (refine wpl_skip S rfl rfl rfl rfl rfl ?_; clear S a; intro a S)
                  (refine wpl_skip S rfl rfl rfl rfl rfl ?_; clear S a; intro a S)
                  (refine wpl_skip S rfl rfl rfl rfl rfl ?_; clear S a; intro a S)
                  (refine wpl_skipU S rfl rfl rfl rfl rfl ?_; clear S a; intro a S)
                  (refine wpl_skipU S rfl rfl rfl rfl rfl ?_; clear S a; intro a S)
                  (refine wpl_skip S rfl rfl rfl rfl rfl ?_; clear S a; intro a S)
                  first | (refine wpl_v S rfl rfl rfl (sv_pure S rfl) ?_; clear S a; intro a S) | (refine wpl_v S rfl rfl rfl (sv_pickB S rfl rfl rfl rfl) ?_; clear S a; intro a S)
                  (refine wpl_v S rfl rfl rfl (sv_pure S rfl) ?_; clear S a; intro a S)
                  (refine wpl_skip S rfl rfl rfl rfl rfl ?_; clear S a; intro a S)
                  (refine wpl_skip S rfl rfl rfl rfl rfl ?_; clear S a; intro a S)
                  (refine wpl_skip S rfl rfl rfl rfl rfl ?_; clear S a; intro a S)
                  (refine wpl_skip S rfl rfl rfl rfl rfl ?_; clear S a; intro a S)
                  (refine wpl_skipU S rfl rfl rfl rfl rfl ?_; clear S a; intro a S)
                  (refine wpl_skipU S rfl rfl rfl rfl rfl ?_; clear S a; intro a S)
                  (refine wpl_skipU S rfl rfl rfl rfl rfl ?_; clear S a; intro a S)
                  (refine wpl_skip S rfl rfl rfl rfl rfl ?_; clear S a; intro a S)
                  (refine wpl_skip S rfl rfl rfl rfl rfl ?_; clear S a; intro a S)
                  (refine wpl_skipU S rfl rfl rfl rfl rfl ?_; clear S a; intro a S)
                  (refine wpl_skipU S rfl rfl rfl rfl rfl ?_; clear S a; intro a S)
                  (refine wpl_skipU S rfl rfl rfl rfl rfl ?_; clear S a; intro a S)
                  (refine wpl_skipU S rfl rfl rfl rfl rfl ?_; clear S a; intro a S)
                  (refine wpl_skipU S rfl rfl rfl rfl rfl ?_; clear S a; intro a S)
                  (refine wpl_skipU S rfl rfl rfl rfl rfl ?_; clear S a; intro a S)
                  (refine wpl_skipU S rfl rfl rfl rfl rfl ?_; clear S a; intro a S)
                  (refine wpl_skipU S rfl rfl rfl rfl rfl ?_; clear S a; intro a S)
                  (refine wpl_skipU S rfl rfl rfl rfl rfl ?_; clear S a; intro a S)
                  (refine wpl_skipU S rfl rfl rfl rfl rfl ?_; clear S a; intro a S)
                  (refine wpl_skip S rfl rfl rfl rfl rfl ?_; clear S a; intro a S)
                  first | (refine wpl_v S rfl rfl rfl (sv_pure S rfl) ?_; clear S a; intro a S) | (refine wpl_v S rfl rfl rfl (sv_pickB S rfl rfl rfl rfl) ?_; clear S a; intro a S)
                  refine wpList_nil ?_
                  (refine hKq19 _ _ ?_; try (clear hKq19 Kq19))
                  refine wpc_true S rfl ?_
                  (refine wp_seq_k ?_; intro Kq20 hKq20)
                  refine wp_region_lit ?_
                  (refine wpl_v S rfl rfl rfl (sv_pure S rfl) ?_; clear S a; intro a S)
                  refine wpList_nil ?_
                  (refine hKq20 _ _ ?_; try (clear hKq20 Kq20))
                  refine wp_ret ?_
                  refine fin_ret S (results1 Tryd.results7 (RV.tmp S rfl)) ?_
                  (first | rfl | (have hke : k = (tokens s).1.length := (by first | omega | (have h9 := List.drop_eq_nil_iff.1 (hof.le_nil (by omega)); omega)); rw [hke]; simp; done) | (exfalso; first | omega | (have hf := hf0 (by assumption) (by assumption); first | exact absurd (by assumption) hf.1 | exact absurd (congrArg (fun c : UInt8 => ((c.toNat : Nat) : Int)) hf.2) (by assumption))) | trace_state)
              · (intro h; clear S a; intro a S; (try simp only [decide_eq_true_eq, decide_eq_false_iff_not, beq_iff_eq, bne_iff_ne, bne_eq_false_iff_eq, beq_eq_false_iff_ne, ne_eq, Bool.not_eq_true', Bool.not_eq_false', Bool.not_eq_true, Bool.not_eq_false, Bool.not_true, Bool.not_false, Int.ofNat_lt, Int.ofNat_le, Nat.not_lt, Nat.not_le] at h))
                (refine wpl_skip S rfl rfl rfl rfl rfl ?_; clear S a; intro a S)
                first | (refine wpl_v S rfl rfl rfl (sv_pure S rfl) ?_; clear S a; intro a S) | (refine wpl_v S rfl rfl rfl (sv_pickB S rfl rfl rfl rfl) ?_; clear S a; intro a S)
                (refine wpl_v S rfl rfl rfl (sv_pure S rfl) ?_; clear S a; intro a S)
                refine wpl_take S rfl rfl rfl ?_
                (refine wpl_v S rfl rfl rfl (sv_fieldAddr S rfl rfl rfl inferInstance rfl) ?_; clear S a; intro a S)
                refine wpl_take S rfl rfl rfl ?_
                first | (refine wpl_v S rfl rfl rfl (sv_loadO S rfl rfl (by rfl)) ?_; clear S a; intro a S) | (refine wpl_v S rfl rfl rfl (sv_loadF S rfl rfl (by assumption)) ?_; clear S a; intro a S)
                refine wpl_take S rfl rfl rfl ?_
                (refine wpl_v S rfl rfl rfl (sv_pure S rfl) ?_; clear S a; intro a S)
                refine wpl_take S rfl rfl rfl ?_
                (refine wpl_v S rfl rfl rfl (sv_pure S rfl) ?_; clear S a; intro a S)
                refine wpl_guard S rfl rfl rfl rfl rfl ?_ ?_
                · (intro h S'; clear S; have S := S'; clear S'; (try simp only [decide_eq_true_eq, decide_eq_false_iff_not, beq_iff_eq, bne_iff_ne, bne_eq_false_iff_eq, beq_eq_false_iff_ne, ne_eq, Bool.not_eq_true', Bool.not_eq_false', Bool.not_eq_true, Bool.not_eq_false, Bool.not_true, Bool.not_false, Int.ofNat_lt, Int.ofNat_le, Nat.not_lt, Nat.not_le] at h))
                  (refine wpl_v S rfl rfl rfl (sv_pure S rfl) ?_; clear S a; intro a S)
                  refine wpl_take S rfl rfl rfl ?_
                  (refine wpl_v S rfl rfl rfl (sv_pure S rfl) ?_; clear S a; intro a S)
                  refine wpl_take S rfl rfl rfl ?_
                  first | (refine wpl_v S rfl rfl rfl (sv_pure S rfl) ?_; clear S a; intro a S) | (refine wpl_v S rfl rfl rfl (sv_pickB S rfl rfl rfl rfl) ?_; clear S a; intro a S)
                  first | (refine wpl_v S rfl rfl rfl (sv_pure S rfl) ?_; clear S a; intro a S) | (refine wpl_v S rfl rfl rfl (sv_pickB S rfl rfl rfl rfl) ?_; clear S a; intro a S)
                  (refine wpl_v S rfl rfl rfl (sv_pure S rfl) ?_; clear S a; intro a S)
                  refine wpl_guard S rfl rfl rfl rfl rfl ?_ ?_
                  · (intro h S'; clear S; have S := S'; clear S'; (try simp only [decide_eq_true_eq, decide_eq_false_iff_not, beq_iff_eq, bne_iff_ne, bne_eq_false_iff_eq, beq_eq_false_iff_ne, ne_eq, Bool.not_eq_true', Bool.not_eq_false', Bool.not_eq_true, Bool.not_eq_false, Bool.not_true, Bool.not_false, Int.ofNat_lt, Int.ofNat_le, Nat.not_lt, Nat.not_le] at h))
                    (refine wpl_v S rfl rfl rfl (sv_fieldAddr S rfl rfl rfl inferInstance rfl) ?_; clear S a; intro a S)
                    refine wpl_take S rfl rfl rfl ?_
                    first | (refine wpl_v S rfl rfl rfl (sv_loadO S rfl rfl (by rfl)) ?_; clear S a; intro a S) | (refine wpl_v S rfl rfl rfl (sv_loadF S rfl rfl (by assumption)) ?_; clear S a; intro a S)
                    refine wpl_take S rfl rfl rfl ?_
                    (refine wpl_v S rfl rfl rfl (sv_pure S rfl) ?_; clear S a; intro a S)
                    refine wpl_take S rfl rfl rfl ?_
                    (refine wpl_v S rfl rfl rfl (sv_pure S rfl) ?_; clear S a; intro a S)
                    refine wpl_guard S rfl rfl rfl rfl rfl ?_ ?_
                    · (intro h S'; clear S; have S := S'; clear S'; (try simp only [decide_eq_true_eq, decide_eq_false_iff_not, beq_iff_eq, bne_iff_ne, bne_eq_false_iff_eq, beq_eq_false_iff_ne, ne_eq, Bool.not_eq_true', Bool.not_eq_false', Bool.not_eq_true, Bool.not_eq_false, Bool.not_true, Bool.not_false, Int.ofNat_lt, Int.ofNat_le, Nat.not_lt, Nat.not_le] at h))
                      (refine wpl_v S rfl rfl rfl (sv_fieldAddr S rfl rfl rfl inferInstance rfl) ?_; clear S a; intro a S)
                      refine wpl_take S rfl rfl rfl ?_
                      first | (refine wpl_v S rfl rfl rfl (sv_loadO S rfl rfl (by rfl)) ?_; clear S a; intro a S) | (refine wpl_v S rfl rfl rfl (sv_loadF S rfl rfl (by assumption)) ?_; clear S a; intro a S)
                      refine wpl_take S rfl rfl rfl ?_
                      (refine wpl_v S rfl rfl rfl (sv_pure S rfl) ?_; clear S a; intro a S)
                      refine wpl_take S rfl rfl rfl ?_
                      first | (refine wpl_v S rfl rfl rfl (sv_pure S rfl) ?_; clear S a; intro a S) | (refine wpl_v S rfl rfl rfl (sv_pickB S rfl rfl rfl rfl) ?_; clear S a; intro a S)
                      refine wpl_take S rfl rfl rfl ?_
                      (refine wpl_v S rfl rfl rfl (sv_pure S rfl) ?_; clear S a; intro a S)
                      refine wpl_guard S rfl rfl rfl rfl rfl ?_ ?_
                      · (intro h S'; clear S; have S := S'; clear S'; (try simp only [decide_eq_true_eq, decide_eq_false_iff_not, beq_iff_eq, bne_iff_ne, bne_eq_false_iff_eq, beq_eq_false_iff_ne, ne_eq, Bool.not_eq_true', Bool.not_eq_false', Bool.not_eq_true, Bool.not_eq_false, Bool.not_true, Bool.not_false, Int.ofNat_lt, Int.ofNat_le, Nat.not_lt, Nat.not_le] at h))
                        (refine wpl_v S rfl rfl rfl (sv_fieldAddr S rfl rfl rfl inferInstance rfl) ?_; clear S a; intro a S)
                        refine wpl_take S rfl rfl rfl ?_
                        first | (refine wpl_v S rfl rfl rfl (sv_loadO S rfl rfl (by rfl)) ?_; clear S a; intro a S) | (refine wpl_v S rfl rfl rfl (sv_loadF S rfl rfl (by assumption)) ?_; clear S a; intro a S)
                        refine wpl_take S rfl rfl rfl ?_
                        (refine wpl_v S rfl rfl rfl (sv_pure S rfl) ?_; clear S a; intro a S)
                        refine wpl_take S rfl rfl rfl ?_
                        (refine wpl_v S rfl rfl rfl (sv_pure S rfl) ?_; clear S a; intro a S)
                        refine wpl_guard S rfl rfl rfl rfl rfl ?_ ?_
                        · (intro h S'; clear S; have S := S'; clear S'; (try simp only [decide_eq_true_eq, decide_eq_false_iff_not, beq_iff_eq, bne_iff_ne, bne_eq_false_iff_eq, beq_eq_false_iff_ne, ne_eq, Bool.not_eq_true', Bool.not_eq_false', Bool.not_eq_true, Bool.not_eq_false, Bool.not_true, Bool.not_false, Int.ofNat_lt, Int.ofNat_le, Nat.not_lt, Nat.not_le] at h))
                          (refine wpl_v S rfl rfl rfl (sv_pure S rfl) ?_; clear S a; intro a S)
                          refine wpl_take S rfl rfl rfl ?_
                          (refine wpl_v S rfl rfl rfl (sv_fieldAddr S rfl rfl rfl inferInstance rfl) ?_; clear S a; intro a S)
                          refine wpl_take S rfl rfl rfl ?_
                          first | (refine wpl_v S rfl rfl rfl (sv_loadO S rfl rfl (by rfl)) ?_; clear S a; intro a S) | (refine wpl_v S rfl rfl rfl (sv_loadF S rfl rfl (by assumption)) ?_; clear S a; intro a S)
                          refine wpl_take S rfl rfl rfl ?_
                          (refine wpl_v S rfl rfl rfl (sv_indexSN (i := 0) S rfl rfl rfl (by first | omega | (have h9 := List.length_pos_iff.2 (hf0 (by assumption) (by assumption)).1; omega))) ?_; clear S a; intro a S)
                          refine wpl_take S rfl rfl rfl ?_
                          (refine wpl_v S rfl rfl rfl (sv_pure S rfl) ?_; clear S a; intro a S)
                          refine wpl_take S rfl rfl rfl ?_
                          first | (refine wpl_v S rfl rfl rfl (sv_pure S rfl) ?_; clear S a; intro a S) | (refine wpl_v S rfl rfl rfl (sv_pickB S rfl rfl rfl rfl) ?_; clear S a; intro a S)
                          refine wpl_take S rfl rfl rfl ?_
                          first | (refine wpl_v S rfl rfl rfl (sv_pure S rfl) ?_; clear S a; intro a S) | (refine wpl_v S rfl rfl rfl (sv_pickB S rfl rfl rfl rfl) ?_; clear S a; intro a S)
                          first | (refine wpl_v S rfl rfl rfl (sv_pure S rfl) ?_; clear S a; intro a S) | (refine wpl_v S rfl rfl rfl (sv_pickB S rfl rfl rfl rfl) ?_; clear S a; intro a S)
                          refine wpList_nil ?_
                          (refine hKq19 _ _ ?_; try (clear hKq19 Kq19))
                          refine wpc_split S rfl (fun h => ?_) (fun h => ?_)
                          · (skip; (try simp only [decide_eq_true_eq, decide_eq_false_iff_not, beq_iff_eq, bne_iff_ne, bne_eq_false_iff_eq, beq_eq_false_iff_ne, ne_eq, Bool.not_eq_true', Bool.not_eq_false', Bool.not_eq_true, Bool.not_eq_false, Bool.not_true, Bool.not_false, Int.ofNat_lt, Int.ofNat_le, Nat.not_lt, Nat.not_le] at h))
                            (refine wp_seq_k ?_; intro Kq20 hKq20)
                            refine wp_region_lit ?_
                            (refine wpl_v S rfl rfl rfl (sv_pure S rfl) ?_; clear S a; intro a S)
                            refine wpList_nil ?_
                            (refine hKq20 _ _ ?_; try (clear hKq20 Kq20))
                            refine wp_ret ?_
                            refine fin_ret S (results1 Tryd.results7 (RV.tmp S rfl)) ?_
                            (first | rfl | (have hke : k = (tokens s).1.length := (by first | omega | (have h9 := List.drop_eq_nil_iff.1 (hof.le_nil (by omega)); omega)); rw [hke]; simp; done) | (exfalso; first | omega | (have hf := hf0 (by assumption) (by assumption); first | exact absurd (by assumption) hf.1 | exact absurd (congrArg (fun c : UInt8 => ((c.toNat : Nat) : Int)) hf.2) (by assumption))) | trace_state)
                          · (skip; (try simp only [decide_eq_true_eq, decide_eq_false_iff_not, beq_iff_eq, bne_iff_ne, bne_eq_false_iff_eq, beq_eq_false_iff_ne, ne_eq, Bool.not_eq_true', Bool.not_eq_false', Bool.not_eq_true, Bool.not_eq_false, Bool.not_true, Bool.not_false, Int.ofNat_lt, Int.ofNat_le, Nat.not_lt, Nat.not_le] at h))
                            refine wp_skip ?_
                            (refine hKq18 _ _ ?_; try (clear hKq18 Kq18))
                            refine wp_region_lit ?_
                            (refine wpl_v S rfl rfl rfl (sv_pure S rfl) ?_; clear S a; intro a S)
                            (refine wpl_v S rfl rfl rfl (sv_add S rfl rfl rfl (by first | omega | (have h9 := List.length_pos_iff.2 (hf0 (by assumption) (by assumption)).1; omega))) ?_; clear S a; intro a S)
                            (refine wpl_v S rfl rfl rfl (sv_pure S rfl) ?_; clear S a; intro a S)
                            refine wpList_nil ?_
                            (refine hKq14 _ _ ?_; try (clear hKq14 Kq14))
                            (refine wp_seq_k ?_; intro Kq20 hKq20)
                            (first | (have hK := hio) | (have hne : o ≠ i := fun h9 => (by have hq : ((place (1, 1) (s.take i)).1 == ((tokens s).1[k]'hkl2).line && (place (1, 1) (s.take i)).2 == ((tokens s).1[k]'hkl2).col) = false := (by assumption); rw [h9] at ho3; rw [ho3] at hq; simp at hq)))
                            refine wp_region_lit ?_
                            (refine wpl_v S rfl rfl rfl (sv_fieldAddr S rfl rfl rfl inferInstance rfl) ?_; clear S a; intro a S)
                            first | (refine wpl_v S rfl rfl rfl (sv_loadO S rfl rfl (by rfl)) ?_; clear S a; intro a S) | (refine wpl_v S rfl rfl rfl (sv_loadF S rfl rfl (by assumption)) ?_; clear S a; intro a S)
                            (refine wpl_v S rfl rfl rfl (sv_add S rfl rfl rfl (by first | omega | (have h9 := List.length_pos_iff.2 (hf0 (by assumption) (by assumption)).1; omega))) ?_; clear S a; intro a S)
                            (refine wpl_v S rfl rfl rfl (sv_fieldAddr S rfl rfl rfl inferInstance rfl) ?_; clear S a; intro a S)
                            (refine wpl_store1 S rfl rfl rfl rfl rfl rfl (by first | (simp; done) | (simp [Value.cells]; done) | exact Nat.le_of_ble_eq_true rfl) ?_; clear S; intro w S)
                            refine wpList_nil ?_
                            (refine hKq20 _ _ ?_; try (clear hKq20 Kq20))
                            (refine wp_seq_k ?_; intro Kq21 hKq21)
                            refine wp_region_lit ?_
                            (refine wpl_v S rfl rfl rfl (sv_pure S rfl) ?_; clear S a; intro a S)
                            (refine wpl_v S rfl rfl rfl (sv_pure S rfl) ?_; clear S a; intro a S)
                            first | (refine wpl_v S rfl rfl rfl (sv_indexSN S rfl rfl rfl (by first | omega | (have h9 := List.length_pos_iff.2 (hf0 (by assumption) (by assumption)).1; omega))) ?_; clear S a; intro a S) | (refine wpl_v S rfl rfl rfl (sv_indexS S rfl rfl rfl (by first | omega | (have h9 := List.length_pos_iff.2 (hf0 (by assumption) (by assumption)).1; omega))) ?_; clear S a; intro a S)
                            (refine wpl_v S rfl rfl rfl (sv_pure S rfl) ?_; clear S a; intro a S)
                            refine wpList_nil ?_
                            (refine hKq21 _ _ ?_; try (clear hKq21 Kq21))
                            refine wpc_split S rfl (fun h => ?_) (fun h => ?_)
                            · (skip; (try simp only [decide_eq_true_eq, decide_eq_false_iff_not, beq_iff_eq, bne_iff_ne, bne_eq_false_iff_eq, beq_eq_false_iff_ne, ne_eq, Bool.not_eq_true', Bool.not_eq_false', Bool.not_eq_true, Bool.not_eq_false, Bool.not_true, Bool.not_false, Int.ofNat_lt, Int.ofNat_le, Nat.not_lt, Nat.not_le] at h))
                              refine wp_region_lit ?_
                              (refine wpl_v S rfl rfl rfl (sv_fieldAddr S rfl rfl rfl inferInstance rfl) ?_; clear S a; intro a S)
                              first | (refine wpl_v S rfl rfl rfl (sv_loadO S rfl rfl (by rfl)) ?_; clear S a; intro a S) | (refine wpl_v S rfl rfl rfl (sv_loadF S rfl rfl (by assumption)) ?_; clear S a; intro a S)
                              (refine wpl_v S rfl rfl rfl (sv_add S rfl rfl rfl (by first | omega | (have h9 := List.length_pos_iff.2 (hf0 (by assumption) (by assumption)).1; omega))) ?_; clear S a; intro a S)
                              (refine wpl_v S rfl rfl rfl (sv_build S rfl rfl rfl) ?_; clear S a; intro a S)
                              (refine wpl_storeO S rfl rfl rfl rfl rfl (by rfl) (by simp [Value.cells, Value.oneCell', splice, tkC]) (by rfl) ?_; clear S; intro w S)
                              refine wpList_nil ?_
                              (refine hKq13 _ _ ?_; try (clear hKq13 Kq13))
                              refine wp_region_lit ?_
                              (refine wpl_v S rfl rfl rfl (sv_pure S rfl) ?_; clear S a; intro a S)
                              (refine wpl_v S rfl rfl rfl (sv_add S rfl rfl rfl (by first | omega | (have h9 := List.length_pos_iff.2 (hf0 (by assumption) (by assumption)).1; omega))) ?_; clear S a; intro a S)
                              (refine wpl_v S rfl rfl rfl (sv_pure S rfl) ?_; clear S a; intro a S)
                              refine wpList_nil ?_
                              change ∃ m', _ ∧ _
                              (first | (exfalso; omega) | (have hK := hio; replace S := S.drop1; refine ⟨s.length - (i + 1), by omega, i + 1, k + 1, rfl, by omega, by omega, ho5, ?_⟩; rw [place_succ (p := (1, 1)) (by omega)]; (first | rw [if_pos (by omega)] | rw [if_neg (by omega)]); refine S.keep ?_; repeat (first | exact trivial | refine ⟨rfl, ?_⟩)) | (refine ⟨s.length - (i + 1), by omega, i + 1, k, rfl, by omega, by omega, Offs.back hkl2 (by omega) ho2 ho3 ho4 ho5, ?_⟩; rw [place_succ (p := (1, 1)) (by omega)]; (first | rw [if_pos (by omega)] | rw [if_neg (by omega)]); refine S.keep ?_; repeat (first | exact trivial | refine ⟨rfl, ?_⟩)) | trace_state)
                            · (skip; (try simp only [decide_eq_true_eq, decide_eq_false_iff_not, beq_iff_eq, bne_iff_ne, bne_eq_false_iff_eq, beq_eq_false_iff_ne, ne_eq, Bool.not_eq_true', Bool.not_eq_false', Bool.not_eq_true, Bool.not_eq_false, Bool.not_true, Bool.not_false, Int.ofNat_lt, Int.ofNat_le, Nat.not_lt, Nat.not_le] at h))
                              refine wp_skip ?_
                              (refine hKq13 _ _ ?_; try (clear hKq13 Kq13))
                              refine wp_region_lit ?_
                              (refine wpl_v S rfl rfl rfl (sv_pure S rfl) ?_; clear S a; intro a S)
                              (refine wpl_v S rfl rfl rfl (sv_add S rfl rfl rfl (by first | omega | (have h9 := List.length_pos_iff.2 (hf0 (by assumption) (by assumption)).1; omega))) ?_; clear S a; intro a S)
                              (refine wpl_v S rfl rfl rfl (sv_pure S rfl) ?_; clear S a; intro a S)
                              refine wpList_nil ?_
                              change ∃ m', _ ∧ _
                              (first | (exfalso; omega) | (have hK := hio; replace S := S.drop1; refine ⟨s.length - (i + 1), by omega, i + 1, k + 1, rfl, by omega, by omega, ho5, ?_⟩; rw [place_succ (p := (1, 1)) (by omega)]; (first | rw [if_pos (by omega)] | rw [if_neg (by omega)]); refine S.keep ?_; repeat (first | exact trivial | refine ⟨rfl, ?_⟩)) | (refine ⟨s.length - (i + 1), by omega, i + 1, k, rfl, by omega, by omega, Offs.back hkl2 (by omega) ho2 ho3 ho4 ho5, ?_⟩; rw [place_succ (p := (1, 1)) (by omega)]; (first | rw [if_pos (by omega)] | rw [if_neg (by omega)]); refine S.keep ?_; repeat (first | exact trivial | refine ⟨rfl, ?_⟩)) | trace_state)
                        · (intro h; clear S a; intro a S; (try simp only [decide_eq_true_eq, decide_eq_false_iff_not, beq_iff_eq, bne_iff_ne, bne_eq_false_iff_eq, beq_eq_false_iff_ne, ne_eq, Bool.not_eq_true', Bool.not_eq_false', Bool.not_eq_true, Bool.not_eq_false, Bool.not_true, Bool.not_false, Int.ofNat_lt, Int.ofNat_le, Nat.not_lt, Nat.not_le] at h))
                          (refine wpl_skip S rfl rfl rfl rfl rfl ?_; clear S a; intro a S)
                          (refine wpl_skip S rfl rfl rfl rfl rfl ?_; clear S a; intro a S)
                          (refine wpl_skip S rfl rfl rfl rfl rfl ?_; clear S a; intro a S)
                          (refine wpl_skip S rfl rfl rfl rfl rfl ?_; clear S a; intro a S)
                          refine wpl_take S rfl rfl rfl ?_
                          first | (refine wpl_v S rfl rfl rfl (sv_pure S rfl) ?_; clear S a; intro a S) | (refine wpl_v S rfl rfl rfl (sv_pickB S rfl rfl rfl rfl) ?_; clear S a; intro a S)
                          refine wpl_take S rfl rfl rfl ?_
                          first | (refine wpl_v S rfl rfl rfl (sv_pure S rfl) ?_; clear S a; intro a S) | (refine wpl_v S rfl rfl rfl (sv_pickB S rfl rfl rfl rfl) ?_; clear S a; intro a S)
                          first | (refine wpl_v S rfl rfl rfl (sv_pure S rfl) ?_; clear S a; intro a S) | (refine wpl_v S rfl rfl rfl (sv_pickB S rfl rfl rfl rfl) ?_; clear S a; intro a S)
                          refine wpList_nil ?_
                          (refine hKq19 _ _ ?_; try (clear hKq19 Kq19))
                          refine wpc_true S rfl ?_
                          (refine wp_seq_k ?_; intro Kq20 hKq20)
                          refine wp_region_lit ?_
                          (refine wpl_v S rfl rfl rfl (sv_pure S rfl) ?_; clear S a; intro a S)
                          refine wpList_nil ?_
                          (refine hKq20 _ _ ?_; try (clear hKq20 Kq20))
                          refine wp_ret ?_
                          refine fin_ret S (results1 Tryd.results7 (RV.tmp S rfl)) ?_
                          (first | rfl | (have hke : k = (tokens s).1.length := (by first | omega | (have h9 := List.drop_eq_nil_iff.1 (hof.le_nil (by omega)); omega)); rw [hke]; simp; done) | (exfalso; first | omega | (have hf := hf0 (by assumption) (by assumption); first | exact absurd (by assumption) hf.1 | exact absurd (congrArg (fun c : UInt8 => ((c.toNat : Nat) : Int)) hf.2) (by assumption))) | trace_state)
                      · (intro h; clear S a; intro a S; (try simp only [decide_eq_true_eq, decide_eq_false_iff_not, beq_iff_eq, bne_iff_ne, bne_eq_false_iff_eq, beq_eq_false_iff_ne, ne_eq, Bool.not_eq_true', Bool.not_eq_false', Bool.not_eq_true, Bool.not_eq_false, Bool.not_true, Bool.not_false, Int.ofNat_lt, Int.ofNat_le, Nat.not_lt, Nat.not_le] at h))
                        (refine wpl_skip S rfl rfl rfl rfl rfl ?_; clear S a; intro a S)
                        (refine wpl_skip S rfl rfl rfl rfl rfl ?_; clear S a; intro a S)
                        (refine wpl_skip S rfl rfl rfl rfl rfl ?_; clear S a; intro a S)
                        (refine wpl_skipU S rfl rfl rfl rfl rfl ?_; clear S a; intro a S)
                        (refine wpl_skipU S rfl rfl rfl rfl rfl ?_; clear S a; intro a S)
                        (refine wpl_skipU S rfl rfl rfl rfl rfl ?_; clear S a; intro a S)
                        (refine wpl_skipU S rfl rfl rfl rfl rfl ?_; clear S a; intro a S)
                        (refine wpl_skipU S rfl rfl rfl rfl rfl ?_; clear S a; intro a S)
                        (refine wpl_skip S rfl rfl rfl rfl rfl ?_; clear S a; intro a S)
                        refine wpl_take S rfl rfl rfl ?_
                        first | (refine wpl_v S rfl rfl rfl (sv_pure S rfl) ?_; clear S a; intro a S) | (refine wpl_v S rfl rfl rfl (sv_pickB S rfl rfl rfl rfl) ?_; clear S a; intro a S)
                        first | (refine wpl_v S rfl rfl rfl (sv_pure S rfl) ?_; clear S a; intro a S) | (refine wpl_v S rfl rfl rfl (sv_pickB S rfl rfl rfl rfl) ?_; clear S a; intro a S)
                        refine wpList_nil ?_
                        (refine hKq19 _ _ ?_; try (clear hKq19 Kq19))
                        refine wpc_false S rfl ?_
                        refine wp_skip ?_
                        (refine hKq18 _ _ ?_; try (clear hKq18 Kq18))
                        refine wp_region_lit ?_
                        (refine wpl_v S rfl rfl rfl (sv_pure S rfl) ?_; clear S a; intro a S)
                        (refine wpl_v S rfl rfl rfl (sv_add S rfl rfl rfl (by first | omega | (have h9 := List.length_pos_iff.2 (hf0 (by assumption) (by assumption)).1; omega))) ?_; clear S a; intro a S)
                        (refine wpl_v S rfl rfl rfl (sv_pure S rfl) ?_; clear S a; intro a S)
                        refine wpList_nil ?_
                        (refine hKq14 _ _ ?_; try (clear hKq14 Kq14))
                        (refine wp_seq_k ?_; intro Kq20 hKq20)
                        (first | (have hK := hio) | (have hne : o ≠ i := fun h9 => (by have hq : ((place (1, 1) (s.take i)).1 == ((tokens s).1[k]'hkl2).line && (place (1, 1) (s.take i)).2 == ((tokens s).1[k]'hkl2).col) = false := (by assumption); rw [h9] at ho3; rw [ho3] at hq; simp at hq)))
                        refine wp_region_lit ?_
                        (refine wpl_v S rfl rfl rfl (sv_fieldAddr S rfl rfl rfl inferInstance rfl) ?_; clear S a; intro a S)
                        first | (refine wpl_v S rfl rfl rfl (sv_loadO S rfl rfl (by rfl)) ?_; clear S a; intro a S) | (refine wpl_v S rfl rfl rfl (sv_loadF S rfl rfl (by assumption)) ?_; clear S a; intro a S)
                        (refine wpl_v S rfl rfl rfl (sv_add S rfl rfl rfl (by first | omega | (have h9 := List.length_pos_iff.2 (hf0 (by assumption) (by assumption)).1; omega))) ?_; clear S a; intro a S)
                        (refine wpl_v S rfl rfl rfl (sv_fieldAddr S rfl rfl rfl inferInstance rfl) ?_; clear S a; intro a S)
                        (refine wpl_store1 S rfl rfl rfl rfl rfl rfl (by first | (simp; done) | (simp [Value.cells]; done) | exact Nat.le_of_ble_eq_true rfl) ?_; clear S; intro w S)
                        refine wpList_nil ?_
                        (refine hKq20 _ _ ?_; try (clear hKq20 Kq20))
                        (refine wp_seq_k ?_; intro Kq21 hKq21)
                        refine wp_region_lit ?_
                        (refine wpl_v S rfl rfl rfl (sv_pure S rfl) ?_; clear S a; intro a S)
                        (refine wpl_v S rfl rfl rfl (sv_pure S rfl) ?_; clear S a; intro a S)
                        first | (refine wpl_v S rfl rfl rfl (sv_indexSN S rfl rfl rfl (by first | omega | (have h9 := List.length_pos_iff.2 (hf0 (by assumption) (by assumption)).1; omega))) ?_; clear S a; intro a S) | (refine wpl_v S rfl rfl rfl (sv_indexS S rfl rfl rfl (by first | omega | (have h9 := List.length_pos_iff.2 (hf0 (by assumption) (by assumption)).1; omega))) ?_; clear S a; intro a S)
                        (refine wpl_v S rfl rfl rfl (sv_pure S rfl) ?_; clear S a; intro a S)
                        refine wpList_nil ?_
                        (refine hKq21 _ _ ?_; try (clear hKq21 Kq21))
                        refine wpc_split S rfl (fun h => ?_) (fun h => ?_)
                        · (skip; (try simp only [decide_eq_true_eq, decide_eq_false_iff_not, beq_iff_eq, bne_iff_ne, bne_eq_false_iff_eq, beq_eq_false_iff_ne, ne_eq, Bool.not_eq_true', Bool.not_eq_false', Bool.not_eq_true, Bool.not_eq_false, Bool.not_true, Bool.not_false, Int.ofNat_lt, Int.ofNat_le, Nat.not_lt, Nat.not_le] at h))
                          refine wp_region_lit ?_
                          (refine wpl_v S rfl rfl rfl (sv_fieldAddr S rfl rfl rfl inferInstance rfl) ?_; clear S a; intro a S)
                          first | (refine wpl_v S rfl rfl rfl (sv_loadO S rfl rfl (by rfl)) ?_; clear S a; intro a S) | (refine wpl_v S rfl rfl rfl (sv_loadF S rfl rfl (by assumption)) ?_; clear S a; intro a S)
                          (refine wpl_v S rfl rfl rfl (sv_add S rfl rfl rfl (by first | omega | (have h9 := List.length_pos_iff.2 (hf0 (by assumption) (by assumption)).1; omega))) ?_; clear S a; intro a S)
                          (refine wpl_v S rfl rfl rfl (sv_build S rfl rfl rfl) ?_; clear S a; intro a S)
                          (refine wpl_storeO S rfl rfl rfl rfl rfl (by rfl) (by simp [Value.cells, Value.oneCell', splice, tkC]) (by rfl) ?_; clear S; intro w S)
                          refine wpList_nil ?_
                          (refine hKq13 _ _ ?_; try (clear hKq13 Kq13))
                          refine wp_region_lit ?_
                          (refine wpl_v S rfl rfl rfl (sv_pure S rfl) ?_; clear S a; intro a S)
                          (refine wpl_v S rfl rfl rfl (sv_add S rfl rfl rfl (by first | omega | (have h9 := List.length_pos_iff.2 (hf0 (by assumption) (by assumption)).1; omega))) ?_; clear S a; intro a S)
                          (refine wpl_v S rfl rfl rfl (sv_pure S rfl) ?_; clear S a; intro a S)
                          refine wpList_nil ?_
                          change ∃ m', _ ∧ _
                          (first | (exfalso; omega) | (have hK := hio; replace S := S.drop1; refine ⟨s.length - (i + 1), by omega, i + 1, k + 1, rfl, by omega, by omega, ho5, ?_⟩; rw [place_succ (p := (1, 1)) (by omega)]; (first | rw [if_pos (by omega)] | rw [if_neg (by omega)]); refine S.keep ?_; repeat (first | exact trivial | refine ⟨rfl, ?_⟩)) | (refine ⟨s.length - (i + 1), by omega, i + 1, k, rfl, by omega, by omega, Offs.back hkl2 (by omega) ho2 ho3 ho4 ho5, ?_⟩; rw [place_succ (p := (1, 1)) (by omega)]; (first | rw [if_pos (by omega)] | rw [if_neg (by omega)]); refine S.keep ?_; repeat (first | exact trivial | refine ⟨rfl, ?_⟩)) | trace_state)
                        · (skip; (try simp only [decide_eq_true_eq, decide_eq_false_iff_not, beq_iff_eq, bne_iff_ne, bne_eq_false_iff_eq, beq_eq_false_iff_ne, ne_eq, Bool.not_eq_true', Bool.not_eq_false', Bool.not_eq_true, Bool.not_eq_false, Bool.not_true, Bool.not_false, Int.ofNat_lt, Int.ofNat_le, Nat.not_lt, Nat.not_le] at h))
                          refine wp_skip ?_
                          (refine hKq13 _ _ ?_; try (clear hKq13 Kq13))
                          refine wp_region_lit ?_
                          (refine wpl_v S rfl rfl rfl (sv_pure S rfl) ?_; clear S a; intro a S)
                          (refine wpl_v S rfl rfl rfl (sv_add S rfl rfl rfl (by first | omega | (have h9 := List.length_pos_iff.2 (hf0 (by assumption) (by assumption)).1; omega))) ?_; clear S a; intro a S)
                          (refine wpl_v S rfl rfl rfl (sv_pure S rfl) ?_; clear S a; intro a S)
                          refine wpList_nil ?_
                          change ∃ m', _ ∧ _
                          (first | (exfalso; omega) | (have hK := hio; replace S := S.drop1; refine ⟨s.length - (i + 1), by omega, i + 1, k + 1, rfl, by omega, by omega, ho5, ?_⟩; rw [place_succ (p := (1, 1)) (by omega)]; (first | rw [if_pos (by omega)] | rw [if_neg (by omega)]); refine S.keep ?_; repeat (first | exact trivial | refine ⟨rfl, ?_⟩)) | (refine ⟨s.length - (i + 1), by omega, i + 1, k, rfl, by omega, by omega, Offs.back hkl2 (by omega) ho2 ho3 ho4 ho5, ?_⟩; rw [place_succ (p := (1, 1)) (by omega)]; (first | rw [if_pos (by omega)] | rw [if_neg (by omega)]); refine S.keep ?_; repeat (first | exact trivial | refine ⟨rfl, ?_⟩)) | trace_state)
                    · (intro h; clear S a; intro a S; (try simp only [decide_eq_true_eq, decide_eq_false_iff_not, beq_iff_eq, bne_iff_ne, bne_eq_false_iff_eq, beq_eq_false_iff_ne, ne_eq, Bool.not_eq_true', Bool.not_eq_false', Bool.not_eq_true, Bool.not_eq_false, Bool.not_true, Bool.not_false, Int.ofNat_lt, Int.ofNat_le, Nat.not_lt, Nat.not_le] at h))
                      (refine wpl_skip S rfl rfl rfl rfl rfl ?_; clear S a; intro a S)
                      (refine wpl_skip S rfl rfl rfl rfl rfl ?_; clear S a; intro a S)
                      refine wpl_take S rfl rfl rfl ?_
                      first | (refine wpl_v S rfl rfl rfl (sv_pure S rfl) ?_; clear S a; intro a S) | (refine wpl_v S rfl rfl rfl (sv_pickB S rfl rfl rfl rfl) ?_; clear S a; intro a S)
                      refine wpl_take S rfl rfl rfl ?_
                      (refine wpl_v S rfl rfl rfl (sv_pure S rfl) ?_; clear S a; intro a S)
                      (refine wpl_skip S rfl rfl rfl rfl rfl ?_; clear S a; intro a S)
                      (refine wpl_skip S rfl rfl rfl rfl rfl ?_; clear S a; intro a S)
                      (refine wpl_skip S rfl rfl rfl rfl rfl ?_; clear S a; intro a S)
                      (refine wpl_skip S rfl rfl rfl rfl rfl ?_; clear S a; intro a S)
                      (refine wpl_skipU S rfl rfl rfl rfl rfl ?_; clear S a; intro a S)
                      (refine wpl_skipU S rfl rfl rfl rfl rfl ?_; clear S a; intro a S)
                      (refine wpl_skipU S rfl rfl rfl rfl rfl ?_; clear S a; intro a S)
                      (refine wpl_skipU S rfl rfl rfl rfl rfl ?_; clear S a; intro a S)
                      (refine wpl_skipU S rfl rfl rfl rfl rfl ?_; clear S a; intro a S)
                      (refine wpl_skip S rfl rfl rfl rfl rfl ?_; clear S a; intro a S)
                      refine wpl_take S rfl rfl rfl ?_
                      first | (refine wpl_v S rfl rfl rfl (sv_pure S rfl) ?_; clear S a; intro a S) | (refine wpl_v S rfl rfl rfl (sv_pickB S rfl rfl rfl rfl) ?_; clear S a; intro a S)
                      first | (refine wpl_v S rfl rfl rfl (sv_pure S rfl) ?_; clear S a; intro a S) | (refine wpl_v S rfl rfl rfl (sv_pickB S rfl rfl rfl rfl) ?_; clear S a; intro a S)
                      refine wpList_nil ?_
                      (refine hKq19 _ _ ?_; try (clear hKq19 Kq19))
                      refine wpc_false S rfl ?_
                      refine wp_skip ?_
                      (refine hKq18 _ _ ?_; try (clear hKq18 Kq18))
                      refine wp_region_lit ?_
                      (refine wpl_v S rfl rfl rfl (sv_pure S rfl) ?_; clear S a; intro a S)
                      (refine wpl_v S rfl rfl rfl (sv_add S rfl rfl rfl (by first | omega | (have h9 := List.length_pos_iff.2 (hf0 (by assumption) (by assumption)).1; omega))) ?_; clear S a; intro a S)
                      (refine wpl_v S rfl rfl rfl (sv_pure S rfl) ?_; clear S a; intro a S)
                      refine wpList_nil ?_
                      (refine hKq14 _ _ ?_; try (clear hKq14 Kq14))
                      (refine wp_seq_k ?_; intro Kq20 hKq20)
                      (first | (have hK := hio) | (have hne : o ≠ i := fun h9 => (by have hq : ((place (1, 1) (s.take i)).1 == ((tokens s).1[k]'hkl2).line && (place (1, 1) (s.take i)).2 == ((tokens s).1[k]'hkl2).col) = false := (by assumption); rw [h9] at ho3; rw [ho3] at hq; simp at hq)))
                      refine wp_region_lit ?_
                      (refine wpl_v S rfl rfl rfl (sv_fieldAddr S rfl rfl rfl inferInstance rfl) ?_; clear S a; intro a S)
                      first | (refine wpl_v S rfl rfl rfl (sv_loadO S rfl rfl (by rfl)) ?_; clear S a; intro a S) | (refine wpl_v S rfl rfl rfl (sv_loadF S rfl rfl (by assumption)) ?_; clear S a; intro a S)
                      (refine wpl_v S rfl rfl rfl (sv_add S rfl rfl rfl (by first | omega | (have h9 := List.length_pos_iff.2 (hf0 (by assumption) (by assumption)).1; omega))) ?_; clear S a; intro a S)
                      (refine wpl_v S rfl rfl rfl (sv_fieldAddr S rfl rfl rfl inferInstance rfl) ?_; clear S a; intro a S)
                      (refine wpl_store1 S rfl rfl rfl rfl rfl rfl (by first | (simp; done) | (simp [Value.cells]; done) | exact Nat.le_of_ble_eq_true rfl) ?_; clear S; intro w S)
                      refine wpList_nil ?_
                      (refine hKq20 _ _ ?_; try (clear hKq20 Kq20))
                      (refine wp_seq_k ?_; intro Kq21 hKq21)
                      refine wp_region_lit ?_
                      (refine wpl_v S rfl rfl rfl (sv_pure S rfl) ?_; clear S a; intro a S)
                      (refine wpl_v S rfl rfl rfl (sv_pure S rfl) ?_; clear S a; intro a S)
                      first | (refine wpl_v S rfl rfl rfl (sv_indexSN S rfl rfl rfl (by first | omega | (have h9 := List.length_pos_iff.2 (hf0 (by assumption) (by assumption)).1; omega))) ?_; clear S a; intro a S) | (refine wpl_v S rfl rfl rfl (sv_indexS S rfl rfl rfl (by first | omega | (have h9 := List.length_pos_iff.2 (hf0 (by assumption) (by assumption)).1; omega))) ?_; clear S a; intro a S)
                      (refine wpl_v S rfl rfl rfl (sv_pure S rfl) ?_; clear S a; intro a S)
                      refine wpList_nil ?_
                      (refine hKq21 _ _ ?_; try (clear hKq21 Kq21))
                      refine wpc_split S rfl (fun h => ?_) (fun h => ?_)
                      · (skip; (try simp only [decide_eq_true_eq, decide_eq_false_iff_not, beq_iff_eq, bne_iff_ne, bne_eq_false_iff_eq, beq_eq_false_iff_ne, ne_eq, Bool.not_eq_true', Bool.not_eq_false', Bool.not_eq_true, Bool.not_eq_false, Bool.not_true, Bool.not_false, Int.ofNat_lt, Int.ofNat_le, Nat.not_lt, Nat.not_le] at h))
                        refine wp_region_lit ?_
                        (refine wpl_v S rfl rfl rfl (sv_fieldAddr S rfl rfl rfl inferInstance rfl) ?_; clear S a; intro a S)
                        first | (refine wpl_v S rfl rfl rfl (sv_loadO S rfl rfl (by rfl)) ?_; clear S a; intro a S) | (refine wpl_v S rfl rfl rfl (sv_loadF S rfl rfl (by assumption)) ?_; clear S a; intro a S)
                        (refine wpl_v S rfl rfl rfl (sv_add S rfl rfl rfl (by first | omega | (have h9 := List.length_pos_iff.2 (hf0 (by assumption) (by assumption)).1; omega))) ?_; clear S a; intro a S)
                        (refine wpl_v S rfl rfl rfl (sv_build S rfl rfl rfl) ?_; clear S a; intro a S)
                        (refine wpl_storeO S rfl rfl rfl rfl rfl (by rfl) (by simp [Value.cells, Value.oneCell', splice, tkC]) (by rfl) ?_; clear S; intro w S)
                        refine wpList_nil ?_
                        (refine hKq13 _ _ ?_; try (clear hKq13 Kq13))
                        refine wp_region_lit ?_
                        (refine wpl_v S rfl rfl rfl (sv_pure S rfl) ?_; clear S a; intro a S)
                        (refine wpl_v S rfl rfl rfl (sv_add S rfl rfl rfl (by first | omega | (have h9 := List.length_pos_iff.2 (hf0 (by assumption) (by assumption)).1; omega))) ?_; clear S a; intro a S)
                        (refine wpl_v S rfl rfl rfl (sv_pure S rfl) ?_; clear S a; intro a S)
                        refine wpList_nil ?_
                        change ∃ m', _ ∧ _
                        (first | (exfalso; omega) | (have hK := hio; replace S := S.drop1; refine ⟨s.length - (i + 1), by omega, i + 1, k + 1, rfl, by omega, by omega, ho5, ?_⟩; rw [place_succ (p := (1, 1)) (by omega)]; (first | rw [if_pos (by omega)] | rw [if_neg (by omega)]); refine S.keep ?_; repeat (first | exact trivial | refine ⟨rfl, ?_⟩)) | (refine ⟨s.length - (i + 1), by omega, i + 1, k, rfl, by omega, by omega, Offs.back hkl2 (by omega) ho2 ho3 ho4 ho5, ?_⟩; rw [place_succ (p := (1, 1)) (by omega)]; (first | rw [if_pos (by omega)] | rw [if_neg (by omega)]); refine S.keep ?_; repeat (first | exact trivial | refine ⟨rfl, ?_⟩)) | trace_state)
                      · (skip; (try simp only [decide_eq_true_eq, decide_eq_false_iff_not, beq_iff_eq, bne_iff_ne, bne_eq_false_iff_eq, beq_eq_false_iff_ne, ne_eq, Bool.not_eq_true', Bool.not_eq_false', Bool.not_eq_true, Bool.not_eq_false, Bool.not_true, Bool.not_false, Int.ofNat_lt, Int.ofNat_le, Nat.not_lt, Nat.not_le] at h))
                        refine wp_skip ?_
                        (refine hKq13 _ _ ?_; try (clear hKq13 Kq13))
                        refine wp_region_lit ?_
                        (refine wpl_v S rfl rfl rfl (sv_pure S rfl) ?_; clear S a; intro a S)
                        (refine wpl_v S rfl rfl rfl (sv_add S rfl rfl rfl (by first | omega | (have h9 := List.length_pos_iff.2 (hf0 (by assumption) (by assumption)).1; omega))) ?_; clear S a; intro a S)
                        (refine wpl_v S rfl rfl rfl (sv_pure S rfl) ?_; clear S a; intro a S)
                        refine wpList_nil ?_
                        change ∃ m', _ ∧ _
                        (first | (exfalso; omega) | (have hK := hio; replace S := S.drop1; refine ⟨s.length - (i + 1), by omega, i + 1, k + 1, rfl, by omega, by omega, ho5, ?_⟩; rw [place_succ (p := (1, 1)) (by omega)]; (first | rw [if_pos (by omega)] | rw [if_neg (by omega)]); refine S.keep ?_; repeat (first | exact trivial | refine ⟨rfl, ?_⟩)) | (refine ⟨s.length - (i + 1), by omega, i + 1, k, rfl, by omega, by omega, Offs.back hkl2 (by omega) ho2 ho3 ho4 ho5, ?_⟩; rw [place_succ (p := (1, 1)) (by omega)]; (first | rw [if_pos (by omega)] | rw [if_neg (by omega)]); refine S.keep ?_; repeat (first | exact trivial | refine ⟨rfl, ?_⟩)) | trace_state)
                  · (intro h; clear S a; intro a S; (try simp only [decide_eq_true_eq, decide_eq_false_iff_not, beq_iff_eq, bne_iff_ne, bne_eq_false_iff_eq, beq_eq_false_iff_ne, ne_eq, Bool.not_eq_true', Bool.not_eq_false', Bool.not_eq_true, Bool.not_eq_false, Bool.not_true, Bool.not_false, Int.ofNat_lt, Int.ofNat_le, Nat.not_lt, Nat.not_le] at h))
                    (refine wpl_skip S rfl rfl rfl rfl rfl ?_; clear S a; intro a S)
                    (refine wpl_skip S rfl rfl rfl rfl rfl ?_; clear S a; intro a S)
                    (refine wpl_skip S rfl rfl rfl rfl rfl ?_; clear S a; intro a S)
                    (refine wpl_skipU S rfl rfl rfl rfl rfl ?_; clear S a; intro a S)
                    (refine wpl_skipU S rfl rfl rfl rfl rfl ?_; clear S a; intro a S)
                    (refine wpl_skipU S rfl rfl rfl rfl rfl ?_; clear S a; intro a S)
                    (refine wpl_skip S rfl rfl rfl rfl rfl ?_; clear S a; intro a S)
                    (refine wpl_skip S rfl rfl rfl rfl rfl ?_; clear S a; intro a S)
                    (refine wpl_skipU S rfl rfl rfl rfl rfl ?_; clear S a; intro a S)
                    (refine wpl_skipU S rfl rfl rfl rfl rfl ?_; clear S a; intro a S)
                    (refine wpl_skipU S rfl rfl rfl rfl rfl ?_; clear S a; intro a S)
                    (refine wpl_skipU S rfl rfl rfl rfl rfl ?_; clear S a; intro a S)
                    (refine wpl_skipU S rfl rfl rfl rfl rfl ?_; clear S a; intro a S)
                    (refine wpl_skipU S rfl rfl rfl rfl rfl ?_; clear S a; intro a S)
                    (refine wpl_skipU S rfl rfl rfl rfl rfl ?_; clear S a; intro a S)
                    (refine wpl_skipU S rfl rfl rfl rfl rfl ?_; clear S a; intro a S)
                    (refine wpl_skipU S rfl rfl rfl rfl rfl ?_; clear S a; intro a S)
                    (refine wpl_skipU S rfl rfl rfl rfl rfl ?_; clear S a; intro a S)
                    (refine wpl_skip S rfl rfl rfl rfl rfl ?_; clear S a; intro a S)
                    first | (refine wpl_v S rfl rfl rfl (sv_pure S rfl) ?_; clear S a; intro a S) | (refine wpl_v S rfl rfl rfl (sv_pickB S rfl rfl rfl rfl) ?_; clear S a; intro a S)
                    refine wpList_nil ?_
                    (refine hKq19 _ _ ?_; try (clear hKq19 Kq19))
                    refine wpc_true S rfl ?_
                    (refine wp_seq_k ?_; intro Kq20 hKq20)
                    refine wp_region_lit ?_
                    (refine wpl_v S rfl rfl rfl (sv_pure S rfl) ?_; clear S a; intro a S)
                    refine wpList_nil ?_
                    (refine hKq20 _ _ ?_; try (clear hKq20 Kq20))
                    refine wp_ret ?_
                    refine fin_ret S (results1 Tryd.results7 (RV.tmp S rfl)) ?_
                    (first | rfl | (have hke : k = (tokens s).1.length := (by first | omega | (have h9 := List.drop_eq_nil_iff.1 (hof.le_nil (by omega)); omega)); rw [hke]; simp; done) | (exfalso; first | omega | (have hf := hf0 (by assumption) (by assumption); first | exact absurd (by assumption) hf.1 | exact absurd (congrArg (fun c : UInt8 => ((c.toNat : Nat) : Int)) hf.2) (by assumption))) | trace_state)
                · (intro h; clear S a; intro a S; (try simp only [decide_eq_true_eq, decide_eq_false_iff_not, beq_iff_eq, bne_iff_ne, bne_eq_false_iff_eq, beq_eq_false_iff_ne, ne_eq, Bool.not_eq_true', Bool.not_eq_false', Bool.not_eq_true, Bool.not_eq_false, Bool.not_true, Bool.not_false, Int.ofNat_lt, Int.ofNat_le, Nat.not_lt, Nat.not_le] at h))
                  (refine wpl_skip S rfl rfl rfl rfl rfl ?_; clear S a; intro a S)
                  refine wpl_take S rfl rfl rfl ?_
                  first | (refine wpl_v S rfl rfl rfl (sv_pure S rfl) ?_; clear S a; intro a S) | (refine wpl_v S rfl rfl rfl (sv_pickB S rfl rfl rfl rfl) ?_; clear S a; intro a S)
                  first | (refine wpl_v S rfl rfl rfl (sv_pure S rfl) ?_; clear S a; intro a S) | (refine wpl_v S rfl rfl rfl (sv_pickB S rfl rfl rfl rfl) ?_; clear S a; intro a S)
                  (refine wpl_v S rfl rfl rfl (sv_pure S rfl) ?_; clear S a; intro a S)
                  refine wpl_take S rfl rfl rfl ?_
                  (refine wpl_v S rfl rfl rfl (sv_fieldAddr S rfl rfl rfl inferInstance rfl) ?_; clear S a; intro a S)
                  refine wpl_take S rfl rfl rfl ?_
                  first | (refine wpl_v S rfl rfl rfl (sv_loadO S rfl rfl (by rfl)) ?_; clear S a; intro a S) | (refine wpl_v S rfl rfl rfl (sv_loadF S rfl rfl (by assumption)) ?_; clear S a; intro a S)
                  refine wpl_take S rfl rfl rfl ?_
                  (refine wpl_v S rfl rfl rfl (sv_pure S rfl) ?_; clear S a; intro a S)
                  refine wpl_take S rfl rfl rfl ?_
                  (refine wpl_v S rfl rfl rfl (sv_pure S rfl) ?_; clear S a; intro a S)
                  refine wpl_guard S rfl rfl rfl rfl rfl ?_ ?_
                  · (intro h S'; clear S; have S := S'; clear S'; (try simp only [decide_eq_true_eq, decide_eq_false_iff_not, beq_iff_eq, bne_iff_ne, bne_eq_false_iff_eq, beq_eq_false_iff_ne, ne_eq, Bool.not_eq_true', Bool.not_eq_false', Bool.not_eq_true, Bool.not_eq_false, Bool.not_true, Bool.not_false, Int.ofNat_lt, Int.ofNat_le, Nat.not_lt, Nat.not_le] at h))
                    (refine wpl_v S rfl rfl rfl (sv_fieldAddr S rfl rfl rfl inferInstance rfl) ?_; clear S a; intro a S)
                    refine wpl_take S rfl rfl rfl ?_
                    first | (refine wpl_v S rfl rfl rfl (sv_loadO S rfl rfl (by rfl)) ?_; clear S a; intro a S) | (refine wpl_v S rfl rfl rfl (sv_loadF S rfl rfl (by assumption)) ?_; clear S a; intro a S)
                    refine wpl_take S rfl rfl rfl ?_
                    (refine wpl_v S rfl rfl rfl (sv_pure S rfl) ?_; clear S a; intro a S)
                    refine wpl_take S rfl rfl rfl ?_
                    first | (refine wpl_v S rfl rfl rfl (sv_pure S rfl) ?_; clear S a; intro a S) | (refine wpl_v S rfl rfl rfl (sv_pickB S rfl rfl rfl rfl) ?_; clear S a; intro a S)
                    refine wpl_take S rfl rfl rfl ?_
                    (refine wpl_v S rfl rfl rfl (sv_pure S rfl) ?_; clear S a; intro a S)
                    refine wpl_guard S rfl rfl rfl rfl rfl ?_ ?_
                    · (intro h S'; clear S; have S := S'; clear S'; (try simp only [decide_eq_true_eq, decide_eq_false_iff_not, beq_iff_eq, bne_iff_ne, bne_eq_false_iff_eq, beq_eq_false_iff_ne, ne_eq, Bool.not_eq_true', Bool.not_eq_false', Bool.not_eq_true, Bool.not_eq_false, Bool.not_true, Bool.not_false, Int.ofNat_lt, Int.ofNat_le, Nat.not_lt, Nat.not_le] at h))
                      (refine wpl_v S rfl rfl rfl (sv_fieldAddr S rfl rfl rfl inferInstance rfl) ?_; clear S a; intro a S)
                      refine wpl_take S rfl rfl rfl ?_
                      first | (refine wpl_v S rfl rfl rfl (sv_loadO S rfl rfl (by rfl)) ?_; clear S a; intro a S) | (refine wpl_v S rfl rfl rfl (sv_loadF S rfl rfl (by assumption)) ?_; clear S a; intro a S)
                      refine wpl_take S rfl rfl rfl ?_
                      (refine wpl_v S rfl rfl rfl (sv_pure S rfl) ?_; clear S a; intro a S)
                      refine wpl_take S rfl rfl rfl ?_
                      (refine wpl_v S rfl rfl rfl (sv_pure S rfl) ?_; clear S a; intro a S)
                      refine wpl_guard S rfl rfl rfl rfl rfl ?_ ?_
                      · (intro h S'; clear S; have S := S'; clear S'; (try simp only [decide_eq_true_eq, decide_eq_false_iff_not, beq_iff_eq, bne_iff_ne, bne_eq_false_iff_eq, beq_eq_false_iff_ne, ne_eq, Bool.not_eq_true', Bool.not_eq_false', Bool.not_eq_true, Bool.not_eq_false, Bool.not_true, Bool.not_false, Int.ofNat_lt, Int.ofNat_le, Nat.not_lt, Nat.not_le] at h))
                        (refine wpl_v S rfl rfl rfl (sv_pure S rfl) ?_; clear S a; intro a S)
                        refine wpl_take S rfl rfl rfl ?_
                        (refine wpl_v S rfl rfl rfl (sv_fieldAddr S rfl rfl rfl inferInstance rfl) ?_; clear S a; intro a S)
                        refine wpl_take S rfl rfl rfl ?_
                        first | (refine wpl_v S rfl rfl rfl (sv_loadO S rfl rfl (by rfl)) ?_; clear S a; intro a S) | (refine wpl_v S rfl rfl rfl (sv_loadF S rfl rfl (by assumption)) ?_; clear S a; intro a S)
                        refine wpl_take S rfl rfl rfl ?_
                        (refine wpl_v S rfl rfl rfl (sv_indexSN (i := 0) S rfl rfl rfl (by first | omega | (have h9 := List.length_pos_iff.2 (hf0 (by assumption) (by assumption)).1; omega))) ?_; clear S a; intro a S)
                        refine wpl_take S rfl rfl rfl ?_
                        (refine wpl_v S rfl rfl rfl (sv_pure S rfl) ?_; clear S a; intro a S)
                        refine wpl_take S rfl rfl rfl ?_
                        first | (refine wpl_v S rfl rfl rfl (sv_pure S rfl) ?_; clear S a; intro a S) | (refine wpl_v S rfl rfl rfl (sv_pickB S rfl rfl rfl rfl) ?_; clear S a; intro a S)
                        refine wpl_take S rfl rfl rfl ?_
                        first | (refine wpl_v S rfl rfl rfl (sv_pure S rfl) ?_; clear S a; intro a S) | (refine wpl_v S rfl rfl rfl (sv_pickB S rfl rfl rfl rfl) ?_; clear S a; intro a S)
                        first | (refine wpl_v S rfl rfl rfl (sv_pure S rfl) ?_; clear S a; intro a S) | (refine wpl_v S rfl rfl rfl (sv_pickB S rfl rfl rfl rfl) ?_; clear S a; intro a S)
                        refine wpList_nil ?_
                        (refine hKq19 _ _ ?_; try (clear hKq19 Kq19))
                        refine wpc_split S rfl (fun h => ?_) (fun h => ?_)
                        · (skip; (try simp only [decide_eq_true_eq, decide_eq_false_iff_not, beq_iff_eq, bne_iff_ne, bne_eq_false_iff_eq, beq_eq_false_iff_ne, ne_eq, Bool.not_eq_true', Bool.not_eq_false', Bool.not_eq_true, Bool.not_eq_false, Bool.not_true, Bool.not_false, Int.ofNat_lt, Int.ofNat_le, Nat.not_lt, Nat.not_le] at h))
                          (refine wp_seq_k ?_; intro Kq20 hKq20)
                          refine wp_region_lit ?_
                          (refine wpl_v S rfl rfl rfl (sv_pure S rfl) ?_; clear S a; intro a S)
                          refine wpList_nil ?_
                          (refine hKq20 _ _ ?_; try (clear hKq20 Kq20))
                          refine wp_ret ?_
                          refine fin_ret S (results1 Tryd.results7 (RV.tmp S rfl)) ?_
                          (first | rfl | (have hke : k = (tokens s).1.length := (by first | omega | (have h9 := List.drop_eq_nil_iff.1 (hof.le_nil (by omega)); omega)); rw [hke]; simp; done) | (exfalso; first | omega | (have hf := hf0 (by assumption) (by assumption); first | exact absurd (by assumption) hf.1 | exact absurd (congrArg (fun c : UInt8 => ((c.toNat : Nat) : Int)) hf.2) (by assumption))) | trace_state)
                        · (skip; (try simp only [decide_eq_true_eq, decide_eq_false_iff_not, beq_iff_eq, bne_iff_ne, bne_eq_false_iff_eq, beq_eq_false_iff_ne, ne_eq, Bool.not_eq_true', Bool.not_eq_false', Bool.not_eq_true, Bool.not_eq_false, Bool.not_true, Bool.not_false, Int.ofNat_lt, Int.ofNat_le, Nat.not_lt, Nat.not_le] at h))
                          refine wp_skip ?_
                          (refine hKq18 _ _ ?_; try (clear hKq18 Kq18))
                          refine wp_region_lit ?_
                          (refine wpl_v S rfl rfl rfl (sv_pure S rfl) ?_; clear S a; intro a S)
                          (refine wpl_v S rfl rfl rfl (sv_add S rfl rfl rfl (by first | omega | (have h9 := List.length_pos_iff.2 (hf0 (by assumption) (by assumption)).1; omega))) ?_; clear S a; intro a S)
                          (refine wpl_v S rfl rfl rfl (sv_pure S rfl) ?_; clear S a; intro a S)
                          refine wpList_nil ?_
                          (refine hKq14 _ _ ?_; try (clear hKq14 Kq14))
                          (refine wp_seq_k ?_; intro Kq20 hKq20)
                          (first | (have hK := hio) | (have hne : o ≠ i := fun h9 => (by have hq : ((place (1, 1) (s.take i)).1 == ((tokens s).1[k]'hkl2).line && (place (1, 1) (s.take i)).2 == ((tokens s).1[k]'hkl2).col) = false := (by assumption); rw [h9] at ho3; rw [ho3] at hq; simp at hq)))
                          refine wp_region_lit ?_
                          (refine wpl_v S rfl rfl rfl (sv_fieldAddr S rfl rfl rfl inferInstance rfl) ?_; clear S a; intro a S)
                          first | (refine wpl_v S rfl rfl rfl (sv_loadO S rfl rfl (by rfl)) ?_; clear S a; intro a S) | (refine wpl_v S rfl rfl rfl (sv_loadF S rfl rfl (by assumption)) ?_; clear S a; intro a S)
                          (refine wpl_v S rfl rfl rfl (sv_add S rfl rfl rfl (by first | omega | (have h9 := List.length_pos_iff.2 (hf0 (by assumption) (by assumption)).1; omega))) ?_; clear S a; intro a S)
                          (refine wpl_v S rfl rfl rfl (sv_fieldAddr S rfl rfl rfl inferInstance rfl) ?_; clear S a; intro a S)
                          (refine wpl_store1 S rfl rfl rfl rfl rfl rfl (by first | (simp; done) | (simp [Value.cells]; done) | exact Nat.le_of_ble_eq_true rfl) ?_; clear S; intro w S)
                          refine wpList_nil ?_
                          (refine hKq20 _ _ ?_; try (clear hKq20 Kq20))
                          (refine wp_seq_k ?_; intro Kq21 hKq21)
                          refine wp_region_lit ?_
                          (refine wpl_v S rfl rfl rfl (sv_pure S rfl) ?_; clear S a; intro a S)
                          (refine wpl_v S rfl rfl rfl (sv_pure S rfl) ?_; clear S a; intro a S)
                          first | (refine wpl_v S rfl rfl rfl (sv_indexSN S rfl rfl rfl (by first | omega | (have h9 := List.length_pos_iff.2 (hf0 (by assumption) (by assumption)).1; omega))) ?_; clear S a; intro a S) | (refine wpl_v S rfl rfl rfl (sv_indexS S rfl rfl rfl (by first | omega | (have h9 := List.length_pos_iff.2 (hf0 (by assumption) (by assumption)).1; omega))) ?_; clear S a; intro a S)
                          (refine wpl_v S rfl rfl rfl (sv_pure S rfl) ?_; clear S a; intro a S)
                          refine wpList_nil ?_
                          (refine hKq21 _ _ ?_; try (clear hKq21 Kq21))
                          refine wpc_split S rfl (fun h => ?_) (fun h => ?_)
                          · (skip; (try simp only [decide_eq_true_eq, decide_eq_false_iff_not, beq_iff_eq, bne_iff_ne, bne_eq_false_iff_eq, beq_eq_false_iff_ne, ne_eq, Bool.not_eq_true', Bool.not_eq_false', Bool.not_eq_true, Bool.not_eq_false, Bool.not_true, Bool.not_false, Int.ofNat_lt, Int.ofNat_le, Nat.not_lt, Nat.not_le] at h))
                            refine wp_region_lit ?_
                            (refine wpl_v S rfl rfl rfl (sv_fieldAddr S rfl rfl rfl inferInstance rfl) ?_; clear S a; intro a S)
                            first | (refine wpl_v S rfl rfl rfl (sv_loadO S rfl rfl (by rfl)) ?_; clear S a; intro a S) | (refine wpl_v S rfl rfl rfl (sv_loadF S rfl rfl (by assumption)) ?_; clear S a; intro a S)
                            (refine wpl_v S rfl rfl rfl (sv_add S rfl rfl rfl (by first | omega | (have h9 := List.length_pos_iff.2 (hf0 (by assumption) (by assumption)).1; omega))) ?_; clear S a; intro a S)
                            (refine wpl_v S rfl rfl rfl (sv_build S rfl rfl rfl) ?_; clear S a; intro a S)
                            (refine wpl_storeO S rfl rfl rfl rfl rfl (by rfl) (by simp [Value.cells, Value.oneCell', splice, tkC]) (by rfl) ?_; clear S; intro w S)
                            refine wpList_nil ?_
                            (refine hKq13 _ _ ?_; try (clear hKq13 Kq13))
                            refine wp_region_lit ?_
                            (refine wpl_v S rfl rfl rfl (sv_pure S rfl) ?_; clear S a; intro a S)
                            (refine wpl_v S rfl rfl rfl (sv_add S rfl rfl rfl (by first | omega | (have h9 := List.length_pos_iff.2 (hf0 (by assumption) (by assumption)).1; omega))) ?_; clear S a; intro a S)
                            (refine wpl_v S rfl rfl rfl (sv_pure S rfl) ?_; clear S a; intro a S)
                            refine wpList_nil ?_
                            change ∃ m', _ ∧ _
                            (first | (exfalso; omega) | (have hK := hio; replace S := S.drop1; refine ⟨s.length - (i + 1), by omega, i + 1, k + 1, rfl, by omega, by omega, ho5, ?_⟩; rw [place_succ (p := (1, 1)) (by omega)]; (first | rw [if_pos (by omega)] | rw [if_neg (by omega)]); refine S.keep ?_; repeat (first | exact trivial | refine ⟨rfl, ?_⟩)) | (refine ⟨s.length - (i + 1), by omega, i + 1, k, rfl, by omega, by omega, Offs.back hkl2 (by omega) ho2 ho3 ho4 ho5, ?_⟩; rw [place_succ (p := (1, 1)) (by omega)]; (first | rw [if_pos (by omega)] | rw [if_neg (by omega)]); refine S.keep ?_; repeat (first | exact trivial | refine ⟨rfl, ?_⟩)) | trace_state)
                          · (skip; (try simp only [decide_eq_true_eq, decide_eq_false_iff_not, beq_iff_eq, bne_iff_ne, bne_eq_false_iff_eq, beq_eq_false_iff_ne, ne_eq, Bool.not_eq_true', Bool.not_eq_false', Bool.not_eq_true, Bool.not_eq_false, Bool.not_true, Bool.not_false, Int.ofNat_lt, Int.ofNat_le, Nat.not_lt, Nat.not_le] at h))
                            refine wp_skip ?_
                            (refine hKq13 _ _ ?_; try (clear hKq13 Kq13))
                            refine wp_region_lit ?_
                            (refine wpl_v S rfl rfl rfl (sv_pure S rfl) ?_; clear S a; intro a S)
                            (refine wpl_v S rfl rfl rfl (sv_add S rfl rfl rfl (by first | omega | (have h9 := List.length_pos_iff.2 (hf0 (by assumption) (by assumption)).1; omega))) ?_; clear S a; intro a S)
                            (refine wpl_v S rfl rfl rfl (sv_pure S rfl) ?_; clear S a; intro a S)
                            refine wpList_nil ?_
                            change ∃ m', _ ∧ _
                            (first | (exfalso; omega) | (have hK := hio; replace S := S.drop1; refine ⟨s.length - (i + 1), by omega, i + 1, k + 1, rfl, by omega, by omega, ho5, ?_⟩; rw [place_succ (p := (1, 1)) (by omega)]; (first | rw [if_pos (by omega)] | rw [if_neg (by omega)]); refine S.keep ?_; repeat (first | exact trivial | refine ⟨rfl, ?_⟩)) | (refine ⟨s.length - (i + 1), by omega, i + 1, k, rfl, by omega, by omega, Offs.back hkl2 (by omega) ho2 ho3 ho4 ho5, ?_⟩; rw [place_succ (p := (1, 1)) (by omega)]; (first | rw [if_pos (by omega)] | rw [if_neg (by omega)]); refine S.keep ?_; repeat (first | exact trivial | refine ⟨rfl, ?_⟩)) | trace_state)
                      · (intro h; clear S a; intro a S; (try simp only [decide_eq_true_eq, decide_eq_false_iff_not, beq_iff_eq, bne_iff_ne, bne_eq_false_iff_eq, beq_eq_false_iff_ne, ne_eq, Bool.not_eq_true', Bool.not_eq_false', Bool.not_eq_true, Bool.not_eq_false, Bool.not_true, Bool.not_false, Int.ofNat_lt, Int.ofNat_le, Nat.not_lt, Nat.not_le] at h))
                        (refine wpl_skip S rfl rfl rfl rfl rfl ?_; clear S a; intro a S)
                        (refine wpl_skip S rfl rfl rfl rfl rfl ?_; clear S a; intro a S)
                        (refine wpl_skip S rfl rfl rfl rfl rfl ?_; clear S a; intro a S)
                        (refine wpl_skip S rfl rfl rfl rfl rfl ?_; clear S a; intro a S)
                        refine wpl_take S rfl rfl rfl ?_
                        first | (refine wpl_v S rfl rfl rfl (sv_pure S rfl) ?_; clear S a; intro a S) | (refine wpl_v S rfl rfl rfl (sv_pickB S rfl rfl rfl rfl) ?_; clear S a; intro a S)
                        refine wpl_take S rfl rfl rfl ?_
                        first | (refine wpl_v S rfl rfl rfl (sv_pure S rfl) ?_; clear S a; intro a S) | (refine wpl_v S rfl rfl rfl (sv_pickB S rfl rfl rfl rfl) ?_; clear S a; intro a S)
                        first | (refine wpl_v S rfl rfl rfl (sv_pure S rfl) ?_; clear S a; intro a S) | (refine wpl_v S rfl rfl rfl (sv_pickB S rfl rfl rfl rfl) ?_; clear S a; intro a S)
                        refine wpList_nil ?_
                        (refine hKq19 _ _ ?_; try (clear hKq19 Kq19))
                        refine wpc_true S rfl ?_
                        (refine wp_seq_k ?_; intro Kq20 hKq20)
                        refine wp_region_lit ?_
                        (refine wpl_v S rfl rfl rfl (sv_pure S rfl) ?_; clear S a; intro a S)
                        refine wpList_nil ?_
                        (refine hKq20 _ _ ?_; try (clear hKq20 Kq20))
                        refine wp_ret ?_
                        refine fin_ret S (results1 Tryd.results7 (RV.tmp S rfl)) ?_
                        (first | rfl | (have hke : k = (tokens s).1.length := (by first | omega | (have h9 := List.drop_eq_nil_iff.1 (hof.le_nil (by omega)); omega)); rw [hke]; simp; done) | (exfalso; first | omega | (have hf := hf0 (by assumption) (by assumption); first | exact absurd (by assumption) hf.1 | exact absurd (congrArg (fun c : UInt8 => ((c.toNat : Nat) : Int)) hf.2) (by assumption))) | trace_state)
                    · (intro h; clear S a; intro a S; (try simp only [decide_eq_true_eq, decide_eq_false_iff_not, beq_iff_eq, bne_iff_ne, bne_eq_false_iff_eq, beq_eq_false_iff_ne, ne_eq, Bool.not_eq_true', Bool.not_eq_false', Bool.not_eq_true, Bool.not_eq_false, Bool.not_true, Bool.not_false, Int.ofNat_lt, Int.ofNat_le, Nat.not_lt, Nat.not_le] at h))
                      (refine wpl_skip S rfl rfl rfl rfl rfl ?_; clear S a; intro a S)
                      (refine wpl_skip S rfl rfl rfl rfl rfl ?_; clear S a; intro a S)
                      (refine wpl_skip S rfl rfl rfl rfl rfl ?_; clear S a; intro a S)
                      (refine wpl_skipU S rfl rfl rfl rfl rfl ?_; clear S a; intro a S)
                      (refine wpl_skipU S rfl rfl rfl rfl rfl ?_; clear S a; intro a S)
                      (refine wpl_skipU S rfl rfl rfl rfl rfl ?_; clear S a; intro a S)
                      (refine wpl_skipU S rfl rfl rfl rfl rfl ?_; clear S a; intro a S)
                      (refine wpl_skipU S rfl rfl rfl rfl rfl ?_; clear S a; intro a S)
                      (refine wpl_skip S rfl rfl rfl rfl rfl ?_; clear S a; intro a S)
                      refine wpl_take S rfl rfl rfl ?_
                      first | (refine wpl_v S rfl rfl rfl (sv_pure S rfl) ?_; clear S a; intro a S) | (refine wpl_v S rfl rfl rfl (sv_pickB S rfl rfl rfl rfl) ?_; clear S a; intro a S)
                      first | (refine wpl_v S rfl rfl rfl (sv_pure S rfl) ?_; clear S a; intro a S) | (refine wpl_v S rfl rfl rfl (sv_pickB S rfl rfl rfl rfl) ?_; clear S a; intro a S)
                      refine wpList_nil ?_
                      (refine hKq19 _ _ ?_; try (clear hKq19 Kq19))
                      refine wpc_false S rfl ?_
                      refine wp_skip ?_
                      (refine hKq18 _ _ ?_; try (clear hKq18 Kq18))
                      refine wp_region_lit ?_
                      (refine wpl_v S rfl rfl rfl (sv_pure S rfl) ?_; clear S a; intro a S)
                      (refine wpl_v S rfl rfl rfl (sv_add S rfl rfl rfl (by first | omega | (have h9 := List.length_pos_iff.2 (hf0 (by assumption) (by assumption)).1; omega))) ?_; clear S a; intro a S)
                      (refine wpl_v S rfl rfl rfl (sv_pure S rfl) ?_; clear S a; intro a S)
                      refine wpList_nil ?_
                      (refine hKq14 _ _ ?_; try (clear hKq14 Kq14))
                      (refine wp_seq_k ?_; intro Kq20 hKq20)
                      (first | (have hK := hio) | (have hne : o ≠ i := fun h9 => (by have hq : ((place (1, 1) (s.take i)).1 == ((tokens s).1[k]'hkl2).line && (place (1, 1) (s.take i)).2 == ((tokens s).1[k]'hkl2).col) = false := (by assumption); rw [h9] at ho3; rw [ho3] at hq; simp at hq)))
                      refine wp_region_lit ?_
                      (refine wpl_v S rfl rfl rfl (sv_fieldAddr S rfl rfl rfl inferInstance rfl) ?_; clear S a; intro a S)
                      first | (refine wpl_v S rfl rfl rfl (sv_loadO S rfl rfl (by rfl)) ?_; clear S a; intro a S) | (refine wpl_v S rfl rfl rfl (sv_loadF S rfl rfl (by assumption)) ?_; clear S a; intro a S)
                      (refine wpl_v S rfl rfl rfl (sv_add S rfl rfl rfl (by first | omega | (have h9 := List.length_pos_iff.2 (hf0 (by assumption) (by assumption)).1; omega))) ?_; clear S a; intro a S)
                      (refine wpl_v S rfl rfl rfl (sv_fieldAddr S rfl rfl rfl inferInstance rfl) ?_; clear S a; intro a S)
                      (refine wpl_store1 S rfl rfl rfl rfl rfl rfl (by first | (simp; done) | (simp [Value.cells]; done) | exact Nat.le_of_ble_eq_true rfl) ?_; clear S; intro w S)
                      refine wpList_nil ?_
                      (refine hKq20 _ _ ?_; try (clear hKq20 Kq20))
                      (refine wp_seq_k ?_; intro Kq21 hKq21)
                      refine wp_region_lit ?_
                      (refine wpl_v S rfl rfl rfl (sv_pure S rfl) ?_; clear S a; intro a S)
                      (refine wpl_v S rfl rfl rfl (sv_pure S rfl) ?_; clear S a; intro a S)
                      first | (refine wpl_v S rfl rfl rfl (sv_indexSN S rfl rfl rfl (by first | omega | (have h9 := List.length_pos_iff.2 (hf0 (by assumption) (by assumption)).1; omega))) ?_; clear S a; intro a S) | (refine wpl_v S rfl rfl rfl (sv_indexS S rfl rfl rfl (by first | omega | (have h9 := List.length_pos_iff.2 (hf0 (by assumption) (by assumption)).1; omega))) ?_; clear S a; intro a S)
                      (refine wpl_v S rfl rfl rfl (sv_pure S rfl) ?_; clear S a; intro a S)
                      refine wpList_nil ?_
                      (refine hKq21 _ _ ?_; try (clear hKq21 Kq21))
                      refine wpc_split S rfl (fun h => ?_) (fun h => ?_)
                      · (skip; (try simp only [decide_eq_true_eq, decide_eq_false_iff_not, beq_iff_eq, bne_iff_ne, bne_eq_false_iff_eq, beq_eq_false_iff_ne, ne_eq, Bool.not_eq_true', Bool.not_eq_false', Bool.not_eq_true, Bool.not_eq_false, Bool.not_true, Bool.not_false, Int.ofNat_lt, Int.ofNat_le, Nat.not_lt, Nat.not_le] at h))
                        refine wp_region_lit ?_
                        (refine wpl_v S rfl rfl rfl (sv_fieldAddr S rfl rfl rfl inferInstance rfl) ?_; clear S a; intro a S)
                        first | (refine wpl_v S rfl rfl rfl (sv_loadO S rfl rfl (by rfl)) ?_; clear S a; intro a S) | (refine wpl_v S rfl rfl rfl (sv_loadF S rfl rfl (by assumption)) ?_; clear S a; intro a S)
                        (refine wpl_v S rfl rfl rfl (sv_add S rfl rfl rfl (by first | omega | (have h9 := List.length_pos_iff.2 (hf0 (by assumption) (by assumption)).1; omega))) ?_; clear S a; intro a S)
                        (refine wpl_v S rfl rfl rfl (sv_build S rfl rfl rfl) ?_; clear S a; intro a S)
                        (refine wpl_storeO S rfl rfl rfl rfl rfl (by rfl) (by simp [Value.cells, Value.oneCell', splice, tkC]) (by rfl) ?_; clear S; intro w S)
                        refine wpList_nil ?_
                        (refine hKq13 _ _ ?_; try (clear hKq13 Kq13))
                        refine wp_region_lit ?_
                        (refine wpl_v S rfl rfl rfl (sv_pure S rfl) ?_; clear S a; intro a S)
                        (refine wpl_v S rfl rfl rfl (sv_add S rfl rfl rfl (by first | omega | (have h9 := List.length_pos_iff.2 (hf0 (by assumption) (by assumption)).1; omega))) ?_; clear S a; intro a S)
                        (refine wpl_v S rfl rfl rfl (sv_pure S rfl) ?_; clear S a; intro a S)
                        refine wpList_nil ?_
                        change ∃ m', _ ∧ _
                        (first | (exfalso; omega) | (have hK := hio; replace S := S.drop1; refine ⟨s.length - (i + 1), by omega, i + 1, k + 1, rfl, by omega, by omega, ho5, ?_⟩; rw [place_succ (p := (1, 1)) (by omega)]; (first | rw [if_pos (by omega)] | rw [if_neg (by omega)]); refine S.keep ?_; repeat (first | exact trivial | refine ⟨rfl, ?_⟩)) | (refine ⟨s.length - (i + 1), by omega, i + 1, k, rfl, by omega, by omega, Offs.back hkl2 (by omega) ho2 ho3 ho4 ho5, ?_⟩; rw [place_succ (p := (1, 1)) (by omega)]; (first | rw [if_pos (by omega)] | rw [if_neg (by omega)]); refine S.keep ?_; repeat (first | exact trivial | refine ⟨rfl, ?_⟩)) | trace_state)
                      · (skip; (try simp only [decide_eq_true_eq, decide_eq_false_iff_not, beq_iff_eq, bne_iff_ne, bne_eq_false_iff_eq, beq_eq_false_iff_ne, ne_eq, Bool.not_eq_true', Bool.not_eq_false', Bool.not_eq_true, Bool.not_eq_false, Bool.not_true, Bool.not_false, Int.ofNat_lt, Int.ofNat_le, Nat.not_lt, Nat.not_le] at h))
                        refine wp_skip ?_
                        (refine hKq13 _ _ ?_; try (clear hKq13 Kq13))
                        refine wp_region_lit ?_
                        (refine wpl_v S rfl rfl rfl (sv_pure S rfl) ?_; clear S a; intro a S)
                        (refine wpl_v S rfl rfl rfl (sv_add S rfl rfl rfl (by first | omega | (have h9 := List.length_pos_iff.2 (hf0 (by assumption) (by assumption)).1; omega))) ?_; clear S a; intro a S)
                        (refine wpl_v S rfl rfl rfl (sv_pure S rfl) ?_; clear S a; intro a S)
                        refine wpList_nil ?_
                        change ∃ m', _ ∧ _
                        (first | (exfalso; omega) | (have hK := hio; replace S := S.drop1; refine ⟨s.length - (i + 1), by omega, i + 1, k + 1, rfl, by omega, by omega, ho5, ?_⟩; rw [place_succ (p := (1, 1)) (by omega)]; (first | rw [if_pos (by omega)] | rw [if_neg (by omega)]); refine S.keep ?_; repeat (first | exact trivial | refine ⟨rfl, ?_⟩)) | (refine ⟨s.length - (i + 1), by omega, i + 1, k, rfl, by omega, by omega, Offs.back hkl2 (by omega) ho2 ho3 ho4 ho5, ?_⟩; rw [place_succ (p := (1, 1)) (by omega)]; (first | rw [if_pos (by omega)] | rw [if_neg (by omega)]); refine S.keep ?_; repeat (first | exact trivial | refine ⟨rfl, ?_⟩)) | trace_state)
                  · (intro h; clear S a; intro a S; (try simp only [decide_eq_true_eq, decide_eq_false_iff_not, beq_iff_eq, bne_iff_ne, bne_eq_false_iff_eq, beq_eq_false_iff_ne, ne_eq, Bool.not_eq_true', Bool.not_eq_false', Bool.not_eq_true, Bool.not_eq_false, Bool.not_true, Bool.not_false, Int.ofNat_lt, Int.ofNat_le, Nat.not_lt, Nat.not_le] at h))
                    (refine wpl_skip S rfl rfl rfl rfl rfl ?_; clear S a; intro a S)
                    (refine wpl_skip S rfl rfl rfl rfl rfl ?_; clear S a; intro a S)
                    refine wpl_take S rfl rfl rfl ?_
                    first | (refine wpl_v S rfl rfl rfl (sv_pure S rfl) ?_; clear S a; intro a S) | (refine wpl_v S rfl rfl rfl (sv_pickB S rfl rfl rfl rfl) ?_; clear S a; intro a S)
                    refine wpl_take S rfl rfl rfl ?_
                    (refine wpl_v S rfl rfl rfl (sv_pure S rfl) ?_; clear S a; intro a S)
                    (refine wpl_skip S rfl rfl rfl rfl rfl ?_; clear S a; intro a S)
                    (refine wpl_skip S rfl rfl rfl rfl rfl ?_; clear S a; intro a S)
                    (refine wpl_skip S rfl rfl rfl rfl rfl ?_; clear S a; intro a S)
                    (refine wpl_skip S rfl rfl rfl rfl rfl ?_; clear S a; intro a S)
                    (refine wpl_skipU S rfl rfl rfl rfl rfl ?_; clear S a; intro a S)
                    (refine wpl_skipU S rfl rfl rfl rfl rfl ?_; clear S a; intro a S)
                    (refine wpl_skipU S rfl rfl rfl rfl rfl ?_; clear S a; intro a S)
                    (refine wpl_skipU S rfl rfl rfl rfl rfl ?_; clear S a; intro a S)
                    (refine wpl_skipU S rfl rfl rfl rfl rfl ?_; clear S a; intro a S)
                    (refine wpl_skip S rfl rfl rfl rfl rfl ?_; clear S a; intro a S)
                    refine wpl_take S rfl rfl rfl ?_
                    first | (refine wpl_v S rfl rfl rfl (sv_pure S rfl) ?_; clear S a; intro a S) | (refine wpl_v S rfl rfl rfl (sv_pickB S rfl rfl rfl rfl) ?_; clear S a; intro a S)
                    first | (refine wpl_v S rfl rfl rfl (sv_pure S rfl) ?_; clear S a; intro a S) | (refine wpl_v S rfl rfl rfl (sv_pickB S rfl rfl rfl rfl) ?_; clear S a; intro a S)
                    refine wpList_nil ?_
                    (refine hKq19 _ _ ?_; try (clear hKq19 Kq19))
                    refine wpc_false S rfl ?_
                    refine wp_skip ?_
                    (refine hKq18 _ _ ?_; try (clear hKq18 Kq18))
                    refine wp_region_lit ?_
                    (refine wpl_v S rfl rfl rfl (sv_pure S rfl) ?_; clear S a; intro a S)
                    (refine wpl_v S rfl rfl rfl (sv_add S rfl rfl rfl (by first | omega | (have h9 := List.length_pos_iff.2 (hf0 (by assumption) (by assumption)).1; omega))) ?_; clear S a; intro a S)
                    (refine wpl_v S rfl rfl rfl (sv_pure S rfl) ?_; clear S a; intro a S)
                    refine wpList_nil ?_
                    (refine hKq14 _ _ ?_; try (clear hKq14 Kq14))
                    (refine wp_seq_k ?_; intro Kq20 hKq20)
                    (first | (have hK := hio) | (have hne : o ≠ i := fun h9 => (by have hq : ((place (1, 1) (s.take i)).1 == ((tokens s).1[k]'hkl2).line && (place (1, 1) (s.take i)).2 == ((tokens s).1[k]'hkl2).col) = false := (by assumption); rw [h9] at ho3; rw [ho3] at hq; simp at hq)))
                    refine wp_region_lit ?_
                    (refine wpl_v S rfl rfl rfl (sv_fieldAddr S rfl rfl rfl inferInstance rfl) ?_; clear S a; intro a S)
                    first | (refine wpl_v S rfl rfl rfl (sv_loadO S rfl rfl (by rfl)) ?_; clear S a; intro a S) | (refine wpl_v S rfl rfl rfl (sv_loadF S rfl rfl (by assumption)) ?_; clear S a; intro a S)
                    (refine wpl_v S rfl rfl rfl (sv_add S rfl rfl rfl (by first | omega | (have h9 := List.length_pos_iff.2 (hf0 (by assumption) (by assumption)).1; omega))) ?_; clear S a; intro a S)
                    (refine wpl_v S rfl rfl rfl (sv_fieldAddr S rfl rfl rfl inferInstance rfl) ?_; clear S a; intro a S)
                    (refine wpl_store1 S rfl rfl rfl rfl rfl rfl (by first | (simp; done) | (simp [Value.cells]; done) | exact Nat.le_of_ble_eq_true rfl) ?_; clear S; intro w S)
                    refine wpList_nil ?_
                    (refine hKq20 _ _ ?_; try (clear hKq20 Kq20))
                    (refine wp_seq_k ?_; intro Kq21 hKq21)
                    refine wp_region_lit ?_
                    (refine wpl_v S rfl rfl rfl (sv_pure S rfl) ?_; clear S a; intro a S)
                    (refine wpl_v S rfl rfl rfl (sv_pure S rfl) ?_; clear S a; intro a S)
                    first | (refine wpl_v S rfl rfl rfl (sv_indexSN S rfl rfl rfl (by first | omega | (have h9 := List.length_pos_iff.2 (hf0 (by assumption) (by assumption)).1; omega))) ?_; clear S a; intro a S) | (refine wpl_v S rfl rfl rfl (sv_indexS S rfl rfl rfl (by first | omega | (have h9 := List.length_pos_iff.2 (hf0 (by assumption) (by assumption)).1; omega))) ?_; clear S a; intro a S)
                    (refine wpl_v S rfl rfl rfl (sv_pure S rfl) ?_; clear S a; intro a S)
                    refine wpList_nil ?_
                    (refine hKq21 _ _ ?_; try (clear hKq21 Kq21))
                    refine wpc_split S rfl (fun h => ?_) (fun h => ?_)
                    · (skip; (try simp only [decide_eq_true_eq, decide_eq_false_iff_not, beq_iff_eq, bne_iff_ne, bne_eq_false_iff_eq, beq_eq_false_iff_ne, ne_eq, Bool.not_eq_true', Bool.not_eq_false', Bool.not_eq_true, Bool.not_eq_false, Bool.not_true, Bool.not_false, Int.ofNat_lt, Int.ofNat_le, Nat.not_lt, Nat.not_le] at h))
                      refine wp_region_lit ?_
                      (refine wpl_v S rfl rfl rfl (sv_fieldAddr S rfl rfl rfl inferInstance rfl) ?_; clear S a; intro a S)
                      first | (refine wpl_v S rfl rfl rfl (sv_loadO S rfl rfl (by rfl)) ?_; clear S a; intro a S) | (refine wpl_v S rfl rfl rfl (sv_loadF S rfl rfl (by assumption)) ?_; clear S a; intro a S)
                      (refine wpl_v S rfl rfl rfl (sv_add S rfl rfl rfl (by first | omega | (have h9 := List.length_pos_iff.2 (hf0 (by assumption) (by assumption)).1; omega))) ?_; clear S a; intro a S)
                      (refine wpl_v S rfl rfl rfl (sv_build S rfl rfl rfl) ?_; clear S a; intro a S)
                      (refine wpl_storeO S rfl rfl rfl rfl rfl (by rfl) (by simp [Value.cells, Value.oneCell', splice, tkC]) (by rfl) ?_; clear S; intro w S)
                      refine wpList_nil ?_
                      (refine hKq13 _ _ ?_; try (clear hKq13 Kq13))
                      refine wp_region_lit ?_
                      (refine wpl_v S rfl rfl rfl (sv_pure S rfl) ?_; clear S a; intro a S)
                      (refine wpl_v S rfl rfl rfl (sv_add S rfl rfl rfl (by first | omega | (have h9 := List.length_pos_iff.2 (hf0 (by assumption) (by assumption)).1; omega))) ?_; clear S a; intro a S)
                      (refine wpl_v S rfl rfl rfl (sv_pure S rfl) ?_; clear S a; intro a S)
                      refine wpList_nil ?_
                      change ∃ m', _ ∧ _
                      (first | (exfalso; omega) | (have hK := hio; replace S := S.drop1; refine ⟨s.length - (i + 1), by omega, i + 1, k + 1, rfl, by omega, by omega, ho5, ?_⟩; rw [place_succ (p := (1, 1)) (by omega)]; (first | rw [if_pos (by omega)] | rw [if_neg (by omega)]); refine S.keep ?_; repeat (first | exact trivial | refine ⟨rfl, ?_⟩)) | (refine ⟨s.length - (i + 1), by omega, i + 1, k, rfl, by omega, by omega, Offs.back hkl2 (by omega) ho2 ho3 ho4 ho5, ?_⟩; rw [place_succ (p := (1, 1)) (by omega)]; (first | rw [if_pos (by omega)] | rw [if_neg (by omega)]); refine S.keep ?_; repeat (first | exact trivial | refine ⟨rfl, ?_⟩)) | trace_state)
                    · (skip; (try simp only [decide_eq_true_eq, decide_eq_false_iff_not, beq_iff_eq, bne_iff_ne, bne_eq_false_iff_eq, beq_eq_false_iff_ne, ne_eq, Bool.not_eq_true', Bool.not_eq_false', Bool.not_eq_true, Bool.not_eq_false, Bool.not_true, Bool.not_false, Int.ofNat_lt, Int.ofNat_le, Nat.not_lt, Nat.not_le] at h))
                      refine wp_skip ?_
                      (refine hKq13 _ _ ?_; try (clear hKq13 Kq13))
                      refine wp_region_lit ?_
                      (refine wpl_v S rfl rfl rfl (sv_pure S rfl) ?_; clear S a; intro a S)
                      (refine wpl_v S rfl rfl rfl (sv_add S rfl rfl rfl (by first | omega | (have h9 := List.length_pos_iff.2 (hf0 (by assumption) (by assumption)).1; omega))) ?_; clear S a; intro a S)
                      (refine wpl_v S rfl rfl rfl (sv_pure S rfl) ?_; clear S a; intro a S)
                      refine wpList_nil ?_
                      change ∃ m', _ ∧ _
                      (first | (exfalso; omega) | (have hK := hio; replace S := S.drop1; refine ⟨s.length - (i + 1), by omega, i + 1, k + 1, rfl, by omega, by omega, ho5, ?_⟩; rw [place_succ (p := (1, 1)) (by omega)]; (first | rw [if_pos (by omega)] | rw [if_neg (by omega)]); refine S.keep ?_; repeat (first | exact trivial | refine ⟨rfl, ?_⟩)) | (refine ⟨s.length - (i + 1), by omega, i + 1, k, rfl, by omega, by omega, Offs.back hkl2 (by omega) ho2 ho3 ho4 ho5, ?_⟩; rw [place_succ (p := (1, 1)) (by omega)]; (first | rw [if_pos (by omega)] | rw [if_neg (by omega)]); refine S.keep ?_; repeat (first | exact trivial | refine ⟨rfl, ?_⟩)) | trace_state)
            · (skip; (try simp only [decide_eq_true_eq, decide_eq_false_iff_not, beq_iff_eq, bne_iff_ne, bne_eq_false_iff_eq, beq_eq_false_iff_ne, ne_eq, Bool.not_eq_true', Bool.not_eq_false', Bool.not_eq_true, Bool.not_eq_false, Bool.not_true, Bool.not_false, Int.ofNat_lt, Int.ofNat_le, Nat.not_lt, Nat.not_le] at h))
              refine wp_skip ?_
              (refine hKq14 _ _ ?_; try (clear hKq14 Kq14))
              (refine wp_seq_k ?_; intro Kq16 hKq16)
              (first | (have hK := hio) | (have hne : o ≠ i := fun h9 => (by have hq : ((place (1, 1) (s.take i)).1 == ((tokens s).1[k]'hkl2).line && (place (1, 1) (s.take i)).2 == ((tokens s).1[k]'hkl2).col) = false := (by assumption); rw [h9] at ho3; rw [ho3] at hq; simp at hq)))
              refine wp_region_lit ?_
              (refine wpl_v S rfl rfl rfl (sv_fieldAddr S rfl rfl rfl inferInstance rfl) ?_; clear S a; intro a S)
              first | (refine wpl_v S rfl rfl rfl (sv_loadO S rfl rfl (by rfl)) ?_; clear S a; intro a S) | (refine wpl_v S rfl rfl rfl (sv_loadF S rfl rfl (by assumption)) ?_; clear S a; intro a S)
              (refine wpl_v S rfl rfl rfl (sv_add S rfl rfl rfl (by first | omega | (have h9 := List.length_pos_iff.2 (hf0 (by assumption) (by assumption)).1; omega))) ?_; clear S a; intro a S)
              (refine wpl_v S rfl rfl rfl (sv_fieldAddr S rfl rfl rfl inferInstance rfl) ?_; clear S a; intro a S)
              (refine wpl_store1 S rfl rfl rfl rfl rfl rfl (by first | (simp; done) | (simp [Value.cells]; done) | exact Nat.le_of_ble_eq_true rfl) ?_; clear S; intro w S)
              refine wpList_nil ?_
              (refine hKq16 _ _ ?_; try (clear hKq16 Kq16))
              (refine wp_seq_k ?_; intro Kq17 hKq17)
              refine wp_region_lit ?_
              (refine wpl_v S rfl rfl rfl (sv_pure S rfl) ?_; clear S a; intro a S)
              (refine wpl_v S rfl rfl rfl (sv_pure S rfl) ?_; clear S a; intro a S)
              first | (refine wpl_v S rfl rfl rfl (sv_indexSN S rfl rfl rfl (by first | omega | (have h9 := List.length_pos_iff.2 (hf0 (by assumption) (by assumption)).1; omega))) ?_; clear S a; intro a S) | (refine wpl_v S rfl rfl rfl (sv_indexS S rfl rfl rfl (by first | omega | (have h9 := List.length_pos_iff.2 (hf0 (by assumption) (by assumption)).1; omega))) ?_; clear S a; intro a S)
              (refine wpl_v S rfl rfl rfl (sv_pure S rfl) ?_; clear S a; intro a S)
              refine wpList_nil ?_
              (refine hKq17 _ _ ?_; try (clear hKq17 Kq17))
              refine wpc_split S rfl (fun h => ?_) (fun h => ?_)
              · (skip; (try simp only [decide_eq_true_eq, decide_eq_false_iff_not, beq_iff_eq, bne_iff_ne, bne_eq_false_iff_eq, beq_eq_false_iff_ne, ne_eq, Bool.not_eq_true', Bool.not_eq_false', Bool.not_eq_true, Bool.not_eq_false, Bool.not_true, Bool.not_false, Int.ofNat_lt, Int.ofNat_le, Nat.not_lt, Nat.not_le] at h))
                refine wp_region_lit ?_
                (refine wpl_v S rfl rfl rfl (sv_fieldAddr S rfl rfl rfl inferInstance rfl) ?_; clear S a; intro a S)
                first | (refine wpl_v S rfl rfl rfl (sv_loadO S rfl rfl (by rfl)) ?_; clear S a; intro a S) | (refine wpl_v S rfl rfl rfl (sv_loadF S rfl rfl (by assumption)) ?_; clear S a; intro a S)
                (refine wpl_v S rfl rfl rfl (sv_add S rfl rfl rfl (by first | omega | (have h9 := List.length_pos_iff.2 (hf0 (by assumption) (by assumption)).1; omega))) ?_; clear S a; intro a S)
                (refine wpl_v S rfl rfl rfl (sv_build S rfl rfl rfl) ?_; clear S a; intro a S)
                (refine wpl_storeO S rfl rfl rfl rfl rfl (by rfl) (by simp [Value.cells, Value.oneCell', splice, tkC]) (by rfl) ?_; clear S; intro w S)
                refine wpList_nil ?_
                (refine hKq13 _ _ ?_; try (clear hKq13 Kq13))
                refine wp_region_lit ?_
                (refine wpl_v S rfl rfl rfl (sv_pure S rfl) ?_; clear S a; intro a S)
                (refine wpl_v S rfl rfl rfl (sv_add S rfl rfl rfl (by first | omega | (have h9 := List.length_pos_iff.2 (hf0 (by assumption) (by assumption)).1; omega))) ?_; clear S a; intro a S)
                (refine wpl_v S rfl rfl rfl (sv_pure S rfl) ?_; clear S a; intro a S)
                refine wpList_nil ?_
                change ∃ m', _ ∧ _
                (first | (exfalso; omega) | (have hK := hio; replace S := S.drop1; refine ⟨s.length - (i + 1), by omega, i + 1, k + 1, rfl, by omega, by omega, ho5, ?_⟩; rw [place_succ (p := (1, 1)) (by omega)]; (first | rw [if_pos (by omega)] | rw [if_neg (by omega)]); refine S.keep ?_; repeat (first | exact trivial | refine ⟨rfl, ?_⟩)) | (refine ⟨s.length - (i + 1), by omega, i + 1, k, rfl, by omega, by omega, Offs.back hkl2 (by omega) ho2 ho3 ho4 ho5, ?_⟩; rw [place_succ (p := (1, 1)) (by omega)]; (first | rw [if_pos (by omega)] | rw [if_neg (by omega)]); refine S.keep ?_; repeat (first | exact trivial | refine ⟨rfl, ?_⟩)) | trace_state)
              · (skip; (try simp only [decide_eq_true_eq, decide_eq_false_iff_not, beq_iff_eq, bne_iff_ne, bne_eq_false_iff_eq, beq_eq_false_iff_ne, ne_eq, Bool.not_eq_true', Bool.not_eq_false', Bool.not_eq_true, Bool.not_eq_false, Bool.not_true, Bool.not_false, Int.ofNat_lt, Int.ofNat_le, Nat.not_lt, Nat.not_le] at h))
                refine wp_skip ?_
                (refine hKq13 _ _ ?_; try (clear hKq13 Kq13))
                refine wp_region_lit ?_
                (refine wpl_v S rfl rfl rfl (sv_pure S rfl) ?_; clear S a; intro a S)
                (refine wpl_v S rfl rfl rfl (sv_add S rfl rfl rfl (by first | omega | (have h9 := List.length_pos_iff.2 (hf0 (by assumption) (by assumption)).1; omega))) ?_; clear S a; intro a S)
                (refine wpl_v S rfl rfl rfl (sv_pure S rfl) ?_; clear S a; intro a S)
                refine wpList_nil ?_
                change ∃ m', _ ∧ _
                (first | (exfalso; omega) | (have hK := hio; replace S := S.drop1; refine ⟨s.length - (i + 1), by omega, i + 1, k + 1, rfl, by omega, by omega, ho5, ?_⟩; rw [place_succ (p := (1, 1)) (by omega)]; (first | rw [if_pos (by omega)] | rw [if_neg (by omega)]); refine S.keep ?_; repeat (first | exact trivial | refine ⟨rfl, ?_⟩)) | (refine ⟨s.length - (i + 1), by omega, i + 1, k, rfl, by omega, by omega, Offs.back hkl2 (by omega) ho2 ho3 ho4 ho5, ?_⟩; rw [place_succ (p := (1, 1)) (by omega)]; (first | rw [if_pos (by omega)] | rw [if_neg (by omega)]); refine S.keep ?_; repeat (first | exact trivial | refine ⟨rfl, ?_⟩)) | trace_state)
          · (skip; (try simp only [decide_eq_true_eq, decide_eq_false_iff_not, beq_iff_eq, bne_iff_ne, bne_eq_false_iff_eq, beq_eq_false_iff_ne, ne_eq, Bool.not_eq_true', Bool.not_eq_false', Bool.not_eq_true, Bool.not_eq_false, Bool.not_true, Bool.not_false, Int.ofNat_lt, Int.ofNat_le, Nat.not_lt, Nat.not_le] at h))
            refine wp_exit ?_
            (refine hKq9 _ _ ?_; try (clear hKq9 Kq9))
            (refine wp_seq_k ?_; intro Kq13 hKq13)
            refine wp_region_lit ?_
            (refine wpl_v S rfl rfl rfl (sv_pure S rfl) ?_; clear S a; intro a S)
            (refine wpl_v S rfl rfl rfl (sv_pure S rfl) ?_; clear S a; intro a S)
            (refine wpl_v S rfl rfl rfl (sv_lenSl S rfl rfl) ?_; clear S a; intro a S)
            (refine wpl_v S rfl rfl rfl (sv_pure S rfl) ?_; clear S a; intro a S)
            (refine wpl_v S rfl rfl rfl (sv_pure S rfl) ?_; clear S a; intro a S)
            refine wpList_nil ?_
            (refine hKq13 _ _ ?_; try (clear hKq13 Kq13))
            refine wp_ret ?_
            refine fin_ret S (results1 Tryd.results7 (RV.tmp S rfl)) ?_
            (first | rfl | (have hke : k = (tokens s).1.length := (by first | omega | (have h9 := List.drop_eq_nil_iff.1 (hof.le_nil (by omega)); omega)); rw [hke]; simp; done) | (exfalso; first | omega | (have hf := hf0 (by assumption) (by assumption); first | exact absurd (by assumption) hf.1 | exact absurd (congrArg (fun c : UInt8 => ((c.toNat : Nat) : Int)) hf.2) (by assumption))) | trace_state)
        · (intro h; clear S a; intro a S; (try simp only [decide_eq_true_eq, decide_eq_false_iff_not, beq_iff_eq, bne_iff_ne, bne_eq_false_iff_eq, beq_eq_false_iff_ne, ne_eq, Bool.not_eq_true', Bool.not_eq_false', Bool.not_eq_true, Bool.not_eq_false, Bool.not_true, Bool.not_false, Int.ofNat_lt, Int.ofNat_le, Nat.not_lt, Nat.not_le] at h))
          (refine wpl_skip S rfl rfl rfl rfl rfl ?_; clear S a; intro a S)
          (refine wpl_skip S rfl rfl rfl rfl rfl ?_; clear S a; intro a S)
          (refine wpl_skip S rfl rfl rfl rfl rfl ?_; clear S a; intro a S)
          first | (refine wpl_v S rfl rfl rfl (sv_pure S rfl) ?_; clear S a; intro a S) | (refine wpl_v S rfl rfl rfl (sv_pickB S rfl rfl rfl rfl) ?_; clear S a; intro a S)
          refine wpList_nil ?_
          (refine hKq12 _ _ ?_; try (clear hKq12 Kq12))
          refine wpc_false S rfl ?_
          refine wp_exit ?_
          (refine hKq9 _ _ ?_; try (clear hKq9 Kq9))
          (refine wp_seq_k ?_; intro Kq13 hKq13)
          refine wp_region_lit ?_
          (refine wpl_v S rfl rfl rfl (sv_pure S rfl) ?_; clear S a; intro a S)
          (refine wpl_v S rfl rfl rfl (sv_pure S rfl) ?_; clear S a; intro a S)
          (refine wpl_v S rfl rfl rfl (sv_lenSl S rfl rfl) ?_; clear S a; intro a S)
          (refine wpl_v S rfl rfl rfl (sv_pure S rfl) ?_; clear S a; intro a S)
          (refine wpl_v S rfl rfl rfl (sv_pure S rfl) ?_; clear S a; intro a S)
          refine wpList_nil ?_
          (refine hKq13 _ _ ?_; try (clear hKq13 Kq13))
          refine wp_ret ?_
          refine fin_ret S (results1 Tryd.results7 (RV.tmp S rfl)) ?_
          (first | rfl | (have hke : k = (tokens s).1.length := (by first | omega | (have h9 := List.drop_eq_nil_iff.1 (hof.le_nil (by omega)); omega)); rw [hke]; simp; done) | (exfalso; first | omega | (have hf := hf0 (by assumption) (by assumption); first | exact absurd (by assumption) hf.1 | exact absurd (congrArg (fun c : UInt8 => ((c.toNat : Nat) : Int)) hf.2) (by assumption))) | trace_state)
end Go.Proofs.YtpgnmnacfilnkaaDoor
