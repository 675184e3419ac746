/- The walk of the lexer's Tokens. -/
import Derived.Test.YtpgnmnacfilnkaaDoorLxI
import Derived.Test.YtpgnmnacfilnkaaDoorLxN
namespace Go.Proofs.YtpgnmnacfilnkaaDoor
open Go Go.Wk Go.Lx
set_option linter.unusedSimpArgs false
set_option linter.unusedVariables false
attribute [local irreducible] Go.wpList Go.Code.wp Go.wpStill Go.Wk.wpPre Go.bodyPost Go.Calls Go.Wk.Ct Go.Wk.OwnS
attribute [local irreducible] Go.Wk.wpG Go.Wk.wpM

def tkC (t : Tok) : List Value := [.int .i64 t.line, .int .i64 t.col, .int .u8 t.kind, .string (bs t.text)]
def restT (acc : List Tok) (x : List Tok × (Int × Int) × Int) : List Tok × (Int × Int) × Int := if x.2.2 ≠ 0 then x else (acc ++ x.1, x.2)
theorem restT_nil (x : List Tok × (Int × Int) × Int) : restT [] x = x := by unfold restT; split <;> rfl
theorem restT_cons (acc : List Tok) (t : Tok) (x : List Tok × (Int × Int) × Int) : restT acc (if x.2.2 ≠ 0 then x else (t :: x.1, x.2)) = restT (acc ++ [t]) x := by
  unfold restT
  by_cases h : x.2.2 ≠ 0
  · simp only [if_pos h]
  · simp only [if_neg h, List.append_assoc, List.singleton_append]
theorem lexAt_lend {F : Heap} {X mb : Nat} {r : List UInt8} {p : Int × Int} (hm : F mb = some (mObj kS wordsM)) (hX : F X = none) : LexAt (F.add (lexG X mb r p)) X mb r := by
  have h1 : (F.add (lexG X mb r p)) X = some (.cells ⟨[.map (some mb), .string (bs r), .int .i64 p.1, .int .i64 p.2]⟩ 50 (0, 0)) := Heap.add_new (p := (X, .cells ⟨[.map (some mb), .string (bs r), .int .i64 p.1, .int .i64 p.2]⟩ 50 (0, 0))) (by simp [lexG]) (by simp [lexG])
  refine ⟨⟨_, _, _, h1, rfl⟩, ⟨_, _, _, h1, rfl⟩, ?_⟩
  rw [Heap.add_none (fun hm2 => ?_)]
  · exact hm
  · simp only [lexG, List.map_cons, List.map_nil, List.mem_singleton] at hm2
    rw [hm2, hX] at hm; cases hm

theorem tokens_short {s : List UInt8} (h : s.length ≤ 65536) : tokens s = toks (s.length + 1) (1, 1) s := by unfold tokens; rw [if_neg (by omega)]
theorem tokens_long {s : List UInt8} (h : 65536 < s.length) : tokens s = ([], (1, 1), 40) := by unfold tokens; rw [if_pos h]
theorem skipB_drop_le (s : List UInt8) (j : Nat) : skipB (s.drop j) ≤ s.length - j := by rw [← List.length_drop]; exact skipB_le _ _ (Nat.le_refl _)
theorem flat_tk (acc : List Tok) (t : Tok) : (acc ++ [t]).flatMap tkC = acc.flatMap tkC ++ tkC t := by simp
theorem slC_none (F : Heap) (cells : List Value) : SlC F (.slice none 0 0) 0 cells := ⟨Option.none, 0, rfl, Nat.le_refl _, fun h => absurd h (by decide)⟩
structure Hd (s : List UInt8) (acc : List Tok) (j k : Nat) : Prop where
  hj : j ≤ s.length
  hk : k = j + skipB (s.drop j)
  hn : acc.length ≤ j
  ht : ∃ fuel, s.length - j < fuel ∧ tokens s = restT acc (toks fuel (place (1, 1) (s.take j)) (s.drop j))
theorem Hd.le {s acc j k} (h : Hd s acc j k) : k ≤ s.length := by have := h.hj; have := h.hk; have := skipB_drop_le s j; omega
theorem Hd.stop {s acc j k} (h : Hd s acc j k) (he : s.drop k = []) : tokens s = (acc, (0, 0), 0) := by
  obtain ⟨fuel, hf, ht⟩ := h.ht
  rw [ht, toks_end (by rw [List.drop_drop, ← h.hk]; exact he)]
  simp [restT]
theorem Hd.bad {s acc j k} (h : Hd s acc j k) (hn : s.drop k ≠ []) (he : (nextF (s.drop k)).e ≠ 0) : tokens s = ([], place (1, 1) (s.take k), (nextF (s.drop k)).e) := by
  obtain ⟨fuel, hf, ht⟩ := h.ht
  obtain ⟨fuel, rfl⟩ : ∃ m, fuel = m + 1 := ⟨fuel - 1, by omega⟩
  have e : (s.drop j).drop (skipB (s.drop j)) = s.drop k := by rw [List.drop_drop, ← h.hk]
  rw [ht, toks_bad (by rw [e]; exact hn) (by rw [e]; exact he), e]
  unfold restT
  rw [if_pos (by exact he), place_more, ← h.hk]
theorem Hd.next {s acc j k} (h : Hd s acc j k) (hn : s.drop k ≠ []) (he : (nextF (s.drop k)).e = 0) (n : Nat) (hnn : n = (nextF (s.drop k)).size) :
    Hd s (acc ++ [⟨(place (1, 1) (s.take k)).1, (place (1, 1) (s.take k)).2, (nextF (s.drop k)).kind, (nextF (s.drop k)).text⟩]) (k + n) (k + n + skipB (s.drop (k + n))) := by
  have hs := nextF_size hn he
  have hk := h.hk
  have hac := h.hn
  rw [List.length_drop] at hs
  obtain ⟨fuel, hf, ht⟩ := h.ht
  obtain ⟨fuel, rfl⟩ : ∃ m, fuel = m + 1 := ⟨fuel - 1, by omega⟩
  have e : (s.drop j).drop (skipB (s.drop j)) = s.drop k := by rw [List.drop_drop, ← h.hk]
  refine ⟨by omega, rfl, by simp; omega, fuel, by omega, ?_⟩
  rw [ht, toks_ok (by rw [e]; exact hn) (by rw [e]; exact he), e, place_more, ← h.hk, place_more, ← hnn, List.drop_drop]
  exact restT_cons _ _ _

set_option maxRecDepth 10000 in
set_option maxHeartbeats 4000000 in
theorem tokensCt (s : List UInt8) (F : Heap) (hF : SpF F) (hs : s.length ≤ 1000000) :
    Ct Tryd.prog 8 [.string (bs s)] F [] (fun F' _ u => ∃ v, u = .tuple ⟨[v, .agg ⟨[.int .i64 (tokens s).2.1.1, .int .i64 (tokens s).2.1.2]⟩, .int .i64 (tokens s).2.2]⟩ ∧ SlC F' v (tokens s).1.length ((tokens s).1.flatMap tkC)) := by
  have hp0 : ∀ j, 0 ≤ (place (1, 1) (s.take j)).1 ∧ 0 ≤ (place (1, 1) (s.take j)).2 ∧ (place (1, 1) (s.take j)).1 ≤ 1000001 ∧ (place (1, 1) (s.take j)).2 ≤ 1000001 := fun j => by
    have := place_bd (p := (1, 1)) (by decide) (by decide) (l := s.take j)
    rw [List.length_take] at this
    simp only at this
    omega
  refine Ct.enter Tryd.func8 rfl Tryd.ntmps8 rfl fun w0 a S => ?_
  (refine wp_seq_k ?_; intro Kq1 hKq1)
  refine wp_region_lit ?_
  (refine wpl_v S rfl rfl rfl (sv_pure S rfl) ?_; clear S a; intro a S)
  (refine wpl_alloc S rfl rfl rfl rfl ?_; clear S a; intro b3 a w S)
  (refine wpl_v S rfl rfl rfl (sv_pure S rfl) ?_; clear S a; intro a S)
  refine wpList_nil ?_
  (refine hKq1 _ _ ?_; try (clear hKq1 Kq1))
  (refine wp_seq_k ?_; intro Kq2 hKq2)
  refine wp_region_lit ?_
  (refine wpl_callOwn (Gs := []) (Gr := [[(b3, .cells ⟨[.int .i64 0, .int .i64 0]⟩ 24 (0, 0))]]) S rfl rfl rfl rfl rfl rfl (wordsCt F hF) rfl (by exact List.Perm.refl _) ?_; clear S a; intro u G1 a w hv1 S; obtain ⟨mb, rfl, rfl⟩ := hv1; replace S : St _ _ _ _ _ F ([] ++ [(mb, mObj kS wordsM)] :: [[(b3, .cells ⟨[.int .i64 0, .int .i64 0]⟩ 24 (0, 0))]]) _ _ := S; have hF1 := add_le S; have hm1 : (F.add [(mb, mObj kS wordsM)]) mb = some (mObj kS wordsM) := Heap.add_new (p := (mb, mObj kS wordsM)) (by simp) (by simp); replace S := St.freeze (G1 := []) S; generalize F.add [(mb, mObj kS wordsM)] = F1 at S hF1 hm1; simp only [List.nil_append] at S)
  (refine wpl_v S rfl rfl rfl (sv_pure S rfl) ?_; clear S a; intro a S)
  (refine wpl_v S rfl rfl rfl (sv_build S rfl rfl rfl) ?_; clear S a; intro a S)
  (refine wpl_v S rfl rfl rfl (sv_build S rfl rfl rfl) ?_; clear S a; intro a S)
  (refine wpl_box S rfl rfl rfl rfl rfl ?_; clear S a; intro b12 a w S)
  (refine wpl_v S rfl rfl rfl (sv_pure S rfl) ?_; clear S a; intro a S)
  refine wpList_nil ?_
  (refine hKq2 _ _ ?_; try (clear hKq2 Kq2))
  (refine wp_seq_k ?_; intro Kq3 hKq3)
  (refine wp_seq_k ?_; intro Kq4 hKq4)
  refine wp_region_lit ?_
  (refine wpl_v S rfl rfl rfl (sv_pure S rfl) ?_; clear S a; intro a S)
  (refine wpl_v S rfl rfl rfl (sv_lenS S rfl rfl) ?_; clear S a; intro a S)
  (refine wpl_v S rfl rfl rfl (sv_pure S rfl) ?_; clear S a; intro a S)
  refine wpList_nil ?_
  (refine hKq4 _ _ ?_; try (clear hKq4 Kq4))
  refine wpc_split S rfl (fun h => ?_) (fun h => ?_)
  · (skip; (try simp only [decide_eq_true_eq, decide_eq_false_iff_not, beq_iff_eq, bne_iff_ne, bne_eq_false_iff_eq, beq_eq_false_iff_ne, ne_eq, Bool.not_eq_true', Bool.not_eq_false', Bool.not_eq_true, Bool.not_eq_false, Bool.not_true, Bool.not_false, Int.ofNat_lt, Int.ofNat_le, Nat.not_lt, Nat.not_le] at h))
    (refine wp_seq_k ?_; intro Kq5 hKq5)
    (refine wpc_mixM [0, 1, 2, 3] [3] [] (.one 0 (.one 1 (.one 2 (.one 3 (.one 4 (.one 5 (.one 6 .nil))))))) [b12] S mixed (by kernel_rfl) ?_; clear S; intro w S)
    (refine wpm_v S rfl rfl rfl (want_none _ rfl) rfl rfl (fun w' S => sv_pure S rfl) ?_; clear S a; intro a S)
    (refine wpm_v S rfl rfl rfl (want_none _ rfl) rfl rfl (fun w' S => sv_nilCheck S rfl rfl) ?_; clear S a; intro a S)
    (refine wpm_v S rfl rfl rfl (want_none _ rfl) rfl rfl (fun w' S => sv_fieldAddr S rfl rfl rfl inferInstance rfl) ?_; clear S a; intro a S)
    first | (refine wpm_lateO b12 S rfl rfl rfl (want_none _ rfl) rfl rfl (fun w' S => sv_loadO S rfl rfl (by rfl)) ?_; clear S a; intro a S) | (refine wpm_lateO b12 S rfl rfl rfl (want_none _ rfl) rfl rfl (fun w' S => sv_loadAO S rfl rfl (by rfl)) ?_; clear S a; intro a S)
    refine wpm_eff rfl rfl (fun _ => ⟨fun b o h => S.tr.frz b o (by first | exact h | solve_by_elim), S.has inferInstance, trivial⟩) ?_
    (refine wpl_v S rfl rfl rfl (sv_pure S rfl) ?_; clear S a; intro a S)
    refine wpList_nil ?_
    refine wpm_eff rfl rfl (fun _ => ⟨fun b o h => S.tr.frz b o (by first | exact h | solve_by_elim), S.has inferInstance, trivial⟩) ?_
    (refine wpl_storeO S rfl rfl rfl rfl rfl (by rfl) (by simp [Value.cells, Value.oneCell', fdV, splice]) (by rfl) ?_; clear S; intro w S)
    refine wpList_nil ?_
    refine wpm_eff rfl rfl (fun _ => ⟨fun b o h => S.tr.frz b o (by first | exact h | solve_by_elim), S.has inferInstance, trivial⟩) ?_
    (refine wpl_v S rfl rfl rfl (sv_pure S rfl) ?_; clear S a; intro a S)
    refine wpList_nil ?_
    refine wpm_nil (fun _ => ⟨fun b o h => S.tr.frz b o (by first | exact h | solve_by_elim), S.has inferInstance, trivial⟩) ?_
    (refine hKq5 _ _ ?_; try (clear hKq5 Kq5))
    refine wp_ret ?_
    refine fin_ret S (results3 Tryd.results8 (RV.tmp S rfl) (RV.cellO S rfl (by rfl)) (RV.tmp S rfl)) ?_
    (first | (rw [tokens_long (by omega)]; exact ⟨_, rfl, slC_none _ _⟩) | (rw [hd.stop (by assumption)]; exact ⟨_, rfl, hsl⟩) | (have hbe := hsame.1; rw [nextO_eq hne] at hbe; rw [hd.bad hne (by rw [← hbe]; assumption), ← hbe]; exact ⟨_, rfl, slC_none _ _⟩))
  · (skip; (try simp only [decide_eq_true_eq, decide_eq_false_iff_not, beq_iff_eq, bne_iff_ne, bne_eq_false_iff_eq, beq_eq_false_iff_ne, ne_eq, Bool.not_eq_true', Bool.not_eq_false', Bool.not_eq_true, Bool.not_eq_false, Bool.not_true, Bool.not_false, Int.ofNat_lt, Int.ofNat_le, Nat.not_lt, Nat.not_le] at h))
    refine wp_skip ?_
    (refine hKq3 _ _ ?_; try (clear hKq3 Kq3))
    (refine wp_seq_k ?_; intro Kq5 hKq5)
    refine wp_region_lit ?_
    (refine wpl_v S rfl rfl rfl (sv_pure S rfl) ?_; clear S a; intro a S)
    refine wpList_nil ?_
    (refine hKq5 _ _ ?_; try (clear hKq5 Kq5))
    (refine wp_seq_k ?_; intro Kq6 hKq6)
    (refine wp_seq_k ?_; intro Kq7 hKq7)
    refine wp_region_lit ?_
    (refine wpl_v S rfl rfl rfl (sv_pure S rfl) ?_; clear S a; intro a S)
    ((first | (refine wpl_callOwn (Gs := [lexG b12 mb (s.drop (k + n)) (place (1, 1) (s.take (k + n)))]) (Gr := [g, [(b3, .cells ⟨[.int .i64 0, .int .i64 0]⟩ 24 (0, 0))]]) S rfl rfl rfl rfl rfl rfl (betweenCt F1 b12 mb (s.drop (k + n)) (place (1, 1) (s.take (k + n))) (by rw [List.length_drop]; omega) (hp0 _).1 (hp0 _).2.1 (by have := hp0 (k + n); omega) (by have := hp0 (k + n); omega)) rfl (by exact List.Perm.refl _) ?_; clear S a; intro u9 G1 a w hv1 S; subst hv1; rw [List.drop_drop, place_more] at S) | (refine wpl_callOwn (Gs := [lexG b12 mb s (1, 1)]) (Gr := [[(b3, .cells ⟨[.int .i64 0, .int .i64 0]⟩ 24 (0, 0))]]) S rfl rfl rfl rfl rfl rfl (betweenCt F1 b12 mb s (1, 1) (by omega) (by decide) (by decide) (by decide) (by decide)) rfl (by exact List.Perm.refl _) ?_; clear S a; intro u9 G1 a w hv1 S; subst hv1)))
    refine wpList_nil ?_
    (refine hKq7 _ _ ?_; try (clear hKq7 Kq7))
    refine wp_block ?_
    refine wpc_loop (fun m a w' => ∃ (j k : Nat) (acc : List Tok) (v : Value) (g : Grp), m = s.length - j ∧ Hd s acc j k ∧ OwnS 44 4 v acc.length (acc.flatMap tkC) g ∧ St 58 [(0, .string (bs s)), (2, .slice none 0 0), (3, .pointer (some ⟨b3, 0, none⟩)), (4, .int .i64 0), (5, ptr b12), (6, v)] w0 F [] F1 [[(b12, .cells ⟨[.map (some mb), .string (bs (s.drop k)), .int .i64 (place (1, 1) (s.take k)).1, .int .i64 (place (1, 1) (s.take k)).2]⟩ 50 (0, 0))], g, [(b3, .cells ⟨[.int .i64 0, .int .i64 0]⟩ 24 (0, 0))]] a w') ?_ ?_
    · (refine ⟨s.length, 0, skipB s, [], .slice none 0 0, [], rfl, ⟨Nat.zero_le _, by simp, by simp, s.length + 1, by omega, by rw [restT_nil]; exact tokens_short (by omega)⟩, OwnS.nil _ _, ?_⟩; replace S := S.nilg; replace S : St _ _ _ _ _ _ [[(b12, .cells ⟨[.map (some mb), .string (bs (s.drop (skipB s))), .int .i64 (place (1, 1) (s.take (skipB s))).1, .int .i64 (place (1, 1) (s.take (skipB s))).2]⟩ 50 (0, 0))], [], [(b3, .cells ⟨[.int .i64 0, .int .i64 0]⟩ 24 (0, 0))]] _ _ := ⟨S.fr, S.tr.perm (by exact List.Perm.refl _)⟩; refine S.keep ?_; repeat (first | exact trivial | refine ⟨rfl, ?_⟩))
    · (clear S; rintro m a w ⟨j, k, acc, v, g, rfl, hd, hown, S⟩; have hkl := hd.le; have hpk := hp0 k; have hal := hd.hn; have hjl := hd.hj; have hjk : j ≤ k := (by have := hd.hk; omega))
      (refine wp_seq_k ?_; intro Kq8 hKq8)
      (refine wp_seq_k ?_; intro Kq9 hKq9)
      refine wp_region_lit ?_
      (refine wpl_v S rfl rfl rfl (sv_pure S rfl) ?_; clear S a; intro a S)
      (refine wpl_v S rfl rfl rfl (sv_nilCheck S rfl rfl) ?_; clear S a; intro a S)
      (refine wpl_v S rfl rfl rfl (sv_fieldAddr S rfl rfl rfl inferInstance rfl) ?_; clear S a; intro a S)
      first | (refine wpl_v S rfl rfl rfl (sv_loadO S rfl rfl (by rfl)) ?_; clear S a; intro a S) | (refine wpl_v S rfl rfl rfl (sv_loadF S rfl rfl (by assumption)) ?_; clear S a; intro a S)
      (refine wpl_v S rfl rfl rfl (sv_pure S rfl) ?_; clear S a; intro a S)
      refine wpList_nil ?_
      (refine hKq9 _ _ ?_; try (clear hKq9 Kq9))
      refine wpc_split S rfl (fun h => ?_) (fun h => ?_)
      · (skip; (try simp only [decide_eq_true_eq, decide_eq_false_iff_not, beq_iff_eq, bne_iff_ne, bne_eq_false_iff_eq, beq_eq_false_iff_ne, ne_eq, Bool.not_eq_true', Bool.not_eq_false', Bool.not_eq_true, Bool.not_eq_false, Bool.not_true, Bool.not_false, Int.ofNat_lt, Int.ofNat_le, Nat.not_lt, Nat.not_le] at h))
        refine wp_skip ?_
        (refine hKq8 _ _ ?_; try (clear hKq8 Kq8))
        (refine wp_seq_k ?_; intro Kq10 hKq10)
        refine wp_block ?_
        (refine wp_seq_k ?_; intro Kq11 hKq11)
        (have hX : F1 b12 = none := (S.tr.own (b12, .cells ⟨[.map (some mb), .string (bs (s.drop k)), .int .i64 (place (1, 1) (s.take k)).1, .int .i64 (place (1, 1) (s.take k)).2]⟩ 50 (0, 0)) (by simp)).2.1; have hne : s.drop k ≠ [] := (by assumption))
        refine wp_region_lit ?_
        (refine wpl_v S rfl rfl rfl (sv_pure S rfl) ?_; clear S a; intro a S)
        (refine wpl_callOwn (Gs := [lexG b12 mb (s.drop k) (place (1, 1) (s.take k))]) (Gr := [g, [(b3, .cells ⟨[.int .i64 0, .int .i64 0]⟩ 24 (0, 0))]]) S rfl rfl rfl rfl rfl rfl (Ct.lend (nextCt (F1.add (lexG b12 mb (s.drop k) (place (1, 1) (s.take k)))) b12 mb (s.drop k) (lexAt_lend hm1 hX) (by rw [List.length_drop]; omega))) rfl (by exact List.Perm.refl _) ?_; clear S a; intro u9 G1 a w hv1 S; obtain ⟨rfl, f, rfl, hsame⟩ := hv1; replace S : St _ _ _ _ _ _ [lexG b12 mb (s.drop k) (place (1, 1) (s.take k)), g, [(b3, .cells ⟨[.int .i64 0, .int .i64 0]⟩ 24 (0, 0))]] _ _ := S; unfold lexG at S)
        (refine wpl_alloc S rfl rfl rfl rfl ?_; clear S a; intro b7 a w S)
        (refine wpl_storeO S rfl rfl rfl rfl rfl (by rfl) (by simp [Value.cells, Value.oneCell', fdV, splice]) (by rfl) ?_; clear S; intro w S)
        refine wpList_nil ?_
        (refine hKq11 _ _ ?_; try (clear hKq11 Kq11))
        (refine wp_seq_k ?_; intro Kq12 hKq12)
        (refine wp_seq_k ?_; intro Kq13 hKq13)
        refine wp_region_lit ?_
        (refine wpl_v S rfl rfl rfl (sv_fieldAddr S rfl rfl rfl inferInstance rfl) ?_; clear S a; intro a S)
        first | (refine wpl_v S rfl rfl rfl (sv_loadO S rfl rfl (by rfl)) ?_; clear S a; intro a S) | (refine wpl_v S rfl rfl rfl (sv_loadF S rfl rfl (by assumption)) ?_; clear S a; intro a S)
        (refine wpl_v S rfl rfl rfl (sv_pure S rfl) ?_; clear S a; intro a S)
        refine wpList_nil ?_
        (refine hKq13 _ _ ?_; try (clear hKq13 Kq13))
        refine wpc_split S rfl (fun h => ?_) (fun h => ?_)
        · (skip; (try simp only [decide_eq_true_eq, decide_eq_false_iff_not, beq_iff_eq, bne_iff_ne, bne_eq_false_iff_eq, beq_eq_false_iff_ne, ne_eq, Bool.not_eq_true', Bool.not_eq_false', Bool.not_eq_true, Bool.not_eq_false, Bool.not_true, Bool.not_false, Int.ofNat_lt, Int.ofNat_le, Nat.not_lt, Nat.not_le] at h))
          (refine wp_seq_k ?_; intro Kq14 hKq14)
          (refine wpc_mixM [0, 1, 2, 3, 4, 5] [3, 5] [] (.one 0 (.one 1 (.one 2 (.one 3 (.one 4 (.one 5 (.one 6 (.one 7 (.one 8 .nil))))))))) [b12, b7] S mixed (by kernel_rfl) ?_; clear S; intro w S)
          (refine wpm_v S rfl rfl rfl (want_none _ rfl) rfl rfl (fun w' S => sv_pure S rfl) ?_; clear S a; intro a S)
          (refine wpm_v S rfl rfl rfl (want_none _ rfl) rfl rfl (fun w' S => sv_nilCheck S rfl rfl) ?_; clear S a; intro a S)
          (refine wpm_v S rfl rfl rfl (want_none _ rfl) rfl rfl (fun w' S => sv_fieldAddr S rfl rfl rfl inferInstance rfl) ?_; clear S a; intro a S)
          first | (refine wpm_lateO b12 S rfl rfl rfl (want_none _ rfl) rfl rfl (fun w' S => sv_loadO S rfl rfl (by rfl)) ?_; clear S a; intro a S) | (refine wpm_lateO b12 S rfl rfl rfl (want_none _ rfl) rfl rfl (fun w' S => sv_loadAO S rfl rfl (by rfl)) ?_; clear S a; intro a S)
          (refine wpm_v S rfl rfl rfl (want_none _ rfl) rfl rfl (fun w' S => sv_fieldAddr S rfl rfl rfl inferInstance rfl) ?_; clear S a; intro a S)
          first | (refine wpm_lateO b7 S rfl rfl rfl (want_none _ rfl) rfl rfl (fun w' S => sv_loadO S rfl rfl (by rfl)) ?_; clear S a; intro a S) | (refine wpm_lateO b7 S rfl rfl rfl (want_none _ rfl) rfl rfl (fun w' S => sv_loadAO S rfl rfl (by rfl)) ?_; clear S a; intro a S)
          refine wpm_eff rfl rfl (fun _ => ⟨fun b o h => S.tr.frz b o (by first | exact h | solve_by_elim), S.has inferInstance, S.has inferInstance, trivial⟩) ?_
          (refine wpl_v S rfl rfl rfl (sv_pure S rfl) ?_; clear S a; intro a S)
          refine wpList_nil ?_
          refine wpm_eff rfl rfl (fun _ => ⟨fun b o h => S.tr.frz b o (by first | exact h | solve_by_elim), S.has inferInstance, S.has inferInstance, trivial⟩) ?_
          (refine wpl_storeO S rfl rfl rfl rfl rfl (by rfl) (by simp [Value.cells, Value.oneCell', fdV, splice]) (by rfl) ?_; clear S; intro w S)
          refine wpList_nil ?_
          refine wpm_eff rfl rfl (fun _ => ⟨fun b o h => S.tr.frz b o (by first | exact h | solve_by_elim), S.has inferInstance, S.has inferInstance, trivial⟩) ?_
          (refine wpl_v S rfl rfl rfl (sv_pure S rfl) ?_; clear S a; intro a S)
          refine wpList_nil ?_
          refine wpm_nil (fun _ => ⟨fun b o h => S.tr.frz b o (by first | exact h | solve_by_elim), S.has inferInstance, S.has inferInstance, trivial⟩) ?_
          (refine hKq14 _ _ ?_; try (clear hKq14 Kq14))
          refine wp_ret ?_
          refine fin_ret S (results3 Tryd.results8 (RV.tmp S rfl) (RV.cellO S rfl (by rfl)) (RV.tmp S rfl)) ?_
          (first | (rw [tokens_long (by omega)]; exact ⟨_, rfl, slC_none _ _⟩) | (rw [hd.stop (by assumption)]; exact ⟨_, rfl, hsl⟩) | (have hbe := hsame.1; rw [nextO_eq hne] at hbe; rw [hd.bad hne (by rw [← hbe]; assumption), ← hbe]; exact ⟨_, rfl, slC_none _ _⟩))
        · (skip; (try simp only [decide_eq_true_eq, decide_eq_false_iff_not, beq_iff_eq, bne_iff_ne, bne_eq_false_iff_eq, beq_eq_false_iff_ne, ne_eq, Bool.not_eq_true', Bool.not_eq_false', Bool.not_eq_true, Bool.not_eq_false, Bool.not_true, Bool.not_false, Int.ofNat_lt, Int.ofNat_le, Nat.not_lt, Nat.not_le] at h))
          refine wp_skip ?_
          (refine hKq12 _ _ ?_; try (clear hKq12 Kq12))
          (refine wp_seq_k ?_; intro Kq14 hKq14)
          (have hfe : f = nextF (s.drop k) := (by rw [nextO_eq hne] at hsame; exact hsame.2 (hsame.1.symm.trans (by assumption))); have he0 : (nextF (s.drop k)).e = 0 := (by rw [← hfe]; assumption); have hsz := nextF_size hne he0; rw [List.length_drop] at hsz; rw [hfe] at S; obtain ⟨n, hnn⟩ : ∃ n, n = (nextF (s.drop k)).size := ⟨_, rfl⟩)
          (refine wpc_mixM [0, 1, 2, 3, 4, 5, 6, 7, 8, 9] [4, 6, 8] [] (.one 0 (.one 1 (.one 2 (.one 3 (.one 4 (.one 5 (.one 6 (.one 7 (.one 8 (.one 9 (.one 10 (.one 11 (.one 12 .nil))))))))))))) [b12, b7] S mixed (by kernel_rfl) ?_; clear S; intro w S)
          (refine wpm_v S rfl rfl rfl (want_none _ rfl) rfl rfl (fun w' S => sv_pure S rfl) ?_; clear S a; intro a S)
          (refine wpm_v S rfl rfl rfl (want_none _ rfl) rfl rfl (fun w' S => sv_pure S rfl) ?_; clear S a; intro a S)
          (refine wpm_v S rfl rfl rfl (want_none _ rfl) rfl rfl (fun w' S => sv_nilCheck S rfl rfl) ?_; clear S a; intro a S)
          (refine wpm_v S rfl rfl rfl (want_none _ rfl) rfl rfl (fun w' S => sv_fieldAddr S rfl rfl rfl inferInstance rfl) ?_; clear S a; intro a S)
          first | (refine wpm_lateO b12 S rfl rfl rfl (want_none _ rfl) rfl rfl (fun w' S => sv_loadO S rfl rfl (by rfl)) ?_; clear S a; intro a S) | (refine wpm_lateO b12 S rfl rfl rfl (want_none _ rfl) rfl rfl (fun w' S => sv_loadAO S rfl rfl (by rfl)) ?_; clear S a; intro a S)
          (refine wpm_v S rfl rfl rfl (want_none _ rfl) rfl rfl (fun w' S => sv_fieldAddr S rfl rfl rfl inferInstance rfl) ?_; clear S a; intro a S)
          first | (refine wpm_lateO b7 S rfl rfl rfl (want_none _ rfl) rfl rfl (fun w' S => sv_loadO S rfl rfl (by rfl)) ?_; clear S a; intro a S) | (refine wpm_lateO b7 S rfl rfl rfl (want_none _ rfl) rfl rfl (fun w' S => sv_loadAO S rfl rfl (by rfl)) ?_; clear S a; intro a S)
          (refine wpm_v S rfl rfl rfl (want_none _ rfl) rfl rfl (fun w' S => sv_fieldAddr S rfl rfl rfl inferInstance rfl) ?_; clear S a; intro a S)
          first | (refine wpm_lateO b7 S rfl rfl rfl (want_none _ rfl) rfl rfl (fun w' S => sv_loadO S rfl rfl (by rfl)) ?_; clear S a; intro a S) | (refine wpm_lateO b7 S rfl rfl rfl (want_none _ rfl) rfl rfl (fun w' S => sv_loadAO S rfl rfl (by rfl)) ?_; clear S a; intro a S)
          (refine wpm_v S rfl rfl rfl (want_none _ rfl) rfl rfl (fun w' S => sv_build S rfl rfl rfl) ?_; clear S a; intro a S)
          refine wpm_eff rfl rfl (fun _ => ⟨fun b o h => S.tr.frz b o (by first | exact h | solve_by_elim), S.has inferInstance, S.has inferInstance, trivial⟩) ?_
          (refine wpl_buildSlice S rfl rfl rfl rfl rfl rfl (by rfl) (by simp [Value.cells, splice, fdV, splice]) rfl (by rfl) (by rfl) ?_; clear S a; intro b50 a w hown2 S)
          refine wpList_nil ?_
          refine wpm_eff rfl rfl (fun _ => ⟨fun b o h => S.tr.frz b o (by first | exact h | solve_by_elim), S.has inferInstance, S.has inferInstance, trivial⟩) ?_
          (refine wpl_appendOwn S rfl rfl rfl rfl rfl rfl hown hown2 (by rfl) (by simp [Value.cells, Value.oneCell', splice, fdV, splice]) (by omega) (by omega) ?_; clear hown S a; intro v g a w hown S)
          refine wpList_nil ?_
          refine wpm_eff rfl rfl (fun _ => ⟨fun b o h => S.tr.frz b o (by first | exact h | solve_by_elim), S.has inferInstance, S.has inferInstance, trivial⟩) ?_
          (refine wpl_v S rfl rfl rfl (sv_pure S rfl) ?_; clear S a; intro a S)
          refine wpList_nil ?_
          refine wpm_nil (fun _ => ⟨fun b o h => S.tr.frz b o (by first | exact h | solve_by_elim), S.has inferInstance, S.has inferInstance, trivial⟩) ?_
          (refine hKq14 _ _ ?_; try (clear hKq14 Kq14))
          refine wp_region_lit ?_
          (refine wpl_v S rfl rfl rfl (sv_pure S rfl) ?_; clear S a; intro a S)
          (refine wpl_v S rfl rfl rfl (sv_fieldAddr S rfl rfl rfl inferInstance rfl) ?_; clear S a; intro a S)
          first | (refine wpl_v S rfl rfl rfl (sv_loadO S rfl rfl (by rfl)) ?_; clear S a; intro a S) | (refine wpl_v S rfl rfl rfl (sv_loadF S rfl rfl (by assumption)) ?_; clear S a; intro a S)
          (replace S := S.drop1; rw [← hnn] at S; refine wpl_callOwn (Gs := [lexG b12 mb (s.drop k) (place (1, 1) (s.take k))]) (Gr := [g, [(b3, .cells ⟨[.int .i64 0, .int .i64 0]⟩ 24 (0, 0))]]) S rfl rfl rfl rfl rfl rfl (skipCt F1 b12 mb (s.drop k) (place (1, 1) (s.take k)) n (by rw [List.length_drop]; omega) (by rw [List.length_drop]; omega) (by omega) (by omega) (by omega) (by omega)) rfl (by exact List.Perm.refl _) ?_; clear S a; intro u9 G1 a w hv1 S; subst hv1; rw [List.drop_drop, place_more] at S)
          refine wpList_nil ?_
          (refine hKq10 _ _ ?_; try (clear hKq10 Kq10))
          refine wp_region_lit ?_
          (refine wpl_v S rfl rfl rfl (sv_pure S rfl) ?_; clear S a; intro a S)
          ((first | (refine wpl_callOwn (Gs := [lexG b12 mb (s.drop (k + n)) (place (1, 1) (s.take (k + n)))]) (Gr := [g, [(b3, .cells ⟨[.int .i64 0, .int .i64 0]⟩ 24 (0, 0))]]) S rfl rfl rfl rfl rfl rfl (betweenCt F1 b12 mb (s.drop (k + n)) (place (1, 1) (s.take (k + n))) (by rw [List.length_drop]; omega) (hp0 _).1 (hp0 _).2.1 (by have := hp0 (k + n); omega) (by have := hp0 (k + n); omega)) rfl (by exact List.Perm.refl _) ?_; clear S a; intro u9 G1 a w hv1 S; subst hv1; rw [List.drop_drop, place_more] at S) | (refine wpl_callOwn (Gs := [lexG b12 mb s (1, 1)]) (Gr := [[(b3, .cells ⟨[.int .i64 0, .int .i64 0]⟩ 24 (0, 0))]]) S rfl rfl rfl rfl rfl rfl (betweenCt F1 b12 mb s (1, 1) (by omega) (by decide) (by decide) (by decide) (by decide)) rfl (by exact List.Perm.refl _) ?_; clear S a; intro u9 G1 a w hv1 S; subst hv1)))
          refine wpList_nil ?_
          change ∃ m', _ ∧ _
          (refine ⟨s.length - (k + n), by omega, k + n, k + n + skipB (s.drop (k + n)), _, v, g, rfl, hd.next hne he0 n hnn, (by rw [flat_tk, List.length_append]; exact hown), ?_⟩; refine S.keep ?_; repeat (first | exact trivial | refine ⟨rfl, ?_⟩))
      · (skip; (try simp only [decide_eq_true_eq, decide_eq_false_iff_not, beq_iff_eq, bne_iff_ne, bne_eq_false_iff_eq, beq_eq_false_iff_ne, ne_eq, Bool.not_eq_true', Bool.not_eq_false', Bool.not_eq_true, Bool.not_eq_false, Bool.not_true, Bool.not_false, Int.ofNat_lt, Int.ofNat_le, Nat.not_lt, Nat.not_le] at h))
        refine wp_exit ?_
        (refine hKq6 _ _ ?_; try (clear hKq6 Kq6))
        (refine wp_seq_k ?_; intro Kq10 hKq10)
        (replace S := St.freeze (G1 := [[(b12, .cells ⟨[.map (some mb), .string (bs (s.drop k)), .int .i64 (place (1, 1) (s.take k)).1, .int .i64 (place (1, 1) (s.take k)).2]⟩ 50 (0, 0))]]) S; simp only [List.cons_append, List.nil_append] at S; have hsl := hown.slC F1)
        refine wp_region_lit ?_
        (refine wpl_v S rfl rfl rfl (sv_pure S rfl) ?_; clear S a; intro a S)
        (refine wpl_v S rfl rfl rfl (sv_build S rfl rfl rfl) ?_; clear S a; intro a S)
        (refine wpl_v S rfl rfl rfl (sv_pure S rfl) ?_; clear S a; intro a S)
        (refine wpl_storeO S rfl rfl rfl rfl rfl (by rfl) (by simp [Value.cells, Value.oneCell', fdV, splice]) (by rfl) ?_; clear S; intro w S)
        (refine wpl_v S rfl rfl rfl (sv_pure S rfl) ?_; clear S a; intro a S)
        refine wpList_nil ?_
        (refine hKq10 _ _ ?_; try (clear hKq10 Kq10))
        refine wp_ret ?_
        refine fin_ret S (results3 Tryd.results8 (RV.tmp S rfl) (RV.cellO S rfl (by rfl)) (RV.tmp S rfl)) ?_
        (first | (rw [tokens_long (by omega)]; exact ⟨_, rfl, slC_none _ _⟩) | (rw [hd.stop (by assumption)]; exact ⟨_, rfl, hsl⟩) | (have hbe := hsame.1; rw [nextO_eq hne] at hbe; rw [hd.bad hne (by rw [← hbe]; assumption), ← hbe]; exact ⟨_, rfl, slC_none _ _⟩))
end Go.Proofs.YtpgnmnacfilnkaaDoor
