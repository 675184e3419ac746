/- The walk of the document's Tokens. -/
import Derived.Test.YtpgnmnacfilnkaaDoorLxS
import Derived.Test.YtpgnmnacfilnkaaDoorLxJ
namespace Go.Proofs.YtpgnmnacfilnkaaDoor
open Go Go.Wk Go.Lx
set_option linter.unusedSimpArgs false
set_option linter.unusedVariables false
attribute [local irreducible] Go.wpList Go.Code.wp Go.wpStill Go.Wk.wpPre Go.bodyPost Go.Calls Go.Wk.Ct Go.Wk.OwnS
attribute [local irreducible] Go.Wk.wpG Go.Wk.wpM

theorem blank_iff (c : UInt8) : blankB c = true ↔ c.toNat = 32 ∨ c.toNat = 9 ∨ c.toNat = 10 ∨ c.toNat = 13 := by simp [blankB, or_assoc]
theorem skip_blank {r : List UInt8} (hr : r ≠ []) (h : blankB (r.getD 0 0) = true) : skipB r = skipB (r.drop 1) + 1 := by
  obtain ⟨c, t, rfl⟩ := List.exists_cons_of_ne_nil hr
  exact skipB_blank h
theorem skip_hash {r : List UInt8} (h : (r.getD 0 0).toNat = 35) : skipB r = run notNl r + skipB (r.drop (run notNl r)) ∧ 1 ≤ run notNl r := by
  obtain ⟨c, t, rfl, hc⟩ := hash_of h
  exact ⟨skipB_hash (bfalse (by rw [blank_iff]; omega)) hc, notNl_hash hc⟩
theorem skip_none {r : List UInt8} (h : ¬ blankB (r.getD 0 0) = true) (h2 : (r.getD 0 0).toNat ≠ 35) : skipB r = 0 := by
  cases r with
  | nil => rfl
  | cons c t => exact skipB_stop (bfalse h) h2
theorem notNl_iff (c : UInt8) : notNl c = true ↔ ¬ c.toNat = 10 := by simp [notNl]

set_option maxRecDepth 10000 in
set_option maxHeartbeats 8000000 in
theorem rtokensCt (s : List UInt8) (F : Heap) (hs : s.length ≤ 1000000) :
    Ct Tryd.prog 9 [.string (bs s)] F [] (fun F' _ u => ∃ v, u = .tuple ⟨[v, .agg ⟨[.int .i64 (tokens s).2.1.1, .int .i64 (tokens s).2.1.2]⟩, .int .i64 (tokens s).2.2]⟩ ∧ SlC F' v (tokens s).1.length ((tokens s).1.flatMap tkC)) := by
  refine Ct.enter Tryd.func9 rfl Tryd.ntmps9 rfl fun w0 a S => ?_
  (refine wp_seq_k ?_; intro Kq1 hKq1)
  refine wp_region_lit ?_
  (refine wpl_v S rfl rfl rfl (sv_pure S rfl) ?_; clear S a; intro a S)
  (refine wpl_alloc S rfl rfl rfl rfl ?_; clear S a; intro b3 a w S)
  (refine wpl_v S rfl rfl rfl (sv_pure S rfl) ?_; clear S a; intro a S)
  refine wpList_nil ?_
  (refine hKq1 _ _ ?_; try (clear hKq1 Kq1))
  (refine wp_seq_k ?_; intro Kq2 hKq2)
  (refine wp_seq_k ?_; intro Kq3 hKq3)
  refine wp_region_lit ?_
  (refine wpl_v S rfl rfl rfl (sv_pure S rfl) ?_; clear S a; intro a S)
  (refine wpl_v S rfl rfl rfl (sv_lenS S rfl rfl) ?_; clear S a; intro a S)
  (refine wpl_v S rfl rfl rfl (sv_pure S rfl) ?_; clear S a; intro a S)
  refine wpList_nil ?_
  (refine hKq3 _ _ ?_; try (clear hKq3 Kq3))
  refine wpc_split S rfl (fun h => ?_) (fun h => ?_)
  · (skip; (try simp only [decide_eq_true_eq, decide_eq_false_iff_not, beq_iff_eq, bne_iff_ne, bne_eq_false_iff_eq, beq_eq_false_iff_ne, ne_eq, Bool.not_eq_true', Bool.not_eq_false', Bool.not_eq_true, Bool.not_eq_false, Bool.not_true, Bool.not_false, Int.ofNat_lt, Int.ofNat_le, Nat.not_lt, Nat.not_le] at h))
    (refine wp_seq_k ?_; intro Kq4 hKq4)
    refine wp_region_lit ?_
    (refine wpl_v S rfl rfl rfl (sv_build S rfl rfl rfl) ?_; clear S a; intro a S)
    (refine wpl_v S rfl rfl rfl (sv_pure S rfl) ?_; clear S a; intro a S)
    (refine wpl_storeO S rfl rfl rfl rfl rfl (by rfl) (by simp [Value.cells, Value.oneCell', splice]) (by rfl) ?_; clear S; intro w S)
    (refine wpl_v S rfl rfl rfl (sv_pure S rfl) ?_; clear S a; intro a S)
    refine wpList_nil ?_
    (refine hKq4 _ _ ?_; try (clear hKq4 Kq4))
    refine wp_ret ?_
    refine fin_ret S (results3 Tryd.results9 (RV.tmp S rfl) (RV.cellO S rfl (by rfl)) (RV.tmp S rfl)) ?_
    (first | (rw [tokens_long (by omega)]; exact ⟨_, rfl, slC_none _ _⟩) | (rw [hd.stop hdk]; exact ⟨_, rfl, hsl⟩) | (rw [hd2.bad hne (by assumption)]; exact ⟨_, rfl, slC_none _ _⟩))
  · (skip; (try simp only [decide_eq_true_eq, decide_eq_false_iff_not, beq_iff_eq, bne_iff_ne, bne_eq_false_iff_eq, beq_eq_false_iff_ne, ne_eq, Bool.not_eq_true', Bool.not_eq_false', Bool.not_eq_true, Bool.not_eq_false, Bool.not_true, Bool.not_false, Int.ofNat_lt, Int.ofNat_le, Nat.not_lt, Nat.not_le] at h))
    refine wp_skip ?_
    (refine hKq2 _ _ ?_; try (clear hKq2 Kq2))
    (refine wp_seq_k ?_; intro Kq4 hKq4)
    refine wp_region_lit ?_
    (refine wpl_v S rfl rfl rfl (sv_pure S rfl) ?_; clear S a; intro a S)
    refine wpList_nil ?_
    (refine hKq4 _ _ ?_; try (clear hKq4 Kq4))
    (refine wp_seq_k ?_; intro Kq5 hKq5)
    refine wp_region_lit ?_
    (refine wpl_v S rfl rfl rfl (sv_pure S rfl) ?_; clear S a; intro a S)
    refine wpList_nil ?_
    (refine hKq5 _ _ ?_; try (clear hKq5 Kq5))
    (refine wp_seq_k ?_; intro Kq6 hKq6)
    refine wp_block ?_
    refine wpc_loop (fun m a w' => ∃ (i j k : Nat) (acc : List Tok) (v : Value) (g : Grp), m = s.length - i ∧ Hd s acc j k ∧ j ≤ i ∧ i ≤ s.length ∧ k = i + skipB (s.drop i) ∧ OwnS 60 4 v acc.length (acc.flatMap tkC) g ∧ St 84 [(0, .string (bs s)), (2, .slice none 0 0), (3, .pointer (some ⟨b3, 0, none⟩)), (4, .int .i64 0), (5, v), (6, .int .i64 i)] w0 F [] F [g, [(b3, .cells ⟨[.int .i64 0, .int .i64 0]⟩ 24 (0, 0))]] a w') ?_ ?_
    · (refine ⟨s.length, 0, 0, skipB s, [], .slice none 0 0, [], rfl, ⟨Nat.zero_le _, by simp, by simp, s.length + 1, by omega, by rw [restT_nil]; exact tokens_short (by omega)⟩, by omega, by omega, by simp, OwnS.nil _ _, ?_⟩; replace S := S.nilg; refine S.keep ?_; repeat (first | exact trivial | refine ⟨rfl, ?_⟩))
    · (clear S; rintro m a w ⟨i, j, k, acc, v, g, rfl, hd, hji, hil, hki, hown, S⟩; have hal := hd.hn; have hg0 : s.getD i 0 = (s.drop i).getD 0 0 := (by simp only [List.getD_eq_getElem?_getD, List.getElem?_drop, Nat.add_zero]); have hdl : (s.drop i).length = s.length - i := List.length_drop; have hdn : i < s.length → s.drop i ≠ [] := (fun h h2 => by rw [h2] at hdl; simp at hdl; omega))
      (refine wp_seq_k ?_; intro Kq7 hKq7)
      (refine wp_seq_k ?_; intro Kq8 hKq8)
      refine wp_region_lit ?_
      (refine wpl_v S rfl rfl rfl (sv_pure S rfl) ?_; clear S a; intro a S)
      (refine wpl_v S rfl rfl rfl (sv_pure S rfl) ?_; clear S a; intro a S)
      (refine wpl_v S rfl rfl rfl (sv_lenS S rfl rfl) ?_; clear S a; intro a S)
      (refine wpl_v S rfl rfl rfl (sv_pure S rfl) ?_; clear S a; intro a S)
      refine wpList_nil ?_
      (refine hKq8 _ _ ?_; try (clear hKq8 Kq8))
      refine wpc_split S rfl (fun h => ?_) (fun h => ?_)
      · (skip; (try simp only [decide_eq_true_eq, decide_eq_false_iff_not, beq_iff_eq, bne_iff_ne, bne_eq_false_iff_eq, beq_eq_false_iff_ne, ne_eq, Bool.not_eq_true', Bool.not_eq_false', Bool.not_eq_true, Bool.not_eq_false, Bool.not_true, Bool.not_false, Int.ofNat_lt, Int.ofNat_le, Nat.not_lt, Nat.not_le] at h))
        refine wp_skip ?_
        (refine hKq7 _ _ ?_; try (clear hKq7 Kq7))
        refine wp_block ?_
        (refine wp_seq_k ?_; intro Kq9 hKq9)
        (refine wp_seq_k ?_; intro Kq10 hKq10)
        refine wp_region_lit ?_
        (refine wpl_v S rfl rfl rfl (sv_pure S rfl) ?_; clear S a; intro a S)
        (refine wpl_v S rfl rfl rfl (sv_pure S rfl) ?_; clear S a; intro a S)
        first | (refine wpl_v S rfl rfl rfl (sv_indexSN S rfl rfl rfl (by first | omega | (simp only [List.length_append, List.length_cons, List.length_nil]; omega))) ?_; clear S a; intro a S) | (refine wpl_v S rfl rfl rfl (sv_indexS S rfl rfl rfl (by first | omega | (simp only [List.length_append, List.length_cons, List.length_nil]; omega))) ?_; clear S a; intro a S)
        (rw [hg0] at S)
        (refine wpl_v S rfl rfl rfl (sv_pure S rfl) ?_; clear S a; intro a S)
        (refine wpl_v S rfl rfl rfl (sv_pure S rfl) ?_; clear S a; intro a S)
        refine wpl_guard S rfl rfl rfl rfl rfl ?_ ?_
        · (intro h S'; clear S; have S := S'; clear S'; (try simp only [decide_eq_true_eq, decide_eq_false_iff_not, beq_iff_eq, bne_iff_ne, bne_eq_false_iff_eq, beq_eq_false_iff_ne, ne_eq, Bool.not_eq_true', Bool.not_eq_false', Bool.not_eq_true, Bool.not_eq_false, Bool.not_true, Bool.not_false, Int.ofNat_lt, Int.ofNat_le, Nat.not_lt, Nat.not_le] at h))
          (refine wpl_v S rfl rfl rfl (sv_pure S rfl) ?_; clear S a; intro a S)
          refine wpl_take S rfl rfl rfl ?_
          (refine wpl_v S rfl rfl rfl (sv_pure S rfl) ?_; clear S a; intro a S)
          refine wpl_take S rfl rfl rfl ?_
          first | (refine wpl_v S rfl rfl rfl (sv_indexSN S rfl rfl rfl (by first | omega | (simp only [List.length_append, List.length_cons, List.length_nil]; omega))) ?_; clear S a; intro a S) | (refine wpl_v S rfl rfl rfl (sv_indexS S rfl rfl rfl (by first | omega | (simp only [List.length_append, List.length_cons, List.length_nil]; omega))) ?_; clear S a; intro a S)
          (rw [hg0] at S)
          refine wpl_take S rfl rfl rfl ?_
          (refine wpl_v S rfl rfl rfl (sv_pure S rfl) ?_; clear S a; intro a S)
          first | (refine wpl_v S rfl rfl rfl (sv_pure S rfl) ?_; clear S a; intro a S) | (refine wpl_v S rfl rfl rfl (sv_pickB S rfl rfl rfl rfl) ?_; clear S a; intro a S)
          (refine wpl_v S rfl rfl rfl (sv_pure S rfl) ?_; clear S a; intro a S)
          refine wpl_guard S rfl rfl rfl rfl rfl ?_ ?_
          · (intro h S'; clear S; have S := S'; clear S'; (try simp only [decide_eq_true_eq, decide_eq_false_iff_not, beq_iff_eq, bne_iff_ne, bne_eq_false_iff_eq, beq_eq_false_iff_ne, ne_eq, Bool.not_eq_true', Bool.not_eq_false', Bool.not_eq_true, Bool.not_eq_false, Bool.not_true, Bool.not_false, Int.ofNat_lt, Int.ofNat_le, Nat.not_lt, Nat.not_le] at h))
            (refine wpl_v S rfl rfl rfl (sv_pure S rfl) ?_; clear S a; intro a S)
            refine wpl_take S rfl rfl rfl ?_
            (refine wpl_v S rfl rfl rfl (sv_pure S rfl) ?_; clear S a; intro a S)
            refine wpl_take S rfl rfl rfl ?_
            first | (refine wpl_v S rfl rfl rfl (sv_indexSN S rfl rfl rfl (by first | omega | (simp only [List.length_append, List.length_cons, List.length_nil]; omega))) ?_; clear S a; intro a S) | (refine wpl_v S rfl rfl rfl (sv_indexS S rfl rfl rfl (by first | omega | (simp only [List.length_append, List.length_cons, List.length_nil]; omega))) ?_; clear S a; intro a S)
            (rw [hg0] at S)
            refine wpl_take S rfl rfl rfl ?_
            (refine wpl_v S rfl rfl rfl (sv_pure S rfl) ?_; clear S a; intro a S)
            first | (refine wpl_v S rfl rfl rfl (sv_pure S rfl) ?_; clear S a; intro a S) | (refine wpl_v S rfl rfl rfl (sv_pickB S rfl rfl rfl rfl) ?_; clear S a; intro a S)
            (refine wpl_v S rfl rfl rfl (sv_pure S rfl) ?_; clear S a; intro a S)
            refine wpl_guard S rfl rfl rfl rfl rfl ?_ ?_
            · (intro h S'; clear S; have S := S'; clear S'; (try simp only [decide_eq_true_eq, decide_eq_false_iff_not, beq_iff_eq, bne_iff_ne, bne_eq_false_iff_eq, beq_eq_false_iff_ne, ne_eq, Bool.not_eq_true', Bool.not_eq_false', Bool.not_eq_true, Bool.not_eq_false, Bool.not_true, Bool.not_false, Int.ofNat_lt, Int.ofNat_le, Nat.not_lt, Nat.not_le] at h))
              (refine wpl_v S rfl rfl rfl (sv_pure S rfl) ?_; clear S a; intro a S)
              refine wpl_take S rfl rfl rfl ?_
              (refine wpl_v S rfl rfl rfl (sv_pure S rfl) ?_; clear S a; intro a S)
              refine wpl_take S rfl rfl rfl ?_
              first | (refine wpl_v S rfl rfl rfl (sv_indexSN S rfl rfl rfl (by first | omega | (simp only [List.length_append, List.length_cons, List.length_nil]; omega))) ?_; clear S a; intro a S) | (refine wpl_v S rfl rfl rfl (sv_indexS S rfl rfl rfl (by first | omega | (simp only [List.length_append, List.length_cons, List.length_nil]; omega))) ?_; clear S a; intro a S)
              (rw [hg0] at S)
              refine wpl_take S rfl rfl rfl ?_
              (refine wpl_v S rfl rfl rfl (sv_pure S rfl) ?_; clear S a; intro a S)
              first | (refine wpl_v S rfl rfl rfl (sv_pure S rfl) ?_; clear S a; intro a S) | (refine wpl_v S rfl rfl rfl (sv_pickB S rfl rfl rfl rfl) ?_; clear S a; intro a S)
              refine wpList_nil ?_
              (refine hKq10 _ _ ?_; try (clear hKq10 Kq10))
              refine wpc_split S rfl (fun h => ?_) (fun h => ?_)
              · (skip; (try simp only [decide_eq_true_eq, decide_eq_false_iff_not, beq_iff_eq, bne_iff_ne, bne_eq_false_iff_eq, beq_eq_false_iff_ne, ne_eq, Bool.not_eq_true', Bool.not_eq_false', Bool.not_eq_true, Bool.not_eq_false, Bool.not_true, Bool.not_false, Int.ofNat_lt, Int.ofNat_le, Nat.not_lt, Nat.not_le] at h))
                (refine wp_seq_k ?_; intro Kq11 hKq11)
                refine wp_region_lit ?_
                (refine wpl_v S rfl rfl rfl (sv_pure S rfl) ?_; clear S a; intro a S)
                (refine wpl_v S rfl rfl rfl (sv_add S rfl rfl rfl (by first | omega | (simp only [List.length_append, List.length_cons, List.length_nil]; omega))) ?_; clear S a; intro a S)
                (refine wpl_v S rfl rfl rfl (sv_pure S rfl) ?_; clear S a; intro a S)
                refine wpList_nil ?_
                (refine hKq11 _ _ ?_; try (clear hKq11 Kq11))
                refine wp_exit ?_
                change ∃ m', _ ∧ _
                (first | (have hsb := skip_blank (hdn (by omega)) (by rw [blank_iff]; omega); rw [List.drop_drop] at hsb; refine ⟨s.length - (i + 1), by omega, i + 1, j, k, acc, v, g, rfl, hd, by omega, by omega, by omega, hown, ?_⟩; (refine S.keep ?_; repeat (first | exact trivial | refine ⟨rfl, ?_⟩)); done) | (have hqr : q = run notNl (s.drop i) := (run_eq (p := notNl) (r := s.drop i) (i := q) (by omega) hall (by first | (left; omega) | (right; exact bfalse (by rw [notNl_iff]; omega)))).symm; obtain ⟨hsh, hsp⟩ := skip_hash (r := s.drop i) (by omega); rw [← hqr, List.drop_drop] at hsh; rw [← hqr] at hsp; refine ⟨s.length - (i + q), by omega, i + q, j, k, acc, v, g, rfl, hd, by omega, by omega, by omega, hown, ?_⟩; (refine S.keep ?_; repeat (first | exact trivial | refine ⟨rfl, ?_⟩)); done) | (replace S := S.drop1; refine ⟨s.length - (i + n), by omega, i + n, i + n, i + n + skipB (s.drop (i + n)), _, v, g, rfl, hd2.next hne he0 n hnn, by omega, by omega, rfl, (by rw [flat_tk, List.length_append]; exact hown), ?_⟩; (refine S.keep ?_; repeat (first | exact trivial | refine ⟨rfl, ?_⟩)); done))
              · (skip; (try simp only [decide_eq_true_eq, decide_eq_false_iff_not, beq_iff_eq, bne_iff_ne, bne_eq_false_iff_eq, beq_eq_false_iff_ne, ne_eq, Bool.not_eq_true', Bool.not_eq_false', Bool.not_eq_true, Bool.not_eq_false, Bool.not_true, Bool.not_false, Int.ofNat_lt, Int.ofNat_le, Nat.not_lt, Nat.not_le] at h))
                refine wp_skip ?_
                (refine hKq9 _ _ ?_; try (clear hKq9 Kq9))
                (refine wp_seq_k ?_; intro Kq11 hKq11)
                (refine wp_seq_k ?_; intro Kq12 hKq12)
                refine wp_region_lit ?_
                (refine wpl_v S rfl rfl rfl (sv_pure S rfl) ?_; clear S a; intro a S)
                (refine wpl_v S rfl rfl rfl (sv_pure S rfl) ?_; clear S a; intro a S)
                first | (refine wpl_v S rfl rfl rfl (sv_indexSN S rfl rfl rfl (by first | omega | (simp only [List.length_append, List.length_cons, List.length_nil]; omega))) ?_; clear S a; intro a S) | (refine wpl_v S rfl rfl rfl (sv_indexS S rfl rfl rfl (by first | omega | (simp only [List.length_append, List.length_cons, List.length_nil]; omega))) ?_; clear S a; intro a S)
                (rw [hg0] at S)
                (refine wpl_v S rfl rfl rfl (sv_pure S rfl) ?_; clear S a; intro a S)
                refine wpList_nil ?_
                (refine hKq12 _ _ ?_; try (clear hKq12 Kq12))
                refine wpc_split S rfl (fun h => ?_) (fun h => ?_)
                · (skip; (try simp only [decide_eq_true_eq, decide_eq_false_iff_not, beq_iff_eq, bne_iff_ne, bne_eq_false_iff_eq, beq_eq_false_iff_ne, ne_eq, Bool.not_eq_true', Bool.not_eq_false', Bool.not_eq_true, Bool.not_eq_false, Bool.not_true, Bool.not_false, Int.ofNat_lt, Int.ofNat_le, Nat.not_lt, Nat.not_le] at h))
                  (refine wp_seq_k ?_; intro Kq13 hKq13)
                  refine wp_block ?_
                  refine wpc_loop (fun m a w' => ∃ (q : Nat), m = s.length - (i + q) ∧ i + q ≤ s.length ∧ (∀ j, j < q → notNl ((s.drop i).getD j 0) = true) ∧ St 84 [(0, .string (bs s)), (2, .slice none 0 0), (3, .pointer (some ⟨b3, 0, none⟩)), (4, .int .i64 0), (5, v), (6, .int .i64 (i + q : Nat))] w0 F [] F [g, [(b3, .cells ⟨[.int .i64 0, .int .i64 0]⟩ 24 (0, 0))]] a w') ?_ ?_
                  · (refine ⟨s.length - i, 0, by simp, by omega, fun j hj => by omega, ?_⟩; refine S.keep ?_; repeat (first | exact trivial | refine ⟨rfl, ?_⟩))
                  · (clear S; rintro m a w ⟨q, rfl, hql, hall, S⟩; have hgq : s.getD (i + q) 0 = (s.drop i).getD q 0 := (by simp only [List.getD_eq_getElem?_getD, List.getElem?_drop]))
                    (refine wp_seq_k ?_; intro Kq14 hKq14)
                    (refine wp_seq_k ?_; intro Kq15 hKq15)
                    refine wp_region_lit ?_
                    (refine wpl_v S rfl rfl rfl (sv_pure S rfl) ?_; clear S a; intro a S)
                    (refine wpl_v S rfl rfl rfl (sv_pure S rfl) ?_; clear S a; intro a S)
                    (refine wpl_v S rfl rfl rfl (sv_lenS S rfl rfl) ?_; clear S a; intro a S)
                    (refine wpl_v S rfl rfl rfl (sv_pure S rfl) ?_; clear S a; intro a S)
                    (refine wpl_v S rfl rfl rfl (sv_pure S rfl) ?_; clear S a; intro a S)
                    refine wpl_guard S rfl rfl rfl rfl rfl ?_ ?_
                    · (intro h S'; clear S; have S := S'; clear S'; (try simp only [decide_eq_true_eq, decide_eq_false_iff_not, beq_iff_eq, bne_iff_ne, bne_eq_false_iff_eq, beq_eq_false_iff_ne, ne_eq, Bool.not_eq_true', Bool.not_eq_false', Bool.not_eq_true, Bool.not_eq_false, Bool.not_true, Bool.not_false, Int.ofNat_lt, Int.ofNat_le, Nat.not_lt, Nat.not_le] at h))
                      (refine wpl_v S rfl rfl rfl (sv_pure S rfl) ?_; clear S a; intro a S)
                      refine wpl_take S rfl rfl rfl ?_
                      (refine wpl_v S rfl rfl rfl (sv_pure S rfl) ?_; clear S a; intro a S)
                      refine wpl_take S rfl rfl rfl ?_
                      first | (refine wpl_v S rfl rfl rfl (sv_indexSN S rfl rfl rfl (by first | omega | (simp only [List.length_append, List.length_cons, List.length_nil]; omega))) ?_; clear S a; intro a S) | (refine wpl_v S rfl rfl rfl (sv_indexS S rfl rfl rfl (by first | omega | (simp only [List.length_append, List.length_cons, List.length_nil]; omega))) ?_; clear S a; intro a S)
                      (rw [hgq] at S)
                      refine wpl_take S rfl rfl rfl ?_
                      (refine wpl_v S rfl rfl rfl (sv_pure S rfl) ?_; clear S a; intro a S)
                      first | (refine wpl_v S rfl rfl rfl (sv_pure S rfl) ?_; clear S a; intro a S) | (refine wpl_v S rfl rfl rfl (sv_pickB S rfl rfl rfl rfl) ?_; clear S a; intro a S)
                      refine wpList_nil ?_
                      (refine hKq15 _ _ ?_; try (clear hKq15 Kq15))
                      refine wpc_split S rfl (fun h => ?_) (fun h => ?_)
                      · (skip; (try simp only [decide_eq_true_eq, decide_eq_false_iff_not, beq_iff_eq, bne_iff_ne, bne_eq_false_iff_eq, beq_eq_false_iff_ne, ne_eq, Bool.not_eq_true', Bool.not_eq_false', Bool.not_eq_true, Bool.not_eq_false, Bool.not_true, Bool.not_false, Int.ofNat_lt, Int.ofNat_le, Nat.not_lt, Nat.not_le] at h))
                        refine wp_skip ?_
                        (refine hKq14 _ _ ?_; try (clear hKq14 Kq14))
                        refine wp_block ?_
                        refine wp_region_lit ?_
                        (refine wpl_v S rfl rfl rfl (sv_pure S rfl) ?_; clear S a; intro a S)
                        (refine wpl_v S rfl rfl rfl (sv_add S rfl rfl rfl (by first | omega | (simp only [List.length_append, List.length_cons, List.length_nil]; omega))) ?_; clear S a; intro a S)
                        (refine wpl_v S rfl rfl rfl (sv_pure S rfl) ?_; clear S a; intro a S)
                        refine wpList_nil ?_
                        change ∃ m', _ ∧ _
                        (refine ⟨s.length - (i + (q + 1)), by omega, q + 1, rfl, by omega, fun j hj => (by rcases Nat.lt_or_eq_of_le (Nat.le_of_lt_succ hj) with h9 | h9; exact hall j h9; subst h9; rw [notNl_iff]; omega), ?_⟩; refine S.keep ?_; repeat (first | exact trivial | refine ⟨rfl, ?_⟩))
                      · (skip; (try simp only [decide_eq_true_eq, decide_eq_false_iff_not, beq_iff_eq, bne_iff_ne, bne_eq_false_iff_eq, beq_eq_false_iff_ne, ne_eq, Bool.not_eq_true', Bool.not_eq_false', Bool.not_eq_true, Bool.not_eq_false, Bool.not_true, Bool.not_false, Int.ofNat_lt, Int.ofNat_le, Nat.not_lt, Nat.not_le] at h))
                        refine wp_exit ?_
                        (refine hKq13 _ _ ?_; try (clear hKq13 Kq13))
                        refine wp_exit ?_
                        change ∃ m', _ ∧ _
                        (first | (have hsb := skip_blank (hdn (by omega)) (by rw [blank_iff]; omega); rw [List.drop_drop] at hsb; refine ⟨s.length - (i + 1), by omega, i + 1, j, k, acc, v, g, rfl, hd, by omega, by omega, by omega, hown, ?_⟩; (refine S.keep ?_; repeat (first | exact trivial | refine ⟨rfl, ?_⟩)); done) | (have hqr : q = run notNl (s.drop i) := (run_eq (p := notNl) (r := s.drop i) (i := q) (by omega) hall (by first | (left; omega) | (right; exact bfalse (by rw [notNl_iff]; omega)))).symm; obtain ⟨hsh, hsp⟩ := skip_hash (r := s.drop i) (by omega); rw [← hqr, List.drop_drop] at hsh; rw [← hqr] at hsp; refine ⟨s.length - (i + q), by omega, i + q, j, k, acc, v, g, rfl, hd, by omega, by omega, by omega, hown, ?_⟩; (refine S.keep ?_; repeat (first | exact trivial | refine ⟨rfl, ?_⟩)); done) | (replace S := S.drop1; refine ⟨s.length - (i + n), by omega, i + n, i + n, i + n + skipB (s.drop (i + n)), _, v, g, rfl, hd2.next hne he0 n hnn, by omega, by omega, rfl, (by rw [flat_tk, List.length_append]; exact hown), ?_⟩; (refine S.keep ?_; repeat (first | exact trivial | refine ⟨rfl, ?_⟩)); done))
                    · (intro h; clear S a; intro a S; (try simp only [decide_eq_true_eq, decide_eq_false_iff_not, beq_iff_eq, bne_iff_ne, bne_eq_false_iff_eq, beq_eq_false_iff_ne, ne_eq, Bool.not_eq_true', Bool.not_eq_false', Bool.not_eq_true, Bool.not_eq_false, Bool.not_true, Bool.not_false, Int.ofNat_lt, Int.ofNat_le, Nat.not_lt, Nat.not_le] at h))
                      (refine wpl_skip S rfl rfl rfl rfl rfl ?_; clear S a; intro a S)
                      (refine wpl_skip S rfl rfl rfl rfl rfl ?_; clear S a; intro a S)
                      (refine wpl_skip S rfl rfl rfl rfl rfl ?_; clear S a; intro a S)
                      first | (refine wpl_v S rfl rfl rfl (sv_pure S rfl) ?_; clear S a; intro a S) | (refine wpl_v S rfl rfl rfl (sv_pickB S rfl rfl rfl rfl) ?_; clear S a; intro a S)
                      refine wpList_nil ?_
                      (refine hKq15 _ _ ?_; try (clear hKq15 Kq15))
                      refine wpc_false S rfl ?_
                      refine wp_exit ?_
                      (refine hKq13 _ _ ?_; try (clear hKq13 Kq13))
                      refine wp_exit ?_
                      change ∃ m', _ ∧ _
                      (first | (have hsb := skip_blank (hdn (by omega)) (by rw [blank_iff]; omega); rw [List.drop_drop] at hsb; refine ⟨s.length - (i + 1), by omega, i + 1, j, k, acc, v, g, rfl, hd, by omega, by omega, by omega, hown, ?_⟩; (refine S.keep ?_; repeat (first | exact trivial | refine ⟨rfl, ?_⟩)); done) | (have hqr : q = run notNl (s.drop i) := (run_eq (p := notNl) (r := s.drop i) (i := q) (by omega) hall (by first | (left; omega) | (right; exact bfalse (by rw [notNl_iff]; omega)))).symm; obtain ⟨hsh, hsp⟩ := skip_hash (r := s.drop i) (by omega); rw [← hqr, List.drop_drop] at hsh; rw [← hqr] at hsp; refine ⟨s.length - (i + q), by omega, i + q, j, k, acc, v, g, rfl, hd, by omega, by omega, by omega, hown, ?_⟩; (refine S.keep ?_; repeat (first | exact trivial | refine ⟨rfl, ?_⟩)); done) | (replace S := S.drop1; refine ⟨s.length - (i + n), by omega, i + n, i + n, i + n + skipB (s.drop (i + n)), _, v, g, rfl, hd2.next hne he0 n hnn, by omega, by omega, rfl, (by rw [flat_tk, List.length_append]; exact hown), ?_⟩; (refine S.keep ?_; repeat (first | exact trivial | refine ⟨rfl, ?_⟩)); done))
                · (skip; (try simp only [decide_eq_true_eq, decide_eq_false_iff_not, beq_iff_eq, bne_iff_ne, bne_eq_false_iff_eq, beq_eq_false_iff_ne, ne_eq, Bool.not_eq_true', Bool.not_eq_false', Bool.not_eq_true, Bool.not_eq_false, Bool.not_true, Bool.not_false, Int.ofNat_lt, Int.ofNat_le, Nat.not_lt, Nat.not_le] at h))
                  refine wp_skip ?_
                  (refine hKq11 _ _ ?_; try (clear hKq11 Kq11))
                  (refine wp_seq_k ?_; intro Kq13 hKq13)
                  (have h0 : skipB (s.drop i) = 0 := skip_none (by rw [blank_iff]; omega) (by omega); have hkk : k = i := (by omega); have hd2 : Hd s acc j i := hkk ▸ hd; have hne := hdn (by omega))
                  refine wp_region_lit ?_
                  (refine wpl_v S rfl rfl rfl (sv_pure S rfl) ?_; clear S a; intro a S)
                  (refine wpl_v S rfl rfl rfl (sv_pure S rfl) ?_; clear S a; intro a S)
                  (refine wpl_call0 S rfl rfl rfl rfl rfl rfl (atCt s i F (by omega) hs) rfl ?_; clear S a; intro v9 a w hv S; obtain ⟨E, rfl, hE⟩ := hv)
                  (refine wpl_v S rfl rfl rfl (sv_pure S rfl) ?_; clear S a; intro a S)
                  (refine wpl_v S rfl rfl rfl (sv_pure S rfl) ?_; clear S a; intro a S)
                  (refine wpl_v S rfl rfl rfl (sv_pure S rfl) ?_; clear S a; intro a S)
                  (refine wpl_alloc S rfl rfl rfl rfl ?_; clear S a; intro b7 a w S)
                  (refine wpl_storeO S rfl rfl rfl rfl rfl (by rfl) (by simp [Value.cells, Value.oneCell', splice]) (by rfl) ?_; clear S; intro w S)
                  (refine wpl_v S rfl rfl rfl (sv_pure S rfl) ?_; clear S a; intro a S)
                  refine wpList_nil ?_
                  (refine hKq13 _ _ ?_; try (clear hKq13 Kq13))
                  (refine wp_seq_k ?_; intro Kq14 hKq14)
                  (refine wp_seq_k ?_; intro Kq15 hKq15)
                  refine wp_region_lit ?_
                  (refine wpl_v S rfl rfl rfl (sv_pure S rfl) ?_; clear S a; intro a S)
                  (refine wpl_v S rfl rfl rfl (sv_pure S rfl) ?_; clear S a; intro a S)
                  refine wpList_nil ?_
                  (refine hKq15 _ _ ?_; try (clear hKq15 Kq15))
                  refine wpc_split S rfl (fun h => ?_) (fun h => ?_)
                  · (skip; (try simp only [decide_eq_true_eq, decide_eq_false_iff_not, beq_iff_eq, bne_iff_ne, bne_eq_false_iff_eq, beq_eq_false_iff_ne, ne_eq, Bool.not_eq_true', Bool.not_eq_false', Bool.not_eq_true, Bool.not_eq_false, Bool.not_true, Bool.not_false, Int.ofNat_lt, Int.ofNat_le, Nat.not_lt, Nat.not_le] at h))
                    (refine wp_seq_k ?_; intro Kq16 hKq16)
                    refine wp_region_lit ?_
                    (refine wpl_v S rfl rfl rfl (sv_pure S rfl) ?_; clear S a; intro a S)
                    (refine wpl_v S rfl rfl rfl (sv_pure S rfl) ?_; clear S a; intro a S)
                    (refine wpl_call0 S rfl rfl rfl rfl rfl rfl (placeCt s i F (by omega) hs) rfl ?_; clear S a; intro v a w hv S; subst hv)
                    (refine wpl_v S rfl rfl rfl (sv_pure S rfl) ?_; clear S a; intro a S)
                    (refine wpl_v S rfl rfl rfl (sv_pure S rfl) ?_; clear S a; intro a S)
                    (refine wpl_storeO S rfl rfl rfl rfl rfl (by rfl) (by simp [Value.cells, Value.oneCell', splice]) (by rfl) ?_; clear S; intro w S)
                    (refine wpl_v S rfl rfl rfl (sv_pure S rfl) ?_; clear S a; intro a S)
                    refine wpList_nil ?_
                    (refine hKq16 _ _ ?_; try (clear hKq16 Kq16))
                    refine wp_ret ?_
                    refine fin_ret S (results3 Tryd.results9 (RV.tmp S rfl) (RV.cellO S rfl (by rfl)) (RV.tmp S rfl)) ?_
                    (first | (rw [tokens_long (by omega)]; exact ⟨_, rfl, slC_none _ _⟩) | (rw [hd.stop hdk]; exact ⟨_, rfl, hsl⟩) | (rw [hd2.bad hne (by assumption)]; exact ⟨_, rfl, slC_none _ _⟩))
                  · (skip; (try simp only [decide_eq_true_eq, decide_eq_false_iff_not, beq_iff_eq, bne_iff_ne, bne_eq_false_iff_eq, beq_eq_false_iff_ne, ne_eq, Bool.not_eq_true', Bool.not_eq_false', Bool.not_eq_true, Bool.not_eq_false, Bool.not_true, Bool.not_false, Int.ofNat_lt, Int.ofNat_le, Nat.not_lt, Nat.not_le] at h))
                    refine wp_skip ?_
                    (refine hKq14 _ _ ?_; try (clear hKq14 Kq14))
                    (refine wp_seq_k ?_; intro Kq16 hKq16)
                    (have he0 : (nextF (s.drop i)).e = 0 := (by assumption); obtain rfl := hE he0; have hsz := nextF_size hne he0; rw [hdl] at hsz; obtain ⟨n, hnn⟩ : ∃ n, n = (nextF (s.drop i)).size := ⟨_, rfl⟩; rw [← hnn] at S)
                    (refine wpc_mixM [0, 1, 2, 4, 5, 6, 7, 8] [5, 7] [] (.one 0 (.one 1 (.one 2 (.one 4 (.one 5 (.one 6 (.one 7 (.one 3 (.one 8 (.one 9 (.one 10 (.one 11 .nil)))))))))))) [b7] S mixed (by kernel_rfl) ?_; clear S; intro w S)
                    (refine wpm_v S rfl rfl rfl (want_none _ rfl) rfl rfl (fun w' S => sv_pure S rfl) ?_; clear S a; intro a S)
                    (refine wpm_v S rfl rfl rfl (want_none _ rfl) rfl rfl (fun w' S => sv_pure S rfl) ?_; clear S a; intro a S)
                    (refine wpm_v S rfl rfl rfl (want_none _ rfl) rfl rfl (fun w' S => sv_pure S rfl) ?_; clear S a; intro a S)
                    (refine wpm_v S rfl rfl rfl (want_none _ rfl) rfl rfl (fun w' S => sv_fieldAddr S rfl rfl rfl inferInstance rfl) ?_; clear S a; intro a S)
                    first | (refine wpm_lateO b7 S rfl rfl rfl (want_none _ rfl) rfl rfl (fun w' S => sv_loadO S rfl rfl (by rfl)) ?_; clear S a; intro a S) | (refine wpm_lateO b7 S rfl rfl rfl (want_none _ rfl) rfl rfl (fun w' S => sv_loadAO S rfl rfl (by rfl)) ?_; clear S a; intro a S)
                    (refine wpm_v S rfl rfl rfl (want_none _ rfl) rfl rfl (fun w' S => sv_fieldAddr S rfl rfl rfl inferInstance rfl) ?_; clear S a; intro a S)
                    first | (refine wpm_lateO b7 S rfl rfl rfl (want_none _ rfl) rfl rfl (fun w' S => sv_loadO S rfl rfl (by rfl)) ?_; clear S a; intro a S) | (refine wpm_lateO b7 S rfl rfl rfl (want_none _ rfl) rfl rfl (fun w' S => sv_loadAO S rfl rfl (by rfl)) ?_; clear S a; intro a S)
                    refine wpm_eff rfl rfl (fun _ => ⟨fun b o h => S.tr.frz b o (by first | exact h | solve_by_elim), S.has inferInstance, trivial⟩) ?_
                    (refine wpl_call0 S rfl rfl rfl rfl rfl rfl (placeCt s i F (by omega) hs) rfl ?_; clear S a; intro v a w hv S; subst hv)
                    refine wpList_nil ?_
                    (refine wpm_v S rfl rfl rfl (want_none _ rfl) rfl rfl (fun w' S => sv_build S rfl rfl rfl) ?_; clear S a; intro a S)
                    refine wpm_eff rfl rfl (fun _ => ⟨fun b o h => S.tr.frz b o (by first | exact h | solve_by_elim), S.has inferInstance, trivial⟩) ?_
                    (refine wpl_buildSlice S rfl rfl rfl rfl rfl rfl (by rfl) (by simp [Value.cells, splice, splice]) rfl (by rfl) (by rfl) ?_; clear S a; intro b78 a w hown2 S)
                    refine wpList_nil ?_
                    refine wpm_eff rfl rfl (fun _ => ⟨fun b o h => S.tr.frz b o (by first | exact h | solve_by_elim), S.has inferInstance, trivial⟩) ?_
                    (refine wpl_appendOwn S rfl rfl rfl rfl rfl rfl hown hown2 (by rfl) (by simp [Value.cells, Value.oneCell', splice, splice]) (by omega) (by omega) ?_; clear hown S a; intro v g a w hown S)
                    refine wpList_nil ?_
                    refine wpm_eff rfl rfl (fun _ => ⟨fun b o h => S.tr.frz b o (by first | exact h | solve_by_elim), S.has inferInstance, trivial⟩) ?_
                    (refine wpl_v S rfl rfl rfl (sv_pure S rfl) ?_; clear S a; intro a S)
                    refine wpList_nil ?_
                    refine wpm_nil (fun _ => ⟨fun b o h => S.tr.frz b o (by first | exact h | solve_by_elim), S.has inferInstance, trivial⟩) ?_
                    (refine hKq16 _ _ ?_; try (clear hKq16 Kq16))
                    refine wp_region_lit ?_
                    (refine wpl_v S rfl rfl rfl (sv_fieldAddr S rfl rfl rfl inferInstance rfl) ?_; clear S a; intro a S)
                    first | (refine wpl_v S rfl rfl rfl (sv_loadO S rfl rfl (by rfl)) ?_; clear S a; intro a S) | (refine wpl_v S rfl rfl rfl (sv_loadF S rfl rfl (by assumption)) ?_; clear S a; intro a S)
                    (refine wpl_v S rfl rfl rfl (sv_pure S rfl) ?_; clear S a; intro a S)
                    refine wpList_nil ?_
                    change ∃ m', _ ∧ _
                    (first | (have hsb := skip_blank (hdn (by omega)) (by rw [blank_iff]; omega); rw [List.drop_drop] at hsb; refine ⟨s.length - (i + 1), by omega, i + 1, j, k, acc, v, g, rfl, hd, by omega, by omega, by omega, hown, ?_⟩; (refine S.keep ?_; repeat (first | exact trivial | refine ⟨rfl, ?_⟩)); done) | (have hqr : q = run notNl (s.drop i) := (run_eq (p := notNl) (r := s.drop i) (i := q) (by omega) hall (by first | (left; omega) | (right; exact bfalse (by rw [notNl_iff]; omega)))).symm; obtain ⟨hsh, hsp⟩ := skip_hash (r := s.drop i) (by omega); rw [← hqr, List.drop_drop] at hsh; rw [← hqr] at hsp; refine ⟨s.length - (i + q), by omega, i + q, j, k, acc, v, g, rfl, hd, by omega, by omega, by omega, hown, ?_⟩; (refine S.keep ?_; repeat (first | exact trivial | refine ⟨rfl, ?_⟩)); done) | (replace S := S.drop1; refine ⟨s.length - (i + n), by omega, i + n, i + n, i + n + skipB (s.drop (i + n)), _, v, g, rfl, hd2.next hne he0 n hnn, by omega, by omega, rfl, (by rw [flat_tk, List.length_append]; exact hown), ?_⟩; (refine S.keep ?_; repeat (first | exact trivial | refine ⟨rfl, ?_⟩)); done))
            · (intro h; clear S a; intro a S; (try simp only [decide_eq_true_eq, decide_eq_false_iff_not, beq_iff_eq, bne_iff_ne, bne_eq_false_iff_eq, beq_eq_false_iff_ne, ne_eq, Bool.not_eq_true', Bool.not_eq_false', Bool.not_eq_true, Bool.not_eq_false, Bool.not_true, Bool.not_false, Int.ofNat_lt, Int.ofNat_le, Nat.not_lt, Nat.not_le] at h))
              (refine wpl_skip S rfl rfl rfl rfl rfl ?_; clear S a; intro a S)
              (refine wpl_skip S rfl rfl rfl rfl rfl ?_; clear S a; intro a S)
              (refine wpl_skip S rfl rfl rfl rfl rfl ?_; clear S a; intro a S)
              first | (refine wpl_v S rfl rfl rfl (sv_pure S rfl) ?_; clear S a; intro a S) | (refine wpl_v S rfl rfl rfl (sv_pickB S rfl rfl rfl rfl) ?_; clear S a; intro a S)
              refine wpList_nil ?_
              (refine hKq10 _ _ ?_; try (clear hKq10 Kq10))
              refine wpc_true S rfl ?_
              (refine wp_seq_k ?_; intro Kq11 hKq11)
              refine wp_region_lit ?_
              (refine wpl_v S rfl rfl rfl (sv_pure S rfl) ?_; clear S a; intro a S)
              (refine wpl_v S rfl rfl rfl (sv_add S rfl rfl rfl (by first | omega | (simp only [List.length_append, List.length_cons, List.length_nil]; omega))) ?_; clear S a; intro a S)
              (refine wpl_v S rfl rfl rfl (sv_pure S rfl) ?_; clear S a; intro a S)
              refine wpList_nil ?_
              (refine hKq11 _ _ ?_; try (clear hKq11 Kq11))
              refine wp_exit ?_
              change ∃ m', _ ∧ _
              (first | (have hsb := skip_blank (hdn (by omega)) (by rw [blank_iff]; omega); rw [List.drop_drop] at hsb; refine ⟨s.length - (i + 1), by omega, i + 1, j, k, acc, v, g, rfl, hd, by omega, by omega, by omega, hown, ?_⟩; (refine S.keep ?_; repeat (first | exact trivial | refine ⟨rfl, ?_⟩)); done) | (have hqr : q = run notNl (s.drop i) := (run_eq (p := notNl) (r := s.drop i) (i := q) (by omega) hall (by first | (left; omega) | (right; exact bfalse (by rw [notNl_iff]; omega)))).symm; obtain ⟨hsh, hsp⟩ := skip_hash (r := s.drop i) (by omega); rw [← hqr, List.drop_drop] at hsh; rw [← hqr] at hsp; refine ⟨s.length - (i + q), by omega, i + q, j, k, acc, v, g, rfl, hd, by omega, by omega, by omega, hown, ?_⟩; (refine S.keep ?_; repeat (first | exact trivial | refine ⟨rfl, ?_⟩)); done) | (replace S := S.drop1; refine ⟨s.length - (i + n), by omega, i + n, i + n, i + n + skipB (s.drop (i + n)), _, v, g, rfl, hd2.next hne he0 n hnn, by omega, by omega, rfl, (by rw [flat_tk, List.length_append]; exact hown), ?_⟩; (refine S.keep ?_; repeat (first | exact trivial | refine ⟨rfl, ?_⟩)); done))
          · (intro h; clear S a; intro a S; (try simp only [decide_eq_true_eq, decide_eq_false_iff_not, beq_iff_eq, bne_iff_ne, bne_eq_false_iff_eq, beq_eq_false_iff_ne, ne_eq, Bool.not_eq_true', Bool.not_eq_false', Bool.not_eq_true, Bool.not_eq_false, Bool.not_true, Bool.not_false, Int.ofNat_lt, Int.ofNat_le, Nat.not_lt, Nat.not_le] at h))
            (refine wpl_skip S rfl rfl rfl rfl rfl ?_; clear S a; intro a S)
            (refine wpl_skip S rfl rfl rfl rfl rfl ?_; clear S a; intro a S)
            (refine wpl_skip S rfl rfl rfl rfl rfl ?_; clear S a; intro a S)
            first | (refine wpl_v S rfl rfl rfl (sv_pure S rfl) ?_; clear S a; intro a S) | (refine wpl_v S rfl rfl rfl (sv_pickB S rfl rfl rfl rfl) ?_; clear S a; intro a S)
            (refine wpl_v S rfl rfl rfl (sv_pure S rfl) ?_; clear S a; intro a S)
            (refine wpl_skip S rfl rfl rfl rfl rfl ?_; clear S a; intro a S)
            (refine wpl_skip S rfl rfl rfl rfl rfl ?_; clear S a; intro a S)
            (refine wpl_skip S rfl rfl rfl rfl rfl ?_; clear S a; intro a S)
            (refine wpl_skip S rfl rfl rfl rfl rfl ?_; clear S a; intro a S)
            first | (refine wpl_v S rfl rfl rfl (sv_pure S rfl) ?_; clear S a; intro a S) | (refine wpl_v S rfl rfl rfl (sv_pickB S rfl rfl rfl rfl) ?_; clear S a; intro a S)
            refine wpList_nil ?_
            (refine hKq10 _ _ ?_; try (clear hKq10 Kq10))
            refine wpc_true S rfl ?_
            (refine wp_seq_k ?_; intro Kq11 hKq11)
            refine wp_region_lit ?_
            (refine wpl_v S rfl rfl rfl (sv_pure S rfl) ?_; clear S a; intro a S)
            (refine wpl_v S rfl rfl rfl (sv_add S rfl rfl rfl (by first | omega | (simp only [List.length_append, List.length_cons, List.length_nil]; omega))) ?_; clear S a; intro a S)
            (refine wpl_v S rfl rfl rfl (sv_pure S rfl) ?_; clear S a; intro a S)
            refine wpList_nil ?_
            (refine hKq11 _ _ ?_; try (clear hKq11 Kq11))
            refine wp_exit ?_
            change ∃ m', _ ∧ _
            (first | (have hsb := skip_blank (hdn (by omega)) (by rw [blank_iff]; omega); rw [List.drop_drop] at hsb; refine ⟨s.length - (i + 1), by omega, i + 1, j, k, acc, v, g, rfl, hd, by omega, by omega, by omega, hown, ?_⟩; (refine S.keep ?_; repeat (first | exact trivial | refine ⟨rfl, ?_⟩)); done) | (have hqr : q = run notNl (s.drop i) := (run_eq (p := notNl) (r := s.drop i) (i := q) (by omega) hall (by first | (left; omega) | (right; exact bfalse (by rw [notNl_iff]; omega)))).symm; obtain ⟨hsh, hsp⟩ := skip_hash (r := s.drop i) (by omega); rw [← hqr, List.drop_drop] at hsh; rw [← hqr] at hsp; refine ⟨s.length - (i + q), by omega, i + q, j, k, acc, v, g, rfl, hd, by omega, by omega, by omega, hown, ?_⟩; (refine S.keep ?_; repeat (first | exact trivial | refine ⟨rfl, ?_⟩)); done) | (replace S := S.drop1; refine ⟨s.length - (i + n), by omega, i + n, i + n, i + n + skipB (s.drop (i + n)), _, v, g, rfl, hd2.next hne he0 n hnn, by omega, by omega, rfl, (by rw [flat_tk, List.length_append]; exact hown), ?_⟩; (refine S.keep ?_; repeat (first | exact trivial | refine ⟨rfl, ?_⟩)); done))
        · (intro h; clear S a; intro a S; (try simp only [decide_eq_true_eq, decide_eq_false_iff_not, beq_iff_eq, bne_iff_ne, bne_eq_false_iff_eq, beq_eq_false_iff_ne, ne_eq, Bool.not_eq_true', Bool.not_eq_false', Bool.not_eq_true, Bool.not_eq_false, Bool.not_true, Bool.not_false, Int.ofNat_lt, Int.ofNat_le, Nat.not_lt, Nat.not_le] at h))
          (refine wpl_skip S rfl rfl rfl rfl rfl ?_; clear S a; intro a S)
          (refine wpl_skip S rfl rfl rfl rfl rfl ?_; clear S a; intro a S)
          (refine wpl_skip S rfl rfl rfl rfl rfl ?_; clear S a; intro a S)
          first | (refine wpl_v S rfl rfl rfl (sv_pure S rfl) ?_; clear S a; intro a S) | (refine wpl_v S rfl rfl rfl (sv_pickB S rfl rfl rfl rfl) ?_; clear S a; intro a S)
          (refine wpl_v S rfl rfl rfl (sv_pure S rfl) ?_; clear S a; intro a S)
          (refine wpl_skip S rfl rfl rfl rfl rfl ?_; clear S a; intro a S)
          (refine wpl_skip S rfl rfl rfl rfl rfl ?_; clear S a; intro a S)
          (refine wpl_skip S rfl rfl rfl rfl rfl ?_; clear S a; intro a S)
          (refine wpl_skip S rfl rfl rfl rfl rfl ?_; clear S a; intro a S)
          first | (refine wpl_v S rfl rfl rfl (sv_pure S rfl) ?_; clear S a; intro a S) | (refine wpl_v S rfl rfl rfl (sv_pickB S rfl rfl rfl rfl) ?_; clear S a; intro a S)
          (refine wpl_v S rfl rfl rfl (sv_pure S rfl) ?_; clear S a; intro a S)
          (refine wpl_skip S rfl rfl rfl rfl rfl ?_; clear S a; intro a S)
          (refine wpl_skip S rfl rfl rfl rfl rfl ?_; clear S a; intro a S)
          (refine wpl_skip S rfl rfl rfl rfl rfl ?_; clear S a; intro a S)
          (refine wpl_skip S rfl rfl rfl rfl rfl ?_; clear S a; intro a S)
          first | (refine wpl_v S rfl rfl rfl (sv_pure S rfl) ?_; clear S a; intro a S) | (refine wpl_v S rfl rfl rfl (sv_pickB S rfl rfl rfl rfl) ?_; clear S a; intro a S)
          refine wpList_nil ?_
          (refine hKq10 _ _ ?_; try (clear hKq10 Kq10))
          refine wpc_true S rfl ?_
          (refine wp_seq_k ?_; intro Kq11 hKq11)
          refine wp_region_lit ?_
          (refine wpl_v S rfl rfl rfl (sv_pure S rfl) ?_; clear S a; intro a S)
          (refine wpl_v S rfl rfl rfl (sv_add S rfl rfl rfl (by first | omega | (simp only [List.length_append, List.length_cons, List.length_nil]; omega))) ?_; clear S a; intro a S)
          (refine wpl_v S rfl rfl rfl (sv_pure S rfl) ?_; clear S a; intro a S)
          refine wpList_nil ?_
          (refine hKq11 _ _ ?_; try (clear hKq11 Kq11))
          refine wp_exit ?_
          change ∃ m', _ ∧ _
          (first | (have hsb := skip_blank (hdn (by omega)) (by rw [blank_iff]; omega); rw [List.drop_drop] at hsb; refine ⟨s.length - (i + 1), by omega, i + 1, j, k, acc, v, g, rfl, hd, by omega, by omega, by omega, hown, ?_⟩; (refine S.keep ?_; repeat (first | exact trivial | refine ⟨rfl, ?_⟩)); done) | (have hqr : q = run notNl (s.drop i) := (run_eq (p := notNl) (r := s.drop i) (i := q) (by omega) hall (by first | (left; omega) | (right; exact bfalse (by rw [notNl_iff]; omega)))).symm; obtain ⟨hsh, hsp⟩ := skip_hash (r := s.drop i) (by omega); rw [← hqr, List.drop_drop] at hsh; rw [← hqr] at hsp; refine ⟨s.length - (i + q), by omega, i + q, j, k, acc, v, g, rfl, hd, by omega, by omega, by omega, hown, ?_⟩; (refine S.keep ?_; repeat (first | exact trivial | refine ⟨rfl, ?_⟩)); done) | (replace S := S.drop1; refine ⟨s.length - (i + n), by omega, i + n, i + n, i + n + skipB (s.drop (i + n)), _, v, g, rfl, hd2.next hne he0 n hnn, by omega, by omega, rfl, (by rw [flat_tk, List.length_append]; exact hown), ?_⟩; (refine S.keep ?_; repeat (first | exact trivial | refine ⟨rfl, ?_⟩)); done))
      · (skip; (try simp only [decide_eq_true_eq, decide_eq_false_iff_not, beq_iff_eq, bne_iff_ne, bne_eq_false_iff_eq, beq_eq_false_iff_ne, ne_eq, Bool.not_eq_true', Bool.not_eq_false', Bool.not_eq_true, Bool.not_eq_false, Bool.not_true, Bool.not_false, Int.ofNat_lt, Int.ofNat_le, Nat.not_lt, Nat.not_le] at h))
        refine wp_exit ?_
        (refine hKq6 _ _ ?_; try (clear hKq6 Kq6))
        (refine wp_seq_k ?_; intro Kq9 hKq9)
        (replace S := St.freeze (G1 := []) S; simp only [List.nil_append] at S; have hsl := hown.slC F; have hdz : s.drop i = [] := List.drop_eq_nil_of_le (by omega); rw [hdz, skipB_nil] at hki; have hdk : s.drop k = [] := List.drop_eq_nil_of_le (by omega))
        refine wp_region_lit ?_
        (refine wpl_v S rfl rfl rfl (sv_pure S rfl) ?_; clear S a; intro a S)
        (refine wpl_v S rfl rfl rfl (sv_build S rfl rfl rfl) ?_; clear S a; intro a S)
        (refine wpl_v S rfl rfl rfl (sv_pure S rfl) ?_; clear S a; intro a S)
        (refine wpl_storeO S rfl rfl rfl rfl rfl (by rfl) (by simp [Value.cells, Value.oneCell', splice]) (by rfl) ?_; clear S; intro w S)
        (refine wpl_v S rfl rfl rfl (sv_pure S rfl) ?_; clear S a; intro a S)
        refine wpList_nil ?_
        (refine hKq9 _ _ ?_; try (clear hKq9 Kq9))
        refine wp_ret ?_
        refine fin_ret S (results3 Tryd.results9 (RV.tmp S rfl) (RV.cellO S rfl (by rfl)) (RV.tmp S rfl)) ?_
        (first | (rw [tokens_long (by omega)]; exact ⟨_, rfl, slC_none _ _⟩) | (rw [hd.stop hdk]; exact ⟨_, rfl, hsl⟩) | (rw [hd2.bad hne (by assumption)]; exact ⟨_, rfl, slC_none _ _⟩))
end Go.Proofs.YtpgnmnacfilnkaaDoor
