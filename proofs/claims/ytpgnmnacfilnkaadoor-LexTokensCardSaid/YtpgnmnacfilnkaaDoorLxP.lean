/- The walks of the document's word, end, Place, name, number and hex. -/
import Derived.Test.YtpgnmnacfilnkaaDoorLxN
namespace Go.Proofs.YtpgnmnacfilnkaaDoor
open Go Go.Wk Go.Lx
set_option linter.unusedSimpArgs false
set_option linter.unusedVariables false
attribute [local irreducible] Go.wpList Go.Code.wp Go.wpStill Go.Wk.wpPre Go.bodyPost Go.Calls Go.Wk.Ct Go.Wk.OwnS
attribute [local irreducible] Go.Wk.wpG Go.Wk.wpM

def wordsV : List Value := wordsL.map fun l => .string (bs l)
set_option maxRecDepth 10000 in
set_option maxHeartbeats 2000000 in
theorem wordCt (s : List UInt8) (F : Heap) : Ct Tryd.prog 41 [.string (bs s)] F [] (fun _ _ u => u = .bool (isWord s)) := by
  refine Ct.enter Tryd.func41 rfl Tryd.ntmps41 rfl fun w0 a S => ?_
  (refine wp_seq_k ?_; intro Kq1 hKq1)
  refine wp_region_lit ?_
  (refine wpl_v S rfl rfl rfl (sv_pure S rfl) ?_; clear S a; intro a S)
  refine wpList_nil ?_
  (refine hKq1 _ _ ?_; try (clear hKq1 Kq1))
  (refine wp_seq_k ?_; intro Kq2 hKq2)
  refine wp_region_lit ?_
  (refine wpl_buildSlice S rfl rfl rfl rfl rfl rfl (by rfl) (by simp [Value.cells, splice, splice]) rfl (by rfl) (by rfl) ?_; clear S a; intro b5 a w hown S)
  (refine wpl_v S rfl rfl rfl (sv_pure S rfl) ?_; clear S a; intro a S)
  refine wpList_nil ?_
  (refine hKq2 _ _ ?_; try (clear hKq2 Kq2))
  (refine wp_seq_k ?_; intro Kq3 hKq3)
  (refine wp_seq_k ?_; intro Kq4 hKq4)
  refine wp_region_lit ?_
  (refine wpl_v S rfl rfl rfl (sv_pure S rfl) ?_; clear S a; intro a S)
  refine wpList_nil ?_
  (refine hKq4 _ _ ?_; try (clear hKq4 Kq4))
  refine wp_block ?_
  refine wpc_loop (fun m a w' => ∃ (i : Nat), m = 19 - i ∧ i ≤ 19 ∧ (∀ j, (hj : j < i) → (hj2 : j < wordsL.length) → ((wordsL[j]'hj2) == s) = false) ∧ St 18 [(0, .string (bs s)), (3, .slice (some ⟨b5, 0, none⟩) 19 19), (4, .int .i64 i)] w0 F [] F [[(b5, .cells ⟨wordsV⟩ 9 (0, 0))]] a w') ?_ ?_
  · (refine ⟨19, 0, by simp, Nat.zero_le _, fun j hj => by omega, ?_⟩; refine S.keep ?_; repeat (first | exact trivial | refine ⟨rfl, ?_⟩))
  · (clear S; rintro m a w ⟨i, rfl, hi, hall, S⟩)
    (refine wp_seq_k ?_; intro Kq5 hKq5)
    (refine wp_seq_k ?_; intro Kq6 hKq6)
    refine wp_region_lit ?_
    (refine wpl_v S rfl rfl rfl (sv_pure S rfl) ?_; clear S a; intro a S)
    (refine wpl_v S rfl rfl rfl (sv_pure S rfl) ?_; clear S a; intro a S)
    (refine wpl_v S rfl rfl rfl (sv_lenSl S rfl rfl) ?_; clear S a; intro a S)
    (refine wpl_v S rfl rfl rfl (sv_pure S rfl) ?_; clear S a; intro a S)
    refine wpList_nil ?_
    (refine hKq6 _ _ ?_; try (clear hKq6 Kq6))
    refine wpc_split S rfl (fun h => ?_) (fun h => ?_)
    · (skip; (try simp only [decide_eq_true_eq, decide_eq_false_iff_not, beq_iff_eq, bne_iff_ne, bne_eq_false_iff_eq, beq_eq_false_iff_ne, ne_eq, Bool.not_eq_true', Bool.not_eq_false', Bool.not_eq_true, Bool.not_eq_false, Bool.not_true, Bool.not_false, Int.ofNat_lt, Int.ofNat_le, Nat.not_lt, Nat.not_le] at h))
      refine wp_skip ?_
      (refine hKq5 _ _ ?_; try (clear hKq5 Kq5))
      (refine wp_seq_k ?_; intro Kq7 hKq7)
      refine wp_block ?_
      (refine wp_seq_k ?_; intro Kq8 hKq8)
      (have hi19 : i < wordsL.length := (by show i < 19; omega); have hx : wordsV[0 + i * 1]? = some (.string (bs (wordsL[i]'hi19))) := (by unfold wordsV; rw [Nat.zero_add, Nat.mul_one, List.getElem?_map, List.getElem?_eq_getElem hi19]; rfl))
      refine wp_region_lit ?_
      (refine wpl_v S rfl rfl rfl (sv_pure S rfl) ?_; clear S a; intro a S)
      (refine wpl_v S rfl rfl rfl (sv_pure S rfl) ?_; clear S a; intro a S)
      (refine wpl_v S rfl rfl rfl (sv_indexAddrSl S rfl rfl rfl (by first | omega | (simp only [List.length_append, List.length_cons, List.length_nil]; omega))) ?_; clear S a; intro a S)
      (refine wpl_v S rfl rfl rfl (sv_loadO S rfl rfl hx) ?_; clear S a; intro a S)
      (refine wpl_v S rfl rfl rfl (sv_pure S rfl) ?_; clear S a; intro a S)
      (refine wpl_v S rfl rfl rfl (sv_pure S rfl) ?_; clear S a; intro a S)
      refine wpList_nil ?_
      (refine hKq8 _ _ ?_; try (clear hKq8 Kq8))
      refine wpc_split S rfl (fun h => ?_) (fun h => ?_)
      · (skip; (try simp only [decide_eq_true_eq, decide_eq_false_iff_not, beq_iff_eq, bne_iff_ne, bne_eq_false_iff_eq, beq_eq_false_iff_ne, ne_eq, Bool.not_eq_true', Bool.not_eq_false', Bool.not_eq_true, Bool.not_eq_false, Bool.not_true, Bool.not_false, Int.ofNat_lt, Int.ofNat_le, Nat.not_lt, Nat.not_le] at h))
        (refine wp_seq_k ?_; intro Kq9 hKq9)
        refine wp_region_lit ?_
        (refine wpl_v S rfl rfl rfl (sv_pure S rfl) ?_; clear S a; intro a S)
        refine wpList_nil ?_
        (refine hKq9 _ _ ?_; try (clear hKq9 Kq9))
        refine wp_ret ?_
        refine fin_ret S (results1 Tryd.results41 (RV.tmp S rfl)) ?_
        (first | (have hT : isWord s = true := (by unfold isWord; rw [List.contains_iff_mem]; have h9 : wordsL[i] = s := (by simpa using h); rw [← h9]; exact List.getElem_mem _); rw [hT]) | (have hT : isWord s = false := (by unfold isWord; rw [← Bool.not_eq_true, List.contains_iff_mem]; intro hm; obtain ⟨j, hj, he⟩ := List.getElem_of_mem hm; have h8 := hall j (by have : j < 19 := hj; omega) hj; rw [he] at h8; simp at h8); rw [hT]))
      · (skip; (try simp only [decide_eq_true_eq, decide_eq_false_iff_not, beq_iff_eq, bne_iff_ne, bne_eq_false_iff_eq, beq_eq_false_iff_ne, ne_eq, Bool.not_eq_true', Bool.not_eq_false', Bool.not_eq_true, Bool.not_eq_false, Bool.not_true, Bool.not_false, Int.ofNat_lt, Int.ofNat_le, Nat.not_lt, Nat.not_le] at h))
        refine wp_skip ?_
        (refine hKq7 _ _ ?_; try (clear hKq7 Kq7))
        refine wp_region_lit ?_
        (refine wpl_v S rfl rfl rfl (sv_pure S rfl) ?_; clear S a; intro a S)
        (refine wpl_v S rfl rfl rfl (sv_add S rfl rfl rfl (by first | omega | (simp only [List.length_append, List.length_cons, List.length_nil]; omega))) ?_; clear S a; intro a S)
        (refine wpl_v S rfl rfl rfl (sv_pure S rfl) ?_; clear S a; intro a S)
        refine wpList_nil ?_
        change ∃ m', _ ∧ _
        (refine ⟨19 - (i + 1), by omega, i + 1, rfl, by omega, fun j hj hj2 => (by rcases Nat.lt_or_eq_of_le (Nat.le_of_lt_succ hj) with h9 | h9; exact hall j h9 hj2; subst h9; simpa using h), ?_⟩; refine S.keep ?_; repeat (first | exact trivial | refine ⟨rfl, ?_⟩))
    · (skip; (try simp only [decide_eq_true_eq, decide_eq_false_iff_not, beq_iff_eq, bne_iff_ne, bne_eq_false_iff_eq, beq_eq_false_iff_ne, ne_eq, Bool.not_eq_true', Bool.not_eq_false', Bool.not_eq_true, Bool.not_eq_false, Bool.not_true, Bool.not_false, Int.ofNat_lt, Int.ofNat_le, Nat.not_lt, Nat.not_le] at h))
      refine wp_exit ?_
      (refine hKq3 _ _ ?_; try (clear hKq3 Kq3))
      (refine wp_seq_k ?_; intro Kq7 hKq7)
      refine wp_region_lit ?_
      (refine wpl_v S rfl rfl rfl (sv_pure S rfl) ?_; clear S a; intro a S)
      refine wpList_nil ?_
      (refine hKq7 _ _ ?_; try (clear hKq7 Kq7))
      refine wp_ret ?_
      refine fin_ret S (results1 Tryd.results41 (RV.tmp S rfl)) ?_
      (first | (have hT : isWord s = true := (by unfold isWord; rw [List.contains_iff_mem]; have h9 : wordsL[i] = s := (by simpa using h); rw [← h9]; exact List.getElem_mem _); rw [hT]) | (have hT : isWord s = false := (by unfold isWord; rw [← Bool.not_eq_true, List.contains_iff_mem]; intro hm; obtain ⟨j, hj, he⟩ := List.getElem_of_mem hm; have h8 := hall j (by have : j < 19 := hj; omega) hj; rw [he] at h8; simp at h8); rw [hT]))

set_option maxHeartbeats 1000000 in
theorem endCt (s : List UInt8) (i : Nat) (F : Heap) (hi : i ≤ s.length) (hs : s.length ≤ 1000000000) : Ct Tryd.prog 40 [.string (bs s), .int .i64 i] F [] (fun _ _ u => u = .int .i64 (i + run within (s.drop i) : Nat)) := by
  have hdl : (s.drop i).length = s.length - i := List.length_drop
  refine Ct.enter Tryd.func40 rfl Tryd.ntmps40 rfl fun w0 a S => ?_
  (refine wp_seq_k ?_; intro Kq1 hKq1)
  refine wp_region_lit ?_
  (refine wpl_v S rfl rfl rfl (sv_pure S rfl) ?_; clear S a; intro a S)
  refine wpList_nil ?_
  (refine hKq1 _ _ ?_; try (clear hKq1 Kq1))
  (refine wp_seq_k ?_; intro Kq2 hKq2)
  refine wp_block ?_
  refine wpc_loop (fun m a w' => ∃ (k : Nat), m = s.length - (i + k) ∧ i + k ≤ s.length ∧ (∀ j, j < k → within ((s.drop i).getD j 0) = true) ∧ St 18 [(0, .string (bs s)), (1, .int .i64 (i + k : Nat))] w0 F [] F [] a w') ?_ ?_
  · (refine ⟨s.length - i, 0, by simp, by omega, fun j hj => by omega, ?_⟩; refine S.keep ?_; repeat (first | exact trivial | refine ⟨rfl, ?_⟩))
  · (clear S; rintro m a w ⟨k, rfl, hk, hall, S⟩; have hg : s.getD (i + k) 0 = (s.drop i).getD k 0 := (by simp only [List.getD_eq_getElem?_getD, List.getElem?_drop]))
    (refine wp_seq_k ?_; intro Kq3 hKq3)
    (refine wp_seq_k ?_; intro Kq4 hKq4)
    refine wp_region_lit ?_
    (refine wpl_v S rfl rfl rfl (sv_pure S rfl) ?_; clear S a; intro a S)
    (refine wpl_v S rfl rfl rfl (sv_pure S rfl) ?_; clear S a; intro a S)
    (refine wpl_v S rfl rfl rfl (sv_lenS S rfl rfl) ?_; clear S a; intro a S)
    (refine wpl_v S rfl rfl rfl (sv_pure S rfl) ?_; clear S a; intro a S)
    (refine wpl_v S rfl rfl rfl (sv_pure S rfl) ?_; clear S a; intro a S)
    refine wpl_guard S rfl rfl rfl rfl rfl ?_ ?_
    · (intro h S'; clear S; have S := S'; clear S'; (try simp only [decide_eq_true_eq, decide_eq_false_iff_not, beq_iff_eq, bne_iff_ne, bne_eq_false_iff_eq, beq_eq_false_iff_ne, ne_eq, Bool.not_eq_true', Bool.not_eq_false', Bool.not_eq_true, Bool.not_eq_false, Bool.not_true, Bool.not_false, Int.ofNat_lt, Int.ofNat_le, Nat.not_lt, Nat.not_le] at h))
      (refine wpl_v S rfl rfl rfl (sv_pure S rfl) ?_; clear S a; intro a S)
      refine wpl_take S rfl rfl rfl ?_
      (refine wpl_v S rfl rfl rfl (sv_pure S rfl) ?_; clear S a; intro a S)
      refine wpl_take S rfl rfl rfl ?_
      first | (refine wpl_v S rfl rfl rfl (sv_indexSN S rfl rfl rfl (by first | omega | (simp only [List.length_append, List.length_cons, List.length_nil]; omega))) ?_; clear S a; intro a S) | (refine wpl_v S rfl rfl rfl (sv_indexS S rfl rfl rfl (by first | omega | (simp only [List.length_append, List.length_cons, List.length_nil]; omega))) ?_; clear S a; intro a S)
      refine wpl_take S rfl rfl rfl ?_
      (refine wpl_call0 S rfl rfl rfl rfl rfl rfl (rwithinCt (s.getD (i + k) 0) F) rfl ?_; clear S a; intro v a w hv S; subst hv)
      first | (refine wpl_v S rfl rfl rfl (sv_pure S rfl) ?_; clear S a; intro a S) | (refine wpl_v S rfl rfl rfl (sv_pickB S rfl rfl rfl rfl) ?_; clear S a; intro a S)
      refine wpList_nil ?_
      (refine hKq4 _ _ ?_; try (clear hKq4 Kq4))
      refine wpc_split S rfl (fun h => ?_) (fun h => ?_)
      · (skip; (try simp only [decide_eq_true_eq, decide_eq_false_iff_not, beq_iff_eq, bne_iff_ne, bne_eq_false_iff_eq, beq_eq_false_iff_ne, ne_eq, Bool.not_eq_true', Bool.not_eq_false', Bool.not_eq_true, Bool.not_eq_false, Bool.not_true, Bool.not_false, Int.ofNat_lt, Int.ofNat_le, Nat.not_lt, Nat.not_le] at h))
        refine wp_skip ?_
        (refine hKq3 _ _ ?_; try (clear hKq3 Kq3))
        refine wp_block ?_
        refine wp_region_lit ?_
        (refine wpl_v S rfl rfl rfl (sv_pure S rfl) ?_; clear S a; intro a S)
        (refine wpl_v S rfl rfl rfl (sv_add S rfl rfl rfl (by first | omega | (simp only [List.length_append, List.length_cons, List.length_nil]; omega))) ?_; clear S a; intro a S)
        (refine wpl_v S rfl rfl rfl (sv_pure S rfl) ?_; clear S a; intro a S)
        refine wpList_nil ?_
        change ∃ m', _ ∧ _
        (refine ⟨s.length - (i + (k + 1)), by omega, k + 1, rfl, by omega, fun j hj => (by rcases Nat.lt_or_eq_of_le (Nat.le_of_lt_succ hj) with h9 | h9; exact hall j h9; subst h9; rw [← hg]; assumption), ?_⟩; refine S.keep ?_; repeat (first | exact trivial | refine ⟨rfl, ?_⟩))
      · (skip; (try simp only [decide_eq_true_eq, decide_eq_false_iff_not, beq_iff_eq, bne_iff_ne, bne_eq_false_iff_eq, beq_eq_false_iff_ne, ne_eq, Bool.not_eq_true', Bool.not_eq_false', Bool.not_eq_true, Bool.not_eq_false, Bool.not_true, Bool.not_false, Int.ofNat_lt, Int.ofNat_le, Nat.not_lt, Nat.not_le] at h))
        refine wp_exit ?_
        (refine hKq2 _ _ ?_; try (clear hKq2 Kq2))
        (refine wp_seq_k ?_; intro Kq5 hKq5)
        refine wp_region_lit ?_
        (refine wpl_v S rfl rfl rfl (sv_pure S rfl) ?_; clear S a; intro a S)
        (refine wpl_v S rfl rfl rfl (sv_pure S rfl) ?_; clear S a; intro a S)
        refine wpList_nil ?_
        (refine hKq5 _ _ ?_; try (clear hKq5 Kq5))
        refine wp_ret ?_
        refine fin_ret S (results1 Tryd.results40 (RV.tmp S rfl)) ?_
        (rw [run_eq (p := within) (r := s.drop i) (i := k) (by omega) hall (by first | (left; omega) | (right; rw [← hg]; assumption))])
    · (intro h; clear S a; intro a S; (try simp only [decide_eq_true_eq, decide_eq_false_iff_not, beq_iff_eq, bne_iff_ne, bne_eq_false_iff_eq, beq_eq_false_iff_ne, ne_eq, Bool.not_eq_true', Bool.not_eq_false', Bool.not_eq_true, Bool.not_eq_false, Bool.not_true, Bool.not_false, Int.ofNat_lt, Int.ofNat_le, Nat.not_lt, Nat.not_le] at h))
      (refine wpl_skip S rfl rfl rfl rfl rfl ?_; clear S a; intro a S)
      (refine wpl_skip S rfl rfl rfl rfl rfl ?_; clear S a; intro a S)
      (refine wpl_skip S rfl rfl rfl rfl rfl ?_; clear S a; intro a S)
      first | (refine wpl_v S rfl rfl rfl (sv_pure S rfl) ?_; clear S a; intro a S) | (refine wpl_v S rfl rfl rfl (sv_pickB S rfl rfl rfl rfl) ?_; clear S a; intro a S)
      refine wpList_nil ?_
      (refine hKq4 _ _ ?_; try (clear hKq4 Kq4))
      refine wpc_false S rfl ?_
      refine wp_exit ?_
      (refine hKq2 _ _ ?_; try (clear hKq2 Kq2))
      (refine wp_seq_k ?_; intro Kq5 hKq5)
      refine wp_region_lit ?_
      (refine wpl_v S rfl rfl rfl (sv_pure S rfl) ?_; clear S a; intro a S)
      (refine wpl_v S rfl rfl rfl (sv_pure S rfl) ?_; clear S a; intro a S)
      refine wpList_nil ?_
      (refine hKq5 _ _ ?_; try (clear hKq5 Kq5))
      refine wp_ret ?_
      refine fin_ret S (results1 Tryd.results40 (RV.tmp S rfl)) ?_
      (rw [run_eq (p := within) (r := s.drop i) (i := k) (by omega) hall (by first | (left; omega) | (right; rw [← hg]; assumption))])

set_option maxHeartbeats 1000000 in
theorem placeCt (s : List UInt8) (i : Nat) (F : Heap) (hi : i ≤ s.length) (hs : s.length ≤ 1000000) : Ct Tryd.prog 21 [.string (bs s), .int .i64 i] F [] (fun _ _ u => u = .agg ⟨[.int .i64 (place (1, 1) (s.take i)).1, .int .i64 (place (1, 1) (s.take i)).2]⟩) := by
  refine Ct.enter Tryd.func21 rfl Tryd.ntmps21 rfl fun w0 a S => ?_
  (refine wp_seq_k ?_; intro Kq1 hKq1)
  refine wp_region_lit ?_
  (refine wpl_alloc S rfl rfl rfl rfl ?_; clear S a; intro b4 a w S)
  refine wpList_nil ?_
  (refine hKq1 _ _ ?_; try (clear hKq1 Kq1))
  (refine wp_seq_k ?_; intro Kq2 hKq2)
  refine wp_region_lit ?_
  (refine wpl_v S rfl rfl rfl (sv_build S rfl rfl rfl) ?_; clear S a; intro a S)
  (refine wpl_alloc S rfl rfl rfl rfl ?_; clear S a; intro b5 a w S)
  (refine wpl_storeO S rfl rfl rfl rfl rfl (by rfl) (by simp [Value.cells, Value.oneCell', splice]) (by rfl) ?_; clear S; intro w S)
  refine wpList_nil ?_
  (refine hKq2 _ _ ?_; try (clear hKq2 Kq2))
  (refine wp_seq_k ?_; intro Kq3 hKq3)
  (refine wp_seq_k ?_; intro Kq4 hKq4)
  refine wp_region_lit ?_
  (refine wpl_v S rfl rfl rfl (sv_pure S rfl) ?_; clear S a; intro a S)
  refine wpList_nil ?_
  (refine hKq4 _ _ ?_; try (clear hKq4 Kq4))
  refine wp_block ?_
  refine wpc_loop (fun m a w' => ∃ (k : Nat), m = i - k ∧ k ≤ i ∧ St 27 [(0, .string (bs s)), (1, .int .i64 i), (4, .pointer (some ⟨b4, 0, none⟩)), (5, .pointer (some ⟨b5, 0, none⟩)), (6, .int .i64 k)] w0 F [] F [[(b5, .cells ⟨[.int .i64 (place (1, 1) (s.take k)).1, .int .i64 (place (1, 1) (s.take k)).2]⟩ 24 (0, 0))], [(b4, .cells ⟨[.int .i64 0, .int .i64 0]⟩ 24 (0, 0))]] a w') ?_ ?_
  · (refine ⟨i, 0, by simp, Nat.zero_le _, ?_⟩; refine S.keep ?_; repeat (first | exact trivial | refine ⟨rfl, ?_⟩))
  · (clear S; rintro m a w ⟨k, rfl, hk, S⟩; have hpb := place_bd (p := (1, 1)) (by decide) (by decide) (l := s.take k); rw [List.length_take] at hpb; simp only at hpb)
    (refine wp_seq_k ?_; intro Kq5 hKq5)
    (refine wp_seq_k ?_; intro Kq6 hKq6)
    refine wp_region_lit ?_
    (refine wpl_v S rfl rfl rfl (sv_pure S rfl) ?_; clear S a; intro a S)
    (refine wpl_v S rfl rfl rfl (sv_pure S rfl) ?_; clear S a; intro a S)
    (refine wpl_v S rfl rfl rfl (sv_pure S rfl) ?_; clear S a; intro a S)
    refine wpList_nil ?_
    (refine hKq6 _ _ ?_; try (clear hKq6 Kq6))
    refine wpc_split S rfl (fun h => ?_) (fun h => ?_)
    · (skip; (try simp only [decide_eq_true_eq, decide_eq_false_iff_not, beq_iff_eq, bne_iff_ne, bne_eq_false_iff_eq, beq_eq_false_iff_ne, ne_eq, Bool.not_eq_true', Bool.not_eq_false', Bool.not_eq_true, Bool.not_eq_false, Bool.not_true, Bool.not_false, Int.ofNat_lt, Int.ofNat_le, Nat.not_lt, Nat.not_le] at h))
      refine wp_skip ?_
      (refine hKq5 _ _ ?_; try (clear hKq5 Kq5))
      (refine wp_seq_k ?_; intro Kq7 hKq7)
      refine wp_block ?_
      (refine wp_seq_k ?_; intro Kq8 hKq8)
      refine wp_region_lit ?_
      (refine wpl_v S rfl rfl rfl (sv_fieldAddr S rfl rfl rfl inferInstance rfl) ?_; clear S a; intro a S)
      first | (refine wpl_v S rfl rfl rfl (sv_loadO S rfl rfl (by rfl)) ?_; clear S a; intro a S) | (refine wpl_v S rfl rfl rfl (sv_loadF S rfl rfl (by assumption)) ?_; clear S a; intro a S)
      (refine wpl_v S rfl rfl rfl (sv_add S rfl rfl rfl (by first | omega | (simp only [List.length_append, List.length_cons, List.length_nil]; omega))) ?_; clear S a; intro a S)
      (refine wpl_v S rfl rfl rfl (sv_fieldAddr S rfl rfl rfl inferInstance rfl) ?_; clear S a; intro a S)
      (refine wpl_store1 S rfl rfl rfl rfl rfl rfl (by first | (simp; done) | (simp [Value.cells]; done) | exact Nat.le_of_ble_eq_true rfl) ?_; clear S; intro w S)
      refine wpList_nil ?_
      (refine hKq8 _ _ ?_; try (clear hKq8 Kq8))
      (refine wp_seq_k ?_; intro Kq9 hKq9)
      refine wp_region_lit ?_
      (refine wpl_v S rfl rfl rfl (sv_pure S rfl) ?_; clear S a; intro a S)
      (refine wpl_v S rfl rfl rfl (sv_pure S rfl) ?_; clear S a; intro a S)
      first | (refine wpl_v S rfl rfl rfl (sv_indexSN S rfl rfl rfl (by first | omega | (simp only [List.length_append, List.length_cons, List.length_nil]; omega))) ?_; clear S a; intro a S) | (refine wpl_v S rfl rfl rfl (sv_indexS S rfl rfl rfl (by first | omega | (simp only [List.length_append, List.length_cons, List.length_nil]; omega))) ?_; clear S a; intro a S)
      (refine wpl_v S rfl rfl rfl (sv_pure S rfl) ?_; clear S a; intro a S)
      refine wpList_nil ?_
      (refine hKq9 _ _ ?_; try (clear hKq9 Kq9))
      refine wpc_split S rfl (fun h => ?_) (fun h => ?_)
      · (skip; (try simp only [decide_eq_true_eq, decide_eq_false_iff_not, beq_iff_eq, bne_iff_ne, bne_eq_false_iff_eq, beq_eq_false_iff_ne, ne_eq, Bool.not_eq_true', Bool.not_eq_false', Bool.not_eq_true, Bool.not_eq_false, Bool.not_true, Bool.not_false, Int.ofNat_lt, Int.ofNat_le, Nat.not_lt, Nat.not_le] at h))
        (refine wp_seq_k ?_; intro Kq10 hKq10)
        refine wp_region_lit ?_
        (refine wpl_v S rfl rfl rfl (sv_fieldAddr S rfl rfl rfl inferInstance rfl) ?_; clear S a; intro a S)
        first | (refine wpl_v S rfl rfl rfl (sv_loadO S rfl rfl (by rfl)) ?_; clear S a; intro a S) | (refine wpl_v S rfl rfl rfl (sv_loadF S rfl rfl (by assumption)) ?_; clear S a; intro a S)
        (refine wpl_v S rfl rfl rfl (sv_add S rfl rfl rfl (by first | omega | (simp only [List.length_append, List.length_cons, List.length_nil]; omega))) ?_; clear S a; intro a S)
        (refine wpl_v S rfl rfl rfl (sv_fieldAddr S rfl rfl rfl inferInstance rfl) ?_; clear S a; intro a S)
        (refine wpl_store1 S rfl rfl rfl rfl rfl rfl (by first | (simp; done) | (simp [Value.cells]; done) | exact Nat.le_of_ble_eq_true rfl) ?_; clear S; intro w S)
        refine wpList_nil ?_
        (refine hKq10 _ _ ?_; try (clear hKq10 Kq10))
        refine wp_region_lit ?_
        (refine wpl_v S rfl rfl rfl (sv_fieldAddr S rfl rfl rfl inferInstance rfl) ?_; clear S a; intro a S)
        (refine wpl_store1 S rfl rfl rfl rfl rfl rfl (by first | (simp; done) | (simp [Value.cells]; done) | exact Nat.le_of_ble_eq_true rfl) ?_; clear S; intro w S)
        refine wpList_nil ?_
        (refine hKq7 _ _ ?_; try (clear hKq7 Kq7))
        refine wp_region_lit ?_
        (refine wpl_v S rfl rfl rfl (sv_pure S rfl) ?_; clear S a; intro a S)
        (refine wpl_v S rfl rfl rfl (sv_add S rfl rfl rfl (by first | omega | (simp only [List.length_append, List.length_cons, List.length_nil]; omega))) ?_; clear S a; intro a S)
        (refine wpl_v S rfl rfl rfl (sv_pure S rfl) ?_; clear S a; intro a S)
        refine wpList_nil ?_
        change ∃ m', _ ∧ _
        (refine ⟨i - (k + 1), by omega, k + 1, rfl, by omega, ?_⟩; rw [place_succ (1, 1) (show k < s.length by omega)]; (first | rw [if_pos (by omega)] | rw [if_neg (by omega)]); refine S.keep ?_; repeat (first | exact trivial | refine ⟨rfl, ?_⟩))
      · (skip; (try simp only [decide_eq_true_eq, decide_eq_false_iff_not, beq_iff_eq, bne_iff_ne, bne_eq_false_iff_eq, beq_eq_false_iff_ne, ne_eq, Bool.not_eq_true', Bool.not_eq_false', Bool.not_eq_true, Bool.not_eq_false, Bool.not_true, Bool.not_false, Int.ofNat_lt, Int.ofNat_le, Nat.not_lt, Nat.not_le] at h))
        refine wp_skip ?_
        (refine hKq7 _ _ ?_; try (clear hKq7 Kq7))
        refine wp_region_lit ?_
        (refine wpl_v S rfl rfl rfl (sv_pure S rfl) ?_; clear S a; intro a S)
        (refine wpl_v S rfl rfl rfl (sv_add S rfl rfl rfl (by first | omega | (simp only [List.length_append, List.length_cons, List.length_nil]; omega))) ?_; clear S a; intro a S)
        (refine wpl_v S rfl rfl rfl (sv_pure S rfl) ?_; clear S a; intro a S)
        refine wpList_nil ?_
        change ∃ m', _ ∧ _
        (refine ⟨i - (k + 1), by omega, k + 1, rfl, by omega, ?_⟩; rw [place_succ (1, 1) (show k < s.length by omega)]; (first | rw [if_pos (by omega)] | rw [if_neg (by omega)]); refine S.keep ?_; repeat (first | exact trivial | refine ⟨rfl, ?_⟩))
    · (skip; (try simp only [decide_eq_true_eq, decide_eq_false_iff_not, beq_iff_eq, bne_iff_ne, bne_eq_false_iff_eq, beq_eq_false_iff_ne, ne_eq, Bool.not_eq_true', Bool.not_eq_false', Bool.not_eq_true, Bool.not_eq_false, Bool.not_true, Bool.not_false, Int.ofNat_lt, Int.ofNat_le, Nat.not_lt, Nat.not_le] at h))
      refine wp_exit ?_
      (refine hKq3 _ _ ?_; try (clear hKq3 Kq3))
      (refine wp_seq_k ?_; intro Kq7 hKq7)
      refine wp_region_lit ?_
      first | (refine wpl_v S rfl rfl rfl (sv_loadAO S rfl rfl (by rfl)) ?_; clear S a; intro a S) | (refine wpl_v S rfl rfl rfl (sv_loadAF S rfl rfl (by assumption) (by rfl)) ?_; clear S a; intro a S)
      (refine wpl_storeO S rfl rfl rfl rfl rfl (by rfl) (by simp [Value.cells, Value.oneCell', splice]) (by rfl) ?_; clear S; intro w S)
      refine wpList_nil ?_
      (refine hKq7 _ _ ?_; try (clear hKq7 Kq7))
      refine wp_ret ?_
      refine fin_ret S (results1 Tryd.results21 (RV.cellO S rfl (by rfl))) ?_
      (have hik : k = i := (by omega); subst hik; rfl)

theorem hexI_digit {c : UInt8} (h : digit c = true) : hexI c = (c.toNat : Int) - 48 := by
  have := (digit_iff c).1 h
  unfold hexI hexv
  rw [if_pos h]
  simp only []
  omega
theorem hexI_af {c : UInt8} (h : digit c = false) (h1 : 97 ≤ c.toNat) (h2 : c.toNat ≤ 102) : hexI c = (c.toNat : Int) - 87 := by
  unfold hexI hexv
  rw [if_neg (by rw [h]; decide), if_pos ⟨h1, h2⟩]
  simp only []
  omega
theorem hexI_no {c : UInt8} (h : digit c = false) (h1 : ¬ (97 ≤ c.toNat ∧ c.toNat ≤ 102)) : hexI c = -1 := by
  unfold hexI hexv
  rw [if_neg (by rw [h]; decide), if_neg h1]
set_option maxHeartbeats 1000000 in
theorem rhexCt (c : UInt8) (F : Heap) : Ct Tryd.prog 55 [.int .u8 c.toNat] F [] (fun _ _ u => u = .int .i64 (hexI c)) := by
  have hd := digit_iff c
  refine Ct.enter Tryd.func55 rfl Tryd.ntmps55 rfl fun w0 a S => ?_
  (refine wp_seq_k ?_; intro Kq1 hKq1)
  refine wp_region_lit ?_
  (refine wpl_v S rfl rfl rfl (sv_pure S rfl) ?_; clear S a; intro a S)
  refine wpList_nil ?_
  (refine hKq1 _ _ ?_; try (clear hKq1 Kq1))
  (refine wp_seq_k ?_; intro Kq2 hKq2)
  (refine wp_seq_k ?_; intro Kq3 hKq3)
  refine wp_region_lit ?_
  (refine wpl_v S rfl rfl rfl (sv_pure S rfl) ?_; clear S a; intro a S)
  (refine wpl_call0 S rfl rfl rfl rfl rfl rfl (rdigitCt c F) rfl ?_; clear S a; intro v a w hv S; subst hv)
  refine wpList_nil ?_
  (refine hKq3 _ _ ?_; try (clear hKq3 Kq3))
  refine wpc_split S rfl (fun h => ?_) (fun h => ?_)
  · (skip; (try simp only [decide_eq_true_eq, decide_eq_false_iff_not, beq_iff_eq, bne_iff_ne, bne_eq_false_iff_eq, beq_eq_false_iff_ne, ne_eq, Bool.not_eq_true', Bool.not_eq_false', Bool.not_eq_true, Bool.not_eq_false, Bool.not_true, Bool.not_false, Int.ofNat_lt, Int.ofNat_le, Nat.not_lt, Nat.not_le] at h))
    (refine wp_seq_k ?_; intro Kq4 hKq4)
    refine wp_region_lit ?_
    (refine wpl_v S rfl rfl rfl (sv_pure S rfl) ?_; clear S a; intro a S)
    (refine wpl_v S rfl rfl rfl (sv_sub8 S rfl rfl rfl (by first | omega | (have := hd.1 (by assumption); omega))) ?_; clear S a; intro a S)
    (refine wpl_v S rfl rfl rfl (sv_conv_i64 S rfl rfl (by first | omega | (have := hd.1 (by assumption); omega))) ?_; clear S a; intro a S)
    (refine wpl_v S rfl rfl rfl (sv_pure S rfl) ?_; clear S a; intro a S)
    refine wpList_nil ?_
    (refine hKq4 _ _ ?_; try (clear hKq4 Kq4))
    refine wp_ret ?_
    refine fin_ret S (results1 Tryd.results55 (RV.tmp S rfl)) ?_
    (first | exact congrArg (Value.int .i64) (by rw [hexI_digit (by assumption)]) | exact congrArg (Value.int .i64) (by rw [hexI_af (by assumption) (by omega) (by omega)]; omega) | exact congrArg (Value.int .i64) (by rw [hexI_no (by assumption) (by omega)]))
  · (skip; (try simp only [decide_eq_true_eq, decide_eq_false_iff_not, beq_iff_eq, bne_iff_ne, bne_eq_false_iff_eq, beq_eq_false_iff_ne, ne_eq, Bool.not_eq_true', Bool.not_eq_false', Bool.not_eq_true, Bool.not_eq_false, Bool.not_true, Bool.not_false, Int.ofNat_lt, Int.ofNat_le, Nat.not_lt, Nat.not_le] at h))
    refine wp_skip ?_
    (refine hKq2 _ _ ?_; try (clear hKq2 Kq2))
    (refine wp_seq_k ?_; intro Kq4 hKq4)
    (refine wp_seq_k ?_; intro Kq5 hKq5)
    refine wp_region_lit ?_
    (refine wpl_v S rfl rfl rfl (sv_pure S rfl) ?_; clear S a; intro a S)
    (refine wpl_v S rfl rfl rfl (sv_pure S rfl) ?_; clear S a; intro a S)
    (refine wpl_v S rfl rfl rfl (sv_pure S rfl) ?_; clear S a; intro a S)
    refine wpl_guard S rfl rfl rfl rfl rfl ?_ ?_
    · (intro h S'; clear S; have S := S'; clear S'; (try simp only [decide_eq_true_eq, decide_eq_false_iff_not, beq_iff_eq, bne_iff_ne, bne_eq_false_iff_eq, beq_eq_false_iff_ne, ne_eq, Bool.not_eq_true', Bool.not_eq_false', Bool.not_eq_true, Bool.not_eq_false, Bool.not_true, Bool.not_false, Int.ofNat_lt, Int.ofNat_le, Nat.not_lt, Nat.not_le] at h))
      (refine wpl_v S rfl rfl rfl (sv_pure S rfl) ?_; clear S a; intro a S)
      refine wpl_take S rfl rfl rfl ?_
      (refine wpl_v S rfl rfl rfl (sv_pure S rfl) ?_; clear S a; intro a S)
      first | (refine wpl_v S rfl rfl rfl (sv_pure S rfl) ?_; clear S a; intro a S) | (refine wpl_v S rfl rfl rfl (sv_pickB S rfl rfl rfl rfl) ?_; clear S a; intro a S)
      refine wpList_nil ?_
      (refine hKq5 _ _ ?_; try (clear hKq5 Kq5))
      refine wpc_split S rfl (fun h => ?_) (fun h => ?_)
      · (skip; (try simp only [decide_eq_true_eq, decide_eq_false_iff_not, beq_iff_eq, bne_iff_ne, bne_eq_false_iff_eq, beq_eq_false_iff_ne, ne_eq, Bool.not_eq_true', Bool.not_eq_false', Bool.not_eq_true, Bool.not_eq_false, Bool.not_true, Bool.not_false, Int.ofNat_lt, Int.ofNat_le, Nat.not_lt, Nat.not_le] at h))
        (refine wp_seq_k ?_; intro Kq6 hKq6)
        refine wp_region_lit ?_
        (refine wpl_v S rfl rfl rfl (sv_pure S rfl) ?_; clear S a; intro a S)
        (refine wpl_v S rfl rfl rfl (sv_sub8 S rfl rfl rfl (by first | omega | (have := hd.1 (by assumption); omega))) ?_; clear S a; intro a S)
        (refine wpl_v S rfl rfl rfl (sv_conv_i64 S rfl rfl (by first | omega | (have := hd.1 (by assumption); omega))) ?_; clear S a; intro a S)
        (refine wpl_v S rfl rfl rfl (sv_add S rfl rfl rfl (by first | omega | (have := hd.1 (by assumption); omega))) ?_; clear S a; intro a S)
        (refine wpl_v S rfl rfl rfl (sv_pure S rfl) ?_; clear S a; intro a S)
        refine wpList_nil ?_
        (refine hKq6 _ _ ?_; try (clear hKq6 Kq6))
        refine wp_ret ?_
        refine fin_ret S (results1 Tryd.results55 (RV.tmp S rfl)) ?_
        (first | exact congrArg (Value.int .i64) (by rw [hexI_digit (by assumption)]) | exact congrArg (Value.int .i64) (by rw [hexI_af (by assumption) (by omega) (by omega)]; omega) | exact congrArg (Value.int .i64) (by rw [hexI_no (by assumption) (by omega)]))
      · (skip; (try simp only [decide_eq_true_eq, decide_eq_false_iff_not, beq_iff_eq, bne_iff_ne, bne_eq_false_iff_eq, beq_eq_false_iff_ne, ne_eq, Bool.not_eq_true', Bool.not_eq_false', Bool.not_eq_true, Bool.not_eq_false, Bool.not_true, Bool.not_false, Int.ofNat_lt, Int.ofNat_le, Nat.not_lt, Nat.not_le] at h))
        refine wp_skip ?_
        (refine hKq4 _ _ ?_; try (clear hKq4 Kq4))
        (refine wp_seq_k ?_; intro Kq6 hKq6)
        refine wp_region_lit ?_
        (refine wpl_v S rfl rfl rfl (sv_pure S rfl) ?_; clear S a; intro a S)
        refine wpList_nil ?_
        (refine hKq6 _ _ ?_; try (clear hKq6 Kq6))
        refine wp_ret ?_
        refine fin_ret S (results1 Tryd.results55 (RV.tmp S rfl)) ?_
        (first | exact congrArg (Value.int .i64) (by rw [hexI_digit (by assumption)]) | exact congrArg (Value.int .i64) (by rw [hexI_af (by assumption) (by omega) (by omega)]; omega) | exact congrArg (Value.int .i64) (by rw [hexI_no (by assumption) (by omega)]))
    · (intro h; clear S a; intro a S; (try simp only [decide_eq_true_eq, decide_eq_false_iff_not, beq_iff_eq, bne_iff_ne, bne_eq_false_iff_eq, beq_eq_false_iff_ne, ne_eq, Bool.not_eq_true', Bool.not_eq_false', Bool.not_eq_true, Bool.not_eq_false, Bool.not_true, Bool.not_false, Int.ofNat_lt, Int.ofNat_le, Nat.not_lt, Nat.not_le] at h))
      (refine wpl_skip S rfl rfl rfl rfl rfl ?_; clear S a; intro a S)
      first | (refine wpl_v S rfl rfl rfl (sv_pure S rfl) ?_; clear S a; intro a S) | (refine wpl_v S rfl rfl rfl (sv_pickB S rfl rfl rfl rfl) ?_; clear S a; intro a S)
      refine wpList_nil ?_
      (refine hKq5 _ _ ?_; try (clear hKq5 Kq5))
      refine wpc_false S rfl ?_
      refine wp_skip ?_
      (refine hKq4 _ _ ?_; try (clear hKq4 Kq4))
      (refine wp_seq_k ?_; intro Kq6 hKq6)
      refine wp_region_lit ?_
      (refine wpl_v S rfl rfl rfl (sv_pure S rfl) ?_; clear S a; intro a S)
      refine wpList_nil ?_
      (refine hKq6 _ _ ?_; try (clear hKq6 Kq6))
      refine wp_ret ?_
      refine fin_ret S (results1 Tryd.results55 (RV.tmp S rfl)) ?_
      (first | exact congrArg (Value.int .i64) (by rw [hexI_digit (by assumption)]) | exact congrArg (Value.int .i64) (by rw [hexI_af (by assumption) (by omega) (by omega)]; omega) | exact congrArg (Value.int .i64) (by rw [hexI_no (by assumption) (by omega)]))

/-- What the document tells of a place: what stands there, or an error. -/
def RT (i : Nat) (g : Fnd) (u : Value) : Prop := ∃ E, u = .tuple ⟨[.agg ⟨[.int .u8 E.1, .int .i64 E.2.1, .string (bs E.2.2)]⟩, .int .i64 g.e]⟩ ∧ (g.e = 0 → E = (g.kind, ((i + g.size : Nat) : Int), g.text))
theorem RT.ok {i : Nat} {g : Fnd} {u : Value} {k E : Int} {tx : List UInt8} (hu : u = .tuple ⟨[.agg ⟨[.int .u8 k, .int .i64 E, .string (bs tx)]⟩, .int .i64 0]⟩) (h : ∃ sz : Nat, g = ⟨0, k, sz, tx⟩ ∧ E = ((i + sz : Nat) : Int)) : RT i g u := by
  obtain ⟨sz, rfl, rfl⟩ := h
  exact ⟨(_, _, _), hu, fun _ => rfl⟩
theorem RT.bad {i : Nat} {g : Fnd} {u : Value} {k E e : Int} {tx : List UInt8} (hu : u = .tuple ⟨[.agg ⟨[.int .u8 k, .int .i64 E, .string (bs tx)]⟩, .int .i64 e]⟩) (he : e ≠ 0) (h : g = Go.Lx.bad e) : RT i g u := by
  subst h
  exact ⟨(_, _, _), hu, fun h => absurd h he⟩
theorem cutT (s : List UInt8) (i n : Nat) : (s.take ((i + n : Nat) : Int).toNat).drop ((i : Nat) : Int).toNat = (s.drop i).take n := by
  rw [Int.toNat_natCast, Int.toNat_natCast, List.drop_take, Nat.add_sub_cancel_left]

theorem cutT2 (s : List UInt8) (i n m : Nat) : (s.take ((i + m : Nat) : Int).toNat).drop ((i + n : Nat) : Int).toNat = ((s.drop i).take m).drop n := by
  rw [Int.toNat_natCast, Int.toNat_natCast, List.drop_take, List.drop_take, List.drop_drop, Nat.add_sub_add_left]

set_option maxHeartbeats 2000000 in
theorem rnumberCt (s : List UInt8) (i : Nat) (F : Heap) (hi : i < s.length) (hs : s.length ≤ 1000000) : Ct Tryd.prog 37 [.string (bs s), .int .i64 i] F [] (fun _ _ u => RT i (numberF (s.drop i)) u) := by
  have hdl : (s.drop i).length = s.length - i := List.length_drop
  have hrl := run_le within (s.drop i)
  have hdm := run_mono digit_within (s.drop i)
  have hg0 : s.getD i 0 = (s.drop i).getD 0 0 := by simp only [List.getD_eq_getElem?_getD, List.getElem?_drop, Nat.add_zero]
  refine Ct.enter Tryd.func37 rfl Tryd.ntmps37 rfl fun w0 a S => ?_
  (refine wp_seq_k ?_; intro Kq1 hKq1)
  refine wp_region_lit ?_
  (refine wpl_alloc S rfl rfl rfl rfl ?_; clear S a; intro b4 a w S)
  (refine wpl_v S rfl rfl rfl (sv_pure S rfl) ?_; clear S a; intro a S)
  refine wpList_nil ?_
  (refine hKq1 _ _ ?_; try (clear hKq1 Kq1))
  (refine wp_seq_k ?_; intro Kq2 hKq2)
  refine wp_region_lit ?_
  (refine wpl_v S rfl rfl rfl (sv_pure S rfl) ?_; clear S a; intro a S)
  (refine wpl_v S rfl rfl rfl (sv_pure S rfl) ?_; clear S a; intro a S)
  refine wpList_nil ?_
  (refine hKq2 _ _ ?_; try (clear hKq2 Kq2))
  (refine wp_seq_k ?_; intro Kq3 hKq3)
  refine wp_block ?_
  refine wpc_loop (fun m a w' => ∃ (k : Nat), m = s.length - (i + k) ∧ i + k ≤ s.length ∧ (∀ j, j < k → digit ((s.drop i).getD j 0) = true) ∧ St 67 [(0, .string (bs s)), (1, .int .i64 i), (4, .pointer (some ⟨b4, 0, none⟩)), (6, .int .i64 (i + k : Nat))] w0 F [] F [[(b4, .cells ⟨[.int .u8 0, .int .i64 0, .string (bs [])]⟩ 56 (0, 0))]] a w') ?_ ?_
  · (refine ⟨s.length - i, 0, by simp, by omega, fun j hj => by omega, ?_⟩; refine S.keep ?_; repeat (first | exact trivial | refine ⟨rfl, ?_⟩))
  · (clear S; rintro m a w ⟨k, rfl, hk, hall, S⟩; have hg : s.getD (i + k) 0 = (s.drop i).getD k 0 := (by simp only [List.getD_eq_getElem?_getD, List.getElem?_drop]))
    (refine wp_seq_k ?_; intro Kq4 hKq4)
    (refine wp_seq_k ?_; intro Kq5 hKq5)
    refine wp_region_lit ?_
    (refine wpl_v S rfl rfl rfl (sv_pure S rfl) ?_; clear S a; intro a S)
    (refine wpl_v S rfl rfl rfl (sv_pure S rfl) ?_; clear S a; intro a S)
    (refine wpl_v S rfl rfl rfl (sv_lenS S rfl rfl) ?_; clear S a; intro a S)
    (refine wpl_v S rfl rfl rfl (sv_pure S rfl) ?_; clear S a; intro a S)
    (refine wpl_v S rfl rfl rfl (sv_pure S rfl) ?_; clear S a; intro a S)
    refine wpl_guard S rfl rfl rfl rfl rfl ?_ ?_
    · (intro h S'; clear S; have S := S'; clear S'; (try simp only [decide_eq_true_eq, decide_eq_false_iff_not, beq_iff_eq, bne_iff_ne, bne_eq_false_iff_eq, beq_eq_false_iff_ne, ne_eq, Bool.not_eq_true', Bool.not_eq_false', Bool.not_eq_true, Bool.not_eq_false, Bool.not_true, Bool.not_false, Int.ofNat_lt, Int.ofNat_le, Nat.not_lt, Nat.not_le] at h))
      (refine wpl_v S rfl rfl rfl (sv_pure S rfl) ?_; clear S a; intro a S)
      refine wpl_take S rfl rfl rfl ?_
      (refine wpl_v S rfl rfl rfl (sv_pure S rfl) ?_; clear S a; intro a S)
      refine wpl_take S rfl rfl rfl ?_
      first | (refine wpl_v S rfl rfl rfl (sv_indexSN S rfl rfl rfl (by first | omega | (simp only [List.length_append, List.length_cons, List.length_nil]; omega))) ?_; clear S a; intro a S) | (refine wpl_v S rfl rfl rfl (sv_indexS S rfl rfl rfl (by first | omega | (simp only [List.length_append, List.length_cons, List.length_nil]; omega))) ?_; clear S a; intro a S)
      refine wpl_take S rfl rfl rfl ?_
      (refine wpl_call0 S rfl rfl rfl rfl rfl rfl (rdigitCt (s.getD (i + k) 0) F) rfl ?_; clear S a; intro v a w hv S; subst hv)
      first | (refine wpl_v S rfl rfl rfl (sv_pure S rfl) ?_; clear S a; intro a S) | (refine wpl_v S rfl rfl rfl (sv_pickB S rfl rfl rfl rfl) ?_; clear S a; intro a S)
      refine wpList_nil ?_
      (refine hKq5 _ _ ?_; try (clear hKq5 Kq5))
      refine wpc_split S rfl (fun h => ?_) (fun h => ?_)
      · (skip; (try simp only [decide_eq_true_eq, decide_eq_false_iff_not, beq_iff_eq, bne_iff_ne, bne_eq_false_iff_eq, beq_eq_false_iff_ne, ne_eq, Bool.not_eq_true', Bool.not_eq_false', Bool.not_eq_true, Bool.not_eq_false, Bool.not_true, Bool.not_false, Int.ofNat_lt, Int.ofNat_le, Nat.not_lt, Nat.not_le] at h))
        refine wp_skip ?_
        (refine hKq4 _ _ ?_; try (clear hKq4 Kq4))
        refine wp_block ?_
        refine wp_region_lit ?_
        (refine wpl_v S rfl rfl rfl (sv_pure S rfl) ?_; clear S a; intro a S)
        (refine wpl_v S rfl rfl rfl (sv_add S rfl rfl rfl (by first | omega | (simp only [List.length_append, List.length_cons, List.length_nil]; omega))) ?_; clear S a; intro a S)
        (refine wpl_v S rfl rfl rfl (sv_pure S rfl) ?_; clear S a; intro a S)
        refine wpList_nil ?_
        change ∃ m', _ ∧ _
        (refine ⟨s.length - (i + (k + 1)), by omega, k + 1, rfl, by omega, fun j hj => (by rcases Nat.lt_or_eq_of_le (Nat.le_of_lt_succ hj) with h9 | h9; exact hall j h9; subst h9; rw [← hg]; assumption), ?_⟩; refine S.keep ?_; repeat (first | exact trivial | refine ⟨rfl, ?_⟩))
      · (skip; (try simp only [decide_eq_true_eq, decide_eq_false_iff_not, beq_iff_eq, bne_iff_ne, bne_eq_false_iff_eq, beq_eq_false_iff_ne, ne_eq, Bool.not_eq_true', Bool.not_eq_false', Bool.not_eq_true, Bool.not_eq_false, Bool.not_true, Bool.not_false, Int.ofNat_lt, Int.ofNat_le, Nat.not_lt, Nat.not_le] at h))
        refine wp_exit ?_
        (refine hKq3 _ _ ?_; try (clear hKq3 Kq3))
        (refine wp_seq_k ?_; intro Kq6 hKq6)
        (obtain ⟨n, hn⟩ : ∃ n, n = run digit (s.drop i) := ⟨_, rfl⟩; have hkn : k = n := (by rw [hn]; exact (run_eq (p := digit) (r := s.drop i) (i := k) (by omega) hall (by first | (left; omega) | (right; rw [← hg]; assumption))).symm); subst hkn; clear hall)
        refine wp_region_lit ?_
        (refine wpl_v S rfl rfl rfl (sv_pure S rfl) ?_; clear S a; intro a S)
        (refine wpl_v S rfl rfl rfl (sv_pure S rfl) ?_; clear S a; intro a S)
        (refine wpl_call0 S rfl rfl rfl rfl rfl rfl (endCt s i F (by omega) (by omega)) rfl ?_; clear S a; intro v a w hv S; subst hv)
        (refine wpl_v S rfl rfl rfl (sv_pure S rfl) ?_; clear S a; intro a S)
        refine wpList_nil ?_
        (refine hKq6 _ _ ?_; try (clear hKq6 Kq6))
        (refine wp_seq_k ?_; intro Kq7 hKq7)
        (refine wp_seq_k ?_; intro Kq8 hKq8)
        refine wp_region_lit ?_
        (refine wpl_v S rfl rfl rfl (sv_pure S rfl) ?_; clear S a; intro a S)
        (refine wpl_v S rfl rfl rfl (sv_pure S rfl) ?_; clear S a; intro a S)
        (refine wpl_v S rfl rfl rfl (sv_sub S rfl rfl rfl (by first | omega | (simp only [List.length_append, List.length_cons, List.length_nil]; omega))) ?_; clear S a; intro a S)
        (refine wpl_v S rfl rfl rfl (sv_pure S rfl) ?_; clear S a; intro a S)
        (refine wpl_v S rfl rfl rfl (sv_pure S rfl) ?_; clear S a; intro a S)
        refine wpl_guard S rfl rfl rfl rfl rfl ?_ ?_
        · (intro h S'; clear S; have S := S'; clear S'; (try simp only [decide_eq_true_eq, decide_eq_false_iff_not, beq_iff_eq, bne_iff_ne, bne_eq_false_iff_eq, beq_eq_false_iff_ne, ne_eq, Bool.not_eq_true', Bool.not_eq_false', Bool.not_eq_true, Bool.not_eq_false, Bool.not_true, Bool.not_false, Int.ofNat_lt, Int.ofNat_le, Nat.not_lt, Nat.not_le] at h))
          (refine wpl_v S rfl rfl rfl (sv_pure S rfl) ?_; clear S a; intro a S)
          refine wpl_take S rfl rfl rfl ?_
          (refine wpl_v S rfl rfl rfl (sv_pure S rfl) ?_; clear S a; intro a S)
          refine wpl_take S rfl rfl rfl ?_
          first | (refine wpl_v S rfl rfl rfl (sv_indexSN S rfl rfl rfl (by first | omega | (simp only [List.length_append, List.length_cons, List.length_nil]; omega))) ?_; clear S a; intro a S) | (refine wpl_v S rfl rfl rfl (sv_indexS S rfl rfl rfl (by first | omega | (simp only [List.length_append, List.length_cons, List.length_nil]; omega))) ?_; clear S a; intro a S)
          (rw [hg0] at S)
          refine wpl_take S rfl rfl rfl ?_
          (refine wpl_v S rfl rfl rfl (sv_pure S rfl) ?_; clear S a; intro a S)
          first | (refine wpl_v S rfl rfl rfl (sv_pure S rfl) ?_; clear S a; intro a S) | (refine wpl_v S rfl rfl rfl (sv_pickB S rfl rfl rfl rfl) ?_; clear S a; intro a S)
          (refine wpl_v S rfl rfl rfl (sv_pure S rfl) ?_; clear S a; intro a S)
          refine wpl_guard S rfl rfl rfl rfl rfl ?_ ?_
          · (intro h S'; clear S; have S := S'; clear S'; (try simp only [decide_eq_true_eq, decide_eq_false_iff_not, beq_iff_eq, bne_iff_ne, bne_eq_false_iff_eq, beq_eq_false_iff_ne, ne_eq, Bool.not_eq_true', Bool.not_eq_false', Bool.not_eq_true, Bool.not_eq_false, Bool.not_true, Bool.not_false, Int.ofNat_lt, Int.ofNat_le, Nat.not_lt, Nat.not_le] at h))
            (refine wpl_v S rfl rfl rfl (sv_pure S rfl) ?_; clear S a; intro a S)
            refine wpl_take S rfl rfl rfl ?_
            (refine wpl_v S rfl rfl rfl (sv_pure S rfl) ?_; clear S a; intro a S)
            refine wpl_take S rfl rfl rfl ?_
            (refine wpl_v S rfl rfl rfl (sv_pure S rfl) ?_; clear S a; intro a S)
            refine wpl_take S rfl rfl rfl ?_
            (refine wpl_v S rfl rfl rfl (sv_pure S rfl) ?_; clear S a; intro a S)
            refine wpl_guard S rfl rfl rfl rfl rfl ?_ ?_
            · (intro h S'; clear S; have S := S'; clear S'; (try simp only [decide_eq_true_eq, decide_eq_false_iff_not, beq_iff_eq, bne_iff_ne, bne_eq_false_iff_eq, beq_eq_false_iff_ne, ne_eq, Bool.not_eq_true', Bool.not_eq_false', Bool.not_eq_true, Bool.not_eq_false, Bool.not_true, Bool.not_false, Int.ofNat_lt, Int.ofNat_le, Nat.not_lt, Nat.not_le] at h))
              (refine wpl_v S rfl rfl rfl (sv_pure S rfl) ?_; clear S a; intro a S)
              refine wpl_take S rfl rfl rfl ?_
              (refine wpl_v S rfl rfl rfl (sv_pure S rfl) ?_; clear S a; intro a S)
              refine wpl_take S rfl rfl rfl ?_
              (refine wpl_v S rfl rfl rfl (sv_pure S rfl) ?_; clear S a; intro a S)
              refine wpl_take S rfl rfl rfl ?_
              (refine wpl_v S rfl rfl rfl (sv_sliceS S rfl rfl rfl rfl (by first | omega | (simp only [List.length_append, List.length_cons, List.length_nil]; omega))) ?_; clear S a; intro a S)
              (rw [cutT2] at S)
              refine wpl_take S rfl rfl rfl ?_
              (refine wpl_v S rfl rfl rfl (sv_pure S rfl) ?_; clear S a; intro a S)
              refine wpl_take S rfl rfl rfl ?_
              first | (refine wpl_v S rfl rfl rfl (sv_pure S rfl) ?_; clear S a; intro a S) | (refine wpl_v S rfl rfl rfl (sv_pickB S rfl rfl rfl rfl) ?_; clear S a; intro a S)
              first | (refine wpl_v S rfl rfl rfl (sv_pure S rfl) ?_; clear S a; intro a S) | (refine wpl_v S rfl rfl rfl (sv_pickB S rfl rfl rfl rfl) ?_; clear S a; intro a S)
              refine wpList_nil ?_
              (refine hKq8 _ _ ?_; try (clear hKq8 Kq8))
              refine wpc_split S rfl (fun h => ?_) (fun h => ?_)
              · (skip; (try simp only [decide_eq_true_eq, decide_eq_false_iff_not, beq_iff_eq, bne_iff_ne, bne_eq_false_iff_eq, beq_eq_false_iff_ne, ne_eq, Bool.not_eq_true', Bool.not_eq_false', Bool.not_eq_true, Bool.not_eq_false, Bool.not_true, Bool.not_false, Int.ofNat_lt, Int.ofNat_le, Nat.not_lt, Nat.not_le] at h))
                (refine wp_seq_k ?_; intro Kq9 hKq9)
                refine wp_region_lit ?_
                (refine wpl_v S rfl rfl rfl (sv_build S rfl rfl rfl) ?_; clear S a; intro a S)
                (refine wpl_storeO S rfl rfl rfl rfl rfl (by rfl) (by simp [Value.cells, Value.oneCell', splice]) (by rfl) ?_; clear S; intro w S)
                (refine wpl_v S rfl rfl rfl (sv_pure S rfl) ?_; clear S a; intro a S)
                refine wpList_nil ?_
                (refine hKq9 _ _ ?_; try (clear hKq9 Kq9))
                refine wp_ret ?_
                refine fin_ret S (results2 Tryd.results37 (RV.cellO S rfl (by rfl)) (RV.tmp S rfl)) ?_
                (first | (refine RT.ok rfl ?_; unfold numberF; simp only [← hn]; (repeat' split) <;> first | exact ⟨_, rfl, by omega⟩ | (exfalso; omega) | (exfalso; simp_all; done) | (exfalso; simp_all; omega)) | (refine RT.bad rfl (by decide) ?_; unfold numberF; simp only [← hn]; (repeat' split) <;> first | rfl | (exfalso; omega) | (exfalso; simp_all; done) | (exfalso; simp_all; omega)))
              · (skip; (try simp only [decide_eq_true_eq, decide_eq_false_iff_not, beq_iff_eq, bne_iff_ne, bne_eq_false_iff_eq, beq_eq_false_iff_ne, ne_eq, Bool.not_eq_true', Bool.not_eq_false', Bool.not_eq_true, Bool.not_eq_false, Bool.not_true, Bool.not_false, Int.ofNat_lt, Int.ofNat_le, Nat.not_lt, Nat.not_le] at h))
                refine wp_skip ?_
                (refine hKq7 _ _ ?_; try (clear hKq7 Kq7))
                (refine wp_seq_k ?_; intro Kq9 hKq9)
                (refine wp_seq_k ?_; intro Kq10 hKq10)
                refine wp_region_lit ?_
                (refine wpl_v S rfl rfl rfl (sv_pure S rfl) ?_; clear S a; intro a S)
                (refine wpl_v S rfl rfl rfl (sv_pure S rfl) ?_; clear S a; intro a S)
                (refine wpl_v S rfl rfl rfl (sv_sub S rfl rfl rfl (by first | omega | (simp only [List.length_append, List.length_cons, List.length_nil]; omega))) ?_; clear S a; intro a S)
                (refine wpl_v S rfl rfl rfl (sv_pure S rfl) ?_; clear S a; intro a S)
                refine wpList_nil ?_
                (refine hKq10 _ _ ?_; try (clear hKq10 Kq10))
                refine wpc_split S rfl (fun h => ?_) (fun h => ?_)
                · (skip; (try simp only [decide_eq_true_eq, decide_eq_false_iff_not, beq_iff_eq, bne_iff_ne, bne_eq_false_iff_eq, beq_eq_false_iff_ne, ne_eq, Bool.not_eq_true', Bool.not_eq_false', Bool.not_eq_true, Bool.not_eq_false, Bool.not_true, Bool.not_false, Int.ofNat_lt, Int.ofNat_le, Nat.not_lt, Nat.not_le] at h))
                  (refine wp_seq_k ?_; intro Kq11 hKq11)
                  refine wp_region_lit ?_
                  (refine wpl_v S rfl rfl rfl (sv_build S rfl rfl rfl) ?_; clear S a; intro a S)
                  (refine wpl_storeO S rfl rfl rfl rfl rfl (by rfl) (by simp [Value.cells, Value.oneCell', splice]) (by rfl) ?_; clear S; intro w S)
                  (refine wpl_v S rfl rfl rfl (sv_pure S rfl) ?_; clear S a; intro a S)
                  refine wpList_nil ?_
                  (refine hKq11 _ _ ?_; try (clear hKq11 Kq11))
                  refine wp_ret ?_
                  refine fin_ret S (results2 Tryd.results37 (RV.cellO S rfl (by rfl)) (RV.tmp S rfl)) ?_
                  (first | (refine RT.ok rfl ?_; unfold numberF; simp only [← hn]; (repeat' split) <;> first | exact ⟨_, rfl, by omega⟩ | (exfalso; omega) | (exfalso; simp_all; done) | (exfalso; simp_all; omega)) | (refine RT.bad rfl (by decide) ?_; unfold numberF; simp only [← hn]; (repeat' split) <;> first | rfl | (exfalso; omega) | (exfalso; simp_all; done) | (exfalso; simp_all; omega)))
                · (skip; (try simp only [decide_eq_true_eq, decide_eq_false_iff_not, beq_iff_eq, bne_iff_ne, bne_eq_false_iff_eq, beq_eq_false_iff_ne, ne_eq, Bool.not_eq_true', Bool.not_eq_false', Bool.not_eq_true, Bool.not_eq_false, Bool.not_true, Bool.not_false, Int.ofNat_lt, Int.ofNat_le, Nat.not_lt, Nat.not_le] at h))
                  refine wp_skip ?_
                  (refine hKq9 _ _ ?_; try (clear hKq9 Kq9))
                  (refine wp_seq_k ?_; intro Kq11 hKq11)
                  (refine wp_seq_k ?_; intro Kq12 hKq12)
                  refine wp_region_lit ?_
                  (refine wpl_v S rfl rfl rfl (sv_pure S rfl) ?_; clear S a; intro a S)
                  (refine wpl_v S rfl rfl rfl (sv_pure S rfl) ?_; clear S a; intro a S)
                  (refine wpl_v S rfl rfl rfl (sv_pure S rfl) ?_; clear S a; intro a S)
                  refine wpList_nil ?_
                  (refine hKq12 _ _ ?_; try (clear hKq12 Kq12))
                  refine wpc_split S rfl (fun h => ?_) (fun h => ?_)
                  · (skip; (try simp only [decide_eq_true_eq, decide_eq_false_iff_not, beq_iff_eq, bne_iff_ne, bne_eq_false_iff_eq, beq_eq_false_iff_ne, ne_eq, Bool.not_eq_true', Bool.not_eq_false', Bool.not_eq_true, Bool.not_eq_false, Bool.not_true, Bool.not_false, Int.ofNat_lt, Int.ofNat_le, Nat.not_lt, Nat.not_le] at h))
                    (refine wp_seq_k ?_; intro Kq13 hKq13)
                    refine wp_region_lit ?_
                    (refine wpl_v S rfl rfl rfl (sv_pure S rfl) ?_; clear S a; intro a S)
                    (refine wpl_v S rfl rfl rfl (sv_pure S rfl) ?_; clear S a; intro a S)
                    (refine wpl_v S rfl rfl rfl (sv_pure S rfl) ?_; clear S a; intro a S)
                    (refine wpl_v S rfl rfl rfl (sv_pure S rfl) ?_; clear S a; intro a S)
                    (refine wpl_v S rfl rfl rfl (sv_sliceS S rfl rfl rfl rfl (by first | omega | (simp only [List.length_append, List.length_cons, List.length_nil]; omega))) ?_; clear S a; intro a S)
                    (rw [cutT] at S)
                    (refine wpl_v S rfl rfl rfl (sv_build S rfl rfl rfl) ?_; clear S a; intro a S)
                    (refine wpl_storeO S rfl rfl rfl rfl rfl (by rfl) (by simp [Value.cells, Value.oneCell', splice]) (by rfl) ?_; clear S; intro w S)
                    (refine wpl_v S rfl rfl rfl (sv_pure S rfl) ?_; clear S a; intro a S)
                    refine wpList_nil ?_
                    (refine hKq13 _ _ ?_; try (clear hKq13 Kq13))
                    refine wp_ret ?_
                    refine fin_ret S (results2 Tryd.results37 (RV.cellO S rfl (by rfl)) (RV.tmp S rfl)) ?_
                    (first | (refine RT.ok rfl ?_; unfold numberF; simp only [← hn]; (repeat' split) <;> first | exact ⟨_, rfl, by omega⟩ | (exfalso; omega) | (exfalso; simp_all; done) | (exfalso; simp_all; omega)) | (refine RT.bad rfl (by decide) ?_; unfold numberF; simp only [← hn]; (repeat' split) <;> first | rfl | (exfalso; omega) | (exfalso; simp_all; done) | (exfalso; simp_all; omega)))
                  · (skip; (try simp only [decide_eq_true_eq, decide_eq_false_iff_not, beq_iff_eq, bne_iff_ne, bne_eq_false_iff_eq, beq_eq_false_iff_ne, ne_eq, Bool.not_eq_true', Bool.not_eq_false', Bool.not_eq_true, Bool.not_eq_false, Bool.not_true, Bool.not_false, Int.ofNat_lt, Int.ofNat_le, Nat.not_lt, Nat.not_le] at h))
                    refine wp_skip ?_
                    (refine hKq11 _ _ ?_; try (clear hKq11 Kq11))
                    (refine wp_seq_k ?_; intro Kq13 hKq13)
                    refine wp_region_lit ?_
                    (refine wpl_v S rfl rfl rfl (sv_pure S rfl) ?_; clear S a; intro a S)
                    (refine wpl_v S rfl rfl rfl (sv_pure S rfl) ?_; clear S a; intro a S)
                    (refine wpl_v S rfl rfl rfl (sv_pure S rfl) ?_; clear S a; intro a S)
                    (refine wpl_v S rfl rfl rfl (sv_pure S rfl) ?_; clear S a; intro a S)
                    (refine wpl_v S rfl rfl rfl (sv_sliceS S rfl rfl rfl rfl (by first | omega | (simp only [List.length_append, List.length_cons, List.length_nil]; omega))) ?_; clear S a; intro a S)
                    (rw [cutT] at S)
                    (refine wpl_v S rfl rfl rfl (sv_build S rfl rfl rfl) ?_; clear S a; intro a S)
                    (refine wpl_storeO S rfl rfl rfl rfl rfl (by rfl) (by simp [Value.cells, Value.oneCell', splice]) (by rfl) ?_; clear S; intro w S)
                    (refine wpl_v S rfl rfl rfl (sv_pure S rfl) ?_; clear S a; intro a S)
                    refine wpList_nil ?_
                    (refine hKq13 _ _ ?_; try (clear hKq13 Kq13))
                    refine wp_ret ?_
                    refine fin_ret S (results2 Tryd.results37 (RV.cellO S rfl (by rfl)) (RV.tmp S rfl)) ?_
                    (first | (refine RT.ok rfl ?_; unfold numberF; simp only [← hn]; (repeat' split) <;> first | exact ⟨_, rfl, by omega⟩ | (exfalso; omega) | (exfalso; simp_all; done) | (exfalso; simp_all; omega)) | (refine RT.bad rfl (by decide) ?_; unfold numberF; simp only [← hn]; (repeat' split) <;> first | rfl | (exfalso; omega) | (exfalso; simp_all; done) | (exfalso; simp_all; omega)))
            · (intro h; clear S a; intro a S; (try simp only [decide_eq_true_eq, decide_eq_false_iff_not, beq_iff_eq, bne_iff_ne, bne_eq_false_iff_eq, beq_eq_false_iff_ne, ne_eq, Bool.not_eq_true', Bool.not_eq_false', Bool.not_eq_true, Bool.not_eq_false, Bool.not_true, Bool.not_false, Int.ofNat_lt, Int.ofNat_le, Nat.not_lt, Nat.not_le] at h))
              (refine wpl_skip S rfl rfl rfl rfl rfl ?_; clear S a; intro a S)
              (refine wpl_skip S rfl rfl rfl rfl rfl ?_; clear S a; intro a S)
              (refine wpl_skip S rfl rfl rfl rfl rfl ?_; clear S a; intro a S)
              (refine wpl_skip S rfl rfl rfl rfl rfl ?_; clear S a; intro a S)
              refine wpl_take S rfl rfl rfl ?_
              first | (refine wpl_v S rfl rfl rfl (sv_pure S rfl) ?_; clear S a; intro a S) | (refine wpl_v S rfl rfl rfl (sv_pickB S rfl rfl rfl rfl) ?_; clear S a; intro a S)
              first | (refine wpl_v S rfl rfl rfl (sv_pure S rfl) ?_; clear S a; intro a S) | (refine wpl_v S rfl rfl rfl (sv_pickB S rfl rfl rfl rfl) ?_; clear S a; intro a S)
              refine wpList_nil ?_
              (refine hKq8 _ _ ?_; try (clear hKq8 Kq8))
              refine wpc_false S rfl ?_
              refine wp_skip ?_
              (refine hKq7 _ _ ?_; try (clear hKq7 Kq7))
              (refine wp_seq_k ?_; intro Kq9 hKq9)
              (refine wp_seq_k ?_; intro Kq10 hKq10)
              refine wp_region_lit ?_
              (refine wpl_v S rfl rfl rfl (sv_pure S rfl) ?_; clear S a; intro a S)
              (refine wpl_v S rfl rfl rfl (sv_pure S rfl) ?_; clear S a; intro a S)
              (refine wpl_v S rfl rfl rfl (sv_sub S rfl rfl rfl (by first | omega | (simp only [List.length_append, List.length_cons, List.length_nil]; omega))) ?_; clear S a; intro a S)
              (refine wpl_v S rfl rfl rfl (sv_pure S rfl) ?_; clear S a; intro a S)
              refine wpList_nil ?_
              (refine hKq10 _ _ ?_; try (clear hKq10 Kq10))
              refine wpc_split S rfl (fun h => ?_) (fun h => ?_)
              · (skip; (try simp only [decide_eq_true_eq, decide_eq_false_iff_not, beq_iff_eq, bne_iff_ne, bne_eq_false_iff_eq, beq_eq_false_iff_ne, ne_eq, Bool.not_eq_true', Bool.not_eq_false', Bool.not_eq_true, Bool.not_eq_false, Bool.not_true, Bool.not_false, Int.ofNat_lt, Int.ofNat_le, Nat.not_lt, Nat.not_le] at h))
                (refine wp_seq_k ?_; intro Kq11 hKq11)
                refine wp_region_lit ?_
                (refine wpl_v S rfl rfl rfl (sv_build S rfl rfl rfl) ?_; clear S a; intro a S)
                (refine wpl_storeO S rfl rfl rfl rfl rfl (by rfl) (by simp [Value.cells, Value.oneCell', splice]) (by rfl) ?_; clear S; intro w S)
                (refine wpl_v S rfl rfl rfl (sv_pure S rfl) ?_; clear S a; intro a S)
                refine wpList_nil ?_
                (refine hKq11 _ _ ?_; try (clear hKq11 Kq11))
                refine wp_ret ?_
                refine fin_ret S (results2 Tryd.results37 (RV.cellO S rfl (by rfl)) (RV.tmp S rfl)) ?_
                (first | (refine RT.ok rfl ?_; unfold numberF; simp only [← hn]; (repeat' split) <;> first | exact ⟨_, rfl, by omega⟩ | (exfalso; omega) | (exfalso; simp_all; done) | (exfalso; simp_all; omega)) | (refine RT.bad rfl (by decide) ?_; unfold numberF; simp only [← hn]; (repeat' split) <;> first | rfl | (exfalso; omega) | (exfalso; simp_all; done) | (exfalso; simp_all; omega)))
              · (skip; (try simp only [decide_eq_true_eq, decide_eq_false_iff_not, beq_iff_eq, bne_iff_ne, bne_eq_false_iff_eq, beq_eq_false_iff_ne, ne_eq, Bool.not_eq_true', Bool.not_eq_false', Bool.not_eq_true, Bool.not_eq_false, Bool.not_true, Bool.not_false, Int.ofNat_lt, Int.ofNat_le, Nat.not_lt, Nat.not_le] at h))
                refine wp_skip ?_
                (refine hKq9 _ _ ?_; try (clear hKq9 Kq9))
                (refine wp_seq_k ?_; intro Kq11 hKq11)
                (refine wp_seq_k ?_; intro Kq12 hKq12)
                refine wp_region_lit ?_
                (refine wpl_v S rfl rfl rfl (sv_pure S rfl) ?_; clear S a; intro a S)
                (refine wpl_v S rfl rfl rfl (sv_pure S rfl) ?_; clear S a; intro a S)
                (refine wpl_v S rfl rfl rfl (sv_pure S rfl) ?_; clear S a; intro a S)
                refine wpList_nil ?_
                (refine hKq12 _ _ ?_; try (clear hKq12 Kq12))
                refine wpc_split S rfl (fun h => ?_) (fun h => ?_)
                · (skip; (try simp only [decide_eq_true_eq, decide_eq_false_iff_not, beq_iff_eq, bne_iff_ne, bne_eq_false_iff_eq, beq_eq_false_iff_ne, ne_eq, Bool.not_eq_true', Bool.not_eq_false', Bool.not_eq_true, Bool.not_eq_false, Bool.not_true, Bool.not_false, Int.ofNat_lt, Int.ofNat_le, Nat.not_lt, Nat.not_le] at h))
                  (refine wp_seq_k ?_; intro Kq13 hKq13)
                  refine wp_region_lit ?_
                  (refine wpl_v S rfl rfl rfl (sv_pure S rfl) ?_; clear S a; intro a S)
                  (refine wpl_v S rfl rfl rfl (sv_pure S rfl) ?_; clear S a; intro a S)
                  (refine wpl_v S rfl rfl rfl (sv_pure S rfl) ?_; clear S a; intro a S)
                  (refine wpl_v S rfl rfl rfl (sv_pure S rfl) ?_; clear S a; intro a S)
                  (refine wpl_v S rfl rfl rfl (sv_sliceS S rfl rfl rfl rfl (by first | omega | (simp only [List.length_append, List.length_cons, List.length_nil]; omega))) ?_; clear S a; intro a S)
                  (rw [cutT] at S)
                  (refine wpl_v S rfl rfl rfl (sv_build S rfl rfl rfl) ?_; clear S a; intro a S)
                  (refine wpl_storeO S rfl rfl rfl rfl rfl (by rfl) (by simp [Value.cells, Value.oneCell', splice]) (by rfl) ?_; clear S; intro w S)
                  (refine wpl_v S rfl rfl rfl (sv_pure S rfl) ?_; clear S a; intro a S)
                  refine wpList_nil ?_
                  (refine hKq13 _ _ ?_; try (clear hKq13 Kq13))
                  refine wp_ret ?_
                  refine fin_ret S (results2 Tryd.results37 (RV.cellO S rfl (by rfl)) (RV.tmp S rfl)) ?_
                  (first | (refine RT.ok rfl ?_; unfold numberF; simp only [← hn]; (repeat' split) <;> first | exact ⟨_, rfl, by omega⟩ | (exfalso; omega) | (exfalso; simp_all; done) | (exfalso; simp_all; omega)) | (refine RT.bad rfl (by decide) ?_; unfold numberF; simp only [← hn]; (repeat' split) <;> first | rfl | (exfalso; omega) | (exfalso; simp_all; done) | (exfalso; simp_all; omega)))
                · (skip; (try simp only [decide_eq_true_eq, decide_eq_false_iff_not, beq_iff_eq, bne_iff_ne, bne_eq_false_iff_eq, beq_eq_false_iff_ne, ne_eq, Bool.not_eq_true', Bool.not_eq_false', Bool.not_eq_true, Bool.not_eq_false, Bool.not_true, Bool.not_false, Int.ofNat_lt, Int.ofNat_le, Nat.not_lt, Nat.not_le] at h))
                  refine wp_skip ?_
                  (refine hKq11 _ _ ?_; try (clear hKq11 Kq11))
                  (refine wp_seq_k ?_; intro Kq13 hKq13)
                  refine wp_region_lit ?_
                  (refine wpl_v S rfl rfl rfl (sv_pure S rfl) ?_; clear S a; intro a S)
                  (refine wpl_v S rfl rfl rfl (sv_pure S rfl) ?_; clear S a; intro a S)
                  (refine wpl_v S rfl rfl rfl (sv_pure S rfl) ?_; clear S a; intro a S)
                  (refine wpl_v S rfl rfl rfl (sv_pure S rfl) ?_; clear S a; intro a S)
                  (refine wpl_v S rfl rfl rfl (sv_sliceS S rfl rfl rfl rfl (by first | omega | (simp only [List.length_append, List.length_cons, List.length_nil]; omega))) ?_; clear S a; intro a S)
                  (rw [cutT] at S)
                  (refine wpl_v S rfl rfl rfl (sv_build S rfl rfl rfl) ?_; clear S a; intro a S)
                  (refine wpl_storeO S rfl rfl rfl rfl rfl (by rfl) (by simp [Value.cells, Value.oneCell', splice]) (by rfl) ?_; clear S; intro w S)
                  (refine wpl_v S rfl rfl rfl (sv_pure S rfl) ?_; clear S a; intro a S)
                  refine wpList_nil ?_
                  (refine hKq13 _ _ ?_; try (clear hKq13 Kq13))
                  refine wp_ret ?_
                  refine fin_ret S (results2 Tryd.results37 (RV.cellO S rfl (by rfl)) (RV.tmp S rfl)) ?_
                  (first | (refine RT.ok rfl ?_; unfold numberF; simp only [← hn]; (repeat' split) <;> first | exact ⟨_, rfl, by omega⟩ | (exfalso; omega) | (exfalso; simp_all; done) | (exfalso; simp_all; omega)) | (refine RT.bad rfl (by decide) ?_; unfold numberF; simp only [← hn]; (repeat' split) <;> first | rfl | (exfalso; omega) | (exfalso; simp_all; done) | (exfalso; simp_all; omega)))
          · (intro h; clear S a; intro a S; (try simp only [decide_eq_true_eq, decide_eq_false_iff_not, beq_iff_eq, bne_iff_ne, bne_eq_false_iff_eq, beq_eq_false_iff_ne, ne_eq, Bool.not_eq_true', Bool.not_eq_false', Bool.not_eq_true, Bool.not_eq_false, Bool.not_true, Bool.not_false, Int.ofNat_lt, Int.ofNat_le, Nat.not_lt, Nat.not_le] at h))
            (refine wpl_skip S rfl rfl rfl rfl rfl ?_; clear S a; intro a S)
            (refine wpl_skip S rfl rfl rfl rfl rfl ?_; clear S a; intro a S)
            (refine wpl_skip S rfl rfl rfl rfl rfl ?_; clear S a; intro a S)
            (refine wpl_skipU S rfl rfl rfl rfl rfl ?_; clear S a; intro a S)
            (refine wpl_skipU S rfl rfl rfl rfl rfl ?_; clear S a; intro a S)
            (refine wpl_skipU S rfl rfl rfl rfl rfl ?_; clear S a; intro a S)
            (refine wpl_skipU S rfl rfl rfl rfl rfl ?_; clear S a; intro a S)
            (refine wpl_skipU S rfl rfl rfl rfl rfl ?_; clear S a; intro a S)
            (refine wpl_skip S rfl rfl rfl rfl rfl ?_; clear S a; intro a S)
            first | (refine wpl_v S rfl rfl rfl (sv_pure S rfl) ?_; clear S a; intro a S) | (refine wpl_v S rfl rfl rfl (sv_pickB S rfl rfl rfl rfl) ?_; clear S a; intro a S)
            refine wpList_nil ?_
            (refine hKq8 _ _ ?_; try (clear hKq8 Kq8))
            refine wpc_true S rfl ?_
            (refine wp_seq_k ?_; intro Kq9 hKq9)
            refine wp_region_lit ?_
            (refine wpl_v S rfl rfl rfl (sv_build S rfl rfl rfl) ?_; clear S a; intro a S)
            (refine wpl_storeO S rfl rfl rfl rfl rfl (by rfl) (by simp [Value.cells, Value.oneCell', splice]) (by rfl) ?_; clear S; intro w S)
            (refine wpl_v S rfl rfl rfl (sv_pure S rfl) ?_; clear S a; intro a S)
            refine wpList_nil ?_
            (refine hKq9 _ _ ?_; try (clear hKq9 Kq9))
            refine wp_ret ?_
            refine fin_ret S (results2 Tryd.results37 (RV.cellO S rfl (by rfl)) (RV.tmp S rfl)) ?_
            (first | (refine RT.ok rfl ?_; unfold numberF; simp only [← hn]; (repeat' split) <;> first | exact ⟨_, rfl, by omega⟩ | (exfalso; omega) | (exfalso; simp_all; done) | (exfalso; simp_all; omega)) | (refine RT.bad rfl (by decide) ?_; unfold numberF; simp only [← hn]; (repeat' split) <;> first | rfl | (exfalso; omega) | (exfalso; simp_all; done) | (exfalso; simp_all; omega)))
        · (intro h; clear S a; intro a S; (try simp only [decide_eq_true_eq, decide_eq_false_iff_not, beq_iff_eq, bne_iff_ne, bne_eq_false_iff_eq, beq_eq_false_iff_ne, ne_eq, Bool.not_eq_true', Bool.not_eq_false', Bool.not_eq_true, Bool.not_eq_false, Bool.not_true, Bool.not_false, Int.ofNat_lt, Int.ofNat_le, Nat.not_lt, Nat.not_le] at h))
          (refine wpl_skip S rfl rfl rfl rfl rfl ?_; clear S a; intro a S)
          (refine wpl_skip S rfl rfl rfl rfl rfl ?_; clear S a; intro a S)
          (refine wpl_skip S rfl rfl rfl rfl rfl ?_; clear S a; intro a S)
          first | (refine wpl_v S rfl rfl rfl (sv_pure S rfl) ?_; clear S a; intro a S) | (refine wpl_v S rfl rfl rfl (sv_pickB S rfl rfl rfl rfl) ?_; clear S a; intro a S)
          (refine wpl_v S rfl rfl rfl (sv_pure S rfl) ?_; clear S a; intro a S)
          refine wpl_take S rfl rfl rfl ?_
          (refine wpl_v S rfl rfl rfl (sv_pure S rfl) ?_; clear S a; intro a S)
          refine wpl_take S rfl rfl rfl ?_
          (refine wpl_v S rfl rfl rfl (sv_pure S rfl) ?_; clear S a; intro a S)
          refine wpl_take S rfl rfl rfl ?_
          (refine wpl_v S rfl rfl rfl (sv_pure S rfl) ?_; clear S a; intro a S)
          refine wpl_take S rfl rfl rfl ?_
          (refine wpl_v S rfl rfl rfl (sv_pure S rfl) ?_; clear S a; intro a S)
          refine wpl_guard S rfl rfl rfl rfl rfl ?_ ?_
          · (intro h S'; clear S; have S := S'; clear S'; (try simp only [decide_eq_true_eq, decide_eq_false_iff_not, beq_iff_eq, bne_iff_ne, bne_eq_false_iff_eq, beq_eq_false_iff_ne, ne_eq, Bool.not_eq_true', Bool.not_eq_false', Bool.not_eq_true, Bool.not_eq_false, Bool.not_true, Bool.not_false, Int.ofNat_lt, Int.ofNat_le, Nat.not_lt, Nat.not_le] at h))
            (refine wpl_v S rfl rfl rfl (sv_pure S rfl) ?_; clear S a; intro a S)
            refine wpl_take S rfl rfl rfl ?_
            (refine wpl_v S rfl rfl rfl (sv_pure S rfl) ?_; clear S a; intro a S)
            refine wpl_take S rfl rfl rfl ?_
            (refine wpl_v S rfl rfl rfl (sv_pure S rfl) ?_; clear S a; intro a S)
            refine wpl_take S rfl rfl rfl ?_
            (refine wpl_v S rfl rfl rfl (sv_sliceS S rfl rfl rfl rfl (by first | omega | (simp only [List.length_append, List.length_cons, List.length_nil]; omega))) ?_; clear S a; intro a S)
            (rw [cutT2] at S)
            refine wpl_take S rfl rfl rfl ?_
            (refine wpl_v S rfl rfl rfl (sv_pure S rfl) ?_; clear S a; intro a S)
            refine wpl_take S rfl rfl rfl ?_
            first | (refine wpl_v S rfl rfl rfl (sv_pure S rfl) ?_; clear S a; intro a S) | (refine wpl_v S rfl rfl rfl (sv_pickB S rfl rfl rfl rfl) ?_; clear S a; intro a S)
            first | (refine wpl_v S rfl rfl rfl (sv_pure S rfl) ?_; clear S a; intro a S) | (refine wpl_v S rfl rfl rfl (sv_pickB S rfl rfl rfl rfl) ?_; clear S a; intro a S)
            refine wpList_nil ?_
            (refine hKq8 _ _ ?_; try (clear hKq8 Kq8))
            refine wpc_split S rfl (fun h => ?_) (fun h => ?_)
            · (skip; (try simp only [decide_eq_true_eq, decide_eq_false_iff_not, beq_iff_eq, bne_iff_ne, bne_eq_false_iff_eq, beq_eq_false_iff_ne, ne_eq, Bool.not_eq_true', Bool.not_eq_false', Bool.not_eq_true, Bool.not_eq_false, Bool.not_true, Bool.not_false, Int.ofNat_lt, Int.ofNat_le, Nat.not_lt, Nat.not_le] at h))
              (refine wp_seq_k ?_; intro Kq9 hKq9)
              refine wp_region_lit ?_
              (refine wpl_v S rfl rfl rfl (sv_build S rfl rfl rfl) ?_; clear S a; intro a S)
              (refine wpl_storeO S rfl rfl rfl rfl rfl (by rfl) (by simp [Value.cells, Value.oneCell', splice]) (by rfl) ?_; clear S; intro w S)
              (refine wpl_v S rfl rfl rfl (sv_pure S rfl) ?_; clear S a; intro a S)
              refine wpList_nil ?_
              (refine hKq9 _ _ ?_; try (clear hKq9 Kq9))
              refine wp_ret ?_
              refine fin_ret S (results2 Tryd.results37 (RV.cellO S rfl (by rfl)) (RV.tmp S rfl)) ?_
              (first | (refine RT.ok rfl ?_; unfold numberF; simp only [← hn]; (repeat' split) <;> first | exact ⟨_, rfl, by omega⟩ | (exfalso; omega) | (exfalso; simp_all; done) | (exfalso; simp_all; omega)) | (refine RT.bad rfl (by decide) ?_; unfold numberF; simp only [← hn]; (repeat' split) <;> first | rfl | (exfalso; omega) | (exfalso; simp_all; done) | (exfalso; simp_all; omega)))
            · (skip; (try simp only [decide_eq_true_eq, decide_eq_false_iff_not, beq_iff_eq, bne_iff_ne, bne_eq_false_iff_eq, beq_eq_false_iff_ne, ne_eq, Bool.not_eq_true', Bool.not_eq_false', Bool.not_eq_true, Bool.not_eq_false, Bool.not_true, Bool.not_false, Int.ofNat_lt, Int.ofNat_le, Nat.not_lt, Nat.not_le] at h))
              refine wp_skip ?_
              (refine hKq7 _ _ ?_; try (clear hKq7 Kq7))
              (refine wp_seq_k ?_; intro Kq9 hKq9)
              (refine wp_seq_k ?_; intro Kq10 hKq10)
              refine wp_region_lit ?_
              (refine wpl_v S rfl rfl rfl (sv_pure S rfl) ?_; clear S a; intro a S)
              (refine wpl_v S rfl rfl rfl (sv_pure S rfl) ?_; clear S a; intro a S)
              (refine wpl_v S rfl rfl rfl (sv_sub S rfl rfl rfl (by first | omega | (simp only [List.length_append, List.length_cons, List.length_nil]; omega))) ?_; clear S a; intro a S)
              (refine wpl_v S rfl rfl rfl (sv_pure S rfl) ?_; clear S a; intro a S)
              refine wpList_nil ?_
              (refine hKq10 _ _ ?_; try (clear hKq10 Kq10))
              refine wpc_split S rfl (fun h => ?_) (fun h => ?_)
              · (skip; (try simp only [decide_eq_true_eq, decide_eq_false_iff_not, beq_iff_eq, bne_iff_ne, bne_eq_false_iff_eq, beq_eq_false_iff_ne, ne_eq, Bool.not_eq_true', Bool.not_eq_false', Bool.not_eq_true, Bool.not_eq_false, Bool.not_true, Bool.not_false, Int.ofNat_lt, Int.ofNat_le, Nat.not_lt, Nat.not_le] at h))
                (refine wp_seq_k ?_; intro Kq11 hKq11)
                refine wp_region_lit ?_
                (refine wpl_v S rfl rfl rfl (sv_build S rfl rfl rfl) ?_; clear S a; intro a S)
                (refine wpl_storeO S rfl rfl rfl rfl rfl (by rfl) (by simp [Value.cells, Value.oneCell', splice]) (by rfl) ?_; clear S; intro w S)
                (refine wpl_v S rfl rfl rfl (sv_pure S rfl) ?_; clear S a; intro a S)
                refine wpList_nil ?_
                (refine hKq11 _ _ ?_; try (clear hKq11 Kq11))
                refine wp_ret ?_
                refine fin_ret S (results2 Tryd.results37 (RV.cellO S rfl (by rfl)) (RV.tmp S rfl)) ?_
                (first | (refine RT.ok rfl ?_; unfold numberF; simp only [← hn]; (repeat' split) <;> first | exact ⟨_, rfl, by omega⟩ | (exfalso; omega) | (exfalso; simp_all; done) | (exfalso; simp_all; omega)) | (refine RT.bad rfl (by decide) ?_; unfold numberF; simp only [← hn]; (repeat' split) <;> first | rfl | (exfalso; omega) | (exfalso; simp_all; done) | (exfalso; simp_all; omega)))
              · (skip; (try simp only [decide_eq_true_eq, decide_eq_false_iff_not, beq_iff_eq, bne_iff_ne, bne_eq_false_iff_eq, beq_eq_false_iff_ne, ne_eq, Bool.not_eq_true', Bool.not_eq_false', Bool.not_eq_true, Bool.not_eq_false, Bool.not_true, Bool.not_false, Int.ofNat_lt, Int.ofNat_le, Nat.not_lt, Nat.not_le] at h))
                refine wp_skip ?_
                (refine hKq9 _ _ ?_; try (clear hKq9 Kq9))
                (refine wp_seq_k ?_; intro Kq11 hKq11)
                (refine wp_seq_k ?_; intro Kq12 hKq12)
                refine wp_region_lit ?_
                (refine wpl_v S rfl rfl rfl (sv_pure S rfl) ?_; clear S a; intro a S)
                (refine wpl_v S rfl rfl rfl (sv_pure S rfl) ?_; clear S a; intro a S)
                (refine wpl_v S rfl rfl rfl (sv_pure S rfl) ?_; clear S a; intro a S)
                refine wpList_nil ?_
                (refine hKq12 _ _ ?_; try (clear hKq12 Kq12))
                refine wpc_split S rfl (fun h => ?_) (fun h => ?_)
                · (skip; (try simp only [decide_eq_true_eq, decide_eq_false_iff_not, beq_iff_eq, bne_iff_ne, bne_eq_false_iff_eq, beq_eq_false_iff_ne, ne_eq, Bool.not_eq_true', Bool.not_eq_false', Bool.not_eq_true, Bool.not_eq_false, Bool.not_true, Bool.not_false, Int.ofNat_lt, Int.ofNat_le, Nat.not_lt, Nat.not_le] at h))
                  (refine wp_seq_k ?_; intro Kq13 hKq13)
                  refine wp_region_lit ?_
                  (refine wpl_v S rfl rfl rfl (sv_pure S rfl) ?_; clear S a; intro a S)
                  (refine wpl_v S rfl rfl rfl (sv_pure S rfl) ?_; clear S a; intro a S)
                  (refine wpl_v S rfl rfl rfl (sv_pure S rfl) ?_; clear S a; intro a S)
                  (refine wpl_v S rfl rfl rfl (sv_pure S rfl) ?_; clear S a; intro a S)
                  (refine wpl_v S rfl rfl rfl (sv_sliceS S rfl rfl rfl rfl (by first | omega | (simp only [List.length_append, List.length_cons, List.length_nil]; omega))) ?_; clear S a; intro a S)
                  (rw [cutT] at S)
                  (refine wpl_v S rfl rfl rfl (sv_build S rfl rfl rfl) ?_; clear S a; intro a S)
                  (refine wpl_storeO S rfl rfl rfl rfl rfl (by rfl) (by simp [Value.cells, Value.oneCell', splice]) (by rfl) ?_; clear S; intro w S)
                  (refine wpl_v S rfl rfl rfl (sv_pure S rfl) ?_; clear S a; intro a S)
                  refine wpList_nil ?_
                  (refine hKq13 _ _ ?_; try (clear hKq13 Kq13))
                  refine wp_ret ?_
                  refine fin_ret S (results2 Tryd.results37 (RV.cellO S rfl (by rfl)) (RV.tmp S rfl)) ?_
                  (first | (refine RT.ok rfl ?_; unfold numberF; simp only [← hn]; (repeat' split) <;> first | exact ⟨_, rfl, by omega⟩ | (exfalso; omega) | (exfalso; simp_all; done) | (exfalso; simp_all; omega)) | (refine RT.bad rfl (by decide) ?_; unfold numberF; simp only [← hn]; (repeat' split) <;> first | rfl | (exfalso; omega) | (exfalso; simp_all; done) | (exfalso; simp_all; omega)))
                · (skip; (try simp only [decide_eq_true_eq, decide_eq_false_iff_not, beq_iff_eq, bne_iff_ne, bne_eq_false_iff_eq, beq_eq_false_iff_ne, ne_eq, Bool.not_eq_true', Bool.not_eq_false', Bool.not_eq_true, Bool.not_eq_false, Bool.not_true, Bool.not_false, Int.ofNat_lt, Int.ofNat_le, Nat.not_lt, Nat.not_le] at h))
                  refine wp_skip ?_
                  (refine hKq11 _ _ ?_; try (clear hKq11 Kq11))
                  (refine wp_seq_k ?_; intro Kq13 hKq13)
                  refine wp_region_lit ?_
                  (refine wpl_v S rfl rfl rfl (sv_pure S rfl) ?_; clear S a; intro a S)
                  (refine wpl_v S rfl rfl rfl (sv_pure S rfl) ?_; clear S a; intro a S)
                  (refine wpl_v S rfl rfl rfl (sv_pure S rfl) ?_; clear S a; intro a S)
                  (refine wpl_v S rfl rfl rfl (sv_pure S rfl) ?_; clear S a; intro a S)
                  (refine wpl_v S rfl rfl rfl (sv_sliceS S rfl rfl rfl rfl (by first | omega | (simp only [List.length_append, List.length_cons, List.length_nil]; omega))) ?_; clear S a; intro a S)
                  (rw [cutT] at S)
                  (refine wpl_v S rfl rfl rfl (sv_build S rfl rfl rfl) ?_; clear S a; intro a S)
                  (refine wpl_storeO S rfl rfl rfl rfl rfl (by rfl) (by simp [Value.cells, Value.oneCell', splice]) (by rfl) ?_; clear S; intro w S)
                  (refine wpl_v S rfl rfl rfl (sv_pure S rfl) ?_; clear S a; intro a S)
                  refine wpList_nil ?_
                  (refine hKq13 _ _ ?_; try (clear hKq13 Kq13))
                  refine wp_ret ?_
                  refine fin_ret S (results2 Tryd.results37 (RV.cellO S rfl (by rfl)) (RV.tmp S rfl)) ?_
                  (first | (refine RT.ok rfl ?_; unfold numberF; simp only [← hn]; (repeat' split) <;> first | exact ⟨_, rfl, by omega⟩ | (exfalso; omega) | (exfalso; simp_all; done) | (exfalso; simp_all; omega)) | (refine RT.bad rfl (by decide) ?_; unfold numberF; simp only [← hn]; (repeat' split) <;> first | rfl | (exfalso; omega) | (exfalso; simp_all; done) | (exfalso; simp_all; omega)))
          · (intro h; clear S a; intro a S; (try simp only [decide_eq_true_eq, decide_eq_false_iff_not, beq_iff_eq, bne_iff_ne, bne_eq_false_iff_eq, beq_eq_false_iff_ne, ne_eq, Bool.not_eq_true', Bool.not_eq_false', Bool.not_eq_true, Bool.not_eq_false, Bool.not_true, Bool.not_false, Int.ofNat_lt, Int.ofNat_le, Nat.not_lt, Nat.not_le] at h))
            (refine wpl_skip S rfl rfl rfl rfl rfl ?_; clear S a; intro a S)
            (refine wpl_skip S rfl rfl rfl rfl rfl ?_; clear S a; intro a S)
            (refine wpl_skip S rfl rfl rfl rfl rfl ?_; clear S a; intro a S)
            (refine wpl_skip S rfl rfl rfl rfl rfl ?_; clear S a; intro a S)
            refine wpl_take S rfl rfl rfl ?_
            first | (refine wpl_v S rfl rfl rfl (sv_pure S rfl) ?_; clear S a; intro a S) | (refine wpl_v S rfl rfl rfl (sv_pickB S rfl rfl rfl rfl) ?_; clear S a; intro a S)
            first | (refine wpl_v S rfl rfl rfl (sv_pure S rfl) ?_; clear S a; intro a S) | (refine wpl_v S rfl rfl rfl (sv_pickB S rfl rfl rfl rfl) ?_; clear S a; intro a S)
            refine wpList_nil ?_
            (refine hKq8 _ _ ?_; try (clear hKq8 Kq8))
            refine wpc_false S rfl ?_
            refine wp_skip ?_
            (refine hKq7 _ _ ?_; try (clear hKq7 Kq7))
            (refine wp_seq_k ?_; intro Kq9 hKq9)
            (refine wp_seq_k ?_; intro Kq10 hKq10)
            refine wp_region_lit ?_
            (refine wpl_v S rfl rfl rfl (sv_pure S rfl) ?_; clear S a; intro a S)
            (refine wpl_v S rfl rfl rfl (sv_pure S rfl) ?_; clear S a; intro a S)
            (refine wpl_v S rfl rfl rfl (sv_sub S rfl rfl rfl (by first | omega | (simp only [List.length_append, List.length_cons, List.length_nil]; omega))) ?_; clear S a; intro a S)
            (refine wpl_v S rfl rfl rfl (sv_pure S rfl) ?_; clear S a; intro a S)
            refine wpList_nil ?_
            (refine hKq10 _ _ ?_; try (clear hKq10 Kq10))
            refine wpc_split S rfl (fun h => ?_) (fun h => ?_)
            · (skip; (try simp only [decide_eq_true_eq, decide_eq_false_iff_not, beq_iff_eq, bne_iff_ne, bne_eq_false_iff_eq, beq_eq_false_iff_ne, ne_eq, Bool.not_eq_true', Bool.not_eq_false', Bool.not_eq_true, Bool.not_eq_false, Bool.not_true, Bool.not_false, Int.ofNat_lt, Int.ofNat_le, Nat.not_lt, Nat.not_le] at h))
              (refine wp_seq_k ?_; intro Kq11 hKq11)
              refine wp_region_lit ?_
              (refine wpl_v S rfl rfl rfl (sv_build S rfl rfl rfl) ?_; clear S a; intro a S)
              (refine wpl_storeO S rfl rfl rfl rfl rfl (by rfl) (by simp [Value.cells, Value.oneCell', splice]) (by rfl) ?_; clear S; intro w S)
              (refine wpl_v S rfl rfl rfl (sv_pure S rfl) ?_; clear S a; intro a S)
              refine wpList_nil ?_
              (refine hKq11 _ _ ?_; try (clear hKq11 Kq11))
              refine wp_ret ?_
              refine fin_ret S (results2 Tryd.results37 (RV.cellO S rfl (by rfl)) (RV.tmp S rfl)) ?_
              (first | (refine RT.ok rfl ?_; unfold numberF; simp only [← hn]; (repeat' split) <;> first | exact ⟨_, rfl, by omega⟩ | (exfalso; omega) | (exfalso; simp_all; done) | (exfalso; simp_all; omega)) | (refine RT.bad rfl (by decide) ?_; unfold numberF; simp only [← hn]; (repeat' split) <;> first | rfl | (exfalso; omega) | (exfalso; simp_all; done) | (exfalso; simp_all; omega)))
            · (skip; (try simp only [decide_eq_true_eq, decide_eq_false_iff_not, beq_iff_eq, bne_iff_ne, bne_eq_false_iff_eq, beq_eq_false_iff_ne, ne_eq, Bool.not_eq_true', Bool.not_eq_false', Bool.not_eq_true, Bool.not_eq_false, Bool.not_true, Bool.not_false, Int.ofNat_lt, Int.ofNat_le, Nat.not_lt, Nat.not_le] at h))
              refine wp_skip ?_
              (refine hKq9 _ _ ?_; try (clear hKq9 Kq9))
              (refine wp_seq_k ?_; intro Kq11 hKq11)
              (refine wp_seq_k ?_; intro Kq12 hKq12)
              refine wp_region_lit ?_
              (refine wpl_v S rfl rfl rfl (sv_pure S rfl) ?_; clear S a; intro a S)
              (refine wpl_v S rfl rfl rfl (sv_pure S rfl) ?_; clear S a; intro a S)
              (refine wpl_v S rfl rfl rfl (sv_pure S rfl) ?_; clear S a; intro a S)
              refine wpList_nil ?_
              (refine hKq12 _ _ ?_; try (clear hKq12 Kq12))
              refine wpc_split S rfl (fun h => ?_) (fun h => ?_)
              · (skip; (try simp only [decide_eq_true_eq, decide_eq_false_iff_not, beq_iff_eq, bne_iff_ne, bne_eq_false_iff_eq, beq_eq_false_iff_ne, ne_eq, Bool.not_eq_true', Bool.not_eq_false', Bool.not_eq_true, Bool.not_eq_false, Bool.not_true, Bool.not_false, Int.ofNat_lt, Int.ofNat_le, Nat.not_lt, Nat.not_le] at h))
                (refine wp_seq_k ?_; intro Kq13 hKq13)
                refine wp_region_lit ?_
                (refine wpl_v S rfl rfl rfl (sv_pure S rfl) ?_; clear S a; intro a S)
                (refine wpl_v S rfl rfl rfl (sv_pure S rfl) ?_; clear S a; intro a S)
                (refine wpl_v S rfl rfl rfl (sv_pure S rfl) ?_; clear S a; intro a S)
                (refine wpl_v S rfl rfl rfl (sv_pure S rfl) ?_; clear S a; intro a S)
                (refine wpl_v S rfl rfl rfl (sv_sliceS S rfl rfl rfl rfl (by first | omega | (simp only [List.length_append, List.length_cons, List.length_nil]; omega))) ?_; clear S a; intro a S)
                (rw [cutT] at S)
                (refine wpl_v S rfl rfl rfl (sv_build S rfl rfl rfl) ?_; clear S a; intro a S)
                (refine wpl_storeO S rfl rfl rfl rfl rfl (by rfl) (by simp [Value.cells, Value.oneCell', splice]) (by rfl) ?_; clear S; intro w S)
                (refine wpl_v S rfl rfl rfl (sv_pure S rfl) ?_; clear S a; intro a S)
                refine wpList_nil ?_
                (refine hKq13 _ _ ?_; try (clear hKq13 Kq13))
                refine wp_ret ?_
                refine fin_ret S (results2 Tryd.results37 (RV.cellO S rfl (by rfl)) (RV.tmp S rfl)) ?_
                (first | (refine RT.ok rfl ?_; unfold numberF; simp only [← hn]; (repeat' split) <;> first | exact ⟨_, rfl, by omega⟩ | (exfalso; omega) | (exfalso; simp_all; done) | (exfalso; simp_all; omega)) | (refine RT.bad rfl (by decide) ?_; unfold numberF; simp only [← hn]; (repeat' split) <;> first | rfl | (exfalso; omega) | (exfalso; simp_all; done) | (exfalso; simp_all; omega)))
              · (skip; (try simp only [decide_eq_true_eq, decide_eq_false_iff_not, beq_iff_eq, bne_iff_ne, bne_eq_false_iff_eq, beq_eq_false_iff_ne, ne_eq, Bool.not_eq_true', Bool.not_eq_false', Bool.not_eq_true, Bool.not_eq_false, Bool.not_true, Bool.not_false, Int.ofNat_lt, Int.ofNat_le, Nat.not_lt, Nat.not_le] at h))
                refine wp_skip ?_
                (refine hKq11 _ _ ?_; try (clear hKq11 Kq11))
                (refine wp_seq_k ?_; intro Kq13 hKq13)
                refine wp_region_lit ?_
                (refine wpl_v S rfl rfl rfl (sv_pure S rfl) ?_; clear S a; intro a S)
                (refine wpl_v S rfl rfl rfl (sv_pure S rfl) ?_; clear S a; intro a S)
                (refine wpl_v S rfl rfl rfl (sv_pure S rfl) ?_; clear S a; intro a S)
                (refine wpl_v S rfl rfl rfl (sv_pure S rfl) ?_; clear S a; intro a S)
                (refine wpl_v S rfl rfl rfl (sv_sliceS S rfl rfl rfl rfl (by first | omega | (simp only [List.length_append, List.length_cons, List.length_nil]; omega))) ?_; clear S a; intro a S)
                (rw [cutT] at S)
                (refine wpl_v S rfl rfl rfl (sv_build S rfl rfl rfl) ?_; clear S a; intro a S)
                (refine wpl_storeO S rfl rfl rfl rfl rfl (by rfl) (by simp [Value.cells, Value.oneCell', splice]) (by rfl) ?_; clear S; intro w S)
                (refine wpl_v S rfl rfl rfl (sv_pure S rfl) ?_; clear S a; intro a S)
                refine wpList_nil ?_
                (refine hKq13 _ _ ?_; try (clear hKq13 Kq13))
                refine wp_ret ?_
                refine fin_ret S (results2 Tryd.results37 (RV.cellO S rfl (by rfl)) (RV.tmp S rfl)) ?_
                (first | (refine RT.ok rfl ?_; unfold numberF; simp only [← hn]; (repeat' split) <;> first | exact ⟨_, rfl, by omega⟩ | (exfalso; omega) | (exfalso; simp_all; done) | (exfalso; simp_all; omega)) | (refine RT.bad rfl (by decide) ?_; unfold numberF; simp only [← hn]; (repeat' split) <;> first | rfl | (exfalso; omega) | (exfalso; simp_all; done) | (exfalso; simp_all; omega)))
    · (intro h; clear S a; intro a S; (try simp only [decide_eq_true_eq, decide_eq_false_iff_not, beq_iff_eq, bne_iff_ne, bne_eq_false_iff_eq, beq_eq_false_iff_ne, ne_eq, Bool.not_eq_true', Bool.not_eq_false', Bool.not_eq_true, Bool.not_eq_false, Bool.not_true, Bool.not_false, Int.ofNat_lt, Int.ofNat_le, Nat.not_lt, Nat.not_le] at h))
      (refine wpl_skip S rfl rfl rfl rfl rfl ?_; clear S a; intro a S)
      (refine wpl_skip S rfl rfl rfl rfl rfl ?_; clear S a; intro a S)
      (refine wpl_skip S rfl rfl rfl rfl rfl ?_; clear S a; intro a S)
      first | (refine wpl_v S rfl rfl rfl (sv_pure S rfl) ?_; clear S a; intro a S) | (refine wpl_v S rfl rfl rfl (sv_pickB S rfl rfl rfl rfl) ?_; clear S a; intro a S)
      refine wpList_nil ?_
      (refine hKq5 _ _ ?_; try (clear hKq5 Kq5))
      refine wpc_false S rfl ?_
      refine wp_exit ?_
      (refine hKq3 _ _ ?_; try (clear hKq3 Kq3))
      (refine wp_seq_k ?_; intro Kq6 hKq6)
      (obtain ⟨n, hn⟩ : ∃ n, n = run digit (s.drop i) := ⟨_, rfl⟩; have hkn : k = n := (by rw [hn]; exact (run_eq (p := digit) (r := s.drop i) (i := k) (by omega) hall (by first | (left; omega) | (right; rw [← hg]; assumption))).symm); subst hkn; clear hall)
      refine wp_region_lit ?_
      (refine wpl_v S rfl rfl rfl (sv_pure S rfl) ?_; clear S a; intro a S)
      (refine wpl_v S rfl rfl rfl (sv_pure S rfl) ?_; clear S a; intro a S)
      (refine wpl_call0 S rfl rfl rfl rfl rfl rfl (endCt s i F (by omega) (by omega)) rfl ?_; clear S a; intro v a w hv S; subst hv)
      (refine wpl_v S rfl rfl rfl (sv_pure S rfl) ?_; clear S a; intro a S)
      refine wpList_nil ?_
      (refine hKq6 _ _ ?_; try (clear hKq6 Kq6))
      (refine wp_seq_k ?_; intro Kq7 hKq7)
      (refine wp_seq_k ?_; intro Kq8 hKq8)
      refine wp_region_lit ?_
      (refine wpl_v S rfl rfl rfl (sv_pure S rfl) ?_; clear S a; intro a S)
      (refine wpl_v S rfl rfl rfl (sv_pure S rfl) ?_; clear S a; intro a S)
      (refine wpl_v S rfl rfl rfl (sv_sub S rfl rfl rfl (by first | omega | (simp only [List.length_append, List.length_cons, List.length_nil]; omega))) ?_; clear S a; intro a S)
      (refine wpl_v S rfl rfl rfl (sv_pure S rfl) ?_; clear S a; intro a S)
      (refine wpl_v S rfl rfl rfl (sv_pure S rfl) ?_; clear S a; intro a S)
      refine wpl_guard S rfl rfl rfl rfl rfl ?_ ?_
      · (intro h S'; clear S; have S := S'; clear S'; (try simp only [decide_eq_true_eq, decide_eq_false_iff_not, beq_iff_eq, bne_iff_ne, bne_eq_false_iff_eq, beq_eq_false_iff_ne, ne_eq, Bool.not_eq_true', Bool.not_eq_false', Bool.not_eq_true, Bool.not_eq_false, Bool.not_true, Bool.not_false, Int.ofNat_lt, Int.ofNat_le, Nat.not_lt, Nat.not_le] at h))
        (refine wpl_v S rfl rfl rfl (sv_pure S rfl) ?_; clear S a; intro a S)
        refine wpl_take S rfl rfl rfl ?_
        (refine wpl_v S rfl rfl rfl (sv_pure S rfl) ?_; clear S a; intro a S)
        refine wpl_take S rfl rfl rfl ?_
        first | (refine wpl_v S rfl rfl rfl (sv_indexSN S rfl rfl rfl (by first | omega | (simp only [List.length_append, List.length_cons, List.length_nil]; omega))) ?_; clear S a; intro a S) | (refine wpl_v S rfl rfl rfl (sv_indexS S rfl rfl rfl (by first | omega | (simp only [List.length_append, List.length_cons, List.length_nil]; omega))) ?_; clear S a; intro a S)
        (rw [hg0] at S)
        refine wpl_take S rfl rfl rfl ?_
        (refine wpl_v S rfl rfl rfl (sv_pure S rfl) ?_; clear S a; intro a S)
        first | (refine wpl_v S rfl rfl rfl (sv_pure S rfl) ?_; clear S a; intro a S) | (refine wpl_v S rfl rfl rfl (sv_pickB S rfl rfl rfl rfl) ?_; clear S a; intro a S)
        (refine wpl_v S rfl rfl rfl (sv_pure S rfl) ?_; clear S a; intro a S)
        refine wpl_guard S rfl rfl rfl rfl rfl ?_ ?_
        · (intro h S'; clear S; have S := S'; clear S'; (try simp only [decide_eq_true_eq, decide_eq_false_iff_not, beq_iff_eq, bne_iff_ne, bne_eq_false_iff_eq, beq_eq_false_iff_ne, ne_eq, Bool.not_eq_true', Bool.not_eq_false', Bool.not_eq_true, Bool.not_eq_false, Bool.not_true, Bool.not_false, Int.ofNat_lt, Int.ofNat_le, Nat.not_lt, Nat.not_le] at h))
          (refine wpl_v S rfl rfl rfl (sv_pure S rfl) ?_; clear S a; intro a S)
          refine wpl_take S rfl rfl rfl ?_
          (refine wpl_v S rfl rfl rfl (sv_pure S rfl) ?_; clear S a; intro a S)
          refine wpl_take S rfl rfl rfl ?_
          (refine wpl_v S rfl rfl rfl (sv_pure S rfl) ?_; clear S a; intro a S)
          refine wpl_take S rfl rfl rfl ?_
          (refine wpl_v S rfl rfl rfl (sv_pure S rfl) ?_; clear S a; intro a S)
          refine wpl_guard S rfl rfl rfl rfl rfl ?_ ?_
          · (intro h S'; clear S; have S := S'; clear S'; (try simp only [decide_eq_true_eq, decide_eq_false_iff_not, beq_iff_eq, bne_iff_ne, bne_eq_false_iff_eq, beq_eq_false_iff_ne, ne_eq, Bool.not_eq_true', Bool.not_eq_false', Bool.not_eq_true, Bool.not_eq_false, Bool.not_true, Bool.not_false, Int.ofNat_lt, Int.ofNat_le, Nat.not_lt, Nat.not_le] at h))
            (refine wpl_v S rfl rfl rfl (sv_pure S rfl) ?_; clear S a; intro a S)
            refine wpl_take S rfl rfl rfl ?_
            (refine wpl_v S rfl rfl rfl (sv_pure S rfl) ?_; clear S a; intro a S)
            refine wpl_take S rfl rfl rfl ?_
            (refine wpl_v S rfl rfl rfl (sv_pure S rfl) ?_; clear S a; intro a S)
            refine wpl_take S rfl rfl rfl ?_
            (refine wpl_v S rfl rfl rfl (sv_sliceS S rfl rfl rfl rfl (by first | omega | (simp only [List.length_append, List.length_cons, List.length_nil]; omega))) ?_; clear S a; intro a S)
            (rw [cutT2] at S)
            refine wpl_take S rfl rfl rfl ?_
            (refine wpl_v S rfl rfl rfl (sv_pure S rfl) ?_; clear S a; intro a S)
            refine wpl_take S rfl rfl rfl ?_
            first | (refine wpl_v S rfl rfl rfl (sv_pure S rfl) ?_; clear S a; intro a S) | (refine wpl_v S rfl rfl rfl (sv_pickB S rfl rfl rfl rfl) ?_; clear S a; intro a S)
            first | (refine wpl_v S rfl rfl rfl (sv_pure S rfl) ?_; clear S a; intro a S) | (refine wpl_v S rfl rfl rfl (sv_pickB S rfl rfl rfl rfl) ?_; clear S a; intro a S)
            refine wpList_nil ?_
            (refine hKq8 _ _ ?_; try (clear hKq8 Kq8))
            refine wpc_split S rfl (fun h => ?_) (fun h => ?_)
            · (skip; (try simp only [decide_eq_true_eq, decide_eq_false_iff_not, beq_iff_eq, bne_iff_ne, bne_eq_false_iff_eq, beq_eq_false_iff_ne, ne_eq, Bool.not_eq_true', Bool.not_eq_false', Bool.not_eq_true, Bool.not_eq_false, Bool.not_true, Bool.not_false, Int.ofNat_lt, Int.ofNat_le, Nat.not_lt, Nat.not_le] at h))
              (refine wp_seq_k ?_; intro Kq9 hKq9)
              refine wp_region_lit ?_
              (refine wpl_v S rfl rfl rfl (sv_build S rfl rfl rfl) ?_; clear S a; intro a S)
              (refine wpl_storeO S rfl rfl rfl rfl rfl (by rfl) (by simp [Value.cells, Value.oneCell', splice]) (by rfl) ?_; clear S; intro w S)
              (refine wpl_v S rfl rfl rfl (sv_pure S rfl) ?_; clear S a; intro a S)
              refine wpList_nil ?_
              (refine hKq9 _ _ ?_; try (clear hKq9 Kq9))
              refine wp_ret ?_
              refine fin_ret S (results2 Tryd.results37 (RV.cellO S rfl (by rfl)) (RV.tmp S rfl)) ?_
              (first | (refine RT.ok rfl ?_; unfold numberF; simp only [← hn]; (repeat' split) <;> first | exact ⟨_, rfl, by omega⟩ | (exfalso; omega) | (exfalso; simp_all; done) | (exfalso; simp_all; omega)) | (refine RT.bad rfl (by decide) ?_; unfold numberF; simp only [← hn]; (repeat' split) <;> first | rfl | (exfalso; omega) | (exfalso; simp_all; done) | (exfalso; simp_all; omega)))
            · (skip; (try simp only [decide_eq_true_eq, decide_eq_false_iff_not, beq_iff_eq, bne_iff_ne, bne_eq_false_iff_eq, beq_eq_false_iff_ne, ne_eq, Bool.not_eq_true', Bool.not_eq_false', Bool.not_eq_true, Bool.not_eq_false, Bool.not_true, Bool.not_false, Int.ofNat_lt, Int.ofNat_le, Nat.not_lt, Nat.not_le] at h))
              refine wp_skip ?_
              (refine hKq7 _ _ ?_; try (clear hKq7 Kq7))
              (refine wp_seq_k ?_; intro Kq9 hKq9)
              (refine wp_seq_k ?_; intro Kq10 hKq10)
              refine wp_region_lit ?_
              (refine wpl_v S rfl rfl rfl (sv_pure S rfl) ?_; clear S a; intro a S)
              (refine wpl_v S rfl rfl rfl (sv_pure S rfl) ?_; clear S a; intro a S)
              (refine wpl_v S rfl rfl rfl (sv_sub S rfl rfl rfl (by first | omega | (simp only [List.length_append, List.length_cons, List.length_nil]; omega))) ?_; clear S a; intro a S)
              (refine wpl_v S rfl rfl rfl (sv_pure S rfl) ?_; clear S a; intro a S)
              refine wpList_nil ?_
              (refine hKq10 _ _ ?_; try (clear hKq10 Kq10))
              refine wpc_split S rfl (fun h => ?_) (fun h => ?_)
              · (skip; (try simp only [decide_eq_true_eq, decide_eq_false_iff_not, beq_iff_eq, bne_iff_ne, bne_eq_false_iff_eq, beq_eq_false_iff_ne, ne_eq, Bool.not_eq_true', Bool.not_eq_false', Bool.not_eq_true, Bool.not_eq_false, Bool.not_true, Bool.not_false, Int.ofNat_lt, Int.ofNat_le, Nat.not_lt, Nat.not_le] at h))
                (refine wp_seq_k ?_; intro Kq11 hKq11)
                refine wp_region_lit ?_
                (refine wpl_v S rfl rfl rfl (sv_build S rfl rfl rfl) ?_; clear S a; intro a S)
                (refine wpl_storeO S rfl rfl rfl rfl rfl (by rfl) (by simp [Value.cells, Value.oneCell', splice]) (by rfl) ?_; clear S; intro w S)
                (refine wpl_v S rfl rfl rfl (sv_pure S rfl) ?_; clear S a; intro a S)
                refine wpList_nil ?_
                (refine hKq11 _ _ ?_; try (clear hKq11 Kq11))
                refine wp_ret ?_
                refine fin_ret S (results2 Tryd.results37 (RV.cellO S rfl (by rfl)) (RV.tmp S rfl)) ?_
                (first | (refine RT.ok rfl ?_; unfold numberF; simp only [← hn]; (repeat' split) <;> first | exact ⟨_, rfl, by omega⟩ | (exfalso; omega) | (exfalso; simp_all; done) | (exfalso; simp_all; omega)) | (refine RT.bad rfl (by decide) ?_; unfold numberF; simp only [← hn]; (repeat' split) <;> first | rfl | (exfalso; omega) | (exfalso; simp_all; done) | (exfalso; simp_all; omega)))
              · (skip; (try simp only [decide_eq_true_eq, decide_eq_false_iff_not, beq_iff_eq, bne_iff_ne, bne_eq_false_iff_eq, beq_eq_false_iff_ne, ne_eq, Bool.not_eq_true', Bool.not_eq_false', Bool.not_eq_true, Bool.not_eq_false, Bool.not_true, Bool.not_false, Int.ofNat_lt, Int.ofNat_le, Nat.not_lt, Nat.not_le] at h))
                refine wp_skip ?_
                (refine hKq9 _ _ ?_; try (clear hKq9 Kq9))
                (refine wp_seq_k ?_; intro Kq11 hKq11)
                (refine wp_seq_k ?_; intro Kq12 hKq12)
                refine wp_region_lit ?_
                (refine wpl_v S rfl rfl rfl (sv_pure S rfl) ?_; clear S a; intro a S)
                (refine wpl_v S rfl rfl rfl (sv_pure S rfl) ?_; clear S a; intro a S)
                (refine wpl_v S rfl rfl rfl (sv_pure S rfl) ?_; clear S a; intro a S)
                refine wpList_nil ?_
                (refine hKq12 _ _ ?_; try (clear hKq12 Kq12))
                refine wpc_split S rfl (fun h => ?_) (fun h => ?_)
                · (skip; (try simp only [decide_eq_true_eq, decide_eq_false_iff_not, beq_iff_eq, bne_iff_ne, bne_eq_false_iff_eq, beq_eq_false_iff_ne, ne_eq, Bool.not_eq_true', Bool.not_eq_false', Bool.not_eq_true, Bool.not_eq_false, Bool.not_true, Bool.not_false, Int.ofNat_lt, Int.ofNat_le, Nat.not_lt, Nat.not_le] at h))
                  (refine wp_seq_k ?_; intro Kq13 hKq13)
                  refine wp_region_lit ?_
                  (refine wpl_v S rfl rfl rfl (sv_pure S rfl) ?_; clear S a; intro a S)
                  (refine wpl_v S rfl rfl rfl (sv_pure S rfl) ?_; clear S a; intro a S)
                  (refine wpl_v S rfl rfl rfl (sv_pure S rfl) ?_; clear S a; intro a S)
                  (refine wpl_v S rfl rfl rfl (sv_pure S rfl) ?_; clear S a; intro a S)
                  (refine wpl_v S rfl rfl rfl (sv_sliceS S rfl rfl rfl rfl (by first | omega | (simp only [List.length_append, List.length_cons, List.length_nil]; omega))) ?_; clear S a; intro a S)
                  (rw [cutT] at S)
                  (refine wpl_v S rfl rfl rfl (sv_build S rfl rfl rfl) ?_; clear S a; intro a S)
                  (refine wpl_storeO S rfl rfl rfl rfl rfl (by rfl) (by simp [Value.cells, Value.oneCell', splice]) (by rfl) ?_; clear S; intro w S)
                  (refine wpl_v S rfl rfl rfl (sv_pure S rfl) ?_; clear S a; intro a S)
                  refine wpList_nil ?_
                  (refine hKq13 _ _ ?_; try (clear hKq13 Kq13))
                  refine wp_ret ?_
                  refine fin_ret S (results2 Tryd.results37 (RV.cellO S rfl (by rfl)) (RV.tmp S rfl)) ?_
                  (first | (refine RT.ok rfl ?_; unfold numberF; simp only [← hn]; (repeat' split) <;> first | exact ⟨_, rfl, by omega⟩ | (exfalso; omega) | (exfalso; simp_all; done) | (exfalso; simp_all; omega)) | (refine RT.bad rfl (by decide) ?_; unfold numberF; simp only [← hn]; (repeat' split) <;> first | rfl | (exfalso; omega) | (exfalso; simp_all; done) | (exfalso; simp_all; omega)))
                · (skip; (try simp only [decide_eq_true_eq, decide_eq_false_iff_not, beq_iff_eq, bne_iff_ne, bne_eq_false_iff_eq, beq_eq_false_iff_ne, ne_eq, Bool.not_eq_true', Bool.not_eq_false', Bool.not_eq_true, Bool.not_eq_false, Bool.not_true, Bool.not_false, Int.ofNat_lt, Int.ofNat_le, Nat.not_lt, Nat.not_le] at h))
                  refine wp_skip ?_
                  (refine hKq11 _ _ ?_; try (clear hKq11 Kq11))
                  (refine wp_seq_k ?_; intro Kq13 hKq13)
                  refine wp_region_lit ?_
                  (refine wpl_v S rfl rfl rfl (sv_pure S rfl) ?_; clear S a; intro a S)
                  (refine wpl_v S rfl rfl rfl (sv_pure S rfl) ?_; clear S a; intro a S)
                  (refine wpl_v S rfl rfl rfl (sv_pure S rfl) ?_; clear S a; intro a S)
                  (refine wpl_v S rfl rfl rfl (sv_pure S rfl) ?_; clear S a; intro a S)
                  (refine wpl_v S rfl rfl rfl (sv_sliceS S rfl rfl rfl rfl (by first | omega | (simp only [List.length_append, List.length_cons, List.length_nil]; omega))) ?_; clear S a; intro a S)
                  (rw [cutT] at S)
                  (refine wpl_v S rfl rfl rfl (sv_build S rfl rfl rfl) ?_; clear S a; intro a S)
                  (refine wpl_storeO S rfl rfl rfl rfl rfl (by rfl) (by simp [Value.cells, Value.oneCell', splice]) (by rfl) ?_; clear S; intro w S)
                  (refine wpl_v S rfl rfl rfl (sv_pure S rfl) ?_; clear S a; intro a S)
                  refine wpList_nil ?_
                  (refine hKq13 _ _ ?_; try (clear hKq13 Kq13))
                  refine wp_ret ?_
                  refine fin_ret S (results2 Tryd.results37 (RV.cellO S rfl (by rfl)) (RV.tmp S rfl)) ?_
                  (first | (refine RT.ok rfl ?_; unfold numberF; simp only [← hn]; (repeat' split) <;> first | exact ⟨_, rfl, by omega⟩ | (exfalso; omega) | (exfalso; simp_all; done) | (exfalso; simp_all; omega)) | (refine RT.bad rfl (by decide) ?_; unfold numberF; simp only [← hn]; (repeat' split) <;> first | rfl | (exfalso; omega) | (exfalso; simp_all; done) | (exfalso; simp_all; omega)))
          · (intro h; clear S a; intro a S; (try simp only [decide_eq_true_eq, decide_eq_false_iff_not, beq_iff_eq, bne_iff_ne, bne_eq_false_iff_eq, beq_eq_false_iff_ne, ne_eq, Bool.not_eq_true', Bool.not_eq_false', Bool.not_eq_true, Bool.not_eq_false, Bool.not_true, Bool.not_false, Int.ofNat_lt, Int.ofNat_le, Nat.not_lt, Nat.not_le] at h))
            (refine wpl_skip S rfl rfl rfl rfl rfl ?_; clear S a; intro a S)
            (refine wpl_skip S rfl rfl rfl rfl rfl ?_; clear S a; intro a S)
            (refine wpl_skip S rfl rfl rfl rfl rfl ?_; clear S a; intro a S)
            (refine wpl_skip S rfl rfl rfl rfl rfl ?_; clear S a; intro a S)
            refine wpl_take S rfl rfl rfl ?_
            first | (refine wpl_v S rfl rfl rfl (sv_pure S rfl) ?_; clear S a; intro a S) | (refine wpl_v S rfl rfl rfl (sv_pickB S rfl rfl rfl rfl) ?_; clear S a; intro a S)
            first | (refine wpl_v S rfl rfl rfl (sv_pure S rfl) ?_; clear S a; intro a S) | (refine wpl_v S rfl rfl rfl (sv_pickB S rfl rfl rfl rfl) ?_; clear S a; intro a S)
            refine wpList_nil ?_
            (refine hKq8 _ _ ?_; try (clear hKq8 Kq8))
            refine wpc_false S rfl ?_
            refine wp_skip ?_
            (refine hKq7 _ _ ?_; try (clear hKq7 Kq7))
            (refine wp_seq_k ?_; intro Kq9 hKq9)
            (refine wp_seq_k ?_; intro Kq10 hKq10)
            refine wp_region_lit ?_
            (refine wpl_v S rfl rfl rfl (sv_pure S rfl) ?_; clear S a; intro a S)
            (refine wpl_v S rfl rfl rfl (sv_pure S rfl) ?_; clear S a; intro a S)
            (refine wpl_v S rfl rfl rfl (sv_sub S rfl rfl rfl (by first | omega | (simp only [List.length_append, List.length_cons, List.length_nil]; omega))) ?_; clear S a; intro a S)
            (refine wpl_v S rfl rfl rfl (sv_pure S rfl) ?_; clear S a; intro a S)
            refine wpList_nil ?_
            (refine hKq10 _ _ ?_; try (clear hKq10 Kq10))
            refine wpc_split S rfl (fun h => ?_) (fun h => ?_)
            · (skip; (try simp only [decide_eq_true_eq, decide_eq_false_iff_not, beq_iff_eq, bne_iff_ne, bne_eq_false_iff_eq, beq_eq_false_iff_ne, ne_eq, Bool.not_eq_true', Bool.not_eq_false', Bool.not_eq_true, Bool.not_eq_false, Bool.not_true, Bool.not_false, Int.ofNat_lt, Int.ofNat_le, Nat.not_lt, Nat.not_le] at h))
              (refine wp_seq_k ?_; intro Kq11 hKq11)
              refine wp_region_lit ?_
              (refine wpl_v S rfl rfl rfl (sv_build S rfl rfl rfl) ?_; clear S a; intro a S)
              (refine wpl_storeO S rfl rfl rfl rfl rfl (by rfl) (by simp [Value.cells, Value.oneCell', splice]) (by rfl) ?_; clear S; intro w S)
              (refine wpl_v S rfl rfl rfl (sv_pure S rfl) ?_; clear S a; intro a S)
              refine wpList_nil ?_
              (refine hKq11 _ _ ?_; try (clear hKq11 Kq11))
              refine wp_ret ?_
              refine fin_ret S (results2 Tryd.results37 (RV.cellO S rfl (by rfl)) (RV.tmp S rfl)) ?_
              (first | (refine RT.ok rfl ?_; unfold numberF; simp only [← hn]; (repeat' split) <;> first | exact ⟨_, rfl, by omega⟩ | (exfalso; omega) | (exfalso; simp_all; done) | (exfalso; simp_all; omega)) | (refine RT.bad rfl (by decide) ?_; unfold numberF; simp only [← hn]; (repeat' split) <;> first | rfl | (exfalso; omega) | (exfalso; simp_all; done) | (exfalso; simp_all; omega)))
            · (skip; (try simp only [decide_eq_true_eq, decide_eq_false_iff_not, beq_iff_eq, bne_iff_ne, bne_eq_false_iff_eq, beq_eq_false_iff_ne, ne_eq, Bool.not_eq_true', Bool.not_eq_false', Bool.not_eq_true, Bool.not_eq_false, Bool.not_true, Bool.not_false, Int.ofNat_lt, Int.ofNat_le, Nat.not_lt, Nat.not_le] at h))
              refine wp_skip ?_
              (refine hKq9 _ _ ?_; try (clear hKq9 Kq9))
              (refine wp_seq_k ?_; intro Kq11 hKq11)
              (refine wp_seq_k ?_; intro Kq12 hKq12)
              refine wp_region_lit ?_
              (refine wpl_v S rfl rfl rfl (sv_pure S rfl) ?_; clear S a; intro a S)
              (refine wpl_v S rfl rfl rfl (sv_pure S rfl) ?_; clear S a; intro a S)
              (refine wpl_v S rfl rfl rfl (sv_pure S rfl) ?_; clear S a; intro a S)
              refine wpList_nil ?_
              (refine hKq12 _ _ ?_; try (clear hKq12 Kq12))
              refine wpc_split S rfl (fun h => ?_) (fun h => ?_)
              · (skip; (try simp only [decide_eq_true_eq, decide_eq_false_iff_not, beq_iff_eq, bne_iff_ne, bne_eq_false_iff_eq, beq_eq_false_iff_ne, ne_eq, Bool.not_eq_true', Bool.not_eq_false', Bool.not_eq_true, Bool.not_eq_false, Bool.not_true, Bool.not_false, Int.ofNat_lt, Int.ofNat_le, Nat.not_lt, Nat.not_le] at h))
                (refine wp_seq_k ?_; intro Kq13 hKq13)
                refine wp_region_lit ?_
                (refine wpl_v S rfl rfl rfl (sv_pure S rfl) ?_; clear S a; intro a S)
                (refine wpl_v S rfl rfl rfl (sv_pure S rfl) ?_; clear S a; intro a S)
                (refine wpl_v S rfl rfl rfl (sv_pure S rfl) ?_; clear S a; intro a S)
                (refine wpl_v S rfl rfl rfl (sv_pure S rfl) ?_; clear S a; intro a S)
                (refine wpl_v S rfl rfl rfl (sv_sliceS S rfl rfl rfl rfl (by first | omega | (simp only [List.length_append, List.length_cons, List.length_nil]; omega))) ?_; clear S a; intro a S)
                (rw [cutT] at S)
                (refine wpl_v S rfl rfl rfl (sv_build S rfl rfl rfl) ?_; clear S a; intro a S)
                (refine wpl_storeO S rfl rfl rfl rfl rfl (by rfl) (by simp [Value.cells, Value.oneCell', splice]) (by rfl) ?_; clear S; intro w S)
                (refine wpl_v S rfl rfl rfl (sv_pure S rfl) ?_; clear S a; intro a S)
                refine wpList_nil ?_
                (refine hKq13 _ _ ?_; try (clear hKq13 Kq13))
                refine wp_ret ?_
                refine fin_ret S (results2 Tryd.results37 (RV.cellO S rfl (by rfl)) (RV.tmp S rfl)) ?_
                (first | (refine RT.ok rfl ?_; unfold numberF; simp only [← hn]; (repeat' split) <;> first | exact ⟨_, rfl, by omega⟩ | (exfalso; omega) | (exfalso; simp_all; done) | (exfalso; simp_all; omega)) | (refine RT.bad rfl (by decide) ?_; unfold numberF; simp only [← hn]; (repeat' split) <;> first | rfl | (exfalso; omega) | (exfalso; simp_all; done) | (exfalso; simp_all; omega)))
              · (skip; (try simp only [decide_eq_true_eq, decide_eq_false_iff_not, beq_iff_eq, bne_iff_ne, bne_eq_false_iff_eq, beq_eq_false_iff_ne, ne_eq, Bool.not_eq_true', Bool.not_eq_false', Bool.not_eq_true, Bool.not_eq_false, Bool.not_true, Bool.not_false, Int.ofNat_lt, Int.ofNat_le, Nat.not_lt, Nat.not_le] at h))
                refine wp_skip ?_
                (refine hKq11 _ _ ?_; try (clear hKq11 Kq11))
                (refine wp_seq_k ?_; intro Kq13 hKq13)
                refine wp_region_lit ?_
                (refine wpl_v S rfl rfl rfl (sv_pure S rfl) ?_; clear S a; intro a S)
                (refine wpl_v S rfl rfl rfl (sv_pure S rfl) ?_; clear S a; intro a S)
                (refine wpl_v S rfl rfl rfl (sv_pure S rfl) ?_; clear S a; intro a S)
                (refine wpl_v S rfl rfl rfl (sv_pure S rfl) ?_; clear S a; intro a S)
                (refine wpl_v S rfl rfl rfl (sv_sliceS S rfl rfl rfl rfl (by first | omega | (simp only [List.length_append, List.length_cons, List.length_nil]; omega))) ?_; clear S a; intro a S)
                (rw [cutT] at S)
                (refine wpl_v S rfl rfl rfl (sv_build S rfl rfl rfl) ?_; clear S a; intro a S)
                (refine wpl_storeO S rfl rfl rfl rfl rfl (by rfl) (by simp [Value.cells, Value.oneCell', splice]) (by rfl) ?_; clear S; intro w S)
                (refine wpl_v S rfl rfl rfl (sv_pure S rfl) ?_; clear S a; intro a S)
                refine wpList_nil ?_
                (refine hKq13 _ _ ?_; try (clear hKq13 Kq13))
                refine wp_ret ?_
                refine fin_ret S (results2 Tryd.results37 (RV.cellO S rfl (by rfl)) (RV.tmp S rfl)) ?_
                (first | (refine RT.ok rfl ?_; unfold numberF; simp only [← hn]; (repeat' split) <;> first | exact ⟨_, rfl, by omega⟩ | (exfalso; omega) | (exfalso; simp_all; done) | (exfalso; simp_all; omega)) | (refine RT.bad rfl (by decide) ?_; unfold numberF; simp only [← hn]; (repeat' split) <;> first | rfl | (exfalso; omega) | (exfalso; simp_all; done) | (exfalso; simp_all; omega)))
        · (intro h; clear S a; intro a S; (try simp only [decide_eq_true_eq, decide_eq_false_iff_not, beq_iff_eq, bne_iff_ne, bne_eq_false_iff_eq, beq_eq_false_iff_ne, ne_eq, Bool.not_eq_true', Bool.not_eq_false', Bool.not_eq_true, Bool.not_eq_false, Bool.not_true, Bool.not_false, Int.ofNat_lt, Int.ofNat_le, Nat.not_lt, Nat.not_le] at h))
          (refine wpl_skip S rfl rfl rfl rfl rfl ?_; clear S a; intro a S)
          (refine wpl_skip S rfl rfl rfl rfl rfl ?_; clear S a; intro a S)
          (refine wpl_skip S rfl rfl rfl rfl rfl ?_; clear S a; intro a S)
          (refine wpl_skipU S rfl rfl rfl rfl rfl ?_; clear S a; intro a S)
          (refine wpl_skipU S rfl rfl rfl rfl rfl ?_; clear S a; intro a S)
          (refine wpl_skipU S rfl rfl rfl rfl rfl ?_; clear S a; intro a S)
          (refine wpl_skipU S rfl rfl rfl rfl rfl ?_; clear S a; intro a S)
          (refine wpl_skipU S rfl rfl rfl rfl rfl ?_; clear S a; intro a S)
          (refine wpl_skip S rfl rfl rfl rfl rfl ?_; clear S a; intro a S)
          first | (refine wpl_v S rfl rfl rfl (sv_pure S rfl) ?_; clear S a; intro a S) | (refine wpl_v S rfl rfl rfl (sv_pickB S rfl rfl rfl rfl) ?_; clear S a; intro a S)
          refine wpList_nil ?_
          (refine hKq8 _ _ ?_; try (clear hKq8 Kq8))
          refine wpc_true S rfl ?_
          (refine wp_seq_k ?_; intro Kq9 hKq9)
          refine wp_region_lit ?_
          (refine wpl_v S rfl rfl rfl (sv_build S rfl rfl rfl) ?_; clear S a; intro a S)
          (refine wpl_storeO S rfl rfl rfl rfl rfl (by rfl) (by simp [Value.cells, Value.oneCell', splice]) (by rfl) ?_; clear S; intro w S)
          (refine wpl_v S rfl rfl rfl (sv_pure S rfl) ?_; clear S a; intro a S)
          refine wpList_nil ?_
          (refine hKq9 _ _ ?_; try (clear hKq9 Kq9))
          refine wp_ret ?_
          refine fin_ret S (results2 Tryd.results37 (RV.cellO S rfl (by rfl)) (RV.tmp S rfl)) ?_
          (first | (refine RT.ok rfl ?_; unfold numberF; simp only [← hn]; (repeat' split) <;> first | exact ⟨_, rfl, by omega⟩ | (exfalso; omega) | (exfalso; simp_all; done) | (exfalso; simp_all; omega)) | (refine RT.bad rfl (by decide) ?_; unfold numberF; simp only [← hn]; (repeat' split) <;> first | rfl | (exfalso; omega) | (exfalso; simp_all; done) | (exfalso; simp_all; omega)))
      · (intro h; clear S a; intro a S; (try simp only [decide_eq_true_eq, decide_eq_false_iff_not, beq_iff_eq, bne_iff_ne, bne_eq_false_iff_eq, beq_eq_false_iff_ne, ne_eq, Bool.not_eq_true', Bool.not_eq_false', Bool.not_eq_true, Bool.not_eq_false, Bool.not_true, Bool.not_false, Int.ofNat_lt, Int.ofNat_le, Nat.not_lt, Nat.not_le] at h))
        (refine wpl_skip S rfl rfl rfl rfl rfl ?_; clear S a; intro a S)
        (refine wpl_skip S rfl rfl rfl rfl rfl ?_; clear S a; intro a S)
        (refine wpl_skip S rfl rfl rfl rfl rfl ?_; clear S a; intro a S)
        first | (refine wpl_v S rfl rfl rfl (sv_pure S rfl) ?_; clear S a; intro a S) | (refine wpl_v S rfl rfl rfl (sv_pickB S rfl rfl rfl rfl) ?_; clear S a; intro a S)
        (refine wpl_v S rfl rfl rfl (sv_pure S rfl) ?_; clear S a; intro a S)
        refine wpl_take S rfl rfl rfl ?_
        (refine wpl_v S rfl rfl rfl (sv_pure S rfl) ?_; clear S a; intro a S)
        refine wpl_take S rfl rfl rfl ?_
        (refine wpl_v S rfl rfl rfl (sv_pure S rfl) ?_; clear S a; intro a S)
        refine wpl_take S rfl rfl rfl ?_
        (refine wpl_v S rfl rfl rfl (sv_pure S rfl) ?_; clear S a; intro a S)
        refine wpl_take S rfl rfl rfl ?_
        (refine wpl_v S rfl rfl rfl (sv_pure S rfl) ?_; clear S a; intro a S)
        refine wpl_guard S rfl rfl rfl rfl rfl ?_ ?_
        · (intro h S'; clear S; have S := S'; clear S'; (try simp only [decide_eq_true_eq, decide_eq_false_iff_not, beq_iff_eq, bne_iff_ne, bne_eq_false_iff_eq, beq_eq_false_iff_ne, ne_eq, Bool.not_eq_true', Bool.not_eq_false', Bool.not_eq_true, Bool.not_eq_false, Bool.not_true, Bool.not_false, Int.ofNat_lt, Int.ofNat_le, Nat.not_lt, Nat.not_le] at h))
          (refine wpl_v S rfl rfl rfl (sv_pure S rfl) ?_; clear S a; intro a S)
          refine wpl_take S rfl rfl rfl ?_
          (refine wpl_v S rfl rfl rfl (sv_pure S rfl) ?_; clear S a; intro a S)
          refine wpl_take S rfl rfl rfl ?_
          (refine wpl_v S rfl rfl rfl (sv_pure S rfl) ?_; clear S a; intro a S)
          refine wpl_take S rfl rfl rfl ?_
          (refine wpl_v S rfl rfl rfl (sv_sliceS S rfl rfl rfl rfl (by first | omega | (simp only [List.length_append, List.length_cons, List.length_nil]; omega))) ?_; clear S a; intro a S)
          (rw [cutT2] at S)
          refine wpl_take S rfl rfl rfl ?_
          (refine wpl_v S rfl rfl rfl (sv_pure S rfl) ?_; clear S a; intro a S)
          refine wpl_take S rfl rfl rfl ?_
          first | (refine wpl_v S rfl rfl rfl (sv_pure S rfl) ?_; clear S a; intro a S) | (refine wpl_v S rfl rfl rfl (sv_pickB S rfl rfl rfl rfl) ?_; clear S a; intro a S)
          first | (refine wpl_v S rfl rfl rfl (sv_pure S rfl) ?_; clear S a; intro a S) | (refine wpl_v S rfl rfl rfl (sv_pickB S rfl rfl rfl rfl) ?_; clear S a; intro a S)
          refine wpList_nil ?_
          (refine hKq8 _ _ ?_; try (clear hKq8 Kq8))
          refine wpc_split S rfl (fun h => ?_) (fun h => ?_)
          · (skip; (try simp only [decide_eq_true_eq, decide_eq_false_iff_not, beq_iff_eq, bne_iff_ne, bne_eq_false_iff_eq, beq_eq_false_iff_ne, ne_eq, Bool.not_eq_true', Bool.not_eq_false', Bool.not_eq_true, Bool.not_eq_false, Bool.not_true, Bool.not_false, Int.ofNat_lt, Int.ofNat_le, Nat.not_lt, Nat.not_le] at h))
            (refine wp_seq_k ?_; intro Kq9 hKq9)
            refine wp_region_lit ?_
            (refine wpl_v S rfl rfl rfl (sv_build S rfl rfl rfl) ?_; clear S a; intro a S)
            (refine wpl_storeO S rfl rfl rfl rfl rfl (by rfl) (by simp [Value.cells, Value.oneCell', splice]) (by rfl) ?_; clear S; intro w S)
            (refine wpl_v S rfl rfl rfl (sv_pure S rfl) ?_; clear S a; intro a S)
            refine wpList_nil ?_
            (refine hKq9 _ _ ?_; try (clear hKq9 Kq9))
            refine wp_ret ?_
            refine fin_ret S (results2 Tryd.results37 (RV.cellO S rfl (by rfl)) (RV.tmp S rfl)) ?_
            (first | (refine RT.ok rfl ?_; unfold numberF; simp only [← hn]; (repeat' split) <;> first | exact ⟨_, rfl, by omega⟩ | (exfalso; omega) | (exfalso; simp_all; done) | (exfalso; simp_all; omega)) | (refine RT.bad rfl (by decide) ?_; unfold numberF; simp only [← hn]; (repeat' split) <;> first | rfl | (exfalso; omega) | (exfalso; simp_all; done) | (exfalso; simp_all; omega)))
          · (skip; (try simp only [decide_eq_true_eq, decide_eq_false_iff_not, beq_iff_eq, bne_iff_ne, bne_eq_false_iff_eq, beq_eq_false_iff_ne, ne_eq, Bool.not_eq_true', Bool.not_eq_false', Bool.not_eq_true, Bool.not_eq_false, Bool.not_true, Bool.not_false, Int.ofNat_lt, Int.ofNat_le, Nat.not_lt, Nat.not_le] at h))
            refine wp_skip ?_
            (refine hKq7 _ _ ?_; try (clear hKq7 Kq7))
            (refine wp_seq_k ?_; intro Kq9 hKq9)
            (refine wp_seq_k ?_; intro Kq10 hKq10)
            refine wp_region_lit ?_
            (refine wpl_v S rfl rfl rfl (sv_pure S rfl) ?_; clear S a; intro a S)
            (refine wpl_v S rfl rfl rfl (sv_pure S rfl) ?_; clear S a; intro a S)
            (refine wpl_v S rfl rfl rfl (sv_sub S rfl rfl rfl (by first | omega | (simp only [List.length_append, List.length_cons, List.length_nil]; omega))) ?_; clear S a; intro a S)
            (refine wpl_v S rfl rfl rfl (sv_pure S rfl) ?_; clear S a; intro a S)
            refine wpList_nil ?_
            (refine hKq10 _ _ ?_; try (clear hKq10 Kq10))
            refine wpc_split S rfl (fun h => ?_) (fun h => ?_)
            · (skip; (try simp only [decide_eq_true_eq, decide_eq_false_iff_not, beq_iff_eq, bne_iff_ne, bne_eq_false_iff_eq, beq_eq_false_iff_ne, ne_eq, Bool.not_eq_true', Bool.not_eq_false', Bool.not_eq_true, Bool.not_eq_false, Bool.not_true, Bool.not_false, Int.ofNat_lt, Int.ofNat_le, Nat.not_lt, Nat.not_le] at h))
              (refine wp_seq_k ?_; intro Kq11 hKq11)
              refine wp_region_lit ?_
              (refine wpl_v S rfl rfl rfl (sv_build S rfl rfl rfl) ?_; clear S a; intro a S)
              (refine wpl_storeO S rfl rfl rfl rfl rfl (by rfl) (by simp [Value.cells, Value.oneCell', splice]) (by rfl) ?_; clear S; intro w S)
              (refine wpl_v S rfl rfl rfl (sv_pure S rfl) ?_; clear S a; intro a S)
              refine wpList_nil ?_
              (refine hKq11 _ _ ?_; try (clear hKq11 Kq11))
              refine wp_ret ?_
              refine fin_ret S (results2 Tryd.results37 (RV.cellO S rfl (by rfl)) (RV.tmp S rfl)) ?_
              (first | (refine RT.ok rfl ?_; unfold numberF; simp only [← hn]; (repeat' split) <;> first | exact ⟨_, rfl, by omega⟩ | (exfalso; omega) | (exfalso; simp_all; done) | (exfalso; simp_all; omega)) | (refine RT.bad rfl (by decide) ?_; unfold numberF; simp only [← hn]; (repeat' split) <;> first | rfl | (exfalso; omega) | (exfalso; simp_all; done) | (exfalso; simp_all; omega)))
            · (skip; (try simp only [decide_eq_true_eq, decide_eq_false_iff_not, beq_iff_eq, bne_iff_ne, bne_eq_false_iff_eq, beq_eq_false_iff_ne, ne_eq, Bool.not_eq_true', Bool.not_eq_false', Bool.not_eq_true, Bool.not_eq_false, Bool.not_true, Bool.not_false, Int.ofNat_lt, Int.ofNat_le, Nat.not_lt, Nat.not_le] at h))
              refine wp_skip ?_
              (refine hKq9 _ _ ?_; try (clear hKq9 Kq9))
              (refine wp_seq_k ?_; intro Kq11 hKq11)
              (refine wp_seq_k ?_; intro Kq12 hKq12)
              refine wp_region_lit ?_
              (refine wpl_v S rfl rfl rfl (sv_pure S rfl) ?_; clear S a; intro a S)
              (refine wpl_v S rfl rfl rfl (sv_pure S rfl) ?_; clear S a; intro a S)
              (refine wpl_v S rfl rfl rfl (sv_pure S rfl) ?_; clear S a; intro a S)
              refine wpList_nil ?_
              (refine hKq12 _ _ ?_; try (clear hKq12 Kq12))
              refine wpc_split S rfl (fun h => ?_) (fun h => ?_)
              · (skip; (try simp only [decide_eq_true_eq, decide_eq_false_iff_not, beq_iff_eq, bne_iff_ne, bne_eq_false_iff_eq, beq_eq_false_iff_ne, ne_eq, Bool.not_eq_true', Bool.not_eq_false', Bool.not_eq_true, Bool.not_eq_false, Bool.not_true, Bool.not_false, Int.ofNat_lt, Int.ofNat_le, Nat.not_lt, Nat.not_le] at h))
                (refine wp_seq_k ?_; intro Kq13 hKq13)
                refine wp_region_lit ?_
                (refine wpl_v S rfl rfl rfl (sv_pure S rfl) ?_; clear S a; intro a S)
                (refine wpl_v S rfl rfl rfl (sv_pure S rfl) ?_; clear S a; intro a S)
                (refine wpl_v S rfl rfl rfl (sv_pure S rfl) ?_; clear S a; intro a S)
                (refine wpl_v S rfl rfl rfl (sv_pure S rfl) ?_; clear S a; intro a S)
                (refine wpl_v S rfl rfl rfl (sv_sliceS S rfl rfl rfl rfl (by first | omega | (simp only [List.length_append, List.length_cons, List.length_nil]; omega))) ?_; clear S a; intro a S)
                (rw [cutT] at S)
                (refine wpl_v S rfl rfl rfl (sv_build S rfl rfl rfl) ?_; clear S a; intro a S)
                (refine wpl_storeO S rfl rfl rfl rfl rfl (by rfl) (by simp [Value.cells, Value.oneCell', splice]) (by rfl) ?_; clear S; intro w S)
                (refine wpl_v S rfl rfl rfl (sv_pure S rfl) ?_; clear S a; intro a S)
                refine wpList_nil ?_
                (refine hKq13 _ _ ?_; try (clear hKq13 Kq13))
                refine wp_ret ?_
                refine fin_ret S (results2 Tryd.results37 (RV.cellO S rfl (by rfl)) (RV.tmp S rfl)) ?_
                (first | (refine RT.ok rfl ?_; unfold numberF; simp only [← hn]; (repeat' split) <;> first | exact ⟨_, rfl, by omega⟩ | (exfalso; omega) | (exfalso; simp_all; done) | (exfalso; simp_all; omega)) | (refine RT.bad rfl (by decide) ?_; unfold numberF; simp only [← hn]; (repeat' split) <;> first | rfl | (exfalso; omega) | (exfalso; simp_all; done) | (exfalso; simp_all; omega)))
              · (skip; (try simp only [decide_eq_true_eq, decide_eq_false_iff_not, beq_iff_eq, bne_iff_ne, bne_eq_false_iff_eq, beq_eq_false_iff_ne, ne_eq, Bool.not_eq_true', Bool.not_eq_false', Bool.not_eq_true, Bool.not_eq_false, Bool.not_true, Bool.not_false, Int.ofNat_lt, Int.ofNat_le, Nat.not_lt, Nat.not_le] at h))
                refine wp_skip ?_
                (refine hKq11 _ _ ?_; try (clear hKq11 Kq11))
                (refine wp_seq_k ?_; intro Kq13 hKq13)
                refine wp_region_lit ?_
                (refine wpl_v S rfl rfl rfl (sv_pure S rfl) ?_; clear S a; intro a S)
                (refine wpl_v S rfl rfl rfl (sv_pure S rfl) ?_; clear S a; intro a S)
                (refine wpl_v S rfl rfl rfl (sv_pure S rfl) ?_; clear S a; intro a S)
                (refine wpl_v S rfl rfl rfl (sv_pure S rfl) ?_; clear S a; intro a S)
                (refine wpl_v S rfl rfl rfl (sv_sliceS S rfl rfl rfl rfl (by first | omega | (simp only [List.length_append, List.length_cons, List.length_nil]; omega))) ?_; clear S a; intro a S)
                (rw [cutT] at S)
                (refine wpl_v S rfl rfl rfl (sv_build S rfl rfl rfl) ?_; clear S a; intro a S)
                (refine wpl_storeO S rfl rfl rfl rfl rfl (by rfl) (by simp [Value.cells, Value.oneCell', splice]) (by rfl) ?_; clear S; intro w S)
                (refine wpl_v S rfl rfl rfl (sv_pure S rfl) ?_; clear S a; intro a S)
                refine wpList_nil ?_
                (refine hKq13 _ _ ?_; try (clear hKq13 Kq13))
                refine wp_ret ?_
                refine fin_ret S (results2 Tryd.results37 (RV.cellO S rfl (by rfl)) (RV.tmp S rfl)) ?_
                (first | (refine RT.ok rfl ?_; unfold numberF; simp only [← hn]; (repeat' split) <;> first | exact ⟨_, rfl, by omega⟩ | (exfalso; omega) | (exfalso; simp_all; done) | (exfalso; simp_all; omega)) | (refine RT.bad rfl (by decide) ?_; unfold numberF; simp only [← hn]; (repeat' split) <;> first | rfl | (exfalso; omega) | (exfalso; simp_all; done) | (exfalso; simp_all; omega)))
        · (intro h; clear S a; intro a S; (try simp only [decide_eq_true_eq, decide_eq_false_iff_not, beq_iff_eq, bne_iff_ne, bne_eq_false_iff_eq, beq_eq_false_iff_ne, ne_eq, Bool.not_eq_true', Bool.not_eq_false', Bool.not_eq_true, Bool.not_eq_false, Bool.not_true, Bool.not_false, Int.ofNat_lt, Int.ofNat_le, Nat.not_lt, Nat.not_le] at h))
          (refine wpl_skip S rfl rfl rfl rfl rfl ?_; clear S a; intro a S)
          (refine wpl_skip S rfl rfl rfl rfl rfl ?_; clear S a; intro a S)
          (refine wpl_skip S rfl rfl rfl rfl rfl ?_; clear S a; intro a S)
          (refine wpl_skip S rfl rfl rfl rfl rfl ?_; clear S a; intro a S)
          refine wpl_take S rfl rfl rfl ?_
          first | (refine wpl_v S rfl rfl rfl (sv_pure S rfl) ?_; clear S a; intro a S) | (refine wpl_v S rfl rfl rfl (sv_pickB S rfl rfl rfl rfl) ?_; clear S a; intro a S)
          first | (refine wpl_v S rfl rfl rfl (sv_pure S rfl) ?_; clear S a; intro a S) | (refine wpl_v S rfl rfl rfl (sv_pickB S rfl rfl rfl rfl) ?_; clear S a; intro a S)
          refine wpList_nil ?_
          (refine hKq8 _ _ ?_; try (clear hKq8 Kq8))
          refine wpc_false S rfl ?_
          refine wp_skip ?_
          (refine hKq7 _ _ ?_; try (clear hKq7 Kq7))
          (refine wp_seq_k ?_; intro Kq9 hKq9)
          (refine wp_seq_k ?_; intro Kq10 hKq10)
          refine wp_region_lit ?_
          (refine wpl_v S rfl rfl rfl (sv_pure S rfl) ?_; clear S a; intro a S)
          (refine wpl_v S rfl rfl rfl (sv_pure S rfl) ?_; clear S a; intro a S)
          (refine wpl_v S rfl rfl rfl (sv_sub S rfl rfl rfl (by first | omega | (simp only [List.length_append, List.length_cons, List.length_nil]; omega))) ?_; clear S a; intro a S)
          (refine wpl_v S rfl rfl rfl (sv_pure S rfl) ?_; clear S a; intro a S)
          refine wpList_nil ?_
          (refine hKq10 _ _ ?_; try (clear hKq10 Kq10))
          refine wpc_split S rfl (fun h => ?_) (fun h => ?_)
          · (skip; (try simp only [decide_eq_true_eq, decide_eq_false_iff_not, beq_iff_eq, bne_iff_ne, bne_eq_false_iff_eq, beq_eq_false_iff_ne, ne_eq, Bool.not_eq_true', Bool.not_eq_false', Bool.not_eq_true, Bool.not_eq_false, Bool.not_true, Bool.not_false, Int.ofNat_lt, Int.ofNat_le, Nat.not_lt, Nat.not_le] at h))
            (refine wp_seq_k ?_; intro Kq11 hKq11)
            refine wp_region_lit ?_
            (refine wpl_v S rfl rfl rfl (sv_build S rfl rfl rfl) ?_; clear S a; intro a S)
            (refine wpl_storeO S rfl rfl rfl rfl rfl (by rfl) (by simp [Value.cells, Value.oneCell', splice]) (by rfl) ?_; clear S; intro w S)
            (refine wpl_v S rfl rfl rfl (sv_pure S rfl) ?_; clear S a; intro a S)
            refine wpList_nil ?_
            (refine hKq11 _ _ ?_; try (clear hKq11 Kq11))
            refine wp_ret ?_
            refine fin_ret S (results2 Tryd.results37 (RV.cellO S rfl (by rfl)) (RV.tmp S rfl)) ?_
            (first | (refine RT.ok rfl ?_; unfold numberF; simp only [← hn]; (repeat' split) <;> first | exact ⟨_, rfl, by omega⟩ | (exfalso; omega) | (exfalso; simp_all; done) | (exfalso; simp_all; omega)) | (refine RT.bad rfl (by decide) ?_; unfold numberF; simp only [← hn]; (repeat' split) <;> first | rfl | (exfalso; omega) | (exfalso; simp_all; done) | (exfalso; simp_all; omega)))
          · (skip; (try simp only [decide_eq_true_eq, decide_eq_false_iff_not, beq_iff_eq, bne_iff_ne, bne_eq_false_iff_eq, beq_eq_false_iff_ne, ne_eq, Bool.not_eq_true', Bool.not_eq_false', Bool.not_eq_true, Bool.not_eq_false, Bool.not_true, Bool.not_false, Int.ofNat_lt, Int.ofNat_le, Nat.not_lt, Nat.not_le] at h))
            refine wp_skip ?_
            (refine hKq9 _ _ ?_; try (clear hKq9 Kq9))
            (refine wp_seq_k ?_; intro Kq11 hKq11)
            (refine wp_seq_k ?_; intro Kq12 hKq12)
            refine wp_region_lit ?_
            (refine wpl_v S rfl rfl rfl (sv_pure S rfl) ?_; clear S a; intro a S)
            (refine wpl_v S rfl rfl rfl (sv_pure S rfl) ?_; clear S a; intro a S)
            (refine wpl_v S rfl rfl rfl (sv_pure S rfl) ?_; clear S a; intro a S)
            refine wpList_nil ?_
            (refine hKq12 _ _ ?_; try (clear hKq12 Kq12))
            refine wpc_split S rfl (fun h => ?_) (fun h => ?_)
            · (skip; (try simp only [decide_eq_true_eq, decide_eq_false_iff_not, beq_iff_eq, bne_iff_ne, bne_eq_false_iff_eq, beq_eq_false_iff_ne, ne_eq, Bool.not_eq_true', Bool.not_eq_false', Bool.not_eq_true, Bool.not_eq_false, Bool.not_true, Bool.not_false, Int.ofNat_lt, Int.ofNat_le, Nat.not_lt, Nat.not_le] at h))
              (refine wp_seq_k ?_; intro Kq13 hKq13)
              refine wp_region_lit ?_
              (refine wpl_v S rfl rfl rfl (sv_pure S rfl) ?_; clear S a; intro a S)
              (refine wpl_v S rfl rfl rfl (sv_pure S rfl) ?_; clear S a; intro a S)
              (refine wpl_v S rfl rfl rfl (sv_pure S rfl) ?_; clear S a; intro a S)
              (refine wpl_v S rfl rfl rfl (sv_pure S rfl) ?_; clear S a; intro a S)
              (refine wpl_v S rfl rfl rfl (sv_sliceS S rfl rfl rfl rfl (by first | omega | (simp only [List.length_append, List.length_cons, List.length_nil]; omega))) ?_; clear S a; intro a S)
              (rw [cutT] at S)
              (refine wpl_v S rfl rfl rfl (sv_build S rfl rfl rfl) ?_; clear S a; intro a S)
              (refine wpl_storeO S rfl rfl rfl rfl rfl (by rfl) (by simp [Value.cells, Value.oneCell', splice]) (by rfl) ?_; clear S; intro w S)
              (refine wpl_v S rfl rfl rfl (sv_pure S rfl) ?_; clear S a; intro a S)
              refine wpList_nil ?_
              (refine hKq13 _ _ ?_; try (clear hKq13 Kq13))
              refine wp_ret ?_
              refine fin_ret S (results2 Tryd.results37 (RV.cellO S rfl (by rfl)) (RV.tmp S rfl)) ?_
              (first | (refine RT.ok rfl ?_; unfold numberF; simp only [← hn]; (repeat' split) <;> first | exact ⟨_, rfl, by omega⟩ | (exfalso; omega) | (exfalso; simp_all; done) | (exfalso; simp_all; omega)) | (refine RT.bad rfl (by decide) ?_; unfold numberF; simp only [← hn]; (repeat' split) <;> first | rfl | (exfalso; omega) | (exfalso; simp_all; done) | (exfalso; simp_all; omega)))
            · (skip; (try simp only [decide_eq_true_eq, decide_eq_false_iff_not, beq_iff_eq, bne_iff_ne, bne_eq_false_iff_eq, beq_eq_false_iff_ne, ne_eq, Bool.not_eq_true', Bool.not_eq_false', Bool.not_eq_true, Bool.not_eq_false, Bool.not_true, Bool.not_false, Int.ofNat_lt, Int.ofNat_le, Nat.not_lt, Nat.not_le] at h))
              refine wp_skip ?_
              (refine hKq11 _ _ ?_; try (clear hKq11 Kq11))
              (refine wp_seq_k ?_; intro Kq13 hKq13)
              refine wp_region_lit ?_
              (refine wpl_v S rfl rfl rfl (sv_pure S rfl) ?_; clear S a; intro a S)
              (refine wpl_v S rfl rfl rfl (sv_pure S rfl) ?_; clear S a; intro a S)
              (refine wpl_v S rfl rfl rfl (sv_pure S rfl) ?_; clear S a; intro a S)
              (refine wpl_v S rfl rfl rfl (sv_pure S rfl) ?_; clear S a; intro a S)
              (refine wpl_v S rfl rfl rfl (sv_sliceS S rfl rfl rfl rfl (by first | omega | (simp only [List.length_append, List.length_cons, List.length_nil]; omega))) ?_; clear S a; intro a S)
              (rw [cutT] at S)
              (refine wpl_v S rfl rfl rfl (sv_build S rfl rfl rfl) ?_; clear S a; intro a S)
              (refine wpl_storeO S rfl rfl rfl rfl rfl (by rfl) (by simp [Value.cells, Value.oneCell', splice]) (by rfl) ?_; clear S; intro w S)
              (refine wpl_v S rfl rfl rfl (sv_pure S rfl) ?_; clear S a; intro a S)
              refine wpList_nil ?_
              (refine hKq13 _ _ ?_; try (clear hKq13 Kq13))
              refine wp_ret ?_
              refine fin_ret S (results2 Tryd.results37 (RV.cellO S rfl (by rfl)) (RV.tmp S rfl)) ?_
              (first | (refine RT.ok rfl ?_; unfold numberF; simp only [← hn]; (repeat' split) <;> first | exact ⟨_, rfl, by omega⟩ | (exfalso; omega) | (exfalso; simp_all; done) | (exfalso; simp_all; omega)) | (refine RT.bad rfl (by decide) ?_; unfold numberF; simp only [← hn]; (repeat' split) <;> first | rfl | (exfalso; omega) | (exfalso; simp_all; done) | (exfalso; simp_all; omega)))
end Go.Proofs.YtpgnmnacfilnkaaDoor
