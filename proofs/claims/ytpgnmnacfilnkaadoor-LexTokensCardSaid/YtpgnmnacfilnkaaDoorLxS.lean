/- The walk of the document's At. -/
import Derived.Test.YtpgnmnacfilnkaaDoorLxR
namespace Go.Proofs.YtpgnmnacfilnkaaDoor
open Go Go.Wk Go.Lx
set_option linter.unusedSimpArgs false
set_option linter.unusedVariables false
attribute [local irreducible] Go.wpList Go.Code.wp Go.wpStill Go.Wk.wpPre Go.bodyPost Go.Calls Go.Wk.Ct Go.Wk.OwnS
attribute [local irreducible] Go.Wk.wpG Go.Wk.wpM

section
variable {r : List UInt8}
theorem nextF_low (h1 : low (r.getD 0 0) = true) : nextF r = nameF r := by unfold nextF; simp only []; rw [if_pos h1]
theorem nextF_dig (h1 : low (r.getD 0 0) = false) (h2 : digit (r.getD 0 0) = true) : nextF r = numberF r := by unfold nextF; simp only []; rw [if_neg (by rw [h1]; decide), if_pos h2]
theorem nextF_quo (h1 : low (r.getD 0 0) = false) (h2 : digit (r.getD 0 0) = false) (h3 : (r.getD 0 0).toNat = 34) : nextF r = quotedF r := by
  unfold nextF; simp only []; rw [if_neg (by rw [h1]; decide), if_neg (by rw [h2]; decide), if_pos h3]
theorem nextF_high (h1 : low (r.getD 0 0) = false) (h2 : digit (r.getD 0 0) = false) (h3 : ¬ (r.getD 0 0).toNat = 34) (h4 : high (r.getD 0 0) = true) :
    nextF r = if 32 < run within r then bad 63 else ⟨0, 3, run within r, r.take (run within r)⟩ := by
  unfold nextF; simp only []; rw [if_neg (by rw [h1]; decide), if_neg (by rw [h2]; decide), if_neg h3, if_pos h4]
theorem nextF_any (h1 : low (r.getD 0 0) = false) (h2 : digit (r.getD 0 0) = false) (h3 : ¬ (r.getD 0 0).toNat = 34) (h4 : high (r.getD 0 0) = false) (h5 : (r.getD 0 0).toNat = 95) :
    nextF r = if 1 < run within r then bad 4 else ⟨0, 4, 1, [95]⟩ := by
  unfold nextF; simp only []; rw [if_neg (by rw [h1]; decide), if_neg (by rw [h2]; decide), if_neg h3, if_neg (by rw [h4]; decide), if_pos h5]
theorem nextF_two (h1 : low (r.getD 0 0) = false) (h2 : digit (r.getD 0 0) = false) (h3 : ¬ (r.getD 0 0).toNat = 34) (h4 : high (r.getD 0 0) = false) (h5 : ¬ (r.getD 0 0).toNat = 95) (h6 : twos.contains (r.take 2) = true) :
    nextF r = ⟨0, 8, 2, r.take 2⟩ := by
  unfold nextF; simp only []; rw [if_neg (by rw [h1]; decide), if_neg (by rw [h2]; decide), if_neg h3, if_neg (by rw [h4]; decide), if_neg h5, if_pos h6]
theorem nextF_field (h1 : low (r.getD 0 0) = false) (h2 : digit (r.getD 0 0) = false) (h3 : ¬ (r.getD 0 0).toNat = 34) (h4 : high (r.getD 0 0) = false) (h5 : ¬ (r.getD 0 0).toNat = 95) (h6 : twos.contains (r.take 2) = false)
    (h7 : (r.getD 0 0).toNat = 46) (h8 : low (r.getD 1 0) = true) (h9 : isWord ((r.drop 1).take (run within (r.drop 1))) = false) :
    nextF r = if 32 < run within (r.drop 1) then bad 63 else ⟨0, 9, run within (r.drop 1) + 1, (r.drop 1).take (run within (r.drop 1))⟩ := by
  unfold nextF; simp only []; rw [if_neg (by rw [h1]; decide), if_neg (by rw [h2]; decide), if_neg h3, if_neg (by rw [h4]; decide), if_neg h5, if_neg (by rw [h6]; decide), if_pos ⟨h7, h8, h9⟩]
theorem nextF_rest (h1 : low (r.getD 0 0) = false) (h2 : digit (r.getD 0 0) = false) (h3 : ¬ (r.getD 0 0).toNat = 34) (h4 : high (r.getD 0 0) = false) (h5 : ¬ (r.getD 0 0).toNat = 95) (h6 : twos.contains (r.take 2) = false)
    (h7 : ¬ ((r.getD 0 0).toNat = 46 ∧ low (r.getD 1 0) = true ∧ isWord ((r.drop 1).take (run within (r.drop 1))) = false)) :
    nextF r = if ones.contains (r.getD 0 0) = true then ⟨0, 8, 1, [r.getD 0 0]⟩ else bad 4 := by
  unfold nextF; simp only []; rw [if_neg (by rw [h1]; decide), if_neg (by rw [h2]; decide), if_neg h3, if_neg (by rw [h4]; decide), if_neg h5, if_neg (by rw [h6]; decide), if_neg h7]
end
def twosV : List Value := twos.map fun l => .string (bs l)
theorem cut2 (s : List UInt8) (i : Nat) : (s.take ((i : Int) + 2).toNat).drop ((i : Nat) : Int).toNat = (s.drop i).take 2 := cutT s i 2
theorem RT.of {i : Nat} {g : Fnd} {E : Int × Int × List UInt8} (hE : g.e = 0 → E = (g.kind, ((i + g.size : Nat) : Int), g.text)) : RT i g (.tuple ⟨[.agg ⟨[.int .u8 E.1, .int .i64 E.2.1, .string (bs E.2.2)]⟩, .int .i64 g.e]⟩) := ⟨E, rfl, hE⟩
theorem take1 {r : List UInt8} (h : r ≠ []) : r.take 1 = [r.getD 0 0] := by
  obtain ⟨c, t, rfl⟩ := List.exists_cons_of_ne_nil h
  rfl
theorem twos_short {r : List UInt8} (h : r.length ≤ 1) {j : Nat} (hj : j < twos.length) : (twos[j] == r.take 2) = false := by
  have h1 : (twos[j]).length = 2 := (show ∀ s ∈ twos, s.length = 2 by decide) _ (List.getElem_mem hj)
  rw [beq_eq_false_iff_ne]
  intro h2
  rw [h2, List.length_take] at h1
  omega
theorem contains_at {α : Type} [BEq α] [LawfulBEq α] {l : List α} {x : α} {j : Nat} (hj : j < l.length) (h : l[j] = x) : l.contains x = true := by
  rw [List.contains_iff_mem, ← h]; exact List.getElem_mem hj
theorem contains_no {α : Type} [BEq α] [LawfulBEq α] {l : List α} {x : α} (h : ∀ j, (hj : j < l.length) → (l[j] == x) = false) : l.contains x = false := by
  rw [← Bool.not_eq_true, List.contains_iff_mem]
  intro hm
  obtain ⟨j, hj, he⟩ := List.getElem_of_mem hm
  have h8 := h j hj
  rw [he] at h8; simp at h8

set_option maxRecDepth 10000 in
set_option maxHeartbeats 8000000 in
theorem atCt (s : List UInt8) (i : Nat) (F : Heap) (hi : i < s.length) (hs : s.length ≤ 1000000) : Ct Tryd.prog 20 [.string (bs s), .int .i64 i] F [] (fun _ _ u => RT i (nextF (s.drop i)) u) := by
  have hdl : (s.drop i).length = s.length - i := List.length_drop
  have hne : s.drop i ≠ [] := fun h => by rw [h] at hdl; simp at hdl; omega
  have hg0 : s.getD i 0 = (s.drop i).getD 0 0 := by simp only [List.getD_eq_getElem?_getD, List.getElem?_drop, Nat.add_zero]
  have hg1 : s.getD (i + 1) 0 = (s.drop i).getD 1 0 := by simp only [List.getD_eq_getElem?_getD, List.getElem?_drop]
  have hd1 : s.drop (i + 1) = (s.drop i).drop 1 := by rw [List.drop_drop]
  have ht1 := take1 hne
  have hones : ones.length = 15 := rfl
  obtain ⟨n, hn⟩ : ∃ n, n = run within (s.drop i) := ⟨_, rfl⟩
  obtain ⟨m, hm⟩ : ∃ m, m = run within ((s.drop i).drop 1) := ⟨_, rfl⟩
  have hnl := run_le within (s.drop i)
  have hml := run_le within ((s.drop i).drop 1)
  rw [← hn] at hnl
  rw [← hm, List.length_drop] at hml
  have hlz : s.length ≤ i + 1 → low ((s.drop i).getD 1 0) = false := fun h => by
    rw [← hg1, List.getD_eq_getElem?_getD, List.getElem?_eq_none h]; rfl
  refine Ct.enter Tryd.func20 rfl Tryd.ntmps20 rfl fun w0 a S => ?_
  (refine wp_seq_k ?_; intro Kq1 hKq1)
  refine wp_region_lit ?_
  (refine wpl_alloc S rfl rfl rfl rfl ?_; clear S a; intro b4 a w S)
  (refine wpl_v S rfl rfl rfl (sv_pure S rfl) ?_; clear S a; intro a S)
  refine wpList_nil ?_
  (refine hKq1 _ _ ?_; try (clear hKq1 Kq1))
  (refine wp_seq_k ?_; intro Kq2 hKq2)
  refine wp_region_lit ?_
  (refine wpl_v S rfl rfl rfl (sv_pure S rfl) ?_; clear S a; intro a S)
  (refine wpl_v S rfl rfl rfl (sv_pure S rfl) ?_; clear S a; intro a S)
  first | (refine wpl_v S rfl rfl rfl (sv_indexSN S rfl rfl rfl (by first | omega | (simp only [List.length_append, List.length_cons, List.length_nil]; omega))) ?_; clear S a; intro a S) | (refine wpl_v S rfl rfl rfl (sv_indexS S rfl rfl rfl (by first | omega | (simp only [List.length_append, List.length_cons, List.length_nil]; omega))) ?_; clear S a; intro a S)
  (rw [hg0] at S)
  (refine wpl_v S rfl rfl rfl (sv_pure S rfl) ?_; clear S a; intro a S)
  refine wpList_nil ?_
  (refine hKq2 _ _ ?_; try (clear hKq2 Kq2))
  (refine wp_seq_k ?_; intro Kq3 hKq3)
  (refine wp_seq_k ?_; intro Kq4 hKq4)
  refine wp_region_lit ?_
  (refine wpl_v S rfl rfl rfl (sv_pure S rfl) ?_; clear S a; intro a S)
  ((first | (refine wpl_call0 S rfl rfl rfl rfl rfl rfl (rlowCt ((s.drop i).getD 0 0) F) rfl ?_) | (refine wpl_call0 S rfl rfl rfl rfl rfl rfl (rlowCt ((s.drop i).getD 1 0) F) rfl ?_)); clear S a; intro v a w hv S; subst hv)
  refine wpList_nil ?_
  (refine hKq4 _ _ ?_; try (clear hKq4 Kq4))
  refine wpc_split S rfl (fun h => ?_) (fun h => ?_)
  · (skip; (try simp only [decide_eq_true_eq, decide_eq_false_iff_not, beq_iff_eq, bne_iff_ne, bne_eq_false_iff_eq, beq_eq_false_iff_ne, ne_eq, Bool.not_eq_true', Bool.not_eq_false', Bool.not_eq_true, Bool.not_eq_false, Bool.not_true, Bool.not_false, Int.ofNat_lt, Int.ofNat_le, Nat.not_lt, Nat.not_le] at h))
    (refine wp_seq_k ?_; intro Kq5 hKq5)
    refine wp_region_lit ?_
    (refine wpl_v S rfl rfl rfl (sv_pure S rfl) ?_; clear S a; intro a S)
    (refine wpl_v S rfl rfl rfl (sv_pure S rfl) ?_; clear S a; intro a S)
    (refine wpl_call0 S rfl rfl rfl rfl rfl rfl (rnameCt s i F hi hs) rfl ?_; clear S a; intro v a w hv S; obtain ⟨E, rfl, hE⟩ := hv)
    (refine wpl_v S rfl rfl rfl (sv_pure S rfl) ?_; clear S a; intro a S)
    (refine wpl_v S rfl rfl rfl (sv_pure S rfl) ?_; clear S a; intro a S)
    (refine wpl_storeO S rfl rfl rfl rfl rfl (by rfl) (by simp [Value.cells, Value.oneCell', splice]) (by rfl) ?_; clear S; intro w S)
    (refine wpl_v S rfl rfl rfl (sv_pure S rfl) ?_; clear S a; intro a S)
    refine wpList_nil ?_
    (refine hKq5 _ _ ?_; try (clear hKq5 Kq5))
    refine wp_ret ?_
    refine fin_ret S (results2 Tryd.results20 (RV.cellO S rfl (by rfl)) (RV.tmp S rfl)) ?_
    (first | (rw [nextF_low (by assumption)]; exact RT.of hE) | (rw [nextF_dig (by assumption) (by assumption)]; exact RT.of hE) | (rw [nextF_quo (by assumption) (by assumption) (by omega)]; exact RT.of hE) | (rw [nextF_high (by assumption) (by assumption) (by omega) (by assumption)]; (simp only [← hn, ← hm]; first | (refine RT.ok rfl ?_; (repeat' split) <;> first | exact ⟨_, rfl, by omega⟩ | (exfalso; omega)) | (refine RT.bad rfl (by decide) ?_; (repeat' split) <;> first | rfl | (exfalso; omega)))) | (rw [nextF_any (by assumption) (by assumption) (by omega) (by assumption) (by omega)]; (simp only [← hn, ← hm]; first | (refine RT.ok rfl ?_; (repeat' split) <;> first | exact ⟨_, rfl, by omega⟩ | (exfalso; omega)) | (refine RT.bad rfl (by decide) ?_; (repeat' split) <;> first | rfl | (exfalso; omega)))) | (have h9 : (s.drop i).take 2 = twos[k] := (by assumption); rw [nextF_two (by assumption) (by assumption) (by omega) (by assumption) (by omega) (contains_at hk6 h9.symm), h9]; exact RT.ok rfl ⟨2, rfl, by omega⟩) | (rw [nextF_field (by assumption) (by assumption) (by omega) (by assumption) (by omega) h6 (by omega) (by assumption) (by rw [← hm]; assumption)]; (simp only [← hn, ← hm]; first | (refine RT.ok rfl ?_; (repeat' split) <;> first | exact ⟨_, rfl, by omega⟩ | (exfalso; omega)) | (refine RT.bad rfl (by decide) ?_; (repeat' split) <;> first | rfl | (exfalso; omega)))) | (have hk15 : k < ones.length := (by show k < 15; omega); have ho : ones.getD k 0 = ones[k] := (by rw [List.getD_eq_getElem?_getD, List.getElem?_eq_getElem hk15]; rfl); have h9 : ones[k] = (s.drop i).getD 0 0 := (by rw [← ho]; apply UInt8.toNat_inj.1; omega); rw [nextF_rest (by assumption) (by assumption) (by omega) (by assumption) (by omega) h6 (fun hx => by obtain ⟨x1, x2, x3⟩ := hx; rw [← hm] at x3; first | omega | (rw [hlz (by omega)] at x2; cases x2) | (simp_all; done)), if_pos (contains_at hk15 h9)]; exact RT.ok rfl ⟨1, rfl, by omega⟩) | (rw [nextF_rest (by assumption) (by assumption) (by omega) (by assumption) (by omega) h6 (fun hx => by obtain ⟨x1, x2, x3⟩ := hx; rw [← hm] at x3; first | omega | (rw [hlz (by omega)] at x2; cases x2) | (simp_all; done)), if_neg (by rw [contains_no (fun j hj => hall1 j (by have : j < 15 := hj; omega) hj)]; decide)]; exact RT.bad rfl (by decide) rfl))
  · (skip; (try simp only [decide_eq_true_eq, decide_eq_false_iff_not, beq_iff_eq, bne_iff_ne, bne_eq_false_iff_eq, beq_eq_false_iff_ne, ne_eq, Bool.not_eq_true', Bool.not_eq_false', Bool.not_eq_true, Bool.not_eq_false, Bool.not_true, Bool.not_false, Int.ofNat_lt, Int.ofNat_le, Nat.not_lt, Nat.not_le] at h))
    refine wp_skip ?_
    (refine hKq3 _ _ ?_; try (clear hKq3 Kq3))
    (refine wp_seq_k ?_; intro Kq5 hKq5)
    (refine wp_seq_k ?_; intro Kq6 hKq6)
    refine wp_region_lit ?_
    (refine wpl_v S rfl rfl rfl (sv_pure S rfl) ?_; clear S a; intro a S)
    (refine wpl_call0 S rfl rfl rfl rfl rfl rfl (rdigitCt ((s.drop i).getD 0 0) F) rfl ?_; clear S a; intro v a w hv S; subst hv)
    refine wpList_nil ?_
    (refine hKq6 _ _ ?_; try (clear hKq6 Kq6))
    refine wpc_split S rfl (fun h => ?_) (fun h => ?_)
    · (skip; (try simp only [decide_eq_true_eq, decide_eq_false_iff_not, beq_iff_eq, bne_iff_ne, bne_eq_false_iff_eq, beq_eq_false_iff_ne, ne_eq, Bool.not_eq_true', Bool.not_eq_false', Bool.not_eq_true, Bool.not_eq_false, Bool.not_true, Bool.not_false, Int.ofNat_lt, Int.ofNat_le, Nat.not_lt, Nat.not_le] at h))
      (refine wp_seq_k ?_; intro Kq7 hKq7)
      refine wp_region_lit ?_
      (refine wpl_v S rfl rfl rfl (sv_pure S rfl) ?_; clear S a; intro a S)
      (refine wpl_v S rfl rfl rfl (sv_pure S rfl) ?_; clear S a; intro a S)
      (refine wpl_call0 S rfl rfl rfl rfl rfl rfl (rnumberCt s i F hi hs) rfl ?_; clear S a; intro v a w hv S; obtain ⟨E, rfl, hE⟩ := hv)
      (refine wpl_v S rfl rfl rfl (sv_pure S rfl) ?_; clear S a; intro a S)
      (refine wpl_v S rfl rfl rfl (sv_pure S rfl) ?_; clear S a; intro a S)
      (refine wpl_storeO S rfl rfl rfl rfl rfl (by rfl) (by simp [Value.cells, Value.oneCell', splice]) (by rfl) ?_; clear S; intro w S)
      (refine wpl_v S rfl rfl rfl (sv_pure S rfl) ?_; clear S a; intro a S)
      refine wpList_nil ?_
      (refine hKq7 _ _ ?_; try (clear hKq7 Kq7))
      refine wp_ret ?_
      refine fin_ret S (results2 Tryd.results20 (RV.cellO S rfl (by rfl)) (RV.tmp S rfl)) ?_
      (first | (rw [nextF_low (by assumption)]; exact RT.of hE) | (rw [nextF_dig (by assumption) (by assumption)]; exact RT.of hE) | (rw [nextF_quo (by assumption) (by assumption) (by omega)]; exact RT.of hE) | (rw [nextF_high (by assumption) (by assumption) (by omega) (by assumption)]; (simp only [← hn, ← hm]; first | (refine RT.ok rfl ?_; (repeat' split) <;> first | exact ⟨_, rfl, by omega⟩ | (exfalso; omega)) | (refine RT.bad rfl (by decide) ?_; (repeat' split) <;> first | rfl | (exfalso; omega)))) | (rw [nextF_any (by assumption) (by assumption) (by omega) (by assumption) (by omega)]; (simp only [← hn, ← hm]; first | (refine RT.ok rfl ?_; (repeat' split) <;> first | exact ⟨_, rfl, by omega⟩ | (exfalso; omega)) | (refine RT.bad rfl (by decide) ?_; (repeat' split) <;> first | rfl | (exfalso; omega)))) | (have h9 : (s.drop i).take 2 = twos[k] := (by assumption); rw [nextF_two (by assumption) (by assumption) (by omega) (by assumption) (by omega) (contains_at hk6 h9.symm), h9]; exact RT.ok rfl ⟨2, rfl, by omega⟩) | (rw [nextF_field (by assumption) (by assumption) (by omega) (by assumption) (by omega) h6 (by omega) (by assumption) (by rw [← hm]; assumption)]; (simp only [← hn, ← hm]; first | (refine RT.ok rfl ?_; (repeat' split) <;> first | exact ⟨_, rfl, by omega⟩ | (exfalso; omega)) | (refine RT.bad rfl (by decide) ?_; (repeat' split) <;> first | rfl | (exfalso; omega)))) | (have hk15 : k < ones.length := (by show k < 15; omega); have ho : ones.getD k 0 = ones[k] := (by rw [List.getD_eq_getElem?_getD, List.getElem?_eq_getElem hk15]; rfl); have h9 : ones[k] = (s.drop i).getD 0 0 := (by rw [← ho]; apply UInt8.toNat_inj.1; omega); rw [nextF_rest (by assumption) (by assumption) (by omega) (by assumption) (by omega) h6 (fun hx => by obtain ⟨x1, x2, x3⟩ := hx; rw [← hm] at x3; first | omega | (rw [hlz (by omega)] at x2; cases x2) | (simp_all; done)), if_pos (contains_at hk15 h9)]; exact RT.ok rfl ⟨1, rfl, by omega⟩) | (rw [nextF_rest (by assumption) (by assumption) (by omega) (by assumption) (by omega) h6 (fun hx => by obtain ⟨x1, x2, x3⟩ := hx; rw [← hm] at x3; first | omega | (rw [hlz (by omega)] at x2; cases x2) | (simp_all; done)), if_neg (by rw [contains_no (fun j hj => hall1 j (by have : j < 15 := hj; omega) hj)]; decide)]; exact RT.bad rfl (by decide) rfl))
    · (skip; (try simp only [decide_eq_true_eq, decide_eq_false_iff_not, beq_iff_eq, bne_iff_ne, bne_eq_false_iff_eq, beq_eq_false_iff_ne, ne_eq, Bool.not_eq_true', Bool.not_eq_false', Bool.not_eq_true, Bool.not_eq_false, Bool.not_true, Bool.not_false, Int.ofNat_lt, Int.ofNat_le, Nat.not_lt, Nat.not_le] at h))
      refine wp_skip ?_
      (refine hKq5 _ _ ?_; try (clear hKq5 Kq5))
      (refine wp_seq_k ?_; intro Kq7 hKq7)
      (refine wp_seq_k ?_; intro Kq8 hKq8)
      refine wp_region_lit ?_
      (refine wpl_v S rfl rfl rfl (sv_pure S rfl) ?_; clear S a; intro a S)
      (refine wpl_v S rfl rfl rfl (sv_pure S rfl) ?_; clear S a; intro a S)
      refine wpList_nil ?_
      (refine hKq8 _ _ ?_; try (clear hKq8 Kq8))
      refine wpc_split S rfl (fun h => ?_) (fun h => ?_)
      · (skip; (try simp only [decide_eq_true_eq, decide_eq_false_iff_not, beq_iff_eq, bne_iff_ne, bne_eq_false_iff_eq, beq_eq_false_iff_ne, ne_eq, Bool.not_eq_true', Bool.not_eq_false', Bool.not_eq_true, Bool.not_eq_false, Bool.not_true, Bool.not_false, Int.ofNat_lt, Int.ofNat_le, Nat.not_lt, Nat.not_le] at h))
        (refine wp_seq_k ?_; intro Kq9 hKq9)
        refine wp_region_lit ?_
        (refine wpl_v S rfl rfl rfl (sv_pure S rfl) ?_; clear S a; intro a S)
        (refine wpl_v S rfl rfl rfl (sv_pure S rfl) ?_; clear S a; intro a S)
        (refine wpl_call0 S rfl rfl rfl rfl rfl rfl (rquotedCt s i F hi hs) rfl ?_; clear S a; intro v a w hv S; obtain ⟨E, rfl, hE⟩ := hv)
        (refine wpl_v S rfl rfl rfl (sv_pure S rfl) ?_; clear S a; intro a S)
        (refine wpl_v S rfl rfl rfl (sv_pure S rfl) ?_; clear S a; intro a S)
        (refine wpl_storeO S rfl rfl rfl rfl rfl (by rfl) (by simp [Value.cells, Value.oneCell', splice]) (by rfl) ?_; clear S; intro w S)
        (refine wpl_v S rfl rfl rfl (sv_pure S rfl) ?_; clear S a; intro a S)
        refine wpList_nil ?_
        (refine hKq9 _ _ ?_; try (clear hKq9 Kq9))
        refine wp_ret ?_
        refine fin_ret S (results2 Tryd.results20 (RV.cellO S rfl (by rfl)) (RV.tmp S rfl)) ?_
        (first | (rw [nextF_low (by assumption)]; exact RT.of hE) | (rw [nextF_dig (by assumption) (by assumption)]; exact RT.of hE) | (rw [nextF_quo (by assumption) (by assumption) (by omega)]; exact RT.of hE) | (rw [nextF_high (by assumption) (by assumption) (by omega) (by assumption)]; (simp only [← hn, ← hm]; first | (refine RT.ok rfl ?_; (repeat' split) <;> first | exact ⟨_, rfl, by omega⟩ | (exfalso; omega)) | (refine RT.bad rfl (by decide) ?_; (repeat' split) <;> first | rfl | (exfalso; omega)))) | (rw [nextF_any (by assumption) (by assumption) (by omega) (by assumption) (by omega)]; (simp only [← hn, ← hm]; first | (refine RT.ok rfl ?_; (repeat' split) <;> first | exact ⟨_, rfl, by omega⟩ | (exfalso; omega)) | (refine RT.bad rfl (by decide) ?_; (repeat' split) <;> first | rfl | (exfalso; omega)))) | (have h9 : (s.drop i).take 2 = twos[k] := (by assumption); rw [nextF_two (by assumption) (by assumption) (by omega) (by assumption) (by omega) (contains_at hk6 h9.symm), h9]; exact RT.ok rfl ⟨2, rfl, by omega⟩) | (rw [nextF_field (by assumption) (by assumption) (by omega) (by assumption) (by omega) h6 (by omega) (by assumption) (by rw [← hm]; assumption)]; (simp only [← hn, ← hm]; first | (refine RT.ok rfl ?_; (repeat' split) <;> first | exact ⟨_, rfl, by omega⟩ | (exfalso; omega)) | (refine RT.bad rfl (by decide) ?_; (repeat' split) <;> first | rfl | (exfalso; omega)))) | (have hk15 : k < ones.length := (by show k < 15; omega); have ho : ones.getD k 0 = ones[k] := (by rw [List.getD_eq_getElem?_getD, List.getElem?_eq_getElem hk15]; rfl); have h9 : ones[k] = (s.drop i).getD 0 0 := (by rw [← ho]; apply UInt8.toNat_inj.1; omega); rw [nextF_rest (by assumption) (by assumption) (by omega) (by assumption) (by omega) h6 (fun hx => by obtain ⟨x1, x2, x3⟩ := hx; rw [← hm] at x3; first | omega | (rw [hlz (by omega)] at x2; cases x2) | (simp_all; done)), if_pos (contains_at hk15 h9)]; exact RT.ok rfl ⟨1, rfl, by omega⟩) | (rw [nextF_rest (by assumption) (by assumption) (by omega) (by assumption) (by omega) h6 (fun hx => by obtain ⟨x1, x2, x3⟩ := hx; rw [← hm] at x3; first | omega | (rw [hlz (by omega)] at x2; cases x2) | (simp_all; done)), if_neg (by rw [contains_no (fun j hj => hall1 j (by have : j < 15 := hj; omega) hj)]; decide)]; exact RT.bad rfl (by decide) rfl))
      · (skip; (try simp only [decide_eq_true_eq, decide_eq_false_iff_not, beq_iff_eq, bne_iff_ne, bne_eq_false_iff_eq, beq_eq_false_iff_ne, ne_eq, Bool.not_eq_true', Bool.not_eq_false', Bool.not_eq_true, Bool.not_eq_false, Bool.not_true, Bool.not_false, Int.ofNat_lt, Int.ofNat_le, Nat.not_lt, Nat.not_le] at h))
        refine wp_skip ?_
        (refine hKq7 _ _ ?_; try (clear hKq7 Kq7))
        (refine wp_seq_k ?_; intro Kq9 hKq9)
        (refine wp_seq_k ?_; intro Kq10 hKq10)
        refine wp_region_lit ?_
        (refine wpl_v S rfl rfl rfl (sv_pure S rfl) ?_; clear S a; intro a S)
        (refine wpl_call0 S rfl rfl rfl rfl rfl rfl (rhighCt ((s.drop i).getD 0 0) F) rfl ?_; clear S a; intro v a w hv S; subst hv)
        refine wpList_nil ?_
        (refine hKq10 _ _ ?_; try (clear hKq10 Kq10))
        refine wpc_split S rfl (fun h => ?_) (fun h => ?_)
        · (skip; (try simp only [decide_eq_true_eq, decide_eq_false_iff_not, beq_iff_eq, bne_iff_ne, bne_eq_false_iff_eq, beq_eq_false_iff_ne, ne_eq, Bool.not_eq_true', Bool.not_eq_false', Bool.not_eq_true, Bool.not_eq_false, Bool.not_true, Bool.not_false, Int.ofNat_lt, Int.ofNat_le, Nat.not_lt, Nat.not_le] at h))
          (refine wp_seq_k ?_; intro Kq11 hKq11)
          refine wp_region_lit ?_
          (refine wpl_v S rfl rfl rfl (sv_pure S rfl) ?_; clear S a; intro a S)
          (refine wpl_v S rfl rfl rfl (sv_pure S rfl) ?_; clear S a; intro a S)
          ((first | (refine wpl_call0 S rfl rfl rfl rfl rfl rfl (endCt s i F (by omega) (by omega)) rfl ?_; clear S a; intro v a w hv S; subst hv; rw [← hn] at S) | (refine wpl_call0 S rfl rfl rfl rfl rfl rfl (endCt s (i + 1) F (by omega) (by omega)) rfl ?_; clear S a; intro v a w hv S; subst hv; rw [hd1, ← hm] at S)))
          (refine wpl_v S rfl rfl rfl (sv_pure S rfl) ?_; clear S a; intro a S)
          refine wpList_nil ?_
          (refine hKq11 _ _ ?_; try (clear hKq11 Kq11))
          (refine wp_seq_k ?_; intro Kq12 hKq12)
          (refine wp_seq_k ?_; intro Kq13 hKq13)
          refine wp_region_lit ?_
          (refine wpl_v S rfl rfl rfl (sv_pure S rfl) ?_; clear S a; intro a S)
          (refine wpl_v S rfl rfl rfl (sv_pure S rfl) ?_; clear S a; intro a S)
          (refine wpl_v S rfl rfl rfl (sv_sub S rfl rfl rfl (by first | omega | (simp only [List.length_append, List.length_cons, List.length_nil]; omega))) ?_; clear S a; intro a S)
          (refine wpl_v S rfl rfl rfl (sv_pure S rfl) ?_; clear S a; intro a S)
          refine wpList_nil ?_
          (refine hKq13 _ _ ?_; try (clear hKq13 Kq13))
          refine wpc_split S rfl (fun h => ?_) (fun h => ?_)
          · (skip; (try simp only [decide_eq_true_eq, decide_eq_false_iff_not, beq_iff_eq, bne_iff_ne, bne_eq_false_iff_eq, beq_eq_false_iff_ne, ne_eq, Bool.not_eq_true', Bool.not_eq_false', Bool.not_eq_true, Bool.not_eq_false, Bool.not_true, Bool.not_false, Int.ofNat_lt, Int.ofNat_le, Nat.not_lt, Nat.not_le] at h))
            (refine wp_seq_k ?_; intro Kq14 hKq14)
            refine wp_region_lit ?_
            (refine wpl_v S rfl rfl rfl (sv_build S rfl rfl rfl) ?_; clear S a; intro a S)
            (refine wpl_storeO S rfl rfl rfl rfl rfl (by rfl) (by simp [Value.cells, Value.oneCell', splice]) (by rfl) ?_; clear S; intro w S)
            (refine wpl_v S rfl rfl rfl (sv_pure S rfl) ?_; clear S a; intro a S)
            refine wpList_nil ?_
            (refine hKq14 _ _ ?_; try (clear hKq14 Kq14))
            refine wp_ret ?_
            refine fin_ret S (results2 Tryd.results20 (RV.cellO S rfl (by rfl)) (RV.tmp S rfl)) ?_
            (first | (rw [nextF_low (by assumption)]; exact RT.of hE) | (rw [nextF_dig (by assumption) (by assumption)]; exact RT.of hE) | (rw [nextF_quo (by assumption) (by assumption) (by omega)]; exact RT.of hE) | (rw [nextF_high (by assumption) (by assumption) (by omega) (by assumption)]; (simp only [← hn, ← hm]; first | (refine RT.ok rfl ?_; (repeat' split) <;> first | exact ⟨_, rfl, by omega⟩ | (exfalso; omega)) | (refine RT.bad rfl (by decide) ?_; (repeat' split) <;> first | rfl | (exfalso; omega)))) | (rw [nextF_any (by assumption) (by assumption) (by omega) (by assumption) (by omega)]; (simp only [← hn, ← hm]; first | (refine RT.ok rfl ?_; (repeat' split) <;> first | exact ⟨_, rfl, by omega⟩ | (exfalso; omega)) | (refine RT.bad rfl (by decide) ?_; (repeat' split) <;> first | rfl | (exfalso; omega)))) | (have h9 : (s.drop i).take 2 = twos[k] := (by assumption); rw [nextF_two (by assumption) (by assumption) (by omega) (by assumption) (by omega) (contains_at hk6 h9.symm), h9]; exact RT.ok rfl ⟨2, rfl, by omega⟩) | (rw [nextF_field (by assumption) (by assumption) (by omega) (by assumption) (by omega) h6 (by omega) (by assumption) (by rw [← hm]; assumption)]; (simp only [← hn, ← hm]; first | (refine RT.ok rfl ?_; (repeat' split) <;> first | exact ⟨_, rfl, by omega⟩ | (exfalso; omega)) | (refine RT.bad rfl (by decide) ?_; (repeat' split) <;> first | rfl | (exfalso; omega)))) | (have hk15 : k < ones.length := (by show k < 15; omega); have ho : ones.getD k 0 = ones[k] := (by rw [List.getD_eq_getElem?_getD, List.getElem?_eq_getElem hk15]; rfl); have h9 : ones[k] = (s.drop i).getD 0 0 := (by rw [← ho]; apply UInt8.toNat_inj.1; omega); rw [nextF_rest (by assumption) (by assumption) (by omega) (by assumption) (by omega) h6 (fun hx => by obtain ⟨x1, x2, x3⟩ := hx; rw [← hm] at x3; first | omega | (rw [hlz (by omega)] at x2; cases x2) | (simp_all; done)), if_pos (contains_at hk15 h9)]; exact RT.ok rfl ⟨1, rfl, by omega⟩) | (rw [nextF_rest (by assumption) (by assumption) (by omega) (by assumption) (by omega) h6 (fun hx => by obtain ⟨x1, x2, x3⟩ := hx; rw [← hm] at x3; first | omega | (rw [hlz (by omega)] at x2; cases x2) | (simp_all; done)), if_neg (by rw [contains_no (fun j hj => hall1 j (by have : j < 15 := hj; omega) hj)]; decide)]; exact RT.bad rfl (by decide) rfl))
          · (skip; (try simp only [decide_eq_true_eq, decide_eq_false_iff_not, beq_iff_eq, bne_iff_ne, bne_eq_false_iff_eq, beq_eq_false_iff_ne, ne_eq, Bool.not_eq_true', Bool.not_eq_false', Bool.not_eq_true, Bool.not_eq_false, Bool.not_true, Bool.not_false, Int.ofNat_lt, Int.ofNat_le, Nat.not_lt, Nat.not_le] at h))
            refine wp_skip ?_
            (refine hKq12 _ _ ?_; try (clear hKq12 Kq12))
            (refine wp_seq_k ?_; intro Kq14 hKq14)
            refine wp_region_lit ?_
            (refine wpl_v S rfl rfl rfl (sv_pure S rfl) ?_; clear S a; intro a S)
            (refine wpl_v S rfl rfl rfl (sv_pure S rfl) ?_; clear S a; intro a S)
            (refine wpl_v S rfl rfl rfl (sv_pure S rfl) ?_; clear S a; intro a S)
            (refine wpl_v S rfl rfl rfl (sv_pure S rfl) ?_; clear S a; intro a S)
            (refine wpl_v S rfl rfl rfl (sv_sliceS S rfl rfl rfl rfl (by first | omega | (simp only [List.length_append, List.length_cons, List.length_nil]; omega))) ?_; clear S a; intro a S)
            (rw [cutT] at S)
            (refine wpl_v S rfl rfl rfl (sv_build S rfl rfl rfl) ?_; clear S a; intro a S)
            (refine wpl_storeO S rfl rfl rfl rfl rfl (by rfl) (by simp [Value.cells, Value.oneCell', splice]) (by rfl) ?_; clear S; intro w S)
            (refine wpl_v S rfl rfl rfl (sv_pure S rfl) ?_; clear S a; intro a S)
            refine wpList_nil ?_
            (refine hKq14 _ _ ?_; try (clear hKq14 Kq14))
            refine wp_ret ?_
            refine fin_ret S (results2 Tryd.results20 (RV.cellO S rfl (by rfl)) (RV.tmp S rfl)) ?_
            (first | (rw [nextF_low (by assumption)]; exact RT.of hE) | (rw [nextF_dig (by assumption) (by assumption)]; exact RT.of hE) | (rw [nextF_quo (by assumption) (by assumption) (by omega)]; exact RT.of hE) | (rw [nextF_high (by assumption) (by assumption) (by omega) (by assumption)]; (simp only [← hn, ← hm]; first | (refine RT.ok rfl ?_; (repeat' split) <;> first | exact ⟨_, rfl, by omega⟩ | (exfalso; omega)) | (refine RT.bad rfl (by decide) ?_; (repeat' split) <;> first | rfl | (exfalso; omega)))) | (rw [nextF_any (by assumption) (by assumption) (by omega) (by assumption) (by omega)]; (simp only [← hn, ← hm]; first | (refine RT.ok rfl ?_; (repeat' split) <;> first | exact ⟨_, rfl, by omega⟩ | (exfalso; omega)) | (refine RT.bad rfl (by decide) ?_; (repeat' split) <;> first | rfl | (exfalso; omega)))) | (have h9 : (s.drop i).take 2 = twos[k] := (by assumption); rw [nextF_two (by assumption) (by assumption) (by omega) (by assumption) (by omega) (contains_at hk6 h9.symm), h9]; exact RT.ok rfl ⟨2, rfl, by omega⟩) | (rw [nextF_field (by assumption) (by assumption) (by omega) (by assumption) (by omega) h6 (by omega) (by assumption) (by rw [← hm]; assumption)]; (simp only [← hn, ← hm]; first | (refine RT.ok rfl ?_; (repeat' split) <;> first | exact ⟨_, rfl, by omega⟩ | (exfalso; omega)) | (refine RT.bad rfl (by decide) ?_; (repeat' split) <;> first | rfl | (exfalso; omega)))) | (have hk15 : k < ones.length := (by show k < 15; omega); have ho : ones.getD k 0 = ones[k] := (by rw [List.getD_eq_getElem?_getD, List.getElem?_eq_getElem hk15]; rfl); have h9 : ones[k] = (s.drop i).getD 0 0 := (by rw [← ho]; apply UInt8.toNat_inj.1; omega); rw [nextF_rest (by assumption) (by assumption) (by omega) (by assumption) (by omega) h6 (fun hx => by obtain ⟨x1, x2, x3⟩ := hx; rw [← hm] at x3; first | omega | (rw [hlz (by omega)] at x2; cases x2) | (simp_all; done)), if_pos (contains_at hk15 h9)]; exact RT.ok rfl ⟨1, rfl, by omega⟩) | (rw [nextF_rest (by assumption) (by assumption) (by omega) (by assumption) (by omega) h6 (fun hx => by obtain ⟨x1, x2, x3⟩ := hx; rw [← hm] at x3; first | omega | (rw [hlz (by omega)] at x2; cases x2) | (simp_all; done)), if_neg (by rw [contains_no (fun j hj => hall1 j (by have : j < 15 := hj; omega) hj)]; decide)]; exact RT.bad rfl (by decide) rfl))
        · (skip; (try simp only [decide_eq_true_eq, decide_eq_false_iff_not, beq_iff_eq, bne_iff_ne, bne_eq_false_iff_eq, beq_eq_false_iff_ne, ne_eq, Bool.not_eq_true', Bool.not_eq_false', Bool.not_eq_true, Bool.not_eq_false, Bool.not_true, Bool.not_false, Int.ofNat_lt, Int.ofNat_le, Nat.not_lt, Nat.not_le] at h))
          refine wp_skip ?_
          (refine hKq9 _ _ ?_; try (clear hKq9 Kq9))
          (refine wp_seq_k ?_; intro Kq11 hKq11)
          (refine wp_seq_k ?_; intro Kq12 hKq12)
          refine wp_region_lit ?_
          (refine wpl_v S rfl rfl rfl (sv_pure S rfl) ?_; clear S a; intro a S)
          (refine wpl_v S rfl rfl rfl (sv_pure S rfl) ?_; clear S a; intro a S)
          refine wpList_nil ?_
          (refine hKq12 _ _ ?_; try (clear hKq12 Kq12))
          refine wpc_split S rfl (fun h => ?_) (fun h => ?_)
          · (skip; (try simp only [decide_eq_true_eq, decide_eq_false_iff_not, beq_iff_eq, bne_iff_ne, bne_eq_false_iff_eq, beq_eq_false_iff_ne, ne_eq, Bool.not_eq_true', Bool.not_eq_false', Bool.not_eq_true, Bool.not_eq_false, Bool.not_true, Bool.not_false, Int.ofNat_lt, Int.ofNat_le, Nat.not_lt, Nat.not_le] at h))
            (refine wp_seq_k ?_; intro Kq13 hKq13)
            (refine wp_seq_k ?_; intro Kq14 hKq14)
            refine wp_region_lit ?_
            (refine wpl_v S rfl rfl rfl (sv_pure S rfl) ?_; clear S a; intro a S)
            (refine wpl_v S rfl rfl rfl (sv_pure S rfl) ?_; clear S a; intro a S)
            ((first | (refine wpl_call0 S rfl rfl rfl rfl rfl rfl (endCt s i F (by omega) (by omega)) rfl ?_; clear S a; intro v a w hv S; subst hv; rw [← hn] at S) | (refine wpl_call0 S rfl rfl rfl rfl rfl rfl (endCt s (i + 1) F (by omega) (by omega)) rfl ?_; clear S a; intro v a w hv S; subst hv; rw [hd1, ← hm] at S)))
            (refine wpl_v S rfl rfl rfl (sv_pure S rfl) ?_; clear S a; intro a S)
            (refine wpl_v S rfl rfl rfl (sv_add S rfl rfl rfl (by first | omega | (simp only [List.length_append, List.length_cons, List.length_nil]; omega))) ?_; clear S a; intro a S)
            (refine wpl_v S rfl rfl rfl (sv_pure S rfl) ?_; clear S a; intro a S)
            refine wpList_nil ?_
            (refine hKq14 _ _ ?_; try (clear hKq14 Kq14))
            refine wpc_split S rfl (fun h => ?_) (fun h => ?_)
            · (skip; (try simp only [decide_eq_true_eq, decide_eq_false_iff_not, beq_iff_eq, bne_iff_ne, bne_eq_false_iff_eq, beq_eq_false_iff_ne, ne_eq, Bool.not_eq_true', Bool.not_eq_false', Bool.not_eq_true, Bool.not_eq_false, Bool.not_true, Bool.not_false, Int.ofNat_lt, Int.ofNat_le, Nat.not_lt, Nat.not_le] at h))
              (refine wp_seq_k ?_; intro Kq15 hKq15)
              refine wp_region_lit ?_
              (refine wpl_v S rfl rfl rfl (sv_build S rfl rfl rfl) ?_; clear S a; intro a S)
              (refine wpl_storeO S rfl rfl rfl rfl rfl (by rfl) (by simp [Value.cells, Value.oneCell', splice]) (by rfl) ?_; clear S; intro w S)
              (refine wpl_v S rfl rfl rfl (sv_pure S rfl) ?_; clear S a; intro a S)
              refine wpList_nil ?_
              (refine hKq15 _ _ ?_; try (clear hKq15 Kq15))
              refine wp_ret ?_
              refine fin_ret S (results2 Tryd.results20 (RV.cellO S rfl (by rfl)) (RV.tmp S rfl)) ?_
              (first | (rw [nextF_low (by assumption)]; exact RT.of hE) | (rw [nextF_dig (by assumption) (by assumption)]; exact RT.of hE) | (rw [nextF_quo (by assumption) (by assumption) (by omega)]; exact RT.of hE) | (rw [nextF_high (by assumption) (by assumption) (by omega) (by assumption)]; (simp only [← hn, ← hm]; first | (refine RT.ok rfl ?_; (repeat' split) <;> first | exact ⟨_, rfl, by omega⟩ | (exfalso; omega)) | (refine RT.bad rfl (by decide) ?_; (repeat' split) <;> first | rfl | (exfalso; omega)))) | (rw [nextF_any (by assumption) (by assumption) (by omega) (by assumption) (by omega)]; (simp only [← hn, ← hm]; first | (refine RT.ok rfl ?_; (repeat' split) <;> first | exact ⟨_, rfl, by omega⟩ | (exfalso; omega)) | (refine RT.bad rfl (by decide) ?_; (repeat' split) <;> first | rfl | (exfalso; omega)))) | (have h9 : (s.drop i).take 2 = twos[k] := (by assumption); rw [nextF_two (by assumption) (by assumption) (by omega) (by assumption) (by omega) (contains_at hk6 h9.symm), h9]; exact RT.ok rfl ⟨2, rfl, by omega⟩) | (rw [nextF_field (by assumption) (by assumption) (by omega) (by assumption) (by omega) h6 (by omega) (by assumption) (by rw [← hm]; assumption)]; (simp only [← hn, ← hm]; first | (refine RT.ok rfl ?_; (repeat' split) <;> first | exact ⟨_, rfl, by omega⟩ | (exfalso; omega)) | (refine RT.bad rfl (by decide) ?_; (repeat' split) <;> first | rfl | (exfalso; omega)))) | (have hk15 : k < ones.length := (by show k < 15; omega); have ho : ones.getD k 0 = ones[k] := (by rw [List.getD_eq_getElem?_getD, List.getElem?_eq_getElem hk15]; rfl); have h9 : ones[k] = (s.drop i).getD 0 0 := (by rw [← ho]; apply UInt8.toNat_inj.1; omega); rw [nextF_rest (by assumption) (by assumption) (by omega) (by assumption) (by omega) h6 (fun hx => by obtain ⟨x1, x2, x3⟩ := hx; rw [← hm] at x3; first | omega | (rw [hlz (by omega)] at x2; cases x2) | (simp_all; done)), if_pos (contains_at hk15 h9)]; exact RT.ok rfl ⟨1, rfl, by omega⟩) | (rw [nextF_rest (by assumption) (by assumption) (by omega) (by assumption) (by omega) h6 (fun hx => by obtain ⟨x1, x2, x3⟩ := hx; rw [← hm] at x3; first | omega | (rw [hlz (by omega)] at x2; cases x2) | (simp_all; done)), if_neg (by rw [contains_no (fun j hj => hall1 j (by have : j < 15 := hj; omega) hj)]; decide)]; exact RT.bad rfl (by decide) rfl))
            · (skip; (try simp only [decide_eq_true_eq, decide_eq_false_iff_not, beq_iff_eq, bne_iff_ne, bne_eq_false_iff_eq, beq_eq_false_iff_ne, ne_eq, Bool.not_eq_true', Bool.not_eq_false', Bool.not_eq_true, Bool.not_eq_false, Bool.not_true, Bool.not_false, Int.ofNat_lt, Int.ofNat_le, Nat.not_lt, Nat.not_le] at h))
              refine wp_skip ?_
              (refine hKq13 _ _ ?_; try (clear hKq13 Kq13))
              (refine wp_seq_k ?_; intro Kq15 hKq15)
              refine wp_region_lit ?_
              (refine wpl_v S rfl rfl rfl (sv_pure S rfl) ?_; clear S a; intro a S)
              (refine wpl_v S rfl rfl rfl (sv_add S rfl rfl rfl (by first | omega | (simp only [List.length_append, List.length_cons, List.length_nil]; omega))) ?_; clear S a; intro a S)
              (refine wpl_v S rfl rfl rfl (sv_build S rfl rfl rfl) ?_; clear S a; intro a S)
              (refine wpl_storeO S rfl rfl rfl rfl rfl (by rfl) (by simp [Value.cells, Value.oneCell', splice]) (by rfl) ?_; clear S; intro w S)
              (refine wpl_v S rfl rfl rfl (sv_pure S rfl) ?_; clear S a; intro a S)
              refine wpList_nil ?_
              (refine hKq15 _ _ ?_; try (clear hKq15 Kq15))
              refine wp_ret ?_
              refine fin_ret S (results2 Tryd.results20 (RV.cellO S rfl (by rfl)) (RV.tmp S rfl)) ?_
              (first | (rw [nextF_low (by assumption)]; exact RT.of hE) | (rw [nextF_dig (by assumption) (by assumption)]; exact RT.of hE) | (rw [nextF_quo (by assumption) (by assumption) (by omega)]; exact RT.of hE) | (rw [nextF_high (by assumption) (by assumption) (by omega) (by assumption)]; (simp only [← hn, ← hm]; first | (refine RT.ok rfl ?_; (repeat' split) <;> first | exact ⟨_, rfl, by omega⟩ | (exfalso; omega)) | (refine RT.bad rfl (by decide) ?_; (repeat' split) <;> first | rfl | (exfalso; omega)))) | (rw [nextF_any (by assumption) (by assumption) (by omega) (by assumption) (by omega)]; (simp only [← hn, ← hm]; first | (refine RT.ok rfl ?_; (repeat' split) <;> first | exact ⟨_, rfl, by omega⟩ | (exfalso; omega)) | (refine RT.bad rfl (by decide) ?_; (repeat' split) <;> first | rfl | (exfalso; omega)))) | (have h9 : (s.drop i).take 2 = twos[k] := (by assumption); rw [nextF_two (by assumption) (by assumption) (by omega) (by assumption) (by omega) (contains_at hk6 h9.symm), h9]; exact RT.ok rfl ⟨2, rfl, by omega⟩) | (rw [nextF_field (by assumption) (by assumption) (by omega) (by assumption) (by omega) h6 (by omega) (by assumption) (by rw [← hm]; assumption)]; (simp only [← hn, ← hm]; first | (refine RT.ok rfl ?_; (repeat' split) <;> first | exact ⟨_, rfl, by omega⟩ | (exfalso; omega)) | (refine RT.bad rfl (by decide) ?_; (repeat' split) <;> first | rfl | (exfalso; omega)))) | (have hk15 : k < ones.length := (by show k < 15; omega); have ho : ones.getD k 0 = ones[k] := (by rw [List.getD_eq_getElem?_getD, List.getElem?_eq_getElem hk15]; rfl); have h9 : ones[k] = (s.drop i).getD 0 0 := (by rw [← ho]; apply UInt8.toNat_inj.1; omega); rw [nextF_rest (by assumption) (by assumption) (by omega) (by assumption) (by omega) h6 (fun hx => by obtain ⟨x1, x2, x3⟩ := hx; rw [← hm] at x3; first | omega | (rw [hlz (by omega)] at x2; cases x2) | (simp_all; done)), if_pos (contains_at hk15 h9)]; exact RT.ok rfl ⟨1, rfl, by omega⟩) | (rw [nextF_rest (by assumption) (by assumption) (by omega) (by assumption) (by omega) h6 (fun hx => by obtain ⟨x1, x2, x3⟩ := hx; rw [← hm] at x3; first | omega | (rw [hlz (by omega)] at x2; cases x2) | (simp_all; done)), if_neg (by rw [contains_no (fun j hj => hall1 j (by have : j < 15 := hj; omega) hj)]; decide)]; exact RT.bad rfl (by decide) rfl))
          · (skip; (try simp only [decide_eq_true_eq, decide_eq_false_iff_not, beq_iff_eq, bne_iff_ne, bne_eq_false_iff_eq, beq_eq_false_iff_ne, ne_eq, Bool.not_eq_true', Bool.not_eq_false', Bool.not_eq_true, Bool.not_eq_false, Bool.not_true, Bool.not_false, Int.ofNat_lt, Int.ofNat_le, Nat.not_lt, Nat.not_le] at h))
            refine wp_skip ?_
            (refine hKq11 _ _ ?_; try (clear hKq11 Kq11))
            (refine wp_seq_k ?_; intro Kq13 hKq13)
            refine wp_region_lit ?_
            (refine wpl_buildSlice S rfl rfl rfl rfl rfl rfl (by rfl) (by simp [Value.cells, splice, splice]) rfl (by rfl) (by rfl) ?_; clear S a; intro b65 a w hown S)
            (refine wpl_v S rfl rfl rfl (sv_pure S rfl) ?_; clear S a; intro a S)
            refine wpList_nil ?_
            (refine hKq13 _ _ ?_; try (clear hKq13 Kq13))
            (refine wp_seq_k ?_; intro Kq14 hKq14)
            (refine wp_seq_k ?_; intro Kq15 hKq15)
            refine wp_region_lit ?_
            (refine wpl_v S rfl rfl rfl (sv_pure S rfl) ?_; clear S a; intro a S)
            refine wpList_nil ?_
            (refine hKq15 _ _ ?_; try (clear hKq15 Kq15))
            refine wp_block ?_
            refine wpc_loop (fun m a w' => ∃ (k : Nat), m = 6 - k ∧ k ≤ 6 ∧ (∀ j, (hj : j < k) → (hj2 : j < twos.length) → ((twos[j]'hj2) == (s.drop i).take 2) = false) ∧ St 156 [(0, .string (bs s)), (1, .int .i64 i), (4, .pointer (some ⟨b4, 0, none⟩)), (6, .int .u8 ((s.drop i).getD 0 0).toNat), (8, .slice (some ⟨b65, 0, none⟩) 6 6), (9, .int .i64 k)] w0 F [] F [[(b65, .cells ⟨twosV⟩ 9 (0, 0))], [(b4, .cells ⟨[.int .u8 0, .int .i64 0, .string (bs [])]⟩ 56 (0, 0))]] a w') ?_ ?_
            · (refine ⟨6, 0, by simp, Nat.zero_le _, fun j hj => by omega, ?_⟩; refine S.keep ?_; repeat (first | exact trivial | refine ⟨rfl, ?_⟩))
            · (clear S; rintro m' a w ⟨k, rfl, hk, hall, S⟩)
              (refine wp_seq_k ?_; intro Kq16 hKq16)
              (refine wp_seq_k ?_; intro Kq17 hKq17)
              refine wp_region_lit ?_
              (refine wpl_v S rfl rfl rfl (sv_pure S rfl) ?_; clear S a; intro a S)
              (refine wpl_v S rfl rfl rfl (sv_pure S rfl) ?_; clear S a; intro a S)
              (refine wpl_v S rfl rfl rfl (sv_lenSl S rfl rfl) ?_; clear S a; intro a S)
              (refine wpl_v S rfl rfl rfl (sv_pure S rfl) ?_; clear S a; intro a S)
              refine wpList_nil ?_
              (refine hKq17 _ _ ?_; try (clear hKq17 Kq17))
              refine wpc_split S rfl (fun h => ?_) (fun h => ?_)
              · (skip; (try simp only [decide_eq_true_eq, decide_eq_false_iff_not, beq_iff_eq, bne_iff_ne, bne_eq_false_iff_eq, beq_eq_false_iff_ne, ne_eq, Bool.not_eq_true', Bool.not_eq_false', Bool.not_eq_true, Bool.not_eq_false, Bool.not_true, Bool.not_false, Int.ofNat_lt, Int.ofNat_le, Nat.not_lt, Nat.not_le] at h))
                refine wp_skip ?_
                (refine hKq16 _ _ ?_; try (clear hKq16 Kq16))
                (refine wp_seq_k ?_; intro Kq18 hKq18)
                refine wp_block ?_
                (refine wp_seq_k ?_; intro Kq19 hKq19)
                (have hk6 : k < twos.length := (by show k < 6; omega); have hx : twosV[0 + k * 1]? = some (.string (bs (twos[k]'hk6))) := (by unfold twosV; rw [Nat.zero_add, Nat.mul_one, List.getElem?_map, List.getElem?_eq_getElem hk6]; rfl))
                (refine wpc_mixM [0, 1, 2, 3, 4, 5, 6, 7, 8, 9, 10, 11, 12, 13, 14, 15, 16] [14] [] (.one 0 (.one 1 (.one 2 (.one 3 (.one 4 (.one 5 (.one 6 (.one 7 (.one 8 (.one 9 (.one 10 (.one 11 (.one 12 (.one 13 (.one 14 (.one 15 (.one 16 .nil))))))))))))))))) [b65] S mixed (by kernel_rfl) ?_; clear S; intro w S)
                (refine wpm_v S rfl rfl rfl (want_none _ rfl) rfl rfl (fun w' S => sv_pure S rfl) ?_; clear S a; intro a S)
                (refine wpm_v S rfl rfl rfl (want_none _ rfl) rfl rfl (fun w' S => sv_add S rfl rfl rfl (by first | omega | (simp only [List.length_append, List.length_cons, List.length_nil]; omega))) ?_; clear S a; intro a S)
                (refine wpm_v S rfl rfl rfl (want_none _ rfl) rfl rfl (fun w' S => sv_pure S rfl) ?_; clear S a; intro a S)
                (refine wpm_v S rfl rfl rfl (want_none _ rfl) rfl rfl (fun w' S => sv_lenS S rfl rfl) ?_; clear S a; intro a S)
                (refine wpm_v S rfl rfl rfl (want_none _ rfl) rfl rfl (fun w' S => sv_pure S rfl) ?_; clear S a; intro a S)
                (refine wpm_v S rfl rfl rfl (want_none _ rfl) rfl rfl (fun w' S => sv_pure S rfl) ?_; clear S a; intro a S)
                refine St.part (dj := 77) (want := true) S rfl ?_ ?_
                · (intro h S'; clear S; have S := S'; clear S'; (try simp only [decide_eq_true_eq, decide_eq_false_iff_not, beq_iff_eq, bne_iff_ne, bne_eq_false_iff_eq, beq_eq_false_iff_ne, ne_eq, Bool.not_eq_true', Bool.not_eq_false', Bool.not_eq_true, Bool.not_eq_false, Bool.not_true, Bool.not_false, Int.ofNat_lt, Int.ofNat_le, Nat.not_lt, Nat.not_le] at h))
                  (refine wpm_v S rfl rfl rfl (want_yes S rfl rfl rfl) rfl rfl (fun w' S => sv_pure S rfl) ?_; clear S a; intro a S)
                  (refine wpm_v S rfl rfl rfl (want_yes S rfl rfl rfl) rfl rfl (fun w' S => sv_pure S rfl) ?_; clear S a; intro a S)
                  (refine wpm_v S rfl rfl rfl (want_yes S rfl rfl rfl) rfl rfl (fun w' S => sv_pure S rfl) ?_; clear S a; intro a S)
                  (refine wpm_v S rfl rfl rfl (want_yes S rfl rfl rfl) rfl rfl (fun w' S => sv_add S rfl rfl rfl (by first | omega | (simp only [List.length_append, List.length_cons, List.length_nil]; omega))) ?_; clear S a; intro a S)
                  (refine wpm_v S rfl rfl rfl (want_yes S rfl rfl rfl) rfl rfl (fun w' S => sv_sliceS S rfl rfl rfl rfl (by first | omega | (simp only [List.length_append, List.length_cons, List.length_nil]; omega))) ?_; clear S a; intro a S)
                  (rw [cut2] at S)
                  (refine wpm_v S rfl rfl rfl (want_yes S rfl rfl rfl) rfl rfl (fun w' S => sv_pure S rfl) ?_; clear S a; intro a S)
                  (refine wpm_v S rfl rfl rfl (want_yes S rfl rfl rfl) rfl rfl (fun w' S => sv_pure S rfl) ?_; clear S a; intro a S)
                  (refine wpm_v S rfl rfl rfl (want_yes S rfl rfl rfl) rfl rfl (fun w' S => sv_indexAddrSl S rfl rfl rfl (by first | omega | (simp only [List.length_append, List.length_cons, List.length_nil]; omega))) ?_; clear S a; intro a S)
                  (refine wpm_lateO b65 S rfl rfl rfl (want_yes S rfl rfl rfl) rfl rfl (fun w' S => sv_loadO S rfl rfl hx) ?_; clear S a; intro a S)
                  (refine wpm_v S rfl rfl rfl (want_yes S rfl rfl rfl) rfl rfl (fun w' S => sv_pure S rfl) ?_; clear S a; intro a S)
                  first | (refine wpm_v S rfl rfl rfl (want_none _ rfl) rfl rfl (fun w' S => sv_pure S rfl) ?_; clear S a; intro a S) | (refine wpm_v S rfl rfl rfl (want_none _ rfl) rfl rfl (fun w' S => sv_pickB S rfl rfl rfl rfl) ?_; clear S a; intro a S)
                  refine wpm_nil (fun _ => ⟨fun b o h => S.tr.frz b o (by first | exact h | solve_by_elim), S.has inferInstance, trivial⟩) ?_
                  (refine hKq19 _ _ ?_; try (clear hKq19 Kq19))
                  refine wpc_split S rfl (fun h => ?_) (fun h => ?_)
                  · (skip; (try simp only [decide_eq_true_eq, decide_eq_false_iff_not, beq_iff_eq, bne_iff_ne, bne_eq_false_iff_eq, beq_eq_false_iff_ne, ne_eq, Bool.not_eq_true', Bool.not_eq_false', Bool.not_eq_true, Bool.not_eq_false, Bool.not_true, Bool.not_false, Int.ofNat_lt, Int.ofNat_le, Nat.not_lt, Nat.not_le] at h))
                    (refine wp_seq_k ?_; intro Kq20 hKq20)
                    refine wp_region_lit ?_
                    (refine wpl_v S rfl rfl rfl (sv_pure S rfl) ?_; clear S a; intro a S)
                    (refine wpl_v S rfl rfl rfl (sv_add S rfl rfl rfl (by first | omega | (simp only [List.length_append, List.length_cons, List.length_nil]; omega))) ?_; clear S a; intro a S)
                    (refine wpl_v S rfl rfl rfl (sv_pure S rfl) ?_; clear S a; intro a S)
                    (refine wpl_v S rfl rfl rfl (sv_pure S rfl) ?_; clear S a; intro a S)
                    (refine wpl_v S rfl rfl rfl (sv_indexAddrSl S rfl rfl rfl (by first | omega | (simp only [List.length_append, List.length_cons, List.length_nil]; omega))) ?_; clear S a; intro a S)
                    (refine wpl_v S rfl rfl rfl (sv_loadO S rfl rfl hx) ?_; clear S a; intro a S)
                    (refine wpl_v S rfl rfl rfl (sv_build S rfl rfl rfl) ?_; clear S a; intro a S)
                    (refine wpl_storeO S rfl rfl rfl rfl rfl (by rfl) (by simp [Value.cells, Value.oneCell', splice]) (by rfl) ?_; clear S; intro w S)
                    (refine wpl_v S rfl rfl rfl (sv_pure S rfl) ?_; clear S a; intro a S)
                    refine wpList_nil ?_
                    (refine hKq20 _ _ ?_; try (clear hKq20 Kq20))
                    refine wp_ret ?_
                    refine fin_ret S (results2 Tryd.results20 (RV.cellO S rfl (by rfl)) (RV.tmp S rfl)) ?_
                    (first | (rw [nextF_low (by assumption)]; exact RT.of hE) | (rw [nextF_dig (by assumption) (by assumption)]; exact RT.of hE) | (rw [nextF_quo (by assumption) (by assumption) (by omega)]; exact RT.of hE) | (rw [nextF_high (by assumption) (by assumption) (by omega) (by assumption)]; (simp only [← hn, ← hm]; first | (refine RT.ok rfl ?_; (repeat' split) <;> first | exact ⟨_, rfl, by omega⟩ | (exfalso; omega)) | (refine RT.bad rfl (by decide) ?_; (repeat' split) <;> first | rfl | (exfalso; omega)))) | (rw [nextF_any (by assumption) (by assumption) (by omega) (by assumption) (by omega)]; (simp only [← hn, ← hm]; first | (refine RT.ok rfl ?_; (repeat' split) <;> first | exact ⟨_, rfl, by omega⟩ | (exfalso; omega)) | (refine RT.bad rfl (by decide) ?_; (repeat' split) <;> first | rfl | (exfalso; omega)))) | (have h9 : (s.drop i).take 2 = twos[k] := (by assumption); rw [nextF_two (by assumption) (by assumption) (by omega) (by assumption) (by omega) (contains_at hk6 h9.symm), h9]; exact RT.ok rfl ⟨2, rfl, by omega⟩) | (rw [nextF_field (by assumption) (by assumption) (by omega) (by assumption) (by omega) h6 (by omega) (by assumption) (by rw [← hm]; assumption)]; (simp only [← hn, ← hm]; first | (refine RT.ok rfl ?_; (repeat' split) <;> first | exact ⟨_, rfl, by omega⟩ | (exfalso; omega)) | (refine RT.bad rfl (by decide) ?_; (repeat' split) <;> first | rfl | (exfalso; omega)))) | (have hk15 : k < ones.length := (by show k < 15; omega); have ho : ones.getD k 0 = ones[k] := (by rw [List.getD_eq_getElem?_getD, List.getElem?_eq_getElem hk15]; rfl); have h9 : ones[k] = (s.drop i).getD 0 0 := (by rw [← ho]; apply UInt8.toNat_inj.1; omega); rw [nextF_rest (by assumption) (by assumption) (by omega) (by assumption) (by omega) h6 (fun hx => by obtain ⟨x1, x2, x3⟩ := hx; rw [← hm] at x3; first | omega | (rw [hlz (by omega)] at x2; cases x2) | (simp_all; done)), if_pos (contains_at hk15 h9)]; exact RT.ok rfl ⟨1, rfl, by omega⟩) | (rw [nextF_rest (by assumption) (by assumption) (by omega) (by assumption) (by omega) h6 (fun hx => by obtain ⟨x1, x2, x3⟩ := hx; rw [← hm] at x3; first | omega | (rw [hlz (by omega)] at x2; cases x2) | (simp_all; done)), if_neg (by rw [contains_no (fun j hj => hall1 j (by have : j < 15 := hj; omega) hj)]; decide)]; exact RT.bad rfl (by decide) rfl))
                  · (skip; (try simp only [decide_eq_true_eq, decide_eq_false_iff_not, beq_iff_eq, bne_iff_ne, bne_eq_false_iff_eq, beq_eq_false_iff_ne, ne_eq, Bool.not_eq_true', Bool.not_eq_false', Bool.not_eq_true, Bool.not_eq_false, Bool.not_true, Bool.not_false, Int.ofNat_lt, Int.ofNat_le, Nat.not_lt, Nat.not_le] at h))
                    refine wp_skip ?_
                    (refine hKq18 _ _ ?_; try (clear hKq18 Kq18))
                    refine wp_region_lit ?_
                    (refine wpl_v S rfl rfl rfl (sv_pure S rfl) ?_; clear S a; intro a S)
                    (refine wpl_v S rfl rfl rfl (sv_add S rfl rfl rfl (by first | omega | (simp only [List.length_append, List.length_cons, List.length_nil]; omega))) ?_; clear S a; intro a S)
                    (refine wpl_v S rfl rfl rfl (sv_pure S rfl) ?_; clear S a; intro a S)
                    refine wpList_nil ?_
                    change ∃ m', _ ∧ _
                    (refine ⟨6 - (k + 1), by omega, k + 1, rfl, by omega, fun j hj hj2 => (by rcases Nat.lt_or_eq_of_le (Nat.le_of_lt_succ hj) with h9 | h9; exact hall j h9 hj2; subst h9; first | exact twos_short (by omega) hj2 | (rw [beq_eq_false_iff_ne]; exact fun h8 => absurd h8.symm (by assumption))), ?_⟩; refine S.keep ?_; repeat (first | exact trivial | refine ⟨rfl, ?_⟩))
                · (intro h S'; clear S; have S := S'; clear S'; (try simp only [decide_eq_true_eq, decide_eq_false_iff_not, beq_iff_eq, bne_iff_ne, bne_eq_false_iff_eq, beq_eq_false_iff_ne, ne_eq, Bool.not_eq_true', Bool.not_eq_false', Bool.not_eq_true, Bool.not_eq_false, Bool.not_true, Bool.not_false, Int.ofNat_lt, Int.ofNat_le, Nat.not_lt, Nat.not_le] at h))
                  (refine wpm_skip S rfl rfl (want_no S rfl rfl rfl) rfl rfl ?_; clear S a; intro a S)
                  (refine wpm_skip S rfl rfl (want_no S rfl rfl rfl) rfl rfl ?_; clear S a; intro a S)
                  (refine wpm_skip S rfl rfl (want_no S rfl rfl rfl) rfl rfl ?_; clear S a; intro a S)
                  (refine wpm_skip S rfl rfl (want_no S rfl rfl rfl) rfl rfl ?_; clear S a; intro a S)
                  (refine wpm_skip S rfl rfl (want_no S rfl rfl rfl) rfl rfl ?_; clear S a; intro a S)
                  (refine wpm_skip S rfl rfl (want_no S rfl rfl rfl) rfl rfl ?_; clear S a; intro a S)
                  (refine wpm_skip S rfl rfl (want_no S rfl rfl rfl) rfl rfl ?_; clear S a; intro a S)
                  (refine wpm_skip S rfl rfl (want_no S rfl rfl rfl) rfl rfl ?_; clear S a; intro a S)
                  (refine wpm_skip S rfl rfl (want_no S rfl rfl rfl) rfl rfl ?_; clear S a; intro a S)
                  (refine wpm_skip S rfl rfl (want_no S rfl rfl rfl) rfl rfl ?_; clear S a; intro a S)
                  first | (refine wpm_v S rfl rfl rfl (want_none _ rfl) rfl rfl (fun w' S => sv_pure S rfl) ?_; clear S a; intro a S) | (refine wpm_v S rfl rfl rfl (want_none _ rfl) rfl rfl (fun w' S => sv_pickB S rfl rfl rfl rfl) ?_; clear S a; intro a S)
                  refine wpm_nil (fun _ => ⟨fun b o h => S.tr.frz b o (by first | exact h | solve_by_elim), S.has inferInstance, trivial⟩) ?_
                  (refine hKq19 _ _ ?_; try (clear hKq19 Kq19))
                  refine wpc_false S rfl ?_
                  refine wp_skip ?_
                  (refine hKq18 _ _ ?_; try (clear hKq18 Kq18))
                  refine wp_region_lit ?_
                  (refine wpl_v S rfl rfl rfl (sv_pure S rfl) ?_; clear S a; intro a S)
                  (refine wpl_v S rfl rfl rfl (sv_add S rfl rfl rfl (by first | omega | (simp only [List.length_append, List.length_cons, List.length_nil]; omega))) ?_; clear S a; intro a S)
                  (refine wpl_v S rfl rfl rfl (sv_pure S rfl) ?_; clear S a; intro a S)
                  refine wpList_nil ?_
                  change ∃ m', _ ∧ _
                  (refine ⟨6 - (k + 1), by omega, k + 1, rfl, by omega, fun j hj hj2 => (by rcases Nat.lt_or_eq_of_le (Nat.le_of_lt_succ hj) with h9 | h9; exact hall j h9 hj2; subst h9; first | exact twos_short (by omega) hj2 | (rw [beq_eq_false_iff_ne]; exact fun h8 => absurd h8.symm (by assumption))), ?_⟩; refine S.keep ?_; repeat (first | exact trivial | refine ⟨rfl, ?_⟩))
              · (skip; (try simp only [decide_eq_true_eq, decide_eq_false_iff_not, beq_iff_eq, bne_iff_ne, bne_eq_false_iff_eq, beq_eq_false_iff_ne, ne_eq, Bool.not_eq_true', Bool.not_eq_false', Bool.not_eq_true, Bool.not_eq_false, Bool.not_true, Bool.not_false, Int.ofNat_lt, Int.ofNat_le, Nat.not_lt, Nat.not_le] at h))
                refine wp_exit ?_
                (refine hKq14 _ _ ?_; try (clear hKq14 Kq14))
                (refine wp_seq_k ?_; intro Kq18 hKq18)
                (refine wp_seq_k ?_; intro Kq19 hKq19)
                (have h6 : twos.contains ((s.drop i).take 2) = false := contains_no (fun j hj => hall j (by have : j < 6 := hj; omega) hj))
                refine wp_region_lit ?_
                (refine wpl_v S rfl rfl rfl (sv_pure S rfl) ?_; clear S a; intro a S)
                (refine wpl_v S rfl rfl rfl (sv_pure S rfl) ?_; clear S a; intro a S)
                (refine wpl_v S rfl rfl rfl (sv_pure S rfl) ?_; clear S a; intro a S)
                refine wpl_guard S rfl rfl rfl rfl rfl ?_ ?_
                · (intro h S'; clear S; have S := S'; clear S'; (try simp only [decide_eq_true_eq, decide_eq_false_iff_not, beq_iff_eq, bne_iff_ne, bne_eq_false_iff_eq, beq_eq_false_iff_ne, ne_eq, Bool.not_eq_true', Bool.not_eq_false', Bool.not_eq_true, Bool.not_eq_false, Bool.not_true, Bool.not_false, Int.ofNat_lt, Int.ofNat_le, Nat.not_lt, Nat.not_le] at h))
                  (refine wpl_v S rfl rfl rfl (sv_pure S rfl) ?_; clear S a; intro a S)
                  refine wpl_take S rfl rfl rfl ?_
                  (refine wpl_v S rfl rfl rfl (sv_add S rfl rfl rfl (by first | omega | (simp only [List.length_append, List.length_cons, List.length_nil]; omega))) ?_; clear S a; intro a S)
                  refine wpl_take S rfl rfl rfl ?_
                  (refine wpl_v S rfl rfl rfl (sv_pure S rfl) ?_; clear S a; intro a S)
                  refine wpl_take S rfl rfl rfl ?_
                  (refine wpl_v S rfl rfl rfl (sv_lenS S rfl rfl) ?_; clear S a; intro a S)
                  refine wpl_take S rfl rfl rfl ?_
                  (refine wpl_v S rfl rfl rfl (sv_pure S rfl) ?_; clear S a; intro a S)
                  first | (refine wpl_v S rfl rfl rfl (sv_pure S rfl) ?_; clear S a; intro a S) | (refine wpl_v S rfl rfl rfl (sv_pickB S rfl rfl rfl rfl) ?_; clear S a; intro a S)
                  (refine wpl_v S rfl rfl rfl (sv_pure S rfl) ?_; clear S a; intro a S)
                  refine wpl_guard S rfl rfl rfl rfl rfl ?_ ?_
                  · (intro h S'; clear S; have S := S'; clear S'; (try simp only [decide_eq_true_eq, decide_eq_false_iff_not, beq_iff_eq, bne_iff_ne, bne_eq_false_iff_eq, beq_eq_false_iff_ne, ne_eq, Bool.not_eq_true', Bool.not_eq_false', Bool.not_eq_true, Bool.not_eq_false, Bool.not_true, Bool.not_false, Int.ofNat_lt, Int.ofNat_le, Nat.not_lt, Nat.not_le] at h))
                    (refine wpl_v S rfl rfl rfl (sv_pure S rfl) ?_; clear S a; intro a S)
                    refine wpl_take S rfl rfl rfl ?_
                    (refine wpl_v S rfl rfl rfl (sv_pure S rfl) ?_; clear S a; intro a S)
                    refine wpl_take S rfl rfl rfl ?_
                    (refine wpl_v S rfl rfl rfl (sv_add S rfl rfl rfl (by first | omega | (simp only [List.length_append, List.length_cons, List.length_nil]; omega))) ?_; clear S a; intro a S)
                    (rw [i64_add1] at S)
                    refine wpl_take S rfl rfl rfl ?_
                    first | (refine wpl_v S rfl rfl rfl (sv_indexSN S rfl rfl rfl (by first | omega | (simp only [List.length_append, List.length_cons, List.length_nil]; omega))) ?_; clear S a; intro a S) | (refine wpl_v S rfl rfl rfl (sv_indexS S rfl rfl rfl (by first | omega | (simp only [List.length_append, List.length_cons, List.length_nil]; omega))) ?_; clear S a; intro a S)
                    (rw [hg1] at S)
                    refine wpl_take S rfl rfl rfl ?_
                    ((first | (refine wpl_call0 S rfl rfl rfl rfl rfl rfl (rlowCt ((s.drop i).getD 0 0) F) rfl ?_) | (refine wpl_call0 S rfl rfl rfl rfl rfl rfl (rlowCt ((s.drop i).getD 1 0) F) rfl ?_)); clear S a; intro v a w hv S; subst hv)
                    first | (refine wpl_v S rfl rfl rfl (sv_pure S rfl) ?_; clear S a; intro a S) | (refine wpl_v S rfl rfl rfl (sv_pickB S rfl rfl rfl rfl) ?_; clear S a; intro a S)
                    refine wpList_nil ?_
                    (refine hKq19 _ _ ?_; try (clear hKq19 Kq19))
                    refine wpc_split S rfl (fun h => ?_) (fun h => ?_)
                    · (skip; (try simp only [decide_eq_true_eq, decide_eq_false_iff_not, beq_iff_eq, bne_iff_ne, bne_eq_false_iff_eq, beq_eq_false_iff_ne, ne_eq, Bool.not_eq_true', Bool.not_eq_false', Bool.not_eq_true, Bool.not_eq_false, Bool.not_true, Bool.not_false, Int.ofNat_lt, Int.ofNat_le, Nat.not_lt, Nat.not_le] at h))
                      (refine wp_seq_k ?_; intro Kq20 hKq20)
                      refine wp_region_lit ?_
                      (refine wpl_v S rfl rfl rfl (sv_pure S rfl) ?_; clear S a; intro a S)
                      (refine wpl_v S rfl rfl rfl (sv_pure S rfl) ?_; clear S a; intro a S)
                      (refine wpl_v S rfl rfl rfl (sv_add S rfl rfl rfl (by first | omega | (simp only [List.length_append, List.length_cons, List.length_nil]; omega))) ?_; clear S a; intro a S)
                      (rw [i64_add1] at S)
                      ((first | (refine wpl_call0 S rfl rfl rfl rfl rfl rfl (endCt s i F (by omega) (by omega)) rfl ?_; clear S a; intro v a w hv S; subst hv; rw [← hn] at S) | (refine wpl_call0 S rfl rfl rfl rfl rfl rfl (endCt s (i + 1) F (by omega) (by omega)) rfl ?_; clear S a; intro v a w hv S; subst hv; rw [hd1, ← hm] at S)))
                      (refine wpl_v S rfl rfl rfl (sv_pure S rfl) ?_; clear S a; intro a S)
                      refine wpList_nil ?_
                      (refine hKq20 _ _ ?_; try (clear hKq20 Kq20))
                      (refine wp_seq_k ?_; intro Kq21 hKq21)
                      refine wp_region_lit ?_
                      (refine wpl_v S rfl rfl rfl (sv_pure S rfl) ?_; clear S a; intro a S)
                      (refine wpl_v S rfl rfl rfl (sv_pure S rfl) ?_; clear S a; intro a S)
                      (refine wpl_v S rfl rfl rfl (sv_add S rfl rfl rfl (by first | omega | (simp only [List.length_append, List.length_cons, List.length_nil]; omega))) ?_; clear S a; intro a S)
                      (rw [i64_add1] at S)
                      (refine wpl_v S rfl rfl rfl (sv_pure S rfl) ?_; clear S a; intro a S)
                      (refine wpl_v S rfl rfl rfl (sv_sliceS S rfl rfl rfl rfl (by first | omega | (simp only [List.length_append, List.length_cons, List.length_nil]; omega))) ?_; clear S a; intro a S)
                      (rw [cutT, hd1] at S)
                      (refine wpl_call0 S rfl rfl rfl rfl rfl rfl (wordCt (((s.drop i).drop 1).take m) F) rfl ?_; clear S a; intro v a w hv S; subst hv)
                      (refine wpl_v S rfl rfl rfl (sv_pure S rfl) ?_; clear S a; intro a S)
                      refine wpList_nil ?_
                      (refine hKq21 _ _ ?_; try (clear hKq21 Kq21))
                      refine wpc_split S rfl (fun h => ?_) (fun h => ?_)
                      · (skip; (try simp only [decide_eq_true_eq, decide_eq_false_iff_not, beq_iff_eq, bne_iff_ne, bne_eq_false_iff_eq, beq_eq_false_iff_ne, ne_eq, Bool.not_eq_true', Bool.not_eq_false', Bool.not_eq_true, Bool.not_eq_false, Bool.not_true, Bool.not_false, Int.ofNat_lt, Int.ofNat_le, Nat.not_lt, Nat.not_le] at h))
                        (refine wp_seq_k ?_; intro Kq22 hKq22)
                        (refine wp_seq_k ?_; intro Kq23 hKq23)
                        refine wp_region_lit ?_
                        (refine wpl_v S rfl rfl rfl (sv_pure S rfl) ?_; clear S a; intro a S)
                        (refine wpl_v S rfl rfl rfl (sv_pure S rfl) ?_; clear S a; intro a S)
                        (refine wpl_v S rfl rfl rfl (sv_sub S rfl rfl rfl (by first | omega | (simp only [List.length_append, List.length_cons, List.length_nil]; omega))) ?_; clear S a; intro a S)
                        (refine wpl_v S rfl rfl rfl (sv_sub S rfl rfl rfl (by first | omega | (simp only [List.length_append, List.length_cons, List.length_nil]; omega))) ?_; clear S a; intro a S)
                        (refine wpl_v S rfl rfl rfl (sv_pure S rfl) ?_; clear S a; intro a S)
                        refine wpList_nil ?_
                        (refine hKq23 _ _ ?_; try (clear hKq23 Kq23))
                        refine wpc_split S rfl (fun h => ?_) (fun h => ?_)
                        · (skip; (try simp only [decide_eq_true_eq, decide_eq_false_iff_not, beq_iff_eq, bne_iff_ne, bne_eq_false_iff_eq, beq_eq_false_iff_ne, ne_eq, Bool.not_eq_true', Bool.not_eq_false', Bool.not_eq_true, Bool.not_eq_false, Bool.not_true, Bool.not_false, Int.ofNat_lt, Int.ofNat_le, Nat.not_lt, Nat.not_le] at h))
                          (refine wp_seq_k ?_; intro Kq24 hKq24)
                          refine wp_region_lit ?_
                          (refine wpl_v S rfl rfl rfl (sv_build S rfl rfl rfl) ?_; clear S a; intro a S)
                          (refine wpl_storeO S rfl rfl rfl rfl rfl (by rfl) (by simp [Value.cells, Value.oneCell', splice]) (by rfl) ?_; clear S; intro w S)
                          (refine wpl_v S rfl rfl rfl (sv_pure S rfl) ?_; clear S a; intro a S)
                          refine wpList_nil ?_
                          (refine hKq24 _ _ ?_; try (clear hKq24 Kq24))
                          refine wp_ret ?_
                          refine fin_ret S (results2 Tryd.results20 (RV.cellO S rfl (by rfl)) (RV.tmp S rfl)) ?_
                          (first | (rw [nextF_low (by assumption)]; exact RT.of hE) | (rw [nextF_dig (by assumption) (by assumption)]; exact RT.of hE) | (rw [nextF_quo (by assumption) (by assumption) (by omega)]; exact RT.of hE) | (rw [nextF_high (by assumption) (by assumption) (by omega) (by assumption)]; (simp only [← hn, ← hm]; first | (refine RT.ok rfl ?_; (repeat' split) <;> first | exact ⟨_, rfl, by omega⟩ | (exfalso; omega)) | (refine RT.bad rfl (by decide) ?_; (repeat' split) <;> first | rfl | (exfalso; omega)))) | (rw [nextF_any (by assumption) (by assumption) (by omega) (by assumption) (by omega)]; (simp only [← hn, ← hm]; first | (refine RT.ok rfl ?_; (repeat' split) <;> first | exact ⟨_, rfl, by omega⟩ | (exfalso; omega)) | (refine RT.bad rfl (by decide) ?_; (repeat' split) <;> first | rfl | (exfalso; omega)))) | (have h9 : (s.drop i).take 2 = twos[k] := (by assumption); rw [nextF_two (by assumption) (by assumption) (by omega) (by assumption) (by omega) (contains_at hk6 h9.symm), h9]; exact RT.ok rfl ⟨2, rfl, by omega⟩) | (rw [nextF_field (by assumption) (by assumption) (by omega) (by assumption) (by omega) h6 (by omega) (by assumption) (by rw [← hm]; assumption)]; (simp only [← hn, ← hm]; first | (refine RT.ok rfl ?_; (repeat' split) <;> first | exact ⟨_, rfl, by omega⟩ | (exfalso; omega)) | (refine RT.bad rfl (by decide) ?_; (repeat' split) <;> first | rfl | (exfalso; omega)))) | (have hk15 : k < ones.length := (by show k < 15; omega); have ho : ones.getD k 0 = ones[k] := (by rw [List.getD_eq_getElem?_getD, List.getElem?_eq_getElem hk15]; rfl); have h9 : ones[k] = (s.drop i).getD 0 0 := (by rw [← ho]; apply UInt8.toNat_inj.1; omega); rw [nextF_rest (by assumption) (by assumption) (by omega) (by assumption) (by omega) h6 (fun hx => by obtain ⟨x1, x2, x3⟩ := hx; rw [← hm] at x3; first | omega | (rw [hlz (by omega)] at x2; cases x2) | (simp_all; done)), if_pos (contains_at hk15 h9)]; exact RT.ok rfl ⟨1, rfl, by omega⟩) | (rw [nextF_rest (by assumption) (by assumption) (by omega) (by assumption) (by omega) h6 (fun hx => by obtain ⟨x1, x2, x3⟩ := hx; rw [← hm] at x3; first | omega | (rw [hlz (by omega)] at x2; cases x2) | (simp_all; done)), if_neg (by rw [contains_no (fun j hj => hall1 j (by have : j < 15 := hj; omega) hj)]; decide)]; exact RT.bad rfl (by decide) rfl))
                        · (skip; (try simp only [decide_eq_true_eq, decide_eq_false_iff_not, beq_iff_eq, bne_iff_ne, bne_eq_false_iff_eq, beq_eq_false_iff_ne, ne_eq, Bool.not_eq_true', Bool.not_eq_false', Bool.not_eq_true, Bool.not_eq_false, Bool.not_true, Bool.not_false, Int.ofNat_lt, Int.ofNat_le, Nat.not_lt, Nat.not_le] at h))
                          refine wp_skip ?_
                          (refine hKq22 _ _ ?_; try (clear hKq22 Kq22))
                          (refine wp_seq_k ?_; intro Kq24 hKq24)
                          refine wp_region_lit ?_
                          (refine wpl_v S rfl rfl rfl (sv_pure S rfl) ?_; clear S a; intro a S)
                          (refine wpl_v S rfl rfl rfl (sv_pure S rfl) ?_; clear S a; intro a S)
                          (refine wpl_v S rfl rfl rfl (sv_pure S rfl) ?_; clear S a; intro a S)
                          (refine wpl_v S rfl rfl rfl (sv_add S rfl rfl rfl (by first | omega | (simp only [List.length_append, List.length_cons, List.length_nil]; omega))) ?_; clear S a; intro a S)
                          (rw [i64_add1] at S)
                          (refine wpl_v S rfl rfl rfl (sv_pure S rfl) ?_; clear S a; intro a S)
                          (refine wpl_v S rfl rfl rfl (sv_sliceS S rfl rfl rfl rfl (by first | omega | (simp only [List.length_append, List.length_cons, List.length_nil]; omega))) ?_; clear S a; intro a S)
                          (rw [cutT, hd1] at S)
                          (refine wpl_v S rfl rfl rfl (sv_build S rfl rfl rfl) ?_; clear S a; intro a S)
                          (refine wpl_storeO S rfl rfl rfl rfl rfl (by rfl) (by simp [Value.cells, Value.oneCell', splice]) (by rfl) ?_; clear S; intro w S)
                          (refine wpl_v S rfl rfl rfl (sv_pure S rfl) ?_; clear S a; intro a S)
                          refine wpList_nil ?_
                          (refine hKq24 _ _ ?_; try (clear hKq24 Kq24))
                          refine wp_ret ?_
                          refine fin_ret S (results2 Tryd.results20 (RV.cellO S rfl (by rfl)) (RV.tmp S rfl)) ?_
                          (first | (rw [nextF_low (by assumption)]; exact RT.of hE) | (rw [nextF_dig (by assumption) (by assumption)]; exact RT.of hE) | (rw [nextF_quo (by assumption) (by assumption) (by omega)]; exact RT.of hE) | (rw [nextF_high (by assumption) (by assumption) (by omega) (by assumption)]; (simp only [← hn, ← hm]; first | (refine RT.ok rfl ?_; (repeat' split) <;> first | exact ⟨_, rfl, by omega⟩ | (exfalso; omega)) | (refine RT.bad rfl (by decide) ?_; (repeat' split) <;> first | rfl | (exfalso; omega)))) | (rw [nextF_any (by assumption) (by assumption) (by omega) (by assumption) (by omega)]; (simp only [← hn, ← hm]; first | (refine RT.ok rfl ?_; (repeat' split) <;> first | exact ⟨_, rfl, by omega⟩ | (exfalso; omega)) | (refine RT.bad rfl (by decide) ?_; (repeat' split) <;> first | rfl | (exfalso; omega)))) | (have h9 : (s.drop i).take 2 = twos[k] := (by assumption); rw [nextF_two (by assumption) (by assumption) (by omega) (by assumption) (by omega) (contains_at hk6 h9.symm), h9]; exact RT.ok rfl ⟨2, rfl, by omega⟩) | (rw [nextF_field (by assumption) (by assumption) (by omega) (by assumption) (by omega) h6 (by omega) (by assumption) (by rw [← hm]; assumption)]; (simp only [← hn, ← hm]; first | (refine RT.ok rfl ?_; (repeat' split) <;> first | exact ⟨_, rfl, by omega⟩ | (exfalso; omega)) | (refine RT.bad rfl (by decide) ?_; (repeat' split) <;> first | rfl | (exfalso; omega)))) | (have hk15 : k < ones.length := (by show k < 15; omega); have ho : ones.getD k 0 = ones[k] := (by rw [List.getD_eq_getElem?_getD, List.getElem?_eq_getElem hk15]; rfl); have h9 : ones[k] = (s.drop i).getD 0 0 := (by rw [← ho]; apply UInt8.toNat_inj.1; omega); rw [nextF_rest (by assumption) (by assumption) (by omega) (by assumption) (by omega) h6 (fun hx => by obtain ⟨x1, x2, x3⟩ := hx; rw [← hm] at x3; first | omega | (rw [hlz (by omega)] at x2; cases x2) | (simp_all; done)), if_pos (contains_at hk15 h9)]; exact RT.ok rfl ⟨1, rfl, by omega⟩) | (rw [nextF_rest (by assumption) (by assumption) (by omega) (by assumption) (by omega) h6 (fun hx => by obtain ⟨x1, x2, x3⟩ := hx; rw [← hm] at x3; first | omega | (rw [hlz (by omega)] at x2; cases x2) | (simp_all; done)), if_neg (by rw [contains_no (fun j hj => hall1 j (by have : j < 15 := hj; omega) hj)]; decide)]; exact RT.bad rfl (by decide) rfl))
                      · (skip; (try simp only [decide_eq_true_eq, decide_eq_false_iff_not, beq_iff_eq, bne_iff_ne, bne_eq_false_iff_eq, beq_eq_false_iff_ne, ne_eq, Bool.not_eq_true', Bool.not_eq_false', Bool.not_eq_true, Bool.not_eq_false, Bool.not_true, Bool.not_false, Int.ofNat_lt, Int.ofNat_le, Nat.not_lt, Nat.not_le] at h))
                        refine wp_skip ?_
                        (refine hKq18 _ _ ?_; try (clear hKq18 Kq18))
                        (refine wp_seq_k ?_; intro Kq22 hKq22)
                        refine wp_region_lit ?_
                        (refine wpl_v S rfl rfl rfl (sv_pure S rfl) ?_; clear S a; intro a S)
                        refine wpList_nil ?_
                        (refine hKq22 _ _ ?_; try (clear hKq22 Kq22))
                        (refine wp_seq_k ?_; intro Kq23 hKq23)
                        (refine wp_seq_k ?_; intro Kq24 hKq24)
                        refine wp_region_lit ?_
                        (refine wpl_v S rfl rfl rfl (sv_pure S rfl) ?_; clear S a; intro a S)
                        refine wpList_nil ?_
                        (refine hKq24 _ _ ?_; try (clear hKq24 Kq24))
                        refine wp_block ?_
                        refine wpc_loop (fun m a w' => ∃ (k : Nat), m = 15 - k ∧ k ≤ 15 ∧ (∀ j, (hj : j < k) → (hj2 : j < ones.length) → ((ones[j]'hj2) == (s.drop i).getD 0 0) = false) ∧ St 156 [(0, .string (bs s)), (1, .int .i64 i), (4, .pointer (some ⟨b4, 0, none⟩)), (6, .int .u8 ((s.drop i).getD 0 0).toNat), (11, .string (bs ones)), (12, .int .i64 k)] w0 F [] F [[(b65, .cells ⟨twosV⟩ 9 (0, 0))], [(b4, .cells ⟨[.int .u8 0, .int .i64 0, .string (bs [])]⟩ 56 (0, 0))]] a w') ?_ ?_
                        · (refine ⟨15, 0, by simp, Nat.zero_le _, fun j hj => by omega, ?_⟩; refine S.keep ?_; repeat (first | exact trivial | refine ⟨rfl, ?_⟩))
                        · (clear S; rintro m' a w ⟨k, rfl, hk, hall1, S⟩)
                          (refine wp_seq_k ?_; intro Kq25 hKq25)
                          (refine wp_seq_k ?_; intro Kq26 hKq26)
                          refine wp_region_lit ?_
                          (refine wpl_v S rfl rfl rfl (sv_pure S rfl) ?_; clear S a; intro a S)
                          (refine wpl_v S rfl rfl rfl (sv_pure S rfl) ?_; clear S a; intro a S)
                          (refine wpl_v S rfl rfl rfl (sv_lenS S rfl rfl) ?_; clear S a; intro a S)
                          (refine wpl_v S rfl rfl rfl (sv_pure S rfl) ?_; clear S a; intro a S)
                          refine wpList_nil ?_
                          (refine hKq26 _ _ ?_; try (clear hKq26 Kq26))
                          refine wpc_split S rfl (fun h => ?_) (fun h => ?_)
                          · (skip; (try simp only [decide_eq_true_eq, decide_eq_false_iff_not, beq_iff_eq, bne_iff_ne, bne_eq_false_iff_eq, beq_eq_false_iff_ne, ne_eq, Bool.not_eq_true', Bool.not_eq_false', Bool.not_eq_true, Bool.not_eq_false, Bool.not_true, Bool.not_false, Int.ofNat_lt, Int.ofNat_le, Nat.not_lt, Nat.not_le] at h))
                            refine wp_skip ?_
                            (refine hKq25 _ _ ?_; try (clear hKq25 Kq25))
                            (refine wp_seq_k ?_; intro Kq27 hKq27)
                            refine wp_block ?_
                            (refine wp_seq_k ?_; intro Kq28 hKq28)
                            refine wp_region_lit ?_
                            (refine wpl_v S rfl rfl rfl (sv_pure S rfl) ?_; clear S a; intro a S)
                            (refine wpl_v S rfl rfl rfl (sv_pure S rfl) ?_; clear S a; intro a S)
                            (refine wpl_v S rfl rfl rfl (sv_pure S rfl) ?_; clear S a; intro a S)
                            first | (refine wpl_v S rfl rfl rfl (sv_indexSN S rfl rfl rfl (by first | omega | (simp only [List.length_append, List.length_cons, List.length_nil]; omega))) ?_; clear S a; intro a S) | (refine wpl_v S rfl rfl rfl (sv_indexS S rfl rfl rfl (by first | omega | (simp only [List.length_append, List.length_cons, List.length_nil]; omega))) ?_; clear S a; intro a S)
                            (refine wpl_v S rfl rfl rfl (sv_pure S rfl) ?_; clear S a; intro a S)
                            refine wpList_nil ?_
                            (refine hKq28 _ _ ?_; try (clear hKq28 Kq28))
                            refine wpc_split S rfl (fun h => ?_) (fun h => ?_)
                            · (skip; (try simp only [decide_eq_true_eq, decide_eq_false_iff_not, beq_iff_eq, bne_iff_ne, bne_eq_false_iff_eq, beq_eq_false_iff_ne, ne_eq, Bool.not_eq_true', Bool.not_eq_false', Bool.not_eq_true, Bool.not_eq_false, Bool.not_true, Bool.not_false, Int.ofNat_lt, Int.ofNat_le, Nat.not_lt, Nat.not_le] at h))
                              (refine wp_seq_k ?_; intro Kq29 hKq29)
                              refine wp_region_lit ?_
                              (refine wpl_v S rfl rfl rfl (sv_pure S rfl) ?_; clear S a; intro a S)
                              (refine wpl_v S rfl rfl rfl (sv_add S rfl rfl rfl (by first | omega | (simp only [List.length_append, List.length_cons, List.length_nil]; omega))) ?_; clear S a; intro a S)
                              (refine wpl_v S rfl rfl rfl (sv_pure S rfl) ?_; clear S a; intro a S)
                              (refine wpl_v S rfl rfl rfl (sv_pure S rfl) ?_; clear S a; intro a S)
                              (refine wpl_v S rfl rfl rfl (sv_pure S rfl) ?_; clear S a; intro a S)
                              (refine wpl_v S rfl rfl rfl (sv_add S rfl rfl rfl (by first | omega | (simp only [List.length_append, List.length_cons, List.length_nil]; omega))) ?_; clear S a; intro a S)
                              (rw [i64_add1] at S)
                              (refine wpl_v S rfl rfl rfl (sv_sliceS S rfl rfl rfl rfl (by first | omega | (simp only [List.length_append, List.length_cons, List.length_nil]; omega))) ?_; clear S a; intro a S)
                              (rw [cutT, ht1] at S)
                              (refine wpl_v S rfl rfl rfl (sv_build S rfl rfl rfl) ?_; clear S a; intro a S)
                              (refine wpl_storeO S rfl rfl rfl rfl rfl (by rfl) (by simp [Value.cells, Value.oneCell', splice]) (by rfl) ?_; clear S; intro w S)
                              (refine wpl_v S rfl rfl rfl (sv_pure S rfl) ?_; clear S a; intro a S)
                              refine wpList_nil ?_
                              (refine hKq29 _ _ ?_; try (clear hKq29 Kq29))
                              refine wp_ret ?_
                              refine fin_ret S (results2 Tryd.results20 (RV.cellO S rfl (by rfl)) (RV.tmp S rfl)) ?_
                              (first | (rw [nextF_low (by assumption)]; exact RT.of hE) | (rw [nextF_dig (by assumption) (by assumption)]; exact RT.of hE) | (rw [nextF_quo (by assumption) (by assumption) (by omega)]; exact RT.of hE) | (rw [nextF_high (by assumption) (by assumption) (by omega) (by assumption)]; (simp only [← hn, ← hm]; first | (refine RT.ok rfl ?_; (repeat' split) <;> first | exact ⟨_, rfl, by omega⟩ | (exfalso; omega)) | (refine RT.bad rfl (by decide) ?_; (repeat' split) <;> first | rfl | (exfalso; omega)))) | (rw [nextF_any (by assumption) (by assumption) (by omega) (by assumption) (by omega)]; (simp only [← hn, ← hm]; first | (refine RT.ok rfl ?_; (repeat' split) <;> first | exact ⟨_, rfl, by omega⟩ | (exfalso; omega)) | (refine RT.bad rfl (by decide) ?_; (repeat' split) <;> first | rfl | (exfalso; omega)))) | (have h9 : (s.drop i).take 2 = twos[k] := (by assumption); rw [nextF_two (by assumption) (by assumption) (by omega) (by assumption) (by omega) (contains_at hk6 h9.symm), h9]; exact RT.ok rfl ⟨2, rfl, by omega⟩) | (rw [nextF_field (by assumption) (by assumption) (by omega) (by assumption) (by omega) h6 (by omega) (by assumption) (by rw [← hm]; assumption)]; (simp only [← hn, ← hm]; first | (refine RT.ok rfl ?_; (repeat' split) <;> first | exact ⟨_, rfl, by omega⟩ | (exfalso; omega)) | (refine RT.bad rfl (by decide) ?_; (repeat' split) <;> first | rfl | (exfalso; omega)))) | (have hk15 : k < ones.length := (by show k < 15; omega); have ho : ones.getD k 0 = ones[k] := (by rw [List.getD_eq_getElem?_getD, List.getElem?_eq_getElem hk15]; rfl); have h9 : ones[k] = (s.drop i).getD 0 0 := (by rw [← ho]; apply UInt8.toNat_inj.1; omega); rw [nextF_rest (by assumption) (by assumption) (by omega) (by assumption) (by omega) h6 (fun hx => by obtain ⟨x1, x2, x3⟩ := hx; rw [← hm] at x3; first | omega | (rw [hlz (by omega)] at x2; cases x2) | (simp_all; done)), if_pos (contains_at hk15 h9)]; exact RT.ok rfl ⟨1, rfl, by omega⟩) | (rw [nextF_rest (by assumption) (by assumption) (by omega) (by assumption) (by omega) h6 (fun hx => by obtain ⟨x1, x2, x3⟩ := hx; rw [← hm] at x3; first | omega | (rw [hlz (by omega)] at x2; cases x2) | (simp_all; done)), if_neg (by rw [contains_no (fun j hj => hall1 j (by have : j < 15 := hj; omega) hj)]; decide)]; exact RT.bad rfl (by decide) rfl))
                            · (skip; (try simp only [decide_eq_true_eq, decide_eq_false_iff_not, beq_iff_eq, bne_iff_ne, bne_eq_false_iff_eq, beq_eq_false_iff_ne, ne_eq, Bool.not_eq_true', Bool.not_eq_false', Bool.not_eq_true, Bool.not_eq_false, Bool.not_true, Bool.not_false, Int.ofNat_lt, Int.ofNat_le, Nat.not_lt, Nat.not_le] at h))
                              refine wp_skip ?_
                              (refine hKq27 _ _ ?_; try (clear hKq27 Kq27))
                              refine wp_region_lit ?_
                              (refine wpl_v S rfl rfl rfl (sv_pure S rfl) ?_; clear S a; intro a S)
                              (refine wpl_v S rfl rfl rfl (sv_add S rfl rfl rfl (by first | omega | (simp only [List.length_append, List.length_cons, List.length_nil]; omega))) ?_; clear S a; intro a S)
                              (refine wpl_v S rfl rfl rfl (sv_pure S rfl) ?_; clear S a; intro a S)
                              refine wpList_nil ?_
                              change ∃ m', _ ∧ _
                              (refine ⟨15 - (k + 1), by omega, k + 1, rfl, by omega, fun j hj hj2 => (by rcases Nat.lt_or_eq_of_le (Nat.le_of_lt_succ hj) with h9 | h9; exact hall1 j h9 hj2; subst h9; have ho : ones.getD j 0 = ones[j] := (by rw [List.getD_eq_getElem?_getD, List.getElem?_eq_getElem hj2]; rfl); rw [beq_eq_false_iff_ne]; intro h8; rw [← ho] at h8; have h7 : (ones.getD j 0).toNat = ((s.drop i).getD 0 0).toNat := (by rw [h8]); omega), ?_⟩; refine S.keep ?_; repeat (first | exact trivial | refine ⟨rfl, ?_⟩))
                          · (skip; (try simp only [decide_eq_true_eq, decide_eq_false_iff_not, beq_iff_eq, bne_iff_ne, bne_eq_false_iff_eq, beq_eq_false_iff_ne, ne_eq, Bool.not_eq_true', Bool.not_eq_false', Bool.not_eq_true, Bool.not_eq_false, Bool.not_true, Bool.not_false, Int.ofNat_lt, Int.ofNat_le, Nat.not_lt, Nat.not_le] at h))
                            refine wp_exit ?_
                            (refine hKq23 _ _ ?_; try (clear hKq23 Kq23))
                            (refine wp_seq_k ?_; intro Kq27 hKq27)
                            refine wp_region_lit ?_
                            (refine wpl_v S rfl rfl rfl (sv_build S rfl rfl rfl) ?_; clear S a; intro a S)
                            (refine wpl_storeO S rfl rfl rfl rfl rfl (by rfl) (by simp [Value.cells, Value.oneCell', splice]) (by rfl) ?_; clear S; intro w S)
                            (refine wpl_v S rfl rfl rfl (sv_pure S rfl) ?_; clear S a; intro a S)
                            refine wpList_nil ?_
                            (refine hKq27 _ _ ?_; try (clear hKq27 Kq27))
                            refine wp_ret ?_
                            refine fin_ret S (results2 Tryd.results20 (RV.cellO S rfl (by rfl)) (RV.tmp S rfl)) ?_
                            (first | (rw [nextF_low (by assumption)]; exact RT.of hE) | (rw [nextF_dig (by assumption) (by assumption)]; exact RT.of hE) | (rw [nextF_quo (by assumption) (by assumption) (by omega)]; exact RT.of hE) | (rw [nextF_high (by assumption) (by assumption) (by omega) (by assumption)]; (simp only [← hn, ← hm]; first | (refine RT.ok rfl ?_; (repeat' split) <;> first | exact ⟨_, rfl, by omega⟩ | (exfalso; omega)) | (refine RT.bad rfl (by decide) ?_; (repeat' split) <;> first | rfl | (exfalso; omega)))) | (rw [nextF_any (by assumption) (by assumption) (by omega) (by assumption) (by omega)]; (simp only [← hn, ← hm]; first | (refine RT.ok rfl ?_; (repeat' split) <;> first | exact ⟨_, rfl, by omega⟩ | (exfalso; omega)) | (refine RT.bad rfl (by decide) ?_; (repeat' split) <;> first | rfl | (exfalso; omega)))) | (have h9 : (s.drop i).take 2 = twos[k] := (by assumption); rw [nextF_two (by assumption) (by assumption) (by omega) (by assumption) (by omega) (contains_at hk6 h9.symm), h9]; exact RT.ok rfl ⟨2, rfl, by omega⟩) | (rw [nextF_field (by assumption) (by assumption) (by omega) (by assumption) (by omega) h6 (by omega) (by assumption) (by rw [← hm]; assumption)]; (simp only [← hn, ← hm]; first | (refine RT.ok rfl ?_; (repeat' split) <;> first | exact ⟨_, rfl, by omega⟩ | (exfalso; omega)) | (refine RT.bad rfl (by decide) ?_; (repeat' split) <;> first | rfl | (exfalso; omega)))) | (have hk15 : k < ones.length := (by show k < 15; omega); have ho : ones.getD k 0 = ones[k] := (by rw [List.getD_eq_getElem?_getD, List.getElem?_eq_getElem hk15]; rfl); have h9 : ones[k] = (s.drop i).getD 0 0 := (by rw [← ho]; apply UInt8.toNat_inj.1; omega); rw [nextF_rest (by assumption) (by assumption) (by omega) (by assumption) (by omega) h6 (fun hx => by obtain ⟨x1, x2, x3⟩ := hx; rw [← hm] at x3; first | omega | (rw [hlz (by omega)] at x2; cases x2) | (simp_all; done)), if_pos (contains_at hk15 h9)]; exact RT.ok rfl ⟨1, rfl, by omega⟩) | (rw [nextF_rest (by assumption) (by assumption) (by omega) (by assumption) (by omega) h6 (fun hx => by obtain ⟨x1, x2, x3⟩ := hx; rw [← hm] at x3; first | omega | (rw [hlz (by omega)] at x2; cases x2) | (simp_all; done)), if_neg (by rw [contains_no (fun j hj => hall1 j (by have : j < 15 := hj; omega) hj)]; decide)]; exact RT.bad rfl (by decide) rfl))
                    · (skip; (try simp only [decide_eq_true_eq, decide_eq_false_iff_not, beq_iff_eq, bne_iff_ne, bne_eq_false_iff_eq, beq_eq_false_iff_ne, ne_eq, Bool.not_eq_true', Bool.not_eq_false', Bool.not_eq_true, Bool.not_eq_false, Bool.not_true, Bool.not_false, Int.ofNat_lt, Int.ofNat_le, Nat.not_lt, Nat.not_le] at h))
                      refine wp_skip ?_
                      (refine hKq18 _ _ ?_; try (clear hKq18 Kq18))
                      (refine wp_seq_k ?_; intro Kq20 hKq20)
                      refine wp_region_lit ?_
                      (refine wpl_v S rfl rfl rfl (sv_pure S rfl) ?_; clear S a; intro a S)
                      refine wpList_nil ?_
                      (refine hKq20 _ _ ?_; try (clear hKq20 Kq20))
                      (refine wp_seq_k ?_; intro Kq21 hKq21)
                      (refine wp_seq_k ?_; intro Kq22 hKq22)
                      refine wp_region_lit ?_
                      (refine wpl_v S rfl rfl rfl (sv_pure S rfl) ?_; clear S a; intro a S)
                      refine wpList_nil ?_
                      (refine hKq22 _ _ ?_; try (clear hKq22 Kq22))
                      refine wp_block ?_
                      refine wpc_loop (fun m a w' => ∃ (k : Nat), m = 15 - k ∧ k ≤ 15 ∧ (∀ j, (hj : j < k) → (hj2 : j < ones.length) → ((ones[j]'hj2) == (s.drop i).getD 0 0) = false) ∧ St 156 [(0, .string (bs s)), (1, .int .i64 i), (4, .pointer (some ⟨b4, 0, none⟩)), (6, .int .u8 ((s.drop i).getD 0 0).toNat), (11, .string (bs ones)), (12, .int .i64 k)] w0 F [] F [[(b65, .cells ⟨twosV⟩ 9 (0, 0))], [(b4, .cells ⟨[.int .u8 0, .int .i64 0, .string (bs [])]⟩ 56 (0, 0))]] a w') ?_ ?_
                      · (refine ⟨15, 0, by simp, Nat.zero_le _, fun j hj => by omega, ?_⟩; refine S.keep ?_; repeat (first | exact trivial | refine ⟨rfl, ?_⟩))
                      · (clear S; rintro m' a w ⟨k, rfl, hk, hall1, S⟩)
                        (refine wp_seq_k ?_; intro Kq23 hKq23)
                        (refine wp_seq_k ?_; intro Kq24 hKq24)
                        refine wp_region_lit ?_
                        (refine wpl_v S rfl rfl rfl (sv_pure S rfl) ?_; clear S a; intro a S)
                        (refine wpl_v S rfl rfl rfl (sv_pure S rfl) ?_; clear S a; intro a S)
                        (refine wpl_v S rfl rfl rfl (sv_lenS S rfl rfl) ?_; clear S a; intro a S)
                        (refine wpl_v S rfl rfl rfl (sv_pure S rfl) ?_; clear S a; intro a S)
                        refine wpList_nil ?_
                        (refine hKq24 _ _ ?_; try (clear hKq24 Kq24))
                        refine wpc_split S rfl (fun h => ?_) (fun h => ?_)
                        · (skip; (try simp only [decide_eq_true_eq, decide_eq_false_iff_not, beq_iff_eq, bne_iff_ne, bne_eq_false_iff_eq, beq_eq_false_iff_ne, ne_eq, Bool.not_eq_true', Bool.not_eq_false', Bool.not_eq_true, Bool.not_eq_false, Bool.not_true, Bool.not_false, Int.ofNat_lt, Int.ofNat_le, Nat.not_lt, Nat.not_le] at h))
                          refine wp_skip ?_
                          (refine hKq23 _ _ ?_; try (clear hKq23 Kq23))
                          (refine wp_seq_k ?_; intro Kq25 hKq25)
                          refine wp_block ?_
                          (refine wp_seq_k ?_; intro Kq26 hKq26)
                          refine wp_region_lit ?_
                          (refine wpl_v S rfl rfl rfl (sv_pure S rfl) ?_; clear S a; intro a S)
                          (refine wpl_v S rfl rfl rfl (sv_pure S rfl) ?_; clear S a; intro a S)
                          (refine wpl_v S rfl rfl rfl (sv_pure S rfl) ?_; clear S a; intro a S)
                          first | (refine wpl_v S rfl rfl rfl (sv_indexSN S rfl rfl rfl (by first | omega | (simp only [List.length_append, List.length_cons, List.length_nil]; omega))) ?_; clear S a; intro a S) | (refine wpl_v S rfl rfl rfl (sv_indexS S rfl rfl rfl (by first | omega | (simp only [List.length_append, List.length_cons, List.length_nil]; omega))) ?_; clear S a; intro a S)
                          (refine wpl_v S rfl rfl rfl (sv_pure S rfl) ?_; clear S a; intro a S)
                          refine wpList_nil ?_
                          (refine hKq26 _ _ ?_; try (clear hKq26 Kq26))
                          refine wpc_split S rfl (fun h => ?_) (fun h => ?_)
                          · (skip; (try simp only [decide_eq_true_eq, decide_eq_false_iff_not, beq_iff_eq, bne_iff_ne, bne_eq_false_iff_eq, beq_eq_false_iff_ne, ne_eq, Bool.not_eq_true', Bool.not_eq_false', Bool.not_eq_true, Bool.not_eq_false, Bool.not_true, Bool.not_false, Int.ofNat_lt, Int.ofNat_le, Nat.not_lt, Nat.not_le] at h))
                            (refine wp_seq_k ?_; intro Kq27 hKq27)
                            refine wp_region_lit ?_
                            (refine wpl_v S rfl rfl rfl (sv_pure S rfl) ?_; clear S a; intro a S)
                            (refine wpl_v S rfl rfl rfl (sv_add S rfl rfl rfl (by first | omega | (simp only [List.length_append, List.length_cons, List.length_nil]; omega))) ?_; clear S a; intro a S)
                            (refine wpl_v S rfl rfl rfl (sv_pure S rfl) ?_; clear S a; intro a S)
                            (refine wpl_v S rfl rfl rfl (sv_pure S rfl) ?_; clear S a; intro a S)
                            (refine wpl_v S rfl rfl rfl (sv_pure S rfl) ?_; clear S a; intro a S)
                            (refine wpl_v S rfl rfl rfl (sv_add S rfl rfl rfl (by first | omega | (simp only [List.length_append, List.length_cons, List.length_nil]; omega))) ?_; clear S a; intro a S)
                            (rw [i64_add1] at S)
                            (refine wpl_v S rfl rfl rfl (sv_sliceS S rfl rfl rfl rfl (by first | omega | (simp only [List.length_append, List.length_cons, List.length_nil]; omega))) ?_; clear S a; intro a S)
                            (rw [cutT, ht1] at S)
                            (refine wpl_v S rfl rfl rfl (sv_build S rfl rfl rfl) ?_; clear S a; intro a S)
                            (refine wpl_storeO S rfl rfl rfl rfl rfl (by rfl) (by simp [Value.cells, Value.oneCell', splice]) (by rfl) ?_; clear S; intro w S)
                            (refine wpl_v S rfl rfl rfl (sv_pure S rfl) ?_; clear S a; intro a S)
                            refine wpList_nil ?_
                            (refine hKq27 _ _ ?_; try (clear hKq27 Kq27))
                            refine wp_ret ?_
                            refine fin_ret S (results2 Tryd.results20 (RV.cellO S rfl (by rfl)) (RV.tmp S rfl)) ?_
                            (first | (rw [nextF_low (by assumption)]; exact RT.of hE) | (rw [nextF_dig (by assumption) (by assumption)]; exact RT.of hE) | (rw [nextF_quo (by assumption) (by assumption) (by omega)]; exact RT.of hE) | (rw [nextF_high (by assumption) (by assumption) (by omega) (by assumption)]; (simp only [← hn, ← hm]; first | (refine RT.ok rfl ?_; (repeat' split) <;> first | exact ⟨_, rfl, by omega⟩ | (exfalso; omega)) | (refine RT.bad rfl (by decide) ?_; (repeat' split) <;> first | rfl | (exfalso; omega)))) | (rw [nextF_any (by assumption) (by assumption) (by omega) (by assumption) (by omega)]; (simp only [← hn, ← hm]; first | (refine RT.ok rfl ?_; (repeat' split) <;> first | exact ⟨_, rfl, by omega⟩ | (exfalso; omega)) | (refine RT.bad rfl (by decide) ?_; (repeat' split) <;> first | rfl | (exfalso; omega)))) | (have h9 : (s.drop i).take 2 = twos[k] := (by assumption); rw [nextF_two (by assumption) (by assumption) (by omega) (by assumption) (by omega) (contains_at hk6 h9.symm), h9]; exact RT.ok rfl ⟨2, rfl, by omega⟩) | (rw [nextF_field (by assumption) (by assumption) (by omega) (by assumption) (by omega) h6 (by omega) (by assumption) (by rw [← hm]; assumption)]; (simp only [← hn, ← hm]; first | (refine RT.ok rfl ?_; (repeat' split) <;> first | exact ⟨_, rfl, by omega⟩ | (exfalso; omega)) | (refine RT.bad rfl (by decide) ?_; (repeat' split) <;> first | rfl | (exfalso; omega)))) | (have hk15 : k < ones.length := (by show k < 15; omega); have ho : ones.getD k 0 = ones[k] := (by rw [List.getD_eq_getElem?_getD, List.getElem?_eq_getElem hk15]; rfl); have h9 : ones[k] = (s.drop i).getD 0 0 := (by rw [← ho]; apply UInt8.toNat_inj.1; omega); rw [nextF_rest (by assumption) (by assumption) (by omega) (by assumption) (by omega) h6 (fun hx => by obtain ⟨x1, x2, x3⟩ := hx; rw [← hm] at x3; first | omega | (rw [hlz (by omega)] at x2; cases x2) | (simp_all; done)), if_pos (contains_at hk15 h9)]; exact RT.ok rfl ⟨1, rfl, by omega⟩) | (rw [nextF_rest (by assumption) (by assumption) (by omega) (by assumption) (by omega) h6 (fun hx => by obtain ⟨x1, x2, x3⟩ := hx; rw [← hm] at x3; first | omega | (rw [hlz (by omega)] at x2; cases x2) | (simp_all; done)), if_neg (by rw [contains_no (fun j hj => hall1 j (by have : j < 15 := hj; omega) hj)]; decide)]; exact RT.bad rfl (by decide) rfl))
                          · (skip; (try simp only [decide_eq_true_eq, decide_eq_false_iff_not, beq_iff_eq, bne_iff_ne, bne_eq_false_iff_eq, beq_eq_false_iff_ne, ne_eq, Bool.not_eq_true', Bool.not_eq_false', Bool.not_eq_true, Bool.not_eq_false, Bool.not_true, Bool.not_false, Int.ofNat_lt, Int.ofNat_le, Nat.not_lt, Nat.not_le] at h))
                            refine wp_skip ?_
                            (refine hKq25 _ _ ?_; try (clear hKq25 Kq25))
                            refine wp_region_lit ?_
                            (refine wpl_v S rfl rfl rfl (sv_pure S rfl) ?_; clear S a; intro a S)
                            (refine wpl_v S rfl rfl rfl (sv_add S rfl rfl rfl (by first | omega | (simp only [List.length_append, List.length_cons, List.length_nil]; omega))) ?_; clear S a; intro a S)
                            (refine wpl_v S rfl rfl rfl (sv_pure S rfl) ?_; clear S a; intro a S)
                            refine wpList_nil ?_
                            change ∃ m', _ ∧ _
                            (refine ⟨15 - (k + 1), by omega, k + 1, rfl, by omega, fun j hj hj2 => (by rcases Nat.lt_or_eq_of_le (Nat.le_of_lt_succ hj) with h9 | h9; exact hall1 j h9 hj2; subst h9; have ho : ones.getD j 0 = ones[j] := (by rw [List.getD_eq_getElem?_getD, List.getElem?_eq_getElem hj2]; rfl); rw [beq_eq_false_iff_ne]; intro h8; rw [← ho] at h8; have h7 : (ones.getD j 0).toNat = ((s.drop i).getD 0 0).toNat := (by rw [h8]); omega), ?_⟩; refine S.keep ?_; repeat (first | exact trivial | refine ⟨rfl, ?_⟩))
                        · (skip; (try simp only [decide_eq_true_eq, decide_eq_false_iff_not, beq_iff_eq, bne_iff_ne, bne_eq_false_iff_eq, beq_eq_false_iff_ne, ne_eq, Bool.not_eq_true', Bool.not_eq_false', Bool.not_eq_true, Bool.not_eq_false, Bool.not_true, Bool.not_false, Int.ofNat_lt, Int.ofNat_le, Nat.not_lt, Nat.not_le] at h))
                          refine wp_exit ?_
                          (refine hKq21 _ _ ?_; try (clear hKq21 Kq21))
                          (refine wp_seq_k ?_; intro Kq25 hKq25)
                          refine wp_region_lit ?_
                          (refine wpl_v S rfl rfl rfl (sv_build S rfl rfl rfl) ?_; clear S a; intro a S)
                          (refine wpl_storeO S rfl rfl rfl rfl rfl (by rfl) (by simp [Value.cells, Value.oneCell', splice]) (by rfl) ?_; clear S; intro w S)
                          (refine wpl_v S rfl rfl rfl (sv_pure S rfl) ?_; clear S a; intro a S)
                          refine wpList_nil ?_
                          (refine hKq25 _ _ ?_; try (clear hKq25 Kq25))
                          refine wp_ret ?_
                          refine fin_ret S (results2 Tryd.results20 (RV.cellO S rfl (by rfl)) (RV.tmp S rfl)) ?_
                          (first | (rw [nextF_low (by assumption)]; exact RT.of hE) | (rw [nextF_dig (by assumption) (by assumption)]; exact RT.of hE) | (rw [nextF_quo (by assumption) (by assumption) (by omega)]; exact RT.of hE) | (rw [nextF_high (by assumption) (by assumption) (by omega) (by assumption)]; (simp only [← hn, ← hm]; first | (refine RT.ok rfl ?_; (repeat' split) <;> first | exact ⟨_, rfl, by omega⟩ | (exfalso; omega)) | (refine RT.bad rfl (by decide) ?_; (repeat' split) <;> first | rfl | (exfalso; omega)))) | (rw [nextF_any (by assumption) (by assumption) (by omega) (by assumption) (by omega)]; (simp only [← hn, ← hm]; first | (refine RT.ok rfl ?_; (repeat' split) <;> first | exact ⟨_, rfl, by omega⟩ | (exfalso; omega)) | (refine RT.bad rfl (by decide) ?_; (repeat' split) <;> first | rfl | (exfalso; omega)))) | (have h9 : (s.drop i).take 2 = twos[k] := (by assumption); rw [nextF_two (by assumption) (by assumption) (by omega) (by assumption) (by omega) (contains_at hk6 h9.symm), h9]; exact RT.ok rfl ⟨2, rfl, by omega⟩) | (rw [nextF_field (by assumption) (by assumption) (by omega) (by assumption) (by omega) h6 (by omega) (by assumption) (by rw [← hm]; assumption)]; (simp only [← hn, ← hm]; first | (refine RT.ok rfl ?_; (repeat' split) <;> first | exact ⟨_, rfl, by omega⟩ | (exfalso; omega)) | (refine RT.bad rfl (by decide) ?_; (repeat' split) <;> first | rfl | (exfalso; omega)))) | (have hk15 : k < ones.length := (by show k < 15; omega); have ho : ones.getD k 0 = ones[k] := (by rw [List.getD_eq_getElem?_getD, List.getElem?_eq_getElem hk15]; rfl); have h9 : ones[k] = (s.drop i).getD 0 0 := (by rw [← ho]; apply UInt8.toNat_inj.1; omega); rw [nextF_rest (by assumption) (by assumption) (by omega) (by assumption) (by omega) h6 (fun hx => by obtain ⟨x1, x2, x3⟩ := hx; rw [← hm] at x3; first | omega | (rw [hlz (by omega)] at x2; cases x2) | (simp_all; done)), if_pos (contains_at hk15 h9)]; exact RT.ok rfl ⟨1, rfl, by omega⟩) | (rw [nextF_rest (by assumption) (by assumption) (by omega) (by assumption) (by omega) h6 (fun hx => by obtain ⟨x1, x2, x3⟩ := hx; rw [← hm] at x3; first | omega | (rw [hlz (by omega)] at x2; cases x2) | (simp_all; done)), if_neg (by rw [contains_no (fun j hj => hall1 j (by have : j < 15 := hj; omega) hj)]; decide)]; exact RT.bad rfl (by decide) rfl))
                  · (intro h; clear S a; intro a S; (try simp only [decide_eq_true_eq, decide_eq_false_iff_not, beq_iff_eq, bne_iff_ne, bne_eq_false_iff_eq, beq_eq_false_iff_ne, ne_eq, Bool.not_eq_true', Bool.not_eq_false', Bool.not_eq_true, Bool.not_eq_false, Bool.not_true, Bool.not_false, Int.ofNat_lt, Int.ofNat_le, Nat.not_lt, Nat.not_le] at h))
                    (refine wpl_skip S rfl rfl rfl rfl rfl ?_; clear S a; intro a S)
                    (refine wpl_skip S rfl rfl rfl rfl rfl ?_; clear S a; intro a S)
                    (refine wpl_skip S rfl rfl rfl rfl rfl ?_; clear S a; intro a S)
                    (refine wpl_skip S rfl rfl rfl rfl rfl ?_; clear S a; intro a S)
                    first | (refine wpl_v S rfl rfl rfl (sv_pure S rfl) ?_; clear S a; intro a S) | (refine wpl_v S rfl rfl rfl (sv_pickB S rfl rfl rfl rfl) ?_; clear S a; intro a S)
                    refine wpList_nil ?_
                    (refine hKq19 _ _ ?_; try (clear hKq19 Kq19))
                    refine wpc_false S rfl ?_
                    refine wp_skip ?_
                    (refine hKq18 _ _ ?_; try (clear hKq18 Kq18))
                    (refine wp_seq_k ?_; intro Kq20 hKq20)
                    refine wp_region_lit ?_
                    (refine wpl_v S rfl rfl rfl (sv_pure S rfl) ?_; clear S a; intro a S)
                    refine wpList_nil ?_
                    (refine hKq20 _ _ ?_; try (clear hKq20 Kq20))
                    (refine wp_seq_k ?_; intro Kq21 hKq21)
                    (refine wp_seq_k ?_; intro Kq22 hKq22)
                    refine wp_region_lit ?_
                    (refine wpl_v S rfl rfl rfl (sv_pure S rfl) ?_; clear S a; intro a S)
                    refine wpList_nil ?_
                    (refine hKq22 _ _ ?_; try (clear hKq22 Kq22))
                    refine wp_block ?_
                    refine wpc_loop (fun m a w' => ∃ (k : Nat), m = 15 - k ∧ k ≤ 15 ∧ (∀ j, (hj : j < k) → (hj2 : j < ones.length) → ((ones[j]'hj2) == (s.drop i).getD 0 0) = false) ∧ St 156 [(0, .string (bs s)), (1, .int .i64 i), (4, .pointer (some ⟨b4, 0, none⟩)), (6, .int .u8 ((s.drop i).getD 0 0).toNat), (11, .string (bs ones)), (12, .int .i64 k)] w0 F [] F [[(b65, .cells ⟨twosV⟩ 9 (0, 0))], [(b4, .cells ⟨[.int .u8 0, .int .i64 0, .string (bs [])]⟩ 56 (0, 0))]] a w') ?_ ?_
                    · (refine ⟨15, 0, by simp, Nat.zero_le _, fun j hj => by omega, ?_⟩; refine S.keep ?_; repeat (first | exact trivial | refine ⟨rfl, ?_⟩))
                    · (clear S; rintro m' a w ⟨k, rfl, hk, hall1, S⟩)
                      (refine wp_seq_k ?_; intro Kq23 hKq23)
                      (refine wp_seq_k ?_; intro Kq24 hKq24)
                      refine wp_region_lit ?_
                      (refine wpl_v S rfl rfl rfl (sv_pure S rfl) ?_; clear S a; intro a S)
                      (refine wpl_v S rfl rfl rfl (sv_pure S rfl) ?_; clear S a; intro a S)
                      (refine wpl_v S rfl rfl rfl (sv_lenS S rfl rfl) ?_; clear S a; intro a S)
                      (refine wpl_v S rfl rfl rfl (sv_pure S rfl) ?_; clear S a; intro a S)
                      refine wpList_nil ?_
                      (refine hKq24 _ _ ?_; try (clear hKq24 Kq24))
                      refine wpc_split S rfl (fun h => ?_) (fun h => ?_)
                      · (skip; (try simp only [decide_eq_true_eq, decide_eq_false_iff_not, beq_iff_eq, bne_iff_ne, bne_eq_false_iff_eq, beq_eq_false_iff_ne, ne_eq, Bool.not_eq_true', Bool.not_eq_false', Bool.not_eq_true, Bool.not_eq_false, Bool.not_true, Bool.not_false, Int.ofNat_lt, Int.ofNat_le, Nat.not_lt, Nat.not_le] at h))
                        refine wp_skip ?_
                        (refine hKq23 _ _ ?_; try (clear hKq23 Kq23))
                        (refine wp_seq_k ?_; intro Kq25 hKq25)
                        refine wp_block ?_
                        (refine wp_seq_k ?_; intro Kq26 hKq26)
                        refine wp_region_lit ?_
                        (refine wpl_v S rfl rfl rfl (sv_pure S rfl) ?_; clear S a; intro a S)
                        (refine wpl_v S rfl rfl rfl (sv_pure S rfl) ?_; clear S a; intro a S)
                        (refine wpl_v S rfl rfl rfl (sv_pure S rfl) ?_; clear S a; intro a S)
                        first | (refine wpl_v S rfl rfl rfl (sv_indexSN S rfl rfl rfl (by first | omega | (simp only [List.length_append, List.length_cons, List.length_nil]; omega))) ?_; clear S a; intro a S) | (refine wpl_v S rfl rfl rfl (sv_indexS S rfl rfl rfl (by first | omega | (simp only [List.length_append, List.length_cons, List.length_nil]; omega))) ?_; clear S a; intro a S)
                        (refine wpl_v S rfl rfl rfl (sv_pure S rfl) ?_; clear S a; intro a S)
                        refine wpList_nil ?_
                        (refine hKq26 _ _ ?_; try (clear hKq26 Kq26))
                        refine wpc_split S rfl (fun h => ?_) (fun h => ?_)
                        · (skip; (try simp only [decide_eq_true_eq, decide_eq_false_iff_not, beq_iff_eq, bne_iff_ne, bne_eq_false_iff_eq, beq_eq_false_iff_ne, ne_eq, Bool.not_eq_true', Bool.not_eq_false', Bool.not_eq_true, Bool.not_eq_false, Bool.not_true, Bool.not_false, Int.ofNat_lt, Int.ofNat_le, Nat.not_lt, Nat.not_le] at h))
                          (refine wp_seq_k ?_; intro Kq27 hKq27)
                          refine wp_region_lit ?_
                          (refine wpl_v S rfl rfl rfl (sv_pure S rfl) ?_; clear S a; intro a S)
                          (refine wpl_v S rfl rfl rfl (sv_add S rfl rfl rfl (by first | omega | (simp only [List.length_append, List.length_cons, List.length_nil]; omega))) ?_; clear S a; intro a S)
                          (refine wpl_v S rfl rfl rfl (sv_pure S rfl) ?_; clear S a; intro a S)
                          (refine wpl_v S rfl rfl rfl (sv_pure S rfl) ?_; clear S a; intro a S)
                          (refine wpl_v S rfl rfl rfl (sv_pure S rfl) ?_; clear S a; intro a S)
                          (refine wpl_v S rfl rfl rfl (sv_add S rfl rfl rfl (by first | omega | (simp only [List.length_append, List.length_cons, List.length_nil]; omega))) ?_; clear S a; intro a S)
                          (rw [i64_add1] at S)
                          (refine wpl_v S rfl rfl rfl (sv_sliceS S rfl rfl rfl rfl (by first | omega | (simp only [List.length_append, List.length_cons, List.length_nil]; omega))) ?_; clear S a; intro a S)
                          (rw [cutT, ht1] at S)
                          (refine wpl_v S rfl rfl rfl (sv_build S rfl rfl rfl) ?_; clear S a; intro a S)
                          (refine wpl_storeO S rfl rfl rfl rfl rfl (by rfl) (by simp [Value.cells, Value.oneCell', splice]) (by rfl) ?_; clear S; intro w S)
                          (refine wpl_v S rfl rfl rfl (sv_pure S rfl) ?_; clear S a; intro a S)
                          refine wpList_nil ?_
                          (refine hKq27 _ _ ?_; try (clear hKq27 Kq27))
                          refine wp_ret ?_
                          refine fin_ret S (results2 Tryd.results20 (RV.cellO S rfl (by rfl)) (RV.tmp S rfl)) ?_
                          (first | (rw [nextF_low (by assumption)]; exact RT.of hE) | (rw [nextF_dig (by assumption) (by assumption)]; exact RT.of hE) | (rw [nextF_quo (by assumption) (by assumption) (by omega)]; exact RT.of hE) | (rw [nextF_high (by assumption) (by assumption) (by omega) (by assumption)]; (simp only [← hn, ← hm]; first | (refine RT.ok rfl ?_; (repeat' split) <;> first | exact ⟨_, rfl, by omega⟩ | (exfalso; omega)) | (refine RT.bad rfl (by decide) ?_; (repeat' split) <;> first | rfl | (exfalso; omega)))) | (rw [nextF_any (by assumption) (by assumption) (by omega) (by assumption) (by omega)]; (simp only [← hn, ← hm]; first | (refine RT.ok rfl ?_; (repeat' split) <;> first | exact ⟨_, rfl, by omega⟩ | (exfalso; omega)) | (refine RT.bad rfl (by decide) ?_; (repeat' split) <;> first | rfl | (exfalso; omega)))) | (have h9 : (s.drop i).take 2 = twos[k] := (by assumption); rw [nextF_two (by assumption) (by assumption) (by omega) (by assumption) (by omega) (contains_at hk6 h9.symm), h9]; exact RT.ok rfl ⟨2, rfl, by omega⟩) | (rw [nextF_field (by assumption) (by assumption) (by omega) (by assumption) (by omega) h6 (by omega) (by assumption) (by rw [← hm]; assumption)]; (simp only [← hn, ← hm]; first | (refine RT.ok rfl ?_; (repeat' split) <;> first | exact ⟨_, rfl, by omega⟩ | (exfalso; omega)) | (refine RT.bad rfl (by decide) ?_; (repeat' split) <;> first | rfl | (exfalso; omega)))) | (have hk15 : k < ones.length := (by show k < 15; omega); have ho : ones.getD k 0 = ones[k] := (by rw [List.getD_eq_getElem?_getD, List.getElem?_eq_getElem hk15]; rfl); have h9 : ones[k] = (s.drop i).getD 0 0 := (by rw [← ho]; apply UInt8.toNat_inj.1; omega); rw [nextF_rest (by assumption) (by assumption) (by omega) (by assumption) (by omega) h6 (fun hx => by obtain ⟨x1, x2, x3⟩ := hx; rw [← hm] at x3; first | omega | (rw [hlz (by omega)] at x2; cases x2) | (simp_all; done)), if_pos (contains_at hk15 h9)]; exact RT.ok rfl ⟨1, rfl, by omega⟩) | (rw [nextF_rest (by assumption) (by assumption) (by omega) (by assumption) (by omega) h6 (fun hx => by obtain ⟨x1, x2, x3⟩ := hx; rw [← hm] at x3; first | omega | (rw [hlz (by omega)] at x2; cases x2) | (simp_all; done)), if_neg (by rw [contains_no (fun j hj => hall1 j (by have : j < 15 := hj; omega) hj)]; decide)]; exact RT.bad rfl (by decide) rfl))
                        · (skip; (try simp only [decide_eq_true_eq, decide_eq_false_iff_not, beq_iff_eq, bne_iff_ne, bne_eq_false_iff_eq, beq_eq_false_iff_ne, ne_eq, Bool.not_eq_true', Bool.not_eq_false', Bool.not_eq_true, Bool.not_eq_false, Bool.not_true, Bool.not_false, Int.ofNat_lt, Int.ofNat_le, Nat.not_lt, Nat.not_le] at h))
                          refine wp_skip ?_
                          (refine hKq25 _ _ ?_; try (clear hKq25 Kq25))
                          refine wp_region_lit ?_
                          (refine wpl_v S rfl rfl rfl (sv_pure S rfl) ?_; clear S a; intro a S)
                          (refine wpl_v S rfl rfl rfl (sv_add S rfl rfl rfl (by first | omega | (simp only [List.length_append, List.length_cons, List.length_nil]; omega))) ?_; clear S a; intro a S)
                          (refine wpl_v S rfl rfl rfl (sv_pure S rfl) ?_; clear S a; intro a S)
                          refine wpList_nil ?_
                          change ∃ m', _ ∧ _
                          (refine ⟨15 - (k + 1), by omega, k + 1, rfl, by omega, fun j hj hj2 => (by rcases Nat.lt_or_eq_of_le (Nat.le_of_lt_succ hj) with h9 | h9; exact hall1 j h9 hj2; subst h9; have ho : ones.getD j 0 = ones[j] := (by rw [List.getD_eq_getElem?_getD, List.getElem?_eq_getElem hj2]; rfl); rw [beq_eq_false_iff_ne]; intro h8; rw [← ho] at h8; have h7 : (ones.getD j 0).toNat = ((s.drop i).getD 0 0).toNat := (by rw [h8]); omega), ?_⟩; refine S.keep ?_; repeat (first | exact trivial | refine ⟨rfl, ?_⟩))
                      · (skip; (try simp only [decide_eq_true_eq, decide_eq_false_iff_not, beq_iff_eq, bne_iff_ne, bne_eq_false_iff_eq, beq_eq_false_iff_ne, ne_eq, Bool.not_eq_true', Bool.not_eq_false', Bool.not_eq_true, Bool.not_eq_false, Bool.not_true, Bool.not_false, Int.ofNat_lt, Int.ofNat_le, Nat.not_lt, Nat.not_le] at h))
                        refine wp_exit ?_
                        (refine hKq21 _ _ ?_; try (clear hKq21 Kq21))
                        (refine wp_seq_k ?_; intro Kq25 hKq25)
                        refine wp_region_lit ?_
                        (refine wpl_v S rfl rfl rfl (sv_build S rfl rfl rfl) ?_; clear S a; intro a S)
                        (refine wpl_storeO S rfl rfl rfl rfl rfl (by rfl) (by simp [Value.cells, Value.oneCell', splice]) (by rfl) ?_; clear S; intro w S)
                        (refine wpl_v S rfl rfl rfl (sv_pure S rfl) ?_; clear S a; intro a S)
                        refine wpList_nil ?_
                        (refine hKq25 _ _ ?_; try (clear hKq25 Kq25))
                        refine wp_ret ?_
                        refine fin_ret S (results2 Tryd.results20 (RV.cellO S rfl (by rfl)) (RV.tmp S rfl)) ?_
                        (first | (rw [nextF_low (by assumption)]; exact RT.of hE) | (rw [nextF_dig (by assumption) (by assumption)]; exact RT.of hE) | (rw [nextF_quo (by assumption) (by assumption) (by omega)]; exact RT.of hE) | (rw [nextF_high (by assumption) (by assumption) (by omega) (by assumption)]; (simp only [← hn, ← hm]; first | (refine RT.ok rfl ?_; (repeat' split) <;> first | exact ⟨_, rfl, by omega⟩ | (exfalso; omega)) | (refine RT.bad rfl (by decide) ?_; (repeat' split) <;> first | rfl | (exfalso; omega)))) | (rw [nextF_any (by assumption) (by assumption) (by omega) (by assumption) (by omega)]; (simp only [← hn, ← hm]; first | (refine RT.ok rfl ?_; (repeat' split) <;> first | exact ⟨_, rfl, by omega⟩ | (exfalso; omega)) | (refine RT.bad rfl (by decide) ?_; (repeat' split) <;> first | rfl | (exfalso; omega)))) | (have h9 : (s.drop i).take 2 = twos[k] := (by assumption); rw [nextF_two (by assumption) (by assumption) (by omega) (by assumption) (by omega) (contains_at hk6 h9.symm), h9]; exact RT.ok rfl ⟨2, rfl, by omega⟩) | (rw [nextF_field (by assumption) (by assumption) (by omega) (by assumption) (by omega) h6 (by omega) (by assumption) (by rw [← hm]; assumption)]; (simp only [← hn, ← hm]; first | (refine RT.ok rfl ?_; (repeat' split) <;> first | exact ⟨_, rfl, by omega⟩ | (exfalso; omega)) | (refine RT.bad rfl (by decide) ?_; (repeat' split) <;> first | rfl | (exfalso; omega)))) | (have hk15 : k < ones.length := (by show k < 15; omega); have ho : ones.getD k 0 = ones[k] := (by rw [List.getD_eq_getElem?_getD, List.getElem?_eq_getElem hk15]; rfl); have h9 : ones[k] = (s.drop i).getD 0 0 := (by rw [← ho]; apply UInt8.toNat_inj.1; omega); rw [nextF_rest (by assumption) (by assumption) (by omega) (by assumption) (by omega) h6 (fun hx => by obtain ⟨x1, x2, x3⟩ := hx; rw [← hm] at x3; first | omega | (rw [hlz (by omega)] at x2; cases x2) | (simp_all; done)), if_pos (contains_at hk15 h9)]; exact RT.ok rfl ⟨1, rfl, by omega⟩) | (rw [nextF_rest (by assumption) (by assumption) (by omega) (by assumption) (by omega) h6 (fun hx => by obtain ⟨x1, x2, x3⟩ := hx; rw [← hm] at x3; first | omega | (rw [hlz (by omega)] at x2; cases x2) | (simp_all; done)), if_neg (by rw [contains_no (fun j hj => hall1 j (by have : j < 15 := hj; omega) hj)]; decide)]; exact RT.bad rfl (by decide) rfl))
                · (intro h; clear S a; intro a S; (try simp only [decide_eq_true_eq, decide_eq_false_iff_not, beq_iff_eq, bne_iff_ne, bne_eq_false_iff_eq, beq_eq_false_iff_ne, ne_eq, Bool.not_eq_true', Bool.not_eq_false', Bool.not_eq_true, Bool.not_eq_false, Bool.not_true, Bool.not_false, Int.ofNat_lt, Int.ofNat_le, Nat.not_lt, Nat.not_le] at h))
                  (refine wpl_skip S rfl rfl rfl rfl rfl ?_; clear S a; intro a S)
                  (refine wpl_skip S rfl rfl rfl rfl rfl ?_; clear S a; intro a S)
                  (refine wpl_skip S rfl rfl rfl rfl rfl ?_; clear S a; intro a S)
                  (refine wpl_skip S rfl rfl rfl rfl rfl ?_; clear S a; intro a S)
                  first | (refine wpl_v S rfl rfl rfl (sv_pure S rfl) ?_; clear S a; intro a S) | (refine wpl_v S rfl rfl rfl (sv_pickB S rfl rfl rfl rfl) ?_; clear S a; intro a S)
                  (refine wpl_v S rfl rfl rfl (sv_pure S rfl) ?_; clear S a; intro a S)
                  (refine wpl_skip S rfl rfl rfl rfl rfl ?_; clear S a; intro a S)
                  (refine wpl_skip S rfl rfl rfl rfl rfl ?_; clear S a; intro a S)
                  (refine wpl_skip S rfl rfl rfl rfl rfl ?_; clear S a; intro a S)
                  (refine wpl_skip S rfl rfl rfl rfl rfl ?_; clear S a; intro a S)
                  (refine wpl_skip S rfl rfl rfl rfl rfl ?_; clear S a; intro a S)
                  first | (refine wpl_v S rfl rfl rfl (sv_pure S rfl) ?_; clear S a; intro a S) | (refine wpl_v S rfl rfl rfl (sv_pickB S rfl rfl rfl rfl) ?_; clear S a; intro a S)
                  refine wpList_nil ?_
                  (refine hKq19 _ _ ?_; try (clear hKq19 Kq19))
                  refine wpc_false S rfl ?_
                  refine wp_skip ?_
                  (refine hKq18 _ _ ?_; try (clear hKq18 Kq18))
                  (refine wp_seq_k ?_; intro Kq20 hKq20)
                  refine wp_region_lit ?_
                  (refine wpl_v S rfl rfl rfl (sv_pure S rfl) ?_; clear S a; intro a S)
                  refine wpList_nil ?_
                  (refine hKq20 _ _ ?_; try (clear hKq20 Kq20))
                  (refine wp_seq_k ?_; intro Kq21 hKq21)
                  (refine wp_seq_k ?_; intro Kq22 hKq22)
                  refine wp_region_lit ?_
                  (refine wpl_v S rfl rfl rfl (sv_pure S rfl) ?_; clear S a; intro a S)
                  refine wpList_nil ?_
                  (refine hKq22 _ _ ?_; try (clear hKq22 Kq22))
                  refine wp_block ?_
                  refine wpc_loop (fun m a w' => ∃ (k : Nat), m = 15 - k ∧ k ≤ 15 ∧ (∀ j, (hj : j < k) → (hj2 : j < ones.length) → ((ones[j]'hj2) == (s.drop i).getD 0 0) = false) ∧ St 156 [(0, .string (bs s)), (1, .int .i64 i), (4, .pointer (some ⟨b4, 0, none⟩)), (6, .int .u8 ((s.drop i).getD 0 0).toNat), (11, .string (bs ones)), (12, .int .i64 k)] w0 F [] F [[(b65, .cells ⟨twosV⟩ 9 (0, 0))], [(b4, .cells ⟨[.int .u8 0, .int .i64 0, .string (bs [])]⟩ 56 (0, 0))]] a w') ?_ ?_
                  · (refine ⟨15, 0, by simp, Nat.zero_le _, fun j hj => by omega, ?_⟩; refine S.keep ?_; repeat (first | exact trivial | refine ⟨rfl, ?_⟩))
                  · (clear S; rintro m' a w ⟨k, rfl, hk, hall1, S⟩)
                    (refine wp_seq_k ?_; intro Kq23 hKq23)
                    (refine wp_seq_k ?_; intro Kq24 hKq24)
                    refine wp_region_lit ?_
                    (refine wpl_v S rfl rfl rfl (sv_pure S rfl) ?_; clear S a; intro a S)
                    (refine wpl_v S rfl rfl rfl (sv_pure S rfl) ?_; clear S a; intro a S)
                    (refine wpl_v S rfl rfl rfl (sv_lenS S rfl rfl) ?_; clear S a; intro a S)
                    (refine wpl_v S rfl rfl rfl (sv_pure S rfl) ?_; clear S a; intro a S)
                    refine wpList_nil ?_
                    (refine hKq24 _ _ ?_; try (clear hKq24 Kq24))
                    refine wpc_split S rfl (fun h => ?_) (fun h => ?_)
                    · (skip; (try simp only [decide_eq_true_eq, decide_eq_false_iff_not, beq_iff_eq, bne_iff_ne, bne_eq_false_iff_eq, beq_eq_false_iff_ne, ne_eq, Bool.not_eq_true', Bool.not_eq_false', Bool.not_eq_true, Bool.not_eq_false, Bool.not_true, Bool.not_false, Int.ofNat_lt, Int.ofNat_le, Nat.not_lt, Nat.not_le] at h))
                      refine wp_skip ?_
                      (refine hKq23 _ _ ?_; try (clear hKq23 Kq23))
                      (refine wp_seq_k ?_; intro Kq25 hKq25)
                      refine wp_block ?_
                      (refine wp_seq_k ?_; intro Kq26 hKq26)
                      refine wp_region_lit ?_
                      (refine wpl_v S rfl rfl rfl (sv_pure S rfl) ?_; clear S a; intro a S)
                      (refine wpl_v S rfl rfl rfl (sv_pure S rfl) ?_; clear S a; intro a S)
                      (refine wpl_v S rfl rfl rfl (sv_pure S rfl) ?_; clear S a; intro a S)
                      first | (refine wpl_v S rfl rfl rfl (sv_indexSN S rfl rfl rfl (by first | omega | (simp only [List.length_append, List.length_cons, List.length_nil]; omega))) ?_; clear S a; intro a S) | (refine wpl_v S rfl rfl rfl (sv_indexS S rfl rfl rfl (by first | omega | (simp only [List.length_append, List.length_cons, List.length_nil]; omega))) ?_; clear S a; intro a S)
                      (refine wpl_v S rfl rfl rfl (sv_pure S rfl) ?_; clear S a; intro a S)
                      refine wpList_nil ?_
                      (refine hKq26 _ _ ?_; try (clear hKq26 Kq26))
                      refine wpc_split S rfl (fun h => ?_) (fun h => ?_)
                      · (skip; (try simp only [decide_eq_true_eq, decide_eq_false_iff_not, beq_iff_eq, bne_iff_ne, bne_eq_false_iff_eq, beq_eq_false_iff_ne, ne_eq, Bool.not_eq_true', Bool.not_eq_false', Bool.not_eq_true, Bool.not_eq_false, Bool.not_true, Bool.not_false, Int.ofNat_lt, Int.ofNat_le, Nat.not_lt, Nat.not_le] at h))
                        (refine wp_seq_k ?_; intro Kq27 hKq27)
                        refine wp_region_lit ?_
                        (refine wpl_v S rfl rfl rfl (sv_pure S rfl) ?_; clear S a; intro a S)
                        (refine wpl_v S rfl rfl rfl (sv_add S rfl rfl rfl (by first | omega | (simp only [List.length_append, List.length_cons, List.length_nil]; omega))) ?_; clear S a; intro a S)
                        (refine wpl_v S rfl rfl rfl (sv_pure S rfl) ?_; clear S a; intro a S)
                        (refine wpl_v S rfl rfl rfl (sv_pure S rfl) ?_; clear S a; intro a S)
                        (refine wpl_v S rfl rfl rfl (sv_pure S rfl) ?_; clear S a; intro a S)
                        (refine wpl_v S rfl rfl rfl (sv_add S rfl rfl rfl (by first | omega | (simp only [List.length_append, List.length_cons, List.length_nil]; omega))) ?_; clear S a; intro a S)
                        (rw [i64_add1] at S)
                        (refine wpl_v S rfl rfl rfl (sv_sliceS S rfl rfl rfl rfl (by first | omega | (simp only [List.length_append, List.length_cons, List.length_nil]; omega))) ?_; clear S a; intro a S)
                        (rw [cutT, ht1] at S)
                        (refine wpl_v S rfl rfl rfl (sv_build S rfl rfl rfl) ?_; clear S a; intro a S)
                        (refine wpl_storeO S rfl rfl rfl rfl rfl (by rfl) (by simp [Value.cells, Value.oneCell', splice]) (by rfl) ?_; clear S; intro w S)
                        (refine wpl_v S rfl rfl rfl (sv_pure S rfl) ?_; clear S a; intro a S)
                        refine wpList_nil ?_
                        (refine hKq27 _ _ ?_; try (clear hKq27 Kq27))
                        refine wp_ret ?_
                        refine fin_ret S (results2 Tryd.results20 (RV.cellO S rfl (by rfl)) (RV.tmp S rfl)) ?_
                        (first | (rw [nextF_low (by assumption)]; exact RT.of hE) | (rw [nextF_dig (by assumption) (by assumption)]; exact RT.of hE) | (rw [nextF_quo (by assumption) (by assumption) (by omega)]; exact RT.of hE) | (rw [nextF_high (by assumption) (by assumption) (by omega) (by assumption)]; (simp only [← hn, ← hm]; first | (refine RT.ok rfl ?_; (repeat' split) <;> first | exact ⟨_, rfl, by omega⟩ | (exfalso; omega)) | (refine RT.bad rfl (by decide) ?_; (repeat' split) <;> first | rfl | (exfalso; omega)))) | (rw [nextF_any (by assumption) (by assumption) (by omega) (by assumption) (by omega)]; (simp only [← hn, ← hm]; first | (refine RT.ok rfl ?_; (repeat' split) <;> first | exact ⟨_, rfl, by omega⟩ | (exfalso; omega)) | (refine RT.bad rfl (by decide) ?_; (repeat' split) <;> first | rfl | (exfalso; omega)))) | (have h9 : (s.drop i).take 2 = twos[k] := (by assumption); rw [nextF_two (by assumption) (by assumption) (by omega) (by assumption) (by omega) (contains_at hk6 h9.symm), h9]; exact RT.ok rfl ⟨2, rfl, by omega⟩) | (rw [nextF_field (by assumption) (by assumption) (by omega) (by assumption) (by omega) h6 (by omega) (by assumption) (by rw [← hm]; assumption)]; (simp only [← hn, ← hm]; first | (refine RT.ok rfl ?_; (repeat' split) <;> first | exact ⟨_, rfl, by omega⟩ | (exfalso; omega)) | (refine RT.bad rfl (by decide) ?_; (repeat' split) <;> first | rfl | (exfalso; omega)))) | (have hk15 : k < ones.length := (by show k < 15; omega); have ho : ones.getD k 0 = ones[k] := (by rw [List.getD_eq_getElem?_getD, List.getElem?_eq_getElem hk15]; rfl); have h9 : ones[k] = (s.drop i).getD 0 0 := (by rw [← ho]; apply UInt8.toNat_inj.1; omega); rw [nextF_rest (by assumption) (by assumption) (by omega) (by assumption) (by omega) h6 (fun hx => by obtain ⟨x1, x2, x3⟩ := hx; rw [← hm] at x3; first | omega | (rw [hlz (by omega)] at x2; cases x2) | (simp_all; done)), if_pos (contains_at hk15 h9)]; exact RT.ok rfl ⟨1, rfl, by omega⟩) | (rw [nextF_rest (by assumption) (by assumption) (by omega) (by assumption) (by omega) h6 (fun hx => by obtain ⟨x1, x2, x3⟩ := hx; rw [← hm] at x3; first | omega | (rw [hlz (by omega)] at x2; cases x2) | (simp_all; done)), if_neg (by rw [contains_no (fun j hj => hall1 j (by have : j < 15 := hj; omega) hj)]; decide)]; exact RT.bad rfl (by decide) rfl))
                      · (skip; (try simp only [decide_eq_true_eq, decide_eq_false_iff_not, beq_iff_eq, bne_iff_ne, bne_eq_false_iff_eq, beq_eq_false_iff_ne, ne_eq, Bool.not_eq_true', Bool.not_eq_false', Bool.not_eq_true, Bool.not_eq_false, Bool.not_true, Bool.not_false, Int.ofNat_lt, Int.ofNat_le, Nat.not_lt, Nat.not_le] at h))
                        refine wp_skip ?_
                        (refine hKq25 _ _ ?_; try (clear hKq25 Kq25))
                        refine wp_region_lit ?_
                        (refine wpl_v S rfl rfl rfl (sv_pure S rfl) ?_; clear S a; intro a S)
                        (refine wpl_v S rfl rfl rfl (sv_add S rfl rfl rfl (by first | omega | (simp only [List.length_append, List.length_cons, List.length_nil]; omega))) ?_; clear S a; intro a S)
                        (refine wpl_v S rfl rfl rfl (sv_pure S rfl) ?_; clear S a; intro a S)
                        refine wpList_nil ?_
                        change ∃ m', _ ∧ _
                        (refine ⟨15 - (k + 1), by omega, k + 1, rfl, by omega, fun j hj hj2 => (by rcases Nat.lt_or_eq_of_le (Nat.le_of_lt_succ hj) with h9 | h9; exact hall1 j h9 hj2; subst h9; have ho : ones.getD j 0 = ones[j] := (by rw [List.getD_eq_getElem?_getD, List.getElem?_eq_getElem hj2]; rfl); rw [beq_eq_false_iff_ne]; intro h8; rw [← ho] at h8; have h7 : (ones.getD j 0).toNat = ((s.drop i).getD 0 0).toNat := (by rw [h8]); omega), ?_⟩; refine S.keep ?_; repeat (first | exact trivial | refine ⟨rfl, ?_⟩))
                    · (skip; (try simp only [decide_eq_true_eq, decide_eq_false_iff_not, beq_iff_eq, bne_iff_ne, bne_eq_false_iff_eq, beq_eq_false_iff_ne, ne_eq, Bool.not_eq_true', Bool.not_eq_false', Bool.not_eq_true, Bool.not_eq_false, Bool.not_true, Bool.not_false, Int.ofNat_lt, Int.ofNat_le, Nat.not_lt, Nat.not_le] at h))
                      refine wp_exit ?_
                      (refine hKq21 _ _ ?_; try (clear hKq21 Kq21))
                      (refine wp_seq_k ?_; intro Kq25 hKq25)
                      refine wp_region_lit ?_
                      (refine wpl_v S rfl rfl rfl (sv_build S rfl rfl rfl) ?_; clear S a; intro a S)
                      (refine wpl_storeO S rfl rfl rfl rfl rfl (by rfl) (by simp [Value.cells, Value.oneCell', splice]) (by rfl) ?_; clear S; intro w S)
                      (refine wpl_v S rfl rfl rfl (sv_pure S rfl) ?_; clear S a; intro a S)
                      refine wpList_nil ?_
                      (refine hKq25 _ _ ?_; try (clear hKq25 Kq25))
                      refine wp_ret ?_
                      refine fin_ret S (results2 Tryd.results20 (RV.cellO S rfl (by rfl)) (RV.tmp S rfl)) ?_
                      (first | (rw [nextF_low (by assumption)]; exact RT.of hE) | (rw [nextF_dig (by assumption) (by assumption)]; exact RT.of hE) | (rw [nextF_quo (by assumption) (by assumption) (by omega)]; exact RT.of hE) | (rw [nextF_high (by assumption) (by assumption) (by omega) (by assumption)]; (simp only [← hn, ← hm]; first | (refine RT.ok rfl ?_; (repeat' split) <;> first | exact ⟨_, rfl, by omega⟩ | (exfalso; omega)) | (refine RT.bad rfl (by decide) ?_; (repeat' split) <;> first | rfl | (exfalso; omega)))) | (rw [nextF_any (by assumption) (by assumption) (by omega) (by assumption) (by omega)]; (simp only [← hn, ← hm]; first | (refine RT.ok rfl ?_; (repeat' split) <;> first | exact ⟨_, rfl, by omega⟩ | (exfalso; omega)) | (refine RT.bad rfl (by decide) ?_; (repeat' split) <;> first | rfl | (exfalso; omega)))) | (have h9 : (s.drop i).take 2 = twos[k] := (by assumption); rw [nextF_two (by assumption) (by assumption) (by omega) (by assumption) (by omega) (contains_at hk6 h9.symm), h9]; exact RT.ok rfl ⟨2, rfl, by omega⟩) | (rw [nextF_field (by assumption) (by assumption) (by omega) (by assumption) (by omega) h6 (by omega) (by assumption) (by rw [← hm]; assumption)]; (simp only [← hn, ← hm]; first | (refine RT.ok rfl ?_; (repeat' split) <;> first | exact ⟨_, rfl, by omega⟩ | (exfalso; omega)) | (refine RT.bad rfl (by decide) ?_; (repeat' split) <;> first | rfl | (exfalso; omega)))) | (have hk15 : k < ones.length := (by show k < 15; omega); have ho : ones.getD k 0 = ones[k] := (by rw [List.getD_eq_getElem?_getD, List.getElem?_eq_getElem hk15]; rfl); have h9 : ones[k] = (s.drop i).getD 0 0 := (by rw [← ho]; apply UInt8.toNat_inj.1; omega); rw [nextF_rest (by assumption) (by assumption) (by omega) (by assumption) (by omega) h6 (fun hx => by obtain ⟨x1, x2, x3⟩ := hx; rw [← hm] at x3; first | omega | (rw [hlz (by omega)] at x2; cases x2) | (simp_all; done)), if_pos (contains_at hk15 h9)]; exact RT.ok rfl ⟨1, rfl, by omega⟩) | (rw [nextF_rest (by assumption) (by assumption) (by omega) (by assumption) (by omega) h6 (fun hx => by obtain ⟨x1, x2, x3⟩ := hx; rw [← hm] at x3; first | omega | (rw [hlz (by omega)] at x2; cases x2) | (simp_all; done)), if_neg (by rw [contains_no (fun j hj => hall1 j (by have : j < 15 := hj; omega) hj)]; decide)]; exact RT.bad rfl (by decide) rfl))
end Go.Proofs.YtpgnmnacfilnkaaDoor
