/- BigNames answers true. -/
import Derived.Test.YtmmpbpfdnpgklaaDoorOutB
import Derived.Test.YtmmpbpfdnpgklaaDoorInt3
namespace Go.Proofs.YtmmpbpfdnpgklaaDoor
open Go Go.Wk Go.Num
set_option linter.unusedSimpArgs false
set_option linter.unusedVariables false
attribute [local irreducible] Go.wpList Go.Code.wp Go.wpStill Go.Wk.wpPre Go.bodyPost Go.Calls Go.Wk.Ct Go.Wk.OwnS
attribute [local irreducible] Go.Wk.wpG Go.Wk.wpM

def nin (n : Nat) : List UInt8 := List.replicate n 57
theorem nin_step {n i : Nat} (hi : i < n) : ((List.replicate i (Value.int .u8 57) ++ List.replicate (n - i) (Value.int .u8 0)) : List Value).set i (.int .u8 57) = List.replicate (i + 1) (Value.int .u8 57) ++ List.replicate (n - (i + 1)) (Value.int .u8 0) := by
  rw [List.set_append_right _ _ (by simp), List.length_replicate, Nat.sub_self, show n - i = (n - (i + 1)) + 1 by omega, List.replicate_succ, List.set_cons_zero, List.replicate_succ', List.append_assoc]; rfl
set_option maxHeartbeats 1000000 in
theorem ninesCt (n : Nat) (F : Heap) (hn : n ≤ 1000) : Ct Tryd.prog 33 [.int .i64 (n : Int)] F [] (fun _ _ u => u = .string (bs (nin n))) := by
  refine Ct.enter Tryd.func33 rfl Tryd.ntmps33 rfl fun w0 a S => ?_
  (refine wp_seq_k ?_; intro Kq1 hKq1)
  refine wp_region_lit ?_
  (refine wpl_v S rfl rfl rfl (sv_pure S rfl) ?_; clear S a; intro a S)
  refine wpList_nil ?_
  (refine hKq1 _ _ ?_; try (clear hKq1 Kq1))
  (refine wp_seq_k ?_; intro Kq2 hKq2)
  refine wp_region_lit ?_
  (refine wpl_v S rfl rfl rfl (sv_pure S rfl) ?_; clear S a; intro a S)
  (refine wpl_makeSlice (q := n) S rfl rfl rfl rfl rfl rfl rfl (by omega) (by omega) ?_; clear S a; intro b a w hown S)
  (refine wpl_v S rfl rfl rfl (sv_pure S rfl) ?_; clear S a; intro a S)
  refine wpList_nil ?_
  (refine hKq2 _ _ ?_; try (clear hKq2 Kq2))
  (refine wp_seq_k ?_; intro Kq3 hKq3)
  (refine wp_seq_k ?_; intro Kq4 hKq4)
  refine wp_region_lit ?_
  (refine wpl_v S rfl rfl rfl (sv_pure S rfl) ?_; clear S a; intro a S)
  refine wpList_nil ?_
  (refine hKq4 _ _ ?_; try (clear hKq4 Kq4))
  refine wp_block ?_
  refine wpc_loop (fun m a w' => ∃ (i : Nat) (g : Grp), m = n - i ∧ i ≤ n ∧ OwnS 5 1 (.slice (some ⟨b, 0, none⟩) n n) n (List.replicate i (Value.int .u8 57) ++ List.replicate (n - i) (Value.int .u8 0)) g ∧ St 17 [(0, .int .i64 (n : Int)), (3, .slice (some ⟨b, 0, none⟩) n n), (4, .int .i64 (i : Int))] w0 F [] F [g] a w') ?_ ?_
  · (refine ⟨n, 0, _, rfl, Nat.zero_le _, (by simpa using hown), ?_⟩; refine S.keep ?_; repeat (first | exact trivial | refine ⟨rfl, ?_⟩))
  · (clear hown S; rintro m a w ⟨i, g, rfl, hi, hown, S⟩)
    (refine wp_seq_k ?_; intro Kq5 hKq5)
    (refine wp_seq_k ?_; intro Kq6 hKq6)
    refine wp_region_lit ?_
    (refine wpl_v S rfl rfl rfl (sv_pure S rfl) ?_; clear S a; intro a S)
    (refine wpl_v S rfl rfl rfl (sv_pure S rfl) ?_; clear S a; intro a S)
    (refine wpl_v S rfl rfl rfl (sv_pure S rfl) ?_; clear S a; intro a S)
    refine wpList_nil ?_
    (refine hKq6 _ _ ?_; try (clear hKq6 Kq6))
    refine wpc_split S rfl (fun h => ?_) (fun h => ?_)
    · (skip; (try simp only [decide_eq_true_eq, decide_eq_false_iff_not, beq_iff_eq, bne_iff_ne, bne_eq_false_iff_eq, beq_eq_false_iff_ne, ne_eq, Bool.not_eq_true', Bool.not_eq_false', Bool.not_eq_true, Bool.not_eq_false, Bool.not_true, Bool.not_false, Int.ofNat_lt, Int.ofNat_le, Nat.not_lt, Nat.not_le] at h))
      refine wp_skip ?_
      (refine hKq5 _ _ ?_; try (clear hKq5 Kq5))
      (refine wp_seq_k ?_; intro Kq7 hKq7)
      refine wp_block ?_
      refine wp_region_lit ?_
      (refine wpl_v S rfl rfl rfl (sv_pure S rfl) ?_; clear S a; intro a S)
      (refine wpl_v S rfl rfl rfl (sv_pure S rfl) ?_; clear S a; intro a S)
      (refine wpl_v S rfl rfl rfl (sv_indexAddrSl S rfl rfl rfl (by first | omega | (simp only [List.length_append, List.length_cons, List.length_nil]; omega))) ?_; clear S a; intro a S)
      (refine wpl_storeOwn S rfl rfl rfl rfl rfl hown rfl (by omega) ?_; clear hown S; intro g w hown S)
      refine wpList_nil ?_
      (refine hKq7 _ _ ?_; try (clear hKq7 Kq7))
      refine wp_region_lit ?_
      (refine wpl_v S rfl rfl rfl (sv_pure S rfl) ?_; clear S a; intro a S)
      (refine wpl_v S rfl rfl rfl (sv_add S rfl rfl rfl (by first | omega | (simp only [List.length_append, List.length_cons, List.length_nil]; omega))) ?_; clear S a; intro a S)
      (refine wpl_v S rfl rfl rfl (sv_pure S rfl) ?_; clear S a; intro a S)
      refine wpList_nil ?_
      change ∃ m', _ ∧ _
      (refine ⟨n - (i + 1), by omega, i + 1, g, rfl, by omega, (by rw [← nin_step (by omega)]; exact hown), ?_⟩; refine S.keep ⟨rfl, rfl, reg (by omega), trivial⟩)
    · (skip; (try simp only [decide_eq_true_eq, decide_eq_false_iff_not, beq_iff_eq, bne_iff_ne, bne_eq_false_iff_eq, beq_eq_false_iff_ne, ne_eq, Bool.not_eq_true', Bool.not_eq_false', Bool.not_eq_true, Bool.not_eq_false, Bool.not_true, Bool.not_false, Int.ofNat_lt, Int.ofNat_le, Nat.not_lt, Nat.not_le] at h))
      refine wp_exit ?_
      (refine hKq3 _ _ ?_; try (clear hKq3 Kq3))
      (refine wp_seq_k ?_; intro Kq7 hKq7)
      refine wp_region_lit ?_
      (refine wpl_v S rfl rfl rfl (sv_pure S rfl) ?_; clear S a; intro a S)
      (have hie : i = n := (by omega); subst hie; (refine wpl_v S rfl rfl rfl (sv_toStr (l := nin i) S rfl rfl (by rw [show (nin i).map (fun b => Value.int .u8 b.toNat) = List.replicate i (Value.int .u8 57) from (by unfold nin; rw [List.map_replicate]; rfl)]; simpa using hown)) ?_; clear S a; intro a S))
      (refine wpl_v S rfl rfl rfl (sv_pure S rfl) ?_; clear S a; intro a S)
      refine wpList_nil ?_
      (refine hKq7 _ _ ?_; try (clear hKq7 Kq7))
      refine wp_ret ?_
      refine fin_ret S (results1 Tryd.results33 (RV.tmp S rfl)) ?_
      rfl
def bad : List (List UInt8) := [[], [45], [45, 48], [48, 49], [43, 49], [49, 46, 53], [49, 32], [45, 48, 49], [45, 45, 49], [97], [49, 101, 51], [255]]
theorem bad_ok : ∀ i, i < 12 → checkS (bad.getD i []) = 4 ∧ (bad.getD i []).length ≤ 10 := by decide
theorem bad_at {i : Nat} (h : i < 12) : (bad.map fun x => Value.string (bs x))[i]? = some (.string (bs (bad.getD i []))) := by
  have hl : i < bad.length := h
  rw [List.getElem?_map, List.getElem?_eq_getElem hl, List.getD_eq_getElem?_getD, List.getElem?_eq_getElem hl]; rfl
theorem nin_ok : checkS (nin 200) = 0 ∧ checkS (nin 100) = 0 ∧ checkS (nin 101) = 0 ∧ checkS (nin 201) = 80 ∧ checkS ([45] ++ nin 200) = 0 := by decide +kernel
theorem nin_val : valS (nin 200) = 10 ^ 200 - 1 ∧ valS (nin 100) = 10 ^ 100 - 1 ∧ valS (nin 101) = 10 ^ 101 - 1 ∧ valS ([45] ++ nin 200) = -(10 ^ 200 - 1) := by decide +kernel
theorem refused {z : Int} (h : 10 ^ 200 ≤ z.natAbs) : showZ z = ([], 80) := by
  rcases showZ_cases z with h1 | h1
  · have := (showZ_err z 200 rfl).1 h1; omega
  · exact h1
theorem n1 : doA 0 (nin 200) [49] = ([], 80) := by
  rw [do0_eq nin_ok.1 (by decide), nin_val.1]; exact refused (by decide +kernel)
theorem n2 : doA 0 (nin 200) [48] = (nin 200, 0) := ans_of (do0_eq nin_ok.1 (by decide)) nin_ok.1 (by rw [show valS [48] = 0 by decide]; omega)
theorem n3 : doA 2 (nin 100) (nin 101) = ([], 80) := by
  rw [do2_eq nin_ok.2.1 nin_ok.2.2.1, nin_val.2.1, nin_val.2.2.1]; exact refused (by decide +kernel)
theorem n4 : (doA 2 (nin 100) (nin 100)).2 = 0 ∧ (doA 2 (nin 100) (nin 100)).1.length = 200 := by
  rw [do2_eq nin_ok.2.1 nin_ok.2.1, nin_val.2.1]
  have h1 : (((10 : Int) ^ 100 - 1) * (10 ^ 100 - 1)).natAbs < 10 ^ 200 := by decide +kernel
  have h2 : 10 ^ 199 ≤ (((10 : Int) ^ 100 - 1) * (10 ^ 100 - 1)).natAbs := by decide +kernel
  have h3 : decide (((10 : Int) ^ 100 - 1) * (10 ^ 100 - 1) < 0) = false := by decide +kernel
  refine ⟨(showZ_err _ 200 rfl).2 h1, ?_⟩
  generalize ((10 : Int) ^ 100 - 1) * (10 ^ 100 - 1) = z at *
  have h4 : z.natAbs ≠ 0 := fun e => by rw [e] at h2; exact absurd h2 (by decide +kernel)
  have h5 := (dd_len_lt (N := z.natAbs) (m := 200) (by decide)).2 h1
  have h6 : ¬ (Lib.decDigits z.natAbs).length ≤ 199 := fun h => by have := (dd_len_lt (N := z.natAbs) (m := 199) (by decide)).1 h; omega
  unfold showZ showS
  rw [if_neg h4, if_neg (by omega), h3]
  simp only [Bool.false_eq_true, if_false, List.nil_append]
  omega
theorem n5 : doA 3 [55] [48] = ([], 81) := by
  have : divE [55] [48] = 81 := by decide
  simp only [doA, ansZ, this]; rfl
theorem n6 : doA 4 [48] [48] = ([], 81) := by
  have : divE [48] [48] = 81 := by decide
  simp only [doA, ansZ, this]; rfl
theorem n7 : doA 1 ([45] ++ nin 200) [49] = ([], 80) := by
  rw [do1_eq nin_ok.2.2.2.2 (by decide), nin_val.2.2.2]; exact refused (by decide +kernel)
theorem n8 : doA 3 ([45] ++ nin 200) [45, 49] = (nin 200, 0) :=
  ans_of (do3_eq nin_ok.2.2.2.2 (by decide) (by decide)) nin_ok.1 (by rw [nin_val.2.2.2, nin_val.1]; decide +kernel)
theorem n9 : doA 0 [120] (nin 201) = ([], 4) := by
  have : bothE [120] (nin 201) = 4 := by unfold bothE; rw [if_neg (by decide)]; decide
  simp only [doA, ansZ, this]; rfl
theorem n10 : doA 0 (nin 201) [120] = ([], 80) := by
  have : bothE (nin 201) [120] = 80 := by unfold bothE; rw [nin_ok.2.2.2.1]; rfl
  simp only [doA, ansZ, this]; rfl
def over1 : List UInt8 := [57, 50, 50, 51, 51, 55, 50, 48, 51, 54, 56, 53, 52, 55, 55, 53, 56, 48, 56]
def over2 : List UInt8 := [45, 57, 50, 50, 51, 51, 55, 50, 48, 51, 54, 56, 53, 52, 55, 55, 53, 56, 48, 57]
theorem i1 : intA over1 = (0, 80) := by decide +kernel
theorem i2 : intA lowS = (-9223372036854775808, 0) := by decide +kernel
theorem i3 : intA over2 = (0, 80) := by decide +kernel
theorem f1 : (showZ (-9223372036854775808)).1 = lowS := by rw [← low_ok.2, show_val low_ok.1]
theorem f2 : (showZ 0).1 = [48] := rfl

set_option maxRecDepth 20000 in
set_option maxHeartbeats 8000000 in
theorem lawNames (F : Heap) (hT : TabF F ∧ ErrF F) : Ct Tryd.prog 11 [] F [] (fun _ _ r => r = .bool true) := by
  have a1 := baddCt (nin 200) [49] F hT.1 (by decide) (by decide)
  have a2 := baddCt (nin 200) [48] F hT.1 (by decide) (by decide)
  have a3 := bmulCt (nin 100) (nin 101) F hT.1 (by decide) (by decide)
  have a4 := bmulCt (nin 100) (nin 100) F hT.1 (by decide) (by decide)
  have a5 := bdivCt2 [55] [48] F hT.1 (by decide) (by decide)
  have a6 := bmodCt2 [48] [48] F hT.1 (by decide) (by decide)
  have a7 := bintCt over1 F hT.2 (by decide)
  have a8 := bintCt lowS F hT.2 (by decide)
  have a9 := bintCt over2 F hT.2 (by decide)
  have a10 := bsubCt ([45] ++ nin 200) [49] F hT.1 (by decide) (by decide)
  have a11 := bdivCt2 ([45] ++ nin 200) [45, 49] F hT.1 (by decide) (by decide)
  have a12 := baddCt [120] (nin 201) F hT.1 (by decide) (by decide)
  have a13 := baddCt (nin 201) [120] F hT.1 (by decide) (by decide)
  have a14 := checkCt (nin 201) F (by decide)
  have a15 := checkCt ([45] ++ nin 200) F (by decide)
  have a16 := bigOfCt (-9223372036854775808) F hT.1 (by decide) (by decide)
  have a17 := bigOfCt 0 F hT.1 (by decide) (by decide)
  have m1 := ninesCt 200 F (by decide)
  have m2 := ninesCt 100 F (by decide)
  have m3 := ninesCt 101 F (by decide)
  have m4 := ninesCt 201 F (by decide)
  rw [n1] at a1; rw [n2] at a2; rw [n3] at a3; rw [n5] at a5; rw [n6] at a6; rw [i1] at a7; rw [i2] at a8; rw [i3] at a9; rw [n7] at a10; rw [n8] at a11; rw [n9] at a12; rw [n10] at a13; rw [nin_ok.2.2.2.1] at a14; rw [nin_ok.2.2.2.2] at a15; rw [f1] at a16; rw [f2] at a17
  obtain ⟨e1, e2⟩ := n4
  generalize doA 2 (nin 100) (nin 100) = e at *
  have hl : ([45] ++ nin 200).length = 201 := by decide
  have hl2 : (nin 200).length = 200 := by decide
  generalize nin 200 = N200 at *
  generalize nin 201 = N201 at *
  generalize nin 100 = N100 at *
  generalize nin 101 = N101 at *
  refine Ct.enter Tryd.func11 rfl Tryd.ntmps11 rfl fun w0 a S => ?_
  (refine wp_seq_k ?_; intro Kq1 hKq1)
  refine wp_region_lit ?_
  (refine wpl_v S rfl rfl rfl (sv_pure S rfl) ?_; clear S a; intro a S)
  refine wpList_nil ?_
  (refine hKq1 _ _ ?_; try (clear hKq1 Kq1))
  (refine wp_seq_k ?_; intro Kq2 hKq2)
  (refine wp_seq_k ?_; intro Kq3 hKq3)
  refine wp_region_lit ?_
  (refine wpl_call0 S rfl rfl rfl rfl rfl rfl (worksCt F hT.1) rfl ?_; clear S a; intro v a w hv S; subst hv)
  (refine wpl_v S rfl rfl rfl (sv_lit (c := false) (sv_pure S rfl) (by rfl)) ?_; clear S a; intro a S)
  (refine wpl_v S rfl rfl rfl (sv_pure S rfl) ?_; clear S a; intro a S)
  first | (refine wpl_v S rfl rfl rfl (sv_pure S rfl) ?_; clear S a; intro a S) | (refine wpl_v S rfl rfl rfl (sv_pickB S rfl rfl rfl rfl) ?_; clear S a; intro a S)
  (refine wpl_v S rfl rfl rfl (sv_pure S rfl) ?_; clear S a; intro a S)
  first | (refine wpl_v S rfl rfl rfl (sv_pure S rfl) ?_; clear S a; intro a S) | (refine wpl_v S rfl rfl rfl (sv_pickB S rfl rfl rfl rfl) ?_; clear S a; intro a S)
  (refine wpl_v S rfl rfl rfl (sv_pure S rfl) ?_; clear S a; intro a S)
  first | (refine wpl_v S rfl rfl rfl (sv_pure S rfl) ?_; clear S a; intro a S) | (refine wpl_v S rfl rfl rfl (sv_pickB S rfl rfl rfl rfl) ?_; clear S a; intro a S)
  (refine wpl_v S rfl rfl rfl (sv_pure S rfl) ?_; clear S a; intro a S)
  first | (refine wpl_v S rfl rfl rfl (sv_pure S rfl) ?_; clear S a; intro a S) | (refine wpl_v S rfl rfl rfl (sv_pickB S rfl rfl rfl rfl) ?_; clear S a; intro a S)
  refine wpList_nil ?_
  (refine hKq3 _ _ ?_; try (clear hKq3 Kq3))
  refine wpc_false S rfl ?_
  refine wp_skip ?_
  (refine hKq2 _ _ ?_; try (clear hKq2 Kq2))
  (refine wp_seq_k ?_; intro Kq4 hKq4)
  (refine wp_seq_k ?_; intro Kq5 hKq5)
  refine wp_region_lit ?_
  (refine wpl_buildSlice S rfl rfl rfl rfl rfl rfl (by rfl) (by simp [Value.cells, splice, ansV, cmpV]) rfl (by rfl) (by rfl) ?_; clear S a; intro b40 a w hown S)
  (have hown2 : OwnS 9 1 (.slice (some ⟨b40, 0, none⟩) 12 12) 12 (bad.map fun x => Value.string (bs x)) [(b40, .cells ⟨bad.map fun x => Value.string (bs x)⟩ 9 (0, 0))] := hown)
  (refine wpl_v S rfl rfl rfl (sv_lenSl S rfl rfl) ?_; clear S a; intro a S)
  (refine wpl_v S rfl rfl rfl (sv_pure S rfl) ?_; clear S a; intro a S)
  refine wpList_nil ?_
  (refine hKq5 _ _ ?_; try (clear hKq5 Kq5))
  refine wp_block ?_
  refine wpc_loop (fun m a w' => ∃ (i : Nat), m = 12 - i ∧ i ≤ 12 ∧ St 203 [(40, .slice (some ⟨b40, 0, none⟩) 12 12), (41, .int .i64 12), (42, .int .i64 (i : Int))] w0 F [] F [[(b40, .cells ⟨bad.map fun x => Value.string (bs x)⟩ 9 (0, 0))]] a w') ?_ ?_
  · (refine ⟨12, 0, rfl, Nat.zero_le _, ?_⟩; refine S.keep ?_; repeat (first | exact trivial | refine ⟨rfl, ?_⟩))
  · (clear S; rintro m a w ⟨i, rfl, hi, S⟩)
    (refine wp_seq_k ?_; intro Kq6 hKq6)
    refine wp_region_lit ?_
    (refine wpl_v S rfl rfl rfl (sv_pure S rfl) ?_; clear S a; intro a S)
    refine wpList_nil ?_
    (refine hKq6 _ _ ?_; try (clear hKq6 Kq6))
    (refine wp_seq_k ?_; intro Kq7 hKq7)
    refine wpc_split S rfl (fun h => ?_) (fun h => ?_)
    · (skip; (try simp only [decide_eq_true_eq, decide_eq_false_iff_not, beq_iff_eq, bne_iff_ne, bne_eq_false_iff_eq, beq_eq_false_iff_ne, ne_eq, Bool.not_eq_true', Bool.not_eq_false', Bool.not_eq_true, Bool.not_eq_false, Bool.not_true, Bool.not_false, Int.ofNat_lt, Int.ofNat_le, Nat.not_lt, Nat.not_le] at h))
      refine wp_skip ?_
      (refine hKq7 _ _ ?_; try (clear hKq7 Kq7))
      (refine wp_seq_k ?_; intro Kq8 hKq8)
      refine wp_block ?_
      (refine wp_seq_k ?_; intro Kq9 hKq9)
      (obtain ⟨hb1, hb2⟩ := bad_ok i (by omega))
      refine wp_region_lit ?_
      (refine wpl_v S rfl rfl rfl (sv_indexAddrSl S rfl rfl rfl (by first | omega | (simp only [List.length_append, List.length_cons, List.length_nil]; omega))) ?_; clear S a; intro a S)
      first | (refine wpl_v S rfl rfl rfl (sv_loadO S rfl rfl (by rfl)) ?_; clear S a; intro a S) | (refine wpl_v S rfl rfl rfl (sv_loadF S rfl rfl (by assumption)) ?_; clear S a; intro a S) | (refine wpl_v S rfl rfl rfl (sv_loadOwn S rfl rfl hown2 (bad_at (by omega))) ?_; clear S a; intro a S)
      (refine wpl_v S rfl rfl rfl (sv_pure S rfl) ?_; clear S a; intro a S)
      refine wpList_nil ?_
      (refine hKq9 _ _ ?_; try (clear hKq9 Kq9))
      (refine wp_seq_k ?_; intro Kq10 hKq10)
      refine wp_region_lit ?_
      (refine wpl_v S rfl rfl rfl (sv_pure S rfl) ?_; clear S a; intro a S)
      ((first | (refine wpl_call0 S rfl rfl rfl rfl rfl rfl a14 rfl ?_) | (refine wpl_call0 S rfl rfl rfl rfl rfl rfl a15 rfl ?_) | (refine wpl_call0 S rfl rfl rfl rfl rfl rfl (checkCt (bad.getD i []) F (by omega)) rfl ?_)); clear S a; intro v a w hv S; subst hv)
      (refine wpl_v S rfl rfl rfl (sv_lit (c := false) (sv_pure S rfl) (by rw [hb1]; rfl)) ?_; clear S a; intro a S)
      refine wpList_nil ?_
      (refine hKq10 _ _ ?_; try (clear hKq10 Kq10))
      refine wpc_false S rfl ?_
      refine wp_skip ?_
      (refine hKq8 _ _ ?_; try (clear hKq8 Kq8))
      refine wp_region_lit ?_
      (refine wpl_v S rfl rfl rfl (sv_add S rfl rfl rfl (by first | omega | (simp only [List.length_append, List.length_cons, List.length_nil]; omega))) ?_; clear S a; intro a S)
      (refine wpl_v S rfl rfl rfl (sv_pure S rfl) ?_; clear S a; intro a S)
      refine wpList_nil ?_
      change ∃ m', _ ∧ _
      (refine ⟨12 - (i + 1), by omega, i + 1, rfl, by omega, ?_⟩; refine S.keep ⟨rfl, rfl, reg (by omega), trivial⟩)
    · (skip; (try simp only [decide_eq_true_eq, decide_eq_false_iff_not, beq_iff_eq, bne_iff_ne, bne_eq_false_iff_eq, beq_eq_false_iff_ne, ne_eq, Bool.not_eq_true', Bool.not_eq_false', Bool.not_eq_true, Bool.not_eq_false, Bool.not_true, Bool.not_false, Int.ofNat_lt, Int.ofNat_le, Nat.not_lt, Nat.not_le] at h))
      refine wp_exit ?_
      (refine hKq4 _ _ ?_; try (clear hKq4 Kq4))
      (refine wp_seq_k ?_; intro Kq8 hKq8)
      refine wp_region_lit ?_
      ((first | (refine wpl_call0 S rfl rfl rfl rfl rfl rfl m1 rfl ?_) | (refine wpl_call0 S rfl rfl rfl rfl rfl rfl m2 rfl ?_) | (refine wpl_call0 S rfl rfl rfl rfl rfl rfl m3 rfl ?_) | (refine wpl_call0 S rfl rfl rfl rfl rfl rfl m4 rfl ?_)); clear S a; intro v a w hv S; subst hv)
      (refine wpl_v S rfl rfl rfl (sv_pure S rfl) ?_; clear S a; intro a S)
      refine wpList_nil ?_
      (refine hKq8 _ _ ?_; try (clear hKq8 Kq8))
      (refine wp_seq_k ?_; intro Kq9 hKq9)
      refine wp_region_lit ?_
      (refine wpl_v S rfl rfl rfl (sv_pure S rfl) ?_; clear S a; intro a S)
      ((first | (refine wpl_call0 S rfl rfl rfl rfl rfl rfl a1 rfl ?_) | (refine wpl_call0 S rfl rfl rfl rfl rfl rfl a2 rfl ?_) | (refine wpl_call0 S rfl rfl rfl rfl rfl rfl a12 rfl ?_) | (refine wpl_call0 S rfl rfl rfl rfl rfl rfl a13 rfl ?_)); clear S a; intro v a w hv S; subst hv)
      (refine wpl_v S rfl rfl rfl (sv_pure S rfl) ?_; clear S a; intro a S)
      (refine wpl_v S rfl rfl rfl (sv_pure S rfl) ?_; clear S a; intro a S)
      (refine wpl_v S rfl rfl rfl (sv_pure S rfl) ?_; clear S a; intro a S)
      (refine wpl_v S rfl rfl rfl (sv_pure S rfl) ?_; clear S a; intro a S)
      (refine wpl_v S rfl rfl rfl (sv_pure S rfl) ?_; clear S a; intro a S)
      refine wpList_nil ?_
      (refine hKq9 _ _ ?_; try (clear hKq9 Kq9))
      (refine wp_seq_k ?_; intro Kq10 hKq10)
      refine wp_region_lit ?_
      (refine wpl_v S rfl rfl rfl (sv_pure S rfl) ?_; clear S a; intro a S)
      ((first | (refine wpl_call0 S rfl rfl rfl rfl rfl rfl a1 rfl ?_) | (refine wpl_call0 S rfl rfl rfl rfl rfl rfl a2 rfl ?_) | (refine wpl_call0 S rfl rfl rfl rfl rfl rfl a12 rfl ?_) | (refine wpl_call0 S rfl rfl rfl rfl rfl rfl a13 rfl ?_)); clear S a; intro v a w hv S; subst hv)
      (refine wpl_v S rfl rfl rfl (sv_pure S rfl) ?_; clear S a; intro a S)
      (refine wpl_v S rfl rfl rfl (sv_pure S rfl) ?_; clear S a; intro a S)
      (refine wpl_v S rfl rfl rfl (sv_pure S rfl) ?_; clear S a; intro a S)
      (refine wpl_v S rfl rfl rfl (sv_pure S rfl) ?_; clear S a; intro a S)
      (refine wpl_v S rfl rfl rfl (sv_pure S rfl) ?_; clear S a; intro a S)
      refine wpList_nil ?_
      (refine hKq10 _ _ ?_; try (clear hKq10 Kq10))
      (refine wp_seq_k ?_; intro Kq11 hKq11)
      refine wp_region_lit ?_
      ((first | (refine wpl_call0 S rfl rfl rfl rfl rfl rfl m1 rfl ?_) | (refine wpl_call0 S rfl rfl rfl rfl rfl rfl m2 rfl ?_) | (refine wpl_call0 S rfl rfl rfl rfl rfl rfl m3 rfl ?_) | (refine wpl_call0 S rfl rfl rfl rfl rfl rfl m4 rfl ?_)); clear S a; intro v a w hv S; subst hv)
      ((first | (refine wpl_call0 S rfl rfl rfl rfl rfl rfl m1 rfl ?_) | (refine wpl_call0 S rfl rfl rfl rfl rfl rfl m2 rfl ?_) | (refine wpl_call0 S rfl rfl rfl rfl rfl rfl m3 rfl ?_) | (refine wpl_call0 S rfl rfl rfl rfl rfl rfl m4 rfl ?_)); clear S a; intro v a w hv S; subst hv)
      ((first | (refine wpl_call0 S rfl rfl rfl rfl rfl rfl a3 rfl ?_) | (refine wpl_call0 S rfl rfl rfl rfl rfl rfl a4 rfl ?_)); clear S a; intro v a w hv S; subst hv)
      (refine wpl_v S rfl rfl rfl (sv_pure S rfl) ?_; clear S a; intro a S)
      (refine wpl_v S rfl rfl rfl (sv_pure S rfl) ?_; clear S a; intro a S)
      (refine wpl_v S rfl rfl rfl (sv_pure S rfl) ?_; clear S a; intro a S)
      (refine wpl_v S rfl rfl rfl (sv_pure S rfl) ?_; clear S a; intro a S)
      (refine wpl_v S rfl rfl rfl (sv_pure S rfl) ?_; clear S a; intro a S)
      refine wpList_nil ?_
      (refine hKq11 _ _ ?_; try (clear hKq11 Kq11))
      (refine wp_seq_k ?_; intro Kq12 hKq12)
      refine wp_region_lit ?_
      ((first | (refine wpl_call0 S rfl rfl rfl rfl rfl rfl m1 rfl ?_) | (refine wpl_call0 S rfl rfl rfl rfl rfl rfl m2 rfl ?_) | (refine wpl_call0 S rfl rfl rfl rfl rfl rfl m3 rfl ?_) | (refine wpl_call0 S rfl rfl rfl rfl rfl rfl m4 rfl ?_)); clear S a; intro v a w hv S; subst hv)
      ((first | (refine wpl_call0 S rfl rfl rfl rfl rfl rfl m1 rfl ?_) | (refine wpl_call0 S rfl rfl rfl rfl rfl rfl m2 rfl ?_) | (refine wpl_call0 S rfl rfl rfl rfl rfl rfl m3 rfl ?_) | (refine wpl_call0 S rfl rfl rfl rfl rfl rfl m4 rfl ?_)); clear S a; intro v a w hv S; subst hv)
      ((first | (refine wpl_call0 S rfl rfl rfl rfl rfl rfl a3 rfl ?_) | (refine wpl_call0 S rfl rfl rfl rfl rfl rfl a4 rfl ?_)); clear S a; intro v a w hv S; subst hv)
      (refine wpl_v S rfl rfl rfl (sv_pure S rfl) ?_; clear S a; intro a S)
      (refine wpl_v S rfl rfl rfl (sv_pure S rfl) ?_; clear S a; intro a S)
      (refine wpl_v S rfl rfl rfl (sv_pure S rfl) ?_; clear S a; intro a S)
      (refine wpl_v S rfl rfl rfl (sv_pure S rfl) ?_; clear S a; intro a S)
      (refine wpl_v S rfl rfl rfl (sv_pure S rfl) ?_; clear S a; intro a S)
      refine wpList_nil ?_
      (refine hKq12 _ _ ?_; try (clear hKq12 Kq12))
      (refine wp_seq_k ?_; intro Kq13 hKq13)
      refine wp_region_lit ?_
      ((first | (refine wpl_call0 S rfl rfl rfl rfl rfl rfl a5 rfl ?_) | (refine wpl_call0 S rfl rfl rfl rfl rfl rfl a11 rfl ?_)); clear S a; intro v a w hv S; subst hv)
      (refine wpl_v S rfl rfl rfl (sv_pure S rfl) ?_; clear S a; intro a S)
      (refine wpl_v S rfl rfl rfl (sv_pure S rfl) ?_; clear S a; intro a S)
      (refine wpl_v S rfl rfl rfl (sv_pure S rfl) ?_; clear S a; intro a S)
      (refine wpl_v S rfl rfl rfl (sv_pure S rfl) ?_; clear S a; intro a S)
      (refine wpl_v S rfl rfl rfl (sv_pure S rfl) ?_; clear S a; intro a S)
      refine wpList_nil ?_
      (refine hKq13 _ _ ?_; try (clear hKq13 Kq13))
      (refine wp_seq_k ?_; intro Kq14 hKq14)
      refine wp_region_lit ?_
      (refine wpl_call0 S rfl rfl rfl rfl rfl rfl (a6) rfl ?_; clear S a; intro v a w hv S; subst hv)
      (refine wpl_v S rfl rfl rfl (sv_pure S rfl) ?_; clear S a; intro a S)
      (refine wpl_v S rfl rfl rfl (sv_pure S rfl) ?_; clear S a; intro a S)
      (refine wpl_v S rfl rfl rfl (sv_pure S rfl) ?_; clear S a; intro a S)
      (refine wpl_v S rfl rfl rfl (sv_pure S rfl) ?_; clear S a; intro a S)
      (refine wpl_v S rfl rfl rfl (sv_pure S rfl) ?_; clear S a; intro a S)
      refine wpList_nil ?_
      (refine hKq14 _ _ ?_; try (clear hKq14 Kq14))
      (refine wp_seq_k ?_; intro Kq15 hKq15)
      refine wp_region_lit ?_
      ((first | (refine wpl_call0 S rfl rfl rfl rfl rfl rfl a7 rfl ?_) | (refine wpl_call0 S rfl rfl rfl rfl rfl rfl a8 rfl ?_) | (refine wpl_call0 S rfl rfl rfl rfl rfl rfl a9 rfl ?_)); clear S a; intro v a w hv S; subst hv)
      (refine wpl_v S rfl rfl rfl (sv_pure S rfl) ?_; clear S a; intro a S)
      (refine wpl_v S rfl rfl rfl (sv_pure S rfl) ?_; clear S a; intro a S)
      (refine wpl_v S rfl rfl rfl (sv_pure S rfl) ?_; clear S a; intro a S)
      (refine wpl_v S rfl rfl rfl (sv_pure S rfl) ?_; clear S a; intro a S)
      (refine wpl_v S rfl rfl rfl (sv_pure S rfl) ?_; clear S a; intro a S)
      refine wpList_nil ?_
      (refine hKq15 _ _ ?_; try (clear hKq15 Kq15))
      (refine wp_seq_k ?_; intro Kq16 hKq16)
      refine wp_region_lit ?_
      ((first | (refine wpl_call0 S rfl rfl rfl rfl rfl rfl a7 rfl ?_) | (refine wpl_call0 S rfl rfl rfl rfl rfl rfl a8 rfl ?_) | (refine wpl_call0 S rfl rfl rfl rfl rfl rfl a9 rfl ?_)); clear S a; intro v a w hv S; subst hv)
      (refine wpl_v S rfl rfl rfl (sv_pure S rfl) ?_; clear S a; intro a S)
      (refine wpl_v S rfl rfl rfl (sv_pure S rfl) ?_; clear S a; intro a S)
      (refine wpl_v S rfl rfl rfl (sv_pure S rfl) ?_; clear S a; intro a S)
      (refine wpl_v S rfl rfl rfl (sv_pure S rfl) ?_; clear S a; intro a S)
      (refine wpl_v S rfl rfl rfl (sv_pure S rfl) ?_; clear S a; intro a S)
      refine wpList_nil ?_
      (refine hKq16 _ _ ?_; try (clear hKq16 Kq16))
      (refine wp_seq_k ?_; intro Kq17 hKq17)
      refine wp_region_lit ?_
      ((first | (refine wpl_call0 S rfl rfl rfl rfl rfl rfl a7 rfl ?_) | (refine wpl_call0 S rfl rfl rfl rfl rfl rfl a8 rfl ?_) | (refine wpl_call0 S rfl rfl rfl rfl rfl rfl a9 rfl ?_)); clear S a; intro v a w hv S; subst hv)
      (refine wpl_v S rfl rfl rfl (sv_pure S rfl) ?_; clear S a; intro a S)
      (refine wpl_v S rfl rfl rfl (sv_pure S rfl) ?_; clear S a; intro a S)
      (refine wpl_v S rfl rfl rfl (sv_pure S rfl) ?_; clear S a; intro a S)
      (refine wpl_v S rfl rfl rfl (sv_pure S rfl) ?_; clear S a; intro a S)
      (refine wpl_v S rfl rfl rfl (sv_pure S rfl) ?_; clear S a; intro a S)
      refine wpList_nil ?_
      (refine hKq17 _ _ ?_; try (clear hKq17 Kq17))
      (refine wp_seq_k ?_; intro Kq18 hKq18)
      refine wp_region_lit ?_
      (refine wpl_v S rfl rfl rfl (sv_pure S rfl) ?_; clear S a; intro a S)
      (refine wpl_v S rfl rfl rfl (sv_cat S rfl rfl rfl (by first | omega | (simp only [List.length_append, List.length_cons, List.length_nil]; omega))) ?_; clear S a; intro a S)
      (refine wpl_call0 S rfl rfl rfl rfl rfl rfl (a10) rfl ?_; clear S a; intro v a w hv S; subst hv)
      (refine wpl_v S rfl rfl rfl (sv_pure S rfl) ?_; clear S a; intro a S)
      (refine wpl_v S rfl rfl rfl (sv_pure S rfl) ?_; clear S a; intro a S)
      (refine wpl_v S rfl rfl rfl (sv_pure S rfl) ?_; clear S a; intro a S)
      (refine wpl_v S rfl rfl rfl (sv_pure S rfl) ?_; clear S a; intro a S)
      (refine wpl_v S rfl rfl rfl (sv_pure S rfl) ?_; clear S a; intro a S)
      refine wpList_nil ?_
      (refine hKq18 _ _ ?_; try (clear hKq18 Kq18))
      (refine wp_seq_k ?_; intro Kq19 hKq19)
      refine wp_region_lit ?_
      (refine wpl_v S rfl rfl rfl (sv_pure S rfl) ?_; clear S a; intro a S)
      (refine wpl_v S rfl rfl rfl (sv_cat S rfl rfl rfl (by first | omega | (simp only [List.length_append, List.length_cons, List.length_nil]; omega))) ?_; clear S a; intro a S)
      ((first | (refine wpl_call0 S rfl rfl rfl rfl rfl rfl a5 rfl ?_) | (refine wpl_call0 S rfl rfl rfl rfl rfl rfl a11 rfl ?_)); clear S a; intro v a w hv S; subst hv)
      (refine wpl_v S rfl rfl rfl (sv_pure S rfl) ?_; clear S a; intro a S)
      (refine wpl_v S rfl rfl rfl (sv_pure S rfl) ?_; clear S a; intro a S)
      (refine wpl_v S rfl rfl rfl (sv_pure S rfl) ?_; clear S a; intro a S)
      (refine wpl_v S rfl rfl rfl (sv_pure S rfl) ?_; clear S a; intro a S)
      (refine wpl_v S rfl rfl rfl (sv_pure S rfl) ?_; clear S a; intro a S)
      refine wpList_nil ?_
      (refine hKq19 _ _ ?_; try (clear hKq19 Kq19))
      (refine wp_seq_k ?_; intro Kq20 hKq20)
      refine wp_region_lit ?_
      ((first | (refine wpl_call0 S rfl rfl rfl rfl rfl rfl m1 rfl ?_) | (refine wpl_call0 S rfl rfl rfl rfl rfl rfl m2 rfl ?_) | (refine wpl_call0 S rfl rfl rfl rfl rfl rfl m3 rfl ?_) | (refine wpl_call0 S rfl rfl rfl rfl rfl rfl m4 rfl ?_)); clear S a; intro v a w hv S; subst hv)
      ((first | (refine wpl_call0 S rfl rfl rfl rfl rfl rfl a1 rfl ?_) | (refine wpl_call0 S rfl rfl rfl rfl rfl rfl a2 rfl ?_) | (refine wpl_call0 S rfl rfl rfl rfl rfl rfl a12 rfl ?_) | (refine wpl_call0 S rfl rfl rfl rfl rfl rfl a13 rfl ?_)); clear S a; intro v a w hv S; subst hv)
      (refine wpl_v S rfl rfl rfl (sv_pure S rfl) ?_; clear S a; intro a S)
      (refine wpl_v S rfl rfl rfl (sv_pure S rfl) ?_; clear S a; intro a S)
      (refine wpl_v S rfl rfl rfl (sv_pure S rfl) ?_; clear S a; intro a S)
      (refine wpl_v S rfl rfl rfl (sv_pure S rfl) ?_; clear S a; intro a S)
      (refine wpl_v S rfl rfl rfl (sv_pure S rfl) ?_; clear S a; intro a S)
      refine wpList_nil ?_
      (refine hKq20 _ _ ?_; try (clear hKq20 Kq20))
      (refine wp_seq_k ?_; intro Kq21 hKq21)
      refine wp_region_lit ?_
      ((first | (refine wpl_call0 S rfl rfl rfl rfl rfl rfl m1 rfl ?_) | (refine wpl_call0 S rfl rfl rfl rfl rfl rfl m2 rfl ?_) | (refine wpl_call0 S rfl rfl rfl rfl rfl rfl m3 rfl ?_) | (refine wpl_call0 S rfl rfl rfl rfl rfl rfl m4 rfl ?_)); clear S a; intro v a w hv S; subst hv)
      ((first | (refine wpl_call0 S rfl rfl rfl rfl rfl rfl a1 rfl ?_) | (refine wpl_call0 S rfl rfl rfl rfl rfl rfl a2 rfl ?_) | (refine wpl_call0 S rfl rfl rfl rfl rfl rfl a12 rfl ?_) | (refine wpl_call0 S rfl rfl rfl rfl rfl rfl a13 rfl ?_)); clear S a; intro v a w hv S; subst hv)
      (refine wpl_v S rfl rfl rfl (sv_pure S rfl) ?_; clear S a; intro a S)
      (refine wpl_v S rfl rfl rfl (sv_pure S rfl) ?_; clear S a; intro a S)
      (refine wpl_v S rfl rfl rfl (sv_pure S rfl) ?_; clear S a; intro a S)
      (refine wpl_v S rfl rfl rfl (sv_pure S rfl) ?_; clear S a; intro a S)
      (refine wpl_v S rfl rfl rfl (sv_pure S rfl) ?_; clear S a; intro a S)
      refine wpList_nil ?_
      (refine hKq21 _ _ ?_; try (clear hKq21 Kq21))
      (refine wp_seq_k ?_; intro Kq22 hKq22)
      refine wp_region_lit ?_
      (refine wpl_v S rfl rfl rfl (sv_pure S rfl) ?_; clear S a; intro a S)
      (refine wpl_v S rfl rfl rfl (sv_lit (c := true) (sv_pure S rfl) (by rfl)) ?_; clear S a; intro a S)
      (refine wpl_v S rfl rfl rfl (sv_pure S rfl) ?_; clear S a; intro a S)
      refine wpl_take S rfl rfl rfl ?_
      (refine wpl_v S rfl rfl rfl (sv_pure S rfl) ?_; clear S a; intro a S)
      refine wpl_take S rfl rfl rfl ?_
      (refine wpl_v S rfl rfl rfl (sv_lit (c := true) (sv_pure S rfl) (by rfl)) ?_; clear S a; intro a S)
      first | (refine wpl_v S rfl rfl rfl (sv_pure S rfl) ?_; clear S a; intro a S) | (refine wpl_v S rfl rfl rfl (sv_pickB S rfl rfl rfl rfl) ?_; clear S a; intro a S)
      (refine wpl_v S rfl rfl rfl (sv_pure S rfl) ?_; clear S a; intro a S)
      refine wpl_take S rfl rfl rfl ?_
      (refine wpl_v S rfl rfl rfl (sv_pure S rfl) ?_; clear S a; intro a S)
      refine wpl_take S rfl rfl rfl ?_
      (refine wpl_v S rfl rfl rfl (sv_pure S rfl) ?_; clear S a; intro a S)
      refine wpl_take S rfl rfl rfl ?_
      (refine wpl_v S rfl rfl rfl (sv_lit (c := true) (sv_pure S rfl) (by simp)) ?_; clear S a; intro a S)
      first | (refine wpl_v S rfl rfl rfl (sv_pure S rfl) ?_; clear S a; intro a S) | (refine wpl_v S rfl rfl rfl (sv_pickB S rfl rfl rfl rfl) ?_; clear S a; intro a S)
      (refine wpl_v S rfl rfl rfl (sv_pure S rfl) ?_; clear S a; intro a S)
      refine wpl_take S rfl rfl rfl ?_
      (refine wpl_v S rfl rfl rfl (sv_pure S rfl) ?_; clear S a; intro a S)
      refine wpl_take S rfl rfl rfl ?_
      (refine wpl_v S rfl rfl rfl (sv_lit (c := true) (sv_pure S rfl) (by rfl)) ?_; clear S a; intro a S)
      first | (refine wpl_v S rfl rfl rfl (sv_pure S rfl) ?_; clear S a; intro a S) | (refine wpl_v S rfl rfl rfl (sv_pickB S rfl rfl rfl rfl) ?_; clear S a; intro a S)
      (refine wpl_v S rfl rfl rfl (sv_pure S rfl) ?_; clear S a; intro a S)
      refine wpl_take S rfl rfl rfl ?_
      (refine wpl_v S rfl rfl rfl (sv_pure S rfl) ?_; clear S a; intro a S)
      refine wpl_take S rfl rfl rfl ?_
      (refine wpl_v S rfl rfl rfl (sv_lit (c := true) (sv_pure S rfl) (by simpa using e1)) ?_; clear S a; intro a S)
      first | (refine wpl_v S rfl rfl rfl (sv_pure S rfl) ?_; clear S a; intro a S) | (refine wpl_v S rfl rfl rfl (sv_pickB S rfl rfl rfl rfl) ?_; clear S a; intro a S)
      (refine wpl_v S rfl rfl rfl (sv_pure S rfl) ?_; clear S a; intro a S)
      refine wpl_take S rfl rfl rfl ?_
      (refine wpl_v S rfl rfl rfl (sv_pure S rfl) ?_; clear S a; intro a S)
      refine wpl_take S rfl rfl rfl ?_
      (refine wpl_v S rfl rfl rfl (sv_lenS S rfl rfl) ?_; clear S a; intro a S)
      refine wpl_take S rfl rfl rfl ?_
      (refine wpl_v S rfl rfl rfl (sv_lit (c := true) (sv_pure S rfl) (by rw [e2]; rfl)) ?_; clear S a; intro a S)
      first | (refine wpl_v S rfl rfl rfl (sv_pure S rfl) ?_; clear S a; intro a S) | (refine wpl_v S rfl rfl rfl (sv_pickB S rfl rfl rfl rfl) ?_; clear S a; intro a S)
      (refine wpl_v S rfl rfl rfl (sv_pure S rfl) ?_; clear S a; intro a S)
      refine wpl_take S rfl rfl rfl ?_
      (refine wpl_v S rfl rfl rfl (sv_pure S rfl) ?_; clear S a; intro a S)
      refine wpl_take S rfl rfl rfl ?_
      (refine wpl_v S rfl rfl rfl (sv_lit (c := true) (sv_pure S rfl) (by rfl)) ?_; clear S a; intro a S)
      first | (refine wpl_v S rfl rfl rfl (sv_pure S rfl) ?_; clear S a; intro a S) | (refine wpl_v S rfl rfl rfl (sv_pickB S rfl rfl rfl rfl) ?_; clear S a; intro a S)
      (refine wpl_v S rfl rfl rfl (sv_pure S rfl) ?_; clear S a; intro a S)
      refine wpl_take S rfl rfl rfl ?_
      (refine wpl_v S rfl rfl rfl (sv_pure S rfl) ?_; clear S a; intro a S)
      refine wpl_take S rfl rfl rfl ?_
      (refine wpl_v S rfl rfl rfl (sv_lit (c := true) (sv_pure S rfl) (by rfl)) ?_; clear S a; intro a S)
      first | (refine wpl_v S rfl rfl rfl (sv_pure S rfl) ?_; clear S a; intro a S) | (refine wpl_v S rfl rfl rfl (sv_pickB S rfl rfl rfl rfl) ?_; clear S a; intro a S)
      (refine wpl_v S rfl rfl rfl (sv_pure S rfl) ?_; clear S a; intro a S)
      refine wpl_take S rfl rfl rfl ?_
      (refine wpl_v S rfl rfl rfl (sv_pure S rfl) ?_; clear S a; intro a S)
      refine wpl_take S rfl rfl rfl ?_
      (refine wpl_v S rfl rfl rfl (sv_lit (c := true) (sv_pure S rfl) (by rfl)) ?_; clear S a; intro a S)
      first | (refine wpl_v S rfl rfl rfl (sv_pure S rfl) ?_; clear S a; intro a S) | (refine wpl_v S rfl rfl rfl (sv_pickB S rfl rfl rfl rfl) ?_; clear S a; intro a S)
      (refine wpl_v S rfl rfl rfl (sv_pure S rfl) ?_; clear S a; intro a S)
      refine wpl_take S rfl rfl rfl ?_
      (refine wpl_v S rfl rfl rfl (sv_pure S rfl) ?_; clear S a; intro a S)
      refine wpl_take S rfl rfl rfl ?_
      (refine wpl_v S rfl rfl rfl (sv_lit (c := true) (sv_pure S rfl) (by rfl)) ?_; clear S a; intro a S)
      first | (refine wpl_v S rfl rfl rfl (sv_pure S rfl) ?_; clear S a; intro a S) | (refine wpl_v S rfl rfl rfl (sv_pickB S rfl rfl rfl rfl) ?_; clear S a; intro a S)
      (refine wpl_v S rfl rfl rfl (sv_pure S rfl) ?_; clear S a; intro a S)
      refine wpl_take S rfl rfl rfl ?_
      (refine wpl_v S rfl rfl rfl (sv_pure S rfl) ?_; clear S a; intro a S)
      refine wpl_take S rfl rfl rfl ?_
      (refine wpl_v S rfl rfl rfl (sv_lit (c := true) (sv_pure S rfl) (by rfl)) ?_; clear S a; intro a S)
      first | (refine wpl_v S rfl rfl rfl (sv_pure S rfl) ?_; clear S a; intro a S) | (refine wpl_v S rfl rfl rfl (sv_pickB S rfl rfl rfl rfl) ?_; clear S a; intro a S)
      (refine wpl_v S rfl rfl rfl (sv_pure S rfl) ?_; clear S a; intro a S)
      refine wpl_take S rfl rfl rfl ?_
      (refine wpl_v S rfl rfl rfl (sv_pure S rfl) ?_; clear S a; intro a S)
      refine wpl_take S rfl rfl rfl ?_
      (refine wpl_v S rfl rfl rfl (sv_lit (c := true) (sv_pure S rfl) (by rfl)) ?_; clear S a; intro a S)
      first | (refine wpl_v S rfl rfl rfl (sv_pure S rfl) ?_; clear S a; intro a S) | (refine wpl_v S rfl rfl rfl (sv_pickB S rfl rfl rfl rfl) ?_; clear S a; intro a S)
      (refine wpl_v S rfl rfl rfl (sv_pure S rfl) ?_; clear S a; intro a S)
      refine wpl_take S rfl rfl rfl ?_
      (refine wpl_v S rfl rfl rfl (sv_pure S rfl) ?_; clear S a; intro a S)
      refine wpl_take S rfl rfl rfl ?_
      (refine wpl_v S rfl rfl rfl (sv_lit (c := true) (sv_pure S rfl) (by rfl)) ?_; clear S a; intro a S)
      first | (refine wpl_v S rfl rfl rfl (sv_pure S rfl) ?_; clear S a; intro a S) | (refine wpl_v S rfl rfl rfl (sv_pickB S rfl rfl rfl rfl) ?_; clear S a; intro a S)
      (refine wpl_v S rfl rfl rfl (sv_pure S rfl) ?_; clear S a; intro a S)
      refine wpl_take S rfl rfl rfl ?_
      (refine wpl_v S rfl rfl rfl (sv_pure S rfl) ?_; clear S a; intro a S)
      refine wpl_take S rfl rfl rfl ?_
      (refine wpl_v S rfl rfl rfl (sv_lit (c := true) (sv_pure S rfl) (by rfl)) ?_; clear S a; intro a S)
      first | (refine wpl_v S rfl rfl rfl (sv_pure S rfl) ?_; clear S a; intro a S) | (refine wpl_v S rfl rfl rfl (sv_pickB S rfl rfl rfl rfl) ?_; clear S a; intro a S)
      (refine wpl_v S rfl rfl rfl (sv_pure S rfl) ?_; clear S a; intro a S)
      refine wpl_take S rfl rfl rfl ?_
      (refine wpl_v S rfl rfl rfl (sv_pure S rfl) ?_; clear S a; intro a S)
      refine wpl_take S rfl rfl rfl ?_
      (refine wpl_v S rfl rfl rfl (sv_pure S rfl) ?_; clear S a; intro a S)
      refine wpl_take S rfl rfl rfl ?_
      (refine wpl_v S rfl rfl rfl (sv_lit (c := true) (sv_pure S rfl) (by simp)) ?_; clear S a; intro a S)
      first | (refine wpl_v S rfl rfl rfl (sv_pure S rfl) ?_; clear S a; intro a S) | (refine wpl_v S rfl rfl rfl (sv_pickB S rfl rfl rfl rfl) ?_; clear S a; intro a S)
      (refine wpl_v S rfl rfl rfl (sv_pure S rfl) ?_; clear S a; intro a S)
      refine wpl_take S rfl rfl rfl ?_
      (refine wpl_v S rfl rfl rfl (sv_pure S rfl) ?_; clear S a; intro a S)
      refine wpl_take S rfl rfl rfl ?_
      (refine wpl_v S rfl rfl rfl (sv_lit (c := true) (sv_pure S rfl) (by rfl)) ?_; clear S a; intro a S)
      first | (refine wpl_v S rfl rfl rfl (sv_pure S rfl) ?_; clear S a; intro a S) | (refine wpl_v S rfl rfl rfl (sv_pickB S rfl rfl rfl rfl) ?_; clear S a; intro a S)
      (refine wpl_v S rfl rfl rfl (sv_pure S rfl) ?_; clear S a; intro a S)
      refine wpl_take S rfl rfl rfl ?_
      (refine wpl_v S rfl rfl rfl (sv_pure S rfl) ?_; clear S a; intro a S)
      refine wpl_take S rfl rfl rfl ?_
      (refine wpl_v S rfl rfl rfl (sv_lit (c := true) (sv_pure S rfl) (by rfl)) ?_; clear S a; intro a S)
      first | (refine wpl_v S rfl rfl rfl (sv_pure S rfl) ?_; clear S a; intro a S) | (refine wpl_v S rfl rfl rfl (sv_pickB S rfl rfl rfl rfl) ?_; clear S a; intro a S)
      (refine wpl_v S rfl rfl rfl (sv_pure S rfl) ?_; clear S a; intro a S)
      refine wpl_take S rfl rfl rfl ?_
      ((first | (refine wpl_call0 S rfl rfl rfl rfl rfl rfl m1 rfl ?_) | (refine wpl_call0 S rfl rfl rfl rfl rfl rfl m2 rfl ?_) | (refine wpl_call0 S rfl rfl rfl rfl rfl rfl m3 rfl ?_) | (refine wpl_call0 S rfl rfl rfl rfl rfl rfl m4 rfl ?_)); clear S a; intro v a w hv S; subst hv)
      refine wpl_take S rfl rfl rfl ?_
      ((first | (refine wpl_call0 S rfl rfl rfl rfl rfl rfl a14 rfl ?_) | (refine wpl_call0 S rfl rfl rfl rfl rfl rfl a15 rfl ?_) | (refine wpl_call0 S rfl rfl rfl rfl rfl rfl (checkCt (bad.getD i []) F (by omega)) rfl ?_)); clear S a; intro v a w hv S; subst hv)
      refine wpl_take S rfl rfl rfl ?_
      (refine wpl_v S rfl rfl rfl (sv_lit (c := true) (sv_pure S rfl) (by rfl)) ?_; clear S a; intro a S)
      first | (refine wpl_v S rfl rfl rfl (sv_pure S rfl) ?_; clear S a; intro a S) | (refine wpl_v S rfl rfl rfl (sv_pickB S rfl rfl rfl rfl) ?_; clear S a; intro a S)
      (refine wpl_v S rfl rfl rfl (sv_pure S rfl) ?_; clear S a; intro a S)
      refine wpl_take S rfl rfl rfl ?_
      (refine wpl_v S rfl rfl rfl (sv_pure S rfl) ?_; clear S a; intro a S)
      refine wpl_take S rfl rfl rfl ?_
      (refine wpl_v S rfl rfl rfl (sv_cat S rfl rfl rfl (by first | omega | (simp only [List.length_append, List.length_cons, List.length_nil]; omega))) ?_; clear S a; intro a S)
      refine wpl_take S rfl rfl rfl ?_
      ((first | (refine wpl_call0 S rfl rfl rfl rfl rfl rfl a14 rfl ?_) | (refine wpl_call0 S rfl rfl rfl rfl rfl rfl a15 rfl ?_) | (refine wpl_call0 S rfl rfl rfl rfl rfl rfl (checkCt (bad.getD i []) F (by omega)) rfl ?_)); clear S a; intro v a w hv S; subst hv)
      refine wpl_take S rfl rfl rfl ?_
      (refine wpl_v S rfl rfl rfl (sv_lit (c := true) (sv_pure S rfl) (by rfl)) ?_; clear S a; intro a S)
      first | (refine wpl_v S rfl rfl rfl (sv_pure S rfl) ?_; clear S a; intro a S) | (refine wpl_v S rfl rfl rfl (sv_pickB S rfl rfl rfl rfl) ?_; clear S a; intro a S)
      (refine wpl_v S rfl rfl rfl (sv_pure S rfl) ?_; clear S a; intro a S)
      refine wpl_take S rfl rfl rfl ?_
      ((first | (refine wpl_call0 S rfl rfl rfl rfl rfl rfl a16 rfl ?_) | (refine wpl_call0 S rfl rfl rfl rfl rfl rfl a17 rfl ?_)); clear S a; intro v a w hv S; subst hv)
      refine wpl_take S rfl rfl rfl ?_
      (refine wpl_v S rfl rfl rfl (sv_lit (c := true) (sv_pure S rfl) (by rfl)) ?_; clear S a; intro a S)
      first | (refine wpl_v S rfl rfl rfl (sv_pure S rfl) ?_; clear S a; intro a S) | (refine wpl_v S rfl rfl rfl (sv_pickB S rfl rfl rfl rfl) ?_; clear S a; intro a S)
      (refine wpl_v S rfl rfl rfl (sv_pure S rfl) ?_; clear S a; intro a S)
      refine wpl_take S rfl rfl rfl ?_
      ((first | (refine wpl_call0 S rfl rfl rfl rfl rfl rfl a16 rfl ?_) | (refine wpl_call0 S rfl rfl rfl rfl rfl rfl a17 rfl ?_)); clear S a; intro v a w hv S; subst hv)
      refine wpl_take S rfl rfl rfl ?_
      (refine wpl_v S rfl rfl rfl (sv_lit (c := true) (sv_pure S rfl) (by rfl)) ?_; clear S a; intro a S)
      first | (refine wpl_v S rfl rfl rfl (sv_pure S rfl) ?_; clear S a; intro a S) | (refine wpl_v S rfl rfl rfl (sv_pickB S rfl rfl rfl rfl) ?_; clear S a; intro a S)
      (refine wpl_v S rfl rfl rfl (sv_pure S rfl) ?_; clear S a; intro a S)
      refine wpList_nil ?_
      (refine hKq22 _ _ ?_; try (clear hKq22 Kq22))
      refine wp_ret ?_
      refine fin_ret S (results1 Tryd.results11 (RV.tmp S rfl)) ?_
      rfl
end Go.Proofs.YtmmpbpfdnpgklaaDoor
