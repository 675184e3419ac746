/- The walk of the document's quoted. -/
import Derived.Test.YtpgnmnacfilnkaaDoorLxQ
import Derived.Test.YtpgnmnacfilnkaaDoorLxG
namespace Go.Proofs.YtpgnmnacfilnkaaDoor
open Go Go.Wk Go.Lx
set_option linter.unusedSimpArgs false
set_option linter.unusedVariables false
attribute [local irreducible] Go.wpList Go.Code.wp Go.wpStill Go.Wk.wpPre Go.bodyPost Go.Calls Go.Wk.Ct Go.Wk.OwnS
attribute [local irreducible] Go.Wk.wpG Go.Wk.wpM

structure QI (s : List UInt8) (i k : Nat) (l : List UInt8) : Prop where
  h1 : i + 1 ≤ k
  h2 : k ≤ s.length
  h3 : l.length ≤ k
  hq : qmarks (s.drop (i + 1)) = (l ++ (qmarks (s.drop k)).1, (k - (i + 1)) + (qmarks (s.drop k)).2)
theorem QI.next {s : List UInt8} {i k : Nat} {l : List UInt8} (h : QI s i k l) {c : UInt8} {n : Nat} (hm : markQ (s.drop k) = some (c, n)) : QI s i (k + n) (l ++ [c]) := by
  have hp := mark_pos hm
  rw [List.length_drop] at hp
  have := h.h1
  have := h.h2
  have := h.h3
  refine ⟨by omega, by omega, by simp; omega, ?_⟩
  rw [h.hq, qmarks_some hm, List.drop_drop]
  simp
  omega
theorem QI.stop {s : List UInt8} {i k : Nat} {l : List UInt8} (h : QI s i k l) (hm : markQ (s.drop k) = none) : qmarks (s.drop (i + 1)) = (l, k - (i + 1)) := by
  rw [h.hq, qmarks_none hm]; simp

set_option maxHeartbeats 8000000 in
theorem rquotedCt (s : List UInt8) (i : Nat) (F : Heap) (hi : i < s.length) (hs : s.length ≤ 1000000) : Ct Tryd.prog 38 [.string (bs s), .int .i64 i] F [] (fun _ _ u => RT i (quotedF (s.drop i)) u) := by
  have hd1 : (s.drop i).drop 1 = s.drop (i + 1) := by rw [List.drop_drop]
  refine Ct.enter Tryd.func38 rfl Tryd.ntmps38 rfl fun w0 a S => ?_
  (refine wp_seq_k ?_; intro Kq1 hKq1)
  refine wp_region_lit ?_
  (refine wpl_alloc S rfl rfl rfl rfl ?_; clear S a; intro b4 a w S)
  (refine wpl_v S rfl rfl rfl (sv_pure S rfl) ?_; clear S a; intro a S)
  refine wpList_nil ?_
  (refine hKq1 _ _ ?_; try (clear hKq1 Kq1))
  (refine wp_seq_k ?_; intro Kq2 hKq2)
  refine wp_region_lit ?_
  (refine wpl_v S rfl rfl rfl (sv_pure S rfl) ?_; clear S a; intro a S)
  refine wpList_nil ?_
  (refine hKq2 _ _ ?_; try (clear hKq2 Kq2))
  (refine wp_seq_k ?_; intro Kq3 hKq3)
  refine wp_region_lit ?_
  (refine wpl_v S rfl rfl rfl (sv_pure S rfl) ?_; clear S a; intro a S)
  (refine wpl_v S rfl rfl rfl (sv_add S rfl rfl rfl (by first | omega | (simp only [List.length_append, List.length_cons, List.length_nil]; omega))) ?_; clear S a; intro a S)
  (refine wpl_v S rfl rfl rfl (sv_pure S rfl) ?_; clear S a; intro a S)
  refine wpList_nil ?_
  (refine hKq3 _ _ ?_; try (clear hKq3 Kq3))
  (refine wp_seq_k ?_; intro Kq4 hKq4)
  refine wp_block ?_
  refine wpc_loop (fun m a w' => ∃ (k : Nat) (l : List UInt8) (v : Value) (g : Grp), m = s.length - k ∧ QI s i k l ∧ OwnS 5 1 v l.length (u8c l) g ∧ St 127 [(0, .string (bs s)), (1, .int .i64 i), (4, .pointer (some ⟨b4, 0, none⟩)), (6, v), (7, .int .i64 k)] w0 F [] F [g, [(b4, .cells ⟨[.int .u8 0, .int .i64 0, .string (bs [])]⟩ 56 (0, 0))]] a w') ?_ ?_
  · (refine ⟨s.length - (i + 1), i + 1, [], .slice none 0 0, [], rfl, ⟨by omega, by omega, by simp, by simp⟩, OwnS.nil _ _, ?_⟩; replace S := S.nilg; refine S.keep ?_; repeat (first | exact trivial | refine ⟨rfl, ?_⟩))
  · (clear S; rintro m a w ⟨k, l, v, g, rfl, hq, hown, S⟩; have hq1 := hq.h1; have hq2 := hq.h2; have hq3 := hq.h3; have hdl : (s.drop k).length = s.length - k := List.length_drop; have hk0 : s.getD k 0 = (s.drop k).getD 0 0 := (by simp only [List.getD_eq_getElem?_getD, List.getElem?_drop, Nat.add_zero]); have hk1 : s.getD (k + 1) 0 = (s.drop k).getD 1 0 := (by simp only [List.getD_eq_getElem?_getD, List.getElem?_drop]); have hk2 : s.getD (k + 2) 0 = (s.drop k).getD 2 0 := (by simp only [List.getD_eq_getElem?_getD, List.getElem?_drop]); have hk3 : s.getD (k + 3) 0 = (s.drop k).getD 3 0 := (by simp only [List.getD_eq_getElem?_getD, List.getElem?_drop]); have hx2 := hexI_le ((s.drop k).getD 2 0); have hx3 := hexI_le ((s.drop k).getD 3 0); have hgd : (s.drop (i + 1)).getD (k - (i + 1)) 0 = (s.drop k).getD 0 0 := (by rw [← hk0]; simp only [List.getD_eq_getElem?_getD, List.getElem?_drop]; rw [show i + 1 + (k - (i + 1)) = k by omega]); have hz : s.length ≤ k → ((s.drop k).getD 0 0).toNat = 0 := (fun h => by rw [← hk0, List.getD_eq_getElem?_getD, List.getElem?_eq_none h]; rfl); have hl0 : s.length ≤ k → s.drop k = [] := List.drop_eq_nil_of_le)
    (refine wp_seq_k ?_; intro Kq5 hKq5)
    (refine wp_seq_k ?_; intro Kq6 hKq6)
    refine wp_region_lit ?_
    (refine wpl_v S rfl rfl rfl (sv_pure S rfl) ?_; clear S a; intro a S)
    (refine wpl_v S rfl rfl rfl (sv_pure S rfl) ?_; clear S a; intro a S)
    (refine wpl_v S rfl rfl rfl (sv_lenS S rfl rfl) ?_; clear S a; intro a S)
    (refine wpl_v S rfl rfl rfl (sv_pure S rfl) ?_; clear S a; intro a S)
    (refine wpl_v S rfl rfl rfl (sv_pure S rfl) ?_; clear S a; intro a S)
    refine wpl_guard S rfl rfl rfl rfl rfl ?_ ?_
    · (intro h S'; clear S; have S := S'; clear S'; (try simp only [decide_eq_true_eq, decide_eq_false_iff_not, beq_iff_eq, bne_iff_ne, bne_eq_false_iff_eq, beq_eq_false_iff_ne, ne_eq, Bool.not_eq_true', Bool.not_eq_false', Bool.not_eq_true, Bool.not_eq_false, Bool.not_true, Bool.not_false, Int.ofNat_lt, Int.ofNat_le, Nat.not_lt, Nat.not_le] at h))
      (refine wpl_v S rfl rfl rfl (sv_pure S rfl) ?_; clear S a; intro a S)
      refine wpl_take S rfl rfl rfl ?_
      (refine wpl_v S rfl rfl rfl (sv_pure S rfl) ?_; clear S a; intro a S)
      refine wpl_take S rfl rfl rfl ?_
      first | (refine wpl_v S rfl rfl rfl (sv_indexSN S rfl rfl rfl (by first | omega | (simp only [List.length_append, List.length_cons, List.length_nil]; omega))) ?_; clear S a; intro a S) | (refine wpl_v S rfl rfl rfl (sv_indexS S rfl rfl rfl (by first | omega | (simp only [List.length_append, List.length_cons, List.length_nil]; omega))) ?_; clear S a; intro a S)
      (rw [hk0] at S)
      refine wpl_take S rfl rfl rfl ?_
      (refine wpl_v S rfl rfl rfl (sv_pure S rfl) ?_; clear S a; intro a S)
      first | (refine wpl_v S rfl rfl rfl (sv_pure S rfl) ?_; clear S a; intro a S) | (refine wpl_v S rfl rfl rfl (sv_pickB S rfl rfl rfl rfl) ?_; clear S a; intro a S)
      refine wpList_nil ?_
      (refine hKq6 _ _ ?_; try (clear hKq6 Kq6))
      refine wpc_split S rfl (fun h => ?_) (fun h => ?_)
      · (skip; (try simp only [decide_eq_true_eq, decide_eq_false_iff_not, beq_iff_eq, bne_iff_ne, bne_eq_false_iff_eq, beq_eq_false_iff_ne, ne_eq, Bool.not_eq_true', Bool.not_eq_false', Bool.not_eq_true, Bool.not_eq_false, Bool.not_true, Bool.not_false, Int.ofNat_lt, Int.ofNat_le, Nat.not_lt, Nat.not_le] at h))
        refine wp_skip ?_
        (refine hKq5 _ _ ?_; try (clear hKq5 Kq5))
        refine wp_block ?_
        (refine wp_seq_k ?_; intro Kq7 hKq7)
        refine wp_region_lit ?_
        (refine wpl_v S rfl rfl rfl (sv_pure S rfl) ?_; clear S a; intro a S)
        (refine wpl_v S rfl rfl rfl (sv_pure S rfl) ?_; clear S a; intro a S)
        first | (refine wpl_v S rfl rfl rfl (sv_indexSN S rfl rfl rfl (by first | omega | (simp only [List.length_append, List.length_cons, List.length_nil]; omega))) ?_; clear S a; intro a S) | (refine wpl_v S rfl rfl rfl (sv_indexS S rfl rfl rfl (by first | omega | (simp only [List.length_append, List.length_cons, List.length_nil]; omega))) ?_; clear S a; intro a S)
        (rw [hk0] at S)
        (refine wpl_v S rfl rfl rfl (sv_pure S rfl) ?_; clear S a; intro a S)
        refine wpList_nil ?_
        (refine hKq7 _ _ ?_; try (clear hKq7 Kq7))
        (refine wp_seq_k ?_; intro Kq8 hKq8)
        (refine wp_seq_k ?_; intro Kq9 hKq9)
        refine wp_region_lit ?_
        (refine wpl_v S rfl rfl rfl (sv_pure S rfl) ?_; clear S a; intro a S)
        (refine wpl_v S rfl rfl rfl (sv_pure S rfl) ?_; clear S a; intro a S)
        (refine wpl_v S rfl rfl rfl (sv_pure S rfl) ?_; clear S a; intro a S)
        refine wpl_guard S rfl rfl rfl rfl rfl ?_ ?_
        · (intro h S'; clear S; have S := S'; clear S'; (try simp only [decide_eq_true_eq, decide_eq_false_iff_not, beq_iff_eq, bne_iff_ne, bne_eq_false_iff_eq, beq_eq_false_iff_ne, ne_eq, Bool.not_eq_true', Bool.not_eq_false', Bool.not_eq_true, Bool.not_eq_false, Bool.not_true, Bool.not_false, Int.ofNat_lt, Int.ofNat_le, Nat.not_lt, Nat.not_le] at h))
          (refine wpl_v S rfl rfl rfl (sv_pure S rfl) ?_; clear S a; intro a S)
          refine wpl_take S rfl rfl rfl ?_
          (refine wpl_v S rfl rfl rfl (sv_pure S rfl) ?_; clear S a; intro a S)
          first | (refine wpl_v S rfl rfl rfl (sv_pure S rfl) ?_; clear S a; intro a S) | (refine wpl_v S rfl rfl rfl (sv_pickB S rfl rfl rfl rfl) ?_; clear S a; intro a S)
          refine wpList_nil ?_
          (refine hKq9 _ _ ?_; try (clear hKq9 Kq9))
          refine wpc_split S rfl (fun h => ?_) (fun h => ?_)
          · (skip; (try simp only [decide_eq_true_eq, decide_eq_false_iff_not, beq_iff_eq, bne_iff_ne, bne_eq_false_iff_eq, beq_eq_false_iff_ne, ne_eq, Bool.not_eq_true', Bool.not_eq_false', Bool.not_eq_true, Bool.not_eq_false, Bool.not_true, Bool.not_false, Int.ofNat_lt, Int.ofNat_le, Nat.not_lt, Nat.not_le] at h))
            (refine wp_seq_k ?_; intro Kq10 hKq10)
            refine wp_region_lit ?_
            (refine wpl_v S rfl rfl rfl (sv_build S rfl rfl rfl) ?_; clear S a; intro a S)
            (refine wpl_storeO S rfl rfl rfl rfl rfl (by rfl) (by simp [Value.cells, Value.oneCell', splice]) (by rfl) ?_; clear S; intro w S)
            (refine wpl_v S rfl rfl rfl (sv_pure S rfl) ?_; clear S a; intro a S)
            refine wpList_nil ?_
            (refine hKq10 _ _ ?_; try (clear hKq10 Kq10))
            refine wp_ret ?_
            refine fin_ret S (results2 Tryd.results38 (RV.cellO S rfl (by rfl)) (RV.tmp S rfl)) ?_
            (have hqm := hq.stop (by unfold markQ; (repeat' split) <;> first | rfl | (exfalso; omega) | (exfalso; simp_all; done) | (exfalso; simp_all; omega)); (first | (refine RT.ok rfl ?_; unfold quotedF; simp only [hd1, hqm, hgd]; (repeat' split) <;> first | exact ⟨_, rfl, by omega⟩ | (exfalso; omega) | (exfalso; simp_all; done) | (exfalso; simp_all; omega)) | (refine RT.bad rfl (by decide) ?_; unfold quotedF; simp only [hd1, hqm, hgd]; (repeat' split) <;> first | rfl | (exfalso; omega) | (exfalso; simp_all; done) | (exfalso; simp_all; omega))))
          · (skip; (try simp only [decide_eq_true_eq, decide_eq_false_iff_not, beq_iff_eq, bne_iff_ne, bne_eq_false_iff_eq, beq_eq_false_iff_ne, ne_eq, Bool.not_eq_true', Bool.not_eq_false', Bool.not_eq_true, Bool.not_eq_false, Bool.not_true, Bool.not_false, Int.ofNat_lt, Int.ofNat_le, Nat.not_lt, Nat.not_le] at h))
            refine wp_skip ?_
            (refine hKq8 _ _ ?_; try (clear hKq8 Kq8))
            (refine wp_seq_k ?_; intro Kq10 hKq10)
            (refine wp_seq_k ?_; intro Kq11 hKq11)
            refine wp_region_lit ?_
            (refine wpl_v S rfl rfl rfl (sv_pure S rfl) ?_; clear S a; intro a S)
            (refine wpl_v S rfl rfl rfl (sv_pure S rfl) ?_; clear S a; intro a S)
            refine wpList_nil ?_
            (refine hKq11 _ _ ?_; try (clear hKq11 Kq11))
            refine wpc_split S rfl (fun h => ?_) (fun h => ?_)
            · (skip; (try simp only [decide_eq_true_eq, decide_eq_false_iff_not, beq_iff_eq, bne_iff_ne, bne_eq_false_iff_eq, beq_eq_false_iff_ne, ne_eq, Bool.not_eq_true', Bool.not_eq_false', Bool.not_eq_true, Bool.not_eq_false, Bool.not_true, Bool.not_false, Int.ofNat_lt, Int.ofNat_le, Nat.not_lt, Nat.not_le] at h))
              (refine wp_seq_k ?_; intro Kq12 hKq12)
              refine wp_region_lit ?_
              (refine wpl_v S rfl rfl rfl (sv_pure S rfl) ?_; clear S a; intro a S)
              (refine wpl_v S rfl rfl rfl (sv_pure S rfl) ?_; clear S a; intro a S)
              (refine wpl_append S rfl rfl rfl rfl rfl rfl rfl rfl rfl rfl rfl (fun _ => rfl) hown (by rfl) (by simp [Value.cells, splice, splice]) (by simp [Value.cells, Value.oneCell', splice, splice]) rfl (by rfl) (by rfl) rfl (by omega) (by omega) ?_; clear hown S a; intro v u g a w hown S)
              (refine wpl_v S rfl rfl rfl (sv_pure S rfl) ?_; clear S a; intro a S)
              refine wpList_nil ?_
              (refine hKq12 _ _ ?_; try (clear hKq12 Kq12))
              (refine wp_seq_k ?_; intro Kq13 hKq13)
              refine wp_region_lit ?_
              (refine wpl_v S rfl rfl rfl (sv_pure S rfl) ?_; clear S a; intro a S)
              (refine wpl_v S rfl rfl rfl (sv_add S rfl rfl rfl (by first | omega | (simp only [List.length_append, List.length_cons, List.length_nil]; omega))) ?_; clear S a; intro a S)
              (refine wpl_v S rfl rfl rfl (sv_pure S rfl) ?_; clear S a; intro a S)
              refine wpList_nil ?_
              (refine hKq13 _ _ ?_; try (clear hKq13 Kq13))
              refine wp_exit ?_
              change ∃ m', _ ∧ _
              (first | (refine ⟨s.length - (k + 1), by omega, k + 1, l ++ [(s.drop k).getD 0 0], v, g, rfl, hq.next (c := (s.drop k).getD 0 0) (n := 1) (by unfold markQ; (repeat' split) <;> first | rfl | (exfalso; omega) | (exfalso; simp_all; done) | (exfalso; simp_all; omega)), (by rw [List.length_append]; unfold u8c; rw [List.map_append]; exact hown), ?_⟩; (refine S.keep ?_; repeat (first | exact trivial | refine ⟨rfl, ?_⟩)); done) | (refine ⟨s.length - (k + 2), by omega, k + 2, l ++ [(s.drop k).getD 1 0], v, g, rfl, hq.next (c := (s.drop k).getD 1 0) (n := 2) (by unfold markQ; (repeat' split) <;> first | rfl | (exfalso; omega) | (exfalso; simp_all; done) | (exfalso; simp_all; omega)), (by rw [List.length_append]; unfold u8c; rw [List.map_append]; exact hown), ?_⟩; (refine S.keep ?_; repeat (first | exact trivial | refine ⟨rfl, ?_⟩)); done) | (refine ⟨s.length - (k + 2), by omega, k + 2, l ++ [10], v, g, rfl, hq.next (c := 10) (n := 2) (by unfold markQ; (repeat' split) <;> first | rfl | (exfalso; omega) | (exfalso; simp_all; done) | (exfalso; simp_all; omega)), (by rw [List.length_append]; unfold u8c; rw [List.map_append]; exact hown), ?_⟩; (refine S.keep ?_; repeat (first | exact trivial | refine ⟨rfl, ?_⟩)); done) | (refine ⟨s.length - (k + 2), by omega, k + 2, l ++ [9], v, g, rfl, hq.next (c := 9) (n := 2) (by unfold markQ; (repeat' split) <;> first | rfl | (exfalso; omega) | (exfalso; simp_all; done) | (exfalso; simp_all; omega)), (by rw [List.length_append]; unfold u8c; rw [List.map_append]; exact hown), ?_⟩; (refine S.keep ?_; repeat (first | exact trivial | refine ⟨rfl, ?_⟩)); done) | (have h16 := hexByte (x := (s.drop k).getD 2 0) (y := (s.drop k).getD 3 0) (by omega) (by omega); refine ⟨s.length - (k + 4), by omega, k + 4, l ++ [UInt8.ofNat (16 * (hexI ((s.drop k).getD 2 0)).toNat + (hexI ((s.drop k).getD 3 0)).toNat)], v, g, rfl, hq.next (c := UInt8.ofNat (16 * (hexI ((s.drop k).getD 2 0)).toNat + (hexI ((s.drop k).getD 3 0)).toNat)) (n := 4) (by unfold markQ; (repeat' split) <;> first | rfl | (exfalso; omega) | (exfalso; simp_all; done) | (exfalso; simp_all; omega)), (by rw [List.length_append]; unfold u8c; rw [List.map_append, List.map_cons, ← h16]; exact hown), ?_⟩; (refine S.keep ?_; repeat (first | exact trivial | refine ⟨rfl, ?_⟩)); done))
            · (skip; (try simp only [decide_eq_true_eq, decide_eq_false_iff_not, beq_iff_eq, bne_iff_ne, bne_eq_false_iff_eq, beq_eq_false_iff_ne, ne_eq, Bool.not_eq_true', Bool.not_eq_false', Bool.not_eq_true, Bool.not_eq_false, Bool.not_true, Bool.not_false, Int.ofNat_lt, Int.ofNat_le, Nat.not_lt, Nat.not_le] at h))
              refine wp_skip ?_
              (refine hKq10 _ _ ?_; try (clear hKq10 Kq10))
              (refine wp_seq_k ?_; intro Kq12 hKq12)
              (refine wp_seq_k ?_; intro Kq13 hKq13)
              refine wp_region_lit ?_
              (refine wpl_v S rfl rfl rfl (sv_pure S rfl) ?_; clear S a; intro a S)
              (refine wpl_v S rfl rfl rfl (sv_add S rfl rfl rfl (by first | omega | (simp only [List.length_append, List.length_cons, List.length_nil]; omega))) ?_; clear S a; intro a S)
              (refine wpl_v S rfl rfl rfl (sv_pure S rfl) ?_; clear S a; intro a S)
              (refine wpl_v S rfl rfl rfl (sv_lenS S rfl rfl) ?_; clear S a; intro a S)
              (refine wpl_v S rfl rfl rfl (sv_pure S rfl) ?_; clear S a; intro a S)
              refine wpList_nil ?_
              (refine hKq13 _ _ ?_; try (clear hKq13 Kq13))
              refine wpc_split S rfl (fun h => ?_) (fun h => ?_)
              · (skip; (try simp only [decide_eq_true_eq, decide_eq_false_iff_not, beq_iff_eq, bne_iff_ne, bne_eq_false_iff_eq, beq_eq_false_iff_ne, ne_eq, Bool.not_eq_true', Bool.not_eq_false', Bool.not_eq_true, Bool.not_eq_false, Bool.not_true, Bool.not_false, Int.ofNat_lt, Int.ofNat_le, Nat.not_lt, Nat.not_le] at h))
                (refine wp_seq_k ?_; intro Kq14 hKq14)
                refine wp_region_lit ?_
                (refine wpl_v S rfl rfl rfl (sv_build S rfl rfl rfl) ?_; clear S a; intro a S)
                (refine wpl_storeO S rfl rfl rfl rfl rfl (by rfl) (by simp [Value.cells, Value.oneCell', splice]) (by rfl) ?_; clear S; intro w S)
                (refine wpl_v S rfl rfl rfl (sv_pure S rfl) ?_; clear S a; intro a S)
                refine wpList_nil ?_
                (refine hKq14 _ _ ?_; try (clear hKq14 Kq14))
                refine wp_ret ?_
                refine fin_ret S (results2 Tryd.results38 (RV.cellO S rfl (by rfl)) (RV.tmp S rfl)) ?_
                (have hqm := hq.stop (by unfold markQ; (repeat' split) <;> first | rfl | (exfalso; omega) | (exfalso; simp_all; done) | (exfalso; simp_all; omega)); (first | (refine RT.ok rfl ?_; unfold quotedF; simp only [hd1, hqm, hgd]; (repeat' split) <;> first | exact ⟨_, rfl, by omega⟩ | (exfalso; omega) | (exfalso; simp_all; done) | (exfalso; simp_all; omega)) | (refine RT.bad rfl (by decide) ?_; unfold quotedF; simp only [hd1, hqm, hgd]; (repeat' split) <;> first | rfl | (exfalso; omega) | (exfalso; simp_all; done) | (exfalso; simp_all; omega))))
              · (skip; (try simp only [decide_eq_true_eq, decide_eq_false_iff_not, beq_iff_eq, bne_iff_ne, bne_eq_false_iff_eq, beq_eq_false_iff_ne, ne_eq, Bool.not_eq_true', Bool.not_eq_false', Bool.not_eq_true, Bool.not_eq_false, Bool.not_true, Bool.not_false, Int.ofNat_lt, Int.ofNat_le, Nat.not_lt, Nat.not_le] at h))
                refine wp_skip ?_
                (refine hKq12 _ _ ?_; try (clear hKq12 Kq12))
                (refine wp_seq_k ?_; intro Kq14 hKq14)
                refine wp_region_lit ?_
                (refine wpl_v S rfl rfl rfl (sv_pure S rfl) ?_; clear S a; intro a S)
                (refine wpl_v S rfl rfl rfl (sv_pure S rfl) ?_; clear S a; intro a S)
                (refine wpl_v S rfl rfl rfl (sv_add S rfl rfl rfl (by first | omega | (simp only [List.length_append, List.length_cons, List.length_nil]; omega))) ?_; clear S a; intro a S)
                (rw [i64_add1] at S)
                first | (refine wpl_v S rfl rfl rfl (sv_indexSN S rfl rfl rfl (by first | omega | (simp only [List.length_append, List.length_cons, List.length_nil]; omega))) ?_; clear S a; intro a S) | (refine wpl_v S rfl rfl rfl (sv_indexS S rfl rfl rfl (by first | omega | (simp only [List.length_append, List.length_cons, List.length_nil]; omega))) ?_; clear S a; intro a S)
                (rw [hk1] at S)
                (refine wpl_v S rfl rfl rfl (sv_pure S rfl) ?_; clear S a; intro a S)
                refine wpList_nil ?_
                (refine hKq14 _ _ ?_; try (clear hKq14 Kq14))
                (refine wp_seq_k ?_; intro Kq15 hKq15)
                refine wp_region_lit ?_
                (refine wpl_v S rfl rfl rfl (sv_pure S rfl) ?_; clear S a; intro a S)
                (refine wpl_v S rfl rfl rfl (sv_add S rfl rfl rfl (by first | omega | (simp only [List.length_append, List.length_cons, List.length_nil]; omega))) ?_; clear S a; intro a S)
                (rw [show ((k : Nat) : Int) + 2 = ((k + 2 : Nat) : Int) by omega] at S)
                (refine wpl_v S rfl rfl rfl (sv_pure S rfl) ?_; clear S a; intro a S)
                refine wpList_nil ?_
                (refine hKq15 _ _ ?_; try (clear hKq15 Kq15))
                (refine wp_seq_k ?_; intro Kq16 hKq16)
                refine wp_region_lit ?_
                (refine wpl_v S rfl rfl rfl (sv_pure S rfl) ?_; clear S a; intro a S)
                (refine wpl_v S rfl rfl rfl (sv_pure S rfl) ?_; clear S a; intro a S)
                (refine wpl_v S rfl rfl rfl (sv_pure S rfl) ?_; clear S a; intro a S)
                refine wpl_guard S rfl rfl rfl rfl rfl ?_ ?_
                · (intro h S'; clear S; have S := S'; clear S'; (try simp only [decide_eq_true_eq, decide_eq_false_iff_not, beq_iff_eq, bne_iff_ne, bne_eq_false_iff_eq, beq_eq_false_iff_ne, ne_eq, Bool.not_eq_true', Bool.not_eq_false', Bool.not_eq_true, Bool.not_eq_false, Bool.not_true, Bool.not_false, Int.ofNat_lt, Int.ofNat_le, Nat.not_lt, Nat.not_le] at h))
                  (refine wpl_v S rfl rfl rfl (sv_pure S rfl) ?_; clear S a; intro a S)
                  refine wpl_take S rfl rfl rfl ?_
                  (refine wpl_v S rfl rfl rfl (sv_pure S rfl) ?_; clear S a; intro a S)
                  first | (refine wpl_v S rfl rfl rfl (sv_pure S rfl) ?_; clear S a; intro a S) | (refine wpl_v S rfl rfl rfl (sv_pickB S rfl rfl rfl rfl) ?_; clear S a; intro a S)
                  refine wpList_nil ?_
                  (refine hKq16 _ _ ?_; try (clear hKq16 Kq16))
                  refine wpc_split S rfl (fun h => ?_) (fun h => ?_)
                  · (skip; (try simp only [decide_eq_true_eq, decide_eq_false_iff_not, beq_iff_eq, bne_iff_ne, bne_eq_false_iff_eq, beq_eq_false_iff_ne, ne_eq, Bool.not_eq_true', Bool.not_eq_false', Bool.not_eq_true, Bool.not_eq_false, Bool.not_true, Bool.not_false, Int.ofNat_lt, Int.ofNat_le, Nat.not_lt, Nat.not_le] at h))
                    refine wp_region_lit ?_
                    (refine wpl_v S rfl rfl rfl (sv_pure S rfl) ?_; clear S a; intro a S)
                    (refine wpl_v S rfl rfl rfl (sv_pure S rfl) ?_; clear S a; intro a S)
                    (refine wpl_append S rfl rfl rfl rfl rfl rfl rfl rfl rfl rfl rfl (fun _ => rfl) hown (by rfl) (by simp [Value.cells, splice, splice]) (by simp [Value.cells, Value.oneCell', splice, splice]) rfl (by rfl) (by rfl) rfl (by omega) (by omega) ?_; clear hown S a; intro v u g a w hown S)
                    (refine wpl_v S rfl rfl rfl (sv_pure S rfl) ?_; clear S a; intro a S)
                    refine wpList_nil ?_
                    change ∃ m', _ ∧ _
                    (first | (refine ⟨s.length - (k + 1), by omega, k + 1, l ++ [(s.drop k).getD 0 0], v, g, rfl, hq.next (c := (s.drop k).getD 0 0) (n := 1) (by unfold markQ; (repeat' split) <;> first | rfl | (exfalso; omega) | (exfalso; simp_all; done) | (exfalso; simp_all; omega)), (by rw [List.length_append]; unfold u8c; rw [List.map_append]; exact hown), ?_⟩; (refine S.keep ?_; repeat (first | exact trivial | refine ⟨rfl, ?_⟩)); done) | (refine ⟨s.length - (k + 2), by omega, k + 2, l ++ [(s.drop k).getD 1 0], v, g, rfl, hq.next (c := (s.drop k).getD 1 0) (n := 2) (by unfold markQ; (repeat' split) <;> first | rfl | (exfalso; omega) | (exfalso; simp_all; done) | (exfalso; simp_all; omega)), (by rw [List.length_append]; unfold u8c; rw [List.map_append]; exact hown), ?_⟩; (refine S.keep ?_; repeat (first | exact trivial | refine ⟨rfl, ?_⟩)); done) | (refine ⟨s.length - (k + 2), by omega, k + 2, l ++ [10], v, g, rfl, hq.next (c := 10) (n := 2) (by unfold markQ; (repeat' split) <;> first | rfl | (exfalso; omega) | (exfalso; simp_all; done) | (exfalso; simp_all; omega)), (by rw [List.length_append]; unfold u8c; rw [List.map_append]; exact hown), ?_⟩; (refine S.keep ?_; repeat (first | exact trivial | refine ⟨rfl, ?_⟩)); done) | (refine ⟨s.length - (k + 2), by omega, k + 2, l ++ [9], v, g, rfl, hq.next (c := 9) (n := 2) (by unfold markQ; (repeat' split) <;> first | rfl | (exfalso; omega) | (exfalso; simp_all; done) | (exfalso; simp_all; omega)), (by rw [List.length_append]; unfold u8c; rw [List.map_append]; exact hown), ?_⟩; (refine S.keep ?_; repeat (first | exact trivial | refine ⟨rfl, ?_⟩)); done) | (have h16 := hexByte (x := (s.drop k).getD 2 0) (y := (s.drop k).getD 3 0) (by omega) (by omega); refine ⟨s.length - (k + 4), by omega, k + 4, l ++ [UInt8.ofNat (16 * (hexI ((s.drop k).getD 2 0)).toNat + (hexI ((s.drop k).getD 3 0)).toNat)], v, g, rfl, hq.next (c := UInt8.ofNat (16 * (hexI ((s.drop k).getD 2 0)).toNat + (hexI ((s.drop k).getD 3 0)).toNat)) (n := 4) (by unfold markQ; (repeat' split) <;> first | rfl | (exfalso; omega) | (exfalso; simp_all; done) | (exfalso; simp_all; omega)), (by rw [List.length_append]; unfold u8c; rw [List.map_append, List.map_cons, ← h16]; exact hown), ?_⟩; (refine S.keep ?_; repeat (first | exact trivial | refine ⟨rfl, ?_⟩)); done))
                  · (skip; (try simp only [decide_eq_true_eq, decide_eq_false_iff_not, beq_iff_eq, bne_iff_ne, bne_eq_false_iff_eq, beq_eq_false_iff_ne, ne_eq, Bool.not_eq_true', Bool.not_eq_false', Bool.not_eq_true, Bool.not_eq_false, Bool.not_true, Bool.not_false, Int.ofNat_lt, Int.ofNat_le, Nat.not_lt, Nat.not_le] at h))
                    (refine wp_seq_k ?_; intro Kq17 hKq17)
                    refine wp_region_lit ?_
                    (refine wpl_v S rfl rfl rfl (sv_pure S rfl) ?_; clear S a; intro a S)
                    (refine wpl_v S rfl rfl rfl (sv_pure S rfl) ?_; clear S a; intro a S)
                    refine wpList_nil ?_
                    (refine hKq17 _ _ ?_; try (clear hKq17 Kq17))
                    refine wpc_split S rfl (fun h => ?_) (fun h => ?_)
                    · (skip; (try simp only [decide_eq_true_eq, decide_eq_false_iff_not, beq_iff_eq, bne_iff_ne, bne_eq_false_iff_eq, beq_eq_false_iff_ne, ne_eq, Bool.not_eq_true', Bool.not_eq_false', Bool.not_eq_true, Bool.not_eq_false, Bool.not_true, Bool.not_false, Int.ofNat_lt, Int.ofNat_le, Nat.not_lt, Nat.not_le] at h))
                      refine wp_region_lit ?_
                      (refine wpl_v S rfl rfl rfl (sv_pure S rfl) ?_; clear S a; intro a S)
                      (refine wpl_append S rfl rfl rfl rfl rfl rfl rfl rfl rfl rfl rfl (fun _ => rfl) hown (by rfl) (by simp [Value.cells, splice, splice]) (by simp [Value.cells, Value.oneCell', splice, splice]) rfl (by rfl) (by rfl) rfl (by omega) (by omega) ?_; clear hown S a; intro v u g a w hown S)
                      (refine wpl_v S rfl rfl rfl (sv_pure S rfl) ?_; clear S a; intro a S)
                      refine wpList_nil ?_
                      change ∃ m', _ ∧ _
                      (first | (refine ⟨s.length - (k + 1), by omega, k + 1, l ++ [(s.drop k).getD 0 0], v, g, rfl, hq.next (c := (s.drop k).getD 0 0) (n := 1) (by unfold markQ; (repeat' split) <;> first | rfl | (exfalso; omega) | (exfalso; simp_all; done) | (exfalso; simp_all; omega)), (by rw [List.length_append]; unfold u8c; rw [List.map_append]; exact hown), ?_⟩; (refine S.keep ?_; repeat (first | exact trivial | refine ⟨rfl, ?_⟩)); done) | (refine ⟨s.length - (k + 2), by omega, k + 2, l ++ [(s.drop k).getD 1 0], v, g, rfl, hq.next (c := (s.drop k).getD 1 0) (n := 2) (by unfold markQ; (repeat' split) <;> first | rfl | (exfalso; omega) | (exfalso; simp_all; done) | (exfalso; simp_all; omega)), (by rw [List.length_append]; unfold u8c; rw [List.map_append]; exact hown), ?_⟩; (refine S.keep ?_; repeat (first | exact trivial | refine ⟨rfl, ?_⟩)); done) | (refine ⟨s.length - (k + 2), by omega, k + 2, l ++ [10], v, g, rfl, hq.next (c := 10) (n := 2) (by unfold markQ; (repeat' split) <;> first | rfl | (exfalso; omega) | (exfalso; simp_all; done) | (exfalso; simp_all; omega)), (by rw [List.length_append]; unfold u8c; rw [List.map_append]; exact hown), ?_⟩; (refine S.keep ?_; repeat (first | exact trivial | refine ⟨rfl, ?_⟩)); done) | (refine ⟨s.length - (k + 2), by omega, k + 2, l ++ [9], v, g, rfl, hq.next (c := 9) (n := 2) (by unfold markQ; (repeat' split) <;> first | rfl | (exfalso; omega) | (exfalso; simp_all; done) | (exfalso; simp_all; omega)), (by rw [List.length_append]; unfold u8c; rw [List.map_append]; exact hown), ?_⟩; (refine S.keep ?_; repeat (first | exact trivial | refine ⟨rfl, ?_⟩)); done) | (have h16 := hexByte (x := (s.drop k).getD 2 0) (y := (s.drop k).getD 3 0) (by omega) (by omega); refine ⟨s.length - (k + 4), by omega, k + 4, l ++ [UInt8.ofNat (16 * (hexI ((s.drop k).getD 2 0)).toNat + (hexI ((s.drop k).getD 3 0)).toNat)], v, g, rfl, hq.next (c := UInt8.ofNat (16 * (hexI ((s.drop k).getD 2 0)).toNat + (hexI ((s.drop k).getD 3 0)).toNat)) (n := 4) (by unfold markQ; (repeat' split) <;> first | rfl | (exfalso; omega) | (exfalso; simp_all; done) | (exfalso; simp_all; omega)), (by rw [List.length_append]; unfold u8c; rw [List.map_append, List.map_cons, ← h16]; exact hown), ?_⟩; (refine S.keep ?_; repeat (first | exact trivial | refine ⟨rfl, ?_⟩)); done))
                    · (skip; (try simp only [decide_eq_true_eq, decide_eq_false_iff_not, beq_iff_eq, bne_iff_ne, bne_eq_false_iff_eq, beq_eq_false_iff_ne, ne_eq, Bool.not_eq_true', Bool.not_eq_false', Bool.not_eq_true, Bool.not_eq_false, Bool.not_true, Bool.not_false, Int.ofNat_lt, Int.ofNat_le, Nat.not_lt, Nat.not_le] at h))
                      (refine wp_seq_k ?_; intro Kq18 hKq18)
                      refine wp_region_lit ?_
                      (refine wpl_v S rfl rfl rfl (sv_pure S rfl) ?_; clear S a; intro a S)
                      (refine wpl_v S rfl rfl rfl (sv_pure S rfl) ?_; clear S a; intro a S)
                      refine wpList_nil ?_
                      (refine hKq18 _ _ ?_; try (clear hKq18 Kq18))
                      refine wpc_split S rfl (fun h => ?_) (fun h => ?_)
                      · (skip; (try simp only [decide_eq_true_eq, decide_eq_false_iff_not, beq_iff_eq, bne_iff_ne, bne_eq_false_iff_eq, beq_eq_false_iff_ne, ne_eq, Bool.not_eq_true', Bool.not_eq_false', Bool.not_eq_true, Bool.not_eq_false, Bool.not_true, Bool.not_false, Int.ofNat_lt, Int.ofNat_le, Nat.not_lt, Nat.not_le] at h))
                        refine wp_region_lit ?_
                        (refine wpl_v S rfl rfl rfl (sv_pure S rfl) ?_; clear S a; intro a S)
                        (refine wpl_append S rfl rfl rfl rfl rfl rfl rfl rfl rfl rfl rfl (fun _ => rfl) hown (by rfl) (by simp [Value.cells, splice, splice]) (by simp [Value.cells, Value.oneCell', splice, splice]) rfl (by rfl) (by rfl) rfl (by omega) (by omega) ?_; clear hown S a; intro v u g a w hown S)
                        (refine wpl_v S rfl rfl rfl (sv_pure S rfl) ?_; clear S a; intro a S)
                        refine wpList_nil ?_
                        change ∃ m', _ ∧ _
                        (first | (refine ⟨s.length - (k + 1), by omega, k + 1, l ++ [(s.drop k).getD 0 0], v, g, rfl, hq.next (c := (s.drop k).getD 0 0) (n := 1) (by unfold markQ; (repeat' split) <;> first | rfl | (exfalso; omega) | (exfalso; simp_all; done) | (exfalso; simp_all; omega)), (by rw [List.length_append]; unfold u8c; rw [List.map_append]; exact hown), ?_⟩; (refine S.keep ?_; repeat (first | exact trivial | refine ⟨rfl, ?_⟩)); done) | (refine ⟨s.length - (k + 2), by omega, k + 2, l ++ [(s.drop k).getD 1 0], v, g, rfl, hq.next (c := (s.drop k).getD 1 0) (n := 2) (by unfold markQ; (repeat' split) <;> first | rfl | (exfalso; omega) | (exfalso; simp_all; done) | (exfalso; simp_all; omega)), (by rw [List.length_append]; unfold u8c; rw [List.map_append]; exact hown), ?_⟩; (refine S.keep ?_; repeat (first | exact trivial | refine ⟨rfl, ?_⟩)); done) | (refine ⟨s.length - (k + 2), by omega, k + 2, l ++ [10], v, g, rfl, hq.next (c := 10) (n := 2) (by unfold markQ; (repeat' split) <;> first | rfl | (exfalso; omega) | (exfalso; simp_all; done) | (exfalso; simp_all; omega)), (by rw [List.length_append]; unfold u8c; rw [List.map_append]; exact hown), ?_⟩; (refine S.keep ?_; repeat (first | exact trivial | refine ⟨rfl, ?_⟩)); done) | (refine ⟨s.length - (k + 2), by omega, k + 2, l ++ [9], v, g, rfl, hq.next (c := 9) (n := 2) (by unfold markQ; (repeat' split) <;> first | rfl | (exfalso; omega) | (exfalso; simp_all; done) | (exfalso; simp_all; omega)), (by rw [List.length_append]; unfold u8c; rw [List.map_append]; exact hown), ?_⟩; (refine S.keep ?_; repeat (first | exact trivial | refine ⟨rfl, ?_⟩)); done) | (have h16 := hexByte (x := (s.drop k).getD 2 0) (y := (s.drop k).getD 3 0) (by omega) (by omega); refine ⟨s.length - (k + 4), by omega, k + 4, l ++ [UInt8.ofNat (16 * (hexI ((s.drop k).getD 2 0)).toNat + (hexI ((s.drop k).getD 3 0)).toNat)], v, g, rfl, hq.next (c := UInt8.ofNat (16 * (hexI ((s.drop k).getD 2 0)).toNat + (hexI ((s.drop k).getD 3 0)).toNat)) (n := 4) (by unfold markQ; (repeat' split) <;> first | rfl | (exfalso; omega) | (exfalso; simp_all; done) | (exfalso; simp_all; omega)), (by rw [List.length_append]; unfold u8c; rw [List.map_append, List.map_cons, ← h16]; exact hown), ?_⟩; (refine S.keep ?_; repeat (first | exact trivial | refine ⟨rfl, ?_⟩)); done))
                      · (skip; (try simp only [decide_eq_true_eq, decide_eq_false_iff_not, beq_iff_eq, bne_iff_ne, bne_eq_false_iff_eq, beq_eq_false_iff_ne, ne_eq, Bool.not_eq_true', Bool.not_eq_false', Bool.not_eq_true, Bool.not_eq_false, Bool.not_true, Bool.not_false, Int.ofNat_lt, Int.ofNat_le, Nat.not_lt, Nat.not_le] at h))
                        (refine wp_seq_k ?_; intro Kq19 hKq19)
                        refine wp_region_lit ?_
                        (refine wpl_v S rfl rfl rfl (sv_pure S rfl) ?_; clear S a; intro a S)
                        (refine wpl_v S rfl rfl rfl (sv_pure S rfl) ?_; clear S a; intro a S)
                        (refine wpl_v S rfl rfl rfl (sv_pure S rfl) ?_; clear S a; intro a S)
                        refine wpl_guard S rfl rfl rfl rfl rfl ?_ ?_
                        · (intro h S'; clear S; have S := S'; clear S'; (try simp only [decide_eq_true_eq, decide_eq_false_iff_not, beq_iff_eq, bne_iff_ne, bne_eq_false_iff_eq, beq_eq_false_iff_ne, ne_eq, Bool.not_eq_true', Bool.not_eq_false', Bool.not_eq_true, Bool.not_eq_false, Bool.not_true, Bool.not_false, Int.ofNat_lt, Int.ofNat_le, Nat.not_lt, Nat.not_le] at h))
                          (refine wpl_v S rfl rfl rfl (sv_pure S rfl) ?_; clear S a; intro a S)
                          refine wpl_take S rfl rfl rfl ?_
                          (refine wpl_v S rfl rfl rfl (sv_add S rfl rfl rfl (by first | omega | (simp only [List.length_append, List.length_cons, List.length_nil]; omega))) ?_; clear S a; intro a S)
                          refine wpl_take S rfl rfl rfl ?_
                          (refine wpl_v S rfl rfl rfl (sv_pure S rfl) ?_; clear S a; intro a S)
                          refine wpl_take S rfl rfl rfl ?_
                          (refine wpl_v S rfl rfl rfl (sv_lenS S rfl rfl) ?_; clear S a; intro a S)
                          refine wpl_take S rfl rfl rfl ?_
                          (refine wpl_v S rfl rfl rfl (sv_pure S rfl) ?_; clear S a; intro a S)
                          first | (refine wpl_v S rfl rfl rfl (sv_pure S rfl) ?_; clear S a; intro a S) | (refine wpl_v S rfl rfl rfl (sv_pickB S rfl rfl rfl rfl) ?_; clear S a; intro a S)
                          (refine wpl_v S rfl rfl rfl (sv_pure S rfl) ?_; clear S a; intro a S)
                          refine wpl_guard S rfl rfl rfl rfl rfl ?_ ?_
                          · (intro h S'; clear S; have S := S'; clear S'; (try simp only [decide_eq_true_eq, decide_eq_false_iff_not, beq_iff_eq, bne_iff_ne, bne_eq_false_iff_eq, beq_eq_false_iff_ne, ne_eq, Bool.not_eq_true', Bool.not_eq_false', Bool.not_eq_true, Bool.not_eq_false, Bool.not_true, Bool.not_false, Int.ofNat_lt, Int.ofNat_le, Nat.not_lt, Nat.not_le] at h))
                            (refine wpl_v S rfl rfl rfl (sv_pure S rfl) ?_; clear S a; intro a S)
                            refine wpl_take S rfl rfl rfl ?_
                            (refine wpl_v S rfl rfl rfl (sv_pure S rfl) ?_; clear S a; intro a S)
                            refine wpl_take S rfl rfl rfl ?_
                            first | (refine wpl_v S rfl rfl rfl (sv_indexSN S rfl rfl rfl (by first | omega | (simp only [List.length_append, List.length_cons, List.length_nil]; omega))) ?_; clear S a; intro a S) | (refine wpl_v S rfl rfl rfl (sv_indexS S rfl rfl rfl (by first | omega | (simp only [List.length_append, List.length_cons, List.length_nil]; omega))) ?_; clear S a; intro a S)
                            (rw [hk2] at S)
                            refine wpl_take S rfl rfl rfl ?_
                            ((first | (refine wpl_call0 S rfl rfl rfl rfl rfl rfl (rhexCt ((s.drop k).getD 2 0) F) rfl ?_) | (refine wpl_call0 S rfl rfl rfl rfl rfl rfl (rhexCt ((s.drop k).getD 3 0) F) rfl ?_)); clear S a; intro v9 a w hv S; subst hv)
                            refine wpl_take S rfl rfl rfl ?_
                            (refine wpl_v S rfl rfl rfl (sv_pure S rfl) ?_; clear S a; intro a S)
                            first | (refine wpl_v S rfl rfl rfl (sv_pure S rfl) ?_; clear S a; intro a S) | (refine wpl_v S rfl rfl rfl (sv_pickB S rfl rfl rfl rfl) ?_; clear S a; intro a S)
                            (refine wpl_v S rfl rfl rfl (sv_pure S rfl) ?_; clear S a; intro a S)
                            refine wpl_guard S rfl rfl rfl rfl rfl ?_ ?_
                            · (intro h S'; clear S; have S := S'; clear S'; (try simp only [decide_eq_true_eq, decide_eq_false_iff_not, beq_iff_eq, bne_iff_ne, bne_eq_false_iff_eq, beq_eq_false_iff_ne, ne_eq, Bool.not_eq_true', Bool.not_eq_false', Bool.not_eq_true, Bool.not_eq_false, Bool.not_true, Bool.not_false, Int.ofNat_lt, Int.ofNat_le, Nat.not_lt, Nat.not_le] at h))
                              (refine wpl_v S rfl rfl rfl (sv_pure S rfl) ?_; clear S a; intro a S)
                              refine wpl_take S rfl rfl rfl ?_
                              (refine wpl_v S rfl rfl rfl (sv_pure S rfl) ?_; clear S a; intro a S)
                              refine wpl_take S rfl rfl rfl ?_
                              (refine wpl_v S rfl rfl rfl (sv_add S rfl rfl rfl (by first | omega | (simp only [List.length_append, List.length_cons, List.length_nil]; omega))) ?_; clear S a; intro a S)
                              (rw [i64_add1] at S)
                              refine wpl_take S rfl rfl rfl ?_
                              first | (refine wpl_v S rfl rfl rfl (sv_indexSN S rfl rfl rfl (by first | omega | (simp only [List.length_append, List.length_cons, List.length_nil]; omega))) ?_; clear S a; intro a S) | (refine wpl_v S rfl rfl rfl (sv_indexS S rfl rfl rfl (by first | omega | (simp only [List.length_append, List.length_cons, List.length_nil]; omega))) ?_; clear S a; intro a S)
                              (rw [hk3] at S)
                              refine wpl_take S rfl rfl rfl ?_
                              ((first | (refine wpl_call0 S rfl rfl rfl rfl rfl rfl (rhexCt ((s.drop k).getD 2 0) F) rfl ?_) | (refine wpl_call0 S rfl rfl rfl rfl rfl rfl (rhexCt ((s.drop k).getD 3 0) F) rfl ?_)); clear S a; intro v9 a w hv S; subst hv)
                              refine wpl_take S rfl rfl rfl ?_
                              (refine wpl_v S rfl rfl rfl (sv_pure S rfl) ?_; clear S a; intro a S)
                              first | (refine wpl_v S rfl rfl rfl (sv_pure S rfl) ?_; clear S a; intro a S) | (refine wpl_v S rfl rfl rfl (sv_pickB S rfl rfl rfl rfl) ?_; clear S a; intro a S)
                              refine wpList_nil ?_
                              (refine hKq19 _ _ ?_; try (clear hKq19 Kq19))
                              refine wpc_split S rfl (fun h => ?_) (fun h => ?_)
                              · (skip; (try simp only [decide_eq_true_eq, decide_eq_false_iff_not, beq_iff_eq, bne_iff_ne, bne_eq_false_iff_eq, beq_eq_false_iff_ne, ne_eq, Bool.not_eq_true', Bool.not_eq_false', Bool.not_eq_true, Bool.not_eq_false, Bool.not_true, Bool.not_false, Int.ofNat_lt, Int.ofNat_le, Nat.not_lt, Nat.not_le] at h))
                                (refine wp_seq_k ?_; intro Kq20 hKq20)
                                (refine wpc_mixM [0, 1, 2, 3, 5, 6, 7, 8, 9, 11, 12] [] [] (.one 0 (.one 1 (.one 2 (.one 3 (.one 6 (.one 7 (.one 8 (.one 9 (.one 4 (.one 5 (.one 10 (.one 11 (.one 12 (.one 13 (.one 14 (.one 15 .nil)))))))))))))))) [] S mixed (by kernel_rfl) ?_; clear S; intro w S)
                                (refine wpm_v S rfl rfl rfl (want_none _ rfl) rfl rfl (fun w' S => sv_pure S rfl) ?_; clear S a; intro a S)
                                (refine wpm_v S rfl rfl rfl (want_none _ rfl) rfl rfl (fun w' S => sv_pure S rfl) ?_; clear S a; intro a S)
                                (refine wpm_v S rfl rfl rfl (want_none _ rfl) rfl rfl (fun w' S => sv_pure S rfl) ?_; clear S a; intro a S)
                                first | (refine wpm_v S rfl rfl rfl (want_none _ rfl) rfl rfl (fun w' S => sv_indexSN S rfl rfl rfl (by first | omega | (simp only [List.length_append, List.length_cons, List.length_nil]; omega))) ?_; clear S a; intro a S) | (refine wpm_v S rfl rfl rfl (want_none _ rfl) rfl rfl (fun w' S => sv_indexS S rfl rfl rfl (by first | omega | (simp only [List.length_append, List.length_cons, List.length_nil]; omega))) ?_; clear S a; intro a S)
                                (rw [hk2] at S)
                                (refine wpm_v S rfl rfl rfl (want_none _ rfl) rfl rfl (fun w' S => sv_pure S rfl) ?_; clear S a; intro a S)
                                (refine wpm_v S rfl rfl rfl (want_none _ rfl) rfl rfl (fun w' S => sv_pure S rfl) ?_; clear S a; intro a S)
                                (refine wpm_v S rfl rfl rfl (want_none _ rfl) rfl rfl (fun w' S => sv_add S rfl rfl rfl (by first | omega | (simp only [List.length_append, List.length_cons, List.length_nil]; omega))) ?_; clear S a; intro a S)
                                (rw [i64_add1] at S)
                                first | (refine wpm_v S rfl rfl rfl (want_none _ rfl) rfl rfl (fun w' S => sv_indexSN S rfl rfl rfl (by first | omega | (simp only [List.length_append, List.length_cons, List.length_nil]; omega))) ?_; clear S a; intro a S) | (refine wpm_v S rfl rfl rfl (want_none _ rfl) rfl rfl (fun w' S => sv_indexS S rfl rfl rfl (by first | omega | (simp only [List.length_append, List.length_cons, List.length_nil]; omega))) ?_; clear S a; intro a S)
                                (rw [hk3] at S)
                                refine wpm_eff rfl rfl (fun _ => ⟨fun b o h => S.tr.frz b o (by first | exact h | solve_by_elim), trivial⟩) ?_
                                ((first | (refine wpl_call0 S rfl rfl rfl rfl rfl rfl (rhexCt ((s.drop k).getD 2 0) F) rfl ?_) | (refine wpl_call0 S rfl rfl rfl rfl rfl rfl (rhexCt ((s.drop k).getD 3 0) F) rfl ?_)); clear S a; intro v9 a w hv S; subst hv)
                                refine wpList_nil ?_
                                (refine wpm_v S rfl rfl rfl (want_none _ rfl) rfl rfl (fun w' S => sv_mul S rfl rfl rfl (by first | omega | (simp only [List.length_append, List.length_cons, List.length_nil]; omega))) ?_; clear S a; intro a S)
                                refine wpm_eff rfl rfl (fun _ => ⟨fun b o h => S.tr.frz b o (by first | exact h | solve_by_elim), trivial⟩) ?_
                                ((first | (refine wpl_call0 S rfl rfl rfl rfl rfl rfl (rhexCt ((s.drop k).getD 2 0) F) rfl ?_) | (refine wpl_call0 S rfl rfl rfl rfl rfl rfl (rhexCt ((s.drop k).getD 3 0) F) rfl ?_)); clear S a; intro v9 a w hv S; subst hv)
                                refine wpList_nil ?_
                                (refine wpm_v S rfl rfl rfl (want_none _ rfl) rfl rfl (fun w' S => sv_add S rfl rfl rfl (by first | omega | (simp only [List.length_append, List.length_cons, List.length_nil]; omega))) ?_; clear S a; intro a S)
                                first | (refine wpm_v S rfl rfl rfl (want_none _ rfl) rfl rfl (fun w' S => sv_conv_u8 S rfl rfl (by first | omega | (simp only [List.length_append, List.length_cons, List.length_nil]; omega))) ?_; clear S a; intro a S) | (refine wpm_v S rfl rfl rfl (want_none _ rfl) rfl rfl (fun w' S => sv_conv S rfl rfl) ?_; clear S a; intro a S)
                                refine wpm_eff rfl rfl (fun _ => ⟨fun b o h => S.tr.frz b o (by first | exact h | solve_by_elim), trivial⟩) ?_
                                (refine wpl_buildSlice S rfl rfl rfl rfl rfl rfl (by rfl) (by simp [Value.cells, splice, splice]) rfl (by rfl) (by rfl) ?_; clear S a; intro b108 a w hown2 S)
                                refine wpList_nil ?_
                                refine wpm_eff rfl rfl (fun _ => ⟨fun b o h => S.tr.frz b o (by first | exact h | solve_by_elim), trivial⟩) ?_
                                (refine wpl_appendOwn S rfl rfl rfl rfl rfl rfl hown hown2 (by rfl) (by simp [Value.cells, Value.oneCell', splice, splice]) (by omega) (by omega) ?_; clear hown S a; intro v g a w hown S)
                                refine wpList_nil ?_
                                refine wpm_eff rfl rfl (fun _ => ⟨fun b o h => S.tr.frz b o (by first | exact h | solve_by_elim), trivial⟩) ?_
                                (refine wpl_v S rfl rfl rfl (sv_pure S rfl) ?_; clear S a; intro a S)
                                refine wpList_nil ?_
                                refine wpm_nil (fun _ => ⟨fun b o h => S.tr.frz b o (by first | exact h | solve_by_elim), trivial⟩) ?_
                                (refine hKq20 _ _ ?_; try (clear hKq20 Kq20))
                                refine wp_region_lit ?_
                                (refine wpl_v S rfl rfl rfl (sv_pure S rfl) ?_; clear S a; intro a S)
                                (refine wpl_v S rfl rfl rfl (sv_add S rfl rfl rfl (by first | omega | (simp only [List.length_append, List.length_cons, List.length_nil]; omega))) ?_; clear S a; intro a S)
                                (refine wpl_v S rfl rfl rfl (sv_pure S rfl) ?_; clear S a; intro a S)
                                refine wpList_nil ?_
                                change ∃ m', _ ∧ _
                                (first | (refine ⟨s.length - (k + 1), by omega, k + 1, l ++ [(s.drop k).getD 0 0], v, g, rfl, hq.next (c := (s.drop k).getD 0 0) (n := 1) (by unfold markQ; (repeat' split) <;> first | rfl | (exfalso; omega) | (exfalso; simp_all; done) | (exfalso; simp_all; omega)), (by rw [List.length_append]; unfold u8c; rw [List.map_append]; exact hown), ?_⟩; (refine S.keep ?_; repeat (first | exact trivial | refine ⟨rfl, ?_⟩)); done) | (refine ⟨s.length - (k + 2), by omega, k + 2, l ++ [(s.drop k).getD 1 0], v, g, rfl, hq.next (c := (s.drop k).getD 1 0) (n := 2) (by unfold markQ; (repeat' split) <;> first | rfl | (exfalso; omega) | (exfalso; simp_all; done) | (exfalso; simp_all; omega)), (by rw [List.length_append]; unfold u8c; rw [List.map_append]; exact hown), ?_⟩; (refine S.keep ?_; repeat (first | exact trivial | refine ⟨rfl, ?_⟩)); done) | (refine ⟨s.length - (k + 2), by omega, k + 2, l ++ [10], v, g, rfl, hq.next (c := 10) (n := 2) (by unfold markQ; (repeat' split) <;> first | rfl | (exfalso; omega) | (exfalso; simp_all; done) | (exfalso; simp_all; omega)), (by rw [List.length_append]; unfold u8c; rw [List.map_append]; exact hown), ?_⟩; (refine S.keep ?_; repeat (first | exact trivial | refine ⟨rfl, ?_⟩)); done) | (refine ⟨s.length - (k + 2), by omega, k + 2, l ++ [9], v, g, rfl, hq.next (c := 9) (n := 2) (by unfold markQ; (repeat' split) <;> first | rfl | (exfalso; omega) | (exfalso; simp_all; done) | (exfalso; simp_all; omega)), (by rw [List.length_append]; unfold u8c; rw [List.map_append]; exact hown), ?_⟩; (refine S.keep ?_; repeat (first | exact trivial | refine ⟨rfl, ?_⟩)); done) | (have h16 := hexByte (x := (s.drop k).getD 2 0) (y := (s.drop k).getD 3 0) (by omega) (by omega); refine ⟨s.length - (k + 4), by omega, k + 4, l ++ [UInt8.ofNat (16 * (hexI ((s.drop k).getD 2 0)).toNat + (hexI ((s.drop k).getD 3 0)).toNat)], v, g, rfl, hq.next (c := UInt8.ofNat (16 * (hexI ((s.drop k).getD 2 0)).toNat + (hexI ((s.drop k).getD 3 0)).toNat)) (n := 4) (by unfold markQ; (repeat' split) <;> first | rfl | (exfalso; omega) | (exfalso; simp_all; done) | (exfalso; simp_all; omega)), (by rw [List.length_append]; unfold u8c; rw [List.map_append, List.map_cons, ← h16]; exact hown), ?_⟩; (refine S.keep ?_; repeat (first | exact trivial | refine ⟨rfl, ?_⟩)); done))
                              · (skip; (try simp only [decide_eq_true_eq, decide_eq_false_iff_not, beq_iff_eq, bne_iff_ne, bne_eq_false_iff_eq, beq_eq_false_iff_ne, ne_eq, Bool.not_eq_true', Bool.not_eq_false', Bool.not_eq_true, Bool.not_eq_false, Bool.not_true, Bool.not_false, Int.ofNat_lt, Int.ofNat_le, Nat.not_lt, Nat.not_le] at h))
                                (refine wp_seq_k ?_; intro Kq20 hKq20)
                                refine wp_region_lit ?_
                                (refine wpl_v S rfl rfl rfl (sv_build S rfl rfl rfl) ?_; clear S a; intro a S)
                                (refine wpl_storeO S rfl rfl rfl rfl rfl (by rfl) (by simp [Value.cells, Value.oneCell', splice]) (by rfl) ?_; clear S; intro w S)
                                (refine wpl_v S rfl rfl rfl (sv_pure S rfl) ?_; clear S a; intro a S)
                                refine wpList_nil ?_
                                (refine hKq20 _ _ ?_; try (clear hKq20 Kq20))
                                refine wp_ret ?_
                                refine fin_ret S (results2 Tryd.results38 (RV.cellO S rfl (by rfl)) (RV.tmp S rfl)) ?_
                                (have hqm := hq.stop (by unfold markQ; (repeat' split) <;> first | rfl | (exfalso; omega) | (exfalso; simp_all; done) | (exfalso; simp_all; omega)); (first | (refine RT.ok rfl ?_; unfold quotedF; simp only [hd1, hqm, hgd]; (repeat' split) <;> first | exact ⟨_, rfl, by omega⟩ | (exfalso; omega) | (exfalso; simp_all; done) | (exfalso; simp_all; omega)) | (refine RT.bad rfl (by decide) ?_; unfold quotedF; simp only [hd1, hqm, hgd]; (repeat' split) <;> first | rfl | (exfalso; omega) | (exfalso; simp_all; done) | (exfalso; simp_all; omega))))
                            · (intro h; clear S a; intro a S; (try simp only [decide_eq_true_eq, decide_eq_false_iff_not, beq_iff_eq, bne_iff_ne, bne_eq_false_iff_eq, beq_eq_false_iff_ne, ne_eq, Bool.not_eq_true', Bool.not_eq_false', Bool.not_eq_true, Bool.not_eq_false, Bool.not_true, Bool.not_false, Int.ofNat_lt, Int.ofNat_le, Nat.not_lt, Nat.not_le] at h))
                              (refine wpl_skip S rfl rfl rfl rfl rfl ?_; clear S a; intro a S)
                              (refine wpl_skip S rfl rfl rfl rfl rfl ?_; clear S a; intro a S)
                              (refine wpl_skip S rfl rfl rfl rfl rfl ?_; clear S a; intro a S)
                              (refine wpl_skip S rfl rfl rfl rfl rfl ?_; clear S a; intro a S)
                              (refine wpl_skip S rfl rfl rfl rfl rfl ?_; clear S a; intro a S)
                              first | (refine wpl_v S rfl rfl rfl (sv_pure S rfl) ?_; clear S a; intro a S) | (refine wpl_v S rfl rfl rfl (sv_pickB S rfl rfl rfl rfl) ?_; clear S a; intro a S)
                              refine wpList_nil ?_
                              (refine hKq19 _ _ ?_; try (clear hKq19 Kq19))
                              refine wpc_false S rfl ?_
                              (refine wp_seq_k ?_; intro Kq20 hKq20)
                              refine wp_region_lit ?_
                              (refine wpl_v S rfl rfl rfl (sv_build S rfl rfl rfl) ?_; clear S a; intro a S)
                              (refine wpl_storeO S rfl rfl rfl rfl rfl (by rfl) (by simp [Value.cells, Value.oneCell', splice]) (by rfl) ?_; clear S; intro w S)
                              (refine wpl_v S rfl rfl rfl (sv_pure S rfl) ?_; clear S a; intro a S)
                              refine wpList_nil ?_
                              (refine hKq20 _ _ ?_; try (clear hKq20 Kq20))
                              refine wp_ret ?_
                              refine fin_ret S (results2 Tryd.results38 (RV.cellO S rfl (by rfl)) (RV.tmp S rfl)) ?_
                              (have hqm := hq.stop (by unfold markQ; (repeat' split) <;> first | rfl | (exfalso; omega) | (exfalso; simp_all; done) | (exfalso; simp_all; omega)); (first | (refine RT.ok rfl ?_; unfold quotedF; simp only [hd1, hqm, hgd]; (repeat' split) <;> first | exact ⟨_, rfl, by omega⟩ | (exfalso; omega) | (exfalso; simp_all; done) | (exfalso; simp_all; omega)) | (refine RT.bad rfl (by decide) ?_; unfold quotedF; simp only [hd1, hqm, hgd]; (repeat' split) <;> first | rfl | (exfalso; omega) | (exfalso; simp_all; done) | (exfalso; simp_all; omega))))
                          · (intro h; clear S a; intro a S; (try simp only [decide_eq_true_eq, decide_eq_false_iff_not, beq_iff_eq, bne_iff_ne, bne_eq_false_iff_eq, beq_eq_false_iff_ne, ne_eq, Bool.not_eq_true', Bool.not_eq_false', Bool.not_eq_true, Bool.not_eq_false, Bool.not_true, Bool.not_false, Int.ofNat_lt, Int.ofNat_le, Nat.not_lt, Nat.not_le] at h))
                            (refine wpl_skip S rfl rfl rfl rfl rfl ?_; clear S a; intro a S)
                            (refine wpl_skip S rfl rfl rfl rfl rfl ?_; clear S a; intro a S)
                            (refine wpl_skip S rfl rfl rfl rfl rfl ?_; clear S a; intro a S)
                            (refine wpl_skip S rfl rfl rfl rfl rfl ?_; clear S a; intro a S)
                            first | (refine wpl_v S rfl rfl rfl (sv_pure S rfl) ?_; clear S a; intro a S) | (refine wpl_v S rfl rfl rfl (sv_pickB S rfl rfl rfl rfl) ?_; clear S a; intro a S)
                            (refine wpl_v S rfl rfl rfl (sv_pure S rfl) ?_; clear S a; intro a S)
                            (refine wpl_skip S rfl rfl rfl rfl rfl ?_; clear S a; intro a S)
                            (refine wpl_skip S rfl rfl rfl rfl rfl ?_; clear S a; intro a S)
                            (refine wpl_skip S rfl rfl rfl rfl rfl ?_; clear S a; intro a S)
                            (refine wpl_skip S rfl rfl rfl rfl rfl ?_; clear S a; intro a S)
                            (refine wpl_skip S rfl rfl rfl rfl rfl ?_; clear S a; intro a S)
                            (refine wpl_skip S rfl rfl rfl rfl rfl ?_; clear S a; intro a S)
                            first | (refine wpl_v S rfl rfl rfl (sv_pure S rfl) ?_; clear S a; intro a S) | (refine wpl_v S rfl rfl rfl (sv_pickB S rfl rfl rfl rfl) ?_; clear S a; intro a S)
                            refine wpList_nil ?_
                            (refine hKq19 _ _ ?_; try (clear hKq19 Kq19))
                            refine wpc_false S rfl ?_
                            (refine wp_seq_k ?_; intro Kq20 hKq20)
                            refine wp_region_lit ?_
                            (refine wpl_v S rfl rfl rfl (sv_build S rfl rfl rfl) ?_; clear S a; intro a S)
                            (refine wpl_storeO S rfl rfl rfl rfl rfl (by rfl) (by simp [Value.cells, Value.oneCell', splice]) (by rfl) ?_; clear S; intro w S)
                            (refine wpl_v S rfl rfl rfl (sv_pure S rfl) ?_; clear S a; intro a S)
                            refine wpList_nil ?_
                            (refine hKq20 _ _ ?_; try (clear hKq20 Kq20))
                            refine wp_ret ?_
                            refine fin_ret S (results2 Tryd.results38 (RV.cellO S rfl (by rfl)) (RV.tmp S rfl)) ?_
                            (have hqm := hq.stop (by unfold markQ; (repeat' split) <;> first | rfl | (exfalso; omega) | (exfalso; simp_all; done) | (exfalso; simp_all; omega)); (first | (refine RT.ok rfl ?_; unfold quotedF; simp only [hd1, hqm, hgd]; (repeat' split) <;> first | exact ⟨_, rfl, by omega⟩ | (exfalso; omega) | (exfalso; simp_all; done) | (exfalso; simp_all; omega)) | (refine RT.bad rfl (by decide) ?_; unfold quotedF; simp only [hd1, hqm, hgd]; (repeat' split) <;> first | rfl | (exfalso; omega) | (exfalso; simp_all; done) | (exfalso; simp_all; omega))))
                        · (intro h; clear S a; intro a S; (try simp only [decide_eq_true_eq, decide_eq_false_iff_not, beq_iff_eq, bne_iff_ne, bne_eq_false_iff_eq, beq_eq_false_iff_ne, ne_eq, Bool.not_eq_true', Bool.not_eq_false', Bool.not_eq_true, Bool.not_eq_false, Bool.not_true, Bool.not_false, Int.ofNat_lt, Int.ofNat_le, Nat.not_lt, Nat.not_le] at h))
                          (refine wpl_skip S rfl rfl rfl rfl rfl ?_; clear S a; intro a S)
                          (refine wpl_skip S rfl rfl rfl rfl rfl ?_; clear S a; intro a S)
                          (refine wpl_skip S rfl rfl rfl rfl rfl ?_; clear S a; intro a S)
                          (refine wpl_skip S rfl rfl rfl rfl rfl ?_; clear S a; intro a S)
                          first | (refine wpl_v S rfl rfl rfl (sv_pure S rfl) ?_; clear S a; intro a S) | (refine wpl_v S rfl rfl rfl (sv_pickB S rfl rfl rfl rfl) ?_; clear S a; intro a S)
                          (refine wpl_v S rfl rfl rfl (sv_pure S rfl) ?_; clear S a; intro a S)
                          (refine wpl_skip S rfl rfl rfl rfl rfl ?_; clear S a; intro a S)
                          (refine wpl_skip S rfl rfl rfl rfl rfl ?_; clear S a; intro a S)
                          (refine wpl_skip S rfl rfl rfl rfl rfl ?_; clear S a; intro a S)
                          (refine wpl_skip S rfl rfl rfl rfl rfl ?_; clear S a; intro a S)
                          (refine wpl_skip S rfl rfl rfl rfl rfl ?_; clear S a; intro a S)
                          first | (refine wpl_v S rfl rfl rfl (sv_pure S rfl) ?_; clear S a; intro a S) | (refine wpl_v S rfl rfl rfl (sv_pickB S rfl rfl rfl rfl) ?_; clear S a; intro a S)
                          (refine wpl_v S rfl rfl rfl (sv_pure S rfl) ?_; clear S a; intro a S)
                          (refine wpl_skip S rfl rfl rfl rfl rfl ?_; clear S a; intro a S)
                          (refine wpl_skip S rfl rfl rfl rfl rfl ?_; clear S a; intro a S)
                          (refine wpl_skip S rfl rfl rfl rfl rfl ?_; clear S a; intro a S)
                          (refine wpl_skip S rfl rfl rfl rfl rfl ?_; clear S a; intro a S)
                          (refine wpl_skip S rfl rfl rfl rfl rfl ?_; clear S a; intro a S)
                          (refine wpl_skip S rfl rfl rfl rfl rfl ?_; clear S a; intro a S)
                          first | (refine wpl_v S rfl rfl rfl (sv_pure S rfl) ?_; clear S a; intro a S) | (refine wpl_v S rfl rfl rfl (sv_pickB S rfl rfl rfl rfl) ?_; clear S a; intro a S)
                          refine wpList_nil ?_
                          (refine hKq19 _ _ ?_; try (clear hKq19 Kq19))
                          refine wpc_false S rfl ?_
                          (refine wp_seq_k ?_; intro Kq20 hKq20)
                          refine wp_region_lit ?_
                          (refine wpl_v S rfl rfl rfl (sv_build S rfl rfl rfl) ?_; clear S a; intro a S)
                          (refine wpl_storeO S rfl rfl rfl rfl rfl (by rfl) (by simp [Value.cells, Value.oneCell', splice]) (by rfl) ?_; clear S; intro w S)
                          (refine wpl_v S rfl rfl rfl (sv_pure S rfl) ?_; clear S a; intro a S)
                          refine wpList_nil ?_
                          (refine hKq20 _ _ ?_; try (clear hKq20 Kq20))
                          refine wp_ret ?_
                          refine fin_ret S (results2 Tryd.results38 (RV.cellO S rfl (by rfl)) (RV.tmp S rfl)) ?_
                          (have hqm := hq.stop (by unfold markQ; (repeat' split) <;> first | rfl | (exfalso; omega) | (exfalso; simp_all; done) | (exfalso; simp_all; omega)); (first | (refine RT.ok rfl ?_; unfold quotedF; simp only [hd1, hqm, hgd]; (repeat' split) <;> first | exact ⟨_, rfl, by omega⟩ | (exfalso; omega) | (exfalso; simp_all; done) | (exfalso; simp_all; omega)) | (refine RT.bad rfl (by decide) ?_; unfold quotedF; simp only [hd1, hqm, hgd]; (repeat' split) <;> first | rfl | (exfalso; omega) | (exfalso; simp_all; done) | (exfalso; simp_all; omega))))
                · (intro h; clear S a; intro a S; (try simp only [decide_eq_true_eq, decide_eq_false_iff_not, beq_iff_eq, bne_iff_ne, bne_eq_false_iff_eq, beq_eq_false_iff_ne, ne_eq, Bool.not_eq_true', Bool.not_eq_false', Bool.not_eq_true, Bool.not_eq_false, Bool.not_true, Bool.not_false, Int.ofNat_lt, Int.ofNat_le, Nat.not_lt, Nat.not_le] at h))
                  (refine wpl_skip S rfl rfl rfl rfl rfl ?_; clear S a; intro a S)
                  first | (refine wpl_v S rfl rfl rfl (sv_pure S rfl) ?_; clear S a; intro a S) | (refine wpl_v S rfl rfl rfl (sv_pickB S rfl rfl rfl rfl) ?_; clear S a; intro a S)
                  refine wpList_nil ?_
                  (refine hKq16 _ _ ?_; try (clear hKq16 Kq16))
                  refine wpc_true S rfl ?_
                  refine wp_region_lit ?_
                  (refine wpl_v S rfl rfl rfl (sv_pure S rfl) ?_; clear S a; intro a S)
                  (refine wpl_v S rfl rfl rfl (sv_pure S rfl) ?_; clear S a; intro a S)
                  (refine wpl_append S rfl rfl rfl rfl rfl rfl rfl rfl rfl rfl rfl (fun _ => rfl) hown (by rfl) (by simp [Value.cells, splice, splice]) (by simp [Value.cells, Value.oneCell', splice, splice]) rfl (by rfl) (by rfl) rfl (by omega) (by omega) ?_; clear hown S a; intro v u g a w hown S)
                  (refine wpl_v S rfl rfl rfl (sv_pure S rfl) ?_; clear S a; intro a S)
                  refine wpList_nil ?_
                  change ∃ m', _ ∧ _
                  (first | (refine ⟨s.length - (k + 1), by omega, k + 1, l ++ [(s.drop k).getD 0 0], v, g, rfl, hq.next (c := (s.drop k).getD 0 0) (n := 1) (by unfold markQ; (repeat' split) <;> first | rfl | (exfalso; omega) | (exfalso; simp_all; done) | (exfalso; simp_all; omega)), (by rw [List.length_append]; unfold u8c; rw [List.map_append]; exact hown), ?_⟩; (refine S.keep ?_; repeat (first | exact trivial | refine ⟨rfl, ?_⟩)); done) | (refine ⟨s.length - (k + 2), by omega, k + 2, l ++ [(s.drop k).getD 1 0], v, g, rfl, hq.next (c := (s.drop k).getD 1 0) (n := 2) (by unfold markQ; (repeat' split) <;> first | rfl | (exfalso; omega) | (exfalso; simp_all; done) | (exfalso; simp_all; omega)), (by rw [List.length_append]; unfold u8c; rw [List.map_append]; exact hown), ?_⟩; (refine S.keep ?_; repeat (first | exact trivial | refine ⟨rfl, ?_⟩)); done) | (refine ⟨s.length - (k + 2), by omega, k + 2, l ++ [10], v, g, rfl, hq.next (c := 10) (n := 2) (by unfold markQ; (repeat' split) <;> first | rfl | (exfalso; omega) | (exfalso; simp_all; done) | (exfalso; simp_all; omega)), (by rw [List.length_append]; unfold u8c; rw [List.map_append]; exact hown), ?_⟩; (refine S.keep ?_; repeat (first | exact trivial | refine ⟨rfl, ?_⟩)); done) | (refine ⟨s.length - (k + 2), by omega, k + 2, l ++ [9], v, g, rfl, hq.next (c := 9) (n := 2) (by unfold markQ; (repeat' split) <;> first | rfl | (exfalso; omega) | (exfalso; simp_all; done) | (exfalso; simp_all; omega)), (by rw [List.length_append]; unfold u8c; rw [List.map_append]; exact hown), ?_⟩; (refine S.keep ?_; repeat (first | exact trivial | refine ⟨rfl, ?_⟩)); done) | (have h16 := hexByte (x := (s.drop k).getD 2 0) (y := (s.drop k).getD 3 0) (by omega) (by omega); refine ⟨s.length - (k + 4), by omega, k + 4, l ++ [UInt8.ofNat (16 * (hexI ((s.drop k).getD 2 0)).toNat + (hexI ((s.drop k).getD 3 0)).toNat)], v, g, rfl, hq.next (c := UInt8.ofNat (16 * (hexI ((s.drop k).getD 2 0)).toNat + (hexI ((s.drop k).getD 3 0)).toNat)) (n := 4) (by unfold markQ; (repeat' split) <;> first | rfl | (exfalso; omega) | (exfalso; simp_all; done) | (exfalso; simp_all; omega)), (by rw [List.length_append]; unfold u8c; rw [List.map_append, List.map_cons, ← h16]; exact hown), ?_⟩; (refine S.keep ?_; repeat (first | exact trivial | refine ⟨rfl, ?_⟩)); done))
        · (intro h; clear S a; intro a S; (try simp only [decide_eq_true_eq, decide_eq_false_iff_not, beq_iff_eq, bne_iff_ne, bne_eq_false_iff_eq, beq_eq_false_iff_ne, ne_eq, Bool.not_eq_true', Bool.not_eq_false', Bool.not_eq_true, Bool.not_eq_false, Bool.not_true, Bool.not_false, Int.ofNat_lt, Int.ofNat_le, Nat.not_lt, Nat.not_le] at h))
          (refine wpl_skip S rfl rfl rfl rfl rfl ?_; clear S a; intro a S)
          first | (refine wpl_v S rfl rfl rfl (sv_pure S rfl) ?_; clear S a; intro a S) | (refine wpl_v S rfl rfl rfl (sv_pickB S rfl rfl rfl rfl) ?_; clear S a; intro a S)
          refine wpList_nil ?_
          (refine hKq9 _ _ ?_; try (clear hKq9 Kq9))
          refine wpc_true S rfl ?_
          (refine wp_seq_k ?_; intro Kq10 hKq10)
          refine wp_region_lit ?_
          (refine wpl_v S rfl rfl rfl (sv_build S rfl rfl rfl) ?_; clear S a; intro a S)
          (refine wpl_storeO S rfl rfl rfl rfl rfl (by rfl) (by simp [Value.cells, Value.oneCell', splice]) (by rfl) ?_; clear S; intro w S)
          (refine wpl_v S rfl rfl rfl (sv_pure S rfl) ?_; clear S a; intro a S)
          refine wpList_nil ?_
          (refine hKq10 _ _ ?_; try (clear hKq10 Kq10))
          refine wp_ret ?_
          refine fin_ret S (results2 Tryd.results38 (RV.cellO S rfl (by rfl)) (RV.tmp S rfl)) ?_
          (have hqm := hq.stop (by unfold markQ; (repeat' split) <;> first | rfl | (exfalso; omega) | (exfalso; simp_all; done) | (exfalso; simp_all; omega)); (first | (refine RT.ok rfl ?_; unfold quotedF; simp only [hd1, hqm, hgd]; (repeat' split) <;> first | exact ⟨_, rfl, by omega⟩ | (exfalso; omega) | (exfalso; simp_all; done) | (exfalso; simp_all; omega)) | (refine RT.bad rfl (by decide) ?_; unfold quotedF; simp only [hd1, hqm, hgd]; (repeat' split) <;> first | rfl | (exfalso; omega) | (exfalso; simp_all; done) | (exfalso; simp_all; omega))))
      · (skip; (try simp only [decide_eq_true_eq, decide_eq_false_iff_not, beq_iff_eq, bne_iff_ne, bne_eq_false_iff_eq, beq_eq_false_iff_ne, ne_eq, Bool.not_eq_true', Bool.not_eq_false', Bool.not_eq_true, Bool.not_eq_false, Bool.not_true, Bool.not_false, Int.ofNat_lt, Int.ofNat_le, Nat.not_lt, Nat.not_le] at h))
        refine wp_exit ?_
        (refine hKq4 _ _ ?_; try (clear hKq4 Kq4))
        (refine wp_seq_k ?_; intro Kq7 hKq7)
        (refine wp_seq_k ?_; intro Kq8 hKq8)
        refine wp_region_lit ?_
        (refine wpl_v S rfl rfl rfl (sv_pure S rfl) ?_; clear S a; intro a S)
        (refine wpl_v S rfl rfl rfl (sv_pure S rfl) ?_; clear S a; intro a S)
        (refine wpl_v S rfl rfl rfl (sv_lenS S rfl rfl) ?_; clear S a; intro a S)
        (refine wpl_v S rfl rfl rfl (sv_pure S rfl) ?_; clear S a; intro a S)
        refine wpList_nil ?_
        (refine hKq8 _ _ ?_; try (clear hKq8 Kq8))
        refine wpc_split S rfl (fun h => ?_) (fun h => ?_)
        · (skip; (try simp only [decide_eq_true_eq, decide_eq_false_iff_not, beq_iff_eq, bne_iff_ne, bne_eq_false_iff_eq, beq_eq_false_iff_ne, ne_eq, Bool.not_eq_true', Bool.not_eq_false', Bool.not_eq_true, Bool.not_eq_false, Bool.not_true, Bool.not_false, Int.ofNat_lt, Int.ofNat_le, Nat.not_lt, Nat.not_le] at h))
          (refine wp_seq_k ?_; intro Kq9 hKq9)
          refine wp_region_lit ?_
          (refine wpl_v S rfl rfl rfl (sv_build S rfl rfl rfl) ?_; clear S a; intro a S)
          (refine wpl_storeO S rfl rfl rfl rfl rfl (by rfl) (by simp [Value.cells, Value.oneCell', splice]) (by rfl) ?_; clear S; intro w S)
          (refine wpl_v S rfl rfl rfl (sv_pure S rfl) ?_; clear S a; intro a S)
          refine wpList_nil ?_
          (refine hKq9 _ _ ?_; try (clear hKq9 Kq9))
          refine wp_ret ?_
          refine fin_ret S (results2 Tryd.results38 (RV.cellO S rfl (by rfl)) (RV.tmp S rfl)) ?_
          (have hqm := hq.stop (by unfold markQ; (repeat' split) <;> first | rfl | (exfalso; omega) | (exfalso; simp_all; done) | (exfalso; simp_all; omega)); (first | (refine RT.ok rfl ?_; unfold quotedF; simp only [hd1, hqm, hgd]; (repeat' split) <;> first | exact ⟨_, rfl, by omega⟩ | (exfalso; omega) | (exfalso; simp_all; done) | (exfalso; simp_all; omega)) | (refine RT.bad rfl (by decide) ?_; unfold quotedF; simp only [hd1, hqm, hgd]; (repeat' split) <;> first | rfl | (exfalso; omega) | (exfalso; simp_all; done) | (exfalso; simp_all; omega))))
        · (skip; (try simp only [decide_eq_true_eq, decide_eq_false_iff_not, beq_iff_eq, bne_iff_ne, bne_eq_false_iff_eq, beq_eq_false_iff_ne, ne_eq, Bool.not_eq_true', Bool.not_eq_false', Bool.not_eq_true, Bool.not_eq_false, Bool.not_true, Bool.not_false, Int.ofNat_lt, Int.ofNat_le, Nat.not_lt, Nat.not_le] at h))
          refine wp_skip ?_
          (refine hKq7 _ _ ?_; try (clear hKq7 Kq7))
          (refine wp_seq_k ?_; intro Kq9 hKq9)
          (refine wp_seq_k ?_; intro Kq10 hKq10)
          (have hown0 := hown; obtain ⟨vo, vc, rfl, -, -, -⟩ := hown0.at)
          refine wp_region_lit ?_
          (refine wpl_v S rfl rfl rfl (sv_pure S rfl) ?_; clear S a; intro a S)
          (refine wpl_v S rfl rfl rfl (sv_lenSl S rfl rfl) ?_; clear S a; intro a S)
          (refine wpl_v S rfl rfl rfl (sv_pure S rfl) ?_; clear S a; intro a S)
          refine wpList_nil ?_
          (refine hKq10 _ _ ?_; try (clear hKq10 Kq10))
          refine wpc_split S rfl (fun h => ?_) (fun h => ?_)
          · (skip; (try simp only [decide_eq_true_eq, decide_eq_false_iff_not, beq_iff_eq, bne_iff_ne, bne_eq_false_iff_eq, beq_eq_false_iff_ne, ne_eq, Bool.not_eq_true', Bool.not_eq_false', Bool.not_eq_true, Bool.not_eq_false, Bool.not_true, Bool.not_false, Int.ofNat_lt, Int.ofNat_le, Nat.not_lt, Nat.not_le] at h))
            (refine wp_seq_k ?_; intro Kq11 hKq11)
            refine wp_region_lit ?_
            (refine wpl_v S rfl rfl rfl (sv_build S rfl rfl rfl) ?_; clear S a; intro a S)
            (refine wpl_storeO S rfl rfl rfl rfl rfl (by rfl) (by simp [Value.cells, Value.oneCell', splice]) (by rfl) ?_; clear S; intro w S)
            (refine wpl_v S rfl rfl rfl (sv_pure S rfl) ?_; clear S a; intro a S)
            refine wpList_nil ?_
            (refine hKq11 _ _ ?_; try (clear hKq11 Kq11))
            refine wp_ret ?_
            refine fin_ret S (results2 Tryd.results38 (RV.cellO S rfl (by rfl)) (RV.tmp S rfl)) ?_
            (have hqm := hq.stop (by unfold markQ; (repeat' split) <;> first | rfl | (exfalso; omega) | (exfalso; simp_all; done) | (exfalso; simp_all; omega)); (first | (refine RT.ok rfl ?_; unfold quotedF; simp only [hd1, hqm, hgd]; (repeat' split) <;> first | exact ⟨_, rfl, by omega⟩ | (exfalso; omega) | (exfalso; simp_all; done) | (exfalso; simp_all; omega)) | (refine RT.bad rfl (by decide) ?_; unfold quotedF; simp only [hd1, hqm, hgd]; (repeat' split) <;> first | rfl | (exfalso; omega) | (exfalso; simp_all; done) | (exfalso; simp_all; omega))))
          · (skip; (try simp only [decide_eq_true_eq, decide_eq_false_iff_not, beq_iff_eq, bne_iff_ne, bne_eq_false_iff_eq, beq_eq_false_iff_ne, ne_eq, Bool.not_eq_true', Bool.not_eq_false', Bool.not_eq_true, Bool.not_eq_false, Bool.not_true, Bool.not_false, Int.ofNat_lt, Int.ofNat_le, Nat.not_lt, Nat.not_le] at h))
            refine wp_skip ?_
            (refine hKq9 _ _ ?_; try (clear hKq9 Kq9))
            (refine wp_seq_k ?_; intro Kq11 hKq11)
            refine wp_region_lit ?_
            (refine wpl_v S rfl rfl rfl (sv_pure S rfl) ?_; clear S a; intro a S)
            (refine wpl_v S rfl rfl rfl (sv_add S rfl rfl rfl (by first | omega | (simp only [List.length_append, List.length_cons, List.length_nil]; omega))) ?_; clear S a; intro a S)
            (refine wpl_v S rfl rfl rfl (sv_pure S rfl) ?_; clear S a; intro a S)
            (refine wpl_v S rfl rfl rfl (sv_toStr S rfl rfl hown) ?_; clear S a; intro a S)
            (refine wpl_v S rfl rfl rfl (sv_build S rfl rfl rfl) ?_; clear S a; intro a S)
            (refine wpl_storeO S rfl rfl rfl rfl rfl (by rfl) (by simp [Value.cells, Value.oneCell', splice]) (by rfl) ?_; clear S; intro w S)
            (refine wpl_v S rfl rfl rfl (sv_pure S rfl) ?_; clear S a; intro a S)
            refine wpList_nil ?_
            (refine hKq11 _ _ ?_; try (clear hKq11 Kq11))
            refine wp_ret ?_
            refine fin_ret S (results2 Tryd.results38 (RV.cellO S rfl (by rfl)) (RV.tmp S rfl)) ?_
            (have hqm := hq.stop (by unfold markQ; (repeat' split) <;> first | rfl | (exfalso; omega) | (exfalso; simp_all; done) | (exfalso; simp_all; omega)); (first | (refine RT.ok rfl ?_; unfold quotedF; simp only [hd1, hqm, hgd]; (repeat' split) <;> first | exact ⟨_, rfl, by omega⟩ | (exfalso; omega) | (exfalso; simp_all; done) | (exfalso; simp_all; omega)) | (refine RT.bad rfl (by decide) ?_; unfold quotedF; simp only [hd1, hqm, hgd]; (repeat' split) <;> first | rfl | (exfalso; omega) | (exfalso; simp_all; done) | (exfalso; simp_all; omega))))
    · (intro h; clear S a; intro a S; (try simp only [decide_eq_true_eq, decide_eq_false_iff_not, beq_iff_eq, bne_iff_ne, bne_eq_false_iff_eq, beq_eq_false_iff_ne, ne_eq, Bool.not_eq_true', Bool.not_eq_false', Bool.not_eq_true, Bool.not_eq_false, Bool.not_true, Bool.not_false, Int.ofNat_lt, Int.ofNat_le, Nat.not_lt, Nat.not_le] at h))
      (refine wpl_skip S rfl rfl rfl rfl rfl ?_; clear S a; intro a S)
      (refine wpl_skip S rfl rfl rfl rfl rfl ?_; clear S a; intro a S)
      (refine wpl_skip S rfl rfl rfl rfl rfl ?_; clear S a; intro a S)
      first | (refine wpl_v S rfl rfl rfl (sv_pure S rfl) ?_; clear S a; intro a S) | (refine wpl_v S rfl rfl rfl (sv_pickB S rfl rfl rfl rfl) ?_; clear S a; intro a S)
      refine wpList_nil ?_
      (refine hKq6 _ _ ?_; try (clear hKq6 Kq6))
      refine wpc_false S rfl ?_
      refine wp_exit ?_
      (refine hKq4 _ _ ?_; try (clear hKq4 Kq4))
      (refine wp_seq_k ?_; intro Kq7 hKq7)
      (refine wp_seq_k ?_; intro Kq8 hKq8)
      refine wp_region_lit ?_
      (refine wpl_v S rfl rfl rfl (sv_pure S rfl) ?_; clear S a; intro a S)
      (refine wpl_v S rfl rfl rfl (sv_pure S rfl) ?_; clear S a; intro a S)
      (refine wpl_v S rfl rfl rfl (sv_lenS S rfl rfl) ?_; clear S a; intro a S)
      (refine wpl_v S rfl rfl rfl (sv_pure S rfl) ?_; clear S a; intro a S)
      refine wpList_nil ?_
      (refine hKq8 _ _ ?_; try (clear hKq8 Kq8))
      refine wpc_split S rfl (fun h => ?_) (fun h => ?_)
      · (skip; (try simp only [decide_eq_true_eq, decide_eq_false_iff_not, beq_iff_eq, bne_iff_ne, bne_eq_false_iff_eq, beq_eq_false_iff_ne, ne_eq, Bool.not_eq_true', Bool.not_eq_false', Bool.not_eq_true, Bool.not_eq_false, Bool.not_true, Bool.not_false, Int.ofNat_lt, Int.ofNat_le, Nat.not_lt, Nat.not_le] at h))
        (refine wp_seq_k ?_; intro Kq9 hKq9)
        refine wp_region_lit ?_
        (refine wpl_v S rfl rfl rfl (sv_build S rfl rfl rfl) ?_; clear S a; intro a S)
        (refine wpl_storeO S rfl rfl rfl rfl rfl (by rfl) (by simp [Value.cells, Value.oneCell', splice]) (by rfl) ?_; clear S; intro w S)
        (refine wpl_v S rfl rfl rfl (sv_pure S rfl) ?_; clear S a; intro a S)
        refine wpList_nil ?_
        (refine hKq9 _ _ ?_; try (clear hKq9 Kq9))
        refine wp_ret ?_
        refine fin_ret S (results2 Tryd.results38 (RV.cellO S rfl (by rfl)) (RV.tmp S rfl)) ?_
        (have hqm := hq.stop (by unfold markQ; (repeat' split) <;> first | rfl | (exfalso; omega) | (exfalso; simp_all; done) | (exfalso; simp_all; omega)); (first | (refine RT.ok rfl ?_; unfold quotedF; simp only [hd1, hqm, hgd]; (repeat' split) <;> first | exact ⟨_, rfl, by omega⟩ | (exfalso; omega) | (exfalso; simp_all; done) | (exfalso; simp_all; omega)) | (refine RT.bad rfl (by decide) ?_; unfold quotedF; simp only [hd1, hqm, hgd]; (repeat' split) <;> first | rfl | (exfalso; omega) | (exfalso; simp_all; done) | (exfalso; simp_all; omega))))
      · (skip; (try simp only [decide_eq_true_eq, decide_eq_false_iff_not, beq_iff_eq, bne_iff_ne, bne_eq_false_iff_eq, beq_eq_false_iff_ne, ne_eq, Bool.not_eq_true', Bool.not_eq_false', Bool.not_eq_true, Bool.not_eq_false, Bool.not_true, Bool.not_false, Int.ofNat_lt, Int.ofNat_le, Nat.not_lt, Nat.not_le] at h))
        refine wp_skip ?_
        (refine hKq7 _ _ ?_; try (clear hKq7 Kq7))
        (refine wp_seq_k ?_; intro Kq9 hKq9)
        (refine wp_seq_k ?_; intro Kq10 hKq10)
        (have hown0 := hown; obtain ⟨vo, vc, rfl, -, -, -⟩ := hown0.at)
        refine wp_region_lit ?_
        (refine wpl_v S rfl rfl rfl (sv_pure S rfl) ?_; clear S a; intro a S)
        (refine wpl_v S rfl rfl rfl (sv_lenSl S rfl rfl) ?_; clear S a; intro a S)
        (refine wpl_v S rfl rfl rfl (sv_pure S rfl) ?_; clear S a; intro a S)
        refine wpList_nil ?_
        (refine hKq10 _ _ ?_; try (clear hKq10 Kq10))
        refine wpc_split S rfl (fun h => ?_) (fun h => ?_)
        · (skip; (try simp only [decide_eq_true_eq, decide_eq_false_iff_not, beq_iff_eq, bne_iff_ne, bne_eq_false_iff_eq, beq_eq_false_iff_ne, ne_eq, Bool.not_eq_true', Bool.not_eq_false', Bool.not_eq_true, Bool.not_eq_false, Bool.not_true, Bool.not_false, Int.ofNat_lt, Int.ofNat_le, Nat.not_lt, Nat.not_le] at h))
          (refine wp_seq_k ?_; intro Kq11 hKq11)
          refine wp_region_lit ?_
          (refine wpl_v S rfl rfl rfl (sv_build S rfl rfl rfl) ?_; clear S a; intro a S)
          (refine wpl_storeO S rfl rfl rfl rfl rfl (by rfl) (by simp [Value.cells, Value.oneCell', splice]) (by rfl) ?_; clear S; intro w S)
          (refine wpl_v S rfl rfl rfl (sv_pure S rfl) ?_; clear S a; intro a S)
          refine wpList_nil ?_
          (refine hKq11 _ _ ?_; try (clear hKq11 Kq11))
          refine wp_ret ?_
          refine fin_ret S (results2 Tryd.results38 (RV.cellO S rfl (by rfl)) (RV.tmp S rfl)) ?_
          (have hqm := hq.stop (by unfold markQ; (repeat' split) <;> first | rfl | (exfalso; omega) | (exfalso; simp_all; done) | (exfalso; simp_all; omega)); (first | (refine RT.ok rfl ?_; unfold quotedF; simp only [hd1, hqm, hgd]; (repeat' split) <;> first | exact ⟨_, rfl, by omega⟩ | (exfalso; omega) | (exfalso; simp_all; done) | (exfalso; simp_all; omega)) | (refine RT.bad rfl (by decide) ?_; unfold quotedF; simp only [hd1, hqm, hgd]; (repeat' split) <;> first | rfl | (exfalso; omega) | (exfalso; simp_all; done) | (exfalso; simp_all; omega))))
        · (skip; (try simp only [decide_eq_true_eq, decide_eq_false_iff_not, beq_iff_eq, bne_iff_ne, bne_eq_false_iff_eq, beq_eq_false_iff_ne, ne_eq, Bool.not_eq_true', Bool.not_eq_false', Bool.not_eq_true, Bool.not_eq_false, Bool.not_true, Bool.not_false, Int.ofNat_lt, Int.ofNat_le, Nat.not_lt, Nat.not_le] at h))
          refine wp_skip ?_
          (refine hKq9 _ _ ?_; try (clear hKq9 Kq9))
          (refine wp_seq_k ?_; intro Kq11 hKq11)
          refine wp_region_lit ?_
          (refine wpl_v S rfl rfl rfl (sv_pure S rfl) ?_; clear S a; intro a S)
          (refine wpl_v S rfl rfl rfl (sv_add S rfl rfl rfl (by first | omega | (simp only [List.length_append, List.length_cons, List.length_nil]; omega))) ?_; clear S a; intro a S)
          (refine wpl_v S rfl rfl rfl (sv_pure S rfl) ?_; clear S a; intro a S)
          (refine wpl_v S rfl rfl rfl (sv_toStr S rfl rfl hown) ?_; clear S a; intro a S)
          (refine wpl_v S rfl rfl rfl (sv_build S rfl rfl rfl) ?_; clear S a; intro a S)
          (refine wpl_storeO S rfl rfl rfl rfl rfl (by rfl) (by simp [Value.cells, Value.oneCell', splice]) (by rfl) ?_; clear S; intro w S)
          (refine wpl_v S rfl rfl rfl (sv_pure S rfl) ?_; clear S a; intro a S)
          refine wpList_nil ?_
          (refine hKq11 _ _ ?_; try (clear hKq11 Kq11))
          refine wp_ret ?_
          refine fin_ret S (results2 Tryd.results38 (RV.cellO S rfl (by rfl)) (RV.tmp S rfl)) ?_
          (have hqm := hq.stop (by unfold markQ; (repeat' split) <;> first | rfl | (exfalso; omega) | (exfalso; simp_all; done) | (exfalso; simp_all; omega)); (first | (refine RT.ok rfl ?_; unfold quotedF; simp only [hd1, hqm, hgd]; (repeat' split) <;> first | exact ⟨_, rfl, by omega⟩ | (exfalso; omega) | (exfalso; simp_all; done) | (exfalso; simp_all; omega)) | (refine RT.bad rfl (by decide) ?_; unfold quotedF; simp only [hd1, hqm, hgd]; (repeat' split) <;> first | rfl | (exfalso; omega) | (exfalso; simp_all; done) | (exfalso; simp_all; omega))))
end Go.Proofs.YtpgnmnacfilnkaaDoor
