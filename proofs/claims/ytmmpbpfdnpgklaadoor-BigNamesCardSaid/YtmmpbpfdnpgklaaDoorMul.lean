/- The walk of Mul of package big. -/
import Derived.Test.YtmmpbpfdnpgklaaDoorOps
namespace Go.Proofs.YtmmpbpfdnpgklaaDoor
open Go Go.Wk Go.Num
set_option linter.unusedSimpArgs false
set_option linter.unusedVariables false
attribute [local irreducible] Go.wpList Go.Code.wp Go.wpStill Go.Wk.wpPre Go.bodyPost Go.Calls Go.Wk.Ct Go.Wk.OwnS
attribute [local irreducible] Go.Wk.wpG

def mulA (s t : List UInt8) : List UInt8 × Int := if bothE s t = 0 then showS (negS s != negS t) (decV (bodyS s) * decV (bodyS t)) else ([], bothE s t)
theorem lt_pow_mul {b A C la lc : Nat} (h1 : A < b ^ la) (h2 : C < b ^ lc) : A * C < b ^ (la + lc) := by
  rw [Nat.pow_add]
  rcases Nat.eq_zero_or_pos C with e | e
  · subst e
    rw [Nat.mul_zero]
    exact Nat.mul_pos (by omega) h2
  · exact Nat.mul_lt_mul_of_lt_of_le h1 (Nat.le_of_lt h2) (Nat.lt_of_le_of_lt (Nat.zero_le _) h2)
/-- Behind i rows. -/
def rowsT (A C i : Nat) : Nat := A % 1000000000 ^ i * C
theorem rows_zero (A C : Nat) : rowsT A C 0 = 0 := by simp [rowsT, Nat.mod_one]
theorem rows_step (A C i : Nat) : rowsT A C (i + 1) = rowsT A C i + dig 1000000000 A i * C * 1000000000 ^ i := by
  unfold rowsT
  rw [mod_succ, Nat.add_mul]
  congr 1
  simp only [Nat.mul_comm, Nat.mul_left_comm, Nat.mul_assoc]
theorem rows_full {A C i : Nat} (h : A < 1000000000 ^ i) : rowsT A C i = A * C := by unfold rowsT; rw [Nat.mod_eq_of_lt h]

theorem own_low {e : TypeId} {v : Value} {K i : Nat} {f g : Nat → Nat} {gr : Grp} (h : OwnS e 1 v K (cel K g) gr) (hj : ∀ j, j < i → f j = g j) : OwnS e 1 v K (mixL K i f g) gr := by
  have : mixL K i f g = cel K g := by
    unfold mixL cel
    refine List.map_congr_left fun j _ => ?_
    by_cases hl : j < i
    · rw [if_pos hl, hj j hl]
    · rw [if_neg hl]
  rw [this]; exact h
set_option maxHeartbeats 2000000 in
theorem mulErr (s t : List UInt8) (F : Heap) (hs : s.length ≤ 1000000) (ht : t.length ≤ 1000000) (hbe : ¬ bothE s t = 0) : Ct Tryd.prog 12 [.string (bs s), .string (bs t)] F [] (fun _ _ u => u = ansV (mulA s t)) := by
  refine Ct.enter Tryd.func12 rfl Tryd.ntmps12 rfl fun w0 a S => ?_
  (refine wp_seq_k ?_; intro Kq1 hKq1)
  refine wp_region_lit ?_
  (refine wpl_v S rfl rfl rfl (sv_pure S rfl) ?_; clear S a; intro a S)
  (refine wpl_v S rfl rfl rfl (sv_pure S rfl) ?_; clear S a; intro a S)
  refine wpList_nil ?_
  (refine hKq1 _ _ ?_; try (clear hKq1 Kq1))
  (refine wp_seq_k ?_; intro Kq2 hKq2)
  refine wp_region_lit ?_
  (refine wpl_v S rfl rfl rfl (sv_pure S rfl) ?_; clear S a; intro a S)
  (refine wpl_v S rfl rfl rfl (sv_pure S rfl) ?_; clear S a; intro a S)
  (refine wpl_callF S rfl rfl rfl rfl rfl rfl (bothCt s t F (by omega) (by omega)) rfl ?_; clear S a; intro v F1 a w hv hF1 S; rw [BothV, if_neg hbe] at hv; subst hv)
  (refine wpl_v S rfl rfl rfl (sv_pure S rfl) ?_; clear S a; intro a S)
  (refine wpl_v S rfl rfl rfl (sv_pure S rfl) ?_; clear S a; intro a S)
  (refine wpl_v S rfl rfl rfl (sv_pure S rfl) ?_; clear S a; intro a S)
  (refine wpl_v S rfl rfl rfl (sv_pure S rfl) ?_; clear S a; intro a S)
  (refine wpl_alloc S rfl rfl rfl rfl ?_; clear S a; intro b6 a w S)
  (refine wpl_alloc S rfl rfl rfl rfl ?_; clear S a; intro b7 a w S)
  (refine wpl_storeO S rfl rfl rfl rfl rfl (by rfl) (by simp [Value.cells, Value.oneCell', splice]) (by rfl) ?_; clear S; intro w S)
  (refine wpl_storeO S rfl rfl rfl rfl rfl (by rfl) (by simp [Value.cells, Value.oneCell', splice]) (by rfl) ?_; clear S; intro w S)
  (refine wpl_v S rfl rfl rfl (sv_pure S rfl) ?_; clear S a; intro a S)
  refine wpList_nil ?_
  (refine hKq2 _ _ ?_; try (clear hKq2 Kq2))
  (refine wp_seq_k ?_; intro Kq3 hKq3)
  (refine wp_seq_k ?_; intro Kq4 hKq4)
  refine wp_region_lit ?_
  (refine wpl_v S rfl rfl rfl (sv_pure S rfl) ?_; clear S a; intro a S)
  (refine wpl_v S rfl rfl rfl (sv_pure S rfl) ?_; clear S a; intro a S)
  refine wpList_nil ?_
  (refine hKq4 _ _ ?_; try (clear hKq4 Kq4))
  refine wpc_split S rfl (fun h => ?_) (fun h => ?_)
  · (skip; (try simp only [decide_eq_true_eq, decide_eq_false_iff_not, beq_iff_eq, bne_iff_ne, bne_eq_false_iff_eq, beq_eq_false_iff_ne, ne_eq, Bool.not_eq_true', Bool.not_eq_false', Bool.not_eq_true, Bool.not_eq_false, Bool.not_true, Bool.not_false, Int.ofNat_lt, Int.ofNat_le, Nat.not_lt, Nat.not_le] at h))
    (refine wp_seq_k ?_; intro Kq5 hKq5)
    refine wp_region_lit ?_
    (refine wpl_v S rfl rfl rfl (sv_pure S rfl) ?_; clear S a; intro a S)
    (refine wpl_v S rfl rfl rfl (sv_pure S rfl) ?_; clear S a; intro a S)
    (refine wpl_v S rfl rfl rfl (sv_pure S rfl) ?_; clear S a; intro a S)
    refine wpList_nil ?_
    (refine hKq5 _ _ ?_; try (clear hKq5 Kq5))
    refine wp_ret ?_
    refine fin_ret S (results2 Tryd.results12 (RV.tmp S rfl) (RV.tmp S rfl)) ?_
    (rw [show mulA s t = ([], bothE s t) from (by unfold mulA; rw [if_neg hbe])]; rfl)
  · (skip; (try simp only [decide_eq_true_eq, decide_eq_false_iff_not, beq_iff_eq, bne_iff_ne, bne_eq_false_iff_eq, beq_eq_false_iff_ne, ne_eq, Bool.not_eq_true', Bool.not_eq_false', Bool.not_eq_true, Bool.not_eq_false, Bool.not_true, Bool.not_false, Int.ofNat_lt, Int.ofNat_le, Nat.not_lt, Nat.not_le] at h); exact absurd h hbe)
set_option maxHeartbeats 4000000 in
theorem mulOk (s t : List UInt8) (F : Heap) (hT : TabF F) (hs : s.length ≤ 1000000) (ht : t.length ≤ 1000000) (hbe : bothE s t = 0) : Ct Tryd.prog 12 [.string (bs s), .string (bs t)] F [] (fun _ _ u => u = ansV (mulA s t)) := by
  have hn1 := nd_num (both_ok hbe).1
  have hn2 := nd_num (both_ok hbe).2
  rw [show mulA s t = showS (negS s != negS t) (decV (bodyS s) * decV (bodyS t)) from (by unfold mulA; rw [if_pos hbe])]
  have hbt := bothCt s t F (by omega) (by omega)
  simp only [BothV, if_pos hbe] at hbt
  generalize hA : decV (bodyS s) = A at *
  generalize hC : decV (bodyS t) = C at *
  have hlt := lt_pow_mul (lt_nd b2 A) (lt_nd b2 C)
  have hmn := nd_le hlt b2
  refine Ct.enter Tryd.func12 rfl Tryd.ntmps12 rfl fun w0 a S => ?_
  (refine wp_seq_k ?_; intro Kq1 hKq1)
  refine wp_region_lit ?_
  (refine wpl_v S rfl rfl rfl (sv_pure S rfl) ?_; clear S a; intro a S)
  (refine wpl_v S rfl rfl rfl (sv_pure S rfl) ?_; clear S a; intro a S)
  refine wpList_nil ?_
  (refine hKq1 _ _ ?_; try (clear hKq1 Kq1))
  (refine wp_seq_k ?_; intro Kq2 hKq2)
  refine wp_region_lit ?_
  (refine wpl_v S rfl rfl rfl (sv_pure S rfl) ?_; clear S a; intro a S)
  (refine wpl_v S rfl rfl rfl (sv_pure S rfl) ?_; clear S a; intro a S)
  (refine wpl_callF S rfl rfl rfl rfl rfl rfl (hbt) rfl ?_; clear S a; intro v F1 a w hv hF1 S; obtain ⟨p, q, rfl, hp, hq⟩ := hv; have hp0 := hp; have hq0 := hq; obtain ⟨po, pc, rfl, hpc, hpp⟩ := hp0; obtain ⟨qo, qc, rfl, hqc, hqp⟩ := hq0)
  (refine wpl_v S rfl rfl rfl (sv_pure S rfl) ?_; clear S a; intro a S)
  (refine wpl_v S rfl rfl rfl (sv_pure S rfl) ?_; clear S a; intro a S)
  (refine wpl_v S rfl rfl rfl (sv_pure S rfl) ?_; clear S a; intro a S)
  (refine wpl_v S rfl rfl rfl (sv_pure S rfl) ?_; clear S a; intro a S)
  (refine wpl_alloc S rfl rfl rfl rfl ?_; clear S a; intro b6 a w S)
  (refine wpl_alloc S rfl rfl rfl rfl ?_; clear S a; intro b7 a w S)
  (refine wpl_storeO S rfl rfl rfl rfl rfl (by rfl) (by simp [Value.cells, Value.oneCell', splice]) (by rfl) ?_; clear S; intro w S)
  (refine wpl_storeO S rfl rfl rfl rfl rfl (by rfl) (by simp [Value.cells, Value.oneCell', splice]) (by rfl) ?_; clear S; intro w S)
  (refine wpl_v S rfl rfl rfl (sv_pure S rfl) ?_; clear S a; intro a S)
  refine wpList_nil ?_
  (refine hKq2 _ _ ?_; try (clear hKq2 Kq2))
  (refine wp_seq_k ?_; intro Kq3 hKq3)
  (refine wp_seq_k ?_; intro Kq4 hKq4)
  refine wp_region_lit ?_
  (refine wpl_v S rfl rfl rfl (sv_pure S rfl) ?_; clear S a; intro a S)
  (refine wpl_v S rfl rfl rfl (sv_pure S rfl) ?_; clear S a; intro a S)
  refine wpList_nil ?_
  (refine hKq4 _ _ ?_; try (clear hKq4 Kq4))
  refine wpc_split S rfl (fun h => ?_) (fun h => ?_)
  · (skip; (try simp only [decide_eq_true_eq, decide_eq_false_iff_not, beq_iff_eq, bne_iff_ne, bne_eq_false_iff_eq, beq_eq_false_iff_ne, ne_eq, Bool.not_eq_true', Bool.not_eq_false', Bool.not_eq_true, Bool.not_eq_false, Bool.not_true, Bool.not_false, Int.ofNat_lt, Int.ofNat_le, Nat.not_lt, Nat.not_le] at h); exact absurd trivial h)
  · (skip; (try simp only [decide_eq_true_eq, decide_eq_false_iff_not, beq_iff_eq, bne_iff_ne, bne_eq_false_iff_eq, beq_eq_false_iff_ne, ne_eq, Bool.not_eq_true', Bool.not_eq_false', Bool.not_eq_true, Bool.not_eq_false, Bool.not_true, Bool.not_false, Int.ofNat_lt, Int.ofNat_le, Nat.not_lt, Nat.not_le] at h))
    refine wp_skip ?_
    (refine hKq3 _ _ ?_; try (clear hKq3 Kq3))
    (refine wp_seq_k ?_; intro Kq5 hKq5)
    refine wp_region_lit ?_
    (refine wpl_v S rfl rfl rfl (sv_fieldAddr S rfl rfl rfl inferInstance rfl) ?_; clear S a; intro a S)
    first | (refine wpl_v S rfl rfl rfl (sv_loadO S rfl rfl (by rfl)) ?_; clear S a; intro a S) | (refine wpl_v S rfl rfl rfl (sv_loadF S rfl rfl (by assumption)) ?_; clear S a; intro a S)
    (refine wpl_v S rfl rfl rfl (sv_lenSl S rfl rfl) ?_; clear S a; intro a S)
    (refine wpl_v S rfl rfl rfl (sv_fieldAddr S rfl rfl rfl inferInstance rfl) ?_; clear S a; intro a S)
    first | (refine wpl_v S rfl rfl rfl (sv_loadO S rfl rfl (by rfl)) ?_; clear S a; intro a S) | (refine wpl_v S rfl rfl rfl (sv_loadF S rfl rfl (by assumption)) ?_; clear S a; intro a S)
    (refine wpl_v S rfl rfl rfl (sv_lenSl S rfl rfl) ?_; clear S a; intro a S)
    (refine wpl_v S rfl rfl rfl (sv_add S rfl rfl rfl (by first | omega | (simp only [List.length_append, List.length_cons, List.length_nil]; omega))) ?_; clear S a; intro a S)
    (refine wpl_makeSlice (q := nd 1000000000 A + nd 1000000000 C) S rfl rfl rfl rfl rfl rfl rfl (by omega) (by omega) ?_; clear S a; intro b a w hown S; generalize hK : nd 1000000000 A + nd 1000000000 C = K at S hown hlt hmn; generalize hKA : nd 1000000000 A = KA at *; generalize hKC : nd 1000000000 C = KC at *)
    (refine wpl_v S rfl rfl rfl (sv_pure S rfl) ?_; clear S a; intro a S)
    refine wpList_nil ?_
    (refine hKq5 _ _ ?_; try (clear hKq5 Kq5))
    (refine wp_seq_k ?_; intro Kq6 hKq6)
    (refine wp_seq_k ?_; intro Kq7 hKq7)
    refine wp_region_lit ?_
    (refine wpl_v S rfl rfl rfl (sv_fieldAddr S rfl rfl rfl inferInstance rfl) ?_; clear S a; intro a S)
    first | (refine wpl_v S rfl rfl rfl (sv_loadO S rfl rfl (by rfl)) ?_; clear S a; intro a S) | (refine wpl_v S rfl rfl rfl (sv_loadF S rfl rfl (by assumption)) ?_; clear S a; intro a S)
    (refine wpl_v S rfl rfl rfl (sv_lenSl S rfl rfl) ?_; clear S a; intro a S)
    (refine wpl_v S rfl rfl rfl (sv_pure S rfl) ?_; clear S a; intro a S)
    refine wpList_nil ?_
    (refine hKq7 _ _ ?_; try (clear hKq7 Kq7))
    refine wp_block ?_
    refine wpc_loop (fun m a w' => ∃ (i : Nat) (g : Grp), m = KA - i ∧ i ≤ KA ∧ OwnS 2 1 (.slice (some ⟨b, 0, none⟩) K K) K (cel K (dig 1000000000 (rowsT A C i))) g ∧ St 91 [(6, .pointer (some ⟨b6, 0, none⟩)), (7, .pointer (some ⟨b7, 0, none⟩)), (9, .slice (some ⟨b, 0, none⟩) K K), (34, .slice po KA pc), (35, .int .i64 KA), (36, .int .i64 i)] w0 F [] F1 [g, [(b7, .cells ⟨[.bool (negS t), .slice qo KC qc]⟩ 49 (0, 0))], [(b6, .cells ⟨[.bool (negS s), .slice po KA pc]⟩ 49 (0, 0))]] a w') ?_ ?_
    · (refine ⟨KA, 0, _, rfl, Nat.zero_le _, (by rw [rows_zero, show dig 1000000000 0 = (fun _ => 0) from funext fun j => (by simp [dig]), ← replicate_cel]; exact hown), ?_⟩; refine S.keep ?_; repeat (first | exact trivial | refine ⟨rfl, ?_⟩))
    · (clear hown S; rintro m a w ⟨i, g, rfl, hi, hown, S⟩)
      (refine wp_seq_k ?_; intro Kq8 hKq8)
      refine wp_region_lit ?_
      (refine wpl_v S rfl rfl rfl (sv_pure S rfl) ?_; clear S a; intro a S)
      refine wpList_nil ?_
      (refine hKq8 _ _ ?_; try (clear hKq8 Kq8))
      (refine wp_seq_k ?_; intro Kq9 hKq9)
      refine wpc_split S rfl (fun h => ?_) (fun h => ?_)
      · (skip; (try simp only [decide_eq_true_eq, decide_eq_false_iff_not, beq_iff_eq, bne_iff_ne, bne_eq_false_iff_eq, beq_eq_false_iff_ne, ne_eq, Bool.not_eq_true', Bool.not_eq_false', Bool.not_eq_true, Bool.not_eq_false, Bool.not_true, Bool.not_false, Int.ofNat_lt, Int.ofNat_le, Nat.not_lt, Nat.not_le] at h))
        refine wp_skip ?_
        (refine hKq9 _ _ ?_; try (clear hKq9 Kq9))
        (refine wp_seq_k ?_; intro Kq10 hKq10)
        refine wp_block ?_
        (refine wp_seq_k ?_; intro Kq11 hKq11)
        (obtain ⟨ba, offa, rfl, hcsa⟩ := hpp (by omega); have hce := celN hcsa (j := i) (by omega))
        refine wp_region_lit ?_
        (refine wpl_v S rfl rfl rfl (sv_pure S rfl) ?_; clear S a; intro a S)
        (refine wpl_v S rfl rfl rfl (sv_indexAddrSl S rfl rfl rfl (by first | omega | (simp only [List.length_append, List.length_cons, List.length_nil]; omega))) ?_; clear S a; intro a S)
        first | (refine wpl_v S rfl rfl rfl (sv_loadO S rfl rfl (by rfl)) ?_; clear S a; intro a S) | (refine wpl_v S rfl rfl rfl (sv_loadF S rfl rfl (by assumption)) ?_; clear S a; intro a S)
        (refine wpl_v S rfl rfl rfl (sv_pure S rfl) ?_; clear S a; intro a S)
        (refine wpl_v S rfl rfl rfl (sv_pure S rfl) ?_; clear S a; intro a S)
        refine wpList_nil ?_
        (refine hKq11 _ _ ?_; try (clear hKq11 Kq11))
        (refine wp_seq_k ?_; intro Kq12 hKq12)
        refine wp_region_lit ?_
        (refine wpl_v S rfl rfl rfl (sv_pure S rfl) ?_; clear S a; intro a S)
        refine wpList_nil ?_
        (refine hKq12 _ _ ?_; try (clear hKq12 Kq12))
        (refine wp_seq_k ?_; intro Kq13 hKq13)
        refine wp_region_lit ?_
        (refine wpl_v S rfl rfl rfl (sv_pure S rfl) ?_; clear S a; intro a S)
        (refine wpl_v S rfl rfl rfl (sv_pure S rfl) ?_; clear S a; intro a S)
        refine wpList_nil ?_
        (refine hKq13 _ _ ?_; try (clear hKq13 Kq13))
        refine wp_block ?_
        refine wpc_loop (fun m a w' => ∃ (k : Nat) (g : Grp), m = K - k ∧ i ≤ k ∧ k ≤ K ∧ OwnS 2 1 (.slice (some ⟨b, 0, none⟩) K K) K (mixL K k (dig 1000000000 (rowsT A C i + dig 1000000000 A i * C * 1000000000 ^ i)) (dig 1000000000 (rowsT A C i))) g ∧ St 91 [(6, .pointer (some ⟨b6, 0, none⟩)), (7, .pointer (some ⟨b7, 0, none⟩)), (9, .slice (some ⟨b, 0, none⟩) K K), (34, .slice (some ⟨ba, offa, none⟩) KA pc), (35, .int .i64 KA), (36, .int .i64 i), (10, .int .i64 i), (11, .int .i64 ((dig 1000000000 A i : Nat) : Int)), (12, .int .i64 ((cyM 1000000000 (rowsT A C i) (dig 1000000000 A i) C i k : Nat) : Int)), (13, .int .i64 k)] w0 F [] F1 [g, [(b7, .cells ⟨[.bool (negS t), .slice qo KC qc]⟩ 49 (0, 0))], [(b6, .cells ⟨[.bool (negS s), .slice (some ⟨ba, offa, none⟩) KA pc]⟩ 49 (0, 0))]] a w') ?_ ?_
        · (refine ⟨K - i, i, g, rfl, Nat.le_refl _, by omega, ?_, ?_⟩; rotate_left 1; (rw [cyM_start b2]; refine S.keep ?_; repeat (first | exact trivial | refine ⟨rfl, ?_⟩)); refine own_low hown fun j hj => (dig_row_low b2 hj))
        · (clear hown S; rintro m a w ⟨k, g, rfl, hik, hkK, hown, S⟩; have hcy := cyM_le (b := 1000000000) (T := rowsT A C i) (p := dig 1000000000 A i) (B := C) b2 hik (dig_lt b2 A i); have hdT := dig_lt b2 (rowsT A C i) k; have hdC := dig_lt b2 C (k - i); have hdA := dig_lt b2 A i; have hdm : dig 1000000000 A i * dig 1000000000 C (k - i) ≤ 999999999 * 999999999 := Nat.mul_le_mul (by omega) (by omega); have hzC : KC ≤ k - i → dig 1000000000 C (k - i) = 0 := fun h => dig_zero (lt_nd b2 C) (by omega) b2)
          (refine wp_seq_k ?_; intro Kq14 hKq14)
          (refine wp_seq_k ?_; intro Kq15 hKq15)
          refine wp_region_lit ?_
          (refine wpl_v S rfl rfl rfl (sv_pure S rfl) ?_; clear S a; intro a S)
          (refine wpl_v S rfl rfl rfl (sv_pure S rfl) ?_; clear S a; intro a S)
          (refine wpl_v S rfl rfl rfl (sv_lenSl S rfl rfl) ?_; clear S a; intro a S)
          (refine wpl_v S rfl rfl rfl (sv_pure S rfl) ?_; clear S a; intro a S)
          refine wpList_nil ?_
          (refine hKq15 _ _ ?_; try (clear hKq15 Kq15))
          refine wpc_split S rfl (fun h => ?_) (fun h => ?_)
          · (skip; (try simp only [decide_eq_true_eq, decide_eq_false_iff_not, beq_iff_eq, bne_iff_ne, bne_eq_false_iff_eq, beq_eq_false_iff_ne, ne_eq, Bool.not_eq_true', Bool.not_eq_false', Bool.not_eq_true, Bool.not_eq_false, Bool.not_true, Bool.not_false, Int.ofNat_lt, Int.ofNat_le, Nat.not_lt, Nat.not_le] at h))
            refine wp_skip ?_
            (refine hKq14 _ _ ?_; try (clear hKq14 Kq14))
            (refine wp_seq_k ?_; intro Kq16 hKq16)
            refine wp_block ?_
            (refine wp_seq_k ?_; intro Kq17 hKq17)
            refine wp_region_lit ?_
            (refine wpl_v S rfl rfl rfl (sv_pure S rfl) ?_; clear S a; intro a S)
            (refine wpl_v S rfl rfl rfl (sv_pure S rfl) ?_; clear S a; intro a S)
            (refine wpl_v S rfl rfl rfl (sv_indexAddrSl S rfl rfl rfl (by first | omega | (simp only [List.length_append, List.length_cons, List.length_nil]; omega))) ?_; clear S a; intro a S)
            (refine wpl_v S rfl rfl rfl (sv_loadOwn S rfl rfl hown (mixL_at (by omega))) ?_; clear S a; intro a S)
            (refine wpl_v S rfl rfl rfl (sv_pure S rfl) ?_; clear S a; intro a S)
            (refine wpl_v S rfl rfl rfl (sv_add S rfl rfl rfl (by first | omega | (simp only [List.length_append, List.length_cons, List.length_nil]; omega))) ?_; clear S a; intro a S)
            (refine wpl_v S rfl rfl rfl (sv_pure S rfl) ?_; clear S a; intro a S)
            refine wpList_nil ?_
            (refine hKq17 _ _ ?_; try (clear hKq17 Kq17))
            (refine wp_seq_k ?_; intro Kq18 hKq18)
            (refine wp_seq_k ?_; intro Kq19 hKq19)
            refine wp_region_lit ?_
            (refine wpl_v S rfl rfl rfl (sv_pure S rfl) ?_; clear S a; intro a S)
            (refine wpl_v S rfl rfl rfl (sv_pure S rfl) ?_; clear S a; intro a S)
            first | (refine wpl_v S rfl rfl rfl (sv_subN S rfl rfl rfl (by omega)) ?_; clear S a; intro a S) | (refine wpl_v S rfl rfl rfl (sv_sub S rfl rfl rfl (by omega)) ?_; clear S a; intro a S)
            (refine wpl_v S rfl rfl rfl (sv_fieldAddr S rfl rfl rfl inferInstance rfl) ?_; clear S a; intro a S)
            first | (refine wpl_v S rfl rfl rfl (sv_loadO S rfl rfl (by rfl)) ?_; clear S a; intro a S) | (refine wpl_v S rfl rfl rfl (sv_loadF S rfl rfl (by assumption)) ?_; clear S a; intro a S)
            (refine wpl_v S rfl rfl rfl (sv_lenSl S rfl rfl) ?_; clear S a; intro a S)
            (refine wpl_v S rfl rfl rfl (sv_pure S rfl) ?_; clear S a; intro a S)
            refine wpList_nil ?_
            (refine hKq19 _ _ ?_; try (clear hKq19 Kq19))
            refine wpc_split S rfl (fun h => ?_) (fun h => ?_)
            · (skip; (try simp only [decide_eq_true_eq, decide_eq_false_iff_not, beq_iff_eq, bne_iff_ne, bne_eq_false_iff_eq, beq_eq_false_iff_ne, ne_eq, Bool.not_eq_true', Bool.not_eq_false', Bool.not_eq_true, Bool.not_eq_false, Bool.not_true, Bool.not_false, Int.ofNat_lt, Int.ofNat_le, Nat.not_lt, Nat.not_le] at h))
              (obtain ⟨bc, offc, rfl, hcsc⟩ := hqp (by omega); have hcf := celN hcsc (j := k - i) (by omega))
              refine wp_region_lit ?_
              (refine wpl_v S rfl rfl rfl (sv_pure S rfl) ?_; clear S a; intro a S)
              (refine wpl_v S rfl rfl rfl (sv_pure S rfl) ?_; clear S a; intro a S)
              (refine wpl_v S rfl rfl rfl (sv_fieldAddr S rfl rfl rfl inferInstance rfl) ?_; clear S a; intro a S)
              first | (refine wpl_v S rfl rfl rfl (sv_loadO S rfl rfl (by rfl)) ?_; clear S a; intro a S) | (refine wpl_v S rfl rfl rfl (sv_loadF S rfl rfl (by assumption)) ?_; clear S a; intro a S)
              (refine wpl_v S rfl rfl rfl (sv_pure S rfl) ?_; clear S a; intro a S)
              (refine wpl_v S rfl rfl rfl (sv_pure S rfl) ?_; clear S a; intro a S)
              first | (refine wpl_v S rfl rfl rfl (sv_subN S rfl rfl rfl (by omega)) ?_; clear S a; intro a S) | (refine wpl_v S rfl rfl rfl (sv_sub S rfl rfl rfl (by omega)) ?_; clear S a; intro a S)
              (refine wpl_v S rfl rfl rfl (sv_indexAddrSl S rfl rfl rfl (by first | omega | (simp only [List.length_append, List.length_cons, List.length_nil]; omega))) ?_; clear S a; intro a S)
              first | (refine wpl_v S rfl rfl rfl (sv_loadO S rfl rfl (by rfl)) ?_; clear S a; intro a S) | (refine wpl_v S rfl rfl rfl (sv_loadF S rfl rfl (by assumption)) ?_; clear S a; intro a S)
              (refine wpl_v S rfl rfl rfl (sv_mul S rfl rfl rfl (by first | omega | (simp only [List.length_append, List.length_cons, List.length_nil]; omega))) ?_; clear S a; intro a S)
              (refine wpl_v S rfl rfl rfl (sv_add S rfl rfl rfl (by first | omega | (simp only [List.length_append, List.length_cons, List.length_nil]; omega))) ?_; clear S a; intro a S)
              (refine wpl_v S rfl rfl rfl (sv_pure S rfl) ?_; clear S a; intro a S)
              refine wpList_nil ?_
              (refine hKq18 _ _ ?_; try (clear hKq18 Kq18))
              (replace S := S.keep (L' := [(6, .pointer (some ⟨b6, 0, none⟩)), (7, .pointer (some ⟨b7, 0, none⟩)), (9, .slice (some ⟨b, 0, none⟩) K K), (34, .slice (some ⟨ba, offa, none⟩) KA pc), (35, .int .i64 KA), (36, .int .i64 i), (10, .int .i64 i), (11, .int .i64 ((dig 1000000000 A i : Nat) : Int)), (13, .int .i64 k), (14, .int .i64 ((cyM 1000000000 (rowsT A C i) (dig 1000000000 A i) C i k + (dig 1000000000 (rowsT A C i) k + dig 1000000000 A i * dig 1000000000 C (k - i)) : Nat) : Int))]) ⟨rfl, rfl, rfl, rfl, rfl, rfl, rfl, rfl, rfl, reg (by first | (rw [hzC (by omega)]; simp only [Nat.mul_zero]; omega) | (simp only [Int.natCast_add, Int.natCast_mul]; omega)), trivial⟩)
              refine wp_region_lit ?_
              (refine wpl_v S rfl rfl rfl (sv_pure S rfl) ?_; clear S a; intro a S)
              (refine wpl_v S rfl rfl rfl (sv_pure S rfl) ?_; clear S a; intro a S)
              (refine wpl_v S rfl rfl rfl (sv_pure S rfl) ?_; clear S a; intro a S)
              (refine wpl_v S rfl rfl rfl (sv_rem S rfl rfl rfl (by first | omega | (simp only [List.length_append, List.length_cons, List.length_nil]; omega))) ?_; clear S a; intro a S)
              (refine wpl_v S rfl rfl rfl (sv_pure S rfl) ?_; clear S a; intro a S)
              (refine wpl_v S rfl rfl rfl (sv_quo S rfl rfl rfl (by first | omega | (simp only [List.length_append, List.length_cons, List.length_nil]; omega))) ?_; clear S a; intro a S)
              (refine wpl_v S rfl rfl rfl (sv_indexAddrSl S rfl rfl rfl (by first | omega | (simp only [List.length_append, List.length_cons, List.length_nil]; omega))) ?_; clear S a; intro a S)
              (refine wpl_storeOwn S rfl rfl rfl rfl rfl hown rfl (by omega) ?_; clear hown S; intro g w hown S)
              (refine wpl_v S rfl rfl rfl (sv_pure S rfl) ?_; clear S a; intro a S)
              refine wpList_nil ?_
              (refine hKq16 _ _ ?_; try (clear hKq16 Kq16))
              refine wp_region_lit ?_
              (refine wpl_v S rfl rfl rfl (sv_pure S rfl) ?_; clear S a; intro a S)
              (refine wpl_v S rfl rfl rfl (sv_add S rfl rfl rfl (by first | omega | (simp only [List.length_append, List.length_cons, List.length_nil]; omega))) ?_; clear S a; intro a S)
              (refine wpl_v S rfl rfl rfl (sv_pure S rfl) ?_; clear S a; intro a S)
              refine wpList_nil ?_
              change ∃ m', _ ∧ _
              (refine ⟨K - (k + 1), by omega, k + 1, g, rfl, by omega, by omega, own_set hown (congrArg _ (by rw [← dig_row b2 hik]; rfl)), ?_⟩; rw [cyM_step b2 hik]; refine S.keep ?_; repeat (first | exact trivial | refine ⟨rfl, ?_⟩))
            · (skip; (try simp only [decide_eq_true_eq, decide_eq_false_iff_not, beq_iff_eq, bne_iff_ne, bne_eq_false_iff_eq, beq_eq_false_iff_ne, ne_eq, Bool.not_eq_true', Bool.not_eq_false', Bool.not_eq_true, Bool.not_eq_false, Bool.not_true, Bool.not_false, Int.ofNat_lt, Int.ofNat_le, Nat.not_lt, Nat.not_le] at h))
              refine wp_skip ?_
              (refine hKq18 _ _ ?_; try (clear hKq18 Kq18))
              (replace S := S.keep (L' := [(6, .pointer (some ⟨b6, 0, none⟩)), (7, .pointer (some ⟨b7, 0, none⟩)), (9, .slice (some ⟨b, 0, none⟩) K K), (34, .slice (some ⟨ba, offa, none⟩) KA pc), (35, .int .i64 KA), (36, .int .i64 i), (10, .int .i64 i), (11, .int .i64 ((dig 1000000000 A i : Nat) : Int)), (13, .int .i64 k), (14, .int .i64 ((cyM 1000000000 (rowsT A C i) (dig 1000000000 A i) C i k + (dig 1000000000 (rowsT A C i) k + dig 1000000000 A i * dig 1000000000 C (k - i)) : Nat) : Int))]) ⟨rfl, rfl, rfl, rfl, rfl, rfl, rfl, rfl, rfl, reg (by first | (rw [hzC (by omega)]; simp only [Nat.mul_zero]; omega) | (simp only [Int.natCast_add, Int.natCast_mul]; omega)), trivial⟩)
              refine wp_region_lit ?_
              (refine wpl_v S rfl rfl rfl (sv_pure S rfl) ?_; clear S a; intro a S)
              (refine wpl_v S rfl rfl rfl (sv_pure S rfl) ?_; clear S a; intro a S)
              (refine wpl_v S rfl rfl rfl (sv_pure S rfl) ?_; clear S a; intro a S)
              (refine wpl_v S rfl rfl rfl (sv_rem S rfl rfl rfl (by first | omega | (simp only [List.length_append, List.length_cons, List.length_nil]; omega))) ?_; clear S a; intro a S)
              (refine wpl_v S rfl rfl rfl (sv_pure S rfl) ?_; clear S a; intro a S)
              (refine wpl_v S rfl rfl rfl (sv_quo S rfl rfl rfl (by first | omega | (simp only [List.length_append, List.length_cons, List.length_nil]; omega))) ?_; clear S a; intro a S)
              (refine wpl_v S rfl rfl rfl (sv_indexAddrSl S rfl rfl rfl (by first | omega | (simp only [List.length_append, List.length_cons, List.length_nil]; omega))) ?_; clear S a; intro a S)
              (refine wpl_storeOwn S rfl rfl rfl rfl rfl hown rfl (by omega) ?_; clear hown S; intro g w hown S)
              (refine wpl_v S rfl rfl rfl (sv_pure S rfl) ?_; clear S a; intro a S)
              refine wpList_nil ?_
              (refine hKq16 _ _ ?_; try (clear hKq16 Kq16))
              refine wp_region_lit ?_
              (refine wpl_v S rfl rfl rfl (sv_pure S rfl) ?_; clear S a; intro a S)
              (refine wpl_v S rfl rfl rfl (sv_add S rfl rfl rfl (by first | omega | (simp only [List.length_append, List.length_cons, List.length_nil]; omega))) ?_; clear S a; intro a S)
              (refine wpl_v S rfl rfl rfl (sv_pure S rfl) ?_; clear S a; intro a S)
              refine wpList_nil ?_
              change ∃ m', _ ∧ _
              (refine ⟨K - (k + 1), by omega, k + 1, g, rfl, by omega, by omega, own_set hown (congrArg _ (by rw [← dig_row b2 hik]; rfl)), ?_⟩; rw [cyM_step b2 hik]; refine S.keep ?_; repeat (first | exact trivial | refine ⟨rfl, ?_⟩))
          · (skip; (try simp only [decide_eq_true_eq, decide_eq_false_iff_not, beq_iff_eq, bne_iff_ne, bne_eq_false_iff_eq, beq_eq_false_iff_ne, ne_eq, Bool.not_eq_true', Bool.not_eq_false', Bool.not_eq_true, Bool.not_eq_false, Bool.not_true, Bool.not_false, Int.ofNat_lt, Int.ofNat_le, Nat.not_lt, Nat.not_le] at h))
            refine wp_exit ?_
            (refine hKq10 _ _ ?_; try (clear hKq10 Kq10))
            refine wp_region_lit ?_
            (refine wpl_v S rfl rfl rfl (sv_add S rfl rfl rfl (by first | omega | (simp only [List.length_append, List.length_cons, List.length_nil]; omega))) ?_; clear S a; intro a S)
            (refine wpl_v S rfl rfl rfl (sv_pure S rfl) ?_; clear S a; intro a S)
            refine wpList_nil ?_
            change ∃ m', _ ∧ _
            (refine ⟨KA - (i + 1), by omega, i + 1, g, rfl, by omega, ?_, ?_⟩; rotate_left 1; (refine S.keep ?_; repeat (first | exact trivial | refine ⟨rfl, ?_⟩)); rw [rows_step]; exact own_full hown (by omega))
      · (skip; (try simp only [decide_eq_true_eq, decide_eq_false_iff_not, beq_iff_eq, bne_iff_ne, bne_eq_false_iff_eq, beq_eq_false_iff_ne, ne_eq, Bool.not_eq_true', Bool.not_eq_false', Bool.not_eq_true, Bool.not_eq_false, Bool.not_true, Bool.not_false, Int.ofNat_lt, Int.ofNat_le, Nat.not_lt, Nat.not_le] at h))
        refine wp_exit ?_
        (refine hKq6 _ _ ?_; try (clear hKq6 Kq6))
        (refine wp_seq_k ?_; intro Kq10 hKq10)
        (have hle := add_le (G1 := []) S; replace S := St.freeze (G1 := []) S; simp only [List.nil_append] at S; rw [rows_full (i := i) (by have := lt_nd b2 A; rw [hKA] at this; rwa [show i = KA by omega])] at hown; have hsl := hown.slC F1)
        (refine wpc_mixL [0, 1, 2, 3, 4, 5, 7, 9, 10] [1, 3] [b6, b7] S mixed (by kernel_rfl) ?_; clear S; intro w S)
        refine wppk_one rfl rfl ?_
        (refine wpp_v S rfl rfl rfl rfl (fun _ S => sv_fieldAddr S rfl rfl rfl inferInstance rfl) ?_; clear S a; intro a S)
        refine wpp_nil ?_
        first | (refine wppk_late S rfl rfl rfl rfl rfl (fun w' hw => hw.1) (fun w' S => sv_loadO S rfl rfl (by rfl)) ?_; clear S a; intro a S) | (refine wppk_late S rfl rfl rfl rfl rfl (fun w' hw => hw.1) (fun w' S => sv_loadAO S rfl rfl (by rfl)) ?_; clear S a; intro a S) | (refine wppk_late S rfl rfl rfl rfl rfl (fun w' hw => hw.2.1) (fun w' S => sv_loadO S rfl rfl (by rfl)) ?_; clear S a; intro a S) | (refine wppk_late S rfl rfl rfl rfl rfl (fun w' hw => hw.2.1) (fun w' S => sv_loadAO S rfl rfl (by rfl)) ?_; clear S a; intro a S)
        refine wppk_one rfl rfl ?_
        (refine wpp_v S rfl rfl rfl rfl (fun _ S => sv_fieldAddr S rfl rfl rfl inferInstance rfl) ?_; clear S a; intro a S)
        refine wpp_nil ?_
        first | (refine wppk_late S rfl rfl rfl rfl rfl (fun w' hw => hw.1) (fun w' S => sv_loadO S rfl rfl (by rfl)) ?_; clear S a; intro a S) | (refine wppk_late S rfl rfl rfl rfl rfl (fun w' hw => hw.1) (fun w' S => sv_loadAO S rfl rfl (by rfl)) ?_; clear S a; intro a S) | (refine wppk_late S rfl rfl rfl rfl rfl (fun w' hw => hw.2.1) (fun w' S => sv_loadO S rfl rfl (by rfl)) ?_; clear S a; intro a S) | (refine wppk_late S rfl rfl rfl rfl rfl (fun w' hw => hw.2.1) (fun w' S => sv_loadAO S rfl rfl (by rfl)) ?_; clear S a; intro a S)
        refine wppk_one rfl rfl ?_
        (refine wpp_v S rfl rfl rfl rfl (fun _ S => sv_neB S rfl rfl rfl) ?_; clear S a; intro a S)
        refine wpp_nil ?_
        refine wppk_one rfl rfl ?_
        (refine wpp_v S rfl rfl rfl rfl (fun _ S => sv_pure S rfl) ?_; clear S a; intro a S)
        refine wpp_nil ?_
        refine wplk_one rfl ⟨S.has inferInstance, S.has inferInstance, trivial⟩ ?_
        (refine wpl_call0 S rfl rfl rfl rfl rfl rfl (trimCt (A * C) K _ _ hlt (by omega) hsl) rfl ?_; clear S a; intro u a w hu S; have hu0 := hu; obtain ⟨uo, uc, rfl, -, -⟩ := hu0)
        refine wpList_nil ?_
        refine wppk_one rfl rfl ?_
        (refine wpp_v S rfl rfl rfl rfl (fun _ S => sv_build S rfl rfl rfl) ?_; clear S a; intro a S)
        refine wpp_nil ?_
        refine wplk_one rfl ⟨S.has inferInstance, S.has inferInstance, trivial⟩ ?_
        (refine wpl_call0 S rfl rfl rfl rfl rfl rfl (textCt (negS s != negS t) (A * C) _ (F1.add g) ((hT.mono hF1).mono hle) (by omega) ⟨_, rfl, hu⟩) rfl ?_; clear S a; intro v a w hv S; subst hv)
        refine wpList_nil ?_
        refine wppk_one rfl rfl ?_
        (refine wpp_v S rfl rfl rfl rfl (fun _ S => sv_pure S rfl) ?_; clear S a; intro a S)
        refine wpp_nil ?_
        refine wppk_one rfl rfl ?_
        (refine wpp_v S rfl rfl rfl rfl (fun _ S => sv_pure S rfl) ?_; clear S a; intro a S)
        refine wpp_nil ?_
        refine wplk_one rfl ⟨S.has inferInstance, S.has inferInstance, trivial⟩ ?_
        (refine wpl_v S rfl rfl rfl (sv_pure S rfl) ?_; clear S a; intro a S)
        refine wpList_nil ?_
        refine wplk_one rfl ⟨S.has inferInstance, S.has inferInstance, trivial⟩ ?_
        (refine wpl_v S rfl rfl rfl (sv_pure S rfl) ?_; clear S a; intro a S)
        refine wpList_nil ?_
        refine wplk_nil ⟨S.has inferInstance, S.has inferInstance, trivial⟩ ?_
        (refine hKq10 _ _ ?_; try (clear hKq10 Kq10))
        refine wp_ret ?_
        refine fin_ret S (results2 Tryd.results12 (RV.tmp S rfl) (RV.tmp S rfl)) ?_
        rfl
end Go.Proofs.YtmmpbpfdnpgklaaDoor
