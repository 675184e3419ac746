/- The walk of Mul of package big. The walk of over of package big: the quotient and the rest of two magnitudes. Numbers as integers: what the answers of package big come to. No program in sight beyond the names of Ops and Mul. -/
import Derived.Test.YtigblodhdfnleaaGreatDoorOps
import Derived.Test.YtigblodhdfnleaaGreatDoorWk13
namespace Go.Proofs.YtigblodhdfnleaaGreatDoor
open Go Go.Wk Go.Num
set_option linter.unusedSimpArgs false
set_option linter.unusedVariables false
attribute [local irreducible] Go.wpList Go.Code.wp Go.wpStill Go.Wk.wpPre Go.bodyPost Go.Calls Go.Wk.Ct Go.Wk.OwnS
attribute [local irreducible] Go.Wk.wpG

def mulA (s t : List UInt8) : List UInt8 × Int := if bothE s t = 0 then showS (negS s != negS t) (decV (bodyS s) * decV (bodyS t)) else ([], bothE s t)
theorem lt_pow_mul {b A C la lc : Nat} (h1 : A < b ^ la) (h2 : C < b ^ lc) : A * C < b ^ (la + lc) := by
  rw [Nat.pow_add]
  rcases Nat.eq_zero_or_pos C with e | e
  · subst e
    rw [Nat.mul_zero]
    exact Nat.mul_pos (by omega) h2
  · exact Nat.mul_lt_mul_of_lt_of_le h1 (Nat.le_of_lt h2) (Nat.lt_of_le_of_lt (Nat.zero_le _) h2)
/-- Behind i rows. -/
def rowsT (A C i : Nat) : Nat := A % 1000000000 ^ i * C
theorem rows_zero (A C : Nat) : rowsT A C 0 = 0 := by simp [rowsT, Nat.mod_one]
theorem rows_step (A C i : Nat) : rowsT A C (i + 1) = rowsT A C i + dig 1000000000 A i * C * 1000000000 ^ i := by
  unfold rowsT
  rw [mod_succ, Nat.add_mul]
  congr 1
  simp only [Nat.mul_comm, Nat.mul_left_comm, Nat.mul_assoc]
theorem rows_full {A C i : Nat} (h : A < 1000000000 ^ i) : rowsT A C i = A * C := by unfold rowsT; rw [Nat.mod_eq_of_lt h]

theorem own_low {e : TypeId} {v : Value} {K i : Nat} {f g : Nat → Nat} {gr : Grp} (h : OwnS e 1 v K (cel K g) gr) (hj : ∀ j, j < i → f j = g j) : OwnS e 1 v K (mixL K i f g) gr := by
  have : mixL K i f g = cel K g := by
    unfold mixL cel
    refine List.map_congr_left fun j _ => ?_
    by_cases hl : j < i
    · rw [if_pos hl, hj j hl]
    · rw [if_neg hl]
  rw [this]; exact h
set_option maxHeartbeats 2000000 in
theorem mulErr (s t : List UInt8) (F : Heap) (hs : s.length ≤ 1000000) (ht : t.length ≤ 1000000) (hbe : ¬ bothE s t = 0) : Ct Tryz.prog 40 [.string (bs s), .string (bs t)] F [] (fun _ _ u => u = ansV (mulA s t)) := by
  refine Ct.enter Tryz.func40 rfl Tryz.ntmps40 rfl fun w0 a S => ?_
  refine wp_sr fun Kq1 hKq1 => ?_
  iterate 2 (refine wpl_p S rfl rfl rfl ?_; clear S a; intro a S)
  (refine wpList_nil (hKq1 _ _ (wp_sr fun Kq2 hKq2 => ?_)); try clear hKq1 Kq1)
  iterate 2 (refine wpl_p S rfl rfl rfl ?_; clear S a; intro a S)
  (refine wpl_callF S rfl rfl rfl rfl rfl rfl (bothCt s t F (by omega) (by omega)) rfl ?_; clear S a; intro v F1 a w hv hF1 S; rw [BothV, if_neg hbe] at hv; subst hv)
  iterate 4 (refine wpl_p S rfl rfl rfl ?_; clear S a; intro a S)
  (refine wpl_alloc S rfl rfl rfl rfl ?_; clear S a; intro b6 a w S)
  (refine wpl_alloc S rfl rfl rfl rfl ?_; clear S a; intro b7 a w S)
  iterate 2 (refine wpl_storeO S rfl rfl rfl rfl rfl (by rfl) (by simp [Value.cells, Value.oneCell', splice]) (by rfl) ?_; clear S; intro w S)
  (refine wpl_p S rfl rfl rfl ?_; clear S a; intro a S)
  (refine wpList_nil (hKq2 _ _ (wp_seq_k fun Kq3 hKq3 => ?_)); try clear hKq2 Kq2)
  refine wp_sr fun Kq4 hKq4 => ?_
  iterate 2 (refine wpl_p S rfl rfl rfl ?_; clear S a; intro a S)
  (refine wpList_nil (hKq4 _ _ ?_); try clear hKq4 Kq4)
  refine wpc_split S rfl (fun h => ?_) (fun h => ?_)
  · (skip; (try simp only [tq] at h))
    refine wp_sr fun Kq5 hKq5 => ?_
    iterate 3 (refine wpl_p S rfl rfl rfl ?_; clear S a; intro a S)
    (refine wpList_nil (hKq5 _ _ ?_); try clear hKq5 Kq5)
    refine wp_ret (fin_ret S (results2 Tryz.results40 (RV.tmp S rfl) (RV.tmp S rfl)) ?_)
    (rw [show mulA s t = ([], bothE s t) from (by unfold mulA; rw [if_neg hbe])]; rfl)
  (skip; (try simp only [tq] at h); exact absurd h hbe)
set_option maxHeartbeats 4000000 in
theorem mulOk (s t : List UInt8) (F : Heap) (hT : TabF F) (hs : s.length ≤ 1000000) (ht : t.length ≤ 1000000) (hbe : bothE s t = 0) : Ct Tryz.prog 40 [.string (bs s), .string (bs t)] F [] (fun _ _ u => u = ansV (mulA s t)) := by
  have hn1 := nd_num (both_ok hbe).1
  have hn2 := nd_num (both_ok hbe).2
  rw [show mulA s t = showS (negS s != negS t) (decV (bodyS s) * decV (bodyS t)) from (by unfold mulA; rw [if_pos hbe])]
  have hbt := bothCt s t F (by omega) (by omega)
  simp only [BothV, if_pos hbe] at hbt
  generalize hA : decV (bodyS s) = A at *
  generalize hC : decV (bodyS t) = C at *
  have hlt := lt_pow_mul (lt_nd b2 A) (lt_nd b2 C)
  have hmn := nd_le hlt b2
  refine Ct.enter Tryz.func40 rfl Tryz.ntmps40 rfl fun w0 a S => ?_
  refine wp_sr fun Kq1 hKq1 => ?_
  iterate 2 (refine wpl_p S rfl rfl rfl ?_; clear S a; intro a S)
  (refine wpList_nil (hKq1 _ _ (wp_sr fun Kq2 hKq2 => ?_)); try clear hKq1 Kq1)
  iterate 2 (refine wpl_p S rfl rfl rfl ?_; clear S a; intro a S)
  (refine wpl_callF S rfl rfl rfl rfl rfl rfl (hbt) rfl ?_; clear S a; intro v F1 a w hv hF1 S; obtain ⟨p, q, rfl, hp, hq⟩ := hv; have hp0 := hp; have hq0 := hq; obtain ⟨po, pc, rfl, hpc, hpp⟩ := hp0; obtain ⟨qo, qc, rfl, hqc, hqp⟩ := hq0)
  iterate 4 (refine wpl_p S rfl rfl rfl ?_; clear S a; intro a S)
  (refine wpl_alloc S rfl rfl rfl rfl ?_; clear S a; intro b6 a w S)
  (refine wpl_alloc S rfl rfl rfl rfl ?_; clear S a; intro b7 a w S)
  iterate 2 (refine wpl_storeO S rfl rfl rfl rfl rfl (by rfl) (by simp [Value.cells, Value.oneCell', splice]) (by rfl) ?_; clear S; intro w S)
  (refine wpl_p S rfl rfl rfl ?_; clear S a; intro a S)
  (refine wpList_nil (hKq2 _ _ (wp_seq_k fun Kq3 hKq3 => ?_)); try clear hKq2 Kq2)
  refine wp_sr fun Kq4 hKq4 => ?_
  iterate 2 (refine wpl_p S rfl rfl rfl ?_; clear S a; intro a S)
  (refine wpList_nil (hKq4 _ _ ?_); try clear hKq4 Kq4)
  refine wpc_split S rfl (fun h => ?_) (fun h => ?_)
  · (skip; (try simp only [tq] at h); exact absurd trivial h)
  (skip; (try simp only [tq] at h))
  refine wp_skip ?_
  (refine hKq3 _ _ ?_; try (clear hKq3 Kq3))
  refine wp_sr fun Kq5 hKq5 => ?_
  (refine wpl_f S rfl rfl rfl ?_; clear S a; intro a S)
  (refine wpl_l S rfl rfl rfl ?_; clear S a; intro a S)
  (refine wpl_n S rfl rfl rfl ?_; clear S a; intro a S)
  (refine wpl_f S rfl rfl rfl ?_; clear S a; intro a S)
  (refine wpl_l S rfl rfl rfl ?_; clear S a; intro a S)
  (refine wpl_n S rfl rfl rfl ?_; clear S a; intro a S)
  (refine wpl_a S rfl rfl rfl ?_; clear S a; intro a S)
  (refine wpl_makeSlice (q := nd 1000000000 A + nd 1000000000 C) S rfl rfl rfl rfl rfl rfl rfl (by omega) (by omega) ?_; clear S a; intro b a w hown S; generalize hK : nd 1000000000 A + nd 1000000000 C = K at S hown hlt hmn; generalize hKA : nd 1000000000 A = KA at *; generalize hKC : nd 1000000000 C = KC at *)
  (refine wpl_p S rfl rfl rfl ?_; clear S a; intro a S)
  (refine wpList_nil (hKq5 _ _ (wp_seq_k fun Kq6 hKq6 => ?_)); try clear hKq5 Kq5)
  refine wp_sr fun Kq7 hKq7 => ?_
  (refine wpl_f S rfl rfl rfl ?_; clear S a; intro a S)
  (refine wpl_l S rfl rfl rfl ?_; clear S a; intro a S)
  (refine wpl_n S rfl rfl rfl ?_; clear S a; intro a S)
  (refine wpl_p S rfl rfl rfl ?_; clear S a; intro a S)
  (refine wpList_nil (hKq7 _ _ ?_); try clear hKq7 Kq7)
  refine wp_block ?_
  refine wpc_loop (fun m a w' => ∃ (i : Nat) (g : Grp), m = KA - i ∧ i ≤ KA ∧ OwnS 2 1 (.slice (some ⟨b, 0, none⟩) K K) K (cel K (dig 1000000000 (rowsT A C i))) g ∧ St 91 [(6, .pointer (some ⟨b6, 0, none⟩)), (7, .pointer (some ⟨b7, 0, none⟩)), (9, .slice (some ⟨b, 0, none⟩) K K), (34, .slice po KA pc), (35, .int .i64 KA), (36, .int .i64 i)] w0 F [] F1 [g, [(b7, .cells ⟨[.bool (negS t), .slice qo KC qc]⟩ 93 (0, 0))], [(b6, .cells ⟨[.bool (negS s), .slice po KA pc]⟩ 93 (0, 0))]] a w') ?_ ?_
  · (refine ⟨KA, 0, _, rfl, Nat.zero_le _, (by rw [rows_zero, show dig 1000000000 0 = (fun _ => 0) from funext fun j => (by simp [dig]), ← replicate_cel]; exact hown), ?_⟩; refine S.keep ?_; repeat (first | exact trivial | refine ⟨rfl, ?_⟩))
  (clear hown S; rintro m a w ⟨i, g, rfl, hi, hown, S⟩)
  refine wp_sr fun Kq8 hKq8 => ?_
  (refine wpl_p S rfl rfl rfl ?_; clear S a; intro a S)
  (refine wpList_nil (hKq8 _ _ (wp_seq_k fun Kq9 hKq9 => ?_)); try clear hKq8 Kq8)
  refine wpc_split S rfl (fun h => ?_) (fun h => ?_)
  · (skip; (try simp only [tq] at h))
    refine wp_skip ?_
    (refine hKq9 _ _ ?_; try (clear hKq9 Kq9))
    (refine wp_seq_k ?_; intro Kq10 hKq10)
    refine wp_block ?_
    (refine wp_seq_k ?_; intro Kq11 hKq11)
    (obtain ⟨ba, offa, rfl, hcsa⟩ := hpp (by omega); have hce := celN hcsa (j := i) (by omega))
    refine wp_region_lit ?_
    (refine wpl_p S rfl rfl rfl ?_; clear S a; intro a S)
    (refine wpl_i S rfl rfl rfl ?_; clear S a; intro a S)
    (refine wpl_l S rfl rfl rfl ?_; clear S a; intro a S)
    iterate 2 (refine wpl_p S rfl rfl rfl ?_; clear S a; intro a S)
    (refine wpList_nil (hKq11 _ _ (wp_sr fun Kq12 hKq12 => ?_)); try clear hKq11 Kq11)
    (refine wpl_p S rfl rfl rfl ?_; clear S a; intro a S)
    (refine wpList_nil (hKq12 _ _ (wp_sr fun Kq13 hKq13 => ?_)); try clear hKq12 Kq12)
    iterate 2 (refine wpl_p S rfl rfl rfl ?_; clear S a; intro a S)
    (refine wpList_nil (hKq13 _ _ ?_); try clear hKq13 Kq13)
    refine wp_block ?_
    refine wpc_loop (fun m a w' => ∃ (k : Nat) (g : Grp), m = K - k ∧ i ≤ k ∧ k ≤ K ∧ OwnS 2 1 (.slice (some ⟨b, 0, none⟩) K K) K (mixL K k (dig 1000000000 (rowsT A C i + dig 1000000000 A i * C * 1000000000 ^ i)) (dig 1000000000 (rowsT A C i))) g ∧ St 91 [(6, .pointer (some ⟨b6, 0, none⟩)), (7, .pointer (some ⟨b7, 0, none⟩)), (9, .slice (some ⟨b, 0, none⟩) K K), (34, .slice (some ⟨ba, offa, none⟩) KA pc), (35, .int .i64 KA), (36, .int .i64 i), (10, .int .i64 i), (11, .int .i64 ((dig 1000000000 A i : Nat) : Int)), (12, .int .i64 ((cyM 1000000000 (rowsT A C i) (dig 1000000000 A i) C i k : Nat) : Int)), (13, .int .i64 k)] w0 F [] F1 [g, [(b7, .cells ⟨[.bool (negS t), .slice qo KC qc]⟩ 93 (0, 0))], [(b6, .cells ⟨[.bool (negS s), .slice (some ⟨ba, offa, none⟩) KA pc]⟩ 93 (0, 0))]] a w') ?_ ?_
    · (refine ⟨K - i, i, g, rfl, Nat.le_refl _, by omega, ?_, ?_⟩; rotate_left 1; (rw [cyM_start b2]; refine S.keep ?_; repeat (first | exact trivial | refine ⟨rfl, ?_⟩)); refine own_low hown fun j hj => (dig_row_low b2 hj))
    (clear hown S; rintro m a w ⟨k, g, rfl, hik, hkK, hown, S⟩; have hcy := cyM_le (b := 1000000000) (T := rowsT A C i) (p := dig 1000000000 A i) (B := C) b2 hik (dig_lt b2 A i); have hdT := dig_lt b2 (rowsT A C i) k; have hdC := dig_lt b2 C (k - i); have hdA := dig_lt b2 A i; have hdm : dig 1000000000 A i * dig 1000000000 C (k - i) ≤ 999999999 * 999999999 := Nat.mul_le_mul (by omega) (by omega); have hzC : KC ≤ k - i → dig 1000000000 C (k - i) = 0 := fun h => dig_zero (lt_nd b2 C) (by omega) b2)
    (refine wp_seq_k ?_; intro Kq14 hKq14)
    refine wp_sr fun Kq15 hKq15 => ?_
    iterate 2 (refine wpl_p S rfl rfl rfl ?_; clear S a; intro a S)
    (refine wpl_n S rfl rfl rfl ?_; clear S a; intro a S)
    (refine wpl_p S rfl rfl rfl ?_; clear S a; intro a S)
    (refine wpList_nil (hKq15 _ _ ?_); try clear hKq15 Kq15)
    refine wpc_split S rfl (fun h => ?_) (fun h => ?_)
    · (skip; (try simp only [tq] at h))
      refine wp_skip ?_
      (refine hKq14 _ _ ?_; try (clear hKq14 Kq14))
      (refine wp_seq_k ?_; intro Kq16 hKq16)
      refine wp_block ?_
      refine wp_sr fun Kq17 hKq17 => ?_
      iterate 2 (refine wpl_p S rfl rfl rfl ?_; clear S a; intro a S)
      (refine wpl_i S rfl rfl rfl ?_; clear S a; intro a S)
      (refine wpl_v S rfl rfl rfl (sv_loadOwn S rfl rfl hown (mixL_at (by omega))) ?_; clear S a; intro a S)
      (refine wpl_p S rfl rfl rfl ?_; clear S a; intro a S)
      (refine wpl_a S rfl rfl rfl ?_; clear S a; intro a S)
      (refine wpl_p S rfl rfl rfl ?_; clear S a; intro a S)
      (refine wpList_nil (hKq17 _ _ (wp_seq_k fun Kq18 hKq18 => ?_)); try clear hKq17 Kq17)
      refine wp_sr fun Kq19 hKq19 => ?_
      iterate 2 (refine wpl_p S rfl rfl rfl ?_; clear S a; intro a S)
      first | (refine wpl_v S rfl rfl rfl (sv_subN S rfl rfl rfl (by omega)) ?_; clear S a; intro a S) | (refine wpl_v S rfl rfl rfl (sv_sub S rfl rfl rfl (by omega)) ?_; clear S a; intro a S)
      (refine wpl_f S rfl rfl rfl ?_; clear S a; intro a S)
      (refine wpl_l S rfl rfl rfl ?_; clear S a; intro a S)
      (refine wpl_n S rfl rfl rfl ?_; clear S a; intro a S)
      (refine wpl_p S rfl rfl rfl ?_; clear S a; intro a S)
      (refine wpList_nil (hKq19 _ _ ?_); try clear hKq19 Kq19)
      refine wpc_split S rfl (fun h => ?_) (fun h => ?_)
      · (skip; (try simp only [tq] at h))
        (obtain ⟨bc, offc, rfl, hcsc⟩ := hqp (by omega); have hcf := celN hcsc (j := k - i) (by omega))
        refine wp_region_lit ?_
        iterate 2 (refine wpl_p S rfl rfl rfl ?_; clear S a; intro a S)
        (refine wpl_f S rfl rfl rfl ?_; clear S a; intro a S)
        (refine wpl_l S rfl rfl rfl ?_; clear S a; intro a S)
        iterate 2 (refine wpl_p S rfl rfl rfl ?_; clear S a; intro a S)
        first | (refine wpl_v S rfl rfl rfl (sv_subN S rfl rfl rfl (by omega)) ?_; clear S a; intro a S) | (refine wpl_v S rfl rfl rfl (sv_sub S rfl rfl rfl (by omega)) ?_; clear S a; intro a S)
        (refine wpl_i S rfl rfl rfl ?_; clear S a; intro a S)
        (refine wpl_l S rfl rfl rfl ?_; clear S a; intro a S)
        (refine wpl_v S rfl rfl rfl (sv_mul S rfl rfl rfl (by first | omega | (simp only [List.length_append, List.length_cons, List.length_nil]; omega))) ?_; clear S a; intro a S)
        (refine wpl_a S rfl rfl rfl ?_; clear S a; intro a S)
        (refine wpl_p S rfl rfl rfl ?_; clear S a; intro a S)
        (refine wpList_nil (hKq18 _ _ ?_); try clear hKq18 Kq18)
        (replace S := S.keep (L' := [(6, .pointer (some ⟨b6, 0, none⟩)), (7, .pointer (some ⟨b7, 0, none⟩)), (9, .slice (some ⟨b, 0, none⟩) K K), (34, .slice (some ⟨ba, offa, none⟩) KA pc), (35, .int .i64 KA), (36, .int .i64 i), (10, .int .i64 i), (11, .int .i64 ((dig 1000000000 A i : Nat) : Int)), (13, .int .i64 k), (14, .int .i64 ((cyM 1000000000 (rowsT A C i) (dig 1000000000 A i) C i k + (dig 1000000000 (rowsT A C i) k + dig 1000000000 A i * dig 1000000000 C (k - i)) : Nat) : Int))]) ⟨rfl, rfl, rfl, rfl, rfl, rfl, rfl, rfl, rfl, reg (by first | (rw [hzC (by omega)]; simp only [Nat.mul_zero]; omega) | (simp only [Int.natCast_add, Int.natCast_mul]; omega)), trivial⟩)
        refine wp_region_lit ?_
        iterate 3 (refine wpl_p S rfl rfl rfl ?_; clear S a; intro a S)
        (refine wpl_v S rfl rfl rfl (sv_rem S rfl rfl rfl (by first | omega | (simp only [List.length_append, List.length_cons, List.length_nil]; omega))) ?_; clear S a; intro a S)
        (refine wpl_p S rfl rfl rfl ?_; clear S a; intro a S)
        (refine wpl_v S rfl rfl rfl (sv_quo S rfl rfl rfl (by first | omega | (simp only [List.length_append, List.length_cons, List.length_nil]; omega))) ?_; clear S a; intro a S)
        (refine wpl_i S rfl rfl rfl ?_; clear S a; intro a S)
        (refine wpl_storeOwn S rfl rfl rfl rfl rfl hown rfl (by omega) ?_; clear hown S; intro g w hown S)
        (refine wpl_p S rfl rfl rfl ?_; clear S a; intro a S)
        (refine wpList_nil (hKq16 _ _ ?_); try clear hKq16 Kq16)
        refine wp_region_lit ?_
        (refine wpl_p S rfl rfl rfl ?_; clear S a; intro a S)
        (refine wpl_a S rfl rfl rfl ?_; clear S a; intro a S)
        (refine wpl_p S rfl rfl rfl ?_; clear S a; intro a S)
        refine wpList_nil ?_
        change ∃ m', _ ∧ _
        (refine ⟨K - (k + 1), by omega, k + 1, g, rfl, by omega, by omega, own_set hown (congrArg _ (by rw [← dig_row b2 hik]; rfl)), ?_⟩; rw [cyM_step b2 hik]; refine S.keep ?_; repeat (first | exact trivial | refine ⟨rfl, ?_⟩))
      (skip; (try simp only [tq] at h))
      refine wp_skip ?_
      (refine hKq18 _ _ ?_; try (clear hKq18 Kq18))
      (replace S := S.keep (L' := [(6, .pointer (some ⟨b6, 0, none⟩)), (7, .pointer (some ⟨b7, 0, none⟩)), (9, .slice (some ⟨b, 0, none⟩) K K), (34, .slice (some ⟨ba, offa, none⟩) KA pc), (35, .int .i64 KA), (36, .int .i64 i), (10, .int .i64 i), (11, .int .i64 ((dig 1000000000 A i : Nat) : Int)), (13, .int .i64 k), (14, .int .i64 ((cyM 1000000000 (rowsT A C i) (dig 1000000000 A i) C i k + (dig 1000000000 (rowsT A C i) k + dig 1000000000 A i * dig 1000000000 C (k - i)) : Nat) : Int))]) ⟨rfl, rfl, rfl, rfl, rfl, rfl, rfl, rfl, rfl, reg (by first | (rw [hzC (by omega)]; simp only [Nat.mul_zero]; omega) | (simp only [Int.natCast_add, Int.natCast_mul]; omega)), trivial⟩)
      refine wp_region_lit ?_
      iterate 3 (refine wpl_p S rfl rfl rfl ?_; clear S a; intro a S)
      (refine wpl_v S rfl rfl rfl (sv_rem S rfl rfl rfl (by first | omega | (simp only [List.length_append, List.length_cons, List.length_nil]; omega))) ?_; clear S a; intro a S)
      (refine wpl_p S rfl rfl rfl ?_; clear S a; intro a S)
      (refine wpl_v S rfl rfl rfl (sv_quo S rfl rfl rfl (by first | omega | (simp only [List.length_append, List.length_cons, List.length_nil]; omega))) ?_; clear S a; intro a S)
      (refine wpl_i S rfl rfl rfl ?_; clear S a; intro a S)
      (refine wpl_storeOwn S rfl rfl rfl rfl rfl hown rfl (by omega) ?_; clear hown S; intro g w hown S)
      (refine wpl_p S rfl rfl rfl ?_; clear S a; intro a S)
      (refine wpList_nil (hKq16 _ _ ?_); try clear hKq16 Kq16)
      refine wp_region_lit ?_
      (refine wpl_p S rfl rfl rfl ?_; clear S a; intro a S)
      (refine wpl_a S rfl rfl rfl ?_; clear S a; intro a S)
      (refine wpl_p S rfl rfl rfl ?_; clear S a; intro a S)
      refine wpList_nil ?_
      change ∃ m', _ ∧ _
      (refine ⟨K - (k + 1), by omega, k + 1, g, rfl, by omega, by omega, own_set hown (congrArg _ (by rw [← dig_row b2 hik]; rfl)), ?_⟩; rw [cyM_step b2 hik]; refine S.keep ?_; repeat (first | exact trivial | refine ⟨rfl, ?_⟩))
    (skip; (try simp only [tq] at h))
    refine wp_exit ?_
    (refine hKq10 _ _ ?_; try (clear hKq10 Kq10))
    refine wp_region_lit ?_
    (refine wpl_a S rfl rfl rfl ?_; clear S a; intro a S)
    (refine wpl_p S rfl rfl rfl ?_; clear S a; intro a S)
    refine wpList_nil ?_
    change ∃ m', _ ∧ _
    (refine ⟨KA - (i + 1), by omega, i + 1, g, rfl, by omega, ?_, ?_⟩; rotate_left 1; (refine S.keep ?_; repeat (first | exact trivial | refine ⟨rfl, ?_⟩)); rw [rows_step]; exact own_full hown (by omega))
  (skip; (try simp only [tq] at h))
  refine wp_exit ?_
  (refine hKq6 _ _ ?_; try (clear hKq6 Kq6))
  (refine wp_seq_k ?_; intro Kq10 hKq10)
  (have hle := add_le (G1 := []) S; replace S := St.freeze (G1 := []) S; simp only [List.nil_append] at S; rw [rows_full (i := i) (by have := lt_nd b2 A; rw [hKA] at this; rwa [show i = KA by omega])] at hown; have hsl := hown.slC F1)
  (refine wpc_mixL [0, 1, 2, 3, 4, 5, 7, 9, 10] [1, 3] [b6, b7] S mixed (by kernel_rfl) ?_; clear S; intro w S)
  refine wppk_one rfl rfl ?_
  (refine wpp_v S rfl rfl rfl rfl (fun _ S => sv_fieldAddr S rfl rfl rfl inferInstance rfl) ?_; clear S a; intro a S)
  refine wpp_nil ?_
  first | (refine wppk_late S rfl rfl rfl rfl rfl (fun w' hw => hw.1) (fun w' S => sv_loadO S rfl rfl (by rfl)) ?_; clear S a; intro a S) | (refine wppk_late S rfl rfl rfl rfl rfl (fun w' hw => hw.1) (fun w' S => sv_loadAO S rfl rfl (by rfl)) ?_; clear S a; intro a S) | (refine wppk_late S rfl rfl rfl rfl rfl (fun w' hw => hw.2.1) (fun w' S => sv_loadO S rfl rfl (by rfl)) ?_; clear S a; intro a S) | (refine wppk_late S rfl rfl rfl rfl rfl (fun w' hw => hw.2.1) (fun w' S => sv_loadAO S rfl rfl (by rfl)) ?_; clear S a; intro a S)
  refine wppk_one rfl rfl ?_
  (refine wpp_v S rfl rfl rfl rfl (fun _ S => sv_fieldAddr S rfl rfl rfl inferInstance rfl) ?_; clear S a; intro a S)
  refine wpp_nil ?_
  first | (refine wppk_late S rfl rfl rfl rfl rfl (fun w' hw => hw.1) (fun w' S => sv_loadO S rfl rfl (by rfl)) ?_; clear S a; intro a S) | (refine wppk_late S rfl rfl rfl rfl rfl (fun w' hw => hw.1) (fun w' S => sv_loadAO S rfl rfl (by rfl)) ?_; clear S a; intro a S) | (refine wppk_late S rfl rfl rfl rfl rfl (fun w' hw => hw.2.1) (fun w' S => sv_loadO S rfl rfl (by rfl)) ?_; clear S a; intro a S) | (refine wppk_late S rfl rfl rfl rfl rfl (fun w' hw => hw.2.1) (fun w' S => sv_loadAO S rfl rfl (by rfl)) ?_; clear S a; intro a S)
  refine wppk_one rfl rfl ?_
  (refine wpp_v S rfl rfl rfl rfl (fun _ S => sv_neB S rfl rfl rfl) ?_; clear S a; intro a S)
  refine wpp_nil ?_
  refine wppk_one rfl rfl ?_
  (refine wpp_v S rfl rfl rfl rfl (fun _ S => sv_pure S rfl) ?_; clear S a; intro a S)
  refine wpp_nil ?_
  refine wplk_one rfl ⟨S.has inferInstance, S.has inferInstance, trivial⟩ ?_
  (refine wpl_call0 S rfl rfl rfl rfl rfl rfl (trimCt (A * C) K _ _ hlt (by omega) hsl) rfl ?_; clear S a; intro u a w hu S; have hu0 := hu; obtain ⟨uo, uc, rfl, -, -⟩ := hu0)
  refine wpList_nil ?_
  refine wppk_one rfl rfl ?_
  (refine wpp_v S rfl rfl rfl rfl (fun _ S => sv_build S rfl rfl rfl) ?_; clear S a; intro a S)
  refine wpp_nil ?_
  refine wplk_one rfl ⟨S.has inferInstance, S.has inferInstance, trivial⟩ ?_
  (refine wpl_call0 S rfl rfl rfl rfl rfl rfl (textCt (negS s != negS t) (A * C) _ (F1.add g) ((hT.mono hF1).mono hle) (by omega) ⟨_, rfl, hu⟩) rfl ?_; clear S a; intro v a w hv S; subst hv)
  refine wpList_nil ?_
  refine wppk_one rfl rfl ?_
  (refine wpp_v S rfl rfl rfl rfl (fun _ S => sv_pure S rfl) ?_; clear S a; intro a S)
  refine wpp_nil ?_
  refine wppk_one rfl rfl ?_
  (refine wpp_v S rfl rfl rfl rfl (fun _ S => sv_pure S rfl) ?_; clear S a; intro a S)
  refine wpp_nil ?_
  refine wplk_one rfl ⟨S.has inferInstance, S.has inferInstance, trivial⟩ ?_
  (refine wpl_p S rfl rfl rfl ?_; clear S a; intro a S)
  refine wpList_nil ?_
  refine wplk_one rfl ⟨S.has inferInstance, S.has inferInstance, trivial⟩ ?_
  (refine wpl_p S rfl rfl rfl ?_; clear S a; intro a S)
  refine wpList_nil ?_
  refine wplk_nil ⟨S.has inferInstance, S.has inferInstance, trivial⟩ ?_
  (refine hKq10 _ _ ?_; try (clear hKq10 Kq10))
  exact wp_ret (fin_ret S (results2 Tryz.results40 (RV.tmp S rfl) (RV.tmp S rfl)) rfl)
end Go.Proofs.YtigblodhdfnleaaGreatDoor
namespace Go.Proofs.YtigblodhdfnleaaGreatDoor
open Go Go.Wk Go.Num
set_option linter.unusedSimpArgs false
set_option linter.unusedVariables false
attribute [local irreducible] Go.wpList Go.Code.wp Go.wpStill Go.Wk.wpPre Go.bodyPost Go.Calls Go.Wk.Ct Go.Wk.OwnS
attribute [local irreducible] Go.wpListIn Go.Code.wpIn Go.CallsIn Go.bodyPostM Go.Wk.roundP Go.Wk.wpG Go.Wk.wpM

theorem dig_push0 {r a : Nat} (ha : a < 1000000000) : dig 1000000000 (r * 1000000000 + a) 0 = a := by
  unfold dig; rw [Nat.pow_zero, Nat.div_one]; omega
theorem dig_push {r a j : Nat} (ha : a < 1000000000) : dig 1000000000 (r * 1000000000 + a) (j + 1) = dig 1000000000 r j := by
  unfold dig
  rw [Nat.pow_succ', ← Nat.div_div_eq_div_mul, show (r * 1000000000 + a) / 1000000000 = r by omega]
theorem cel_push {k r a : Nat} (ha : a < 1000000000) : [Value.int .i64 ((a : Nat) : Int)] ++ cel k (dig 1000000000 r) = cel (k + 1) (dig 1000000000 (r * 1000000000 + a)) := by
  rw [cel_cons, dig_push0 ha, show (fun j => dig 1000000000 (r * 1000000000 + a) (j + 1)) = dig 1000000000 r from funext fun j => dig_push ha]
  rfl
theorem push_lt {r a k : Nat} (ha : a < 1000000000) (h : r < 1000000000 ^ k) : r * 1000000000 + a < 1000000000 ^ (k + 1) := by
  rw [Nat.pow_succ]
  have : (r + 1) * 1000000000 ≤ 1000000000 ^ k * 1000000000 := Nat.mul_le_mul_right _ h
  rw [Nat.add_mul] at this; omega
/-- The quotient's digits, from j on. -/
def fq (Q j i : Nat) : Nat := if j ≤ i then dig 1000000000 Q i else 0
theorem own_q {e : TypeId} {v x : Value} {K j Q : Nat} {gr : Grp} (h : OwnS e 1 v K ((cel K (fq Q (j + 1))).set j x) gr) (hx : x = .int .i64 ((dig 1000000000 Q j : Nat) : Int)) : OwnS e 1 v K (cel K (fq Q j)) gr := by
  have : (cel K (fq Q (j + 1))).set j x = cel K (fq Q j) := by
    refine List.ext_getElem? fun i => ?_
    by_cases hi : i < K
    · rw [cel_get hi, List.getElem?_set, cel_len]
      by_cases e : j = i
      · subst e; rw [if_pos rfl, if_pos hi, hx]; unfold fq; rw [if_pos (Nat.le_refl _)]
      · rw [if_neg e, cel_get hi]
        unfold fq
        by_cases h1 : j ≤ i
        · rw [if_pos h1, if_pos (by omega)]
        · rw [if_neg h1, if_neg (by omega)]
    · rw [List.getElem?_eq_none (by rw [List.length_set, cel_len]; omega), List.getElem?_eq_none (by rw [cel_len]; omega)]
  rw [this] at h; exact h
theorem half_q {R C lo hi : Nat} (h1 : C * lo ≤ R) (h2 : R < C * hi) (h3 : lo < hi) (h4 : ¬ (1 : Int) < (hi : Int) - lo) : lo = R / C := by
  have : hi = lo + 1 := by omega
  subst this
  rw [Nat.mul_comm] at h1 h2
  exact (Nat.div_eq_of_lt_le h1 h2).symm
theorem cmp_np {A C : Nat} (h : cmpI A C ≤ 0) : A ≤ C := by
  unfold cmpI at h; split at h; omega; split at h <;> omega
theorem cmp_ps {A C : Nat} (h : ¬ cmpI A C ≤ 0) : C < A := by
  unfold cmpI at h; split at h; omega; split at h <;> omega
theorem nd_one {C n m : Nat} (hn : n < 1000000000) (hC : nd 1000000000 C ≤ m) : nd 1000000000 (C * n) ≤ m + 1 := by
  have := nd_le (lt_pow_mul (lt_nd b2 C) (lc := 1) (C := n) (by simpa using hn)) b2
  omega

set_option maxHeartbeats 8000000 in
theorem overCt (A C : Nat) (v u : Value) (F : Heap) (hC : 0 < C) (hlA : nd 1000000000 A ≤ 10000) (hlC : nd 1000000000 C ≤ 10000) (hv : Mag F v A) (hu : Mag F u C) :
    Ct Tryz.prog 104 [v, u] F [] (fun F' _ r => ∃ q s, r = .tuple ⟨[q, s]⟩ ∧ Mag F' q (A / C) ∧ Mag F' s (A % C)) := by
  have hv0 := hv
  have hu0 := hu
  obtain ⟨ao, ca, rfl, hca, hpa⟩ := hv0
  obtain ⟨co, cc, rfl, hcc, hpc⟩ := hu0
  have hQ : A / C < 1000000000 ^ nd 1000000000 A := Nat.lt_of_le_of_lt (Nat.div_le_self _ _) (lt_nd b2 A)
  have hrl : ∀ j, remJ 1000000000 A C j < C := fun j => Nat.mod_lt _ hC
  have hrK : ∀ j, nd 1000000000 (remJ 1000000000 A C j) ≤ 10000 := fun j => Nat.le_trans (nd_mono (Nat.le_of_lt (hrl j))) hlC
  have hA := lt_nd b2 A
  generalize hK : nd 1000000000 A = K at *
  generalize hKC : nd 1000000000 C = KC at *
  have hm0 : Mag F (.slice none 0 0) (remJ 1000000000 A C K) := by rw [rem_top hA]; exact ⟨none, 0, rfl, Nat.le_refl _, fun h => absurd h (Nat.lt_irrefl _)⟩
  refine Ct.enterM Tryz.func104 rfl Tryz.ntmps104 rfl fun w0 a S => ?_
  (refine wpIn_seq_k ?_; intro Kq1 hKq1)
  refine wpi_region rfl ?_
  (refine wpl_box S rfl rfl rfl rfl rfl ?_; clear S a; intro b3 a w S)
  iterate 2 (refine wpl_p S rfl rfl rfl ?_; clear S a; intro a S)
  (refine wpList_nil (hKq1 _ _ ?_); try clear hKq1 Kq1)
  (refine wpIn_seq_k ?_; intro Kq2 hKq2)
  refine wpi_region rfl ?_
  (refine wpl_p S rfl rfl rfl ?_; clear S a; intro a S)
  (refine wpl_n S rfl rfl rfl ?_; clear S a; intro a S)
  (refine wpl_makeSlice (q := K) S rfl rfl rfl rfl rfl rfl rfl (by omega) (by omega) ?_; clear S a; intro bq a w hq S)
  (refine wpl_alloc S rfl rfl rfl rfl ?_; clear S a; intro b6 a w S)
  (refine wpl_store1 S rfl rfl rfl rfl rfl rfl (by first | (simp; done) | (simp [Value.cells]; done) | exact Nat.le_of_ble_eq_true rfl) ?_; clear S; intro w S)
  (refine wpList_nil (hKq2 _ _ ?_); try clear hKq2 Kq2)
  (refine wpIn_seq_k ?_; intro Kq3 hKq3)
  refine wpi_region rfl ?_
  (refine wpl_alloc S rfl rfl rfl rfl ?_; clear S a; intro b7 a w S)
  (refine wpList_nil (hKq3 _ _ ?_); try clear hKq3 Kq3)
  (refine wpIn_seq_k ?_; intro Kq4 hKq4)
  (refine wpIn_seq_k ?_; intro Kq5 hKq5)
  refine wpi_region rfl ?_
  (refine wpl_p S rfl rfl rfl ?_; clear S a; intro a S)
  (refine wpl_callFrz S rfl rfl rfl rfl rfl rfl (backwardCt _ F) rfl ?_; clear S a; intro bx F5 a w hF5 hbx S; have hbox := hbx 0 _ rfl; have hq0 : OwnS 2 1 (.slice (some ⟨bq, 0, none⟩) K K) K (cel K (fq (A / C) K)) _ := (by rw [show cel K (fq (A / C) K) = cel K (fun _ => 0) from cel_congr fun i hi => (by unfold fq; rw [if_neg (by omega)]), ← replicate_cel]; exact hq); have hm5 := hm0.mono hF5)
  (refine wpList_nil (hKq5 _ _ ?_); try clear hKq5 Kq5)
  refine wpIn_block ?_
  refine wpi_back S rfl rfl rfl rfl (backIter bx K (dig 1000000000 A) F5 ao ca (by omega) hbox (fun h0 => by obtain ⟨b, off, h1, h2⟩ := hpa h0; exact ⟨b, off, h1, h2.mono hF5⟩)) (fun j F2 G2 => (∀ b o, F5 b = some o → F2 b = some o) ∧ ∃ rv gq, G2 = [[(b7, .cells ⟨[rv]⟩ 91 (0, 0))], [(b6, .cells ⟨[.slice (some ⟨bq, 0, none⟩) K K]⟩ 91 (0, 0))], gq, [(b3, .cells ⟨[.slice co KC cc]⟩ 91 (0, 0))]] ∧ Mag F2 rv (remJ 1000000000 A C j) ∧ OwnS 2 1 (.slice (some ⟨bq, 0, none⟩) K K) K (cel K (fq (A / C) j)) gq) (fun _ _ => False) (⟨fun _ _ h => h, .slice none 0 0, _, rfl, hm5, hq0⟩) (fun j => [(8, .int .i64 (j : Int)), (9, .int .i64 ((dig 1000000000 A j : Nat) : Int)), (3, .pointer (some ⟨b3, 0, none⟩)), (6, .pointer (some ⟨b6, 0, none⟩)), (7, .pointer (some ⟨b7, 0, none⟩))]) ?_ ?_ ?_ ?_
  · (clear S; intro r j w F1 G1 a KA S hKA)
    (refine wpIn_seq_k ?_; intro Kq6 hKq6)
    refine wpi_region rfl ?_
    (refine wpl_p S rfl rfl rfl ?_; clear S a; intro a S)
    (refine wpList_nil (hKq6 _ _ ?_); try clear hKq6 Kq6)
    refine wpi_region rfl ?_
    (refine wpl_p S rfl rfl rfl ?_; clear S a; intro a S)
    refine wpList_nil ?_
    (refine hKA _ ?_; refine S.keep ?_; repeat (first | exact trivial | refine ⟨rfl, ?_⟩))
  · (clear S; intro r j w F1 G1 a hj hF1 hI S)
    (obtain ⟨hF2, rv, gq, rfl, hrv, hq⟩ := hI; have hrv0 := hrv; obtain ⟨ro, rc, rfl, hrc, hrp⟩ := hrv0; have hdj := dig_lt b2 A j; have hrk := hrK (j + 1); have hrle := hrl (j + 1); have huF := (hu.mono hF5).mono hF2; generalize w = W0 at *; generalize hKK : keys _ = KK at S)
    refine wpIn_block ?_
    (refine wpIn_seq_k ?_; intro Kq7 hKq7)
    refine wpi_region rfl ?_
    (refine wpl_p S rfl rfl rfl ?_; clear S a; intro a S)
    (refine wpl_buildSlice S rfl rfl rfl rfl rfl rfl (by rfl) (by simp [Value.cells, splice, splice]) rfl (by rfl) (by rfl) ?_; clear S a; intro b21 a w hown S)
    (refine wpl_l S rfl rfl rfl ?_; clear S a; intro a S)
    (refine wpl_appendSl S rfl rfl rfl rfl rfl rfl hown (by rfl) (by rw [cel_len, Nat.mul_one]) hrp cel_one (by omega) (by omega) ?_; clear hown S a; intro v g a w hown S)
    (have hle := add_le (G1 := []) S; obtain ⟨vo, vc, rfl, -, -⟩ := hown.at; replace S := St.freeze (G1 := []) S; (try simp only [List.nil_append] at S); have hslg := hown.slC F1; obtain ⟨R1, hR1⟩ : ∃ R1, R1 = remJ 1000000000 A C (j + 1) * 1000000000 + dig 1000000000 A j := ⟨_, rfl⟩; have hslg2 : SlC (F1.add g) (.slice vo (1 + nd 1000000000 (remJ 1000000000 A C (j + 1))) vc) (1 + nd 1000000000 (remJ 1000000000 A C (j + 1))) (cel (1 + nd 1000000000 (remJ 1000000000 A C (j + 1))) (dig 1000000000 R1)) := (by rw [hR1, Nat.add_comm 1, ← cel_push (by omega), Nat.add_comm _ 1]; exact hslg); have hR1lt : R1 < 1000000000 ^ (1 + nd 1000000000 (remJ 1000000000 A C (j + 1))) := (by rw [hR1, Nat.add_comm 1]; exact push_lt (by omega) (lt_nd b2 _)); have hR1K : nd 1000000000 R1 ≤ 10001 := Nat.le_trans (nd_le hR1lt b2) (by omega); have hR1C : R1 < C * 1000000000 := (by omega); clear hown)
    (first | (refine wpl_call0 S rfl rfl rfl rfl rfl rfl (trimCt R1 _ _ _ hR1lt (by omega) hslg2) rfl ?_; clear S a; intro u1 a w hu1 S; have hu10 := hu1; obtain ⟨uo, uc, rfl, -, -⟩ := hu10) | (refine wpl_call0 S rfl rfl rfl rfl rfl rfl (trimCt (A / C) K _ _ hQ (by omega) hqf) rfl ?_; clear S a; intro u9 a w hu9 S))
    (refine wpl_store1 S rfl rfl rfl rfl rfl rfl (by first | (simp; done) | (simp [Value.cells]; done) | exact Nat.le_of_ble_eq_true rfl) ?_; clear S; intro w S)
    (refine wpList_nil (hKq7 _ _ ?_); try clear hKq7 Kq7)
    (refine wpIn_seq_k ?_; intro Kq8 hKq8)
    refine wpi_region rfl ?_
    iterate 2 (refine wpl_p S rfl rfl rfl ?_; clear S a; intro a S)
    (refine wpList_nil (hKq8 _ _ ?_); try clear hKq8 Kq8)
    (refine wpIn_seq_k ?_; intro Kq9 hKq9)
    refine wpIn_block ?_
    refine wpi_loop (fun m a w' => ∃ (lo hi : Nat) (F3 : Heap), m = hi - lo ∧ lo < hi ∧ hi ≤ 1000000000 ∧ C * lo ≤ R1 ∧ R1 < C * hi ∧ (∀ b o, F1 b = some o → F3 b = some o) ∧ Mag F3 (.slice uo (nd 1000000000 R1) uc) R1 ∧ St 53 [(8, .int .i64 (j : Int)), (3, .pointer (some ⟨b3, 0, none⟩)), (6, .pointer (some ⟨b6, 0, none⟩)), (7, .pointer (some ⟨b7, 0, none⟩)), (10, .int .i64 (lo : Int)), (11, .int .i64 (hi : Int))] W0 F1 KK F3 [[(b7, .cells ⟨[.slice uo (nd 1000000000 R1) uc]⟩ 91 (0, 0))], [(b6, .cells ⟨[.slice (some ⟨bq, 0, none⟩) K K]⟩ 91 (0, 0))], gq, [(b3, .cells ⟨[.slice co KC cc]⟩ 91 (0, 0))]] a w') ?_ ?_
    · (refine ⟨1000000000, 0, 1000000000, F1.add g, rfl, by decide, Nat.le_refl _, by omega, hR1C, hle, hu1, ?_⟩; refine S.keep ?_; repeat (first | exact trivial | refine ⟨rfl, ?_⟩))
    (clear S; rintro m a w ⟨lo, hi, F3, rfl, hlh, hhi, hlo, hRhi, hF3, hu3, S⟩)
    (refine wpIn_seq_k ?_; intro Kq10 hKq10)
    (refine wpIn_seq_k ?_; intro Kq11 hKq11)
    refine wpi_region rfl ?_
    iterate 2 (refine wpl_p S rfl rfl rfl ?_; clear S a; intro a S)
    (refine wpl_s S rfl rfl rfl ?_; clear S a; intro a S)
    (refine wpl_p S rfl rfl rfl ?_; clear S a; intro a S)
    (refine wpList_nil (hKq11 _ _ ?_); try clear hKq11 Kq11)
    refine wpi_split S rfl (fun h => ?_) (fun h => ?_)
    · (skip; (try simp only [tq] at h))
      refine wpIn_skip ?_
      (refine hKq10 _ _ ?_; try (clear hKq10 Kq10))
      refine wpIn_block ?_
      (refine wpIn_seq_k ?_; intro Kq12 hKq12)
      refine wpi_region rfl ?_
      iterate 2 (refine wpl_p S rfl rfl rfl ?_; clear S a; intro a S)
      (refine wpl_a S rfl rfl rfl ?_; clear S a; intro a S)
      (refine wpl_v S rfl rfl rfl (sv_quo S rfl rfl rfl (by first | omega | (simp only [List.length_append, List.length_cons, List.length_nil]; omega))) ?_; clear S a; intro a S)
      (refine wpl_p S rfl rfl rfl ?_; clear S a; intro a S)
      (refine wpList_nil (hKq12 _ _ ?_); try clear hKq12 Kq12)
      (refine wpIn_seq_k ?_; intro Kq13 hKq13)
      (obtain ⟨mid, hmid⟩ : ∃ mid, mid = (lo + hi) / 2 := ⟨_, rfl⟩; replace S := S.keep (L' := [(8, .int .i64 (j : Int)), (3, .pointer (some ⟨b3, 0, none⟩)), (6, .pointer (some ⟨b6, 0, none⟩)), (7, .pointer (some ⟨b7, 0, none⟩)), (10, .int .i64 (lo : Int)), (11, .int .i64 (hi : Int)), (12, .int .i64 (mid : Int))]) ⟨rfl, rfl, rfl, rfl, rfl, rfl, reg (by omega), trivial⟩)
      (refine wpi_mixM [0, 1, 3, 5] [0, 3] [] (.one 0 (.one 1 (.one 3 (.one 2 (.one 4 (.one 5 .nil)))))) [b3, b7] S mixed rfl (by kernel_rfl) ?_; clear S; intro w S)
      (refine wpm_o b3 S rfl rfl rfl (want_none _ rfl) rfl rfl ?_; clear S a; intro a S)
      (refine wpm_p S rfl rfl rfl (want_none _ rfl) rfl rfl ?_; clear S a; intro a S)
      (refine wpm_o b7 S rfl rfl rfl (want_none _ rfl) rfl rfl ?_; clear S a; intro a S)
      refine wpm_eff rfl rfl (kwa S) ?_
      (first | (refine wpl_callF S rfl rfl rfl rfl rfl rfl (timesCt C mid _ F3 (by omega) (by omega) (huF.mono hF3)) rfl ?_; clear S a; intro t1 F4 a w ht1 hF4 S; skip) | (refine wpl_callF S rfl rfl rfl rfl rfl rfl (timesCt C lo _ F3 (by omega) (by omega) (huF.mono hF3)) rfl ?_; clear S a; intro t1 F4 a w ht1 hF4 S; skip))
      refine wpList_nil ?_
      refine wpm_eff rfl rfl (kwa S) ?_
      (refine wpl_call0 S rfl rfl rfl rfl rfl rfl (sizesCt (C * mid) R1 _ _ F4 (Nat.le_trans (nd_one (by omega) (by rw [hKC]; exact hlC)) (by omega)) (by omega) ht1 (hu3.mono hF4)) rfl ?_; clear S a; intro v a w hv S; subst hv)
      refine wpList_nil ?_
      (refine wpm_p S rfl rfl rfl (want_none _ rfl) rfl rfl ?_; clear S a; intro a S)
      (refine wpm_nil (kwa S) (hKq13 _ _ ?_); try clear hKq13 Kq13)
      refine wpi_split S rfl (fun h => ?_) (fun h => ?_)
      · (skip; (try simp only [tq] at h))
        refine wpi_region rfl ?_
        iterate 2 (refine wpl_p S rfl rfl rfl ?_; clear S a; intro a S)
        refine wpList_nil ?_
        change ∃ m', _ ∧ _
        (first | (refine ⟨hi - mid, by omega, mid, hi, F4, rfl, by omega, hhi, cmp_np h, hRhi, (fun b o h => hF4 _ _ (hF3 _ _ h)), hu3.mono hF4, ?_⟩; refine S.keep ?_; repeat (first | exact trivial | refine ⟨rfl, ?_⟩)) | (refine ⟨mid - lo, by omega, lo, mid, F4, rfl, by omega, by omega, hlo, cmp_ps h, (fun b o h => hF4 _ _ (hF3 _ _ h)), hu3.mono hF4, ?_⟩; refine S.keep ?_; repeat (first | exact trivial | refine ⟨rfl, ?_⟩)))
      (skip; (try simp only [tq] at h))
      refine wpi_region rfl ?_
      iterate 2 (refine wpl_p S rfl rfl rfl ?_; clear S a; intro a S)
      refine wpList_nil ?_
      change ∃ m', _ ∧ _
      (first | (refine ⟨hi - mid, by omega, mid, hi, F4, rfl, by omega, hhi, cmp_np h, hRhi, (fun b o h => hF4 _ _ (hF3 _ _ h)), hu3.mono hF4, ?_⟩; refine S.keep ?_; repeat (first | exact trivial | refine ⟨rfl, ?_⟩)) | (refine ⟨mid - lo, by omega, lo, mid, F4, rfl, by omega, by omega, hlo, cmp_ps h, (fun b o h => hF4 _ _ (hF3 _ _ h)), hu3.mono hF4, ?_⟩; refine S.keep ?_; repeat (first | exact trivial | refine ⟨rfl, ?_⟩)))
    (skip; (try simp only [tq] at h))
    refine wpIn_exit ?_
    (refine hKq9 _ _ ?_; try (clear hKq9 Kq9))
    (refine wpIn_seq_k ?_; intro Kq12 hKq12)
    (have hlod := half_q hlo hRhi hlh (by omega); have hdd := dig_div (A := A) (j := j) b2 hC; rw [← hR1, ← hlod] at hdd; have hrd : R1 - C * lo = remJ 1000000000 A C j := (by rw [rem_step, ← hR1, hlod]; have := Nat.div_add_mod R1 C; omega))
    refine wpi_region rfl ?_
    (refine wpl_l S rfl rfl rfl ?_; clear S a; intro a S)
    iterate 2 (refine wpl_p S rfl rfl rfl ?_; clear S a; intro a S)
    (refine wpl_i S rfl rfl rfl ?_; clear S a; intro a S)
    (refine wpl_storeOwn S rfl rfl rfl rfl rfl hq rfl (by omega) ?_; clear hq S; intro gq w hq S)
    (refine wpList_nil (hKq12 _ _ ?_); try clear hKq12 Kq12)
    (refine wpi_mixM [0, 1, 2] [0, 1] [5] (.one 0 (.one 1 (.one 2 (.one 3 (.one 4 (.one 5 .nil)))))) [b7, b3] S mixed rfl (by kernel_rfl) ?_; clear S; intro w S)
    (refine wpm_o b7 S rfl rfl rfl (want_none _ rfl) rfl rfl ?_; clear S a; intro a S)
    (refine wpm_o b3 S rfl rfl rfl (want_none _ rfl) rfl rfl ?_; clear S a; intro a S)
    (refine wpm_p S rfl rfl rfl (want_none _ rfl) rfl rfl ?_; clear S a; intro a S)
    refine wpm_eff rfl rfl (kwa S) ?_
    (first | (refine wpl_callF S rfl rfl rfl rfl rfl rfl (timesCt C mid _ F3 (by omega) (by omega) (huF.mono hF3)) rfl ?_; clear S a; intro t1 F4 a w ht1 hF4 S; skip) | (refine wpl_callF S rfl rfl rfl rfl rfl rfl (timesCt C lo _ F3 (by omega) (by omega) (huF.mono hF3)) rfl ?_; clear S a; intro t1 F4 a w ht1 hF4 S; skip))
    refine wpList_nil ?_
    refine wpm_eff rfl rfl (kwa S) ?_
    (refine wpl_callF S rfl rfl rfl rfl rfl rfl (minusCt R1 (C * lo) _ _ F4 hlo (by omega) (Nat.le_trans (nd_one (by omega) (by rw [hKC]; exact hlC)) (by omega)) (hu3.mono hF4) ht1) rfl ?_; clear S a; intro u8 F8 a w hu8 hF8 S; have hu80 := hu8; obtain ⟨u8o, u8c, rfl, -, -⟩ := hu80)
    refine wpList_nil ?_
    refine wpm_eff rfl rfl (kwa S) ?_
    (refine wpl_store1 S rfl rfl rfl rfl rfl rfl (by first | (simp; done) | (simp [Value.cells]; done) | exact Nat.le_of_ble_eq_true rfl) ?_; clear S; intro w S)
    refine wpList_nil ?_
    refine wpm_nil (fun h => absurd h (by decide)) ?_
    subst hKK
    refine round_normal S.tr ?_
    (refine ⟨fun b o h => hF8 _ _ (hF4 _ _ (hF3 _ _ (hF2 _ _ h))), _, _, rfl, ?_, own_q hq (congrArg _ ?_)⟩; (rw [← hrd]; exact hu8); rw [hdd])
  · (clear S; intro D F1 G1 a w hF1 hI S)
    (obtain ⟨hF2, rv, gq, rfl, hrv, hq⟩ := hI; have hle9 := add_le (G1 := [[(D, .deferred (some []))], [(b7, .cells ⟨[rv]⟩ 91 (0, 0))], [(b6, .cells ⟨[.slice (some ⟨bq, 0, none⟩) K K]⟩ 91 (0, 0))]]) S; replace S := St.freeze (G1 := [[(D, .deferred (some []))], [(b7, .cells ⟨[rv]⟩ 91 (0, 0))], [(b6, .cells ⟨[.slice (some ⟨bq, 0, none⟩) K K]⟩ 91 (0, 0))]]) S; (simp only [List.cons_append, List.nil_append] at S); have hqf := hq.slC F1; rw [show cel K (fq (A / C) 0) = cel K (dig 1000000000 (A / C)) from cel_congr fun i hi => (by unfold fq; rw [if_pos (Nat.zero_le _)])] at hqf)
    (refine hKq4 _ _ ?_; try (clear hKq4 Kq4))
    (refine wpIn_seq_k ?_; intro Kq13 hKq13)
    (refine wpi_mixM [0, 2] [0, 2] [] (.one 0 (.one 2 (.one 1 (.one 3 (.one 4 .nil))))) [b6, b7] S mixed rfl (by kernel_rfl) ?_; clear S; intro w S)
    (refine wpm_o b6 S rfl rfl rfl (want_none _ rfl) rfl rfl ?_; clear S a; intro a S)
    (refine wpm_o b7 S rfl rfl rfl (want_none _ rfl) rfl rfl ?_; clear S a; intro a S)
    refine wpm_eff rfl rfl (kwa S) ?_
    (first | (refine wpl_call0 S rfl rfl rfl rfl rfl rfl (trimCt R1 _ _ _ hR1lt (by omega) hslg2) rfl ?_; clear S a; intro u1 a w hu1 S; have hu10 := hu1; obtain ⟨uo, uc, rfl, -, -⟩ := hu10) | (refine wpl_call0 S rfl rfl rfl rfl rfl rfl (trimCt (A / C) K _ _ hQ (by omega) hqf) rfl ?_; clear S a; intro u9 a w hu9 S))
    refine wpList_nil ?_
    refine wpm_eff rfl rfl (kwa S) ?_
    (refine wpl_p S rfl rfl rfl ?_; clear S a; intro a S)
    refine wpList_nil ?_
    refine wpm_eff rfl rfl (kwa S) ?_
    (refine wpl_p S rfl rfl rfl ?_; clear S a; intro a S)
    refine wpList_nil ?_
    (refine wpm_nil (kwa S) (hKq13 _ _ ?_); try clear hKq13 Kq13)
    refine wpIn_ret ?_
    (refine fin_retM S fun w S => ?_; try (dsimp only at S))
    refine ⟨_, results2 Tryz.results104 (RV.tmp S rfl) (RV.tmp S rfl), ?_⟩
    (have h9 := hrv.mono hle9; rw [rem_zero] at h9; exact ⟨_, _, rfl, hu9, h9⟩)
  (clear S; intro D F1 G1 a w hF1 hI S)
  exact hI.elim
end Go.Proofs.YtigblodhdfnleaaGreatDoor
namespace Go.Proofs.YtigblodhdfnleaaGreatDoor
open Go Go.Wk Go.Num
set_option linter.unusedSimpArgs false
set_option linter.unusedVariables false

def valS (s : List UInt8) : Int := toZ (negS s, decV (bodyS s))
def showZ (z : Int) : List UInt8 × Int := showS (decide (z < 0)) z.natAbs
def ansZ (e : Int) (x : List UInt8 × Int) : List UInt8 × Int := if e = 0 then x else ([], e)
theorem showS_zero (n : Bool) : showS n 0 = ([48], 0) := by unfold showS; rw [if_pos rfl]
theorem showS_toZ (n : Bool) (N : Nat) : showS n N = showZ (toZ (n, N)) := by
  unfold showZ
  rcases Nat.eq_zero_or_pos N with e | e
  · subst e
    have : toZ (n, 0) = 0 := by unfold toZ; cases n <;> rfl
    rw [this, showS_zero]; rfl
  · cases n
    · have h : toZ (false, N) = (N : Int) := rfl
      rw [h, show decide ((N : Int) < 0) = false by simp]; rfl
    · have h : toZ (true, N) = -(N : Int) := rfl
      rw [h, show decide (-(N : Int) < 0) = true by simp; omega, Int.natAbs_neg]; rfl
theorem toZ_not (n : Bool) (N : Nat) : toZ (!n, N) = - toZ (n, N) := by cases n <;> simp [toZ]
theorem toZ_mul (n m : Bool) (N M : Nat) : toZ (n != m, N * M) = toZ (n, N) * toZ (m, M) := by
  cases n <;> cases m <;> simp [toZ, Int.neg_mul, Int.mul_neg]
theorem addA_eq (s t : List UInt8) : addA s t = ansZ (bothE s t) (showZ (valS s + valS t)) := by
  unfold addA ansZ
  split
  · rw [showS_toZ]; congr 1; exact toZ_addS _ _ _ _
  · rfl
theorem subA_eq (s t : List UInt8) : subA s t = ansZ (bothE s t) (showZ (valS s - valS t)) := by
  unfold subA ansZ
  split
  · rw [showS_toZ]; congr 1
    rw [Int.sub_eq_add_neg]
    have := toZ_addS (negS s) (decV (bodyS s)) (!negS t) (decV (bodyS t))
    rw [toZ_not] at this; exact this
  · rfl
theorem mulA_eq (s t : List UInt8) : mulA s t = ansZ (bothE s t) (showZ (valS s * valS t)) := by
  unfold mulA ansZ
  split
  · rw [showS_toZ, toZ_mul]; rfl
  · rfl
theorem negA_eq (s : List UInt8) : negA s = ansZ (checkS s) (showZ (- valS s)) := by
  unfold negA ansZ
  split
  · rw [showS_toZ, toZ_not]; rfl
  · rfl

/-! ### a number's text -/
theorem head_dd {N : Nat} (h : N ≠ 0) : (Lib.decDigits N).head? ≠ some 48 := by
  induction N using Nat.strongRecOn with
  | _ N ih =>
    by_cases hN : N < 10
    · rw [dd_small hN]
      intro e
      simp only [List.head?_cons, Option.some.injEq] at e
      have e2 := congrArg UInt8.toNat e
      rw [UInt8.toNat_ofNat', Nat.mod_eq_of_lt (by omega)] at e2
      have : (48 : UInt8).toNat = 48 := rfl
      omega
    · rw [dd_big hN]
      have hq : N / 10 ≠ 0 := by omega
      have := ih (N / 10) (by omega) hq
      have hne := dd_ne (N / 10)
      cases hd : Lib.decDigits (N / 10) with
      | nil => exact absurd hd hne
      | cons c r => rw [hd] at this; simpa using this
theorem head_isD {l : List UInt8} (h : l.all isD = true) : l.head? ≠ some 45 := by
  cases l with
  | nil => simp
  | cons c r =>
    rw [List.all_cons, Bool.and_eq_true] at h
    intro e
    simp only [List.head?_cons, Option.some.injEq] at e
    rw [e] at h; exact absurd h.1 (by decide)
theorem body_pos {l : List UInt8} (h : l.all isD = true) : bodyS l = l ∧ negS l = false := by
  have := head_isD h
  unfold bodyS negS; rw [if_neg this]; simp [this]
theorem body_neg (l : List UInt8) : bodyS (45 :: l) = l ∧ negS (45 :: l) = true := by unfold bodyS negS; simp
/-- What is shown is a number, and the one that it was. -/
theorem show_ok {z : Int} (h : (showZ z).2 = 0) : checkS (showZ z).1 = 0 ∧ valS (showZ z).1 = z := by
  unfold showZ showS at h ⊢
  by_cases h0 : z.natAbs = 0
  · rw [if_pos h0]
    have : z = 0 := by omega
    subst this
    exact ⟨by decide, by decide⟩
  · rw [if_neg h0] at h ⊢
    split at h
    · cases h
    · rename_i hl
      rw [if_neg hl]
      have hall := dd_isD z.natAbs
      have hne := dd_ne z.natAbs
      have hh := head_dd h0
      by_cases hz : z < 0
      · simp only [hz, decide_true, if_true, List.cons_append, List.nil_append]
        obtain ⟨e1, e2⟩ := body_neg (Lib.decDigits z.natAbs)
        refine ⟨?_, ?_⟩
        · unfold checkS
          rw [e1, if_neg (by intro h; rcases h with h | h; exact hne h; exact hh h.1), if_pos hall, if_neg hl]
        · unfold valS; rw [e1, e2, dd_val]; show -((z.natAbs : Nat) : Int) = z; omega
      · simp only [hz, decide_false, Bool.false_eq_true, if_false, List.nil_append]
        obtain ⟨e1, e2⟩ := body_pos hall
        refine ⟨?_, ?_⟩
        · unfold checkS
          rw [e1, if_neg (by intro h; rcases h with h | h; exact hne h; exact hh h.1), if_pos hall, if_neg hl]
        · unfold valS; rw [e1, e2, dd_val]; show ((z.natAbs : Nat) : Int) = z; omega
theorem dd_unique : ∀ (n : Nat) (l : List UInt8), l.length = n → l.all isD = true → l ≠ [] → (l.head? = some 48 → l = [48]) → Lib.decDigits (decV l) = l := by
  intro n
  induction n with
  | zero => intro l hl _ hne; exact absurd (List.length_eq_zero_iff.1 hl) hne
  | succ n ih =>
    intro l hl hall hne hh
    obtain ⟨m, c, rfl⟩ : ∃ m c, l = m ++ [c] := ⟨l.dropLast, l.getLast hne, (List.dropLast_concat_getLast hne).symm⟩
    rw [List.all_append, Bool.and_eq_true] at hall
    have hc : isD c = true := by simpa using hall.2
    have hc2 := (isD_iff c).1 hc
    have hdv : dv c = c.toNat - 48 := rfl
    have hce : UInt8.ofNat (48 + dv c) = c := by rw [hdv, show 48 + (c.toNat - 48) = c.toNat by omega, UInt8.ofNat_toNat]
    rw [decV_snoc]
    cases m with
    | nil =>
      rw [decV_nil, Nat.mul_zero, Nat.zero_add, dd_small (dv_lt hc), hce]; rfl
    | cons x r =>
      have hx : x ≠ 48 := fun e => by
        have := hh (by rw [e]; rfl)
        have := congrArg List.length this
        simp at this
      have hm := ih (x :: r) (by simpa using hl) hall.1 (by simp) (fun e => absurd (by simpa using e) hx)
      have hpos : 0 < decV (x :: r) := by
        rcases Nat.eq_zero_or_pos (decV (x :: r)) with e | e
        · rw [e, dd_small (by decide)] at hm
          simp only [List.cons.injEq] at hm
          exact absurd hm.1.symm hx
        · exact e
      have hlt := dv_lt hc
      rw [dd_big (by omega), show (10 * decV (x :: r) + dv c) / 10 = decV (x :: r) by omega, show (10 * decV (x :: r) + dv c) % 10 = dv c by omega, hm, hce]
theorem check_parts {s : List UInt8} (h : checkS s = 0) : (bodyS s).all isD = true ∧ (bodyS s).length ≤ 200 ∧ bodyS s ≠ [] ∧ ((bodyS s).head? = some 48 → s = [48]) := by
  obtain ⟨h1, h2, h3⟩ := check_digits h
  refine ⟨h1, h2, h3, fun e => ?_⟩
  by_cases e2 : s = [48]
  · exact e2
  · unfold checkS at h
    rw [if_pos (Or.inr ⟨e, e2⟩)] at h; cases h
theorem canon_body {s : List UInt8} (h : checkS s = 0) : Lib.decDigits (decV (bodyS s)) = bodyS s := by
  obtain ⟨h1, h2, h3, h4⟩ := check_parts h
  refine dd_unique _ _ rfl h1 h3 fun e => ?_
  have := h4 e; subst this; decide
theorem s_of_body (s : List UInt8) : s = (if negS s = true then [45] else []) ++ bodyS s := by
  unfold negS bodyS
  cases s with
  | nil => simp
  | cons c r => by_cases h : c = 45 <;> simp [h]
/-- A number is shown as it is written. -/
theorem show_val {s : List UInt8} (h : checkS s = 0) : showZ (valS s) = (s, 0) := by
  obtain ⟨h1, h2, h3, h4⟩ := check_parts h
  have hc := canon_body h
  rw [show showZ (valS s) = showS (negS s) (decV (bodyS s)) from (showS_toZ _ _).symm]
  unfold showS
  by_cases h0 : decV (bodyS s) = 0
  · rw [if_pos h0]
    rw [h0, dd_small (by decide)] at hc
    have := h4 (by rw [← hc]; rfl)
    rw [this]
  · rw [if_neg h0, hc, if_neg (by omega), ← s_of_body]
theorem val_zero {s : List UInt8} (h : checkS s = 0) : valS s = 0 ↔ s = [48] := by
  constructor
  · intro e
    have := show_val h
    rw [e] at this
    exact (congrArg Prod.fst this).symm
  · rintro rfl; decide
theorem dd_len_lt {N m : Nat} (hm : m ≠ 0) : (Lib.decDigits N).length ≤ m ↔ N < 10 ^ m := by
  constructor
  · intro h
    have := decV_lt _ (dd_isD N)
    rw [dd_val] at this
    exact Nat.lt_of_lt_of_le this (Nat.pow_le_pow_right (by decide) h)
  · intro h; exact dd_len h hm
theorem showZ_err (z : Int) (M : Nat) (hM : M = 200) : (showZ z).2 = 0 ↔ z.natAbs < 10 ^ M := by
  have h0 : M ≠ 0 := by omega
  have := dd_len_lt (N := z.natAbs) h0
  unfold showZ showS
  by_cases hz : z.natAbs = 0
  · rw [if_pos hz]; simp [hz]; exact Nat.pow_pos (by decide)
  · rw [if_neg hz, ← this]
    split
    · constructor
      · intro h; cases h
      · intro h; omega
    · exact ⟨fun _ => by omega, fun _ => rfl⟩
theorem t2 : 2 ≤ 10 := by decide
theorem toZ_abs (n : Bool) (N : Nat) : (toZ (n, N)).natAbs = N := by cases n <;> simp [toZ]
theorem toZ_neg {N : Nat} (n : Bool) (h : N ≠ 0) : decide (toZ (n, N) < 0) = n := by cases n <;> simp [toZ] <;> omega
theorem tdiv_sign {x y : Int} : toZ (decide (x < 0) != decide (y < 0), x.natAbs / y.natAbs) = x.tdiv y := by
  by_cases h1 : x < 0 <;> by_cases h2 : y < 0
  · obtain ⟨a, rfl⟩ := Int.eq_negSucc_of_lt_zero h1
    obtain ⟨b, rfl⟩ := Int.eq_negSucc_of_lt_zero h2
    simp [toZ, Int.tdiv, h1, h2]
  · obtain ⟨a, rfl⟩ := Int.eq_negSucc_of_lt_zero h1
    obtain ⟨b, rfl⟩ := Int.eq_ofNat_of_zero_le (Int.not_lt.1 h2)
    simp [toZ, Int.tdiv, h1, h2]
  · obtain ⟨a, rfl⟩ := Int.eq_ofNat_of_zero_le (Int.not_lt.1 h1)
    obtain ⟨b, rfl⟩ := Int.eq_negSucc_of_lt_zero h2
    simp [toZ, Int.tdiv, h1, h2]
  · obtain ⟨a, rfl⟩ := Int.eq_ofNat_of_zero_le (Int.not_lt.1 h1)
    obtain ⟨b, rfl⟩ := Int.eq_ofNat_of_zero_le (Int.not_lt.1 h2)
    simp [toZ, Int.tdiv, h1, h2]
theorem tmod_sign {x y : Int} : toZ (decide (x < 0), x.natAbs % y.natAbs) = x.tmod y := by
  by_cases h1 : x < 0 <;> by_cases h2 : y < 0
  · obtain ⟨a, rfl⟩ := Int.eq_negSucc_of_lt_zero h1
    obtain ⟨b, rfl⟩ := Int.eq_negSucc_of_lt_zero h2
    simp [toZ, Int.tmod, h1, h2]
  · obtain ⟨a, rfl⟩ := Int.eq_negSucc_of_lt_zero h1
    obtain ⟨b, rfl⟩ := Int.eq_ofNat_of_zero_le (Int.not_lt.1 h2)
    simp [toZ, Int.tmod, h1, h2]
  · obtain ⟨a, rfl⟩ := Int.eq_ofNat_of_zero_le (Int.not_lt.1 h1)
    obtain ⟨b, rfl⟩ := Int.eq_negSucc_of_lt_zero h2
    simp [toZ, Int.tmod, h1, h2]
  · obtain ⟨a, rfl⟩ := Int.eq_ofNat_of_zero_le (Int.not_lt.1 h1)
    obtain ⟨b, rfl⟩ := Int.eq_ofNat_of_zero_le (Int.not_lt.1 h2)
    simp [toZ, Int.tmod, h1, h2]
theorem dd_nd {N : Nat} (h : N ≠ 0) : (Lib.decDigits N).length = nd 10 N := by
  have h1 : nd 10 N ≤ (Lib.decDigits N).length := nd_le (by have := decV_lt _ (dd_isD N); rwa [dd_val] at this) t2
  have h2 := nd_pos t2 (S := N) (by omega)
  have h3 := dd_len (lt_nd t2 N) (by omega)
  omega
end Go.Proofs.YtigblodhdfnleaaGreatDoor
