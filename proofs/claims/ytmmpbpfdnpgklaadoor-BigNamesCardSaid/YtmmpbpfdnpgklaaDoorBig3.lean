/- The walk of of of package big: the digits of the number that a text is. -/
import Derived.Test.YtmmpbpfdnpgklaaDoorBig2
namespace Go.Proofs.YtmmpbpfdnpgklaaDoor
open Go Go.Wk Go.Num
set_option linter.unusedSimpArgs false
set_option linter.unusedVariables false
attribute [local irreducible] Go.wpList Go.Code.wp Go.wpStill Go.Wk.wpPre Go.bodyPost Go.Calls Go.Wk.Ct Go.Wk.OwnS

/-- The value u is a number of package big: its sign, and the digits of N. -/
def NumV (F : Heap) (u : Value) (neg : Bool) (N : Nat) : Prop := ∃ ps, u = .agg ⟨[.bool neg, ps]⟩ ∧ Mag F ps N
theorem NumV.mono {F F' : Heap} {u : Value} {neg N} (hF : ∀ b o, F b = some o → F' b = some o) (h : NumV F u neg N) : NumV F' u neg N := by
  obtain ⟨ps, h1, h2⟩ := h; exact ⟨ps, h1, h2.mono hF⟩
theorem dv_cast {c : UInt8} (h : isD c = true) : ((c.toNat : Int) - 48) = ((dv c : Nat) : Int) := by
  have := (isD_iff c).1 h; unfold dv; omega
theorem own_snoc {e : TypeId} {v : Value} {k : Nat} {f : Nat → Nat} {gr : Grp} {x : Value} (h : OwnS e 1 v (k + 1) (cel k f ++ [x]) gr) (hx : x = .int .i64 ((f k : Nat) : Int)) : OwnS e 1 v (k + 1) (cel (k + 1) f) gr := by
  rw [cel_succ, ← hx]; exact h

set_option maxHeartbeats 2000000 in
theorem ofCt (s : List UInt8) (F : Heap) (hck : checkS s = 0) : Ct Tryd.prog 47 [.string (bs s)] F [] (fun F' _ u => NumV F' u (negS s) (decV (bodyS s))) := by
  obtain ⟨hall, hlen, hne⟩ := check_digits hck
  have hsl : s.length ≤ 201 := by
    have h1 : s.length ≤ (bodyS s).length + 1 := by unfold bodyS; split <;> simp; omega
    omega
  have htd := trimDashCt s F (by omega)
  have hneg : decide (((bodyS s).length : Int) < (s.length : Int)) = negS s := by
    unfold negS; simp only [Int.ofNat_lt, bodyS_lt]
  generalize hd : bodyS s = d at *
  refine Ct.enter Tryd.func47 rfl Tryd.ntmps47 rfl fun w0 a S => ?_
  (refine wp_seq_k ?_; intro Kq1 hKq1)
  refine wp_region_lit ?_
  (refine wpl_alloc S rfl rfl rfl rfl ?_; clear S a; intro b1 a w S)
  refine wpList_nil ?_
  (refine hKq1 _ _ ?_; try (clear hKq1 Kq1))
  (refine wp_seq_k ?_; intro Kq2 hKq2)
  refine wp_region_lit ?_
  (refine wpl_v S rfl rfl rfl (sv_pure S rfl) ?_; clear S a; intro a S)
  (refine wpl_call0 S rfl rfl rfl rfl rfl rfl (htd) rfl ?_; clear S a; intro v a w hv S; subst hv)
  (refine wpl_v S rfl rfl rfl (sv_pure S rfl) ?_; clear S a; intro a S)
  refine wpList_nil ?_
  (refine hKq2 _ _ ?_; try (clear hKq2 Kq2))
  (refine wp_seq_k ?_; intro Kq3 hKq3)
  refine wp_region_lit ?_
  (refine wpl_v S rfl rfl rfl (sv_pure S rfl) ?_; clear S a; intro a S)
  (refine wpl_v S rfl rfl rfl (sv_lenS S rfl rfl) ?_; clear S a; intro a S)
  (refine wpl_v S rfl rfl rfl (sv_pure S rfl) ?_; clear S a; intro a S)
  (refine wpl_v S rfl rfl rfl (sv_lenS S rfl rfl) ?_; clear S a; intro a S)
  (refine wpl_v S rfl rfl rfl (sv_pure S rfl) ?_; clear S a; intro a S)
  (refine wpl_v S rfl rfl rfl (sv_build S rfl rfl rfl) ?_; clear S a; intro a S)
  (refine wpl_alloc S rfl rfl rfl rfl ?_; clear S a; intro b2 a w S)
  (refine wpl_storeO S rfl rfl rfl rfl rfl (by rfl) (by simp [Value.cells, Value.oneCell', splice]) (by rfl) ?_; clear S; intro w S)
  refine wpList_nil ?_
  (refine hKq3 _ _ ?_; try (clear hKq3 Kq3))
  (refine wp_seq_k ?_; intro Kq4 hKq4)
  (refine wp_seq_k ?_; intro Kq5 hKq5)
  refine wp_region_lit ?_
  (refine wpl_v S rfl rfl rfl (sv_pure S rfl) ?_; clear S a; intro a S)
  (refine wpl_v S rfl rfl rfl (sv_lenS S rfl rfl) ?_; clear S a; intro a S)
  (refine wpl_v S rfl rfl rfl (sv_pure S rfl) ?_; clear S a; intro a S)
  refine wpList_nil ?_
  (refine hKq5 _ _ ?_; try (clear hKq5 Kq5))
  refine wp_block ?_
  refine wpc_loop (fun m a w' => ∃ (e : Int) (c : Nat) (v : Value) (g : Grp), m = e.toNat ∧ e + 9 * c = d.length ∧ -9 < e ∧ OwnS 2 1 v c (cel c (dig 1000000000 (decV d))) g ∧ St 49 [(2, .pointer (some ⟨b1, 0, none⟩)), (4, .pointer (some ⟨b2, 0, none⟩)), (3, .string (bs d)), (5, .int .i64 e)] w0 F [] F [g, [(b2, .cells ⟨[.bool (negS s), v]⟩ 49 (0, 0))], [(b1, .cells ⟨[.bool false, .slice none 0 0]⟩ 49 (0, 0))]] a w') ?_ ?_
  · (refine ⟨_, (d.length : Int), 0, _, _, rfl, by omega, by omega, OwnS.nil _ _, ?_⟩; replace S := S.nilg; rw [hneg] at S; refine S.keep ?_; repeat (first | exact trivial | refine ⟨rfl, ?_⟩))
  · (clear S; rintro m a w ⟨e, c, v, g, rfl, he, he9, hown, S⟩)
    (refine wp_seq_k ?_; intro Kq6 hKq6)
    (refine wp_seq_k ?_; intro Kq7 hKq7)
    refine wp_region_lit ?_
    (refine wpl_v S rfl rfl rfl (sv_pure S rfl) ?_; clear S a; intro a S)
    (refine wpl_v S rfl rfl rfl (sv_pure S rfl) ?_; clear S a; intro a S)
    refine wpList_nil ?_
    (refine hKq7 _ _ ?_; try (clear hKq7 Kq7))
    refine wpc_split S rfl (fun h => ?_) (fun h => ?_)
    · (skip; (try simp only [decide_eq_true_eq, decide_eq_false_iff_not, beq_iff_eq, bne_iff_ne, bne_eq_false_iff_eq, beq_eq_false_iff_ne, ne_eq, Bool.not_eq_true', Bool.not_eq_false', Bool.not_eq_true, Bool.not_eq_false, Bool.not_true, Bool.not_false, Int.ofNat_lt, Int.ofNat_le, Nat.not_lt, Nat.not_le] at h))
      refine wp_skip ?_
      (refine hKq6 _ _ ?_; try (clear hKq6 Kq6))
      (refine wp_seq_k ?_; intro Kq8 hKq8)
      refine wp_block ?_
      (refine wp_seq_k ?_; intro Kq9 hKq9)
      refine wp_region_lit ?_
      (refine wpl_v S rfl rfl rfl (sv_pure S rfl) ?_; clear S a; intro a S)
      refine wpList_nil ?_
      (refine hKq9 _ _ ?_; try (clear hKq9 Kq9))
      (refine wp_seq_k ?_; intro Kq10 hKq10)
      (refine wp_seq_k ?_; intro Kq11 hKq11)
      refine wp_region_lit ?_
      (refine wpl_v S rfl rfl rfl (sv_pure S rfl) ?_; clear S a; intro a S)
      (refine wpl_v S rfl rfl rfl (sv_sub S rfl rfl rfl (by first | omega | (simp only [List.length_append, List.length_cons, List.length_nil]; omega))) ?_; clear S a; intro a S)
      first | (refine wpl_v S rfl rfl rfl (sv_maxN S rfl rfl rfl) ?_; clear S a; intro a S) | (refine wpl_v S rfl rfl rfl (sv_max0 S rfl rfl rfl) ?_; clear S a; intro a S)
      (refine wpl_v S rfl rfl rfl (sv_pure S rfl) ?_; clear S a; intro a S)
      refine wpList_nil ?_
      (refine hKq11 _ _ ?_; try (clear hKq11 Kq11))
      refine wp_block ?_
      refine wpc_loop (fun m a w' => ∃ (i n : Nat), m = e.toNat - i ∧ (e - 9).toNat ≤ i ∧ i ≤ e.toNat ∧ decV (d.take i) = decV (d.take (e - 9).toNat) * 10 ^ (i - (e - 9).toNat) + n ∧ n < 10 ^ (i - (e - 9).toNat) ∧ St 49 [(2, .pointer (some ⟨b1, 0, none⟩)), (4, .pointer (some ⟨b2, 0, none⟩)), (3, .string (bs d)), (5, .int .i64 e), (6, .int .i64 n), (7, .int .i64 i)] w0 F [] F [g, [(b2, .cells ⟨[.bool (negS s), v]⟩ 49 (0, 0))], [(b1, .cells ⟨[.bool false, .slice none 0 0]⟩ 49 (0, 0))]] a w') ?_ ?_
      · (refine ⟨_, (e - 9).toNat, 0, rfl, Nat.le_refl _, by omega, by simp, by simp, ?_⟩; refine S.keep ?_; repeat (first | exact trivial | refine ⟨rfl, ?_⟩))
      · (clear S; rintro m a w ⟨i, n, rfl, hi1, hi2, hdec, hnl, S⟩)
        (refine wp_seq_k ?_; intro Kq12 hKq12)
        (refine wp_seq_k ?_; intro Kq13 hKq13)
        refine wp_region_lit ?_
        (refine wpl_v S rfl rfl rfl (sv_pure S rfl) ?_; clear S a; intro a S)
        (refine wpl_v S rfl rfl rfl (sv_pure S rfl) ?_; clear S a; intro a S)
        (refine wpl_v S rfl rfl rfl (sv_pure S rfl) ?_; clear S a; intro a S)
        refine wpList_nil ?_
        (refine hKq13 _ _ ?_; try (clear hKq13 Kq13))
        refine wpc_split S rfl (fun h => ?_) (fun h => ?_)
        · (skip; (try simp only [decide_eq_true_eq, decide_eq_false_iff_not, beq_iff_eq, bne_iff_ne, bne_eq_false_iff_eq, beq_eq_false_iff_ne, ne_eq, Bool.not_eq_true', Bool.not_eq_false', Bool.not_eq_true, Bool.not_eq_false, Bool.not_true, Bool.not_false, Int.ofNat_lt, Int.ofNat_le, Nat.not_lt, Nat.not_le] at h))
          refine wp_skip ?_
          (refine hKq12 _ _ ?_; try (clear hKq12 Kq12))
          (refine wp_seq_k ?_; intro Kq14 hKq14)
          refine wp_block ?_
          (have hisd := all_getD hall (k := i) (by omega); have hdv := dv_cast hisd; have hdl := dv_lt hisd; have hn9 : n < 10 ^ 9 := Nat.lt_of_lt_of_le hnl (Nat.pow_le_pow_right (by decide) (by omega)); have hisd2 := (isD_iff _).1 hisd)
          refine wp_region_lit ?_
          (refine wpl_v S rfl rfl rfl (sv_pure S rfl) ?_; clear S a; intro a S)
          (refine wpl_v S rfl rfl rfl (sv_mul S rfl rfl rfl (by first | omega | (simp only [List.length_append, List.length_cons, List.length_nil]; omega))) ?_; clear S a; intro a S)
          (refine wpl_v S rfl rfl rfl (sv_pure S rfl) ?_; clear S a; intro a S)
          (refine wpl_v S rfl rfl rfl (sv_pure S rfl) ?_; clear S a; intro a S)
          (refine wpl_v S rfl rfl rfl (sv_indexSN (i := i) S rfl rfl rfl (by omega)) ?_; clear S a; intro a S)
          (refine wpl_v S rfl rfl rfl (sv_sub8 S rfl rfl rfl (by first | omega | (simp only [List.length_append, List.length_cons, List.length_nil]; omega))) ?_; clear S a; intro a S)
          (refine wpl_v S rfl rfl rfl (sv_conv_i64 S rfl rfl (by first | omega | (simp only [List.length_append, List.length_cons, List.length_nil]; omega))) ?_; clear S a; intro a S)
          (refine wpl_v S rfl rfl rfl (sv_add S rfl rfl rfl (by first | omega | (simp only [List.length_append, List.length_cons, List.length_nil]; omega))) ?_; clear S a; intro a S)
          (refine wpl_v S rfl rfl rfl (sv_pure S rfl) ?_; clear S a; intro a S)
          refine wpList_nil ?_
          (refine hKq14 _ _ ?_; try (clear hKq14 Kq14))
          refine wp_region_lit ?_
          (refine wpl_v S rfl rfl rfl (sv_pure S rfl) ?_; clear S a; intro a S)
          (refine wpl_v S rfl rfl rfl (sv_add S rfl rfl rfl (by first | omega | (simp only [List.length_append, List.length_cons, List.length_nil]; omega))) ?_; clear S a; intro a S)
          (refine wpl_v S rfl rfl rfl (sv_pure S rfl) ?_; clear S a; intro a S)
          refine wpList_nil ?_
          change ∃ m', _ ∧ _
          (refine ⟨_, by omega, i + 1, 10 * n + dv (d.getD i 0), rfl, by omega, by omega, ?_, ?_, ?_⟩; rotate_left 2; (rw [hdv] at S; refine S.keep ?_; repeat (first | exact trivial | refine ⟨rfl, ?_⟩)); (rw [decV_take_succ (by omega), show i + 1 - (e - 9).toNat = (i - (e - 9).toNat) + 1 by omega, Nat.pow_succ]; exact dec_step hdec); (rw [show i + 1 - (e - 9).toNat = (i - (e - 9).toNat) + 1 by omega, Nat.pow_succ]; omega))
        · (skip; (try simp only [decide_eq_true_eq, decide_eq_false_iff_not, beq_iff_eq, bne_iff_ne, bne_eq_false_iff_eq, beq_eq_false_iff_ne, ne_eq, Bool.not_eq_true', Bool.not_eq_false', Bool.not_eq_true, Bool.not_eq_false, Bool.not_true, Bool.not_false, Int.ofNat_lt, Int.ofNat_le, Nat.not_lt, Nat.not_le] at h))
          refine wp_exit ?_
          (refine hKq10 _ _ ?_; try (clear hKq10 Kq10))
          refine wp_region_lit ?_
          (refine wpl_v S rfl rfl rfl (sv_fieldAddr S rfl rfl rfl inferInstance rfl) ?_; clear S a; intro a S)
          first | (refine wpl_v S rfl rfl rfl (sv_loadO S rfl rfl (by rfl)) ?_; clear S a; intro a S) | (refine wpl_v S rfl rfl rfl (sv_loadF S rfl rfl (by assumption)) ?_; clear S a; intro a S)
          (refine wpl_v S rfl rfl rfl (sv_pure S rfl) ?_; clear S a; intro a S)
          (refine wpl_append S rfl rfl rfl rfl rfl rfl rfl rfl rfl rfl rfl (fun _ => rfl) hown (by rfl) (by simp [Value.cells, splice, splice]) (by simp [Value.cells, Value.oneCell', splice, splice]) rfl (by rfl) (by rfl) rfl (by omega) (by omega) ?_; clear hown S a; intro v u g a w hown S)
          (refine wpl_v S rfl rfl rfl (sv_fieldAddr S rfl rfl rfl inferInstance rfl) ?_; clear S a; intro a S)
          (refine wpl_store1 S rfl rfl rfl rfl rfl hown.oneCell (by simp) ?_; clear S; intro w S)
          refine wpList_nil ?_
          (refine hKq8 _ _ ?_; try (clear hKq8 Kq8))
          refine wp_region_lit ?_
          (refine wpl_v S rfl rfl rfl (sv_pure S rfl) ?_; clear S a; intro a S)
          (refine wpl_v S rfl rfl rfl (sv_sub S rfl rfl rfl (by first | omega | (simp only [List.length_append, List.length_cons, List.length_nil]; omega))) ?_; clear S a; intro a S)
          (refine wpl_v S rfl rfl rfl (sv_pure S rfl) ?_; clear S a; intro a S)
          refine wpList_nil ?_
          change ∃ m', _ ∧ _
          (refine ⟨_, by omega, e - 9, c + 1, v, g, rfl, by omega, by omega, own_snoc hown (congrArg _ ?_), ?_⟩; rotate_left 1; (refine S.keep ?_; repeat (first | exact trivial | refine ⟨rfl, ?_⟩)); rw [dig_chunk hall (e := e.toNat) (by omega)]; have hie : i = e.toNat := (by omega); subst hie; rw [chunk (f := (e - 9).toNat) (by omega) hdec hnl])
    · (skip; (try simp only [decide_eq_true_eq, decide_eq_false_iff_not, beq_iff_eq, bne_iff_ne, bne_eq_false_iff_eq, beq_eq_false_iff_ne, ne_eq, Bool.not_eq_true', Bool.not_eq_false', Bool.not_eq_true, Bool.not_eq_false, Bool.not_true, Bool.not_false, Int.ofNat_lt, Int.ofNat_le, Nat.not_lt, Nat.not_le] at h))
      refine wp_exit ?_
      (refine hKq4 _ _ ?_; try (clear hKq4 Kq4))
      (refine wp_seq_k ?_; intro Kq8 hKq8)
      (replace S := St.freeze (G1 := []) S; simp only [List.nil_append] at S; have hsl3 := hown.slC F; have hlt : decV d < 1000000000 ^ c := Nat.lt_of_lt_of_le (decV_lt d hall) (by rw [show (1000000000 : Nat) = 10 ^ 9 by decide, ← Nat.pow_mul]; exact Nat.pow_le_pow_right (by decide) (by omega)))
      refine wp_region_lit ?_
      (refine wpl_v S rfl rfl rfl (sv_fieldAddr S rfl rfl rfl inferInstance rfl) ?_; clear S a; intro a S)
      first | (refine wpl_v S rfl rfl rfl (sv_loadO S rfl rfl (by rfl)) ?_; clear S a; intro a S) | (refine wpl_v S rfl rfl rfl (sv_loadF S rfl rfl (by assumption)) ?_; clear S a; intro a S)
      (refine wpl_call0 S rfl rfl rfl rfl rfl rfl (trimCt (decV d) c _ _ hlt (by omega) hsl3) rfl ?_; clear S a; intro u a w hu S; have hu0 := hu; obtain ⟨uo, uc, rfl, hu1, hu2⟩ := hu)
      (refine wpl_v S rfl rfl rfl (sv_fieldAddr S rfl rfl rfl inferInstance rfl) ?_; clear S a; intro a S)
      (refine wpl_store1 S rfl rfl rfl rfl rfl rfl (by first | (simp; done) | (simp [Value.cells]; done)) ?_; clear S; intro w S)
      refine wpList_nil ?_
      (refine hKq8 _ _ ?_; try (clear hKq8 Kq8))
      (refine wp_seq_k ?_; intro Kq9 hKq9)
      refine wp_region_lit ?_
      first | (refine wpl_v S rfl rfl rfl (sv_loadAO S rfl rfl (by rfl)) ?_; clear S a; intro a S) | (refine wpl_v S rfl rfl rfl (sv_loadAF S rfl rfl (by assumption) (by rfl)) ?_; clear S a; intro a S)
      (refine wpl_storeO S rfl rfl rfl rfl rfl (by rfl) (by simp [Value.cells, Value.oneCell', splice]) (by rfl) ?_; clear S; intro w S)
      refine wpList_nil ?_
      (refine hKq9 _ _ ?_; try (clear hKq9 Kq9))
      refine wp_ret ?_
      refine fin_ret S (results1 Tryd.results47 (RV.cellO S rfl (by rfl))) ?_
      exact ⟨_, rfl, hu0⟩
end Go.Proofs.YtmmpbpfdnpgklaaDoor
