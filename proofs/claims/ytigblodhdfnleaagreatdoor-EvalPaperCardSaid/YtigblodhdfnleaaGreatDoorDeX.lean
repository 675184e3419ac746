/- Walks: number, depth, look, Check of values. -/
import Derived.Test.YtigblodhdfnleaaGreatDoorVa
namespace Go.Proofs.YtigblodhdfnleaaGreatDoor
open Go Go.Wk Go.Un Go.De
set_option linter.unusedSimpArgs false
set_option linter.unusedVariables false
attribute [local irreducible] Go.wpList Go.Code.wp Go.wpStill Go.Wk.wpPre Go.bodyPost Go.Calls Go.Wk.Ct Go.Wk.OwnS
attribute [local irreducible] Go.Wk.wpG Go.Wk.wpM

section
variable {P : Program} {n : Sz} {L : List (Nat × Value)} {w0 : World} {F0 : Heap} {K0 : List Nat} {F : Heap} {G : List Grp} {a : Act} {w : World} {o : Oper}
theorem sv_maxI {x y : Operand} {p q : Int} {k : IntKind} {ts : Array TypeId} (S : St n L w0 F0 K0 F G a w) (ho : o.op = .call { callee := .builtin .max, args := #[x, y], argTypes := ts }) (hx : ev L x = some (.int k p)) (hy : ev L y = some (.int k q)) :
    SV P o a w (.int k (max p q)) := by
  have e : (if q > p then q else p) = max p q := by split <;> omega
  unfold SV execOp
  rw [ho]
  simp [resolve, invoke, builtin, S.fr.eval hx, S.fr.eval hy, Builtin.max_, Builtin.max2]
  rw [← e]
end
theorem numD_len (s : List UInt8) : (numD s).length ≤ s.length := by
  unfold numD Lib.trimPrefix
  split
  · simp
  · exact Nat.le_refl _
theorem num_f {s : List UInt8} (h : numOK s = false) : Value.tuple ⟨[.int .i64 (numN s), .bool (numOK s)]⟩ = Value.tuple ⟨[.int .i64 0, .bool false]⟩ := by
  have : numN s = 0 := by unfold numN; rw [h, if_neg Bool.false_ne_true]
  rw [this, h]
theorem num_no1 {s : List UInt8} (h : numD s = []) : Value.tuple ⟨[.int .i64 (numN s), .bool (numOK s)]⟩ = Value.tuple ⟨[.int .i64 0, .bool false]⟩ := num_f (by unfold numOK; simp [h])
theorem num_no2 {s : List UInt8} (h : ¬ Lib.trimS (numD s) digS = []) : Value.tuple ⟨[.int .i64 (numN s), .bool (numOK s)]⟩ = Value.tuple ⟨[.int .i64 0, .bool false]⟩ := num_f (by unfold numOK; simp [h])
theorem num_no3 {s : List UInt8} (h : ((numD s).getD 0 0).toNat = 48) (h2 : ¬ s = [48]) : Value.tuple ⟨[.int .i64 (numN s), .bool (numOK s)]⟩ = Value.tuple ⟨[.int .i64 0, .bool false]⟩ := num_f (by unfold numOK; rw [decide_eq_true h]; simp [h2])
theorem num_yes {s : List UInt8} (h1 : ¬ numD s = []) (h2 : Lib.trimS (numD s) digS = []) (h3 : ¬ ((numD s).getD 0 0).toNat = 48 ∨ s = [48]) : Value.tuple ⟨[.int .i64 (numN s), .bool (numOK s)]⟩ = Value.tuple ⟨[.int .i64 ((numD s).length : Int), .bool true]⟩ := by
  have h : numOK s = true := by
    unfold numOK
    rcases h3 with h3 | h3
    · rw [decide_eq_false h3]; simp [h1, h2]
    · simp [h1, h2, h3]
      rw [h3] at h1 h2
      exact ⟨h1, h2⟩
  have : numN s = ((numD s).length : Int) := by unfold numN; rw [h, if_pos rfl]
  rw [this, h]
theorem numberCt (F : Heap) (s : List UInt8) (hb : s.length ≤ 140737488355328) : Ct Tryz.prog 83 [.string (bs s)] F [] (fun _ _ u => u = .tuple ⟨[.int .i64 (numN s), .bool (numOK s)]⟩) := by
  have hbd := numD_len s
  refine Ct.enter Tryz.func83 rfl Tryz.ntmps83 rfl fun w0 a S => ?_
  refine wp_sr fun Kq1 hKq1 => ?_
  iterate 2 (refine wpl_p S rfl rfl rfl ?_; clear S a; intro a S)
  (refine wpList_nil (hKq1 _ _ (wp_sr fun Kq2 hKq2 => ?_)); try clear hKq1 Kq1)
  (refine wpl_p S rfl rfl rfl ?_; clear S a; intro a S)
  (refine wpl_call0 S rfl rfl rfl rfl rfl rfl (trimPrefixCt F s) rfl ?_; clear S a; intro v a w hv S; subst hv)
  (refine wpl_p S rfl rfl rfl ?_; clear S a; intro a S)
  (refine wpList_nil (hKq2 _ _ (wp_seq_k fun Kq3 hKq3 => ?_)); try clear hKq2 Kq2)
  refine wp_sr fun Kq4 hKq4 => ?_
  iterate 3 (refine wpl_p S rfl rfl rfl ?_; clear S a; intro a S)
  refine wpl_guard S rfl rfl rfl rfl rfl ?_ ?_
  · (intro h S'; clear S; have S := S'; clear S'; (try simp only [tq] at h))
    (refine wpl_p S rfl rfl rfl ?_; clear S a; intro a S)
    refine wpl_take S rfl rfl rfl ?_
    (refine wpl_call0 S rfl rfl rfl rfl rfl rfl (trimSCt F (numD s) (by omega)) rfl ?_; clear S a; intro v a w hv S; subst hv)
    refine wpl_take S rfl rfl rfl ?_
    iterate 3 (refine wpl_p S rfl rfl rfl ?_; clear S a; intro a S)
    refine wpl_guard S rfl rfl rfl rfl rfl ?_ ?_
    · (intro h S'; clear S; have S := S'; clear S'; (try simp only [tq] at h))
      (refine wpl_p S rfl rfl rfl ?_; clear S a; intro a S)
      refine wpl_take S rfl rfl rfl ?_
      (refine wpl_v S rfl rfl rfl (sv_indexSN (i := 0) S rfl rfl rfl (by first | omega | (have h9 : 0 < (numD s).length := List.length_pos_iff.2 (by assumption); omega))) ?_; clear S a; intro a S)
      refine wpl_take S rfl rfl rfl ?_
      (refine wpl_p S rfl rfl rfl ?_; clear S a; intro a S)
      refine wpl_take S rfl rfl rfl ?_
      (refine wpl_p S rfl rfl rfl ?_; clear S a; intro a S)
      refine wpl_guard S rfl rfl rfl rfl rfl ?_ ?_
      · (intro h S'; clear S; have S := S'; clear S'; (try simp only [tq] at h))
        (refine wpl_p S rfl rfl rfl ?_; clear S a; intro a S)
        refine wpl_take S rfl rfl rfl ?_
        (refine wpl_p S rfl rfl rfl ?_; clear S a; intro a S)
        refine wpl_take S rfl rfl rfl ?_
        iterate 2 (refine wpl_p S rfl rfl rfl ?_; clear S a; intro a S)
        (refine wpList_nil (hKq4 _ _ ?_); try clear hKq4 Kq4)
        refine wpc_split S rfl (fun h => ?_) (fun h => ?_)
        · (skip; (try simp only [tq] at h))
          refine wp_sr fun Kq5 hKq5 => ?_
          iterate 2 (refine wpl_p S rfl rfl rfl ?_; clear S a; intro a S)
          (refine wpList_nil (hKq5 _ _ ?_); try clear hKq5 Kq5)
          refine wp_ret (fin_ret S (results2 Tryz.results83 (RV.tmp S rfl) (RV.tmp S rfl)) ?_)
          (first | (exact (num_no1 (by assumption)).symm) | (exact (num_no2 (by assumption)).symm) | (exact (num_no3 (by omega) (by assumption)).symm) | (exact (num_yes (by assumption) (by assumption) (.inr (by assumption))).symm) | (exact (num_yes (by assumption) (by assumption) (.inl (by omega))).symm) | trace_state)
        (skip; (try simp only [tq] at h))
        refine wp_skip ?_
        (refine hKq3 _ _ ?_; try (clear hKq3 Kq3))
        refine wp_sr fun Kq5 hKq5 => ?_
        (refine wpl_p S rfl rfl rfl ?_; clear S a; intro a S)
        (refine wpl_s S rfl rfl rfl ?_; clear S a; intro a S)
        iterate 2 (refine wpl_p S rfl rfl rfl ?_; clear S a; intro a S)
        (refine wpList_nil (hKq5 _ _ ?_); try clear hKq5 Kq5)
        refine wp_ret (fin_ret S (results2 Tryz.results83 (RV.tmp S rfl) (RV.tmp S rfl)) ?_)
        (first | (exact (num_no1 (by assumption)).symm) | (exact (num_no2 (by assumption)).symm) | (exact (num_no3 (by omega) (by assumption)).symm) | (exact (num_yes (by assumption) (by assumption) (.inr (by assumption))).symm) | (exact (num_yes (by assumption) (by assumption) (.inl (by omega))).symm) | trace_state)
      (intro h; clear S a; intro a S; (try simp only [tq] at h))
      (refine wpl_skip S rfl rfl rfl rfl rfl ?_; clear S a; intro a S)
      refine wpl_take S rfl rfl rfl ?_
      iterate 2 (refine wpl_p S rfl rfl rfl ?_; clear S a; intro a S)
      (refine wpList_nil (hKq4 _ _ ?_); try clear hKq4 Kq4)
      refine wpc_false S rfl ?_
      refine wp_skip ?_
      (refine hKq3 _ _ ?_; try (clear hKq3 Kq3))
      refine wp_sr fun Kq5 hKq5 => ?_
      (refine wpl_p S rfl rfl rfl ?_; clear S a; intro a S)
      (refine wpl_s S rfl rfl rfl ?_; clear S a; intro a S)
      iterate 2 (refine wpl_p S rfl rfl rfl ?_; clear S a; intro a S)
      (refine wpList_nil (hKq5 _ _ ?_); try clear hKq5 Kq5)
      refine wp_ret (fin_ret S (results2 Tryz.results83 (RV.tmp S rfl) (RV.tmp S rfl)) ?_)
      (first | (exact (num_no1 (by assumption)).symm) | (exact (num_no2 (by assumption)).symm) | (exact (num_no3 (by omega) (by assumption)).symm) | (exact (num_yes (by assumption) (by assumption) (.inr (by assumption))).symm) | (exact (num_yes (by assumption) (by assumption) (.inl (by omega))).symm) | trace_state)
    (intro h; clear S a; intro a S; (try simp only [tq] at h))
    iterate 3 (refine wpl_skip S rfl rfl rfl rfl rfl ?_; clear S a; intro a S)
    iterate 2 (refine wpl_skipU S rfl rfl rfl rfl rfl ?_; clear S a; intro a S)
    (refine wpl_skip S rfl rfl rfl rfl rfl ?_; clear S a; intro a S)
    (refine wpl_p S rfl rfl rfl ?_; clear S a; intro a S)
    (refine wpList_nil (hKq4 _ _ ?_); try clear hKq4 Kq4)
    refine wpc_true S rfl ?_
    refine wp_sr fun Kq5 hKq5 => ?_
    iterate 2 (refine wpl_p S rfl rfl rfl ?_; clear S a; intro a S)
    (refine wpList_nil (hKq5 _ _ ?_); try clear hKq5 Kq5)
    refine wp_ret (fin_ret S (results2 Tryz.results83 (RV.tmp S rfl) (RV.tmp S rfl)) ?_)
    (first | (exact (num_no1 (by assumption)).symm) | (exact (num_no2 (by assumption)).symm) | (exact (num_no3 (by omega) (by assumption)).symm) | (exact (num_yes (by assumption) (by assumption) (.inr (by assumption))).symm) | (exact (num_yes (by assumption) (by assumption) (.inl (by omega))).symm) | trace_state)
  (intro h; clear S a; intro a S; (try simp only [tq] at h))
  iterate 2 (refine wpl_skip S rfl rfl rfl rfl rfl ?_; clear S a; intro a S)
  iterate 2 (refine wpl_p S rfl rfl rfl ?_; clear S a; intro a S)
  iterate 4 (refine wpl_skip S rfl rfl rfl rfl rfl ?_; clear S a; intro a S)
  iterate 2 (refine wpl_skipU S rfl rfl rfl rfl rfl ?_; clear S a; intro a S)
  (refine wpl_skip S rfl rfl rfl rfl rfl ?_; clear S a; intro a S)
  (refine wpl_p S rfl rfl rfl ?_; clear S a; intro a S)
  (refine wpList_nil (hKq4 _ _ ?_); try clear hKq4 Kq4)
  refine wpc_true S rfl ?_
  refine wp_sr fun Kq5 hKq5 => ?_
  iterate 2 (refine wpl_p S rfl rfl rfl ?_; clear S a; intro a S)
  (refine wpList_nil (hKq5 _ _ ?_); try clear hKq5 Kq5)
  refine wp_ret (fin_ret S (results2 Tryz.results83 (RV.tmp S rfl) (RV.tmp S rfl)) ?_)
  (first | (exact (num_no1 (by assumption)).symm) | (exact (num_no2 (by assumption)).symm) | (exact (num_no3 (by omega) (by assumption)).symm) | (exact (num_yes (by assumption) (by assumption) (.inr (by assumption))).symm) | (exact (num_yes (by assumption) (by assumption) (.inl (by omega))).symm) | trace_state)
set_option maxHeartbeats 4000000 in
theorem depVCt (F : Heap) : ∀ (n : Nat) (h : VH) (L : Vf) (cs : List Value) (mo : Int), L.size ≤ n → L.size ≤ 1000000000 → 0 ≤ mo → mo ≤ 100 → VaC F cs h L → Ct Tryz.prog 58 [.agg ⟨cs⟩, .int .i64 mo] F [] (fun _ _ u => u = .int .i64 (depV L 0 mo + 1)) := by
  intro n
  induction n using Nat.strongRecOn with
  | _ n ih =>
  intro h L cs mo hn hb hm0 hm1 hV
  obtain ⟨v, rfl, ⟨ao, cap, rfl, hcap, hpos⟩, hsb⟩ := hV
  have hbd := depV_bd L 0 mo (Int.le_refl _)
  refine Ct.enter Tryz.func58 rfl Tryz.ntmps58 rfl fun w0 a S => ?_
  refine wp_sr fun Kq1 hKq1 => ?_
  (refine wpl_box S rfl rfl rfl rfl rfl ?_; clear S a; intro b2 a w S)
  (refine wpl_p S rfl rfl rfl ?_; clear S a; intro a S)
  (refine wpList_nil (hKq1 _ _ (wp_sr fun Kq2 hKq2 => ?_)); try clear hKq1 Kq1)
  (refine wpl_p S rfl rfl rfl ?_; clear S a; intro a S)
  (refine wpList_nil (hKq2 _ _ (wp_seq_k fun Kq3 hKq3 => ?_)); try clear hKq2 Kq2)
  refine wp_sr fun Kq4 hKq4 => ?_
  (refine wpl_f S rfl rfl rfl ?_; clear S a; intro a S)
  (refine wpl_l S rfl rfl rfl ?_; clear S a; intro a S)
  (refine wpl_n S rfl rfl rfl ?_; clear S a; intro a S)
  (refine wpl_p S rfl rfl rfl ?_; clear S a; intro a S)
  (refine wpList_nil (hKq4 _ _ ?_); try clear hKq4 Kq4)
  refine wp_block ?_
  refine wpc_loop (fun m a w' => ∃ (k : Nat) (p : Int), m = L.len - k ∧ k ≤ L.len ∧ depV (L.drop k) p mo = depV L 0 mo ∧ 0 ≤ p ∧ St 27 [(1, .int .i64 mo), (2, ptr b2), (5, .int .i64 p), (9, .slice ao L.len cap), (10, .int .i64 L.len), (11, .int .i64 k)] w0 F [] F [[(b2, .cells ⟨[.int .u8 (h.k : Int), .int .i64 h.n, .string (bs h.s), .slice ao L.len cap]⟩ 26 (0, 0))]] a w') ?_ ?_
  · (refine ⟨L.len, 0, 0, by omega, Nat.zero_le _, rfl, Int.le_refl _, ?_⟩; refine S.keep ?_; repeat (first | exact trivial | refine ⟨rfl, ?_⟩))
  (clear S; rintro m a w ⟨k, p, rfl, hkl, hs, hp, S⟩; have hb2 := depV_bd (L.drop k) p mo hp)
  refine wp_sr fun Kq5 hKq5 => ?_
  (refine wpl_p S rfl rfl rfl ?_; clear S a; intro a S)
  (refine wpList_nil (hKq5 _ _ (wp_seq_k fun Kq6 hKq6 => ?_)); try clear hKq5 Kq5)
  refine wpc_split S rfl (fun h => ?_) (fun h => ?_)
  · (skip; (try simp only [tq] at h))
    refine wp_skip ?_
    (refine hKq6 _ _ ?_; try (clear hKq6 Kq6))
    (refine wp_seq_k ?_; intro Kq7 hKq7)
    refine wp_block ?_
    (refine wp_seq_k ?_; intro Kq8 hKq8)
    (obtain ⟨b8, o8, hao, x, cs1, v1, hx, hc1, hw9, hT1⟩ := TrM.pos hpos (k := k) (by omega); rw [hao] at S; have hxs := Rose.size_get hx; have hdr := Rose.drop_get hx; have hT1c := hT1; obtain ⟨a91, c91, rfl, -⟩ := hT1c; have hb3 := depV_bd x.2 0 (mo - 1) (Int.le_refl _); have hw9c := hw9.1; subst hw9c; (simp only [List.cons_append, List.nil_append] at hc1))
    refine wp_region_lit ?_
    (refine wpl_i S rfl rfl rfl ?_; clear S a; intro a S)
    (refine wpl_l S rfl rfl rfl ?_; clear S a; intro a S)
    (refine wpl_alloc S rfl rfl rfl rfl ?_; clear S a; intro b7 a w S)
    (refine wpl_storeO S rfl rfl rfl rfl rfl (by rfl) (by simp [Value.cells, Value.oneCell', splice]) (by rfl) ?_; clear S; intro w S)
    (refine wpList_nil (hKq8 _ _ (wp_seq_k fun Kq9 hKq9 => ?_)); try clear hKq8 Kq8)
    refine wp_sr fun Kq10 hKq10 => ?_
    iterate 3 (refine wpl_p S rfl rfl rfl ?_; clear S a; intro a S)
    (refine wpList_nil (hKq10 _ _ ?_); try clear hKq10 Kq10)
    refine wpc_split S rfl (fun h => ?_) (fun h => ?_)
    · (skip; (try simp only [tq] at h))
      refine wp_exit ?_
      (refine hKq3 _ _ ?_; try (clear hKq3 Kq3))
      refine wp_sr fun Kq11 hKq11 => ?_
      (refine wpl_p S rfl rfl rfl ?_; clear S a; intro a S)
      (refine wpl_a S rfl rfl rfl ?_; clear S a; intro a S)
      (refine wpl_p S rfl rfl rfl ?_; clear S a; intro a S)
      (refine wpList_nil (hKq11 _ _ ?_); try clear hKq11 Kq11)
      refine wp_ret (fin_ret S (results1 Tryz.results58 (RV.tmp S rfl)) ?_)
      (congr 1; rw [← hs]; first | (rw [Rose.drop_len (by omega)]; rfl) | (rw [hdr, depV_cons, if_pos (by omega)]) | trace_state)
    (skip; (try simp only [tq] at h))
    refine wp_skip ?_
    (refine hKq9 _ _ ?_; try (clear hKq9 Kq9))
    refine wp_region_lit ?_
    (refine wpl_p S rfl rfl rfl ?_; clear S a; intro a S)
    (refine wpl_l S rfl rfl rfl ?_; clear S a; intro a S)
    (refine wpl_p S rfl rfl rfl ?_; clear S a; intro a S)
    (refine wpl_s S rfl rfl rfl ?_; clear S a; intro a S)
    (refine wpl_call0 S rfl rfl rfl rfl rfl rfl (ih x.2.size (by omega) x.1 x.2 _ (mo - 1) (Nat.le_refl _) (by omega) (by omega) (by omega) ⟨_, rfl, hT1, hw9.2⟩) rfl ?_; clear S a; intro v a w hv S; subst hv)
    (refine wpl_v S rfl rfl rfl (sv_maxI S rfl rfl rfl) ?_; clear S a; intro a S)
    (refine wpl_p S rfl rfl rfl ?_; clear S a; intro a S)
    (refine wpList_nil (hKq7 _ _ ?_); try clear hKq7 Kq7)
    refine wp_region_lit ?_
    (refine wpl_a S rfl rfl rfl ?_; clear S a; intro a S)
    (refine wpl_p S rfl rfl rfl ?_; clear S a; intro a S)
    refine wpList_nil ?_
    change ∃ m', _ ∧ _
    (rw [← hao] at S; replace S := S.drop1; refine ⟨L.len - (k + 1), by omega, k + 1, max p (depV x.2 0 (mo - 1) + 1), rfl, by omega, ?_, ?_, ?_⟩; rotate_left 2; (refine S.keep ?_; repeat (first | exact trivial | refine ⟨rfl, ?_⟩)); (rw [← hs, hdr, depV_cons, if_neg (by omega)]); omega)
  (skip; (try simp only [tq] at h))
  refine wp_exit ?_
  (refine hKq3 _ _ ?_; try (clear hKq3 Kq3))
  refine wp_sr fun Kq7 hKq7 => ?_
  (refine wpl_p S rfl rfl rfl ?_; clear S a; intro a S)
  (refine wpl_a S rfl rfl rfl ?_; clear S a; intro a S)
  (refine wpl_p S rfl rfl rfl ?_; clear S a; intro a S)
  (refine wpList_nil (hKq7 _ _ ?_); try clear hKq7 Kq7)
  refine wp_ret (fin_ret S (results1 Tryz.results58 (RV.tmp S rfl)) ?_)
  (congr 1; rw [← hs]; first | (rw [Rose.drop_len (by omega)]; rfl) | (rw [hdr, depV_cons, if_pos (by omega)]) | trace_state)
end Go.Proofs.YtigblodhdfnleaaGreatDoor
