/- Walks: parameters' names, own, OwnType, Put of both sides, SameType, how many types there are. -/
import Derived.Test.YtoaodbclgeeaeaaGreatDoorDeA
import Derived.Test.YtoaodbclgeeaeaaGreatDoorUnA0
namespace Go.Proofs.YtoaodbclgeeaeaaGreatDoor
open Go Go.Wk Go.Un Go.De
set_option linter.unusedSimpArgs false
set_option linter.unusedVariables false
attribute [local irreducible] Go.wpList Go.Code.wp Go.wpStill Go.Wk.wpPre Go.bodyPost Go.Calls Go.Wk.Ct Go.Wk.OwnS
attribute [local irreducible] Go.Wk.wpG Go.Wk.wpM

section
variable {P : Program} {n : Sz} {L : List (Nat × Value)} {w0 : World} {F0 : Heap} {K0 : List Nat} {F : Heap} {G : List Grp} {a : Act} {w : World} {o : Oper}
theorem sv_addW {x y : Operand} {p q : Int} {t yt : TypeId} (S : St n L w0 F0 K0 F G a w) (ho : o.op = .binOp .add t x y yt) (hx : ev L x = some (.int .i64 p)) (hy : ev L y = some (.int .i64 q)) : SV P o a w (.int .i64 (IntKind.i64.wrap (p + q))) :=
  run_intOp S ho hx hy (by simp [binOp, Op.intArith])
theorem sv_subW {x y : Operand} {p q : Int} {t yt : TypeId} (S : St n L w0 F0 K0 F G a w) (ho : o.op = .binOp .sub t x y yt) (hx : ev L x = some (.int .i64 p)) (hy : ev L y = some (.int .i64 q)) : SV P o a w (.int .i64 (IntKind.i64.wrap (p - q))) :=
  run_intOp S ho hx hy (by simp [binOp, Op.intArith])
/-- A field of a value, of one cell. -/
theorem sv_field1 {x : Operand} {vs : List Value} {t : TypeId} {fs : List (Nat × TypeId)} {i fo : Nat} {ft : TypeId} {u : Value} [ht : Flds P t fs] (S : St n L w0 F0 K0 F G a w) (ho : o.op = .field t x i) (hx : ev L x = some (.agg ⟨vs⟩))
    (hf : fs[i]? = some (fo, ft)) (he : One P ft) (hv : vs[fo]? = some u) : SV P o a w u := by
  obtain ⟨fields, h1, h2⟩ := ht.h
  rw [← h2, List.getElem?_map] at hf
  obtain ⟨f, hf', e⟩ := Option.map_eq_some_iff.1 hf
  simp only [Prod.mk.injEq] at e
  obtain ⟨rfl, rfl⟩ := e
  have hf2 : fields[i]? = some f := by simpa using hf'
  have h3 : (part f.type ⟨vs⟩ f.offset).run P w = .ok u w := by
    simp [part, isAgg_notAgg he, hv]
  unfold SV execOp
  rw [ho]
  simp [S.fr.eval hx, Instr.field, run_underlying h1, hf2, asAgg, h3]
end
theorem hasPrefix0Ct (F : Heap) (s : List UInt8) : Ct Tryz.prog 71 [.string (bs s), .string (bs [39])] F [] (fun _ _ u => u = .bool (parS s)) := by
  refine Ct.enter Tryz.func71 rfl Tryz.ntmps71 rfl fun w0 a S => ?_
  refine wp_sr fun Kq1 hKq1 => ?_
  (refine wpl_p S ?_; clear S a; intro a S)
  (refine wpList_nil (hKq1 _ _ (wp_sr fun Kq2 hKq2 => ?_)); try clear hKq1 Kq1)
  (refine wpl_p S ?_; clear S a; intro a S)
  (refine wpl_s S ?_; clear S a; intro a S)
  (refine wpl_p S ?_; clear S a; intro a S)
  (refine wpl_s S ?_; clear S a; intro a S)
  iterate 2 (refine wpl_p S ?_; clear S a; intro a S)
  refine wpl_guard S rfl rfl rfl rfl rfl ?_ ?_
  · (intro h S'; clear S; have S := S'; clear S'; (try simp only [tq] at h))
    (refine wpl_p S ?_; clear S a; intro a S)
    refine wpl_take S rfl rfl rfl ?_
    (refine wpl_p S ?_; clear S a; intro a S)
    refine wpl_take S rfl rfl rfl ?_
    (refine wpl_s S ?_; clear S a; intro a S)
    refine wpl_take S rfl rfl rfl ?_
    (refine wpl_v S rfl rfl rfl (sv_sliceS_hi S rfl rfl rfl (by first | omega | (simp only [List.length_append, List.length_cons, List.length_nil]; omega))) ?_; clear S a; intro a S)
    refine wpl_take S rfl rfl rfl ?_
    (refine wpl_p S ?_; clear S a; intro a S)
    refine wpl_take S rfl rfl rfl ?_
    iterate 3 (refine wpl_p S ?_; clear S a; intro a S)
    (refine wpList_nil (hKq2 _ _ ?_); try clear hKq2 Kq2)
    refine wp_ret (fin_ret S (results1 Tryz.results71 (RV.tmp S rfl)) ?_)
    (unfold parS; congr 1; first | (rw [Bool.eq_iff_iff, beq_iff_eq, decide_eq_true_eq]; exact Iff.rfl) | (have h0 : s = [] := List.length_eq_zero_iff.1 (by have h9 : s.length < 1 := h; omega); subst h0; rfl))
  (intro h; clear S a; intro a S; (try simp only [tq] at h))
  iterate 5 (refine wpl_k S ?_; clear S a; intro a S)
  iterate 2 (refine wpl_p S ?_; clear S a; intro a S)
  (refine wpList_nil (hKq2 _ _ ?_); try clear hKq2 Kq2)
  refine wp_ret (fin_ret S (results1 Tryz.results71 (RV.tmp S rfl)) ?_)
  (unfold parS; congr 1; first | (rw [Bool.eq_iff_iff, beq_iff_eq, decide_eq_true_eq]; exact Iff.rfl) | (have h0 : s = [] := List.length_eq_zero_iff.1 (by have h9 : s.length < 1 := h; omega); subst h0; rfl))
theorem hasPrefixCt (F : Heap) (s : List UInt8) : Ct Tryz.prog 47 [.string (bs s), .string (bs [39])] F [] (fun _ _ u => u = .bool (parS s)) := by
  refine Ct.enter Tryz.func47 rfl Tryz.ntmps47 rfl fun w0 a S => ?_
  refine wp_sr fun Kq1 hKq1 => ?_
  (refine wpl_p S ?_; clear S a; intro a S)
  (refine wpList_nil (hKq1 _ _ (wp_sr fun Kq2 hKq2 => ?_)); try clear hKq1 Kq1)
  iterate 2 (refine wpl_p S ?_; clear S a; intro a S)
  (refine wpl_c0 S (hasPrefix0Ct F s) ?_; clear S a; intro v a w hv S; subst hv)
  (refine wpl_p S ?_; clear S a; intro a S)
  (refine wpList_nil (hKq2 _ _ ?_); try clear hKq2 Kq2)
  exact wp_ret (fin_ret S (results1 Tryz.results47 (RV.tmp S rfl)) rfl)
theorem paramCt (F : Heap) (s : List UInt8) : Ct Tryz.prog 26 [.string (bs s)] F [] (fun _ _ u => u = .bool (parS s)) := by
  refine Ct.enter Tryz.func26 rfl Tryz.ntmps26 rfl fun w0 a S => ?_
  refine wp_sr fun Kq1 hKq1 => ?_
  (refine wpl_p S ?_; clear S a; intro a S)
  (refine wpList_nil (hKq1 _ _ (wp_sr fun Kq2 hKq2 => ?_)); try clear hKq1 Kq1)
  (refine wpl_p S ?_; clear S a; intro a S)
  (refine wpl_c0 S (hasPrefixCt F s) ?_; clear S a; intro v a w hv S; subst hv)
  (refine wpl_p S ?_; clear S a; intro a S)
  (refine wpList_nil (hKq2 _ _ ?_); try clear hKq2 Kq2)
  exact wp_ret (fin_ret S (results1 Tryz.results26 (RV.tmp S rfl)) rfl)
theorem refParamCt (F : Heap) (s : List UInt8) : Ct Tryz.prog 29 [.string (bs s)] F [] (fun _ _ u => u = .bool (parS s)) := by
  refine Ct.enter Tryz.func29 rfl Tryz.ntmps29 rfl fun w0 a S => ?_
  refine wp_sr fun Kq1 hKq1 => ?_
  (refine wpl_p S ?_; clear S a; intro a S)
  (refine wpList_nil (hKq1 _ _ (wp_sr fun Kq2 hKq2 => ?_)); try clear hKq1 Kq1)
  iterate 3 (refine wpl_p S ?_; clear S a; intro a S)
  refine wpl_guard S rfl rfl rfl rfl rfl ?_ ?_
  · (intro h S'; clear S; have S := S'; clear S'; (try simp only [tq] at h))
    (refine wpl_p S ?_; clear S a; intro a S)
    refine wpl_take S rfl rfl rfl ?_
    (refine wpl_v S rfl rfl rfl (sv_indexSN (i := 0) S rfl rfl rfl (by first | omega | (have h9 : 0 < s.length := List.length_pos_iff.2 (by assumption); omega))) ?_; clear S a; intro a S)
    refine wpl_take S rfl rfl rfl ?_
    iterate 3 (refine wpl_p S ?_; clear S a; intro a S)
    (refine wpList_nil (hKq2 _ _ ?_); try clear hKq2 Kq2)
    refine wp_ret (fin_ret S (results1 Tryz.results29 (RV.tmp S rfl)) ?_)
    (rw [parS_ref]; congr 1; rw [Bool.eq_iff_iff]; simp [*]; try omega)
  (intro h; clear S a; intro a S; (try simp only [tq] at h))
  iterate 2 (refine wpl_k S ?_; clear S a; intro a S)
  iterate 2 (refine wpl_p S ?_; clear S a; intro a S)
  (refine wpList_nil (hKq2 _ _ ?_); try clear hKq2 Kq2)
  refine wp_ret (fin_ret S (results1 Tryz.results29 (RV.tmp S rfl)) ?_)
  (rw [parS_ref]; congr 1; rw [Bool.eq_iff_iff]; simp [*]; try omega)
theorem plainCt (F : Heap) (s : List UInt8) : Ct Tryz.prog 62 [.string (bs s)] F [] (fun _ _ u => u = .bool (plainS s)) := by
  refine Ct.enter Tryz.func62 rfl Tryz.ntmps62 rfl fun w0 a S => ?_
  refine wp_sr fun Kq1 hKq1 => ?_
  (refine wpl_p S ?_; clear S a; intro a S)
  (refine wpList_nil (hKq1 _ _ (wp_sr fun Kq2 hKq2 => ?_)); try clear hKq1 Kq1)
  iterate 3 (refine wpl_p S ?_; clear S a; intro a S)
  refine wpl_guard S rfl rfl rfl rfl rfl ?_ ?_
  · (intro h S'; clear S; have S := S'; clear S'; (try simp only [tq] at h))
    (refine wpl_p S ?_; clear S a; intro a S)
    refine wpl_take S rfl rfl rfl ?_
    iterate 3 (refine wpl_p S ?_; clear S a; intro a S)
    refine wpl_guard S rfl rfl rfl rfl rfl ?_ ?_
    · (intro h S'; clear S; have S := S'; clear S'; (try simp only [tq] at h))
      (refine wpl_p S ?_; clear S a; intro a S)
      refine wpl_take S rfl rfl rfl ?_
      iterate 3 (refine wpl_p S ?_; clear S a; intro a S)
      refine wpl_guard S rfl rfl rfl rfl rfl ?_ ?_
      · (intro h S'; clear S; have S := S'; clear S'; (try simp only [tq] at h))
        (refine wpl_p S ?_; clear S a; intro a S)
        refine wpl_take S rfl rfl rfl ?_
        iterate 3 (refine wpl_p S ?_; clear S a; intro a S)
        (refine wpList_nil (hKq2 _ _ ?_); try clear hKq2 Kq2)
        refine wp_ret (fin_ret S (results1 Tryz.results62 (RV.tmp S rfl)) ?_)
        (congr 1; rw [Bool.eq_iff_iff]; simp [plainS, sBool, sInt, sBig, sText, *]; try exact decide_eq_true_iff.symm)
      (intro h; clear S a; intro a S; (try simp only [tq] at h))
      (refine wpl_k S ?_; clear S a; intro a S)
      iterate 2 (refine wpl_p S ?_; clear S a; intro a S)
      (refine wpList_nil (hKq2 _ _ ?_); try clear hKq2 Kq2)
      refine wp_ret (fin_ret S (results1 Tryz.results62 (RV.tmp S rfl)) ?_)
      (congr 1; rw [Bool.eq_iff_iff]; simp [plainS, sBool, sInt, sBig, sText, *]; try exact decide_eq_true_iff.symm)
    (intro h; clear S a; intro a S; (try simp only [tq] at h))
    (refine wpl_k S ?_; clear S a; intro a S)
    iterate 2 (refine wpl_p S ?_; clear S a; intro a S)
    iterate 2 (refine wpl_k S ?_; clear S a; intro a S)
    iterate 2 (refine wpl_p S ?_; clear S a; intro a S)
    (refine wpList_nil (hKq2 _ _ ?_); try clear hKq2 Kq2)
    refine wp_ret (fin_ret S (results1 Tryz.results62 (RV.tmp S rfl)) ?_)
    (congr 1; rw [Bool.eq_iff_iff]; simp [plainS, sBool, sInt, sBig, sText, *]; try exact decide_eq_true_iff.symm)
  (intro h; clear S a; intro a S; (try simp only [tq] at h))
  (refine wpl_k S ?_; clear S a; intro a S)
  iterate 2 (refine wpl_p S ?_; clear S a; intro a S)
  iterate 2 (refine wpl_k S ?_; clear S a; intro a S)
  iterate 2 (refine wpl_p S ?_; clear S a; intro a S)
  iterate 2 (refine wpl_k S ?_; clear S a; intro a S)
  iterate 2 (refine wpl_p S ?_; clear S a; intro a S)
  (refine wpList_nil (hKq2 _ _ ?_); try clear hKq2 Kq2)
  refine wp_ret (fin_ret S (results1 Tryz.results62 (RV.tmp S rfl)) ?_)
  (congr 1; rw [Bool.eq_iff_iff]; simp [plainS, sBool, sInt, sBig, sText, *]; try exact decide_eq_true_iff.symm)
set_option maxHeartbeats 2000000 in
theorem indexSCt (F : Heap) (l : List (List UInt8)) (s : List UInt8) (v : Value) (h : SlC F v l.length (strs l)) (hl : l.length ≤ 9223372036854775807) : Ct Tryz.prog 27 [v, .string (bs s)] F [] (fun _ _ u => u = .int .i64 (idxOf l s)) := by
  obtain ⟨ao, cap, rfl, hcap, hpos⟩ := h
  refine Ct.enter Tryz.func27 rfl Tryz.ntmps27 rfl fun w0 a S => ?_
  refine wp_sr fun Kq1 hKq1 => ?_
  (refine wpl_p S ?_; clear S a; intro a S)
  (refine wpList_nil (hKq1 _ _ (wp_seq_k fun Kq2 hKq2 => ?_)); try clear hKq1 Kq1)
  refine wp_sr fun Kq3 hKq3 => ?_
  (refine wpl_p S ?_; clear S a; intro a S)
  (refine wpl_n S ?_; clear S a; intro a S)
  (refine wpl_p S ?_; clear S a; intro a S)
  (refine wpList_nil (hKq3 _ _ ?_); try clear hKq3 Kq3)
  refine wp_block ?_
  refine wpc_loop (fun m a w' => ∃ (k : Nat), m = l.length - k ∧ k ≤ l.length ∧ (∀ j x, j < k → l[j]? = some x → x ≠ s) ∧ St 19 [(0, .slice ao l.length cap), (1, .string (bs s)), (7, .int .i64 l.length), (8, .int .i64 k)] w0 F [] F [] a w') ?_ ?_
  · (refine ⟨l.length, 0, by omega, Nat.zero_le _, fun j x h => absurd h (Nat.not_lt_zero _), ?_⟩; refine S.keep ?_; repeat (first | exact trivial | refine ⟨rfl, ?_⟩))
  (clear S; rintro m a w ⟨k, rfl, hkl, hall, S⟩)
  refine wp_sr fun Kq4 hKq4 => ?_
  (refine wpl_p S ?_; clear S a; intro a S)
  (refine wpList_nil (hKq4 _ _ (wp_seq_k fun Kq5 hKq5 => ?_)); try clear hKq4 Kq4)
  refine wpc_split S rfl (fun h => ?_) (fun h => ?_)
  · (skip; (try simp only [tq] at h))
    refine wp_skip ?_
    (refine hKq5 _ _ ?_; try (clear hKq5 Kq5))
    (refine wp_seq_k ?_; intro Kq6 hKq6)
    refine wp_block ?_
    refine wp_sr fun Kq7 hKq7 => ?_
    iterate 2 (refine wpl_p S ?_; clear S a; intro a S)
    (refine wpList_nil (hKq7 _ _ (wp_seq_k fun Kq8 hKq8 => ?_)); try clear hKq7 Kq7)
    (obtain ⟨x, hx⟩ : ∃ x, l[k]? = some x := ⟨_, List.getElem?_eq_getElem (by omega)⟩; obtain ⟨b8, o8, hao, hcs⟩ := hpos (by omega); rw [hao] at S; have hc1 : Cel F b8 (o8 + k * 1) (.string (bs x)) := (by rw [Nat.mul_one]; exact hcs k _ (by rw [strs, List.getElem?_map, hx]; rfl)))
    refine wp_region_lit ?_
    iterate 3 (refine wpl_p S ?_; clear S a; intro a S)
    (refine wpl_i S ?_; clear S a; intro a S)
    (refine wpl_l S ?_; clear S a; intro a S)
    (refine wpl_p S ?_; clear S a; intro a S)
    (refine wpList_nil (hKq8 _ _ ?_); try clear hKq8 Kq8)
    refine wpc_split S rfl (fun h => ?_) (fun h => ?_)
    · (skip; (try simp only [tq] at h))
      refine wp_sr fun Kq9 hKq9 => ?_
      iterate 2 (refine wpl_p S ?_; clear S a; intro a S)
      (refine wpList_nil (hKq9 _ _ ?_); try clear hKq9 Kq9)
      refine wp_ret (fin_ret S (results1 Tryz.results27 (RV.tmp S rfl)) ?_)
      (first | (have he : s = x := (by first | assumption | simpa using h); subst he; have hm : s ∈ l := List.mem_of_getElem? hx; have hi : l.idxOf s = k := (by have h1 := List.idxOf_lt_length_iff.2 hm; rcases Nat.lt_trichotomy (l.idxOf s) k with h2 | h2 | h2; exact absurd (List.getElem_idxOf h1) (hall _ _ h2 (List.getElem?_eq_getElem h1)); exact h2; (exfalso; have h3 := List.not_of_lt_findIdx (p := (· == s)) (xs := l) h2; rw [(List.getElem?_eq_some_iff.1 hx).2] at h3; simp at h3)); unfold idxOf; rw [if_pos hm, hi]) | (have hm : ¬ s ∈ l := (by intro hm; obtain ⟨j, hj⟩ := List.mem_iff_getElem?.1 hm; exact hall j s (by have := (List.getElem?_eq_some_iff.1 hj).1; omega) hj rfl); unfold idxOf; rw [if_neg hm]) | trace_state)
    (skip; (try simp only [tq] at h))
    refine wp_skip ?_
    (refine hKq6 _ _ ?_; try (clear hKq6 Kq6))
    refine wp_region_lit ?_
    (refine wpl_a S ?_; clear S a; intro a S)
    (refine wpl_p S ?_; clear S a; intro a S)
    refine wpList_nil ?_
    change ∃ m', _ ∧ _
    (rw [← hao] at S; refine ⟨l.length - (k + 1), by omega, k + 1, rfl, by omega, ?_, ?_⟩; rotate_left 1; (refine S.keep ?_; repeat (first | exact trivial | refine ⟨rfl, ?_⟩)); intro j y h7 h8; rcases Nat.lt_or_eq_of_le (Nat.le_of_lt_succ h7) with h6 | h6; exact hall j y h6 h8; subst h6; rw [hx] at h8; cases h8; have hne : ¬ s = x := (by first | assumption | simpa using h); exact fun e => hne e.symm)
  (skip; (try simp only [tq] at h))
  refine wp_exit ?_
  (refine hKq2 _ _ ?_; try (clear hKq2 Kq2))
  refine wp_sr fun Kq6 hKq6 => ?_
  (refine wpl_p S ?_; clear S a; intro a S)
  (refine wpList_nil (hKq6 _ _ ?_); try clear hKq6 Kq6)
  refine wp_ret (fin_ret S (results1 Tryz.results27 (RV.tmp S rfl)) ?_)
  (first | (have he : s = x := (by first | assumption | simpa using h); subst he; have hm : s ∈ l := List.mem_of_getElem? hx; have hi : l.idxOf s = k := (by have h1 := List.idxOf_lt_length_iff.2 hm; rcases Nat.lt_trichotomy (l.idxOf s) k with h2 | h2 | h2; exact absurd (List.getElem_idxOf h1) (hall _ _ h2 (List.getElem?_eq_getElem h1)); exact h2; (exfalso; have h3 := List.not_of_lt_findIdx (p := (· == s)) (xs := l) h2; rw [(List.getElem?_eq_some_iff.1 hx).2] at h3; simp at h3)); unfold idxOf; rw [if_pos hm, hi]) | (have hm : ¬ s ∈ l := (by intro hm; obtain ⟨j, hj⟩ := List.mem_iff_getElem?.1 hm; exact hall j s (by have := (List.getElem?_eq_some_iff.1 hj).1; omega) hj rfl); unfold idxOf; rw [if_neg hm]) | trace_state)
def OwnD (m : Nat) : Prop := ∀ (F : Heap) (nm : List UInt8) (ar : Fo) (cs : List Value), ar.size < m → TyC F cs nm ar → ar.len * 40 ≤ 140737488355328 → Thin ar →
  Ct Tryz.prog 28 [.agg ⟨cs⟩] F [] (fun F' _ u => ∃ (ao : Option Addr) (q c : Nat), u = .agg ⟨[.string (bs nm), .slice ao q c]⟩ ∧ SlF F' (.slice ao q c) ar)
theorem drop_app {pre : Fo} {l : Fo} {k : Nat} {x : Ty} (h : pre.app (l.drop k) = l) (hx : l.get? k = some x) : (pre.app (.cons x.1 x.2 .nil)).app (l.drop (k + 1)) = l := by
  conv => rhs; rw [← h, Fo.drop_get hx]
  rw [fo_app_assoc]; rfl
set_option maxRecDepth 20000 in
set_option maxHeartbeats 8000000 in
theorem ownDCt : ∀ m, OwnD m := by
  intro m
  induction m with
  | zero => intro F nm ar cs hm; omega
  | succ m ih =>
  intro F nm ar cs hm hT hln hthin
  obtain ⟨v, rfl, ao, cap, rfl, hcap, hpos⟩ := hT
  refine Ct.enter Tryz.func28 rfl Tryz.ntmps28 rfl fun w0 a S => ?_
  refine wp_sr fun Kq1 hKq1 => ?_
  (refine wpl_bx S ?_; clear S a; intro b1 a w S)
  (refine wpl_al S ?_; clear S a; intro b2 a w S)
  (refine wpList_nil (hKq1 _ _ (wp_sr fun Kq2 hKq2 => ?_)); try clear hKq1 Kq1)
  (refine wpl_f S ?_; clear S a; intro a S)
  (refine wpl_l S ?_; clear S a; intro a S)
  (refine wpl_b S ?_; clear S a; intro a S)
  (refine wpl_al S ?_; clear S a; intro b3 a w S)
  (refine wpl_storeO S rfl rfl rfl rfl rfl (by rfl) (by simp [Value.cells, Value.oneCell', splice]) (by rfl) ?_; clear S; intro w S)
  (refine wpList_nil (hKq2 _ _ (wp_seq_k fun Kq3 hKq3 => ?_)); try clear hKq2 Kq2)
  refine wp_sr fun Kq4 hKq4 => ?_
  (refine wpl_f S ?_; clear S a; intro a S)
  (refine wpl_l S ?_; clear S a; intro a S)
  (refine wpl_n S ?_; clear S a; intro a S)
  (refine wpl_p S ?_; clear S a; intro a S)
  (refine wpList_nil (hKq4 _ _ ?_); try clear hKq4 Kq4)
  refine wp_block ?_
  refine wpc_loop (fun m a w' => ∃ (i : Nat) (v : Value) (g : Grp) (xs : List Value) (pre : Fo) (F3 : Heap), m = ar.len - i ∧ i ≤ ar.len ∧ (∀ b o, F b = some o → F3 b = some o) ∧ OwnS 24 2 v i xs g ∧ FoC F3 xs pre ∧ pre.len = i ∧ pre.app (ar.drop i) = ar ∧ St 25 [(2, ptr b2), (3, ptr b3), (10, .slice ao ar.len cap), (11, .int .i64 ar.len), (12, .int .i64 i)] w0 F [] F3 ([(b3, .cells ⟨[.string (bs nm), v]⟩ 24 (0, 0))] :: g :: [(b2, .cells ⟨[.string (bs []), .slice none 0 0]⟩ 24 (0, 0))] :: [(b1, .cells ⟨[.string (bs nm), .slice ao ar.len cap]⟩ 24 (0, 0))] :: []) a w') ?_ ?_
  · (replace S := st_nil2 S; refine ⟨ar.len, 0, .slice none 0 0, [], [], .nil, F, by omega, Nat.zero_le _, fun _ _ h => h, OwnS.nil _ _, trivial, rfl, rfl, ?_⟩; refine S.keep ?_; repeat (first | exact trivial | refine ⟨rfl, ?_⟩))
  (clear S; rintro m a w ⟨i, v, g, xs, pre, F3, rfl, hil, hF3, hown, hfc, hpre, happ, S⟩)
  refine wp_sr fun Kq5 hKq5 => ?_
  (refine wpl_p S ?_; clear S a; intro a S)
  (refine wpList_nil (hKq5 _ _ (wp_seq_k fun Kq6 hKq6 => ?_)); try clear hKq5 Kq5)
  refine wpc_split S rfl (fun h => ?_) (fun h => ?_)
  · (skip; (try simp only [tq] at h))
    refine wp_skip ?_
    (refine hKq6 _ _ ?_; try (clear hKq6 Kq6))
    (refine wp_seq_k ?_; intro Kq7 hKq7)
    refine wp_block ?_
    (refine wp_seq_k ?_; intro Kq8 hKq8)
    (obtain ⟨b8, o8, hao, x, v1, hx, hc1, hT1⟩ := FoM.pos hpos (k := i) (by omega); rw [hao] at S; replace hc1 := Cels.mono hF3 hc1; replace hT1 := hT1.mono hF3; have hT1c := hT1; obtain ⟨a91, c91, rfl, -⟩ := hT1c; obtain ⟨hx40, hxth⟩ := hthin.get hx; have hxs := Fo.size_get hx)
    refine wp_region_lit ?_
    (refine wpl_i S ?_; clear S a; intro a S)
    (refine wpl_l S ?_; clear S a; intro a S)
    (refine wpl_al S ?_; clear S a; intro b5 a w S)
    (refine wpl_storeO S rfl rfl rfl rfl rfl (by rfl) (by simp [Value.cells, Value.oneCell', splice]) (by rfl) ?_; clear S; intro w S)
    (refine wpList_nil (hKq8 _ _ ?_); try clear hKq8 Kq8)
    (refine wpc_mixM [0, 1, 2, 6] [1, 2] [7] (.one 0 (.one 1 (.one 2 (.one 3 (.one 4 (.one 5 (.one 6 (.one 7 .nil)))))))) [b3, b5] S mixed (by kernel_rfl) ?_; clear S; intro w S)
    (refine wpm_f S ?_; clear S a; intro a S)
    (refine wpm_o b3 S ?_; clear S a; intro a S)
    (refine wpm_o b5 S ?_; clear S a; intro a S)
    refine wpm_eff rfl rfl (kwa S) ?_
    (refine wpl_call (Gs := []) (Gr := [[(b5, _)], [(b3, _)], g, [(b2, _)], [(b1, _)]]) S rfl rfl rfl rfl rfl rfl (ih F3 x.1 x.2 _ (by omega) ⟨_, rfl, hT1⟩ hx40 hxth) rfl (by exact List.Perm.refl _) ?_; clear S a; intro u9 F4 G4 a w hv hF4 S; obtain ⟨a4, q4, c4, rfl, hs4⟩ := hv; replace S : St _ _ _ _ _ F4 ([(b5, _)] :: [(b3, _)] :: g :: [(b2, _)] :: [(b1, _)] :: []) _ _ := ⟨S.fr, S.tr.sub (by rw [List.flatten_append]; exact List.sublist_append_right _ _)⟩)
    refine wpList_nil ?_
    refine wpm_eff rfl rfl (kwa S) ?_
    (refine wpl_buildSlice S rfl rfl rfl rfl rfl rfl (by rfl) (by simp [Value.cells, splice, splice]) rfl (by rfl) (by rfl) ?_; clear S a; intro b20 a w hown2 S)
    refine wpList_nil ?_
    refine wpm_eff rfl rfl (kwa S) ?_
    (refine wpl_appendOwn S rfl rfl rfl rfl rfl rfl hown hown2 (by rfl) (by simp [Value.cells, Value.oneCell', splice, splice]) (by omega) (by omega) ?_; clear hown S a; intro v g a w hown S)
    refine wpList_nil ?_
    (refine wpm_f S ?_; clear S a; intro a S)
    refine wpm_eff rfl rfl (kwa S) ?_
    (refine wpl_store1 S rfl rfl rfl rfl rfl hown.oneCell (by first | (simp; done) | (simp [Value.cells]; done) | exact Nat.le_of_ble_eq_true rfl) ?_; clear S; intro w S)
    refine wpList_nil ?_
    (refine wpm_nil (fun h => absurd h (by decide)) (hKq7 _ _ ?_); try clear hKq7 Kq7)
    refine wp_region_lit ?_
    (refine wpl_a S ?_; clear S a; intro a S)
    (refine wpl_p S ?_; clear S a; intro a S)
    refine wpList_nil ?_
    change ∃ m', _ ∧ _
    (rw [← hao] at S; replace S := S.drop1; refine ⟨ar.len - (i + 1), by omega, i + 1, _, _, _, pre.app (.cons x.1 x.2 .nil), F4, rfl, by omega, fun b o h => hF4 _ _ (hF3 _ _ h), hown, FoC.app (hfc.mono hF4) (FoC.one hs4), by rw [Fo.len_app, hpre]; rfl, drop_app happ hx, ?_⟩; refine S.keep ?_; repeat (first | exact trivial | refine ⟨rfl, ?_⟩))
  (skip; (try simp only [tq] at h))
  refine wp_exit ?_
  (refine hKq3 _ _ ?_; try (clear hKq3 Kq3))
  (refine wp_seq_k ?_; intro Kq7 hKq7)
  (obtain ⟨aoK, capK, rfl, -⟩ := hown.at)
  refine wp_region_lit ?_
  (refine wpl_l S ?_; clear S a; intro a S)
  (refine wpl_storeO S rfl rfl rfl rfl rfl (by rfl) (by simp [Value.cells, Value.oneCell', splice]) (by rfl) ?_; clear S; intro w S)
  (refine wpList_nil (hKq7 _ _ ?_); try clear hKq7 Kq7)
  refine wp_ret ?_
  (have S0 := S; have hii : i = ar.len := (by omega); replace S := S.drop1; have hle := add_le (G1 := []) S; replace S := St.freeze (G1 := []) S; (simp only [List.nil_append] at S hle); replace S := S.drop1.drop1)
  refine fin_ret S (results1 Tryz.results28 (RV.cellO S0 rfl (by rfl))) ?_
  (have hdl : ar.drop i = .nil := Fo.drop_len (by omega); rw [hdl, fo_app_nil] at happ; rw [happ] at hfc hpre; exact ⟨_, _, _, rfl, FoC.slf hown hfc (by omega) hle (by omega)⟩)
end Go.Proofs.YtoaodbclgeeaeaaGreatDoor
