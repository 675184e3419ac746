/- Places held against each other; the walks of Same and of. -/
import Derived.Test.YtpgnmnacfilnkaaDoorLxJ
import Derived.Laws.StructEq
namespace Go.Proofs.YtpgnmnacfilnkaaDoor
open Go Go.Wk Go.Lx
set_option linter.unusedSimpArgs false
set_option linter.unusedVariables false
attribute [local irreducible] Go.wpList Go.Code.wp Go.wpStill Go.Wk.wpPre Go.bodyPost Go.Calls Go.Wk.Ct Go.Wk.OwnS
attribute [local irreducible] Go.Wk.wpG Go.Wk.wpM

section
variable {P : Program} {n : Sz} {L : List (Nat × Value)} {w0 : World} {F0 : Heap} {K0 : List Nat} {F : Heap} {G : List Grp} {a : Act} {w : World} {o : Oper}
theorem sv_eqAgg {x y : Operand} {xs ys : List Value} {t yt : TypeId} {b : Bool} (S : St n L w0 F0 K0 F G a w) (ho : o.op = .binOp .eql t x y yt) (hx : ev L x = some (.agg ⟨xs⟩)) (hy : ev L y = some (.agg ⟨ys⟩)) (hm : P.eqGuardType P.depth t = false)
    (hE : ∀ w, (Op.equalIn 10000 t (.agg ⟨xs⟩) (.agg ⟨ys⟩)).run P w = .ok b w) : SV P o a w (.bool b) := by
  have h1 := run_eqGuard_agg w (P := P) .eql t x y ⟨xs⟩ ⟨ys⟩ hm
  have h2 : (binOp .eql t (.agg ⟨xs⟩) (.agg ⟨ys⟩)).run P w = .ok (.bool b) w := by rw [run_eql_struct, hE]; rfl
  unfold SV execOp
  rw [ho]
  simp [S.fr.eval hx, S.fr.eval hy, h1, h2]
theorem sv_neAgg {x y : Operand} {xs ys : List Value} {t yt : TypeId} {b : Bool} (S : St n L w0 F0 K0 F G a w) (ho : o.op = .binOp .neq t x y yt) (hx : ev L x = some (.agg ⟨xs⟩)) (hy : ev L y = some (.agg ⟨ys⟩)) (hm : P.eqGuardType P.depth t = false)
    (hE : ∀ w, (Op.equalIn 10000 t (.agg ⟨xs⟩) (.agg ⟨ys⟩)).run P w = .ok b w) : SV P o a w (.bool (!b)) := by
  have h1 := run_eqGuard_agg w (P := P) .neq t x y ⟨xs⟩ ⟨ys⟩ hm
  have h2 : (binOp .neq t (.agg ⟨xs⟩) (.agg ⟨ys⟩)).run P w = .ok (.bool (!b)) w := by rw [run_neq_struct, hE]; rfl
  unfold SV execOp
  rw [ho]
  simp [S.fr.eval hx, S.fr.eval hy, h1, h2]
end
theorem eqPosK (k : Nat) (a b c d : Int) (w : World) : (Op.equalIn (k + 2) 24 (.agg ⟨[.int .i64 a, .int .i64 b]⟩) (.agg ⟨[.int .i64 c, .int .i64 d]⟩)).run Tryd.prog w = .ok (a == c && b == d) w := by
  have u3 := Tryd.underlying3
  have a3 := Tryd.isAgg3
  have z3 := Tryd.sizeOf3
  have hS : Tryd.prog.underlying 24 = some (.struct (Tryd.prog.fieldsOf 24)) := by kernel_rfl
  have hp : Tryd.prog.stoodInHeld 24 = false := by kernel_rfl
  rw [run_equalIn_agg w (k + 1) 24 _ _ hS hp]
  simp only [Program.fieldsOf, Tryd.underlying24]
  simp [Op.eqFields, part, a3, z3, run_equalIn_int (h := u3)]
  by_cases h1 : a = c <;> by_cases h2 : b = d <;> simp [h1, h2]
theorem eqPos (a b c d : Int) (w : World) : (Op.equalIn 10000 24 (.agg ⟨[.int .i64 a, .int .i64 b]⟩) (.agg ⟨[.int .i64 c, .int .i64 d]⟩)).run Tryd.prog w = .ok (a == c && b == d) w := eqPosK 9998 a b c d w
theorem guardPos : Tryd.prog.eqGuardType Tryd.prog.depth 24 = false := by kernel_rfl

def eqT (b : Bool) (x y : Tok) : Bool := decide (x.kind = y.kind) && decide (x.text = y.text) && (!b || (decide (x.line = y.line) && decide (x.col = y.col)))
def sameT (b : Bool) : List Tok → List Tok → Bool
  | [], [] => true
  | x :: l, y :: m => eqT b x y && sameT b l m
  | _, _ => false
theorem eqT_refl (b : Bool) (x : Tok) : eqT b x x = true := by simp [eqT]
theorem sameT_refl (b : Bool) : ∀ l, sameT b l l = true
  | [] => rfl
  | x :: l => by simp [sameT, eqT_refl, sameT_refl b l]
theorem sameT_len {b : Bool} : ∀ {l m : List Tok}, l.length ≠ m.length → sameT b l m = false
  | [], [], h => absurd rfl h
  | [], _ :: _, _ => rfl
  | _ :: _, [], _ => rfl
  | x :: l, y :: m, h => by simp only [sameT, sameT_len (b := b) (l := l) (m := m) (by simpa using h), Bool.and_false]
theorem sameT_all {b : Bool} : ∀ {l m : List Tok}, l.length = m.length → (∀ j, (h1 : j < l.length) → (h2 : j < m.length) → eqT b (l[j]'h1) (m[j]'h2) = true) → sameT b l m = true
  | [], [], _, _ => rfl
  | x :: l, y :: m, h, ha => by
    simp only [sameT]
    rw [Bool.and_eq_true]
    exact ⟨ha 0 (by simp) (by simp), sameT_all (by simpa using h) fun j h1 h2 => ha (j + 1) (by simpa using h1) (by simpa using h2)⟩
theorem sameT_no {b : Bool} : ∀ {l m : List Tok} {j : Nat} (h1 : j < l.length) (h2 : j < m.length), eqT b (l[j]'h1) (m[j]'h2) = false → sameT b l m = false
  | x :: l, y :: m, 0, _, _, h => by simp only [List.getElem_cons_zero] at h; simp [sameT, h]
  | x :: l, y :: m, j + 1, h1, h2, h => by have h9 := sameT_no (b := b) (l := l) (m := m) (j := j) (by simpa using h1) (by simpa using h2) (by simpa using h); simp [sameT, h9]
theorem tkC_len (l : List Tok) : ∀ t ∈ l, (tkC t).length = 4 := fun _ _ => rfl
/-- Of the k-th token: its cells. -/
theorem tk_at {F : Heap} {b off k : Nat} {l : List Tok} (h : Cels F b off (l.flatMap tkC)) (hk : k < l.length) :
    Cels F b (off + k * 4 + 0) [.int .i64 (l[k]'hk).line, .int .i64 (l[k]'hk).col] ∧ Cel F b (off + k * 4 + 2) (.int .u8 (l[k]'hk).kind) ∧ Cel F b (off + k * 4 + 3) (.string (bs (l[k]'hk).text)) ∧ Cels F b (off + k * 4) (tkC (l[k]'hk)) := by
  have e := List.getElem?_eq_getElem hk
  have h1 := Cels.elem (tkC_len l) h e
  exact ⟨(h1.take 2).zero, h1.cel (j := 2) rfl, h1.cel (j := 3) rfl, h1⟩
theorem flat_take (l : List Tok) {k : Nat} (h : k < l.length) : (l.take (k + 1)).flatMap tkC = (l.take k).flatMap tkC ++ tkC (l[k]'h) := by
  rw [List.take_succ_eq_append_getElem h, List.flatMap_append]
  simp only [List.flatMap_cons, List.flatMap_nil, List.append_nil]

set_option maxHeartbeats 2000000 in
theorem ofCt (l : List Tok) (v : Value) (F : Heap) (hl : l.length ≤ 1000000) (hv : SlC F v l.length (l.flatMap tkC)) : Ct Tryd.prog 11 [v] F [] (fun F' _ u => SlC F' u l.length (l.flatMap tkC)) := by
  obtain ⟨ao, cap, rfl, hcap, hpos⟩ := hv
  refine Ct.enter Tryd.func11 rfl Tryd.ntmps11 rfl fun w0 a S => ?_
  (refine wp_seq_k ?_; intro Kq1 hKq1)
  refine wp_region_lit ?_
  (refine wpl_v S rfl rfl rfl (sv_pure S rfl) ?_; clear S a; intro a S)
  refine wpList_nil ?_
  (refine hKq1 _ _ ?_; try (clear hKq1 Kq1))
  (refine wp_seq_k ?_; intro Kq2 hKq2)
  refine wp_region_lit ?_
  (refine wpl_v S rfl rfl rfl (sv_pure S rfl) ?_; clear S a; intro a S)
  refine wpList_nil ?_
  (refine hKq2 _ _ ?_; try (clear hKq2 Kq2))
  (refine wp_seq_k ?_; intro Kq3 hKq3)
  (refine wp_seq_k ?_; intro Kq4 hKq4)
  refine wp_region_lit ?_
  (refine wpl_v S rfl rfl rfl (sv_pure S rfl) ?_; clear S a; intro a S)
  refine wpList_nil ?_
  (refine hKq4 _ _ ?_; try (clear hKq4 Kq4))
  refine wp_block ?_
  refine wpc_loop (fun m a w' => ∃ (k : Nat) (v : Value) (g : Grp), m = l.length - k ∧ k ≤ l.length ∧ OwnS 60 4 v k ((l.take k).flatMap tkC) g ∧ St 31 [(0, .slice ao l.length cap), (3, v), (4, .int .i64 k)] w0 F [] F [g] a w') ?_ ?_
  · (refine ⟨l.length, 0, _, _, by simp, Nat.zero_le _, OwnS.nil _ _, ?_⟩; replace S := S.nilg; refine S.keep ?_; repeat (first | exact trivial | refine ⟨rfl, ?_⟩))
  · (clear S; rintro m a w ⟨k, v, g, rfl, hk, hown, S⟩)
    (refine wp_seq_k ?_; intro Kq5 hKq5)
    (refine wp_seq_k ?_; intro Kq6 hKq6)
    refine wp_region_lit ?_
    (refine wpl_v S rfl rfl rfl (sv_pure S rfl) ?_; clear S a; intro a S)
    (refine wpl_v S rfl rfl rfl (sv_pure S rfl) ?_; clear S a; intro a S)
    (refine wpl_v S rfl rfl rfl (sv_lenSl S rfl rfl) ?_; clear S a; intro a S)
    (refine wpl_v S rfl rfl rfl (sv_pure S rfl) ?_; clear S a; intro a S)
    refine wpList_nil ?_
    (refine hKq6 _ _ ?_; try (clear hKq6 Kq6))
    refine wpc_split S rfl (fun h => ?_) (fun h => ?_)
    · (skip; (try simp only [decide_eq_true_eq, decide_eq_false_iff_not, beq_iff_eq, bne_iff_ne, bne_eq_false_iff_eq, beq_eq_false_iff_ne, ne_eq, Bool.not_eq_true', Bool.not_eq_false', Bool.not_eq_true, Bool.not_eq_false, Bool.not_true, Bool.not_false, Int.ofNat_lt, Int.ofNat_le, Nat.not_lt, Nat.not_le] at h))
      refine wp_skip ?_
      (refine hKq5 _ _ ?_; try (clear hKq5 Kq5))
      (refine wp_seq_k ?_; intro Kq7 hKq7)
      refine wp_block ?_
      (have hkl : k < l.length := (by omega); obtain ⟨b, off, rfl, hcs⟩ := hpos (by omega); obtain ⟨hc0, hc2, hc3, -⟩ := tk_at hcs hkl)
      (refine wpc_mixM [0, 1, 2, 3, 4, 5, 6, 7, 8, 9, 10, 11, 12, 13, 14, 15, 16] [5, 10, 15] [] (.one 0 (.one 1 (.one 2 (.one 3 (.one 4 (.one 5 (.one 6 (.one 7 (.one 8 (.one 9 (.one 10 (.one 11 (.one 12 (.one 13 (.one 14 (.one 15 (.one 16 (.one 17 (.one 18 (.one 19 .nil)))))))))))))))))))) [] S mixed (by kernel_rfl) ?_; clear S; intro w S)
      (refine wpm_v S rfl rfl rfl (want_none _ rfl) rfl rfl (fun w' S => sv_pure S rfl) ?_; clear S a; intro a S)
      (refine wpm_v S rfl rfl rfl (want_none _ rfl) rfl rfl (fun w' S => sv_pure S rfl) ?_; clear S a; intro a S)
      (refine wpm_v S rfl rfl rfl (want_none _ rfl) rfl rfl (fun w' S => sv_pure S rfl) ?_; clear S a; intro a S)
      (refine wpm_v S rfl rfl rfl (want_none _ rfl) rfl rfl (fun w' S => sv_indexAddrSl S rfl rfl rfl (by first | omega | (simp only [List.length_append, List.length_cons, List.length_nil]; omega))) ?_; clear S a; intro a S)
      (refine wpm_v S rfl rfl rfl (want_none _ rfl) rfl rfl (fun w' S => sv_fieldAddr S rfl rfl rfl inferInstance rfl) ?_; clear S a; intro a S)
      first | (refine wpm_lateF S rfl rfl rfl (want_none _ rfl) rfl rfl (fun w' S => sv_loadF S rfl rfl (by assumption)) ?_; clear S a; intro a S) | (refine wpm_lateF S rfl rfl rfl (want_none _ rfl) rfl rfl (fun w' S => sv_loadAF S rfl rfl (by assumption) (by rfl)) ?_; clear S a; intro a S)
      (refine wpm_v S rfl rfl rfl (want_none _ rfl) rfl rfl (fun w' S => sv_pure S rfl) ?_; clear S a; intro a S)
      (refine wpm_v S rfl rfl rfl (want_none _ rfl) rfl rfl (fun w' S => sv_pure S rfl) ?_; clear S a; intro a S)
      (refine wpm_v S rfl rfl rfl (want_none _ rfl) rfl rfl (fun w' S => sv_indexAddrSl S rfl rfl rfl (by first | omega | (simp only [List.length_append, List.length_cons, List.length_nil]; omega))) ?_; clear S a; intro a S)
      (refine wpm_v S rfl rfl rfl (want_none _ rfl) rfl rfl (fun w' S => sv_fieldAddr S rfl rfl rfl inferInstance rfl) ?_; clear S a; intro a S)
      first | (refine wpm_lateF S rfl rfl rfl (want_none _ rfl) rfl rfl (fun w' S => sv_loadF S rfl rfl (by assumption)) ?_; clear S a; intro a S) | (refine wpm_lateF S rfl rfl rfl (want_none _ rfl) rfl rfl (fun w' S => sv_loadAF S rfl rfl (by assumption) (by rfl)) ?_; clear S a; intro a S)
      (refine wpm_v S rfl rfl rfl (want_none _ rfl) rfl rfl (fun w' S => sv_pure S rfl) ?_; clear S a; intro a S)
      (refine wpm_v S rfl rfl rfl (want_none _ rfl) rfl rfl (fun w' S => sv_pure S rfl) ?_; clear S a; intro a S)
      (refine wpm_v S rfl rfl rfl (want_none _ rfl) rfl rfl (fun w' S => sv_indexAddrSl S rfl rfl rfl (by first | omega | (simp only [List.length_append, List.length_cons, List.length_nil]; omega))) ?_; clear S a; intro a S)
      (refine wpm_v S rfl rfl rfl (want_none _ rfl) rfl rfl (fun w' S => sv_fieldAddr S rfl rfl rfl inferInstance rfl) ?_; clear S a; intro a S)
      first | (refine wpm_lateF S rfl rfl rfl (want_none _ rfl) rfl rfl (fun w' S => sv_loadF S rfl rfl (by assumption)) ?_; clear S a; intro a S) | (refine wpm_lateF S rfl rfl rfl (want_none _ rfl) rfl rfl (fun w' S => sv_loadAF S rfl rfl (by assumption) (by rfl)) ?_; clear S a; intro a S)
      (refine wpm_v S rfl rfl rfl (want_none _ rfl) rfl rfl (fun w' S => sv_build S rfl rfl rfl) ?_; clear S a; intro a S)
      refine wpm_eff rfl rfl (fun _ => ⟨fun b o h => S.tr.frz b o (by first | exact h | solve_by_elim), trivial⟩) ?_
      (refine wpl_buildSlice S rfl rfl rfl rfl rfl rfl (by rfl) (by simp [Value.cells, splice, splice]) rfl (by rfl) (by rfl) ?_; clear S a; intro b28 a w hown2 S)
      refine wpList_nil ?_
      refine wpm_eff rfl rfl (fun _ => ⟨fun b o h => S.tr.frz b o (by first | exact h | solve_by_elim), trivial⟩) ?_
      (refine wpl_appendOwn S rfl rfl rfl rfl rfl rfl hown hown2 (by rfl) (by simp [Value.cells, Value.oneCell', splice, splice]) (by omega) (by omega) ?_; clear hown S a; intro v g a w hown S)
      refine wpList_nil ?_
      refine wpm_eff rfl rfl (fun _ => ⟨fun b o h => S.tr.frz b o (by first | exact h | solve_by_elim), trivial⟩) ?_
      (refine wpl_v S rfl rfl rfl (sv_pure S rfl) ?_; clear S a; intro a S)
      refine wpList_nil ?_
      refine wpm_nil (fun _ => ⟨fun b o h => S.tr.frz b o (by first | exact h | solve_by_elim), trivial⟩) ?_
      (refine hKq7 _ _ ?_; try (clear hKq7 Kq7))
      refine wp_region_lit ?_
      (refine wpl_v S rfl rfl rfl (sv_pure S rfl) ?_; clear S a; intro a S)
      (refine wpl_v S rfl rfl rfl (sv_add S rfl rfl rfl (by first | omega | (simp only [List.length_append, List.length_cons, List.length_nil]; omega))) ?_; clear S a; intro a S)
      (refine wpl_v S rfl rfl rfl (sv_pure S rfl) ?_; clear S a; intro a S)
      refine wpList_nil ?_
      change ∃ m', _ ∧ _
      (refine ⟨l.length - (k + 1), by omega, k + 1, v, g, rfl, by omega, ?_, ?_⟩; rotate_left 1; (refine S.keep ?_; repeat (first | exact trivial | refine ⟨rfl, ?_⟩)); rw [flat_take l hkl]; exact hown)
    · (skip; (try simp only [decide_eq_true_eq, decide_eq_false_iff_not, beq_iff_eq, bne_iff_ne, bne_eq_false_iff_eq, beq_eq_false_iff_ne, ne_eq, Bool.not_eq_true', Bool.not_eq_false', Bool.not_eq_true, Bool.not_eq_false, Bool.not_true, Bool.not_false, Int.ofNat_lt, Int.ofNat_le, Nat.not_lt, Nat.not_le] at h))
      refine wp_exit ?_
      (refine hKq3 _ _ ?_; try (clear hKq3 Kq3))
      (refine wp_seq_k ?_; intro Kq7 hKq7)
      (have hkl : k = l.length := (by omega); replace S := St.freeze (G1 := []) S; have h0 : List.take k l = l := List.take_of_length_le (by omega); rw [h0, hkl] at hown; have hsl := hown.slC F)
      refine wp_region_lit ?_
      (refine wpl_v S rfl rfl rfl (sv_pure S rfl) ?_; clear S a; intro a S)
      (refine wpl_v S rfl rfl rfl (sv_pure S rfl) ?_; clear S a; intro a S)
      refine wpList_nil ?_
      (refine hKq7 _ _ ?_; try (clear hKq7 Kq7))
      refine wp_ret ?_
      refine fin_ret S (results1 Tryd.results11 (RV.tmp S rfl)) ?_
      exact hsl

set_option maxHeartbeats 4000000 in
theorem sameCt (l m : List Tok) (u v : Value) (pl : Bool) (F : Heap) (hl : l.length ≤ 1000000) (hu : SlC F u l.length (l.flatMap tkC)) (hv : SlC F v m.length (m.flatMap tkC)) : Ct Tryd.prog 10 [u, v, .bool pl] F [] (fun _ _ r => r = .bool (sameT pl l m)) := by
  obtain ⟨ao, cap, rfl, hcap, hpos⟩ := hu
  obtain ⟨bo, cap2, rfl, hcap2, hpos2⟩ := hv
  refine Ct.enter Tryd.func10 rfl Tryd.ntmps10 rfl fun w0 a S => ?_
  (refine wp_seq_k ?_; intro Kq1 hKq1)
  refine wp_region_lit ?_
  (refine wpl_v S rfl rfl rfl (sv_pure S rfl) ?_; clear S a; intro a S)
  refine wpList_nil ?_
  (refine hKq1 _ _ ?_; try (clear hKq1 Kq1))
  (refine wp_seq_k ?_; intro Kq2 hKq2)
  (refine wp_seq_k ?_; intro Kq3 hKq3)
  refine wp_region_lit ?_
  (refine wpl_v S rfl rfl rfl (sv_pure S rfl) ?_; clear S a; intro a S)
  (refine wpl_v S rfl rfl rfl (sv_lenSl S rfl rfl) ?_; clear S a; intro a S)
  (refine wpl_v S rfl rfl rfl (sv_pure S rfl) ?_; clear S a; intro a S)
  (refine wpl_v S rfl rfl rfl (sv_lenSl S rfl rfl) ?_; clear S a; intro a S)
  (refine wpl_v S rfl rfl rfl (sv_pure S rfl) ?_; clear S a; intro a S)
  refine wpList_nil ?_
  (refine hKq3 _ _ ?_; try (clear hKq3 Kq3))
  refine wpc_split S rfl (fun h => ?_) (fun h => ?_)
  · (skip; (try simp only [decide_eq_true_eq, decide_eq_false_iff_not, beq_iff_eq, bne_iff_ne, bne_eq_false_iff_eq, beq_eq_false_iff_ne, ne_eq, Bool.not_eq_true', Bool.not_eq_false', Bool.not_eq_true, Bool.not_eq_false, Bool.not_true, Bool.not_false, Int.ofNat_lt, Int.ofNat_le, Nat.not_lt, Nat.not_le] at h))
    (refine wp_seq_k ?_; intro Kq4 hKq4)
    refine wp_region_lit ?_
    (refine wpl_v S rfl rfl rfl (sv_pure S rfl) ?_; clear S a; intro a S)
    refine wpList_nil ?_
    (refine hKq4 _ _ ?_; try (clear hKq4 Kq4))
    refine wp_ret ?_
    refine fin_ret S (results1 Tryd.results10 (RV.tmp S rfl)) ?_
    (first | rw [sameT_len (by omega)] | (have h9 : eqT pl (l[k]'hkl) (m[k]'hkm) = false := (by clear hall S hcs1 hcs2 hc0 hc2 hc3 hd0 hd2 hd3 hpos hpos2; simp_all [eqT]); rw [sameT_no hkl hkm h9]) | rw [sameT_all (by omega) (fun j h1 h2 => hall j (by omega) h1 h2)])
  · (skip; (try simp only [decide_eq_true_eq, decide_eq_false_iff_not, beq_iff_eq, bne_iff_ne, bne_eq_false_iff_eq, beq_eq_false_iff_ne, ne_eq, Bool.not_eq_true', Bool.not_eq_false', Bool.not_eq_true, Bool.not_eq_false, Bool.not_true, Bool.not_false, Int.ofNat_lt, Int.ofNat_le, Nat.not_lt, Nat.not_le] at h))
    refine wp_skip ?_
    (refine hKq2 _ _ ?_; try (clear hKq2 Kq2))
    (refine wp_seq_k ?_; intro Kq4 hKq4)
    (refine wp_seq_k ?_; intro Kq5 hKq5)
    refine wp_region_lit ?_
    (refine wpl_v S rfl rfl rfl (sv_pure S rfl) ?_; clear S a; intro a S)
    refine wpList_nil ?_
    (refine hKq5 _ _ ?_; try (clear hKq5 Kq5))
    refine wp_block ?_
    refine wpc_loop (fun m' a w' => ∃ (k : Nat), m' = l.length - k ∧ k ≤ l.length ∧ (∀ j, (h1 : j < k) → (h2 : j < l.length) → (h3 : j < m.length) → eqT pl (l[j]'h2) (m[j]'h3) = true) ∧ St 59 [(0, .slice ao l.length cap), (1, .slice bo m.length cap2), (2, .bool pl), (7, .int .i64 k)] w0 F [] F [] a w') ?_ ?_
    · (refine ⟨l.length, 0, by simp, Nat.zero_le _, fun j hj => by omega, ?_⟩; refine S.keep ?_; repeat (first | exact trivial | refine ⟨rfl, ?_⟩))
    · (clear S; rintro m' a w ⟨k, rfl, hk, hall, S⟩)
      (refine wp_seq_k ?_; intro Kq6 hKq6)
      (refine wp_seq_k ?_; intro Kq7 hKq7)
      refine wp_region_lit ?_
      (refine wpl_v S rfl rfl rfl (sv_pure S rfl) ?_; clear S a; intro a S)
      (refine wpl_v S rfl rfl rfl (sv_pure S rfl) ?_; clear S a; intro a S)
      (refine wpl_v S rfl rfl rfl (sv_lenSl S rfl rfl) ?_; clear S a; intro a S)
      (refine wpl_v S rfl rfl rfl (sv_pure S rfl) ?_; clear S a; intro a S)
      refine wpList_nil ?_
      (refine hKq7 _ _ ?_; try (clear hKq7 Kq7))
      refine wpc_split S rfl (fun h => ?_) (fun h => ?_)
      · (skip; (try simp only [decide_eq_true_eq, decide_eq_false_iff_not, beq_iff_eq, bne_iff_ne, bne_eq_false_iff_eq, beq_eq_false_iff_ne, ne_eq, Bool.not_eq_true', Bool.not_eq_false', Bool.not_eq_true, Bool.not_eq_false, Bool.not_true, Bool.not_false, Int.ofNat_lt, Int.ofNat_le, Nat.not_lt, Nat.not_le] at h))
        refine wp_skip ?_
        (refine hKq6 _ _ ?_; try (clear hKq6 Kq6))
        (refine wp_seq_k ?_; intro Kq8 hKq8)
        refine wp_block ?_
        (refine wp_seq_k ?_; intro Kq9 hKq9)
        (have hkl : k < l.length := (by omega); have hkm : k < m.length := (by omega); obtain ⟨b1, o1, rfl, hcs1⟩ := hpos (by omega); obtain ⟨b2, o2, rfl, hcs2⟩ := hpos2 (by omega); obtain ⟨hc0, hc2, hc3, -⟩ := tk_at hcs1 hkl; obtain ⟨hd0, hd2, hd3, -⟩ := tk_at hcs2 hkm)
        (refine wpc_mixM [0, 1, 2, 3, 4, 5, 6, 7, 8, 9, 10, 11, 12, 13, 14, 15, 16, 17, 18, 19, 20, 21, 22, 23, 24, 25, 26, 27, 28, 29, 30, 31, 32, 33, 34, 35, 36, 37, 38, 39] [4, 9, 16, 21, 31, 36] [] (.one 0 (.one 1 (.one 2 (.one 3 (.one 4 (.one 5 (.one 6 (.one 7 (.one 8 (.one 9 (.one 10 (.one 11 (.one 12 (.one 13 (.one 14 (.one 15 (.one 16 (.one 17 (.one 18 (.one 19 (.one 20 (.one 21 (.one 22 (.one 23 (.one 24 (.one 25 (.one 26 (.one 27 (.one 28 (.one 29 (.one 30 (.one 31 (.one 32 (.one 33 (.one 34 (.one 35 (.one 36 (.one 37 (.one 38 (.one 39 .nil)))))))))))))))))))))))))))))))))))))))) [] S mixed (by kernel_rfl) ?_; clear S; intro w S)
        (refine wpm_v S rfl rfl rfl (want_none _ rfl) rfl rfl (fun w' S => sv_pure S rfl) ?_; clear S a; intro a S)
        (refine wpm_v S rfl rfl rfl (want_none _ rfl) rfl rfl (fun w' S => sv_pure S rfl) ?_; clear S a; intro a S)
        (refine wpm_v S rfl rfl rfl (want_none _ rfl) rfl rfl (fun w' S => sv_indexAddrSl S rfl rfl rfl (by first | omega | (simp only [List.length_append, List.length_cons, List.length_nil]; omega))) ?_; clear S a; intro a S)
        (refine wpm_v S rfl rfl rfl (want_none _ rfl) rfl rfl (fun w' S => sv_fieldAddr S rfl rfl rfl inferInstance rfl) ?_; clear S a; intro a S)
        first | (refine wpm_lateF S rfl rfl rfl (want_none _ rfl) rfl rfl (fun w' S => sv_loadF S rfl rfl (by assumption)) ?_; clear S a; intro a S) | (refine wpm_lateF S rfl rfl rfl (want_none _ rfl) rfl rfl (fun w' S => sv_loadAF S rfl rfl (by assumption) (by rfl)) ?_; clear S a; intro a S)
        (refine wpm_v S rfl rfl rfl (want_none _ rfl) rfl rfl (fun w' S => sv_pure S rfl) ?_; clear S a; intro a S)
        (refine wpm_v S rfl rfl rfl (want_none _ rfl) rfl rfl (fun w' S => sv_pure S rfl) ?_; clear S a; intro a S)
        (refine wpm_v S rfl rfl rfl (want_none _ rfl) rfl rfl (fun w' S => sv_indexAddrSl S rfl rfl rfl (by first | omega | (simp only [List.length_append, List.length_cons, List.length_nil]; omega))) ?_; clear S a; intro a S)
        (refine wpm_v S rfl rfl rfl (want_none _ rfl) rfl rfl (fun w' S => sv_fieldAddr S rfl rfl rfl inferInstance rfl) ?_; clear S a; intro a S)
        first | (refine wpm_lateF S rfl rfl rfl (want_none _ rfl) rfl rfl (fun w' S => sv_loadF S rfl rfl (by assumption)) ?_; clear S a; intro a S) | (refine wpm_lateF S rfl rfl rfl (want_none _ rfl) rfl rfl (fun w' S => sv_loadAF S rfl rfl (by assumption) (by rfl)) ?_; clear S a; intro a S)
        (refine wpm_v S rfl rfl rfl (want_none _ rfl) rfl rfl (fun w' S => sv_pure S rfl) ?_; clear S a; intro a S)
        (refine wpm_v S rfl rfl rfl (want_none _ rfl) rfl rfl (fun w' S => sv_pure S rfl) ?_; clear S a; intro a S)
        refine St.part (dj := 30) (want := false) S rfl ?_ ?_
        · (intro h S'; clear S; have S := S'; clear S'; (try simp only [decide_eq_true_eq, decide_eq_false_iff_not, beq_iff_eq, bne_iff_ne, bne_eq_false_iff_eq, beq_eq_false_iff_ne, ne_eq, Bool.not_eq_true', Bool.not_eq_false', Bool.not_eq_true, Bool.not_eq_false, Bool.not_true, Bool.not_false, Int.ofNat_lt, Int.ofNat_le, Nat.not_lt, Nat.not_le] at h))
          (refine wpm_v S rfl rfl rfl (want_yes S rfl rfl rfl) rfl rfl (fun w' S => sv_pure S rfl) ?_; clear S a; intro a S)
          (refine wpm_v S rfl rfl rfl (want_yes S rfl rfl rfl) rfl rfl (fun w' S => sv_pure S rfl) ?_; clear S a; intro a S)
          (refine wpm_v S rfl rfl rfl (want_yes S rfl rfl rfl) rfl rfl (fun w' S => sv_indexAddrSl S rfl rfl rfl (by first | omega | (simp only [List.length_append, List.length_cons, List.length_nil]; omega))) ?_; clear S a; intro a S)
          (refine wpm_v S rfl rfl rfl (want_yes S rfl rfl rfl) rfl rfl (fun w' S => sv_fieldAddr S rfl rfl rfl inferInstance rfl) ?_; clear S a; intro a S)
          first | (refine wpm_lateF S rfl rfl rfl (want_yes S rfl rfl rfl) rfl rfl (fun w' S => sv_loadF S rfl rfl (by assumption)) ?_; clear S a; intro a S) | (refine wpm_lateF S rfl rfl rfl (want_yes S rfl rfl rfl) rfl rfl (fun w' S => sv_loadAF S rfl rfl (by assumption) (by rfl)) ?_; clear S a; intro a S)
          (refine wpm_v S rfl rfl rfl (want_yes S rfl rfl rfl) rfl rfl (fun w' S => sv_pure S rfl) ?_; clear S a; intro a S)
          (refine wpm_v S rfl rfl rfl (want_yes S rfl rfl rfl) rfl rfl (fun w' S => sv_pure S rfl) ?_; clear S a; intro a S)
          (refine wpm_v S rfl rfl rfl (want_yes S rfl rfl rfl) rfl rfl (fun w' S => sv_indexAddrSl S rfl rfl rfl (by first | omega | (simp only [List.length_append, List.length_cons, List.length_nil]; omega))) ?_; clear S a; intro a S)
          (refine wpm_v S rfl rfl rfl (want_yes S rfl rfl rfl) rfl rfl (fun w' S => sv_fieldAddr S rfl rfl rfl inferInstance rfl) ?_; clear S a; intro a S)
          first | (refine wpm_lateF S rfl rfl rfl (want_yes S rfl rfl rfl) rfl rfl (fun w' S => sv_loadF S rfl rfl (by assumption)) ?_; clear S a; intro a S) | (refine wpm_lateF S rfl rfl rfl (want_yes S rfl rfl rfl) rfl rfl (fun w' S => sv_loadAF S rfl rfl (by assumption) (by rfl)) ?_; clear S a; intro a S)
          (refine wpm_v S rfl rfl rfl (want_yes S rfl rfl rfl) rfl rfl (fun w' S => sv_pure S rfl) ?_; clear S a; intro a S)
          first | (refine wpm_v S rfl rfl rfl (want_none _ rfl) rfl rfl (fun w' S => sv_pure S rfl) ?_; clear S a; intro a S) | (refine wpm_v S rfl rfl rfl (want_none _ rfl) rfl rfl (fun w' S => sv_pickB S rfl rfl rfl rfl) ?_; clear S a; intro a S)
          (refine wpm_v S rfl rfl rfl (want_none _ rfl) rfl rfl (fun w' S => sv_pure S rfl) ?_; clear S a; intro a S)
          refine St.part (dj := 43) (want := false) S rfl ?_ ?_
          · (intro h S'; clear S; have S := S'; clear S'; (try simp only [decide_eq_true_eq, decide_eq_false_iff_not, beq_iff_eq, bne_iff_ne, bne_eq_false_iff_eq, beq_eq_false_iff_ne, ne_eq, Bool.not_eq_true', Bool.not_eq_false', Bool.not_eq_true, Bool.not_eq_false, Bool.not_true, Bool.not_false, Int.ofNat_lt, Int.ofNat_le, Nat.not_lt, Nat.not_le] at h))
            (refine wpm_v S rfl rfl rfl (want_yes S rfl rfl rfl) rfl rfl (fun w' S => sv_pure S rfl) ?_; clear S a; intro a S)
            (refine wpm_v S rfl rfl rfl (want_yes S rfl rfl rfl) rfl rfl (fun w' S => sv_pure S rfl) ?_; clear S a; intro a S)
            refine St.part (dj := 45) (want := true) S rfl ?_ ?_
            · (intro h S'; clear S; have S := S'; clear S'; (try simp only [decide_eq_true_eq, decide_eq_false_iff_not, beq_iff_eq, bne_iff_ne, bne_eq_false_iff_eq, beq_eq_false_iff_ne, ne_eq, Bool.not_eq_true', Bool.not_eq_false', Bool.not_eq_true, Bool.not_eq_false, Bool.not_true, Bool.not_false, Int.ofNat_lt, Int.ofNat_le, Nat.not_lt, Nat.not_le] at h))
              (refine wpm_v S rfl rfl rfl (want_yes S rfl rfl rfl) rfl rfl (fun w' S => sv_pure S rfl) ?_; clear S a; intro a S)
              (refine wpm_v S rfl rfl rfl (want_yes S rfl rfl rfl) rfl rfl (fun w' S => sv_pure S rfl) ?_; clear S a; intro a S)
              (refine wpm_v S rfl rfl rfl (want_yes S rfl rfl rfl) rfl rfl (fun w' S => sv_indexAddrSl S rfl rfl rfl (by first | omega | (simp only [List.length_append, List.length_cons, List.length_nil]; omega))) ?_; clear S a; intro a S)
              (refine wpm_v S rfl rfl rfl (want_yes S rfl rfl rfl) rfl rfl (fun w' S => sv_fieldAddr S rfl rfl rfl inferInstance rfl) ?_; clear S a; intro a S)
              first | (refine wpm_lateF S rfl rfl rfl (want_yes S rfl rfl rfl) rfl rfl (fun w' S => sv_loadF S rfl rfl (by assumption)) ?_; clear S a; intro a S) | (refine wpm_lateF S rfl rfl rfl (want_yes S rfl rfl rfl) rfl rfl (fun w' S => sv_loadAF S rfl rfl (by assumption) (by rfl)) ?_; clear S a; intro a S)
              (refine wpm_v S rfl rfl rfl (want_yes S rfl rfl rfl) rfl rfl (fun w' S => sv_pure S rfl) ?_; clear S a; intro a S)
              (refine wpm_v S rfl rfl rfl (want_yes S rfl rfl rfl) rfl rfl (fun w' S => sv_pure S rfl) ?_; clear S a; intro a S)
              (refine wpm_v S rfl rfl rfl (want_yes S rfl rfl rfl) rfl rfl (fun w' S => sv_indexAddrSl S rfl rfl rfl (by first | omega | (simp only [List.length_append, List.length_cons, List.length_nil]; omega))) ?_; clear S a; intro a S)
              (refine wpm_v S rfl rfl rfl (want_yes S rfl rfl rfl) rfl rfl (fun w' S => sv_fieldAddr S rfl rfl rfl inferInstance rfl) ?_; clear S a; intro a S)
              first | (refine wpm_lateF S rfl rfl rfl (want_yes S rfl rfl rfl) rfl rfl (fun w' S => sv_loadF S rfl rfl (by assumption)) ?_; clear S a; intro a S) | (refine wpm_lateF S rfl rfl rfl (want_yes S rfl rfl rfl) rfl rfl (fun w' S => sv_loadAF S rfl rfl (by assumption) (by rfl)) ?_; clear S a; intro a S)
              (refine wpm_v S rfl rfl rfl (want_yes S rfl rfl rfl) rfl rfl (fun w' S => sv_neAgg S rfl rfl rfl guardPos (fun w => eqPos _ _ _ _ w)) ?_; clear S a; intro a S)
              first | (refine wpm_v S rfl rfl rfl (want_yes S rfl rfl rfl) rfl rfl (fun w' S => sv_pure S rfl) ?_; clear S a; intro a S) | (refine wpm_v S rfl rfl rfl (want_yes S rfl rfl rfl) rfl rfl (fun w' S => sv_pickB S rfl rfl rfl rfl) ?_; clear S a; intro a S)
              first | (refine wpm_v S rfl rfl rfl (want_none _ rfl) rfl rfl (fun w' S => sv_pure S rfl) ?_; clear S a; intro a S) | (refine wpm_v S rfl rfl rfl (want_none _ rfl) rfl rfl (fun w' S => sv_pickB S rfl rfl rfl rfl) ?_; clear S a; intro a S)
              refine wpm_nil (fun _ => ⟨fun b o h => S.tr.frz b o (by first | exact h | solve_by_elim), trivial⟩) ?_
              (refine hKq9 _ _ ?_; try (clear hKq9 Kq9))
              refine wpc_split S rfl (fun h => ?_) (fun h => ?_)
              · (skip; (try simp only [decide_eq_true_eq, decide_eq_false_iff_not, beq_iff_eq, bne_iff_ne, bne_eq_false_iff_eq, beq_eq_false_iff_ne, ne_eq, Bool.not_eq_true', Bool.not_eq_false', Bool.not_eq_true, Bool.not_eq_false, Bool.not_true, Bool.not_false, Int.ofNat_lt, Int.ofNat_le, Nat.not_lt, Nat.not_le] at h))
                (refine wp_seq_k ?_; intro Kq10 hKq10)
                refine wp_region_lit ?_
                (refine wpl_v S rfl rfl rfl (sv_pure S rfl) ?_; clear S a; intro a S)
                refine wpList_nil ?_
                (refine hKq10 _ _ ?_; try (clear hKq10 Kq10))
                refine wp_ret ?_
                refine fin_ret S (results1 Tryd.results10 (RV.tmp S rfl)) ?_
                (first | rw [sameT_len (by omega)] | (have h9 : eqT pl (l[k]'hkl) (m[k]'hkm) = false := (by clear hall S hcs1 hcs2 hc0 hc2 hc3 hd0 hd2 hd3 hpos hpos2; simp_all [eqT]); rw [sameT_no hkl hkm h9]) | rw [sameT_all (by omega) (fun j h1 h2 => hall j (by omega) h1 h2)])
              · (skip; (try simp only [decide_eq_true_eq, decide_eq_false_iff_not, beq_iff_eq, bne_iff_ne, bne_eq_false_iff_eq, beq_eq_false_iff_ne, ne_eq, Bool.not_eq_true', Bool.not_eq_false', Bool.not_eq_true, Bool.not_eq_false, Bool.not_true, Bool.not_false, Int.ofNat_lt, Int.ofNat_le, Nat.not_lt, Nat.not_le] at h))
                refine wp_skip ?_
                (refine hKq8 _ _ ?_; try (clear hKq8 Kq8))
                refine wp_region_lit ?_
                (refine wpl_v S rfl rfl rfl (sv_pure S rfl) ?_; clear S a; intro a S)
                (refine wpl_v S rfl rfl rfl (sv_add S rfl rfl rfl (by first | omega | (simp only [List.length_append, List.length_cons, List.length_nil]; omega))) ?_; clear S a; intro a S)
                (refine wpl_v S rfl rfl rfl (sv_pure S rfl) ?_; clear S a; intro a S)
                refine wpList_nil ?_
                change ∃ m', _ ∧ _
                (refine ⟨l.length - (k + 1), by omega, k + 1, rfl, by omega, fun j h1 h2 h3 => (by rcases Nat.lt_or_eq_of_le (Nat.le_of_lt_succ h1) with h9 | h9; exact hall j h9 h2 h3; subst h9; clear hall S hcs1 hcs2 hc0 hc2 hc3 hd0 hd2 hd3 hpos hpos2; simp_all [eqT]), ?_⟩; refine S.keep ?_; repeat (first | exact trivial | refine ⟨rfl, ?_⟩))
            · (intro h S'; clear S; have S := S'; clear S'; (try simp only [decide_eq_true_eq, decide_eq_false_iff_not, beq_iff_eq, bne_iff_ne, bne_eq_false_iff_eq, beq_eq_false_iff_ne, ne_eq, Bool.not_eq_true', Bool.not_eq_false', Bool.not_eq_true, Bool.not_eq_false, Bool.not_true, Bool.not_false, Int.ofNat_lt, Int.ofNat_le, Nat.not_lt, Nat.not_le] at h))
              (refine wpm_skip S rfl rfl (want_no S rfl rfl rfl) rfl rfl ?_; clear S a; intro a S)
              (refine wpm_skip S rfl rfl (want_no S rfl rfl rfl) rfl rfl ?_; clear S a; intro a S)
              (refine wpm_skip S rfl rfl (want_no S rfl rfl rfl) rfl rfl ?_; clear S a; intro a S)
              (refine wpm_skip S rfl rfl (want_no S rfl rfl rfl) rfl rfl ?_; clear S a; intro a S)
              (refine wpm_skip S rfl rfl (want_no S rfl rfl rfl) rfl rfl ?_; clear S a; intro a S)
              (refine wpm_skip S rfl rfl (want_no S rfl rfl rfl) rfl rfl ?_; clear S a; intro a S)
              (refine wpm_skip S rfl rfl (want_no S rfl rfl rfl) rfl rfl ?_; clear S a; intro a S)
              (refine wpm_skip S rfl rfl (want_no S rfl rfl rfl) rfl rfl ?_; clear S a; intro a S)
              (refine wpm_skip S rfl rfl (want_no S rfl rfl rfl) rfl rfl ?_; clear S a; intro a S)
              (refine wpm_skip S rfl rfl (want_no S rfl rfl rfl) rfl rfl ?_; clear S a; intro a S)
              (refine wpm_skip S rfl rfl (want_no S rfl rfl rfl) rfl rfl ?_; clear S a; intro a S)
              first | (refine wpm_v S rfl rfl rfl (want_yes S rfl rfl rfl) rfl rfl (fun w' S => sv_pure S rfl) ?_; clear S a; intro a S) | (refine wpm_v S rfl rfl rfl (want_yes S rfl rfl rfl) rfl rfl (fun w' S => sv_pickB S rfl rfl rfl rfl) ?_; clear S a; intro a S)
              first | (refine wpm_v S rfl rfl rfl (want_none _ rfl) rfl rfl (fun w' S => sv_pure S rfl) ?_; clear S a; intro a S) | (refine wpm_v S rfl rfl rfl (want_none _ rfl) rfl rfl (fun w' S => sv_pickB S rfl rfl rfl rfl) ?_; clear S a; intro a S)
              refine wpm_nil (fun _ => ⟨fun b o h => S.tr.frz b o (by first | exact h | solve_by_elim), trivial⟩) ?_
              (refine hKq9 _ _ ?_; try (clear hKq9 Kq9))
              refine wpc_false S rfl ?_
              refine wp_skip ?_
              (refine hKq8 _ _ ?_; try (clear hKq8 Kq8))
              refine wp_region_lit ?_
              (refine wpl_v S rfl rfl rfl (sv_pure S rfl) ?_; clear S a; intro a S)
              (refine wpl_v S rfl rfl rfl (sv_add S rfl rfl rfl (by first | omega | (simp only [List.length_append, List.length_cons, List.length_nil]; omega))) ?_; clear S a; intro a S)
              (refine wpl_v S rfl rfl rfl (sv_pure S rfl) ?_; clear S a; intro a S)
              refine wpList_nil ?_
              change ∃ m', _ ∧ _
              (refine ⟨l.length - (k + 1), by omega, k + 1, rfl, by omega, fun j h1 h2 h3 => (by rcases Nat.lt_or_eq_of_le (Nat.le_of_lt_succ h1) with h9 | h9; exact hall j h9 h2 h3; subst h9; clear hall S hcs1 hcs2 hc0 hc2 hc3 hd0 hd2 hd3 hpos hpos2; simp_all [eqT]), ?_⟩; refine S.keep ?_; repeat (first | exact trivial | refine ⟨rfl, ?_⟩))
          · (intro h S'; clear S; have S := S'; clear S'; (try simp only [decide_eq_true_eq, decide_eq_false_iff_not, beq_iff_eq, bne_iff_ne, bne_eq_false_iff_eq, beq_eq_false_iff_ne, ne_eq, Bool.not_eq_true', Bool.not_eq_false', Bool.not_eq_true, Bool.not_eq_false, Bool.not_true, Bool.not_false, Int.ofNat_lt, Int.ofNat_le, Nat.not_lt, Nat.not_le] at h))
            (refine wpm_skip S rfl rfl (want_no S rfl rfl rfl) rfl rfl ?_; clear S a; intro a S)
            (refine wpm_skip S rfl rfl (want_no S rfl rfl rfl) rfl rfl ?_; clear S a; intro a S)
            (refine wpm_skip S rfl rfl (want_undef S rfl rfl rfl) rfl rfl ?_; clear S a; intro a S)
            (refine wpm_skip S rfl rfl (want_undef S rfl rfl rfl) rfl rfl ?_; clear S a; intro a S)
            (refine wpm_skip S rfl rfl (want_undef S rfl rfl rfl) rfl rfl ?_; clear S a; intro a S)
            (refine wpm_skip S rfl rfl (want_undef S rfl rfl rfl) rfl rfl ?_; clear S a; intro a S)
            (refine wpm_skip S rfl rfl (want_undef S rfl rfl rfl) rfl rfl ?_; clear S a; intro a S)
            (refine wpm_skip S rfl rfl (want_undef S rfl rfl rfl) rfl rfl ?_; clear S a; intro a S)
            (refine wpm_skip S rfl rfl (want_undef S rfl rfl rfl) rfl rfl ?_; clear S a; intro a S)
            (refine wpm_skip S rfl rfl (want_undef S rfl rfl rfl) rfl rfl ?_; clear S a; intro a S)
            (refine wpm_skip S rfl rfl (want_undef S rfl rfl rfl) rfl rfl ?_; clear S a; intro a S)
            (refine wpm_skip S rfl rfl (want_undef S rfl rfl rfl) rfl rfl ?_; clear S a; intro a S)
            (refine wpm_skip S rfl rfl (want_undef S rfl rfl rfl) rfl rfl ?_; clear S a; intro a S)
            (refine wpm_skip S rfl rfl (want_no S rfl rfl rfl) rfl rfl ?_; clear S a; intro a S)
            first | (refine wpm_v S rfl rfl rfl (want_none _ rfl) rfl rfl (fun w' S => sv_pure S rfl) ?_; clear S a; intro a S) | (refine wpm_v S rfl rfl rfl (want_none _ rfl) rfl rfl (fun w' S => sv_pickB S rfl rfl rfl rfl) ?_; clear S a; intro a S)
            refine wpm_nil (fun _ => ⟨fun b o h => S.tr.frz b o (by first | exact h | solve_by_elim), trivial⟩) ?_
            (refine hKq9 _ _ ?_; try (clear hKq9 Kq9))
            refine wpc_true S rfl ?_
            (refine wp_seq_k ?_; intro Kq10 hKq10)
            refine wp_region_lit ?_
            (refine wpl_v S rfl rfl rfl (sv_pure S rfl) ?_; clear S a; intro a S)
            refine wpList_nil ?_
            (refine hKq10 _ _ ?_; try (clear hKq10 Kq10))
            refine wp_ret ?_
            refine fin_ret S (results1 Tryd.results10 (RV.tmp S rfl)) ?_
            (first | rw [sameT_len (by omega)] | (have h9 : eqT pl (l[k]'hkl) (m[k]'hkm) = false := (by clear hall S hcs1 hcs2 hc0 hc2 hc3 hd0 hd2 hd3 hpos hpos2; simp_all [eqT]); rw [sameT_no hkl hkm h9]) | rw [sameT_all (by omega) (fun j h1 h2 => hall j (by omega) h1 h2)])
        · (intro h S'; clear S; have S := S'; clear S'; (try simp only [decide_eq_true_eq, decide_eq_false_iff_not, beq_iff_eq, bne_iff_ne, bne_eq_false_iff_eq, beq_eq_false_iff_ne, ne_eq, Bool.not_eq_true', Bool.not_eq_false', Bool.not_eq_true, Bool.not_eq_false, Bool.not_true, Bool.not_false, Int.ofNat_lt, Int.ofNat_le, Nat.not_lt, Nat.not_le] at h))
          (refine wpm_skip S rfl rfl (want_no S rfl rfl rfl) rfl rfl ?_; clear S a; intro a S)
          (refine wpm_skip S rfl rfl (want_no S rfl rfl rfl) rfl rfl ?_; clear S a; intro a S)
          (refine wpm_skip S rfl rfl (want_no S rfl rfl rfl) rfl rfl ?_; clear S a; intro a S)
          (refine wpm_skip S rfl rfl (want_no S rfl rfl rfl) rfl rfl ?_; clear S a; intro a S)
          (refine wpm_skip S rfl rfl (want_no S rfl rfl rfl) rfl rfl ?_; clear S a; intro a S)
          (refine wpm_skip S rfl rfl (want_no S rfl rfl rfl) rfl rfl ?_; clear S a; intro a S)
          (refine wpm_skip S rfl rfl (want_no S rfl rfl rfl) rfl rfl ?_; clear S a; intro a S)
          (refine wpm_skip S rfl rfl (want_no S rfl rfl rfl) rfl rfl ?_; clear S a; intro a S)
          (refine wpm_skip S rfl rfl (want_no S rfl rfl rfl) rfl rfl ?_; clear S a; intro a S)
          (refine wpm_skip S rfl rfl (want_no S rfl rfl rfl) rfl rfl ?_; clear S a; intro a S)
          (refine wpm_skip S rfl rfl (want_no S rfl rfl rfl) rfl rfl ?_; clear S a; intro a S)
          first | (refine wpm_v S rfl rfl rfl (want_none _ rfl) rfl rfl (fun w' S => sv_pure S rfl) ?_; clear S a; intro a S) | (refine wpm_v S rfl rfl rfl (want_none _ rfl) rfl rfl (fun w' S => sv_pickB S rfl rfl rfl rfl) ?_; clear S a; intro a S)
          (refine wpm_v S rfl rfl rfl (want_none _ rfl) rfl rfl (fun w' S => sv_pure S rfl) ?_; clear S a; intro a S)
          (refine wpm_skip S rfl rfl (want_no S rfl rfl rfl) rfl rfl ?_; clear S a; intro a S)
          (refine wpm_skip S rfl rfl (want_no S rfl rfl rfl) rfl rfl ?_; clear S a; intro a S)
          (refine wpm_skip S rfl rfl (want_undef S rfl rfl rfl) rfl rfl ?_; clear S a; intro a S)
          (refine wpm_skip S rfl rfl (want_undef S rfl rfl rfl) rfl rfl ?_; clear S a; intro a S)
          (refine wpm_skip S rfl rfl (want_undef S rfl rfl rfl) rfl rfl ?_; clear S a; intro a S)
          (refine wpm_skip S rfl rfl (want_undef S rfl rfl rfl) rfl rfl ?_; clear S a; intro a S)
          (refine wpm_skip S rfl rfl (want_undef S rfl rfl rfl) rfl rfl ?_; clear S a; intro a S)
          (refine wpm_skip S rfl rfl (want_undef S rfl rfl rfl) rfl rfl ?_; clear S a; intro a S)
          (refine wpm_skip S rfl rfl (want_undef S rfl rfl rfl) rfl rfl ?_; clear S a; intro a S)
          (refine wpm_skip S rfl rfl (want_undef S rfl rfl rfl) rfl rfl ?_; clear S a; intro a S)
          (refine wpm_skip S rfl rfl (want_undef S rfl rfl rfl) rfl rfl ?_; clear S a; intro a S)
          (refine wpm_skip S rfl rfl (want_undef S rfl rfl rfl) rfl rfl ?_; clear S a; intro a S)
          (refine wpm_skip S rfl rfl (want_undef S rfl rfl rfl) rfl rfl ?_; clear S a; intro a S)
          (refine wpm_skip S rfl rfl (want_no S rfl rfl rfl) rfl rfl ?_; clear S a; intro a S)
          first | (refine wpm_v S rfl rfl rfl (want_none _ rfl) rfl rfl (fun w' S => sv_pure S rfl) ?_; clear S a; intro a S) | (refine wpm_v S rfl rfl rfl (want_none _ rfl) rfl rfl (fun w' S => sv_pickB S rfl rfl rfl rfl) ?_; clear S a; intro a S)
          refine wpm_nil (fun _ => ⟨fun b o h => S.tr.frz b o (by first | exact h | solve_by_elim), trivial⟩) ?_
          (refine hKq9 _ _ ?_; try (clear hKq9 Kq9))
          refine wpc_true S rfl ?_
          (refine wp_seq_k ?_; intro Kq10 hKq10)
          refine wp_region_lit ?_
          (refine wpl_v S rfl rfl rfl (sv_pure S rfl) ?_; clear S a; intro a S)
          refine wpList_nil ?_
          (refine hKq10 _ _ ?_; try (clear hKq10 Kq10))
          refine wp_ret ?_
          refine fin_ret S (results1 Tryd.results10 (RV.tmp S rfl)) ?_
          (first | rw [sameT_len (by omega)] | (have h9 : eqT pl (l[k]'hkl) (m[k]'hkm) = false := (by clear hall S hcs1 hcs2 hc0 hc2 hc3 hd0 hd2 hd3 hpos hpos2; simp_all [eqT]); rw [sameT_no hkl hkm h9]) | rw [sameT_all (by omega) (fun j h1 h2 => hall j (by omega) h1 h2)])
      · (skip; (try simp only [decide_eq_true_eq, decide_eq_false_iff_not, beq_iff_eq, bne_iff_ne, bne_eq_false_iff_eq, beq_eq_false_iff_ne, ne_eq, Bool.not_eq_true', Bool.not_eq_false', Bool.not_eq_true, Bool.not_eq_false, Bool.not_true, Bool.not_false, Int.ofNat_lt, Int.ofNat_le, Nat.not_lt, Nat.not_le] at h))
        refine wp_exit ?_
        (refine hKq4 _ _ ?_; try (clear hKq4 Kq4))
        (refine wp_seq_k ?_; intro Kq8 hKq8)
        refine wp_region_lit ?_
        (refine wpl_v S rfl rfl rfl (sv_pure S rfl) ?_; clear S a; intro a S)
        refine wpList_nil ?_
        (refine hKq8 _ _ ?_; try (clear hKq8 Kq8))
        refine wp_ret ?_
        refine fin_ret S (results1 Tryd.results10 (RV.tmp S rfl)) ?_
        (first | rw [sameT_len (by omega)] | (have h9 : eqT pl (l[k]'hkl) (m[k]'hkm) = false := (by clear hall S hcs1 hcs2 hc0 hc2 hc3 hd0 hd2 hd3 hpos hpos2; simp_all [eqT]); rw [sameT_no hkl hkm h9]) | rw [sameT_all (by omega) (fun j h1 h2 => hall j (by omega) h1 h2)])

theorem toks_len : ∀ (n : Nat) (p : Int × Int) (r : List UInt8), (toks n p r).1.length ≤ n
  | 0, _, _ => Nat.le_refl _
  | n + 1, p, r => by
    by_cases h : r.drop (skipB r) = []
    · rw [toks_end h]; simp
    · by_cases he : (nextF (r.drop (skipB r))).e = 0
      · rw [toks_ok h he]
        simp only []
        have := toks_len n (place (place p (r.take (skipB r))) ((r.drop (skipB r)).take (nextF (r.drop (skipB r))).size)) ((r.drop (skipB r)).drop (nextF (r.drop (skipB r))).size)
        split
        · omega
        · simp only [List.length_cons]; omega
      · rw [toks_bad h he]; simp
theorem tokens_len (s : List UInt8) : (tokens s).1.length ≤ s.length + 1 := by
  unfold tokens
  split
  · simp
  · exact toks_len _ _ _

end Go.Proofs.YtpgnmnacfilnkaaDoor
