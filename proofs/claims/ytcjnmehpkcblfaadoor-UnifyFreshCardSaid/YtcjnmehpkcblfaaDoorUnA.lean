/- The walks of IsVar, the document's Same and Parts, large. -/
import Derived.Test.YtcjnmehpkcblfaaDoorUn
import Derived.Test.YtcjnmehpkcblfaaDoorTy
namespace Go.Proofs.YtcjnmehpkcblfaaDoor
open Go Go.Wk Go.Un
set_option linter.unusedSimpArgs false
set_option linter.unusedVariables false
attribute [local irreducible] Go.wpList Go.Code.wp Go.wpStill Go.Wk.wpPre Go.bodyPost Go.Calls Go.Wk.Ct Go.Wk.OwnS
attribute [local irreducible] Go.Wk.wpG Go.Wk.wpM

theorem varT_iff (nm : List UInt8) (ar : Fo) : varT nm ar = true ↔ (1 < nm.length ∧ (nm.getD 0 0).toNat = 39 ∧ ar.len = 0) := by simp [varT, and_assoc]
theorem varT_no {nm : List UInt8} {ar : Fo} (h : ¬ (1 < nm.length ∧ (nm.getD 0 0).toNat = 39 ∧ ar.len = 0)) : varT nm ar = false := by
  cases hv : varT nm ar with
  | false => rfl
  | true => exact absurd ((varT_iff nm ar).1 hv) h
theorem isVarCt (nm : List UInt8) (ar : Fo) (cs : List Value) (F : Heap) (h : TyC F cs nm ar) : Ct Tryd.prog 14 [.agg ⟨cs⟩] F [] (fun _ _ u => u = .bool (varT nm ar)) := by
  obtain ⟨v, rfl, ao, cap, rfl, hcap, hpos⟩ := h
  refine Ct.enter Tryd.func14 rfl Tryd.ntmps14 rfl fun w0 a S => ?_
  (refine wp_seq_k ?_; intro Kq1 hKq1)
  refine wp_region_lit ?_
  (refine wpl_box S rfl rfl rfl rfl rfl ?_; clear S a; intro b1 a w S)
  (refine wpl_v S rfl rfl rfl (sv_pure S rfl) ?_; clear S a; intro a S)
  refine wpList_nil ?_
  (refine hKq1 _ _ ?_; try (clear hKq1 Kq1))
  (refine wp_seq_k ?_; intro Kq2 hKq2)
  refine wp_region_lit ?_
  (refine wpl_v S rfl rfl rfl (sv_fieldAddr S rfl rfl rfl inferInstance rfl) ?_; clear S a; intro a S)
  first | (refine wpl_v S rfl rfl rfl (sv_loadO S rfl rfl (by rfl)) ?_; clear S a; intro a S) | (refine wpl_v S rfl rfl rfl (sv_loadF S rfl rfl (by assumption)) ?_; clear S a; intro a S)
  (refine wpl_v S rfl rfl rfl (sv_lenS S rfl rfl) ?_; clear S a; intro a S)
  (refine wpl_v S rfl rfl rfl (sv_pure S rfl) ?_; clear S a; intro a S)
  (refine wpl_v S rfl rfl rfl (sv_pure S rfl) ?_; clear S a; intro a S)
  refine wpl_guard S rfl rfl rfl rfl rfl ?_ ?_
  · (intro h S'; clear S; have S := S'; clear S'; (try simp only [decide_eq_true_eq, decide_eq_false_iff_not, beq_iff_eq, bne_iff_ne, bne_eq_false_iff_eq, beq_eq_false_iff_ne, ne_eq, Bool.not_eq_true', Bool.not_eq_false', Bool.not_eq_true, Bool.not_eq_false, Bool.not_true, Bool.not_false, Int.ofNat_lt, Int.ofNat_le, Nat.not_lt, Nat.not_le] at h))
    (refine wpl_v S rfl rfl rfl (sv_fieldAddr S rfl rfl rfl inferInstance rfl) ?_; clear S a; intro a S)
    refine wpl_take S rfl rfl rfl ?_
    first | (refine wpl_v S rfl rfl rfl (sv_loadO S rfl rfl (by rfl)) ?_; clear S a; intro a S) | (refine wpl_v S rfl rfl rfl (sv_loadF S rfl rfl (by assumption)) ?_; clear S a; intro a S)
    refine wpl_take S rfl rfl rfl ?_
    (refine wpl_v S rfl rfl rfl (sv_indexSN (i := 0) S rfl rfl rfl (by omega)) ?_; clear S a; intro a S)
    refine wpl_take S rfl rfl rfl ?_
    (refine wpl_v S rfl rfl rfl (sv_pure S rfl) ?_; clear S a; intro a S)
    first | (refine wpl_v S rfl rfl rfl (sv_pure S rfl) ?_; clear S a; intro a S) | (refine wpl_v S rfl rfl rfl (sv_pickB S rfl rfl rfl rfl) ?_; clear S a; intro a S)
    (refine wpl_v S rfl rfl rfl (sv_pure S rfl) ?_; clear S a; intro a S)
    refine wpl_guard S rfl rfl rfl rfl rfl ?_ ?_
    · (intro h S'; clear S; have S := S'; clear S'; (try simp only [decide_eq_true_eq, decide_eq_false_iff_not, beq_iff_eq, bne_iff_ne, bne_eq_false_iff_eq, beq_eq_false_iff_ne, ne_eq, Bool.not_eq_true', Bool.not_eq_false', Bool.not_eq_true, Bool.not_eq_false, Bool.not_true, Bool.not_false, Int.ofNat_lt, Int.ofNat_le, Nat.not_lt, Nat.not_le] at h))
      (refine wpl_v S rfl rfl rfl (sv_fieldAddr S rfl rfl rfl inferInstance rfl) ?_; clear S a; intro a S)
      refine wpl_take S rfl rfl rfl ?_
      first | (refine wpl_v S rfl rfl rfl (sv_loadO S rfl rfl (by rfl)) ?_; clear S a; intro a S) | (refine wpl_v S rfl rfl rfl (sv_loadF S rfl rfl (by assumption)) ?_; clear S a; intro a S)
      refine wpl_take S rfl rfl rfl ?_
      (refine wpl_v S rfl rfl rfl (sv_lenSl S rfl rfl) ?_; clear S a; intro a S)
      refine wpl_take S rfl rfl rfl ?_
      (refine wpl_v S rfl rfl rfl (sv_pure S rfl) ?_; clear S a; intro a S)
      first | (refine wpl_v S rfl rfl rfl (sv_pure S rfl) ?_; clear S a; intro a S) | (refine wpl_v S rfl rfl rfl (sv_pickB S rfl rfl rfl rfl) ?_; clear S a; intro a S)
      (refine wpl_v S rfl rfl rfl (sv_pure S rfl) ?_; clear S a; intro a S)
      refine wpList_nil ?_
      (refine hKq2 _ _ ?_; try (clear hKq2 Kq2))
      refine wp_ret ?_
      refine fin_ret S (results1 Tryd.results14 (RV.tmp S rfl)) ?_
      (first | (rw [varT_no (by omega)]; done) | (congr 1; rw [Bool.eq_iff_iff, varT_iff]; simp [-List.getD_eq_getElem?_getD]; omega))
    · (intro h; clear S a; intro a S; (try simp only [decide_eq_true_eq, decide_eq_false_iff_not, beq_iff_eq, bne_iff_ne, bne_eq_false_iff_eq, beq_eq_false_iff_ne, ne_eq, Bool.not_eq_true', Bool.not_eq_false', Bool.not_eq_true, Bool.not_eq_false, Bool.not_true, Bool.not_false, Int.ofNat_lt, Int.ofNat_le, Nat.not_lt, Nat.not_le] at h))
      (refine wpl_skip S rfl rfl rfl rfl rfl ?_; clear S a; intro a S)
      (refine wpl_skip S rfl rfl rfl rfl rfl ?_; clear S a; intro a S)
      (refine wpl_skip S rfl rfl rfl rfl rfl ?_; clear S a; intro a S)
      first | (refine wpl_v S rfl rfl rfl (sv_pure S rfl) ?_; clear S a; intro a S) | (refine wpl_v S rfl rfl rfl (sv_pickB S rfl rfl rfl rfl) ?_; clear S a; intro a S)
      (refine wpl_v S rfl rfl rfl (sv_pure S rfl) ?_; clear S a; intro a S)
      refine wpList_nil ?_
      (refine hKq2 _ _ ?_; try (clear hKq2 Kq2))
      refine wp_ret ?_
      refine fin_ret S (results1 Tryd.results14 (RV.tmp S rfl)) ?_
      (first | (rw [varT_no (by omega)]; done) | (congr 1; rw [Bool.eq_iff_iff, varT_iff]; simp [-List.getD_eq_getElem?_getD]; omega))
  · (intro h; clear S a; intro a S; (try simp only [decide_eq_true_eq, decide_eq_false_iff_not, beq_iff_eq, bne_iff_ne, bne_eq_false_iff_eq, beq_eq_false_iff_ne, ne_eq, Bool.not_eq_true', Bool.not_eq_false', Bool.not_eq_true, Bool.not_eq_false, Bool.not_true, Bool.not_false, Int.ofNat_lt, Int.ofNat_le, Nat.not_lt, Nat.not_le] at h))
    (refine wpl_skip S rfl rfl rfl rfl rfl ?_; clear S a; intro a S)
    (refine wpl_skip S rfl rfl rfl rfl rfl ?_; clear S a; intro a S)
    (refine wpl_skip S rfl rfl rfl rfl rfl ?_; clear S a; intro a S)
    first | (refine wpl_v S rfl rfl rfl (sv_pure S rfl) ?_; clear S a; intro a S) | (refine wpl_v S rfl rfl rfl (sv_pickB S rfl rfl rfl rfl) ?_; clear S a; intro a S)
    (refine wpl_v S rfl rfl rfl (sv_pure S rfl) ?_; clear S a; intro a S)
    (refine wpl_skip S rfl rfl rfl rfl rfl ?_; clear S a; intro a S)
    (refine wpl_skip S rfl rfl rfl rfl rfl ?_; clear S a; intro a S)
    (refine wpl_skip S rfl rfl rfl rfl rfl ?_; clear S a; intro a S)
    (refine wpl_skip S rfl rfl rfl rfl rfl ?_; clear S a; intro a S)
    first | (refine wpl_v S rfl rfl rfl (sv_pure S rfl) ?_; clear S a; intro a S) | (refine wpl_v S rfl rfl rfl (sv_pickB S rfl rfl rfl rfl) ?_; clear S a; intro a S)
    (refine wpl_v S rfl rfl rfl (sv_pure S rfl) ?_; clear S a; intro a S)
    refine wpList_nil ?_
    (refine hKq2 _ _ ?_; try (clear hKq2 Kq2))
    refine wp_ret ?_
    refine fin_ret S (results1 Tryd.results14 (RV.tmp S rfl)) ?_
    (first | (rw [varT_no (by omega)]; done) | (congr 1; rw [Bool.eq_iff_iff, varT_iff]; simp [-List.getD_eq_getElem?_getD]; omega))

theorem mixed : Tryd.prog.follows .mixedOrders = true := by kernel_rfl
theorem FoM.pos {F : Heap} {ao : Option Addr} {l : Fo} {k : Nat} (hpos : 0 < l.len → ∃ b o, ao = some ⟨b, o, none⟩ ∧ FoM F l b o) (hk : k < l.len) : ∃ b o, ao = some ⟨b, o, none⟩ ∧ ∃ x v, l.get? k = some x ∧ Cels F b (o + k * 2) [.string (bs x.1), v] ∧ SlF F v x.2 := by
  obtain ⟨b, o, e, h⟩ := hpos (by omega)
  obtain ⟨x, hx⟩ := Fo.get_lt hk
  obtain ⟨cs, h1, h2, v, rfl, h3⟩ := h.at hx
  exact ⟨b, o, e, x, v, hx, h1, h3⟩
/-- The same, part by part? -/
def sameF : Fo → Fo → Bool
  | .nil, .nil => true
  | .cons nm ar r, .cons nm2 ar2 r2 => decide (nm = nm2) && sameF ar ar2 && sameF r r2
  | _, _ => false
theorem sameF_eq : ∀ {l m : Fo}, sameF l m = true ↔ l = m
  | .nil, .nil => by simp [sameF]
  | .nil, .cons _ _ _ => by simp [sameF]
  | .cons _ _ _, .nil => by simp [sameF]
  | .cons nm ar r, .cons nm2 ar2 r2 => by
    simp only [sameF, Bool.and_eq_true, decide_eq_true_eq, Fo.cons.injEq, sameF_eq (l := ar), sameF_eq (l := r), and_assoc]
theorem get_eq : ∀ {l m : Fo}, l.len = m.len → (∀ k x y, l.get? k = some x → m.get? k = some y → x = y) → l = m
  | .nil, .nil, _, _ => rfl
  | .nil, .cons _ _ _, h, _ => by simp [Fo.len] at h
  | .cons _ _ _, .nil, h, _ => by simp [Fo.len] at h
  | .cons nm ar r, .cons nm2 ar2 r2, h, hk => by
    have h0 := hk 0 _ _ rfl rfl
    have := get_eq (l := r) (m := r2) (by simpa [Fo.len] using h) fun k x y hx hy => hk (k + 1) x y hx hy
    cases h0; rw [this]
set_option maxHeartbeats 2000000 in
theorem refSameCt (F : Heap) : ∀ (n : Nat) (nm nm2 : List UInt8) (ar ar2 : Fo) (cs cs2 : List Value), ar.size ≤ n → TyC F cs nm ar → TyC F cs2 nm2 ar2 → Ct Tryd.prog 22 [.agg ⟨cs⟩, .agg ⟨cs2⟩] F [] (fun _ _ u => u = .bool (decide (nm = nm2 ∧ ar = ar2))) := by
  intro n
  induction n using Nat.strongRecOn with
  | _ n ih =>
  intro nm nm2 ar ar2 cs cs2 hn h h2
  obtain ⟨v, rfl, ao, cap, rfl, hcap, hpos⟩ := h
  obtain ⟨v2, rfl, ao2, cap2, rfl, hcap2, hpos2⟩ := h2
  refine Ct.enter Tryd.func22 rfl Tryd.ntmps22 rfl fun w0 a S => ?_
  (refine wp_seq_k ?_; intro Kq1 hKq1)
  refine wp_region_lit ?_
  (refine wpl_box S rfl rfl rfl rfl rfl ?_; clear S a; intro b2 a w S)
  (refine wpl_box S rfl rfl rfl rfl rfl ?_; clear S a; intro b3 a w S)
  (refine wpl_v S rfl rfl rfl (sv_pure S rfl) ?_; clear S a; intro a S)
  refine wpList_nil ?_
  (refine hKq1 _ _ ?_; try (clear hKq1 Kq1))
  (refine wp_seq_k ?_; intro Kq2 hKq2)
  (refine wp_seq_k ?_; intro Kq3 hKq3)
  refine wp_region_lit ?_
  (refine wpl_v S rfl rfl rfl (sv_fieldAddr S rfl rfl rfl inferInstance rfl) ?_; clear S a; intro a S)
  first | (refine wpl_v S rfl rfl rfl (sv_loadO S rfl rfl (by rfl)) ?_; clear S a; intro a S) | (refine wpl_v S rfl rfl rfl (sv_loadF S rfl rfl (by assumption)) ?_; clear S a; intro a S)
  (refine wpl_v S rfl rfl rfl (sv_fieldAddr S rfl rfl rfl inferInstance rfl) ?_; clear S a; intro a S)
  first | (refine wpl_v S rfl rfl rfl (sv_loadO S rfl rfl (by rfl)) ?_; clear S a; intro a S) | (refine wpl_v S rfl rfl rfl (sv_loadF S rfl rfl (by assumption)) ?_; clear S a; intro a S)
  (refine wpl_v S rfl rfl rfl (sv_pure S rfl) ?_; clear S a; intro a S)
  (refine wpl_v S rfl rfl rfl (sv_pure S rfl) ?_; clear S a; intro a S)
  refine wpl_guard S rfl rfl rfl rfl rfl ?_ ?_
  · (intro h S'; clear S; have S := S'; clear S'; (try simp only [decide_eq_true_eq, decide_eq_false_iff_not, beq_iff_eq, bne_iff_ne, bne_eq_false_iff_eq, beq_eq_false_iff_ne, ne_eq, Bool.not_eq_true', Bool.not_eq_false', Bool.not_eq_true, Bool.not_eq_false, Bool.not_true, Bool.not_false, Int.ofNat_lt, Int.ofNat_le, Nat.not_lt, Nat.not_le] at h))
    (refine wpl_v S rfl rfl rfl (sv_fieldAddr S rfl rfl rfl inferInstance rfl) ?_; clear S a; intro a S)
    refine wpl_take S rfl rfl rfl ?_
    first | (refine wpl_v S rfl rfl rfl (sv_loadO S rfl rfl (by rfl)) ?_; clear S a; intro a S) | (refine wpl_v S rfl rfl rfl (sv_loadF S rfl rfl (by assumption)) ?_; clear S a; intro a S)
    refine wpl_take S rfl rfl rfl ?_
    (refine wpl_v S rfl rfl rfl (sv_lenSl S rfl rfl) ?_; clear S a; intro a S)
    refine wpl_take S rfl rfl rfl ?_
    (refine wpl_v S rfl rfl rfl (sv_fieldAddr S rfl rfl rfl inferInstance rfl) ?_; clear S a; intro a S)
    refine wpl_take S rfl rfl rfl ?_
    first | (refine wpl_v S rfl rfl rfl (sv_loadO S rfl rfl (by rfl)) ?_; clear S a; intro a S) | (refine wpl_v S rfl rfl rfl (sv_loadF S rfl rfl (by assumption)) ?_; clear S a; intro a S)
    refine wpl_take S rfl rfl rfl ?_
    (refine wpl_v S rfl rfl rfl (sv_lenSl S rfl rfl) ?_; clear S a; intro a S)
    refine wpl_take S rfl rfl rfl ?_
    (refine wpl_v S rfl rfl rfl (sv_pure S rfl) ?_; clear S a; intro a S)
    first | (refine wpl_v S rfl rfl rfl (sv_pure S rfl) ?_; clear S a; intro a S) | (refine wpl_v S rfl rfl rfl (sv_pickB S rfl rfl rfl rfl) ?_; clear S a; intro a S)
    refine wpList_nil ?_
    (refine hKq3 _ _ ?_; try (clear hKq3 Kq3))
    refine wpc_split S rfl (fun h => ?_) (fun h => ?_)
    · (skip; (try simp only [decide_eq_true_eq, decide_eq_false_iff_not, beq_iff_eq, bne_iff_ne, bne_eq_false_iff_eq, beq_eq_false_iff_ne, ne_eq, Bool.not_eq_true', Bool.not_eq_false', Bool.not_eq_true, Bool.not_eq_false, Bool.not_true, Bool.not_false, Int.ofNat_lt, Int.ofNat_le, Nat.not_lt, Nat.not_le] at h))
      (refine wp_seq_k ?_; intro Kq4 hKq4)
      refine wp_region_lit ?_
      (refine wpl_v S rfl rfl rfl (sv_pure S rfl) ?_; clear S a; intro a S)
      refine wpList_nil ?_
      (refine hKq4 _ _ ?_; try (clear hKq4 Kq4))
      refine wp_ret ?_
      refine fin_ret S (results1 Tryd.results22 (RV.tmp S rfl)) ?_
      (first | (have hne : ¬ (nm = nm2 ∧ ar = ar2) := fun h9 => (by first | exact absurd h9.1 (by assumption) | (exact absurd (congrArg Fo.len h9.2) (by omega)) | (have hn9 : ¬ (x.1 = y.1 ∧ x.2 = y.2) := (by assumption); obtain ⟨-, h9b⟩ := h9; rw [h9b] at hx; rw [hx] at hy; cases hy; exact hn9 ⟨rfl, rfl⟩)); rw [decide_eq_false hne]) | (have hee : nm = nm2 ∧ ar = ar2 := ⟨by assumption, get_eq (by omega) (fun j x y h8 h9 => hall j x y (by have := Fo.lt_get h8; omega) h8 h9)⟩; rw [decide_eq_true hee]) | trace_state)
    · (skip; (try simp only [decide_eq_true_eq, decide_eq_false_iff_not, beq_iff_eq, bne_iff_ne, bne_eq_false_iff_eq, beq_eq_false_iff_ne, ne_eq, Bool.not_eq_true', Bool.not_eq_false', Bool.not_eq_true, Bool.not_eq_false, Bool.not_true, Bool.not_false, Int.ofNat_lt, Int.ofNat_le, Nat.not_lt, Nat.not_le] at h))
      refine wp_skip ?_
      (refine hKq2 _ _ ?_; try (clear hKq2 Kq2))
      (refine wp_seq_k ?_; intro Kq4 hKq4)
      (refine wp_seq_k ?_; intro Kq5 hKq5)
      refine wp_region_lit ?_
      (refine wpl_v S rfl rfl rfl (sv_pure S rfl) ?_; clear S a; intro a S)
      refine wpList_nil ?_
      (refine hKq5 _ _ ?_; try (clear hKq5 Kq5))
      refine wp_block ?_
      refine wpc_loop (fun m a w' => ∃ (k : Nat), m = ar.len - k ∧ k ≤ ar.len ∧ (∀ j x y, j < k → ar.get? j = some x → ar2.get? j = some y → x = y) ∧ St 39 [(2, ptr b2), (3, ptr b3), (5, .int .i64 k)] w0 F [] F [[(b3, .cells ⟨[.string (bs nm2), .slice ao2 ar2.len cap2]⟩ 36 (0, 0))], [(b2, .cells ⟨[.string (bs nm), .slice ao ar.len cap]⟩ 36 (0, 0))]] a w') ?_ ?_
      · (refine ⟨ar.len, 0, by omega, Nat.zero_le _, fun j x y h => absurd h (Nat.not_lt_zero _), ?_⟩; refine S.keep ?_; repeat (first | exact trivial | refine ⟨rfl, ?_⟩))
      · (clear S; rintro m a w ⟨k, rfl, hkl, hall, S⟩)
        (refine wp_seq_k ?_; intro Kq6 hKq6)
        (refine wp_seq_k ?_; intro Kq7 hKq7)
        refine wp_region_lit ?_
        (refine wpl_v S rfl rfl rfl (sv_pure S rfl) ?_; clear S a; intro a S)
        (refine wpl_v S rfl rfl rfl (sv_fieldAddr S rfl rfl rfl inferInstance rfl) ?_; clear S a; intro a S)
        first | (refine wpl_v S rfl rfl rfl (sv_loadO S rfl rfl (by rfl)) ?_; clear S a; intro a S) | (refine wpl_v S rfl rfl rfl (sv_loadF S rfl rfl (by assumption)) ?_; clear S a; intro a S)
        (refine wpl_v S rfl rfl rfl (sv_lenSl S rfl rfl) ?_; clear S a; intro a S)
        (refine wpl_v S rfl rfl rfl (sv_pure S rfl) ?_; clear S a; intro a S)
        refine wpList_nil ?_
        (refine hKq7 _ _ ?_; try (clear hKq7 Kq7))
        refine wpc_split S rfl (fun h => ?_) (fun h => ?_)
        · (skip; (try simp only [decide_eq_true_eq, decide_eq_false_iff_not, beq_iff_eq, bne_iff_ne, bne_eq_false_iff_eq, beq_eq_false_iff_ne, ne_eq, Bool.not_eq_true', Bool.not_eq_false', Bool.not_eq_true, Bool.not_eq_false, Bool.not_true, Bool.not_false, Int.ofNat_lt, Int.ofNat_le, Nat.not_lt, Nat.not_le] at h))
          refine wp_skip ?_
          (refine hKq6 _ _ ?_; try (clear hKq6 Kq6))
          (refine wp_seq_k ?_; intro Kq8 hKq8)
          refine wp_block ?_
          (refine wp_seq_k ?_; intro Kq9 hKq9)
          (obtain ⟨b8, o8, rfl, x, v1, hx, hc1, hT1⟩ := FoM.pos hpos (k := k) (by omega); obtain ⟨b9, o9, rfl, y, v2, hy, hc2, hT2⟩ := FoM.pos hpos2 (k := k) (by omega); have hxs := Fo.size_get hx)
          (refine wpc_mixM [0, 1, 2, 3, 4, 5, 6, 7, 8, 9, 11] [1, 4, 6, 9] [] (.one 0 (.one 1 (.one 2 (.one 3 (.one 4 (.one 5 (.one 6 (.one 7 (.one 8 (.one 9 (.one 10 (.one 11 .nil)))))))))))) [b2, b3] S mixed (by kernel_rfl) ?_; clear S; intro w S)
          (refine wpm_v S rfl rfl rfl (want_none _ rfl) rfl rfl (fun w' S => sv_fieldAddr S rfl rfl rfl inferInstance rfl) ?_; clear S a; intro a S)
          first | (refine wpm_lateO b2 S rfl rfl rfl (want_none _ rfl) rfl rfl (fun w' S => sv_loadO S rfl rfl (by rfl)) ?_; clear S a; intro a S) | (refine wpm_lateO b2 S rfl rfl rfl (want_none _ rfl) rfl rfl (fun w' S => sv_loadAO S rfl rfl (by rfl)) ?_; clear S a; intro a S)
          (refine wpm_v S rfl rfl rfl (want_none _ rfl) rfl rfl (fun w' S => sv_pure S rfl) ?_; clear S a; intro a S)
          (refine wpm_v S rfl rfl rfl (want_none _ rfl) rfl rfl (fun w' S => sv_indexAddrSl S rfl rfl rfl (by first | omega | (simp only [List.length_append, List.length_cons, List.length_nil]; omega))) ?_; clear S a; intro a S)
          first | (refine wpm_lateF S rfl rfl rfl (want_none _ rfl) rfl rfl (fun w' S => sv_loadF S rfl rfl (by assumption)) ?_; clear S a; intro a S) | (refine wpm_lateF S rfl rfl rfl (want_none _ rfl) rfl rfl (fun w' S => sv_loadAF S rfl rfl (by assumption) (by rfl)) ?_; clear S a; intro a S)
          (refine wpm_v S rfl rfl rfl (want_none _ rfl) rfl rfl (fun w' S => sv_fieldAddr S rfl rfl rfl inferInstance rfl) ?_; clear S a; intro a S)
          first | (refine wpm_lateO b3 S rfl rfl rfl (want_none _ rfl) rfl rfl (fun w' S => sv_loadO S rfl rfl (by rfl)) ?_; clear S a; intro a S) | (refine wpm_lateO b3 S rfl rfl rfl (want_none _ rfl) rfl rfl (fun w' S => sv_loadAO S rfl rfl (by rfl)) ?_; clear S a; intro a S)
          (refine wpm_v S rfl rfl rfl (want_none _ rfl) rfl rfl (fun w' S => sv_pure S rfl) ?_; clear S a; intro a S)
          (refine wpm_v S rfl rfl rfl (want_none _ rfl) rfl rfl (fun w' S => sv_indexAddrSl S rfl rfl rfl (by first | omega | (simp only [List.length_append, List.length_cons, List.length_nil]; omega))) ?_; clear S a; intro a S)
          first | (refine wpm_lateF S rfl rfl rfl (want_none _ rfl) rfl rfl (fun w' S => sv_loadF S rfl rfl (by assumption)) ?_; clear S a; intro a S) | (refine wpm_lateF S rfl rfl rfl (want_none _ rfl) rfl rfl (fun w' S => sv_loadAF S rfl rfl (by assumption) (by rfl)) ?_; clear S a; intro a S)
          refine wpm_eff rfl rfl (fun _ => ⟨fun b o h => S.tr.frz b o (by first | exact h | solve_by_elim), S.has inferInstance, S.has inferInstance, trivial⟩) ?_
          (refine wpl_call0 S rfl rfl rfl rfl rfl rfl (ih x.2.size (by omega) x.1 y.1 x.2 y.2 _ _ (Nat.le_refl _) ⟨v1, rfl, hT1⟩ ⟨v2, rfl, hT2⟩) rfl ?_; clear S a; intro v a w hv S; subst hv)
          refine wpList_nil ?_
          (refine wpm_v S rfl rfl rfl (want_none _ rfl) rfl rfl (fun w' S => sv_pure S rfl) ?_; clear S a; intro a S)
          refine wpm_nil (fun _ => ⟨fun b o h => S.tr.frz b o (by first | exact h | solve_by_elim), S.has inferInstance, S.has inferInstance, trivial⟩) ?_
          (refine hKq9 _ _ ?_; try (clear hKq9 Kq9))
          refine wpc_split S rfl (fun h => ?_) (fun h => ?_)
          · (skip; (try simp only [decide_eq_true_eq, decide_eq_false_iff_not, beq_iff_eq, bne_iff_ne, bne_eq_false_iff_eq, beq_eq_false_iff_ne, ne_eq, Bool.not_eq_true', Bool.not_eq_false', Bool.not_eq_true, Bool.not_eq_false, Bool.not_true, Bool.not_false, Int.ofNat_lt, Int.ofNat_le, Nat.not_lt, Nat.not_le] at h))
            (refine wp_seq_k ?_; intro Kq10 hKq10)
            refine wp_region_lit ?_
            (refine wpl_v S rfl rfl rfl (sv_pure S rfl) ?_; clear S a; intro a S)
            refine wpList_nil ?_
            (refine hKq10 _ _ ?_; try (clear hKq10 Kq10))
            refine wp_ret ?_
            refine fin_ret S (results1 Tryd.results22 (RV.tmp S rfl)) ?_
            (first | (have hne : ¬ (nm = nm2 ∧ ar = ar2) := fun h9 => (by first | exact absurd h9.1 (by assumption) | (exact absurd (congrArg Fo.len h9.2) (by omega)) | (have hn9 : ¬ (x.1 = y.1 ∧ x.2 = y.2) := (by assumption); obtain ⟨-, h9b⟩ := h9; rw [h9b] at hx; rw [hx] at hy; cases hy; exact hn9 ⟨rfl, rfl⟩)); rw [decide_eq_false hne]) | (have hee : nm = nm2 ∧ ar = ar2 := ⟨by assumption, get_eq (by omega) (fun j x y h8 h9 => hall j x y (by have := Fo.lt_get h8; omega) h8 h9)⟩; rw [decide_eq_true hee]) | trace_state)
          · (skip; (try simp only [decide_eq_true_eq, decide_eq_false_iff_not, beq_iff_eq, bne_iff_ne, bne_eq_false_iff_eq, beq_eq_false_iff_ne, ne_eq, Bool.not_eq_true', Bool.not_eq_false', Bool.not_eq_true, Bool.not_eq_false, Bool.not_true, Bool.not_false, Int.ofNat_lt, Int.ofNat_le, Nat.not_lt, Nat.not_le] at h))
            refine wp_skip ?_
            (refine hKq8 _ _ ?_; try (clear hKq8 Kq8))
            refine wp_region_lit ?_
            (refine wpl_v S rfl rfl rfl (sv_pure S rfl) ?_; clear S a; intro a S)
            (refine wpl_v S rfl rfl rfl (sv_add S rfl rfl rfl (by first | omega | (simp only [List.length_append, List.length_cons, List.length_nil]; omega))) ?_; clear S a; intro a S)
            (refine wpl_v S rfl rfl rfl (sv_pure S rfl) ?_; clear S a; intro a S)
            refine wpList_nil ?_
            change ∃ m', _ ∧ _
            (refine ⟨ar.len - (k + 1), by omega, k + 1, rfl, by omega, ?_, ?_⟩; rotate_left 1; (refine S.keep ?_; repeat (first | exact trivial | refine ⟨rfl, ?_⟩)); intro j x9 y9 h7 h8 h9; rcases Nat.lt_or_eq_of_le (Nat.le_of_lt_succ h7) with h6 | h6; exact hall j x9 y9 h6 h8 h9; subst h6; rw [hx] at h8; rw [hy] at h9; cases h8; cases h9; have h5 : x.1 = y.1 ∧ x.2 = y.2 := (by assumption); exact Prod.ext h5.1 h5.2)
        · (skip; (try simp only [decide_eq_true_eq, decide_eq_false_iff_not, beq_iff_eq, bne_iff_ne, bne_eq_false_iff_eq, beq_eq_false_iff_ne, ne_eq, Bool.not_eq_true', Bool.not_eq_false', Bool.not_eq_true, Bool.not_eq_false, Bool.not_true, Bool.not_false, Int.ofNat_lt, Int.ofNat_le, Nat.not_lt, Nat.not_le] at h))
          refine wp_exit ?_
          (refine hKq4 _ _ ?_; try (clear hKq4 Kq4))
          (refine wp_seq_k ?_; intro Kq8 hKq8)
          refine wp_region_lit ?_
          (refine wpl_v S rfl rfl rfl (sv_pure S rfl) ?_; clear S a; intro a S)
          refine wpList_nil ?_
          (refine hKq8 _ _ ?_; try (clear hKq8 Kq8))
          refine wp_ret ?_
          refine fin_ret S (results1 Tryd.results22 (RV.tmp S rfl)) ?_
          (first | (have hne : ¬ (nm = nm2 ∧ ar = ar2) := fun h9 => (by first | exact absurd h9.1 (by assumption) | (exact absurd (congrArg Fo.len h9.2) (by omega)) | (have hn9 : ¬ (x.1 = y.1 ∧ x.2 = y.2) := (by assumption); obtain ⟨-, h9b⟩ := h9; rw [h9b] at hx; rw [hx] at hy; cases hy; exact hn9 ⟨rfl, rfl⟩)); rw [decide_eq_false hne]) | (have hee : nm = nm2 ∧ ar = ar2 := ⟨by assumption, get_eq (by omega) (fun j x y h8 h9 => hall j x y (by have := Fo.lt_get h8; omega) h8 h9)⟩; rw [decide_eq_true hee]) | trace_state)
  · (intro h; clear S a; intro a S; (try simp only [decide_eq_true_eq, decide_eq_false_iff_not, beq_iff_eq, bne_iff_ne, bne_eq_false_iff_eq, beq_eq_false_iff_ne, ne_eq, Bool.not_eq_true', Bool.not_eq_false', Bool.not_eq_true, Bool.not_eq_false, Bool.not_true, Bool.not_false, Int.ofNat_lt, Int.ofNat_le, Nat.not_lt, Nat.not_le] at h))
    (refine wpl_skip S rfl rfl rfl rfl rfl ?_; clear S a; intro a S)
    (refine wpl_skip S rfl rfl rfl rfl rfl ?_; clear S a; intro a S)
    (refine wpl_skip S rfl rfl rfl rfl rfl ?_; clear S a; intro a S)
    (refine wpl_skip S rfl rfl rfl rfl rfl ?_; clear S a; intro a S)
    (refine wpl_skip S rfl rfl rfl rfl rfl ?_; clear S a; intro a S)
    (refine wpl_skip S rfl rfl rfl rfl rfl ?_; clear S a; intro a S)
    first | (refine wpl_v S rfl rfl rfl (sv_pure S rfl) ?_; clear S a; intro a S) | (refine wpl_v S rfl rfl rfl (sv_pickB S rfl rfl rfl rfl) ?_; clear S a; intro a S)
    refine wpList_nil ?_
    (refine hKq3 _ _ ?_; try (clear hKq3 Kq3))
    refine wpc_true S rfl ?_
    (refine wp_seq_k ?_; intro Kq4 hKq4)
    refine wp_region_lit ?_
    (refine wpl_v S rfl rfl rfl (sv_pure S rfl) ?_; clear S a; intro a S)
    refine wpList_nil ?_
    (refine hKq4 _ _ ?_; try (clear hKq4 Kq4))
    refine wp_ret ?_
    refine fin_ret S (results1 Tryd.results22 (RV.tmp S rfl)) ?_
    (first | (have hne : ¬ (nm = nm2 ∧ ar = ar2) := fun h9 => (by first | exact absurd h9.1 (by assumption) | (exact absurd (congrArg Fo.len h9.2) (by omega)) | (have hn9 : ¬ (x.1 = y.1 ∧ x.2 = y.2) := (by assumption); obtain ⟨-, h9b⟩ := h9; rw [h9b] at hx; rw [hx] at hy; cases hy; exact hn9 ⟨rfl, rfl⟩)); rw [decide_eq_false hne]) | (have hee : nm = nm2 ∧ ar = ar2 := ⟨by assumption, get_eq (by omega) (fun j x y h8 h9 => hall j x y (by have := Fo.lt_get h8; omega) h8 h9)⟩; rw [decide_eq_true hee]) | trace_state)
end Go.Proofs.YtcjnmehpkcblfaaDoor
