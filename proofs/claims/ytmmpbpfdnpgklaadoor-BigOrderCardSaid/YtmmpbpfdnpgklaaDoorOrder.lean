/- BigOrder answers true. -/
import Derived.Test.YtmmpbpfdnpgklaaDoorOrderE
namespace Go.Proofs.YtmmpbpfdnpgklaaDoor
open Go Go.Wk Go.Num
set_option linter.unusedSimpArgs false
set_option linter.unusedVariables false
attribute [local irreducible] Go.wpList Go.Code.wp Go.wpStill Go.Wk.wpPre Go.bodyPost Go.Calls Go.Wk.Ct Go.Wk.OwnS
attribute [local irreducible] Go.Wk.wpG Go.Wk.wpM

theorem dv_cons (c : UInt8) (r : List UInt8) : decV (c :: r) = dv c * 10 ^ r.length + decV r := by
  have := decV_append [c] r
  rw [List.singleton_append] at this
  rw [this]; congr 1; simp [decV]
theorem less_num : ∀ (p q : List UInt8), p.length = q.length → p.all isD = true → q.all isD = true → (Op.bytesLess p q = true ↔ decV p < decV q)
  | [], [], _, _, _ => by simp [Op.bytesLess]
  | [], _ :: _, h, _, _ => by simp at h
  | _ :: _, [], h, _, _ => by simp at h
  | c :: p, d :: q, h, hp, hq => by
    rw [List.all_cons, Bool.and_eq_true] at hp hq
    have hl : p.length = q.length := by simpa using h
    have ih := less_num p q hl hp.2 hq.2
    have h1 := decV_lt p hp.2
    have h2 := decV_lt q hq.2
    have hc := (isD_iff c).1 hp.1
    have hd := (isD_iff d).1 hq.1
    have e1 : dv c = c.toNat - 48 := rfl
    have e2 : dv d = d.toNat - 48 := rfl
    rw [dv_cons, dv_cons, hl]
    rw [hl] at h1
    have hP : 0 < 10 ^ q.length := Nat.pow_pos (by decide)
    generalize 10 ^ q.length = P at *
    simp only [Op.bytesLess, Bool.or_eq_true, Bool.and_eq_true, decide_eq_true_eq, beq_iff_eq, ih]
    rw [show (c < d) ↔ c.toNat < d.toNat from UInt8.lt_iff_toNat_lt]
    have hcd : c = d ↔ dv c = dv d := ⟨fun h => by rw [h], fun h => UInt8.toNat_inj.1 (by omega)⟩
    rw [hcd]
    rcases Nat.lt_trichotomy (dv c) (dv d) with h3 | h3 | h3
    · have h4 : (dv c + 1) * P ≤ dv d * P := Nat.mul_le_mul_right _ h3
      rw [Nat.add_mul, Nat.one_mul] at h4
      constructor
      · intro _; omega
      · intro _; left; omega
    · rw [h3]
      constructor
      · rintro (h | h)
        · omega
        · omega
      · intro h; right; exact ⟨rfl, by omega⟩
    · have h4 : (dv d + 1) * P ≤ dv c * P := Nat.mul_le_mul_right _ h3
      rw [Nat.add_mul, Nat.one_mul] at h4
      constructor
      · rintro (h | h) <;> omega
      · intro h; omega
theorem body_len_nd {s : List UInt8} (h : checkS s = 0) : (decV (bodyS s) = 0 ∧ (bodyS s).length = 1) ∨ (decV (bodyS s) ≠ 0 ∧ (bodyS s).length = nd 10 (decV (bodyS s))) := by
  have hc := canon_body h
  by_cases h0 : decV (bodyS s) = 0
  · left; refine ⟨h0, ?_⟩; rw [← hc, h0, dd_small (by decide)]; rfl
  · right; refine ⟨h0, ?_⟩; rw [← dd_nd h0, hc]
theorem len_lt {s t : List UInt8} (hs : checkS s = 0) (ht : checkS t = 0) (h : (bodyS s).length < (bodyS t).length) : decV (bodyS s) < decV (bodyS t) := by
  rcases body_len_nd hs with ⟨h1, h2⟩ | ⟨h1, h2⟩
  · rcases body_len_nd ht with ⟨h3, h4⟩ | ⟨h3, h4⟩
    · omega
    · omega
  · rcases body_len_nd ht with ⟨h3, h4⟩ | ⟨h3, h4⟩
    · have := nd_pos t2 (S := decV (bodyS s)) (by omega)
      omega
    · exact lt_of_nd t2 (by omega)
def wantS (p q : List UInt8) : Int := if p.length < q.length ∨ (p.length = q.length ∧ Op.bytesLess p q = true) then -1 else if p = q then 0 else 1
theorem wantS_eq {s t : List UInt8} (hs : checkS s = 0) (ht : checkS t = 0) : wantS (bodyS s) (bodyS t) = sgn ((decV (bodyS s) : Int) - decV (bodyS t)) := by
  have p1 := (check_digits hs).1
  have p2 := (check_digits ht).1
  have hinj : bodyS s = bodyS t ↔ decV (bodyS s) = decV (bodyS t) := ⟨fun h => by rw [h], fun h => by rw [← canon_body hs, ← canon_body ht, h]⟩
  unfold wantS sgn
  rcases Nat.lt_trichotomy (bodyS s).length (bodyS t).length with h | h | h
  · have := len_lt hs ht h
    rw [if_pos (Or.inl h), if_pos (by omega)]
  · have hb := less_num _ _ h p1 p2
    by_cases h2 : decV (bodyS s) < decV (bodyS t)
    · rw [if_pos (Or.inr ⟨h, hb.2 h2⟩), if_pos (by omega)]
    · rw [if_neg (by rintro (h3 | ⟨_, h3⟩); omega; exact h2 (hb.1 h3))]
      by_cases h4 : decV (bodyS s) = decV (bodyS t)
      · rw [if_pos (hinj.2 h4), if_neg (by omega), if_neg (by omega)]
      · rw [if_neg (fun e => h4 (hinj.1 e)), if_neg (by omega), if_pos (by omega)]
  · have := len_lt ht hs h
    rw [if_neg (by rintro (h3 | ⟨h3, _⟩) <;> omega), if_neg (fun e => by rw [e] at h; omega), if_neg (by omega), if_pos (by omega)]
theorem sgn_negI (z : Int) : sgn (-z) = - sgn z := by
  unfold sgn
  split <;> split <;> (try split) <;> omega
theorem sgn_le (z : Int) : sgn z ≤ 0 ↔ z ≤ 0 := by unfold sgn; split; (constructor <;> intro <;> omega); split <;> constructor <;> intro <;> omega
theorem sgn_lt0 (z : Int) : sgn z < 0 ↔ z < 0 := by unfold sgn; split; (constructor <;> intro <;> omega); split <;> constructor <;> intro <;> omega
theorem sgn_gt0 (z : Int) : 0 < sgn z ↔ 0 < z := by unfold sgn; split; (constructor <;> intro <;> omega); split <;> constructor <;> intro <;> omega
theorem sgn_ge0 (z : Int) : 0 ≤ sgn z ↔ 0 ≤ z := by unfold sgn; split; (constructor <;> intro <;> omega); split <;> constructor <;> intro <;> omega
theorem sgn_zero (z : Int) : sgn z = 0 ↔ z = 0 := by unfold sgn; split; (constructor <;> intro <;> omega); split <;> constructor <;> intro <;> omega
theorem sgn_bd (z : Int) : -1 ≤ sgn z ∧ sgn z ≤ 1 := by unfold sgn; split; decide; split <;> decide
/-- By sign, and by what the numbers without their signs are. -/
theorem want_eq {s t : List UInt8} (hs : checkS s = 0) (ht : checkS t = 0) :
    sgn (valS s - valS t) = if negS s = true ∧ negS t = false then -1 else if negS t = true ∧ negS s = false then 1 else if negS s = true then - wantS (bodyS s) (bodyS t) else wantS (bodyS s) (bodyS t) := by
  have h1 := val_neg2 hs
  have h2 := val_neg2 ht
  have a1 := val_abs s
  have a2 := val_abs t
  rw [wantS_eq hs ht, ← h1, ← h2, ← a1, ← a2]
  generalize valS s = x at *
  generalize valS t = y at *
  by_cases hx : x < 0 <;> by_cases hy : y < 0 <;> simp only [hx, hy, decide_true, decide_false, and_true, and_false, if_true, if_false, Bool.false_eq_true, reduceCtorEq, true_and, and_self]
  · rw [← sgn_negI]; congr 1; omega
  · unfold sgn; rw [if_pos (by omega)]
  · unfold sgn; rw [if_neg (by omega), if_pos (by omega)]
  · congr 1; omega

theorem wS_less {p q : List UInt8} (h : p.length < q.length) : -1 = wantS p q := by unfold wantS; rw [if_pos (Or.inl h)]
theorem wS_less2 {p q : List UInt8} (h : p.length = q.length) (h2 : Op.bytesLess p q = true) : -1 = wantS p q := by unfold wantS; rw [if_pos (Or.inr ⟨h, h2⟩)]
theorem wS_gt {p q : List UInt8} (h1 : ¬ p.length < q.length) (h2 : ¬ (p.length = q.length ∧ Op.bytesLess p q = true)) (h3 : ¬ p = q) : 1 = wantS p q := by
  unfold wantS; rw [if_neg (by rintro (h | h); exact h1 h; exact h2 h), if_neg h3]
theorem wS_same {p q : List UInt8} (h1 : ¬ p.length < q.length) (h2 : ¬ (p.length = q.length ∧ Op.bytesLess p q = true)) (h3 : p = q) : 0 = wantS p q := by
  unfold wantS; rw [if_neg (by rintro (h | h); exact h1 h; exact h2 h), if_pos h3]
def finS (p q : Bool) (w : Int) : Int := if p = true ∧ q = false then -1 else if q = true ∧ p = false then 1 else if p = true then -w else w
theorem finS_a {p q : Bool} {w : Int} (h1 : p = true) (h2 : q = false) : -1 = finS p q w := by subst h1; subst h2; rfl
theorem finS_b {p q : Bool} {w : Int} (h1 : p = false) (h2 : q = true) : 1 = finS p q w := by subst h1; subst h2; rfl
theorem finS_c {p q : Bool} {w : Int} (h1 : p = true) (h2 : q = true) : -w = finS p q w := by subst h1; subst h2; rfl
theorem finS_d {p q : Bool} {w : Int} (h1 : p = false) (h2 : q = false) : w = finS p q w := by subst h1; subst h2; rfl
theorem cmpNum (s t : List UInt8) (F : Heap) (hT : TabF F) (hs : checkS s = 0) (ht : checkS t = 0) : Ct Tryd.prog 22 [.string (bs s), .string (bs t)] F [] (fun _ _ u => u = cmpV (sgn (valS s - valS t), 0)) := by
  have l1 := len_ok hs
  have l2 := len_ok ht
  have := bcmpCt2 s t F hT (by omega) (by omega)
  rw [if_pos (both_of hs ht)] at this
  exact this
theorem cmpMoved (s t u : List UInt8) (F : Heap) (hT : TabF F) (hs : checkS s = 0) (ht : checkS t = 0) (hu : checkS u = 0) (h1 : (doA 0 s u).2 = 0) (h2 : (doA 0 t u).2 = 0) :
    Ct Tryd.prog 22 [.string (bs (doA 0 s u).1), .string (bs (doA 0 t u).1)] F [] (fun _ _ r => r = cmpV (sgn (valS s - valS t), 0)) := by
  rw [do0_eq hs hu] at h1 ⊢
  rw [do0_eq ht hu] at h2 ⊢
  obtain ⟨c1, v1⟩ := show_ok h1
  obtain ⟨c2, v2⟩ := show_ok h2
  have := cmpNum _ _ F hT c1 c2
  rw [v1, v2, show valS s + valS u - (valS t + valS u) = valS s - valS t by omega] at this
  exact this

set_option maxRecDepth 10000 in
set_option maxHeartbeats 8000000 in
theorem orderOk (s t u : List UInt8) (F : Heap) (hT : TabF F) (h1 : checkS s = 0) (h2 : checkS t = 0) (h3 : checkS u = 0) : Ct Tryd.prog 10 [.string (bs s), .string (bs t), .string (bs u)] F [] (fun _ _ r => r = .bool true) := by
  have ls := len_ok h1
  have lt := len_ok h2
  have lu := len_ok h3
  have hs0 : 0 < s.length := List.length_pos_iff.2 (fun e => by subst e; cases h1)
  have ht0 : 0 < t.length := List.length_pos_iff.2 (fun e => by subst e; cases h2)
  have lb1 := bodyS_len s
  have lb2 := bodyS_len t
  have cXY := cmpNum s t F hT h1 h2
  have cYZ := cmpNum t u F hT h2 h3
  have cXZ := cmpNum s u F hT h1 h3
  have cYX := cmpNum t s F hT h2 h1
  have cM := cmpMoved s t u F hT h1 h2 h3
  have cA := baddCt s u F hT (by omega) (by omega)
  have cB := baddCt t u F hT (by omega) (by omega)
  have c6 := sizeOfCt s F (by omega)
  have c7 := sizeOfCt t F (by omega)
  have hw : _ = finS (negS s) (negS t) (wantS (bodyS s) (bodyS t)) := want_eq h1 h2
  have hn1 : ((((s.getD 0 0).toNat : Nat) : Int) == 45) = negS s := by
    rw [neg_iff (List.length_pos_iff.1 hs0), Bool.eq_iff_iff, beq_iff_eq, decide_eq_true_eq]; omega
  have hn2 : ((((t.getD 0 0).toNat : Nat) : Int) == 45) = negS t := by
    rw [neg_iff (List.length_pos_iff.1 ht0), Bool.eq_iff_iff, beq_iff_eq, decide_eq_true_eq]; omega
  have hsym : sgn (valS t - valS s) = - sgn (valS s - valS t) := by rw [← sgn_negI]; congr 1; omega
  rw [hsym] at cYX
  have heq : (sgn (valS s - valS t) == 0) = (s == t) := by
    rw [Bool.eq_iff_iff, beq_iff_eq, beq_iff_eq, sgn_zero]
    exact ⟨fun h => val_inj h1 h2 (by omega), fun h => by rw [h]; omega⟩
  have x1 := sgn_le (valS s - valS t)
  have x2 := sgn_lt0 (valS s - valS t)
  have y1 := sgn_le (valS t - valS u)
  have z1 := sgn_gt0 (valS s - valS u)
  have z2 := sgn_ge0 (valS s - valS u)
  have xb := sgn_bd (valS s - valS t)
  have wb : -1 ≤ wantS (bodyS s) (bodyS t) ∧ wantS (bodyS s) (bodyS t) ≤ 1 := by unfold wantS; split; decide; split <;> decide
  generalize sgn (valS s - valS t) = X at *
  generalize sgn (valS t - valS u) = Y at *
  generalize sgn (valS s - valS u) = Z at *
  generalize doA 0 s u = d at *
  generalize doA 0 t u = e at *
  refine Ct.enter Tryd.func10 rfl Tryd.ntmps10 rfl fun w0 a S => ?_
  (refine wp_seq_k ?_; intro Kq1 hKq1)
  refine wp_region_lit ?_
  (refine wpl_v S rfl rfl rfl (sv_pure S rfl) ?_; clear S a; intro a S)
  refine wpList_nil ?_
  (refine hKq1 _ _ ?_; try (clear hKq1 Kq1))
  (refine wp_seq_k ?_; intro Kq2 hKq2)
  (refine wp_seq_k ?_; intro Kq3 hKq3)
  refine wp_region_lit ?_
  (refine wpl_call0 S rfl rfl rfl rfl rfl rfl (worksCt F hT) rfl ?_; clear S a; intro v a w hv S; subst hv)
  (refine wpl_v S rfl rfl rfl (sv_lit (c := false) (sv_pure S rfl) (by rfl)) ?_; clear S a; intro a S)
  (refine wpl_v S rfl rfl rfl (sv_pure S rfl) ?_; clear S a; intro a S)
  refine wpl_take S rfl rfl rfl ?_
  (refine wpl_v S rfl rfl rfl (sv_pure S rfl) ?_; clear S a; intro a S)
  refine wpl_take S rfl rfl rfl ?_
  ((first | (refine wpl_call0 S rfl rfl rfl rfl rfl rfl (checkCt s F (by omega)) rfl ?_) | (refine wpl_call0 S rfl rfl rfl rfl rfl rfl (checkCt t F (by omega)) rfl ?_) | (refine wpl_call0 S rfl rfl rfl rfl rfl rfl (checkCt u F (by omega)) rfl ?_)); clear S a; intro v a w hv S; subst hv)
  refine wpl_take S rfl rfl rfl ?_
  (refine wpl_v S rfl rfl rfl (sv_lit (c := false) (sv_pure S rfl) (by simpa using h1)) ?_; clear S a; intro a S)
  first | (refine wpl_v S rfl rfl rfl (sv_pure S rfl) ?_; clear S a; intro a S) | (refine wpl_v S rfl rfl rfl (sv_pickB S rfl rfl rfl rfl) ?_; clear S a; intro a S)
  (refine wpl_v S rfl rfl rfl (sv_pure S rfl) ?_; clear S a; intro a S)
  refine wpl_take S rfl rfl rfl ?_
  (refine wpl_v S rfl rfl rfl (sv_pure S rfl) ?_; clear S a; intro a S)
  refine wpl_take S rfl rfl rfl ?_
  ((first | (refine wpl_call0 S rfl rfl rfl rfl rfl rfl (checkCt s F (by omega)) rfl ?_) | (refine wpl_call0 S rfl rfl rfl rfl rfl rfl (checkCt t F (by omega)) rfl ?_) | (refine wpl_call0 S rfl rfl rfl rfl rfl rfl (checkCt u F (by omega)) rfl ?_)); clear S a; intro v a w hv S; subst hv)
  refine wpl_take S rfl rfl rfl ?_
  (refine wpl_v S rfl rfl rfl (sv_lit (c := false) (sv_pure S rfl) (by simpa using h2)) ?_; clear S a; intro a S)
  first | (refine wpl_v S rfl rfl rfl (sv_pure S rfl) ?_; clear S a; intro a S) | (refine wpl_v S rfl rfl rfl (sv_pickB S rfl rfl rfl rfl) ?_; clear S a; intro a S)
  (refine wpl_v S rfl rfl rfl (sv_pure S rfl) ?_; clear S a; intro a S)
  refine wpl_take S rfl rfl rfl ?_
  (refine wpl_v S rfl rfl rfl (sv_pure S rfl) ?_; clear S a; intro a S)
  refine wpl_take S rfl rfl rfl ?_
  ((first | (refine wpl_call0 S rfl rfl rfl rfl rfl rfl (checkCt s F (by omega)) rfl ?_) | (refine wpl_call0 S rfl rfl rfl rfl rfl rfl (checkCt t F (by omega)) rfl ?_) | (refine wpl_call0 S rfl rfl rfl rfl rfl rfl (checkCt u F (by omega)) rfl ?_)); clear S a; intro v a w hv S; subst hv)
  refine wpl_take S rfl rfl rfl ?_
  (refine wpl_v S rfl rfl rfl (sv_lit (c := false) (sv_pure S rfl) (by simpa using h3)) ?_; clear S a; intro a S)
  first | (refine wpl_v S rfl rfl rfl (sv_pure S rfl) ?_; clear S a; intro a S) | (refine wpl_v S rfl rfl rfl (sv_pickB S rfl rfl rfl rfl) ?_; clear S a; intro a S)
  refine wpList_nil ?_
  (refine hKq3 _ _ ?_; try (clear hKq3 Kq3))
  refine wpc_false S rfl ?_
  refine wp_skip ?_
  (refine hKq2 _ _ ?_; try (clear hKq2 Kq2))
  (refine wp_seq_k ?_; intro Kq4 hKq4)
  refine wp_region_lit ?_
  (refine wpl_v S rfl rfl rfl (sv_pure S rfl) ?_; clear S a; intro a S)
  (refine wpl_v S rfl rfl rfl (sv_pure S rfl) ?_; clear S a; intro a S)
  ((first | (refine wpl_call0 S rfl rfl rfl rfl rfl rfl cXY rfl ?_) | (refine wpl_call0 S rfl rfl rfl rfl rfl rfl cYZ rfl ?_) | (refine wpl_call0 S rfl rfl rfl rfl rfl rfl cXZ rfl ?_) | (refine wpl_call0 S rfl rfl rfl rfl rfl rfl cYX rfl ?_) | (refine wpl_call0 S rfl rfl rfl rfl rfl rfl (cM (by assumption) (by assumption)) rfl ?_)); clear S a; intro v a w hv S; subst hv)
  (refine wpl_v S rfl rfl rfl (sv_pure S rfl) ?_; clear S a; intro a S)
  (refine wpl_v S rfl rfl rfl (sv_pure S rfl) ?_; clear S a; intro a S)
  (refine wpl_v S rfl rfl rfl (sv_pure S rfl) ?_; clear S a; intro a S)
  (refine wpl_v S rfl rfl rfl (sv_pure S rfl) ?_; clear S a; intro a S)
  (refine wpl_v S rfl rfl rfl (sv_pure S rfl) ?_; clear S a; intro a S)
  refine wpList_nil ?_
  (refine hKq4 _ _ ?_; try (clear hKq4 Kq4))
  (refine wp_seq_k ?_; intro Kq5 hKq5)
  refine wp_region_lit ?_
  (refine wpl_v S rfl rfl rfl (sv_pure S rfl) ?_; clear S a; intro a S)
  (refine wpl_v S rfl rfl rfl (sv_pure S rfl) ?_; clear S a; intro a S)
  ((first | (refine wpl_call0 S rfl rfl rfl rfl rfl rfl cXY rfl ?_) | (refine wpl_call0 S rfl rfl rfl rfl rfl rfl cYZ rfl ?_) | (refine wpl_call0 S rfl rfl rfl rfl rfl rfl cXZ rfl ?_) | (refine wpl_call0 S rfl rfl rfl rfl rfl rfl cYX rfl ?_) | (refine wpl_call0 S rfl rfl rfl rfl rfl rfl (cM (by assumption) (by assumption)) rfl ?_)); clear S a; intro v a w hv S; subst hv)
  (refine wpl_v S rfl rfl rfl (sv_pure S rfl) ?_; clear S a; intro a S)
  (refine wpl_v S rfl rfl rfl (sv_pure S rfl) ?_; clear S a; intro a S)
  (refine wpl_v S rfl rfl rfl (sv_pure S rfl) ?_; clear S a; intro a S)
  (refine wpl_v S rfl rfl rfl (sv_pure S rfl) ?_; clear S a; intro a S)
  (refine wpl_v S rfl rfl rfl (sv_pure S rfl) ?_; clear S a; intro a S)
  refine wpList_nil ?_
  (refine hKq5 _ _ ?_; try (clear hKq5 Kq5))
  (refine wp_seq_k ?_; intro Kq6 hKq6)
  refine wp_region_lit ?_
  (refine wpl_v S rfl rfl rfl (sv_pure S rfl) ?_; clear S a; intro a S)
  (refine wpl_v S rfl rfl rfl (sv_pure S rfl) ?_; clear S a; intro a S)
  ((first | (refine wpl_call0 S rfl rfl rfl rfl rfl rfl cXY rfl ?_) | (refine wpl_call0 S rfl rfl rfl rfl rfl rfl cYZ rfl ?_) | (refine wpl_call0 S rfl rfl rfl rfl rfl rfl cXZ rfl ?_) | (refine wpl_call0 S rfl rfl rfl rfl rfl rfl cYX rfl ?_) | (refine wpl_call0 S rfl rfl rfl rfl rfl rfl (cM (by assumption) (by assumption)) rfl ?_)); clear S a; intro v a w hv S; subst hv)
  (refine wpl_v S rfl rfl rfl (sv_pure S rfl) ?_; clear S a; intro a S)
  (refine wpl_v S rfl rfl rfl (sv_pure S rfl) ?_; clear S a; intro a S)
  (refine wpl_v S rfl rfl rfl (sv_pure S rfl) ?_; clear S a; intro a S)
  (refine wpl_v S rfl rfl rfl (sv_pure S rfl) ?_; clear S a; intro a S)
  (refine wpl_v S rfl rfl rfl (sv_pure S rfl) ?_; clear S a; intro a S)
  refine wpList_nil ?_
  (refine hKq6 _ _ ?_; try (clear hKq6 Kq6))
  (refine wp_seq_k ?_; intro Kq7 hKq7)
  refine wp_region_lit ?_
  (refine wpl_v S rfl rfl rfl (sv_pure S rfl) ?_; clear S a; intro a S)
  (refine wpl_v S rfl rfl rfl (sv_pure S rfl) ?_; clear S a; intro a S)
  ((first | (refine wpl_call0 S rfl rfl rfl rfl rfl rfl cXY rfl ?_) | (refine wpl_call0 S rfl rfl rfl rfl rfl rfl cYZ rfl ?_) | (refine wpl_call0 S rfl rfl rfl rfl rfl rfl cXZ rfl ?_) | (refine wpl_call0 S rfl rfl rfl rfl rfl rfl cYX rfl ?_) | (refine wpl_call0 S rfl rfl rfl rfl rfl rfl (cM (by assumption) (by assumption)) rfl ?_)); clear S a; intro v a w hv S; subst hv)
  (refine wpl_v S rfl rfl rfl (sv_pure S rfl) ?_; clear S a; intro a S)
  (refine wpl_v S rfl rfl rfl (sv_pure S rfl) ?_; clear S a; intro a S)
  (refine wpl_v S rfl rfl rfl (sv_pure S rfl) ?_; clear S a; intro a S)
  (refine wpl_v S rfl rfl rfl (sv_pure S rfl) ?_; clear S a; intro a S)
  (refine wpl_v S rfl rfl rfl (sv_pure S rfl) ?_; clear S a; intro a S)
  refine wpList_nil ?_
  (refine hKq7 _ _ ?_; try (clear hKq7 Kq7))
  (refine wp_seq_k ?_; intro Kq8 hKq8)
  (refine wp_seq_k ?_; intro Kq9 hKq9)
  replace hKq9 : ∀ (a' : Act) (w' : World), (∃ G, St 177 [(0, .string (bs s)), (1, .string (bs t)), (2, .string (bs u)), (7, .int .i64 X), (103, .bool false)] w0 F [] F G a' w') → Kq9 a' w' := (by
    (intro a w hM; refine hKq9 _ _ ?_; clear hKq9 Kq9; clear S; obtain ⟨G, S⟩ := hM)
    refine wpc_false S rfl ?_
    refine wp_skip ?_
    (refine hKq8 _ _ ?_; try (clear hKq8 Kq8))
    (refine wp_seq_k ?_; intro Kq10 hKq10)
    refine wp_region_lit ?_
    (refine wpl_v S rfl rfl rfl (sv_pure S rfl) ?_; clear S a; intro a S)
    (refine wpl_v S rfl rfl rfl (sv_pure S rfl) ?_; clear S a; intro a S)
    ((first | (refine wpl_call0 S rfl rfl rfl rfl rfl rfl cA rfl ?_) | (refine wpl_call0 S rfl rfl rfl rfl rfl rfl cB rfl ?_)); clear S a; intro v a w hv S; subst hv)
    (refine wpl_v S rfl rfl rfl (sv_pure S rfl) ?_; clear S a; intro a S)
    (refine wpl_v S rfl rfl rfl (sv_pure S rfl) ?_; clear S a; intro a S)
    (refine wpl_v S rfl rfl rfl (sv_pure S rfl) ?_; clear S a; intro a S)
    (refine wpl_v S rfl rfl rfl (sv_pure S rfl) ?_; clear S a; intro a S)
    (refine wpl_v S rfl rfl rfl (sv_pure S rfl) ?_; clear S a; intro a S)
    refine wpList_nil ?_
    (refine hKq10 _ _ ?_; try (clear hKq10 Kq10))
    (refine wp_seq_k ?_; intro Kq11 hKq11)
    refine wp_region_lit ?_
    (refine wpl_v S rfl rfl rfl (sv_pure S rfl) ?_; clear S a; intro a S)
    (refine wpl_v S rfl rfl rfl (sv_pure S rfl) ?_; clear S a; intro a S)
    ((first | (refine wpl_call0 S rfl rfl rfl rfl rfl rfl cA rfl ?_) | (refine wpl_call0 S rfl rfl rfl rfl rfl rfl cB rfl ?_)); clear S a; intro v a w hv S; subst hv)
    (refine wpl_v S rfl rfl rfl (sv_pure S rfl) ?_; clear S a; intro a S)
    (refine wpl_v S rfl rfl rfl (sv_pure S rfl) ?_; clear S a; intro a S)
    (refine wpl_v S rfl rfl rfl (sv_pure S rfl) ?_; clear S a; intro a S)
    (refine wpl_v S rfl rfl rfl (sv_pure S rfl) ?_; clear S a; intro a S)
    (refine wpl_v S rfl rfl rfl (sv_pure S rfl) ?_; clear S a; intro a S)
    refine wpList_nil ?_
    (refine hKq11 _ _ ?_; try (clear hKq11 Kq11))
    (refine wp_seq_k ?_; intro Kq12 hKq12)
    replace hKq12 : ∀ (a' : Act) (w' : World), (∃ G, St 177 [(0, .string (bs s)), (1, .string (bs t)), (7, .int .i64 X)] w0 F [] F G a' w') → Kq12 a' w' := (by
      (intro a w hM; refine hKq12 _ _ ?_; clear hKq12 Kq12; clear S; obtain ⟨G, S⟩ := hM)
      (refine wp_seq_k ?_; intro Kq13 hKq13)
      refine wp_region_lit ?_
      (refine wpl_v S rfl rfl rfl (sv_pure S rfl) ?_; clear S a; intro a S)
      refine wpList_nil ?_
      (refine hKq13 _ _ ?_; try (clear hKq13 Kq13))
      (refine wp_seq_k ?_; intro Kq14 hKq14)
      refine wp_region_lit ?_
      (refine wpl_v S rfl rfl rfl (sv_pure S rfl) ?_; clear S a; intro a S)
      ((first | (refine wpl_call0 S rfl rfl rfl rfl rfl rfl c6 rfl ?_) | (refine wpl_call0 S rfl rfl rfl rfl rfl rfl c7 rfl ?_)); clear S a; intro v a w hv S; subst hv)
      (refine wpl_v S rfl rfl rfl (sv_pure S rfl) ?_; clear S a; intro a S)
      refine wpList_nil ?_
      (refine hKq14 _ _ ?_; try (clear hKq14 Kq14))
      (refine wp_seq_k ?_; intro Kq15 hKq15)
      refine wp_region_lit ?_
      (refine wpl_v S rfl rfl rfl (sv_pure S rfl) ?_; clear S a; intro a S)
      ((first | (refine wpl_call0 S rfl rfl rfl rfl rfl rfl c6 rfl ?_) | (refine wpl_call0 S rfl rfl rfl rfl rfl rfl c7 rfl ?_)); clear S a; intro v a w hv S; subst hv)
      (refine wpl_v S rfl rfl rfl (sv_pure S rfl) ?_; clear S a; intro a S)
      refine wpList_nil ?_
      (refine hKq15 _ _ ?_; try (clear hKq15 Kq15))
      (refine wp_seq_k ?_; intro Kq16 hKq16)
      replace hKq16 : ∀ (a' : Act) (w' : World), (∃ G, St 177 [(0, .string (bs s)), (1, .string (bs t)), (7, .int .i64 X), (21, .int .i64 (wantS (bodyS s) (bodyS t)))] w0 F [] F G a' w') → Kq16 a' w' := (by
        (intro a w hM; refine hKq16 _ _ ?_; clear hKq16 Kq16; clear S; obtain ⟨G, S⟩ := hM)
        (refine wp_seq_k ?_; intro Kq17 hKq17)
        refine wp_region_lit ?_
        (refine wpl_v S rfl rfl rfl (sv_pure S rfl) ?_; clear S a; intro a S)
        (refine wpl_v S rfl rfl rfl (sv_indexSN (i := 0) S rfl rfl rfl (by omega)) ?_; clear S a; intro a S)
        (refine wpl_v S rfl rfl rfl (sv_pure S rfl) ?_; clear S a; intro a S)
        (rw [hn1] at S)
        (refine wpl_v S rfl rfl rfl (sv_pure S rfl) ?_; clear S a; intro a S)
        refine wpList_nil ?_
        (refine hKq17 _ _ ?_; try (clear hKq17 Kq17))
        (refine wp_seq_k ?_; intro Kq18 hKq18)
        refine wp_region_lit ?_
        (refine wpl_v S rfl rfl rfl (sv_pure S rfl) ?_; clear S a; intro a S)
        (refine wpl_v S rfl rfl rfl (sv_indexSN (i := 0) S rfl rfl rfl (by omega)) ?_; clear S a; intro a S)
        (refine wpl_v S rfl rfl rfl (sv_pure S rfl) ?_; clear S a; intro a S)
        (rw [hn2] at S)
        (refine wpl_v S rfl rfl rfl (sv_pure S rfl) ?_; clear S a; intro a S)
        refine wpList_nil ?_
        (refine hKq18 _ _ ?_; try (clear hKq18 Kq18))
        (refine wp_seq_k ?_; intro Kq19 hKq19)
        replace hKq19 : ∀ (a' : Act) (w' : World), (∃ G, St 177 [(7, .int .i64 X), (21, .int .i64 X)] w0 F [] F G a' w') → Kq19 a' w' := (by
          (intro a w hM; refine hKq19 _ _ ?_; clear hKq19 Kq19; clear S; obtain ⟨G, S⟩ := hM)
          (refine wp_seq_k ?_; intro Kq20 hKq20)
          refine wp_region_lit ?_
          (refine wpl_v S rfl rfl rfl (sv_pure S rfl) ?_; clear S a; intro a S)
          (refine wpl_v S rfl rfl rfl (sv_pure S rfl) ?_; clear S a; intro a S)
          (refine wpl_v S rfl rfl rfl (sv_lit (c := true) (sv_pure S rfl) (by simp)) ?_; clear S a; intro a S)
          (refine wpl_v S rfl rfl rfl (sv_pure S rfl) ?_; clear S a; intro a S)
          refine wpList_nil ?_
          (refine hKq20 _ _ ?_; try (clear hKq20 Kq20))
          refine wp_ret ?_
          refine fin_ret S (results1 Tryd.results10 (RV.tmp S rfl)) ?_
          rfl)
        (refine wp_seq_k ?_; intro Kq21 hKq21)
        refine wp_region_lit ?_
        (refine wpl_v S rfl rfl rfl (sv_pure S rfl) ?_; clear S a; intro a S)
        (refine wpl_v S rfl rfl rfl (sv_pure S rfl) ?_; clear S a; intro a S)
        refine wpl_guard S rfl rfl rfl rfl rfl ?_ ?_
        · (intro h S'; clear S; have S := S'; clear S'; (try simp only [decide_eq_true_eq, decide_eq_false_iff_not, beq_iff_eq, bne_iff_ne, bne_eq_false_iff_eq, beq_eq_false_iff_ne, ne_eq, Bool.not_eq_true', Bool.not_eq_false', Bool.not_eq_true, Bool.not_eq_false, Bool.not_true, Bool.not_false, Int.ofNat_lt, Int.ofNat_le, Nat.not_lt, Nat.not_le] at h))
          (refine wpl_v S rfl rfl rfl (sv_pure S rfl) ?_; clear S a; intro a S)
          refine wpl_take S rfl rfl rfl ?_
          (refine wpl_v S rfl rfl rfl (sv_pure S rfl) ?_; clear S a; intro a S)
          first | (refine wpl_v S rfl rfl rfl (sv_pure S rfl) ?_; clear S a; intro a S) | (refine wpl_v S rfl rfl rfl (sv_pickB S rfl rfl rfl rfl) ?_; clear S a; intro a S)
          refine wpList_nil ?_
          (refine hKq21 _ _ ?_; try (clear hKq21 Kq21))
          refine wpc_split S rfl (fun h => ?_) (fun h => ?_)
          · (skip; (try simp only [decide_eq_true_eq, decide_eq_false_iff_not, beq_iff_eq, bne_iff_ne, bne_eq_false_iff_eq, beq_eq_false_iff_ne, ne_eq, Bool.not_eq_true', Bool.not_eq_false', Bool.not_eq_true, Bool.not_eq_false, Bool.not_true, Bool.not_false, Int.ofNat_lt, Int.ofNat_le, Nat.not_lt, Nat.not_le] at h))
            refine wp_region_lit ?_
            (refine wpl_v S rfl rfl rfl (sv_pure S rfl) ?_; clear S a; intro a S)
            refine wpList_nil ?_
            (refine hKq19 _ _ ?_)
            exact ⟨_, S.keep ⟨rfl, reg (by rw [hw]; first | exact finS_a (by assumption) (by assumption) | exact finS_b (by assumption) (by assumption) | exact finS_c (by assumption) (by assumption) | exact finS_d (by assumption) (by assumption) | (exfalso; have e1 : negS s = true := (by assumption); have e2 : negS s = false := (by assumption); rw [e1] at e2; cases e2) | (exfalso; have e1 : negS t = true := (by assumption); have e2 : negS t = false := (by assumption); rw [e1] at e2; cases e2)), trivial⟩⟩
          · (skip; (try simp only [decide_eq_true_eq, decide_eq_false_iff_not, beq_iff_eq, bne_iff_ne, bne_eq_false_iff_eq, beq_eq_false_iff_ne, ne_eq, Bool.not_eq_true', Bool.not_eq_false', Bool.not_eq_true, Bool.not_eq_false, Bool.not_true, Bool.not_false, Int.ofNat_lt, Int.ofNat_le, Nat.not_lt, Nat.not_le] at h))
            (refine wp_seq_k ?_; intro Kq22 hKq22)
            refine wp_region_lit ?_
            (refine wpl_v S rfl rfl rfl (sv_pure S rfl) ?_; clear S a; intro a S)
            (refine wpl_v S rfl rfl rfl (sv_pure S rfl) ?_; clear S a; intro a S)
            refine wpl_guard S rfl rfl rfl rfl rfl ?_ ?_
            · (intro h S'; clear S; have S := S'; clear S'; (try simp only [decide_eq_true_eq, decide_eq_false_iff_not, beq_iff_eq, bne_iff_ne, bne_eq_false_iff_eq, beq_eq_false_iff_ne, ne_eq, Bool.not_eq_true', Bool.not_eq_false', Bool.not_eq_true, Bool.not_eq_false, Bool.not_true, Bool.not_false, Int.ofNat_lt, Int.ofNat_le, Nat.not_lt, Nat.not_le] at h))
              (refine wpl_v S rfl rfl rfl (sv_pure S rfl) ?_; clear S a; intro a S)
              refine wpl_take S rfl rfl rfl ?_
              (refine wpl_v S rfl rfl rfl (sv_pure S rfl) ?_; clear S a; intro a S)
              first | (refine wpl_v S rfl rfl rfl (sv_pure S rfl) ?_; clear S a; intro a S) | (refine wpl_v S rfl rfl rfl (sv_pickB S rfl rfl rfl rfl) ?_; clear S a; intro a S)
              refine wpList_nil ?_
              (refine hKq22 _ _ ?_; try (clear hKq22 Kq22))
              refine wpc_split S rfl (fun h => ?_) (fun h => ?_)
              · (skip; (try simp only [decide_eq_true_eq, decide_eq_false_iff_not, beq_iff_eq, bne_iff_ne, bne_eq_false_iff_eq, beq_eq_false_iff_ne, ne_eq, Bool.not_eq_true', Bool.not_eq_false', Bool.not_eq_true, Bool.not_eq_false, Bool.not_true, Bool.not_false, Int.ofNat_lt, Int.ofNat_le, Nat.not_lt, Nat.not_le] at h))
                refine wp_region_lit ?_
                (refine wpl_v S rfl rfl rfl (sv_pure S rfl) ?_; clear S a; intro a S)
                refine wpList_nil ?_
                (refine hKq19 _ _ ?_)
                exact ⟨_, S.keep ⟨rfl, reg (by rw [hw]; first | exact finS_a (by assumption) (by assumption) | exact finS_b (by assumption) (by assumption) | exact finS_c (by assumption) (by assumption) | exact finS_d (by assumption) (by assumption) | (exfalso; have e1 : negS s = true := (by assumption); have e2 : negS s = false := (by assumption); rw [e1] at e2; cases e2) | (exfalso; have e1 : negS t = true := (by assumption); have e2 : negS t = false := (by assumption); rw [e1] at e2; cases e2)), trivial⟩⟩
              · (skip; (try simp only [decide_eq_true_eq, decide_eq_false_iff_not, beq_iff_eq, bne_iff_ne, bne_eq_false_iff_eq, beq_eq_false_iff_ne, ne_eq, Bool.not_eq_true', Bool.not_eq_false', Bool.not_eq_true, Bool.not_eq_false, Bool.not_true, Bool.not_false, Int.ofNat_lt, Int.ofNat_le, Nat.not_lt, Nat.not_le] at h))
                (refine wp_seq_k ?_; intro Kq23 hKq23)
                refine wp_region_lit ?_
                (refine wpl_v S rfl rfl rfl (sv_pure S rfl) ?_; clear S a; intro a S)
                refine wpList_nil ?_
                (refine hKq23 _ _ ?_; try (clear hKq23 Kq23))
                refine wpc_split S rfl (fun h => ?_) (fun h => ?_)
                · (skip; (try simp only [decide_eq_true_eq, decide_eq_false_iff_not, beq_iff_eq, bne_iff_ne, bne_eq_false_iff_eq, beq_eq_false_iff_ne, ne_eq, Bool.not_eq_true', Bool.not_eq_false', Bool.not_eq_true, Bool.not_eq_false, Bool.not_true, Bool.not_false, Int.ofNat_lt, Int.ofNat_le, Nat.not_lt, Nat.not_le] at h))
                  refine wp_region_lit ?_
                  (refine wpl_v S rfl rfl rfl (sv_pure S rfl) ?_; clear S a; intro a S)
                  (refine wpl_v S rfl rfl rfl (sv_negI S rfl rfl (by omega)) ?_; clear S a; intro a S)
                  (refine wpl_v S rfl rfl rfl (sv_pure S rfl) ?_; clear S a; intro a S)
                  refine wpList_nil ?_
                  (refine hKq19 _ _ ?_)
                  exact ⟨_, S.keep ⟨rfl, reg (by rw [hw]; first | exact finS_a (by assumption) (by assumption) | exact finS_b (by assumption) (by assumption) | exact finS_c (by assumption) (by assumption) | exact finS_d (by assumption) (by assumption) | (exfalso; have e1 : negS s = true := (by assumption); have e2 : negS s = false := (by assumption); rw [e1] at e2; cases e2) | (exfalso; have e1 : negS t = true := (by assumption); have e2 : negS t = false := (by assumption); rw [e1] at e2; cases e2)), trivial⟩⟩
                · (skip; (try simp only [decide_eq_true_eq, decide_eq_false_iff_not, beq_iff_eq, bne_iff_ne, bne_eq_false_iff_eq, beq_eq_false_iff_ne, ne_eq, Bool.not_eq_true', Bool.not_eq_false', Bool.not_eq_true, Bool.not_eq_false, Bool.not_true, Bool.not_false, Int.ofNat_lt, Int.ofNat_le, Nat.not_lt, Nat.not_le] at h))
                  refine wp_skip ?_
                  (refine hKq19 _ _ ?_)
                  exact ⟨_, S.keep ⟨rfl, reg (by rw [hw]; first | exact finS_a (by assumption) (by assumption) | exact finS_b (by assumption) (by assumption) | exact finS_c (by assumption) (by assumption) | exact finS_d (by assumption) (by assumption) | (exfalso; have e1 : negS s = true := (by assumption); have e2 : negS s = false := (by assumption); rw [e1] at e2; cases e2) | (exfalso; have e1 : negS t = true := (by assumption); have e2 : negS t = false := (by assumption); rw [e1] at e2; cases e2)), trivial⟩⟩
            · (intro h; clear S a; intro a S; (try simp only [decide_eq_true_eq, decide_eq_false_iff_not, beq_iff_eq, bne_iff_ne, bne_eq_false_iff_eq, beq_eq_false_iff_ne, ne_eq, Bool.not_eq_true', Bool.not_eq_false', Bool.not_eq_true, Bool.not_eq_false, Bool.not_true, Bool.not_false, Int.ofNat_lt, Int.ofNat_le, Nat.not_lt, Nat.not_le] at h))
              (refine wpl_skip S rfl rfl rfl rfl rfl ?_; clear S a; intro a S)
              first | (refine wpl_v S rfl rfl rfl (sv_pure S rfl) ?_; clear S a; intro a S) | (refine wpl_v S rfl rfl rfl (sv_pickB S rfl rfl rfl rfl) ?_; clear S a; intro a S)
              refine wpList_nil ?_
              (refine hKq22 _ _ ?_; try (clear hKq22 Kq22))
              refine wpc_false S rfl ?_
              (refine wp_seq_k ?_; intro Kq23 hKq23)
              refine wp_region_lit ?_
              (refine wpl_v S rfl rfl rfl (sv_pure S rfl) ?_; clear S a; intro a S)
              refine wpList_nil ?_
              (refine hKq23 _ _ ?_; try (clear hKq23 Kq23))
              refine wpc_split S rfl (fun h => ?_) (fun h => ?_)
              · (skip; (try simp only [decide_eq_true_eq, decide_eq_false_iff_not, beq_iff_eq, bne_iff_ne, bne_eq_false_iff_eq, beq_eq_false_iff_ne, ne_eq, Bool.not_eq_true', Bool.not_eq_false', Bool.not_eq_true, Bool.not_eq_false, Bool.not_true, Bool.not_false, Int.ofNat_lt, Int.ofNat_le, Nat.not_lt, Nat.not_le] at h))
                refine wp_region_lit ?_
                (refine wpl_v S rfl rfl rfl (sv_pure S rfl) ?_; clear S a; intro a S)
                (refine wpl_v S rfl rfl rfl (sv_negI S rfl rfl (by omega)) ?_; clear S a; intro a S)
                (refine wpl_v S rfl rfl rfl (sv_pure S rfl) ?_; clear S a; intro a S)
                refine wpList_nil ?_
                (refine hKq19 _ _ ?_)
                exact ⟨_, S.keep ⟨rfl, reg (by rw [hw]; first | exact finS_a (by assumption) (by assumption) | exact finS_b (by assumption) (by assumption) | exact finS_c (by assumption) (by assumption) | exact finS_d (by assumption) (by assumption) | (exfalso; have e1 : negS s = true := (by assumption); have e2 : negS s = false := (by assumption); rw [e1] at e2; cases e2) | (exfalso; have e1 : negS t = true := (by assumption); have e2 : negS t = false := (by assumption); rw [e1] at e2; cases e2)), trivial⟩⟩
              · (skip; (try simp only [decide_eq_true_eq, decide_eq_false_iff_not, beq_iff_eq, bne_iff_ne, bne_eq_false_iff_eq, beq_eq_false_iff_ne, ne_eq, Bool.not_eq_true', Bool.not_eq_false', Bool.not_eq_true, Bool.not_eq_false, Bool.not_true, Bool.not_false, Int.ofNat_lt, Int.ofNat_le, Nat.not_lt, Nat.not_le] at h))
                refine wp_skip ?_
                (refine hKq19 _ _ ?_)
                exact ⟨_, S.keep ⟨rfl, reg (by rw [hw]; first | exact finS_a (by assumption) (by assumption) | exact finS_b (by assumption) (by assumption) | exact finS_c (by assumption) (by assumption) | exact finS_d (by assumption) (by assumption) | (exfalso; have e1 : negS s = true := (by assumption); have e2 : negS s = false := (by assumption); rw [e1] at e2; cases e2) | (exfalso; have e1 : negS t = true := (by assumption); have e2 : negS t = false := (by assumption); rw [e1] at e2; cases e2)), trivial⟩⟩
        · (intro h; clear S a; intro a S; (try simp only [decide_eq_true_eq, decide_eq_false_iff_not, beq_iff_eq, bne_iff_ne, bne_eq_false_iff_eq, beq_eq_false_iff_ne, ne_eq, Bool.not_eq_true', Bool.not_eq_false', Bool.not_eq_true, Bool.not_eq_false, Bool.not_true, Bool.not_false, Int.ofNat_lt, Int.ofNat_le, Nat.not_lt, Nat.not_le] at h))
          (refine wpl_skip S rfl rfl rfl rfl rfl ?_; clear S a; intro a S)
          first | (refine wpl_v S rfl rfl rfl (sv_pure S rfl) ?_; clear S a; intro a S) | (refine wpl_v S rfl rfl rfl (sv_pickB S rfl rfl rfl rfl) ?_; clear S a; intro a S)
          refine wpList_nil ?_
          (refine hKq21 _ _ ?_; try (clear hKq21 Kq21))
          refine wpc_false S rfl ?_
          (refine wp_seq_k ?_; intro Kq22 hKq22)
          refine wp_region_lit ?_
          (refine wpl_v S rfl rfl rfl (sv_pure S rfl) ?_; clear S a; intro a S)
          (refine wpl_v S rfl rfl rfl (sv_pure S rfl) ?_; clear S a; intro a S)
          refine wpl_guard S rfl rfl rfl rfl rfl ?_ ?_
          · (intro h S'; clear S; have S := S'; clear S'; (try simp only [decide_eq_true_eq, decide_eq_false_iff_not, beq_iff_eq, bne_iff_ne, bne_eq_false_iff_eq, beq_eq_false_iff_ne, ne_eq, Bool.not_eq_true', Bool.not_eq_false', Bool.not_eq_true, Bool.not_eq_false, Bool.not_true, Bool.not_false, Int.ofNat_lt, Int.ofNat_le, Nat.not_lt, Nat.not_le] at h))
            (refine wpl_v S rfl rfl rfl (sv_pure S rfl) ?_; clear S a; intro a S)
            refine wpl_take S rfl rfl rfl ?_
            (refine wpl_v S rfl rfl rfl (sv_pure S rfl) ?_; clear S a; intro a S)
            first | (refine wpl_v S rfl rfl rfl (sv_pure S rfl) ?_; clear S a; intro a S) | (refine wpl_v S rfl rfl rfl (sv_pickB S rfl rfl rfl rfl) ?_; clear S a; intro a S)
            refine wpList_nil ?_
            (refine hKq22 _ _ ?_; try (clear hKq22 Kq22))
            refine wpc_split S rfl (fun h => ?_) (fun h => ?_)
            · (skip; (try simp only [decide_eq_true_eq, decide_eq_false_iff_not, beq_iff_eq, bne_iff_ne, bne_eq_false_iff_eq, beq_eq_false_iff_ne, ne_eq, Bool.not_eq_true', Bool.not_eq_false', Bool.not_eq_true, Bool.not_eq_false, Bool.not_true, Bool.not_false, Int.ofNat_lt, Int.ofNat_le, Nat.not_lt, Nat.not_le] at h))
              refine wp_region_lit ?_
              (refine wpl_v S rfl rfl rfl (sv_pure S rfl) ?_; clear S a; intro a S)
              refine wpList_nil ?_
              (refine hKq19 _ _ ?_)
              exact ⟨_, S.keep ⟨rfl, reg (by rw [hw]; first | exact finS_a (by assumption) (by assumption) | exact finS_b (by assumption) (by assumption) | exact finS_c (by assumption) (by assumption) | exact finS_d (by assumption) (by assumption) | (exfalso; have e1 : negS s = true := (by assumption); have e2 : negS s = false := (by assumption); rw [e1] at e2; cases e2) | (exfalso; have e1 : negS t = true := (by assumption); have e2 : negS t = false := (by assumption); rw [e1] at e2; cases e2)), trivial⟩⟩
            · (skip; (try simp only [decide_eq_true_eq, decide_eq_false_iff_not, beq_iff_eq, bne_iff_ne, bne_eq_false_iff_eq, beq_eq_false_iff_ne, ne_eq, Bool.not_eq_true', Bool.not_eq_false', Bool.not_eq_true, Bool.not_eq_false, Bool.not_true, Bool.not_false, Int.ofNat_lt, Int.ofNat_le, Nat.not_lt, Nat.not_le] at h))
              (refine wp_seq_k ?_; intro Kq23 hKq23)
              refine wp_region_lit ?_
              (refine wpl_v S rfl rfl rfl (sv_pure S rfl) ?_; clear S a; intro a S)
              refine wpList_nil ?_
              (refine hKq23 _ _ ?_; try (clear hKq23 Kq23))
              refine wpc_split S rfl (fun h => ?_) (fun h => ?_)
              · (skip; (try simp only [decide_eq_true_eq, decide_eq_false_iff_not, beq_iff_eq, bne_iff_ne, bne_eq_false_iff_eq, beq_eq_false_iff_ne, ne_eq, Bool.not_eq_true', Bool.not_eq_false', Bool.not_eq_true, Bool.not_eq_false, Bool.not_true, Bool.not_false, Int.ofNat_lt, Int.ofNat_le, Nat.not_lt, Nat.not_le] at h))
                refine wp_region_lit ?_
                (refine wpl_v S rfl rfl rfl (sv_pure S rfl) ?_; clear S a; intro a S)
                (refine wpl_v S rfl rfl rfl (sv_negI S rfl rfl (by omega)) ?_; clear S a; intro a S)
                (refine wpl_v S rfl rfl rfl (sv_pure S rfl) ?_; clear S a; intro a S)
                refine wpList_nil ?_
                (refine hKq19 _ _ ?_)
                exact ⟨_, S.keep ⟨rfl, reg (by rw [hw]; first | exact finS_a (by assumption) (by assumption) | exact finS_b (by assumption) (by assumption) | exact finS_c (by assumption) (by assumption) | exact finS_d (by assumption) (by assumption) | (exfalso; have e1 : negS s = true := (by assumption); have e2 : negS s = false := (by assumption); rw [e1] at e2; cases e2) | (exfalso; have e1 : negS t = true := (by assumption); have e2 : negS t = false := (by assumption); rw [e1] at e2; cases e2)), trivial⟩⟩
              · (skip; (try simp only [decide_eq_true_eq, decide_eq_false_iff_not, beq_iff_eq, bne_iff_ne, bne_eq_false_iff_eq, beq_eq_false_iff_ne, ne_eq, Bool.not_eq_true', Bool.not_eq_false', Bool.not_eq_true, Bool.not_eq_false, Bool.not_true, Bool.not_false, Int.ofNat_lt, Int.ofNat_le, Nat.not_lt, Nat.not_le] at h))
                refine wp_skip ?_
                (refine hKq19 _ _ ?_)
                exact ⟨_, S.keep ⟨rfl, reg (by rw [hw]; first | exact finS_a (by assumption) (by assumption) | exact finS_b (by assumption) (by assumption) | exact finS_c (by assumption) (by assumption) | exact finS_d (by assumption) (by assumption) | (exfalso; have e1 : negS s = true := (by assumption); have e2 : negS s = false := (by assumption); rw [e1] at e2; cases e2) | (exfalso; have e1 : negS t = true := (by assumption); have e2 : negS t = false := (by assumption); rw [e1] at e2; cases e2)), trivial⟩⟩
          · (intro h; clear S a; intro a S; (try simp only [decide_eq_true_eq, decide_eq_false_iff_not, beq_iff_eq, bne_iff_ne, bne_eq_false_iff_eq, beq_eq_false_iff_ne, ne_eq, Bool.not_eq_true', Bool.not_eq_false', Bool.not_eq_true, Bool.not_eq_false, Bool.not_true, Bool.not_false, Int.ofNat_lt, Int.ofNat_le, Nat.not_lt, Nat.not_le] at h))
            (refine wpl_skip S rfl rfl rfl rfl rfl ?_; clear S a; intro a S)
            first | (refine wpl_v S rfl rfl rfl (sv_pure S rfl) ?_; clear S a; intro a S) | (refine wpl_v S rfl rfl rfl (sv_pickB S rfl rfl rfl rfl) ?_; clear S a; intro a S)
            refine wpList_nil ?_
            (refine hKq22 _ _ ?_; try (clear hKq22 Kq22))
            refine wpc_false S rfl ?_
            (refine wp_seq_k ?_; intro Kq23 hKq23)
            refine wp_region_lit ?_
            (refine wpl_v S rfl rfl rfl (sv_pure S rfl) ?_; clear S a; intro a S)
            refine wpList_nil ?_
            (refine hKq23 _ _ ?_; try (clear hKq23 Kq23))
            refine wpc_split S rfl (fun h => ?_) (fun h => ?_)
            · (skip; (try simp only [decide_eq_true_eq, decide_eq_false_iff_not, beq_iff_eq, bne_iff_ne, bne_eq_false_iff_eq, beq_eq_false_iff_ne, ne_eq, Bool.not_eq_true', Bool.not_eq_false', Bool.not_eq_true, Bool.not_eq_false, Bool.not_true, Bool.not_false, Int.ofNat_lt, Int.ofNat_le, Nat.not_lt, Nat.not_le] at h))
              refine wp_region_lit ?_
              (refine wpl_v S rfl rfl rfl (sv_pure S rfl) ?_; clear S a; intro a S)
              (refine wpl_v S rfl rfl rfl (sv_negI S rfl rfl (by omega)) ?_; clear S a; intro a S)
              (refine wpl_v S rfl rfl rfl (sv_pure S rfl) ?_; clear S a; intro a S)
              refine wpList_nil ?_
              (refine hKq19 _ _ ?_)
              exact ⟨_, S.keep ⟨rfl, reg (by rw [hw]; first | exact finS_a (by assumption) (by assumption) | exact finS_b (by assumption) (by assumption) | exact finS_c (by assumption) (by assumption) | exact finS_d (by assumption) (by assumption) | (exfalso; have e1 : negS s = true := (by assumption); have e2 : negS s = false := (by assumption); rw [e1] at e2; cases e2) | (exfalso; have e1 : negS t = true := (by assumption); have e2 : negS t = false := (by assumption); rw [e1] at e2; cases e2)), trivial⟩⟩
            · (skip; (try simp only [decide_eq_true_eq, decide_eq_false_iff_not, beq_iff_eq, bne_iff_ne, bne_eq_false_iff_eq, beq_eq_false_iff_ne, ne_eq, Bool.not_eq_true', Bool.not_eq_false', Bool.not_eq_true, Bool.not_eq_false, Bool.not_true, Bool.not_false, Int.ofNat_lt, Int.ofNat_le, Nat.not_lt, Nat.not_le] at h))
              refine wp_skip ?_
              (refine hKq19 _ _ ?_)
              exact ⟨_, S.keep ⟨rfl, reg (by rw [hw]; first | exact finS_a (by assumption) (by assumption) | exact finS_b (by assumption) (by assumption) | exact finS_c (by assumption) (by assumption) | exact finS_d (by assumption) (by assumption) | (exfalso; have e1 : negS s = true := (by assumption); have e2 : negS s = false := (by assumption); rw [e1] at e2; cases e2) | (exfalso; have e1 : negS t = true := (by assumption); have e2 : negS t = false := (by assumption); rw [e1] at e2; cases e2)), trivial⟩⟩)
      (refine wp_seq_k ?_; intro Kq24 hKq24)
      refine wp_region_lit ?_
      (refine wpl_v S rfl rfl rfl (sv_pure S rfl) ?_; clear S a; intro a S)
      (refine wpl_v S rfl rfl rfl (sv_lenS S rfl rfl) ?_; clear S a; intro a S)
      (refine wpl_v S rfl rfl rfl (sv_pure S rfl) ?_; clear S a; intro a S)
      (refine wpl_v S rfl rfl rfl (sv_lenS S rfl rfl) ?_; clear S a; intro a S)
      (refine wpl_v S rfl rfl rfl (sv_pure S rfl) ?_; clear S a; intro a S)
      (refine wpl_v S rfl rfl rfl (sv_pure S rfl) ?_; clear S a; intro a S)
      refine wpl_guard S rfl rfl rfl rfl rfl ?_ ?_
      · (intro h S'; clear S; have S := S'; clear S'; (try simp only [decide_eq_true_eq, decide_eq_false_iff_not, beq_iff_eq, bne_iff_ne, bne_eq_false_iff_eq, beq_eq_false_iff_ne, ne_eq, Bool.not_eq_true', Bool.not_eq_false', Bool.not_eq_true, Bool.not_eq_false, Bool.not_true, Bool.not_false, Int.ofNat_lt, Int.ofNat_le, Nat.not_lt, Nat.not_le] at h))
        (refine wpl_v S rfl rfl rfl (sv_pure S rfl) ?_; clear S a; intro a S)
        refine wpl_take S rfl rfl rfl ?_
        (refine wpl_v S rfl rfl rfl (sv_lenS S rfl rfl) ?_; clear S a; intro a S)
        refine wpl_take S rfl rfl rfl ?_
        (refine wpl_v S rfl rfl rfl (sv_pure S rfl) ?_; clear S a; intro a S)
        refine wpl_take S rfl rfl rfl ?_
        (refine wpl_v S rfl rfl rfl (sv_lenS S rfl rfl) ?_; clear S a; intro a S)
        refine wpl_take S rfl rfl rfl ?_
        (refine wpl_v S rfl rfl rfl (sv_pure S rfl) ?_; clear S a; intro a S)
        refine wpl_take S rfl rfl rfl ?_
        (refine wpl_v S rfl rfl rfl (sv_pure S rfl) ?_; clear S a; intro a S)
        refine wpl_guard S rfl rfl rfl rfl rfl ?_ ?_
        · (intro h S'; clear S; have S := S'; clear S'; (try simp only [decide_eq_true_eq, decide_eq_false_iff_not, beq_iff_eq, bne_iff_ne, bne_eq_false_iff_eq, beq_eq_false_iff_ne, ne_eq, Bool.not_eq_true', Bool.not_eq_false', Bool.not_eq_true, Bool.not_eq_false, Bool.not_true, Bool.not_false, Int.ofNat_lt, Int.ofNat_le, Nat.not_lt, Nat.not_le] at h))
          (refine wpl_v S rfl rfl rfl (sv_pure S rfl) ?_; clear S a; intro a S)
          refine wpl_take S rfl rfl rfl ?_
          (refine wpl_v S rfl rfl rfl (sv_pure S rfl) ?_; clear S a; intro a S)
          refine wpl_take S rfl rfl rfl ?_
          (refine wpl_v S rfl rfl rfl (sv_pure S rfl) ?_; clear S a; intro a S)
          refine wpl_take S rfl rfl rfl ?_
          first | (refine wpl_v S rfl rfl rfl (sv_pure S rfl) ?_; clear S a; intro a S) | (refine wpl_v S rfl rfl rfl (sv_pickB S rfl rfl rfl rfl) ?_; clear S a; intro a S)
          first | (refine wpl_v S rfl rfl rfl (sv_pure S rfl) ?_; clear S a; intro a S) | (refine wpl_v S rfl rfl rfl (sv_pickB S rfl rfl rfl rfl) ?_; clear S a; intro a S)
          refine wpList_nil ?_
          (refine hKq24 _ _ ?_; try (clear hKq24 Kq24))
          refine wpc_split S rfl (fun h => ?_) (fun h => ?_)
          · (skip; (try simp only [decide_eq_true_eq, decide_eq_false_iff_not, beq_iff_eq, bne_iff_ne, bne_eq_false_iff_eq, beq_eq_false_iff_ne, ne_eq, Bool.not_eq_true', Bool.not_eq_false', Bool.not_eq_true, Bool.not_eq_false, Bool.not_true, Bool.not_false, Int.ofNat_lt, Int.ofNat_le, Nat.not_lt, Nat.not_le] at h))
            refine wp_region_lit ?_
            (refine wpl_v S rfl rfl rfl (sv_pure S rfl) ?_; clear S a; intro a S)
            refine wpList_nil ?_
            (refine hKq16 _ _ ?_)
            exact ⟨_, S.keep ⟨rfl, rfl, rfl, reg (by first | exact wS_less (by omega) | exact wS_less2 (by omega) (by assumption) | exact wS_gt (by omega) (by first | (rintro ⟨h9, h10⟩; omega) | (rintro ⟨h9, h10⟩; have e2 : Op.bytesLess (bodyS s) (bodyS t) = false := (by assumption); rw [h10] at e2; cases e2) | (rintro ⟨h9, h10⟩; exact absurd h10 (by assumption))) (by assumption) | exact wS_same (by omega) (by first | (rintro ⟨h9, h10⟩; omega) | (rintro ⟨h9, h10⟩; have e2 : Op.bytesLess (bodyS s) (bodyS t) = false := (by assumption); rw [h10] at e2; cases e2) | (rintro ⟨h9, h10⟩; exact absurd h10 (by assumption))) (by assumption)), trivial⟩⟩
          · (skip; (try simp only [decide_eq_true_eq, decide_eq_false_iff_not, beq_iff_eq, bne_iff_ne, bne_eq_false_iff_eq, beq_eq_false_iff_ne, ne_eq, Bool.not_eq_true', Bool.not_eq_false', Bool.not_eq_true, Bool.not_eq_false, Bool.not_true, Bool.not_false, Int.ofNat_lt, Int.ofNat_le, Nat.not_lt, Nat.not_le] at h))
            (refine wp_seq_k ?_; intro Kq25 hKq25)
            refine wp_region_lit ?_
            (refine wpl_v S rfl rfl rfl (sv_pure S rfl) ?_; clear S a; intro a S)
            (refine wpl_v S rfl rfl rfl (sv_pure S rfl) ?_; clear S a; intro a S)
            (refine wpl_v S rfl rfl rfl (sv_pure S rfl) ?_; clear S a; intro a S)
            refine wpList_nil ?_
            (refine hKq25 _ _ ?_; try (clear hKq25 Kq25))
            refine wpc_split S rfl (fun h => ?_) (fun h => ?_)
            · (skip; (try simp only [decide_eq_true_eq, decide_eq_false_iff_not, beq_iff_eq, bne_iff_ne, bne_eq_false_iff_eq, beq_eq_false_iff_ne, ne_eq, Bool.not_eq_true', Bool.not_eq_false', Bool.not_eq_true, Bool.not_eq_false, Bool.not_true, Bool.not_false, Int.ofNat_lt, Int.ofNat_le, Nat.not_lt, Nat.not_le] at h))
              refine wp_region_lit ?_
              (refine wpl_v S rfl rfl rfl (sv_pure S rfl) ?_; clear S a; intro a S)
              refine wpList_nil ?_
              (refine hKq16 _ _ ?_)
              exact ⟨_, S.keep ⟨rfl, rfl, rfl, reg (by first | exact wS_less (by omega) | exact wS_less2 (by omega) (by assumption) | exact wS_gt (by omega) (by first | (rintro ⟨h9, h10⟩; omega) | (rintro ⟨h9, h10⟩; have e2 : Op.bytesLess (bodyS s) (bodyS t) = false := (by assumption); rw [h10] at e2; cases e2) | (rintro ⟨h9, h10⟩; exact absurd h10 (by assumption))) (by assumption) | exact wS_same (by omega) (by first | (rintro ⟨h9, h10⟩; omega) | (rintro ⟨h9, h10⟩; have e2 : Op.bytesLess (bodyS s) (bodyS t) = false := (by assumption); rw [h10] at e2; cases e2) | (rintro ⟨h9, h10⟩; exact absurd h10 (by assumption))) (by assumption)), trivial⟩⟩
            · (skip; (try simp only [decide_eq_true_eq, decide_eq_false_iff_not, beq_iff_eq, bne_iff_ne, bne_eq_false_iff_eq, beq_eq_false_iff_ne, ne_eq, Bool.not_eq_true', Bool.not_eq_false', Bool.not_eq_true, Bool.not_eq_false, Bool.not_true, Bool.not_false, Int.ofNat_lt, Int.ofNat_le, Nat.not_lt, Nat.not_le] at h))
              refine wp_skip ?_
              (refine hKq16 _ _ ?_)
              exact ⟨_, S.keep ⟨rfl, rfl, rfl, reg (by first | exact wS_less (by omega) | exact wS_less2 (by omega) (by assumption) | exact wS_gt (by omega) (by first | (rintro ⟨h9, h10⟩; omega) | (rintro ⟨h9, h10⟩; have e2 : Op.bytesLess (bodyS s) (bodyS t) = false := (by assumption); rw [h10] at e2; cases e2) | (rintro ⟨h9, h10⟩; exact absurd h10 (by assumption))) (by assumption) | exact wS_same (by omega) (by first | (rintro ⟨h9, h10⟩; omega) | (rintro ⟨h9, h10⟩; have e2 : Op.bytesLess (bodyS s) (bodyS t) = false := (by assumption); rw [h10] at e2; cases e2) | (rintro ⟨h9, h10⟩; exact absurd h10 (by assumption))) (by assumption)), trivial⟩⟩
        · (intro h; clear S a; intro a S; (try simp only [decide_eq_true_eq, decide_eq_false_iff_not, beq_iff_eq, bne_iff_ne, bne_eq_false_iff_eq, beq_eq_false_iff_ne, ne_eq, Bool.not_eq_true', Bool.not_eq_false', Bool.not_eq_true, Bool.not_eq_false, Bool.not_true, Bool.not_false, Int.ofNat_lt, Int.ofNat_le, Nat.not_lt, Nat.not_le] at h))
          (refine wpl_skip S rfl rfl rfl rfl rfl ?_; clear S a; intro a S)
          (refine wpl_skip S rfl rfl rfl rfl rfl ?_; clear S a; intro a S)
          refine wpl_take S rfl rfl rfl ?_
          first | (refine wpl_v S rfl rfl rfl (sv_pure S rfl) ?_; clear S a; intro a S) | (refine wpl_v S rfl rfl rfl (sv_pickB S rfl rfl rfl rfl) ?_; clear S a; intro a S)
          first | (refine wpl_v S rfl rfl rfl (sv_pure S rfl) ?_; clear S a; intro a S) | (refine wpl_v S rfl rfl rfl (sv_pickB S rfl rfl rfl rfl) ?_; clear S a; intro a S)
          refine wpList_nil ?_
          (refine hKq24 _ _ ?_; try (clear hKq24 Kq24))
          refine wpc_false S rfl ?_
          (refine wp_seq_k ?_; intro Kq25 hKq25)
          refine wp_region_lit ?_
          (refine wpl_v S rfl rfl rfl (sv_pure S rfl) ?_; clear S a; intro a S)
          (refine wpl_v S rfl rfl rfl (sv_pure S rfl) ?_; clear S a; intro a S)
          (refine wpl_v S rfl rfl rfl (sv_pure S rfl) ?_; clear S a; intro a S)
          refine wpList_nil ?_
          (refine hKq25 _ _ ?_; try (clear hKq25 Kq25))
          refine wpc_split S rfl (fun h => ?_) (fun h => ?_)
          · (skip; (try simp only [decide_eq_true_eq, decide_eq_false_iff_not, beq_iff_eq, bne_iff_ne, bne_eq_false_iff_eq, beq_eq_false_iff_ne, ne_eq, Bool.not_eq_true', Bool.not_eq_false', Bool.not_eq_true, Bool.not_eq_false, Bool.not_true, Bool.not_false, Int.ofNat_lt, Int.ofNat_le, Nat.not_lt, Nat.not_le] at h))
            refine wp_region_lit ?_
            (refine wpl_v S rfl rfl rfl (sv_pure S rfl) ?_; clear S a; intro a S)
            refine wpList_nil ?_
            (refine hKq16 _ _ ?_)
            exact ⟨_, S.keep ⟨rfl, rfl, rfl, reg (by first | exact wS_less (by omega) | exact wS_less2 (by omega) (by assumption) | exact wS_gt (by omega) (by first | (rintro ⟨h9, h10⟩; omega) | (rintro ⟨h9, h10⟩; have e2 : Op.bytesLess (bodyS s) (bodyS t) = false := (by assumption); rw [h10] at e2; cases e2) | (rintro ⟨h9, h10⟩; exact absurd h10 (by assumption))) (by assumption) | exact wS_same (by omega) (by first | (rintro ⟨h9, h10⟩; omega) | (rintro ⟨h9, h10⟩; have e2 : Op.bytesLess (bodyS s) (bodyS t) = false := (by assumption); rw [h10] at e2; cases e2) | (rintro ⟨h9, h10⟩; exact absurd h10 (by assumption))) (by assumption)), trivial⟩⟩
          · (skip; (try simp only [decide_eq_true_eq, decide_eq_false_iff_not, beq_iff_eq, bne_iff_ne, bne_eq_false_iff_eq, beq_eq_false_iff_ne, ne_eq, Bool.not_eq_true', Bool.not_eq_false', Bool.not_eq_true, Bool.not_eq_false, Bool.not_true, Bool.not_false, Int.ofNat_lt, Int.ofNat_le, Nat.not_lt, Nat.not_le] at h))
            refine wp_skip ?_
            (refine hKq16 _ _ ?_)
            exact ⟨_, S.keep ⟨rfl, rfl, rfl, reg (by first | exact wS_less (by omega) | exact wS_less2 (by omega) (by assumption) | exact wS_gt (by omega) (by first | (rintro ⟨h9, h10⟩; omega) | (rintro ⟨h9, h10⟩; have e2 : Op.bytesLess (bodyS s) (bodyS t) = false := (by assumption); rw [h10] at e2; cases e2) | (rintro ⟨h9, h10⟩; exact absurd h10 (by assumption))) (by assumption) | exact wS_same (by omega) (by first | (rintro ⟨h9, h10⟩; omega) | (rintro ⟨h9, h10⟩; have e2 : Op.bytesLess (bodyS s) (bodyS t) = false := (by assumption); rw [h10] at e2; cases e2) | (rintro ⟨h9, h10⟩; exact absurd h10 (by assumption))) (by assumption)), trivial⟩⟩
      · (intro h; clear S a; intro a S; (try simp only [decide_eq_true_eq, decide_eq_false_iff_not, beq_iff_eq, bne_iff_ne, bne_eq_false_iff_eq, beq_eq_false_iff_ne, ne_eq, Bool.not_eq_true', Bool.not_eq_false', Bool.not_eq_true, Bool.not_eq_false, Bool.not_true, Bool.not_false, Int.ofNat_lt, Int.ofNat_le, Nat.not_lt, Nat.not_le] at h))
        (refine wpl_skip S rfl rfl rfl rfl rfl ?_; clear S a; intro a S)
        (refine wpl_skip S rfl rfl rfl rfl rfl ?_; clear S a; intro a S)
        (refine wpl_skip S rfl rfl rfl rfl rfl ?_; clear S a; intro a S)
        (refine wpl_skip S rfl rfl rfl rfl rfl ?_; clear S a; intro a S)
        (refine wpl_skip S rfl rfl rfl rfl rfl ?_; clear S a; intro a S)
        (refine wpl_skipU S rfl rfl rfl rfl rfl ?_; clear S a; intro a S)
        (refine wpl_skipU S rfl rfl rfl rfl rfl ?_; clear S a; intro a S)
        (refine wpl_skipU S rfl rfl rfl rfl rfl ?_; clear S a; intro a S)
        (refine wpl_skip S rfl rfl rfl rfl rfl ?_; clear S a; intro a S)
        first | (refine wpl_v S rfl rfl rfl (sv_pure S rfl) ?_; clear S a; intro a S) | (refine wpl_v S rfl rfl rfl (sv_pickB S rfl rfl rfl rfl) ?_; clear S a; intro a S)
        refine wpList_nil ?_
        (refine hKq24 _ _ ?_; try (clear hKq24 Kq24))
        refine wpc_true S rfl ?_
        refine wp_region_lit ?_
        (refine wpl_v S rfl rfl rfl (sv_pure S rfl) ?_; clear S a; intro a S)
        refine wpList_nil ?_
        (refine hKq16 _ _ ?_)
        exact ⟨_, S.keep ⟨rfl, rfl, rfl, reg (by first | exact wS_less (by omega) | exact wS_less2 (by omega) (by assumption) | exact wS_gt (by omega) (by first | (rintro ⟨h9, h10⟩; omega) | (rintro ⟨h9, h10⟩; have e2 : Op.bytesLess (bodyS s) (bodyS t) = false := (by assumption); rw [h10] at e2; cases e2) | (rintro ⟨h9, h10⟩; exact absurd h10 (by assumption))) (by assumption) | exact wS_same (by omega) (by first | (rintro ⟨h9, h10⟩; omega) | (rintro ⟨h9, h10⟩; have e2 : Op.bytesLess (bodyS s) (bodyS t) = false := (by assumption); rw [h10] at e2; cases e2) | (rintro ⟨h9, h10⟩; exact absurd h10 (by assumption))) (by assumption)), trivial⟩⟩)
    (refine wp_seq_k ?_; intro Kq25 hKq25)
    refine wp_region_lit ?_
    (refine wpl_v S rfl rfl rfl (sv_pure S rfl) ?_; clear S a; intro a S)
    (refine wpl_v S rfl rfl rfl (sv_pure S rfl) ?_; clear S a; intro a S)
    (refine wpl_v S rfl rfl rfl (sv_pure S rfl) ?_; clear S a; intro a S)
    refine wpl_guard S rfl rfl rfl rfl rfl ?_ ?_
    · (intro h S'; clear S; have S := S'; clear S'; (try simp only [decide_eq_true_eq, decide_eq_false_iff_not, beq_iff_eq, bne_iff_ne, bne_eq_false_iff_eq, beq_eq_false_iff_ne, ne_eq, Bool.not_eq_true', Bool.not_eq_false', Bool.not_eq_true, Bool.not_eq_false, Bool.not_true, Bool.not_false, Int.ofNat_lt, Int.ofNat_le, Nat.not_lt, Nat.not_le] at h))
      (refine wpl_v S rfl rfl rfl (sv_pure S rfl) ?_; clear S a; intro a S)
      refine wpl_take S rfl rfl rfl ?_
      (refine wpl_v S rfl rfl rfl (sv_pure S rfl) ?_; clear S a; intro a S)
      first | (refine wpl_v S rfl rfl rfl (sv_pure S rfl) ?_; clear S a; intro a S) | (refine wpl_v S rfl rfl rfl (sv_pickB S rfl rfl rfl rfl) ?_; clear S a; intro a S)
      refine wpList_nil ?_
      (refine hKq25 _ _ ?_; try (clear hKq25 Kq25))
      refine wpc_split S rfl (fun h => ?_) (fun h => ?_)
      · (skip; (try simp only [decide_eq_true_eq, decide_eq_false_iff_not, beq_iff_eq, bne_iff_ne, bne_eq_false_iff_eq, beq_eq_false_iff_ne, ne_eq, Bool.not_eq_true', Bool.not_eq_false', Bool.not_eq_true, Bool.not_eq_false, Bool.not_true, Bool.not_false, Int.ofNat_lt, Int.ofNat_le, Nat.not_lt, Nat.not_le] at h))
        (refine wp_seq_k ?_; intro Kq26 hKq26)
        refine wp_region_lit ?_
        (refine wpl_v S rfl rfl rfl (sv_pure S rfl) ?_; clear S a; intro a S)
        (refine wpl_v S rfl rfl rfl (sv_pure S rfl) ?_; clear S a; intro a S)
        ((first | (refine wpl_call0 S rfl rfl rfl rfl rfl rfl cXY rfl ?_) | (refine wpl_call0 S rfl rfl rfl rfl rfl rfl cYZ rfl ?_) | (refine wpl_call0 S rfl rfl rfl rfl rfl rfl cXZ rfl ?_) | (refine wpl_call0 S rfl rfl rfl rfl rfl rfl cYX rfl ?_) | (refine wpl_call0 S rfl rfl rfl rfl rfl rfl (cM (by assumption) (by assumption)) rfl ?_)); clear S a; intro v a w hv S; subst hv)
        (refine wpl_v S rfl rfl rfl (sv_pure S rfl) ?_; clear S a; intro a S)
        (refine wpl_v S rfl rfl rfl (sv_pure S rfl) ?_; clear S a; intro a S)
        (refine wpl_v S rfl rfl rfl (sv_pure S rfl) ?_; clear S a; intro a S)
        (refine wpl_v S rfl rfl rfl (sv_pure S rfl) ?_; clear S a; intro a S)
        (refine wpl_v S rfl rfl rfl (sv_pure S rfl) ?_; clear S a; intro a S)
        refine wpList_nil ?_
        (refine hKq26 _ _ ?_; try (clear hKq26 Kq26))
        (refine wp_seq_k ?_; intro Kq27 hKq27)
        refine wp_region_lit ?_
        (refine wpl_v S rfl rfl rfl (sv_pure S rfl) ?_; clear S a; intro a S)
        (refine wpl_v S rfl rfl rfl (sv_pure S rfl) ?_; clear S a; intro a S)
        (refine wpl_v S rfl rfl rfl (sv_lit (c := false) (sv_pure S rfl) (by simp)) ?_; clear S a; intro a S)
        refine wpList_nil ?_
        (refine hKq27 _ _ ?_; try (clear hKq27 Kq27))
        refine wpc_false S rfl ?_
        refine wp_skip ?_
        (refine hKq12 _ _ ?_)
        exact ⟨_, S.keep ⟨rfl, rfl, rfl, trivial⟩⟩
      · (skip; (try simp only [decide_eq_true_eq, decide_eq_false_iff_not, beq_iff_eq, bne_iff_ne, bne_eq_false_iff_eq, beq_eq_false_iff_ne, ne_eq, Bool.not_eq_true', Bool.not_eq_false', Bool.not_eq_true, Bool.not_eq_false, Bool.not_true, Bool.not_false, Int.ofNat_lt, Int.ofNat_le, Nat.not_lt, Nat.not_le] at h))
        refine wp_skip ?_
        (refine hKq12 _ _ ?_)
        exact ⟨_, S.keep ⟨rfl, rfl, rfl, trivial⟩⟩
    · (intro h; clear S a; intro a S; (try simp only [decide_eq_true_eq, decide_eq_false_iff_not, beq_iff_eq, bne_iff_ne, bne_eq_false_iff_eq, beq_eq_false_iff_ne, ne_eq, Bool.not_eq_true', Bool.not_eq_false', Bool.not_eq_true, Bool.not_eq_false, Bool.not_true, Bool.not_false, Int.ofNat_lt, Int.ofNat_le, Nat.not_lt, Nat.not_le] at h))
      (refine wpl_skip S rfl rfl rfl rfl rfl ?_; clear S a; intro a S)
      first | (refine wpl_v S rfl rfl rfl (sv_pure S rfl) ?_; clear S a; intro a S) | (refine wpl_v S rfl rfl rfl (sv_pickB S rfl rfl rfl rfl) ?_; clear S a; intro a S)
      refine wpList_nil ?_
      (refine hKq25 _ _ ?_; try (clear hKq25 Kq25))
      refine wpc_false S rfl ?_
      refine wp_skip ?_
      (refine hKq12 _ _ ?_)
      exact ⟨_, S.keep ⟨rfl, rfl, rfl, trivial⟩⟩)
  refine wp_region_lit ?_
  (refine wpl_v S rfl rfl rfl (sv_pure S rfl) ?_; clear S a; intro a S)
  (refine wpl_v S rfl rfl rfl (sv_pure S rfl) ?_; clear S a; intro a S)
  (refine wpl_v S rfl rfl rfl (sv_negI S rfl rfl (by omega)) ?_; clear S a; intro a S)
  (refine wpl_v S rfl rfl rfl (sv_lit (c := false) (sv_pure S rfl) (by simp)) ?_; clear S a; intro a S)
  (refine wpl_v S rfl rfl rfl (sv_pure S rfl) ?_; clear S a; intro a S)
  refine wpl_take S rfl rfl rfl ?_
  (refine wpl_v S rfl rfl rfl (sv_pure S rfl) ?_; clear S a; intro a S)
  refine wpl_take S rfl rfl rfl ?_
  (refine wpl_v S rfl rfl rfl (sv_pure S rfl) ?_; clear S a; intro a S)
  refine wpl_take S rfl rfl rfl ?_
  (refine wpl_v S rfl rfl rfl (sv_pure S rfl) ?_; clear S a; intro a S)
  refine wpl_take S rfl rfl rfl ?_
  (refine wpl_v S rfl rfl rfl (sv_pure S rfl) ?_; clear S a; intro a S)
  refine wpl_take S rfl rfl rfl ?_
  (refine wpl_v S rfl rfl rfl (sv_pure S rfl) ?_; clear S a; intro a S)
  refine wpl_take S rfl rfl rfl ?_
  (refine wpl_v S rfl rfl rfl (sv_lit (c := false) (sv_neB S rfl rfl rfl) (by rw [heq]; simp)) ?_; clear S a; intro a S)
  first | (refine wpl_v S rfl rfl rfl (sv_pure S rfl) ?_; clear S a; intro a S) | (refine wpl_v S rfl rfl rfl (sv_pickB S rfl rfl rfl rfl) ?_; clear S a; intro a S)
  (refine wpl_v S rfl rfl rfl (sv_pure S rfl) ?_; clear S a; intro a S)
  refine wpl_take S rfl rfl rfl ?_
  (refine wpl_v S rfl rfl rfl (sv_pure S rfl) ?_; clear S a; intro a S)
  refine wpl_take S rfl rfl rfl ?_
  (refine wpl_v S rfl rfl rfl (sv_pure S rfl) ?_; clear S a; intro a S)
  refine wpl_take S rfl rfl rfl ?_
  (refine wpl_v S rfl rfl rfl (sv_pure S rfl) ?_; clear S a; intro a S)
  refine wpl_guard S rfl rfl rfl rfl rfl ?_ ?_
  · (intro h S'; clear S; have S := S'; clear S'; (try simp only [decide_eq_true_eq, decide_eq_false_iff_not, beq_iff_eq, bne_iff_ne, bne_eq_false_iff_eq, beq_eq_false_iff_ne, ne_eq, Bool.not_eq_true', Bool.not_eq_false', Bool.not_eq_true, Bool.not_eq_false, Bool.not_true, Bool.not_false, Int.ofNat_lt, Int.ofNat_le, Nat.not_lt, Nat.not_le] at h))
    (refine wpl_v S rfl rfl rfl (sv_pure S rfl) ?_; clear S a; intro a S)
    refine wpl_take S rfl rfl rfl ?_
    (refine wpl_v S rfl rfl rfl (sv_pure S rfl) ?_; clear S a; intro a S)
    refine wpl_take S rfl rfl rfl ?_
    first | (refine wpl_v S rfl rfl rfl (sv_pure S rfl) ?_; clear S a; intro a S) | (refine wpl_v S rfl rfl rfl (sv_pickB S rfl rfl rfl rfl) ?_; clear S a; intro a S)
    refine wpl_take S rfl rfl rfl ?_
    (refine wpl_v S rfl rfl rfl (sv_pure S rfl) ?_; clear S a; intro a S)
    refine wpl_guard S rfl rfl rfl rfl rfl ?_ ?_
    · (intro h S'; clear S; have S := S'; clear S'; (try simp only [decide_eq_true_eq, decide_eq_false_iff_not, beq_iff_eq, bne_iff_ne, bne_eq_false_iff_eq, beq_eq_false_iff_ne, ne_eq, Bool.not_eq_true', Bool.not_eq_false', Bool.not_eq_true, Bool.not_eq_false, Bool.not_true, Bool.not_false, Int.ofNat_lt, Int.ofNat_le, Nat.not_lt, Nat.not_le] at h))
      (refine wpl_v S rfl rfl rfl (sv_pure S rfl) ?_; clear S a; intro a S)
      refine wpl_take S rfl rfl rfl ?_
      (refine wpl_v S rfl rfl rfl (sv_lit (c := false) (sv_pure S rfl) (by exact decide_eq_false (by omega))) ?_; clear S a; intro a S)
      refine wpl_take S rfl rfl rfl ?_
      first | (refine wpl_v S rfl rfl rfl (sv_pure S rfl) ?_; clear S a; intro a S) | (refine wpl_v S rfl rfl rfl (sv_pickB S rfl rfl rfl rfl) ?_; clear S a; intro a S)
      first | (refine wpl_v S rfl rfl rfl (sv_pure S rfl) ?_; clear S a; intro a S) | (refine wpl_v S rfl rfl rfl (sv_pickB S rfl rfl rfl rfl) ?_; clear S a; intro a S)
      (refine wpl_v S rfl rfl rfl (sv_pure S rfl) ?_; clear S a; intro a S)
      refine wpl_take S rfl rfl rfl ?_
      (refine wpl_v S rfl rfl rfl (sv_pure S rfl) ?_; clear S a; intro a S)
      refine wpl_take S rfl rfl rfl ?_
      (refine wpl_v S rfl rfl rfl (sv_pure S rfl) ?_; clear S a; intro a S)
      refine wpl_take S rfl rfl rfl ?_
      (refine wpl_v S rfl rfl rfl (sv_pure S rfl) ?_; clear S a; intro a S)
      refine wpl_guard S rfl rfl rfl rfl rfl ?_ ?_
      · (intro h S'; clear S; have S := S'; clear S'; (try simp only [decide_eq_true_eq, decide_eq_false_iff_not, beq_iff_eq, bne_iff_ne, bne_eq_false_iff_eq, beq_eq_false_iff_ne, ne_eq, Bool.not_eq_true', Bool.not_eq_false', Bool.not_eq_true, Bool.not_eq_false, Bool.not_true, Bool.not_false, Int.ofNat_lt, Int.ofNat_le, Nat.not_lt, Nat.not_le] at h))
        (refine wpl_v S rfl rfl rfl (sv_pure S rfl) ?_; clear S a; intro a S)
        refine wpl_take S rfl rfl rfl ?_
        (refine wpl_v S rfl rfl rfl (sv_pure S rfl) ?_; clear S a; intro a S)
        refine wpl_take S rfl rfl rfl ?_
        first | (refine wpl_v S rfl rfl rfl (sv_pure S rfl) ?_; clear S a; intro a S) | (refine wpl_v S rfl rfl rfl (sv_pickB S rfl rfl rfl rfl) ?_; clear S a; intro a S)
        refine wpl_take S rfl rfl rfl ?_
        (refine wpl_v S rfl rfl rfl (sv_pure S rfl) ?_; clear S a; intro a S)
        refine wpl_guard S rfl rfl rfl rfl rfl ?_ ?_
        · (intro h S'; clear S; have S := S'; clear S'; (try simp only [decide_eq_true_eq, decide_eq_false_iff_not, beq_iff_eq, bne_iff_ne, bne_eq_false_iff_eq, beq_eq_false_iff_ne, ne_eq, Bool.not_eq_true', Bool.not_eq_false', Bool.not_eq_true, Bool.not_eq_false, Bool.not_true, Bool.not_false, Int.ofNat_lt, Int.ofNat_le, Nat.not_lt, Nat.not_le] at h))
          (refine wpl_v S rfl rfl rfl (sv_pure S rfl) ?_; clear S a; intro a S)
          refine wpl_take S rfl rfl rfl ?_
          (refine wpl_v S rfl rfl rfl (sv_lit (c := false) (sv_pure S rfl) (by exact decide_eq_false (by omega))) ?_; clear S a; intro a S)
          refine wpl_take S rfl rfl rfl ?_
          first | (refine wpl_v S rfl rfl rfl (sv_pure S rfl) ?_; clear S a; intro a S) | (refine wpl_v S rfl rfl rfl (sv_pickB S rfl rfl rfl rfl) ?_; clear S a; intro a S)
          first | (refine wpl_v S rfl rfl rfl (sv_pure S rfl) ?_; clear S a; intro a S) | (refine wpl_v S rfl rfl rfl (sv_pickB S rfl rfl rfl rfl) ?_; clear S a; intro a S)
          refine wpList_nil ?_
          (refine hKq9 _ _ ?_)
          exact ⟨_, S.keep ⟨rfl, rfl, rfl, rfl, rfl, trivial⟩⟩
        · (intro h; clear S a; intro a S; (try simp only [decide_eq_true_eq, decide_eq_false_iff_not, beq_iff_eq, bne_iff_ne, bne_eq_false_iff_eq, beq_eq_false_iff_ne, ne_eq, Bool.not_eq_true', Bool.not_eq_false', Bool.not_eq_true, Bool.not_eq_false, Bool.not_true, Bool.not_false, Int.ofNat_lt, Int.ofNat_le, Nat.not_lt, Nat.not_le] at h))
          (refine wpl_skip S rfl rfl rfl rfl rfl ?_; clear S a; intro a S)
          refine wpl_take S rfl rfl rfl ?_
          first | (refine wpl_v S rfl rfl rfl (sv_pure S rfl) ?_; clear S a; intro a S) | (refine wpl_v S rfl rfl rfl (sv_pickB S rfl rfl rfl rfl) ?_; clear S a; intro a S)
          first | (refine wpl_v S rfl rfl rfl (sv_pure S rfl) ?_; clear S a; intro a S) | (refine wpl_v S rfl rfl rfl (sv_pickB S rfl rfl rfl rfl) ?_; clear S a; intro a S)
          refine wpList_nil ?_
          (refine hKq9 _ _ ?_)
          exact ⟨_, S.keep ⟨rfl, rfl, rfl, rfl, rfl, trivial⟩⟩
      · (intro h; clear S a; intro a S; (try simp only [decide_eq_true_eq, decide_eq_false_iff_not, beq_iff_eq, bne_iff_ne, bne_eq_false_iff_eq, beq_eq_false_iff_ne, ne_eq, Bool.not_eq_true', Bool.not_eq_false', Bool.not_eq_true, Bool.not_eq_false, Bool.not_true, Bool.not_false, Int.ofNat_lt, Int.ofNat_le, Nat.not_lt, Nat.not_le] at h))
        (refine wpl_skip S rfl rfl rfl rfl rfl ?_; clear S a; intro a S)
        refine wpl_take S rfl rfl rfl ?_
        first | (refine wpl_v S rfl rfl rfl (sv_pure S rfl) ?_; clear S a; intro a S) | (refine wpl_v S rfl rfl rfl (sv_pickB S rfl rfl rfl rfl) ?_; clear S a; intro a S)
        refine wpl_take S rfl rfl rfl ?_
        (refine wpl_v S rfl rfl rfl (sv_pure S rfl) ?_; clear S a; intro a S)
        (refine wpl_skip S rfl rfl rfl rfl rfl ?_; clear S a; intro a S)
        (refine wpl_skip S rfl rfl rfl rfl rfl ?_; clear S a; intro a S)
        refine wpl_take S rfl rfl rfl ?_
        first | (refine wpl_v S rfl rfl rfl (sv_pure S rfl) ?_; clear S a; intro a S) | (refine wpl_v S rfl rfl rfl (sv_pickB S rfl rfl rfl rfl) ?_; clear S a; intro a S)
        first | (refine wpl_v S rfl rfl rfl (sv_pure S rfl) ?_; clear S a; intro a S) | (refine wpl_v S rfl rfl rfl (sv_pickB S rfl rfl rfl rfl) ?_; clear S a; intro a S)
        refine wpList_nil ?_
        (refine hKq9 _ _ ?_)
        exact ⟨_, S.keep ⟨rfl, rfl, rfl, rfl, rfl, trivial⟩⟩
    · (intro h; clear S a; intro a S; (try simp only [decide_eq_true_eq, decide_eq_false_iff_not, beq_iff_eq, bne_iff_ne, bne_eq_false_iff_eq, beq_eq_false_iff_ne, ne_eq, Bool.not_eq_true', Bool.not_eq_false', Bool.not_eq_true, Bool.not_eq_false, Bool.not_true, Bool.not_false, Int.ofNat_lt, Int.ofNat_le, Nat.not_lt, Nat.not_le] at h))
      (refine wpl_skip S rfl rfl rfl rfl rfl ?_; clear S a; intro a S)
      refine wpl_take S rfl rfl rfl ?_
      first | (refine wpl_v S rfl rfl rfl (sv_pure S rfl) ?_; clear S a; intro a S) | (refine wpl_v S rfl rfl rfl (sv_pickB S rfl rfl rfl rfl) ?_; clear S a; intro a S)
      first | (refine wpl_v S rfl rfl rfl (sv_pure S rfl) ?_; clear S a; intro a S) | (refine wpl_v S rfl rfl rfl (sv_pickB S rfl rfl rfl rfl) ?_; clear S a; intro a S)
      (refine wpl_v S rfl rfl rfl (sv_pure S rfl) ?_; clear S a; intro a S)
      refine wpl_take S rfl rfl rfl ?_
      (refine wpl_v S rfl rfl rfl (sv_pure S rfl) ?_; clear S a; intro a S)
      refine wpl_take S rfl rfl rfl ?_
      (refine wpl_v S rfl rfl rfl (sv_pure S rfl) ?_; clear S a; intro a S)
      refine wpl_take S rfl rfl rfl ?_
      (refine wpl_v S rfl rfl rfl (sv_pure S rfl) ?_; clear S a; intro a S)
      refine wpl_guard S rfl rfl rfl rfl rfl ?_ ?_
      · (intro h S'; clear S; have S := S'; clear S'; (try simp only [decide_eq_true_eq, decide_eq_false_iff_not, beq_iff_eq, bne_iff_ne, bne_eq_false_iff_eq, beq_eq_false_iff_ne, ne_eq, Bool.not_eq_true', Bool.not_eq_false', Bool.not_eq_true, Bool.not_eq_false, Bool.not_true, Bool.not_false, Int.ofNat_lt, Int.ofNat_le, Nat.not_lt, Nat.not_le] at h))
        (refine wpl_v S rfl rfl rfl (sv_pure S rfl) ?_; clear S a; intro a S)
        refine wpl_take S rfl rfl rfl ?_
        (refine wpl_v S rfl rfl rfl (sv_pure S rfl) ?_; clear S a; intro a S)
        refine wpl_take S rfl rfl rfl ?_
        first | (refine wpl_v S rfl rfl rfl (sv_pure S rfl) ?_; clear S a; intro a S) | (refine wpl_v S rfl rfl rfl (sv_pickB S rfl rfl rfl rfl) ?_; clear S a; intro a S)
        refine wpl_take S rfl rfl rfl ?_
        (refine wpl_v S rfl rfl rfl (sv_pure S rfl) ?_; clear S a; intro a S)
        refine wpl_guard S rfl rfl rfl rfl rfl ?_ ?_
        · (intro h S'; clear S; have S := S'; clear S'; (try simp only [decide_eq_true_eq, decide_eq_false_iff_not, beq_iff_eq, bne_iff_ne, bne_eq_false_iff_eq, beq_eq_false_iff_ne, ne_eq, Bool.not_eq_true', Bool.not_eq_false', Bool.not_eq_true, Bool.not_eq_false, Bool.not_true, Bool.not_false, Int.ofNat_lt, Int.ofNat_le, Nat.not_lt, Nat.not_le] at h))
          (refine wpl_v S rfl rfl rfl (sv_pure S rfl) ?_; clear S a; intro a S)
          refine wpl_take S rfl rfl rfl ?_
          (refine wpl_v S rfl rfl rfl (sv_lit (c := false) (sv_pure S rfl) (by exact decide_eq_false (by omega))) ?_; clear S a; intro a S)
          refine wpl_take S rfl rfl rfl ?_
          first | (refine wpl_v S rfl rfl rfl (sv_pure S rfl) ?_; clear S a; intro a S) | (refine wpl_v S rfl rfl rfl (sv_pickB S rfl rfl rfl rfl) ?_; clear S a; intro a S)
          first | (refine wpl_v S rfl rfl rfl (sv_pure S rfl) ?_; clear S a; intro a S) | (refine wpl_v S rfl rfl rfl (sv_pickB S rfl rfl rfl rfl) ?_; clear S a; intro a S)
          refine wpList_nil ?_
          (refine hKq9 _ _ ?_)
          exact ⟨_, S.keep ⟨rfl, rfl, rfl, rfl, rfl, trivial⟩⟩
        · (intro h; clear S a; intro a S; (try simp only [decide_eq_true_eq, decide_eq_false_iff_not, beq_iff_eq, bne_iff_ne, bne_eq_false_iff_eq, beq_eq_false_iff_ne, ne_eq, Bool.not_eq_true', Bool.not_eq_false', Bool.not_eq_true, Bool.not_eq_false, Bool.not_true, Bool.not_false, Int.ofNat_lt, Int.ofNat_le, Nat.not_lt, Nat.not_le] at h))
          (refine wpl_skip S rfl rfl rfl rfl rfl ?_; clear S a; intro a S)
          refine wpl_take S rfl rfl rfl ?_
          first | (refine wpl_v S rfl rfl rfl (sv_pure S rfl) ?_; clear S a; intro a S) | (refine wpl_v S rfl rfl rfl (sv_pickB S rfl rfl rfl rfl) ?_; clear S a; intro a S)
          first | (refine wpl_v S rfl rfl rfl (sv_pure S rfl) ?_; clear S a; intro a S) | (refine wpl_v S rfl rfl rfl (sv_pickB S rfl rfl rfl rfl) ?_; clear S a; intro a S)
          refine wpList_nil ?_
          (refine hKq9 _ _ ?_)
          exact ⟨_, S.keep ⟨rfl, rfl, rfl, rfl, rfl, trivial⟩⟩
      · (intro h; clear S a; intro a S; (try simp only [decide_eq_true_eq, decide_eq_false_iff_not, beq_iff_eq, bne_iff_ne, bne_eq_false_iff_eq, beq_eq_false_iff_ne, ne_eq, Bool.not_eq_true', Bool.not_eq_false', Bool.not_eq_true, Bool.not_eq_false, Bool.not_true, Bool.not_false, Int.ofNat_lt, Int.ofNat_le, Nat.not_lt, Nat.not_le] at h))
        (refine wpl_skip S rfl rfl rfl rfl rfl ?_; clear S a; intro a S)
        refine wpl_take S rfl rfl rfl ?_
        first | (refine wpl_v S rfl rfl rfl (sv_pure S rfl) ?_; clear S a; intro a S) | (refine wpl_v S rfl rfl rfl (sv_pickB S rfl rfl rfl rfl) ?_; clear S a; intro a S)
        refine wpl_take S rfl rfl rfl ?_
        (refine wpl_v S rfl rfl rfl (sv_pure S rfl) ?_; clear S a; intro a S)
        (refine wpl_skip S rfl rfl rfl rfl rfl ?_; clear S a; intro a S)
        (refine wpl_skip S rfl rfl rfl rfl rfl ?_; clear S a; intro a S)
        refine wpl_take S rfl rfl rfl ?_
        first | (refine wpl_v S rfl rfl rfl (sv_pure S rfl) ?_; clear S a; intro a S) | (refine wpl_v S rfl rfl rfl (sv_pickB S rfl rfl rfl rfl) ?_; clear S a; intro a S)
        first | (refine wpl_v S rfl rfl rfl (sv_pure S rfl) ?_; clear S a; intro a S) | (refine wpl_v S rfl rfl rfl (sv_pickB S rfl rfl rfl rfl) ?_; clear S a; intro a S)
        refine wpList_nil ?_
        (refine hKq9 _ _ ?_)
        exact ⟨_, S.keep ⟨rfl, rfl, rfl, rfl, rfl, trivial⟩⟩
  · (intro h; clear S a; intro a S; (try simp only [decide_eq_true_eq, decide_eq_false_iff_not, beq_iff_eq, bne_iff_ne, bne_eq_false_iff_eq, beq_eq_false_iff_ne, ne_eq, Bool.not_eq_true', Bool.not_eq_false', Bool.not_eq_true, Bool.not_eq_false, Bool.not_true, Bool.not_false, Int.ofNat_lt, Int.ofNat_le, Nat.not_lt, Nat.not_le] at h))
    (refine wpl_skip S rfl rfl rfl rfl rfl ?_; clear S a; intro a S)
    refine wpl_take S rfl rfl rfl ?_
    first | (refine wpl_v S rfl rfl rfl (sv_pure S rfl) ?_; clear S a; intro a S) | (refine wpl_v S rfl rfl rfl (sv_pickB S rfl rfl rfl rfl) ?_; clear S a; intro a S)
    refine wpl_take S rfl rfl rfl ?_
    (refine wpl_v S rfl rfl rfl (sv_pure S rfl) ?_; clear S a; intro a S)
    (refine wpl_skip S rfl rfl rfl rfl rfl ?_; clear S a; intro a S)
    (refine wpl_skip S rfl rfl rfl rfl rfl ?_; clear S a; intro a S)
    refine wpl_take S rfl rfl rfl ?_
    first | (refine wpl_v S rfl rfl rfl (sv_pure S rfl) ?_; clear S a; intro a S) | (refine wpl_v S rfl rfl rfl (sv_pickB S rfl rfl rfl rfl) ?_; clear S a; intro a S)
    first | (refine wpl_v S rfl rfl rfl (sv_pure S rfl) ?_; clear S a; intro a S) | (refine wpl_v S rfl rfl rfl (sv_pickB S rfl rfl rfl rfl) ?_; clear S a; intro a S)
    (refine wpl_v S rfl rfl rfl (sv_pure S rfl) ?_; clear S a; intro a S)
    refine wpl_take S rfl rfl rfl ?_
    (refine wpl_v S rfl rfl rfl (sv_pure S rfl) ?_; clear S a; intro a S)
    refine wpl_take S rfl rfl rfl ?_
    (refine wpl_v S rfl rfl rfl (sv_pure S rfl) ?_; clear S a; intro a S)
    refine wpl_take S rfl rfl rfl ?_
    (refine wpl_v S rfl rfl rfl (sv_pure S rfl) ?_; clear S a; intro a S)
    refine wpl_guard S rfl rfl rfl rfl rfl ?_ ?_
    · (intro h S'; clear S; have S := S'; clear S'; (try simp only [decide_eq_true_eq, decide_eq_false_iff_not, beq_iff_eq, bne_iff_ne, bne_eq_false_iff_eq, beq_eq_false_iff_ne, ne_eq, Bool.not_eq_true', Bool.not_eq_false', Bool.not_eq_true, Bool.not_eq_false, Bool.not_true, Bool.not_false, Int.ofNat_lt, Int.ofNat_le, Nat.not_lt, Nat.not_le] at h))
      (refine wpl_v S rfl rfl rfl (sv_pure S rfl) ?_; clear S a; intro a S)
      refine wpl_take S rfl rfl rfl ?_
      (refine wpl_v S rfl rfl rfl (sv_pure S rfl) ?_; clear S a; intro a S)
      refine wpl_take S rfl rfl rfl ?_
      first | (refine wpl_v S rfl rfl rfl (sv_pure S rfl) ?_; clear S a; intro a S) | (refine wpl_v S rfl rfl rfl (sv_pickB S rfl rfl rfl rfl) ?_; clear S a; intro a S)
      refine wpl_take S rfl rfl rfl ?_
      (refine wpl_v S rfl rfl rfl (sv_pure S rfl) ?_; clear S a; intro a S)
      refine wpl_guard S rfl rfl rfl rfl rfl ?_ ?_
      · (intro h S'; clear S; have S := S'; clear S'; (try simp only [decide_eq_true_eq, decide_eq_false_iff_not, beq_iff_eq, bne_iff_ne, bne_eq_false_iff_eq, beq_eq_false_iff_ne, ne_eq, Bool.not_eq_true', Bool.not_eq_false', Bool.not_eq_true, Bool.not_eq_false, Bool.not_true, Bool.not_false, Int.ofNat_lt, Int.ofNat_le, Nat.not_lt, Nat.not_le] at h))
        (refine wpl_v S rfl rfl rfl (sv_pure S rfl) ?_; clear S a; intro a S)
        refine wpl_take S rfl rfl rfl ?_
        (refine wpl_v S rfl rfl rfl (sv_lit (c := false) (sv_pure S rfl) (by exact decide_eq_false (by omega))) ?_; clear S a; intro a S)
        refine wpl_take S rfl rfl rfl ?_
        first | (refine wpl_v S rfl rfl rfl (sv_pure S rfl) ?_; clear S a; intro a S) | (refine wpl_v S rfl rfl rfl (sv_pickB S rfl rfl rfl rfl) ?_; clear S a; intro a S)
        first | (refine wpl_v S rfl rfl rfl (sv_pure S rfl) ?_; clear S a; intro a S) | (refine wpl_v S rfl rfl rfl (sv_pickB S rfl rfl rfl rfl) ?_; clear S a; intro a S)
        refine wpList_nil ?_
        (refine hKq9 _ _ ?_)
        exact ⟨_, S.keep ⟨rfl, rfl, rfl, rfl, rfl, trivial⟩⟩
      · (intro h; clear S a; intro a S; (try simp only [decide_eq_true_eq, decide_eq_false_iff_not, beq_iff_eq, bne_iff_ne, bne_eq_false_iff_eq, beq_eq_false_iff_ne, ne_eq, Bool.not_eq_true', Bool.not_eq_false', Bool.not_eq_true, Bool.not_eq_false, Bool.not_true, Bool.not_false, Int.ofNat_lt, Int.ofNat_le, Nat.not_lt, Nat.not_le] at h))
        (refine wpl_skip S rfl rfl rfl rfl rfl ?_; clear S a; intro a S)
        refine wpl_take S rfl rfl rfl ?_
        first | (refine wpl_v S rfl rfl rfl (sv_pure S rfl) ?_; clear S a; intro a S) | (refine wpl_v S rfl rfl rfl (sv_pickB S rfl rfl rfl rfl) ?_; clear S a; intro a S)
        first | (refine wpl_v S rfl rfl rfl (sv_pure S rfl) ?_; clear S a; intro a S) | (refine wpl_v S rfl rfl rfl (sv_pickB S rfl rfl rfl rfl) ?_; clear S a; intro a S)
        refine wpList_nil ?_
        (refine hKq9 _ _ ?_)
        exact ⟨_, S.keep ⟨rfl, rfl, rfl, rfl, rfl, trivial⟩⟩
    · (intro h; clear S a; intro a S; (try simp only [decide_eq_true_eq, decide_eq_false_iff_not, beq_iff_eq, bne_iff_ne, bne_eq_false_iff_eq, beq_eq_false_iff_ne, ne_eq, Bool.not_eq_true', Bool.not_eq_false', Bool.not_eq_true, Bool.not_eq_false, Bool.not_true, Bool.not_false, Int.ofNat_lt, Int.ofNat_le, Nat.not_lt, Nat.not_le] at h))
      (refine wpl_skip S rfl rfl rfl rfl rfl ?_; clear S a; intro a S)
      refine wpl_take S rfl rfl rfl ?_
      first | (refine wpl_v S rfl rfl rfl (sv_pure S rfl) ?_; clear S a; intro a S) | (refine wpl_v S rfl rfl rfl (sv_pickB S rfl rfl rfl rfl) ?_; clear S a; intro a S)
      refine wpl_take S rfl rfl rfl ?_
      (refine wpl_v S rfl rfl rfl (sv_pure S rfl) ?_; clear S a; intro a S)
      (refine wpl_skip S rfl rfl rfl rfl rfl ?_; clear S a; intro a S)
      (refine wpl_skip S rfl rfl rfl rfl rfl ?_; clear S a; intro a S)
      refine wpl_take S rfl rfl rfl ?_
      first | (refine wpl_v S rfl rfl rfl (sv_pure S rfl) ?_; clear S a; intro a S) | (refine wpl_v S rfl rfl rfl (sv_pickB S rfl rfl rfl rfl) ?_; clear S a; intro a S)
      first | (refine wpl_v S rfl rfl rfl (sv_pure S rfl) ?_; clear S a; intro a S) | (refine wpl_v S rfl rfl rfl (sv_pickB S rfl rfl rfl rfl) ?_; clear S a; intro a S)
      refine wpList_nil ?_
      (refine hKq9 _ _ ?_)
      exact ⟨_, S.keep ⟨rfl, rfl, rfl, rfl, rfl, trivial⟩⟩
theorem lawOrder (s t u : List UInt8) (F : Heap) (hT : TabF F) (ha : s.length ≤ 140737488355328) (hb : t.length ≤ 140737488355328) (hc : u.length ≤ 140737488355328) : Ct Tryd.prog 10 [.string (bs s), .string (bs t), .string (bs u)] F [] (fun _ _ r => r = .bool true) := by
  by_cases h1 : checkS s = 0
  · by_cases h2 : checkS t = 0
    · by_cases h3 : checkS u = 0
      · exact orderOk s t u F hT h1 h2 h3
      · exact orderE3 s t u F hT ha hb hc h1 h2 h3
    · exact orderE2 s t u F hT ha hb hc h1 h2
  · exact orderE1 s t u F hT ha hb hc h1
end Go.Proofs.YtmmpbpfdnpgklaaDoor
