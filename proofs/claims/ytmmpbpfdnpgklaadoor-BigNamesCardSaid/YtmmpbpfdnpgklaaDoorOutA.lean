/- The plain laws behind BigRing, BigRest, BigOrder: what the answers are, of numbers. -/
import Derived.Test.YtmmpbpfdnpgklaaDoorLaws
import Derived.Test.YtmmpbpfdnpgklaaDoorWk13
namespace Go.Proofs.YtmmpbpfdnpgklaaDoor
open Go Go.Wk Go.Num
set_option linter.unusedSimpArgs false
set_option linter.unusedVariables false

theorem both_of {s t : List UInt8} (hs : checkS s = 0) (ht : checkS t = 0) : bothE s t = 0 := by unfold bothE; rw [if_pos hs, ht]
theorem do0_eq {s t : List UInt8} (hs : checkS s = 0) (ht : checkS t = 0) : doA 0 s t = showZ (valS s + valS t) := by simp only [doA, ansZ, if_pos (both_of hs ht)]
theorem do1_eq {s t : List UInt8} (hs : checkS s = 0) (ht : checkS t = 0) : doA 1 s t = showZ (valS s - valS t) := by simp only [doA, ansZ, if_pos (both_of hs ht)]
theorem do2_eq {s t : List UInt8} (hs : checkS s = 0) (ht : checkS t = 0) : doA 2 s t = showZ (valS s * valS t) := by simp only [doA, ansZ, if_pos (both_of hs ht)]
theorem divE_of {s t : List UInt8} (hs : checkS s = 0) (ht : checkS t = 0) (h0 : valS t ≠ 0) : divE s t = 0 := by
  unfold divE; rw [if_pos (both_of hs ht), if_neg (fun e => h0 (val_nz.1 e))]
theorem do3_eq {s t : List UInt8} (hs : checkS s = 0) (ht : checkS t = 0) (h0 : valS t ≠ 0) : doA 3 s t = showZ ((valS s).tdiv (valS t)) := by simp only [doA, ansZ, if_pos (divE_of hs ht h0)]
theorem do4_eq {s t : List UInt8} (hs : checkS s = 0) (ht : checkS t = 0) (h0 : valS t ≠ 0) : doA 4 s t = showZ ((valS s).tmod (valS t)) := by simp only [doA, ansZ, if_pos (divE_of hs ht h0)]
theorem ans_of {s t u : List UInt8} {o : Nat} {z : Int} (h : doA o s t = showZ z) (hu : checkS u = 0) (hz : valS u = z) : doA o s t = (u, 0) := by rw [h, ← hz, show_val hu]
theorem showZ_small {z y : Int} {M : Nat} (hM : M = 200) (h : z.natAbs ≤ y.natAbs) (hy : y.natAbs < 10 ^ M) : (showZ z).2 = 0 := (showZ_err z M hM).2 (Nat.lt_of_le_of_lt h hy)
theorem show_pair {z : Int} (h : (showZ z).2 = 0) : showZ z = ((showZ z).1, 0) := by rw [← h]
/-- The stage's theorem: what the answers are. -/
theorem ring_facts {a b c : List UInt8} (ha : checkS a = 0) (hb : checkS b = 0) (hc : checkS c = 0) :
    doA 0 b a = doA 0 a b ∧ doA 2 b a = doA 2 a b ∧
    ((doA 0 a b).2 = 0 → (doA 0 b c).2 = 0 → doA 0 a (doA 0 b c).1 = doA 0 (doA 0 a b).1 c ∧
      ((doA 2 a c).2 = 0 → (doA 2 b c).2 = 0 → doA 0 (doA 2 a c).1 (doA 2 b c).1 = doA 2 (doA 0 a b).1 c)) ∧
    doA 1 a a = ([48], 0) ∧ checkS (negB a).1 = 0 ∧ doA 0 a (negB a).1 = ([48], 0) ∧ (negB (negB a).1).1 = a := by
  have e0 : doA 0 a b = showZ (valS a + valS b) := do0_eq ha hb
  have e1 : doA 0 b c = showZ (valS b + valS c) := do0_eq hb hc
  have e2 : doA 2 a c = showZ (valS a * valS c) := do2_eq ha hc
  have e3 : doA 2 b c = showZ (valS b * valS c) := do2_eq hb hc
  have hn : negB a = showZ (-valS a) := by unfold negB; rw [if_pos ha, ← show_neg ha]
  obtain ⟨hn1, hn2⟩ := show_ok (show_neg ha)
  rw [← hn] at hn1 hn2
  refine ⟨?_, ?_, ?_, ?_, hn1, ?_, ?_⟩
  · rw [e0, do0_eq hb ha, Int.add_comm]
  · rw [do2_eq hb ha, do2_eq ha hb, Int.mul_comm]
  · intro h1 h2
    rw [e0] at h1 ⊢
    rw [e1] at h2 ⊢
    obtain ⟨c1, v1⟩ := show_ok h1
    obtain ⟨c2, v2⟩ := show_ok h2
    refine ⟨?_, fun h3 h4 => ?_⟩
    · rw [do0_eq ha c2, do0_eq c1 hc, v1, v2, Int.add_assoc]
    · rw [e2] at h3 ⊢
      rw [e3] at h4 ⊢
      obtain ⟨c3, v3⟩ := show_ok h3
      obtain ⟨c4, v4⟩ := show_ok h4
      rw [do0_eq c3 c4, do2_eq c1 hc, v1, v3, v4, Int.add_mul]
  · rw [do1_eq ha ha, Int.sub_self]; rfl
  · rw [do0_eq ha hn1, hn2, Int.add_right_neg]; rfl
  · have : negB (negB a).1 = showZ (- valS (negB a).1) := by
      unfold negB at hn1 ⊢
      rw [if_pos ha] at hn1 ⊢
      simp only at hn1 ⊢
      rw [if_pos hn1, ← show_neg hn1]
    rw [this, hn2, Int.neg_neg, show_val ha]
theorem val_body {s : List UInt8} (h : checkS s = 0) : checkS (bodyS s) = 0 ∧ valS (bodyS s) = ((valS s).natAbs : Int) := by
  obtain ⟨h1, h2, h3, h4⟩ := check_parts h
  obtain ⟨e1, e2⟩ := body_pos h1
  refine ⟨?_, ?_⟩
  · unfold checkS
    rw [e1, if_neg (by
      rintro (h9 | ⟨h9, h10⟩)
      · exact h3 h9
      · have h11 := h4 h9
        rw [h11] at h10; exact h10 rfl), if_pos h1, if_neg (by omega)]
  · rw [val_abs]; unfold valS; rw [e1, e2]; rfl
theorem neg_head {s : List UInt8} (h : checkS s = 0) : decide ((s.getD 0 0).toNat = 45) = decide (valS s < 0) := by
  rw [val_neg2 h, neg_iff]
  intro e; subst e; cases h
theorem rest_facts {a b : List UInt8} (ha : checkS a = 0) (hb : checkS b = 0) (h0 : b ≠ [48]) :
    (doA 3 a b).2 = 0 ∧ (doA 4 a b).2 = 0 ∧ checkS (doA 3 a b).1 = 0 ∧ checkS (doA 4 a b).1 = 0 ∧ (doA 2 b (doA 3 a b).1).2 = 0 ∧ doA 0 (doA 2 b (doA 3 a b).1).1 (doA 4 a b).1 = (a, 0) ∧
    ((doA 4 a b).1 ≠ [48] → decide (((doA 4 a b).1.getD 0 0).toNat = 45) = decide ((a.getD 0 0).toNat = 45)) ∧
    bothE (bodyS (doA 4 a b).1) (bodyS b) = 0 ∧ sgn (valS (bodyS (doA 4 a b).1) - valS (bodyS b)) = -1 := by
  have hb0 : valS b ≠ 0 := fun e => h0 ((val_zero hb).1 e)
  have e3 := do3_eq ha hb hb0
  have e4 := do4_eq ha hb hb0
  have hA := val_bound ha 200 rfl
  have hB := val_bound hb 200 rfl
  have hq : (showZ ((valS a).tdiv (valS b))).2 = 0 := showZ_small rfl (by rw [Int.natAbs_tdiv]; exact Nat.div_le_self _ _) hA
  have hr : (showZ ((valS a).tmod (valS b))).2 = 0 := showZ_small rfl (by rw [Int.natAbs_tmod]; exact Nat.mod_le _ _) hA
  obtain ⟨cq, vq⟩ := show_ok hq
  obtain ⟨cr, vr⟩ := show_ok hr
  have hdm := Int.mul_tdiv_add_tmod (valS a) (valS b)
  rw [e3, e4]
  generalize (showZ ((valS a).tdiv (valS b))).1 = q at *
  have hm : (doA 2 b q).2 = 0 := by
    rw [do2_eq hb cq, vq]
    refine showZ_small rfl (y := valS a) ?_ hA
    rw [Int.natAbs_mul, Int.natAbs_tdiv]
    exact Nat.mul_div_le _ _
  have em := do2_eq hb cq
  rw [em] at hm
  obtain ⟨cm, vm⟩ := show_ok hm
  refine ⟨hq, hr, cq, cr, by rw [em]; exact hm, ?_, ?_, ?_, ?_⟩
  · rw [em]
    exact ans_of (do0_eq cm cr) ha (by rw [vm, vq, vr]; exact hdm.symm)
  · intro hne
    rw [neg_head cr, neg_head ha, vr]
    have hnz : (valS a).tmod (valS b) ≠ 0 := fun e => hne ((val_zero cr).1 (by rw [vr]; exact e))
    have h1 := Int.natAbs_tmod (valS a) (valS b)
    by_cases hneg : valS a < 0
    · have : (valS a).tmod (valS b) < 0 := by
        have := tmod_sign (x := valS a) (y := valS b)
        rw [decide_eq_true hneg] at this
        have h2 : toZ (true, (valS a).natAbs % (valS b).natAbs) = -(((valS a).natAbs % (valS b).natAbs : Nat) : Int) := rfl
        rw [h2] at this
        omega
      rw [decide_eq_true this, decide_eq_true hneg]
    · have : ¬ (valS a).tmod (valS b) < 0 := by
        have := tmod_sign (x := valS a) (y := valS b)
        rw [decide_eq_false hneg] at this
        have h2 : toZ (false, (valS a).natAbs % (valS b).natAbs) = (((valS a).natAbs % (valS b).natAbs : Nat) : Int) := rfl
        rw [h2] at this
        omega
      rw [decide_eq_false this, decide_eq_false hneg]
  · exact both_of (val_body cr).1 (val_body hb).1
  · rw [(val_body cr).2, (val_body hb).2, vr, Int.natAbs_tmod]
    have := Nat.mod_lt (valS a).natAbs (y := (valS b).natAbs) (by omega)
    unfold sgn; rw [if_pos (by omega)]
end Go.Proofs.YtmmpbpfdnpgklaaDoor
