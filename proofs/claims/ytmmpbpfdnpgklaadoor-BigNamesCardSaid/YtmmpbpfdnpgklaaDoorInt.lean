/- The walks of Int of package big and of Int, Whole of the document's answer, and of Of of package big. -/
import Derived.Test.YtmmpbpfdnpgklaaDoorRefH
import Derived.Test.YtmmpbpfdnpgklaaDoorWk13
namespace Go.Proofs.YtmmpbpfdnpgklaaDoor
open Go Go.Wk Go.Num
set_option linter.unusedSimpArgs false
set_option linter.unusedVariables false
attribute [local irreducible] Go.wpList Go.Code.wp Go.wpStill Go.Wk.wpPre Go.bodyPost Go.Calls Go.Wk.Ct Go.Wk.OwnS
attribute [local irreducible] Go.Wk.wpG Go.Wk.wpM

theorem decV_cons (c : UInt8) (r : List UInt8) : decV (c :: r) = dv c * 10 ^ r.length + decV r := by
  have := decV_append [c] r
  rw [List.singleton_append] at this
  rw [this]; congr 1; simp [decV]
theorem parseM (l : List UInt8) : ∀ acc : Nat, l.all isD = true → acc ≤ 18446744073709551615 → Lib.parseUintM (2 ^ 64 - 1) acc l = if acc * 10 ^ l.length + decV l ≤ 18446744073709551615 then .ok (acc * 10 ^ l.length + decV l) else .range := by
  induction l with
  | nil => intro acc _ ha; simp [Lib.parseUintM, decV_nil, ha]
  | cons c r ih =>
    intro acc hall ha
    rw [List.all_cons, Bool.and_eq_true] at hall
    have hc := (isD_iff c).1 hall.1
    have hdv : dv c = c.toNat - 48 := rfl
    have hp : 1 ≤ 10 ^ r.length := Nat.pow_pos (by decide)
    have hge : acc * 10 + dv c ≤ (acc * 10 + dv c) * 10 ^ r.length := Nat.le_mul_of_pos_right _ hp
    have hval : acc * 10 ^ (c :: r).length + decV (c :: r) = (acc * 10 + dv c) * 10 ^ r.length + decV r := by
      rw [decV_cons, List.length_cons, Nat.pow_succ, Nat.add_mul, Nat.mul_assoc, Nat.mul_comm 10, ← Nat.mul_assoc, Nat.add_assoc, Nat.mul_assoc]
    rw [hval]
    unfold Lib.parseUintM
    rw [if_pos hc]
    by_cases h1 : 1844674407370955162 ≤ acc
    · rw [if_pos h1, if_neg (by omega)]
    · rw [if_neg h1, ← hdv]
      by_cases h2 : 2 ^ 64 - 1 < acc * 10 + dv c
      · rw [if_pos h2, if_neg (by omega)]
      · rw [if_neg h2]
        exact ih _ hall.2 (by omega)
def fitsI (z : Int) : Bool := decide (-9223372036854775808 ≤ z) && decide (z ≤ 9223372036854775807)
theorem parse_int {s : List UInt8} (h : checkS s = 0) : Lib.parseIntB 64 s = if fitsI (valS s) = true then .ok (valS s) else .range := by
  obtain ⟨h1, h2, h3, h4⟩ := check_parts h
  have hu : Lib.parseUintB 64 (bodyS s) = if decV (bodyS s) ≤ 18446744073709551615 then .ok (decV (bodyS s)) else .range := by
    unfold Lib.parseUintB
    rw [if_neg h3, parseM _ 0 h1 (by decide)]; simp
  cases s with
  | nil => exact absurd rfl h3
  | cons c r =>
    unfold Lib.parseIntB
    by_cases hc : c = 45
    · subst hc
      have hb : bodyS (45 :: r) = r := (body_neg r).1
      have hn : negS (45 :: r) = true := (body_neg r).2
      rw [hb] at hu
      have hv : valS (45 :: r) = -(decV r : Int) := by unfold valS; rw [hb, hn]; rfl
      rw [hv]
      simp only [show (45 : UInt8).toNat = 45 from rfl, or_true, if_true, hu, not_true, false_and, if_false, true_and]
      unfold fitsI
      by_cases hd : decV r ≤ 18446744073709551615
      · rw [if_pos hd]
        simp only
        by_cases hd2 : 2 ^ (64 - 1) < decV r
        · rw [if_pos hd2, if_neg (by simp; omega)]
        · rw [if_neg hd2, if_pos (by simp; omega)]
      · rw [if_neg hd, if_neg (by simp; omega)]
    · have hb : bodyS (c :: r) = c :: r := by unfold bodyS; rw [if_neg (by simpa using hc)]
      have hn : negS (c :: r) = false := by unfold negS; simpa using hc
      rw [hb] at hu h1
      have hcd := (isD_iff c).1 (by rw [List.all_cons, Bool.and_eq_true] at h1; exact h1.1)
      have hv : valS (c :: r) = (decV (c :: r) : Int) := by unfold valS; rw [hb, hn]; rfl
      rw [hv]
      have e1 : ¬ c.toNat = 43 := by omega
      have e2 : ¬ c.toNat = 45 := by omega
      simp only [e1, e2, or_self, if_false, hu, not_false_eq_true, true_and, false_and]
      unfold fitsI
      by_cases hd : decV (c :: r) ≤ 18446744073709551615
      · rw [if_pos hd]
        simp only
        by_cases hd2 : 2 ^ (64 - 1) ≤ decV (c :: r)
        · rw [if_pos hd2, if_neg (by simp; omega)]
        · rw [if_neg hd2, if_pos (by simp; omega)]
      · rw [if_neg hd, if_neg (by simp; omega)]

/-- The variable ErrRange holds a value. -/
def ErrF (F : Heap) : Prop := ∃ ev, Cel F 1 0 ev ∧ (ev = .nilIface ∨ ∃ te pe, ev = .iface te pe)
theorem ErrF.mono {F F' : Heap} (hF : ∀ b o, F b = some o → F' b = some o) (h : ErrF F) : ErrF F' := by
  obtain ⟨ev, h1, h2⟩ := h; exact ⟨ev, h1.mono hF, h2⟩
theorem parseIntOk (s : List UInt8) (F : Heap) (hck : checkS s = 0) (hf : fitsI (valS s) = true) (hs : s.length ≤ 1000000) : Ct Tryd.prog 41 [.string (bs s), .int .i64 10, .int .i64 64] F [] (fun _ _ u => u = .tuple ⟨[.int .i64 (valS s), .nilIface]⟩) := by
  refine ct_of_below fun w hw => ?_
  refine (Tryd.strconv_ParseInt_10_at64_ok (bs s) (by rw [bs_size]; omega) (valS s) (by rw [show (bs s).data.toList = s from rfl, parse_int hck, if_pos hf]) w).mono fun e w' ⟨h1, h2⟩ => ⟨h1, ?_⟩
  rcases h2 with rfl | ⟨t, rfl⟩
  · exact RowKit.Below.refl _ _
  · exact Lib.bytesWorld_below w _ t
/-- What is not nil. -/
def NotNil (u : Value) : Prop := ∃ t v, u = .iface t v
theorem parseIntRange (s : List UInt8) (F : Heap) (hE : ErrF F) (hck : checkS s = 0) (hf : ¬ fitsI (valS s) = true) (hs : s.length ≤ 1000000) : Ct Tryd.prog 41 [.string (bs s), .int .i64 10, .int .i64 64] F [] (fun _ _ u => ∃ n t v, u = .tuple ⟨[.int .i64 n, .iface t v]⟩) := by
  obtain ⟨ev, hc, hev⟩ := hE
  refine ct_of_below2 fun w hw => ?_
  exact (Tryd.strconv_ParseInt_10_at64_range (bs s) (by rw [bs_size]; omega) (by rw [show (bs s).data.toList = s from rfl, parse_int hck, if_neg hf]) ev w (hw.cel hc) hev).mono fun e w' ⟨N, h1, h2, h3, h4⟩ => ⟨_, h1, ⟨_, _, _, rfl⟩, h4⟩

def intA (s : List UInt8) : Int × Int := if checkS s = 0 then (if fitsI (valS s) = true then (valS s, 0) else (0, 80)) else (0, checkS s)
set_option maxHeartbeats 2000000 in
theorem bintCt (s : List UInt8) (F : Heap) (hE : ErrF F) (hs : s.length ≤ 1000000) : Ct Tryd.prog 14 [.string (bs s)] F [] (fun _ _ u => u = cmpV (intA s)) := by
  by_cases hck : checkS s = 0
  · by_cases hf : fitsI (valS s) = true
    · rw [show intA s = (valS s, 0) from (by unfold intA; rw [if_pos hck, if_pos hf])]
      refine Ct.enter Tryd.func14 rfl Tryd.ntmps14 rfl fun w0 a S => ?_
      (refine wp_seq_k ?_; intro Kq1 hKq1)
      refine wp_region_lit ?_
      (refine wpl_v S rfl rfl rfl (sv_pure S rfl) ?_; clear S a; intro a S)
      (refine wpl_v S rfl rfl rfl (sv_pure S rfl) ?_; clear S a; intro a S)
      refine wpList_nil ?_
      (refine hKq1 _ _ ?_; try (clear hKq1 Kq1))
      (refine wp_seq_k ?_; intro Kq2 hKq2)
      (refine wp_seq_k ?_; intro Kq3 hKq3)
      refine wp_region_lit ?_
      (refine wpl_v S rfl rfl rfl (sv_pure S rfl) ?_; clear S a; intro a S)
      (refine wpl_call0 S rfl rfl rfl rfl rfl rfl (checkCt s F (by omega)) rfl ?_; clear S a; intro v a w hv S; subst hv)
      (refine wpl_v S rfl rfl rfl (sv_pure S rfl) ?_; clear S a; intro a S)
      refine wpList_nil ?_
      (refine hKq3 _ _ ?_; try (clear hKq3 Kq3))
      (refine wp_seq_k ?_; intro Kq4 hKq4)
      refine wp_region_lit ?_
      (refine wpl_v S rfl rfl rfl (sv_pure S rfl) ?_; clear S a; intro a S)
      (refine wpl_v S rfl rfl rfl (sv_pure S rfl) ?_; clear S a; intro a S)
      refine wpList_nil ?_
      (refine hKq4 _ _ ?_; try (clear hKq4 Kq4))
      refine wpc_split S rfl (fun h => ?_) (fun h => ?_)
      · (skip; (try simp only [decide_eq_true_eq, decide_eq_false_iff_not, beq_iff_eq, bne_iff_ne, bne_eq_false_iff_eq, beq_eq_false_iff_ne, ne_eq, Bool.not_eq_true', Bool.not_eq_false', Bool.not_eq_true, Bool.not_eq_false, Bool.not_true, Bool.not_false, Int.ofNat_lt, Int.ofNat_le, Nat.not_lt, Nat.not_le] at h); exact absurd hck h)
      · (skip; (try simp only [decide_eq_true_eq, decide_eq_false_iff_not, beq_iff_eq, bne_iff_ne, bne_eq_false_iff_eq, beq_eq_false_iff_ne, ne_eq, Bool.not_eq_true', Bool.not_eq_false', Bool.not_eq_true, Bool.not_eq_false, Bool.not_true, Bool.not_false, Int.ofNat_lt, Int.ofNat_le, Nat.not_lt, Nat.not_le] at h))
        refine wp_skip ?_
        (refine hKq2 _ _ ?_; try (clear hKq2 Kq2))
        (refine wp_seq_k ?_; intro Kq5 hKq5)
        refine wp_region_lit ?_
        (refine wpl_v S rfl rfl rfl (sv_pure S rfl) ?_; clear S a; intro a S)
        (refine wpl_call0 S rfl rfl rfl rfl rfl rfl (parseIntOk s F hck hf hs) rfl ?_; clear S a; intro v a w hv S; subst hv)
        (refine wpl_v S rfl rfl rfl (sv_pure S rfl) ?_; clear S a; intro a S)
        (refine wpl_v S rfl rfl rfl (sv_pure S rfl) ?_; clear S a; intro a S)
        (refine wpl_v S rfl rfl rfl (sv_pure S rfl) ?_; clear S a; intro a S)
        (refine wpl_v S rfl rfl rfl (sv_pure S rfl) ?_; clear S a; intro a S)
        (refine wpl_v S rfl rfl rfl (sv_pure S rfl) ?_; clear S a; intro a S)
        refine wpList_nil ?_
        (refine hKq5 _ _ ?_; try (clear hKq5 Kq5))
        (refine wp_seq_k ?_; intro Kq6 hKq6)
        (refine wp_seq_k ?_; intro Kq7 hKq7)
        refine wp_region_lit ?_
        (refine wpl_v S rfl rfl rfl (sv_pure S rfl) ?_; clear S a; intro a S)
        (refine wpl_v S rfl rfl rfl (sv_neNil S rfl rfl) ?_; clear S a; intro a S)
        refine wpList_nil ?_
        (refine hKq7 _ _ ?_; try (clear hKq7 Kq7))
        refine wpc_false S rfl ?_
        refine wp_skip ?_
        (refine hKq6 _ _ ?_; try (clear hKq6 Kq6))
        (refine wp_seq_k ?_; intro Kq8 hKq8)
        refine wp_region_lit ?_
        (refine wpl_v S rfl rfl rfl (sv_pure S rfl) ?_; clear S a; intro a S)
        (refine wpl_v S rfl rfl rfl (sv_pure S rfl) ?_; clear S a; intro a S)
        (refine wpl_v S rfl rfl rfl (sv_pure S rfl) ?_; clear S a; intro a S)
        refine wpList_nil ?_
        (refine hKq8 _ _ ?_; try (clear hKq8 Kq8))
        refine wp_ret ?_
        refine fin_ret S (results2 Tryd.results14 (RV.tmp S rfl) (RV.tmp S rfl)) ?_
        rfl
    · rw [show intA s = (0, 80) from (by unfold intA; rw [if_pos hck, if_neg hf])]
      refine Ct.enter Tryd.func14 rfl Tryd.ntmps14 rfl fun w0 a S => ?_
      (refine wp_seq_k ?_; intro Kq1 hKq1)
      refine wp_region_lit ?_
      (refine wpl_v S rfl rfl rfl (sv_pure S rfl) ?_; clear S a; intro a S)
      (refine wpl_v S rfl rfl rfl (sv_pure S rfl) ?_; clear S a; intro a S)
      refine wpList_nil ?_
      (refine hKq1 _ _ ?_; try (clear hKq1 Kq1))
      (refine wp_seq_k ?_; intro Kq2 hKq2)
      (refine wp_seq_k ?_; intro Kq3 hKq3)
      refine wp_region_lit ?_
      (refine wpl_v S rfl rfl rfl (sv_pure S rfl) ?_; clear S a; intro a S)
      (refine wpl_call0 S rfl rfl rfl rfl rfl rfl (checkCt s F (by omega)) rfl ?_; clear S a; intro v a w hv S; subst hv)
      (refine wpl_v S rfl rfl rfl (sv_pure S rfl) ?_; clear S a; intro a S)
      refine wpList_nil ?_
      (refine hKq3 _ _ ?_; try (clear hKq3 Kq3))
      (refine wp_seq_k ?_; intro Kq4 hKq4)
      refine wp_region_lit ?_
      (refine wpl_v S rfl rfl rfl (sv_pure S rfl) ?_; clear S a; intro a S)
      (refine wpl_v S rfl rfl rfl (sv_pure S rfl) ?_; clear S a; intro a S)
      refine wpList_nil ?_
      (refine hKq4 _ _ ?_; try (clear hKq4 Kq4))
      refine wpc_split S rfl (fun h => ?_) (fun h => ?_)
      · (skip; (try simp only [decide_eq_true_eq, decide_eq_false_iff_not, beq_iff_eq, bne_iff_ne, bne_eq_false_iff_eq, beq_eq_false_iff_ne, ne_eq, Bool.not_eq_true', Bool.not_eq_false', Bool.not_eq_true, Bool.not_eq_false, Bool.not_true, Bool.not_false, Int.ofNat_lt, Int.ofNat_le, Nat.not_lt, Nat.not_le] at h); exact absurd hck h)
      · (skip; (try simp only [decide_eq_true_eq, decide_eq_false_iff_not, beq_iff_eq, bne_iff_ne, bne_eq_false_iff_eq, beq_eq_false_iff_ne, ne_eq, Bool.not_eq_true', Bool.not_eq_false', Bool.not_eq_true, Bool.not_eq_false, Bool.not_true, Bool.not_false, Int.ofNat_lt, Int.ofNat_le, Nat.not_lt, Nat.not_le] at h))
        refine wp_skip ?_
        (refine hKq2 _ _ ?_; try (clear hKq2 Kq2))
        (refine wp_seq_k ?_; intro Kq5 hKq5)
        refine wp_region_lit ?_
        (refine wpl_v S rfl rfl rfl (sv_pure S rfl) ?_; clear S a; intro a S)
        (refine wpl_call0 S rfl rfl rfl rfl rfl rfl (parseIntRange s F hE hck hf hs) rfl ?_; clear S a; intro v a w hv S; obtain ⟨pn, pt, pv, rfl⟩ := hv)
        (refine wpl_v S rfl rfl rfl (sv_pure S rfl) ?_; clear S a; intro a S)
        (refine wpl_v S rfl rfl rfl (sv_pure S rfl) ?_; clear S a; intro a S)
        (refine wpl_v S rfl rfl rfl (sv_pure S rfl) ?_; clear S a; intro a S)
        (refine wpl_v S rfl rfl rfl (sv_pure S rfl) ?_; clear S a; intro a S)
        (refine wpl_v S rfl rfl rfl (sv_pure S rfl) ?_; clear S a; intro a S)
        refine wpList_nil ?_
        (refine hKq5 _ _ ?_; try (clear hKq5 Kq5))
        (refine wp_seq_k ?_; intro Kq6 hKq6)
        (refine wp_seq_k ?_; intro Kq7 hKq7)
        refine wp_region_lit ?_
        (refine wpl_v S rfl rfl rfl (sv_pure S rfl) ?_; clear S a; intro a S)
        (refine wpl_v S rfl rfl rfl (sv_neSome S rfl rfl) ?_; clear S a; intro a S)
        refine wpList_nil ?_
        (refine hKq7 _ _ ?_; try (clear hKq7 Kq7))
        refine wpc_true S rfl ?_
        (refine wp_seq_k ?_; intro Kq8 hKq8)
        refine wp_region_lit ?_
        (refine wpl_v S rfl rfl rfl (sv_pure S rfl) ?_; clear S a; intro a S)
        (refine wpl_v S rfl rfl rfl (sv_pure S rfl) ?_; clear S a; intro a S)
        refine wpList_nil ?_
        (refine hKq8 _ _ ?_; try (clear hKq8 Kq8))
        refine wp_ret ?_
        refine fin_ret S (results2 Tryd.results14 (RV.tmp S rfl) (RV.tmp S rfl)) ?_
        rfl
  · rw [show intA s = (0, checkS s) from (by unfold intA; rw [if_neg hck])]
    refine Ct.enter Tryd.func14 rfl Tryd.ntmps14 rfl fun w0 a S => ?_
    (refine wp_seq_k ?_; intro Kq1 hKq1)
    refine wp_region_lit ?_
    (refine wpl_v S rfl rfl rfl (sv_pure S rfl) ?_; clear S a; intro a S)
    (refine wpl_v S rfl rfl rfl (sv_pure S rfl) ?_; clear S a; intro a S)
    refine wpList_nil ?_
    (refine hKq1 _ _ ?_; try (clear hKq1 Kq1))
    (refine wp_seq_k ?_; intro Kq2 hKq2)
    (refine wp_seq_k ?_; intro Kq3 hKq3)
    refine wp_region_lit ?_
    (refine wpl_v S rfl rfl rfl (sv_pure S rfl) ?_; clear S a; intro a S)
    (refine wpl_call0 S rfl rfl rfl rfl rfl rfl (checkCt s F (by omega)) rfl ?_; clear S a; intro v a w hv S; subst hv)
    (refine wpl_v S rfl rfl rfl (sv_pure S rfl) ?_; clear S a; intro a S)
    refine wpList_nil ?_
    (refine hKq3 _ _ ?_; try (clear hKq3 Kq3))
    (refine wp_seq_k ?_; intro Kq4 hKq4)
    refine wp_region_lit ?_
    (refine wpl_v S rfl rfl rfl (sv_pure S rfl) ?_; clear S a; intro a S)
    (refine wpl_v S rfl rfl rfl (sv_pure S rfl) ?_; clear S a; intro a S)
    refine wpList_nil ?_
    (refine hKq4 _ _ ?_; try (clear hKq4 Kq4))
    refine wpc_split S rfl (fun h => ?_) (fun h => ?_)
    · (skip; (try simp only [decide_eq_true_eq, decide_eq_false_iff_not, beq_iff_eq, bne_iff_ne, bne_eq_false_iff_eq, beq_eq_false_iff_ne, ne_eq, Bool.not_eq_true', Bool.not_eq_false', Bool.not_eq_true, Bool.not_eq_false, Bool.not_true, Bool.not_false, Int.ofNat_lt, Int.ofNat_le, Nat.not_lt, Nat.not_le] at h))
      (refine wp_seq_k ?_; intro Kq5 hKq5)
      refine wp_region_lit ?_
      (refine wpl_v S rfl rfl rfl (sv_pure S rfl) ?_; clear S a; intro a S)
      (refine wpl_v S rfl rfl rfl (sv_pure S rfl) ?_; clear S a; intro a S)
      (refine wpl_v S rfl rfl rfl (sv_pure S rfl) ?_; clear S a; intro a S)
      refine wpList_nil ?_
      (refine hKq5 _ _ ?_; try (clear hKq5 Kq5))
      refine wp_ret ?_
      refine fin_ret S (results2 Tryd.results14 (RV.tmp S rfl) (RV.tmp S rfl)) ?_
      rfl
    · (skip; (try simp only [decide_eq_true_eq, decide_eq_false_iff_not, beq_iff_eq, bne_iff_ne, bne_eq_false_iff_eq, beq_eq_false_iff_ne, ne_eq, Bool.not_eq_true', Bool.not_eq_false', Bool.not_eq_true, Bool.not_eq_false, Bool.not_true, Bool.not_false, Int.ofNat_lt, Int.ofNat_le, Nat.not_lt, Nat.not_le] at h); exact absurd h hck)
end Go.Proofs.YtmmpbpfdnpgklaaDoor
