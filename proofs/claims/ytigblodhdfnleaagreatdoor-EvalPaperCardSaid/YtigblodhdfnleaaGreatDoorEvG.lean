/- Walks: the map of operators; operators of one. What an expression comes to stays within bounds, in plain Lean. -/
import Derived.Test.YtigblodhdfnleaaGreatDoorEvD
namespace Go.Proofs.YtigblodhdfnleaaGreatDoor
open Go Go.Wk Go.Un Go.De Go.Num
set_option linter.unusedSimpArgs false
set_option linter.unusedVariables false
attribute [local irreducible] Go.wpList Go.Code.wp Go.wpStill Go.Wk.wpPre Go.bodyPost Go.Calls Go.Wk.Ct Go.Wk.OwnS
attribute [local irreducible] Go.Wk.wpG Go.Wk.wpM

theorem showZ_len (z : Int) : (showZ z).1.length ≤ 201 := by
  unfold showZ showS
  split
  · decide
  · split
    · decide
    · rename_i h1 h2
      cases decide (z < 0)
      · simp; omega
      · simp; omega
theorem ansZ_len (e z : Int) : (ansZ e (showZ z)).1.length ≤ 201 := by
  unfold ansZ
  split
  · exact showZ_len z
  · exact Nat.zero_le _
theorem doA_len (k : Nat) (s t : List UInt8) : (doA k s t).1.length ≤ 140737488355328 := by
  have h : (doA k s t).1.length ≤ 201 := by
    unfold doA
    split <;> exact ansZ_len _ _
  omega
set_option maxRecDepth 20000 in
set_option maxHeartbeats 16000000 in
theorem operatorsCt (F : Heap) (hT : TabF F) : Ct Tryz.prog 19 [] F [] (fun F' _ u => ∃ b es, u = .map (some b) ∧ F' b = some (mObj kS es) ∧ OpsM F' es ops2) := by
  refine Ct.enter Tryz.func19 rfl Tryz.ntmps19 rfl fun w0 a S => ?_
  refine wp_sr fun Kq1 hKq1 => ?_
  (refine wpl_p S rfl rfl rfl ?_; clear S a; intro a S)
  (refine wpList_nil (hKq1 _ _ (wp_sr fun Kq2 hKq2 => ?_)); try clear hKq1 Kq1)
  (refine wpl_makeMap kS S rfl rfl rfl rfl ?_; clear S a; intro b1 a w S)
  (refine wpl_callF S rfl rfl rfl rfl rfl rfl (numbersCt _ _ _ rfl rfl) rfl ?_; clear S a; intro v2 F2 a w hv2 hF2 S; obtain ⟨p2, q2, rfl, c2, d2⟩ := hv2)
  (refine wpl_mapIns (enc := kS) S rfl rfl rfl rfl rfl rfl ?_; clear S; intro w S)
  (refine wpl_callF S rfl rfl rfl rfl rfl rfl (numbersCt _ _ _ rfl rfl) rfl ?_; clear S a; intro v3 F3 a w hv3 hF3 S; obtain ⟨p3, q3, rfl, c3, d3⟩ := hv3)
  (refine wpl_mapIns (enc := kS) S rfl rfl rfl rfl rfl rfl ?_; clear S; intro w S)
  (refine wpl_callF S rfl rfl rfl rfl rfl rfl (numbersCt _ _ _ rfl rfl) rfl ?_; clear S a; intro v4 F4 a w hv4 hF4 S; obtain ⟨p4, q4, rfl, c4, d4⟩ := hv4)
  (refine wpl_mapIns (enc := kS) S rfl rfl rfl rfl rfl rfl ?_; clear S; intro w S)
  (refine wpl_callF S rfl rfl rfl rfl rfl rfl (numbersCt _ _ _ rfl rfl) rfl ?_; clear S a; intro v5 F5 a w hv5 hF5 S; obtain ⟨p5, q5, rfl, c5, d5⟩ := hv5)
  (refine wpl_mapIns (enc := kS) S rfl rfl rfl rfl rfl rfl ?_; clear S; intro w S)
  (refine wpl_callF S rfl rfl rfl rfl rfl rfl (numbersCt _ _ _ rfl rfl) rfl ?_; clear S a; intro v6 F6 a w hv6 hF6 S; obtain ⟨p6, q6, rfl, c6, d6⟩ := hv6)
  (refine wpl_mapIns (enc := kS) S rfl rfl rfl rfl rfl rfl ?_; clear S; intro w S)
  (refine wpl_callF S rfl rfl rfl rfl rfl rfl (orderCt _ _ rfl) rfl ?_; clear S a; intro v7 F7 a w hv7 hF7 S; obtain ⟨p7, rfl, c7⟩ := hv7)
  (refine wpl_mapIns (enc := kS) S rfl rfl rfl rfl rfl rfl ?_; clear S; intro w S)
  (refine wpl_callF S rfl rfl rfl rfl rfl rfl (orderCt _ _ rfl) rfl ?_; clear S a; intro v8 F8 a w hv8 hF8 S; obtain ⟨p8, rfl, c8⟩ := hv8)
  (refine wpl_mapIns (enc := kS) S rfl rfl rfl rfl rfl rfl ?_; clear S; intro w S)
  (refine wpl_callF S rfl rfl rfl rfl rfl rfl (orderCt _ _ rfl) rfl ?_; clear S a; intro v9 F9 a w hv9 hF9 S; obtain ⟨p9, rfl, c9⟩ := hv9)
  (refine wpl_mapIns (enc := kS) S rfl rfl rfl rfl rfl rfl ?_; clear S; intro w S)
  (refine wpl_callF S rfl rfl rfl rfl rfl rfl (orderCt _ _ rfl) rfl ?_; clear S a; intro v10 F10 a w hv10 hF10 S; obtain ⟨p10, rfl, c10⟩ := hv10)
  (refine wpl_mapIns (enc := kS) S rfl rfl rfl rfl rfl rfl ?_; clear S; intro w S)
  (refine wpl_callF S rfl rfl rfl rfl rfl rfl (orderCt _ _ rfl) rfl ?_; clear S a; intro v11 F11 a w hv11 hF11 S; obtain ⟨p11, rfl, c11⟩ := hv11)
  (refine wpl_mapIns (enc := kS) S rfl rfl rfl rfl rfl rfl ?_; clear S; intro w S)
  (refine wpl_callF S rfl rfl rfl rfl rfl rfl (orderCt _ _ rfl) rfl ?_; clear S a; intro v12 F12 a w hv12 hF12 S; obtain ⟨p12, rfl, c12⟩ := hv12)
  iterate 2 (refine wpl_mapIns (enc := kS) S rfl rfl rfl rfl rfl rfl ?_; clear S; intro w S)
  iterate 2 (refine wpl_p S rfl rfl rfl ?_; clear S a; intro a S)
  (refine wpList_nil (hKq2 _ _ ?_); try clear hKq2 Kq2)
  refine wp_ret ?_
  (have S' := frz1 S; clear S; obtain ⟨F13, hF13, hb13, S⟩ := S'; have m12 := hF13; have m11 := fun b o h => m12 b o (hF12 b o h); have m10 := fun b o h => m11 b o (hF11 b o h); have m9 := fun b o h => m10 b o (hF10 b o h); have m8 := fun b o h => m9 b o (hF9 b o h); have m7 := fun b o h => m8 b o (hF8 b o h); have m6 := fun b o h => m7 b o (hF7 b o h); have m5 := fun b o h => m6 b o (hF6 b o h); have m4 := fun b o h => m5 b o (hF5 b o h); have m3 := fun b o h => m4 b o (hF4 b o h); have m2 := fun b o h => m3 b o (hF3 b o h); have m1 := fun b o h => m2 b o (hF2 b o h); have h13 := hT.mono m1)
  refine fin_ret S (results1 Tryz.results19 (RV.tmp S rfl)) ?_
  (exact ⟨b1, _, rfl, hb13, rfl, num_op (c2.mono m2) (d2.mono m2) h13 eAddCt (fun F h s t hs ht => baddCt s t F h hs ht) (doA_len _), rfl, num_op (c3.mono m3) (d3.mono m3) h13 eSubCt (fun F h s t hs ht => bsubCt s t F h hs ht) (doA_len _), rfl, num_op (c4.mono m4) (d4.mono m4) h13 eMulCt (fun F h s t hs ht => bmulCt s t F h hs ht) (doA_len _), rfl, num_op (c5.mono m5) (d5.mono m5) h13 eDivCt (fun F h s t hs ht => bdivCt2 s t F h hs ht) (doA_len _), rfl, num_op (c6.mono m6) (d6.mono m6) h13 (fun F x y _ _ => eModCt F x y) (fun F h s t hs ht => bmodCt2 s t F h hs ht) (doA_len _), rfl, ord_op (c7.mono m7) o1Ct, rfl, ord_op (c8.mono m8) o2Ct, rfl, ord_op (c9.mono m9) o3Ct, rfl, ord_op (c10.mono m10) o4Ct, rfl, ord_op (c11.mono m11) o5Ct, rfl, ord_op (c12.mono m12) o6Ct, rfl, cat_op _, trivial⟩)
theorem sub0_cases (n : Int) : (intO 1 0 n = (0 - n, 0) ∧ in64 (0 - n)) ∨ (intO 1 0 n = (0, 80) ∧ ¬ in64 (0 - n)) := by
  have e : intO 1 0 n = if in64 (0 - n) then (0 - n, 0) else (0, 80) := rfl
  by_cases h : in64 (0 - n)
  · exact .inl ⟨by rw [e, if_pos h], h⟩
  · exact .inr ⟨by rw [e, if_neg h], h⟩
theorem fits64 (z : Int) : fitsI z = true ↔ in64 z := by unfold fitsI in64; simp
theorem intA_cases (s : List UInt8) : (intA s = (valS s, 0) ∧ checkS s = 0 ∧ in64 (valS s)) ∨ ((intA s).2 ≠ 0 ∧ ¬ (checkS s = 0 ∧ in64 (valS s))) := by
  unfold intA
  by_cases h : checkS s = 0
  · rw [if_pos h]
    by_cases h2 : fitsI (valS s) = true
    · rw [if_pos h2]; exact .inl ⟨rfl, h, (fits64 _).1 h2⟩
    · rw [if_neg h2]; exact .inr ⟨(by decide), fun h3 => h2 ((fits64 _).2 h3.2)⟩
  · rw [if_neg h]; exact .inr ⟨h, fun h3 => h h3.1⟩
theorem kAnd_yes {p : Prop} [Decidable p] {k m : Nat} (h : p) : ((k : Int) == (m : Int)) = decide (p ∧ k = m) := by
  rw [Bool.eq_iff_iff, beq_iff_eq, decide_eq_true_eq]
  exact ⟨fun e => ⟨h, by omega⟩, fun e => by omega⟩
theorem kAnd_no {p q : Prop} [Decidable p] [Decidable q] (h : ¬ p) : false = decide (p ∧ q) := (decide_eq_false fun e => h e.1).symm
set_option maxHeartbeats 16000000 in
theorem oneCt (F : Heap) (hT : TabF F) (hE : ErrF F) (nm : List UInt8) (x : Vv) (cx : List Value) (gx : GV x) (hx : VaC F cx x.1 x.2) : Ct Tryz.prog 91 [.string (bs nm), .agg ⟨cx⟩] F [] (fun F' _ u => AnsR F' u (op1 nm x)) := by
  obtain ⟨⟨xk, xn, xs⟩, xl⟩ := x
  obtain ⟨⟨ix, lx⟩, -, -⟩ := gx
  obtain ⟨v1, rfl, ⟨a1, c1, rfl, -⟩, -⟩ := hx
  dsimp only at *
  have hsub := eSubCt F 0 xn (by decide) ix
  have hneg := negCt xs F hT (by omega)
  have hint := bintCt xs F hE (by omega)
  have hlen : (negA xs).1.length ≤ 201 := by rw [negA_eq]; exact ansZ_len _ _
  have hlz := showZ_len xn
  have hs0 := sub0_cases xn
  have hi0 := intA_cases xs
  unfold op1 sNot sNeg sLen sBig sInt
  dsimp only
  generalize intO 1 0 xn = p at hsub hs0
  generalize intA xs = q at hint hi0
  generalize negA xs = r at hneg hlen ⊢
  obtain ⟨p1, p2⟩ := p
  obtain ⟨q1, q2⟩ := q
  obtain ⟨r1, r2⟩ := r
  have hs1 : (p2 = 0 ∧ p1 = 0 - xn ∧ in64 (0 - xn)) ∨ (p2 = 80 ∧ ¬ in64 (0 - xn)) := by
    rcases hs0 with ⟨h1, h2⟩ | ⟨h1, h2⟩
    · cases h1; exact .inl ⟨rfl, rfl, h2⟩
    · cases h1; exact .inr ⟨rfl, h2⟩
  have hi1 : (q2 = 0 ∧ q1 = valS xs ∧ checkS xs = 0 ∧ in64 (valS xs)) ∨ (q2 ≠ 0 ∧ ¬ (checkS xs = 0 ∧ in64 (valS xs))) := by
    rcases hi0 with ⟨h1, h2, h3⟩ | ⟨h1, h2⟩
    · cases h1; exact .inl ⟨rfl, rfl, h2, h3⟩
    · exact .inr ⟨h1, h2⟩
  clear hs0 hi0
  dsimp only at *
  refine Ct.enter Tryz.func91 rfl Tryz.ntmps91 rfl fun w0 a S => ?_
  refine wp_sr fun Kq1 hKq1 => ?_
  (refine wpl_box S rfl rfl rfl rfl rfl ?_; clear S a; intro b3 a w S)
  (refine wpl_alloc S rfl rfl rfl rfl ?_; clear S a; intro b4 a w S)
  (refine wpl_p S rfl rfl rfl ?_; clear S a; intro a S)
  (refine wpList_nil (hKq1 _ _ (wp_seq_k fun Kq2 hKq2 => ?_)); try clear hKq1 Kq1)
  refine wp_block ?_
  (refine wp_seq_k ?_; intro Kq3 hKq3)
  replace hKq3 : ∀ (a' : Act) (w' : World), (∃ t : Bool, t = decide (nm = [110, 111, 116] ∧ xk = 1) ∧ St 104 [(0, .string (bs nm)), (3, ptr b3), (4, ptr b4), (5, .int .i64 0), (12, .bool t)] w0 F [] F [[(b4, .cells ⟨[.int .u8 0, .int .i64 0, .string (bs []), .slice none 0 0]⟩ 26 (0, 0))], [(b3, .cells ⟨[.int .u8 (xk : Int), .int .i64 xn, .string (bs xs), .slice a1 xl.len c1]⟩ 26 (0, 0))]] a' w') → Kq3 a' w' := (by
   (intro a w hM; refine hKq3 _ _ ?_; clear hKq3 Kq3; clear S; obtain ⟨t, rfl, S⟩ := hM)
   refine wpc_split S rfl (fun h => ?_) (fun h => ?_)
   · (skip; (try simp only [tq] at h))
     refine wp_sr fun Kq4 hKq4 => ?_
     (refine wpl_f S rfl rfl rfl ?_; clear S a; intro a S)
     (refine wpl_l S rfl rfl rfl ?_; clear S a; intro a S)
     (refine wpl_p S rfl rfl rfl ?_; clear S a; intro a S)
     (refine wpl_call0 S rfl rfl rfl rfl rfl rfl (eTruthCt F _) rfl ?_; clear S a; intro v a w hv S; subst hv)
     (refine wpl_storeO S rfl rfl rfl rfl rfl (by rfl) (by simp [Value.cells, Value.oneCell', splice]) (by rfl) ?_; clear S; intro w S)
     (refine wpl_p S rfl rfl rfl ?_; clear S a; intro a S)
     (refine wpList_nil (hKq4 _ _ ?_); try clear hKq4 Kq4)
     refine wp_ret (fin_ret S (results2 Tryz.results91 (RV.cellO S rfl (by rfl)) (RV.tmp S rfl)) ?_)
     ((conv => arg 3; repeat (first | rw [if_pos (by assumption)] | rw [if_neg (by assumption)])); first | exact ans_no _ _ | (exact ⟨_, rfl, vac_z _ (k := 1) (s := []) (by decide)⟩) | (exact ⟨_, rfl, vac_z _ (k := 2) (s := []) (by decide)⟩) | (exact ⟨_, rfl, vac_z _ (k := 3) (by first | exact Nat.le_trans hlen (by decide) | exact Nat.le_trans hlz (by decide))⟩) | (rcases hs1 with ⟨e1, e2, e3⟩ | ⟨e1, e3⟩ <;> first | omega | (rw [if_neg e3, e1]; exact ans_no _ _) | (rw [if_pos e3, e2]; exact ⟨_, rfl, vac_z _ (k := 2) (s := []) (by decide)⟩)) | (rcases hi1 with ⟨e1, e2, e3⟩ | ⟨e1, e3⟩ <;> first | omega | (rw [if_neg e3]; exact ans_no _ _) | (rw [if_pos e3, e2]; exact ⟨_, rfl, vac_z _ (k := 2) (s := []) (by decide)⟩)) | trace_state)
   (skip; (try simp only [tq] at h))
   (refine wp_seq_k ?_; intro Kq4 hKq4)
   replace hKq4 : ∀ (a' : Act) (w' : World), (∃ t : Bool, t = decide (nm = [110, 101, 103] ∧ xk = 2) ∧ St 104 [(0, .string (bs nm)), (3, ptr b3), (4, ptr b4), (5, .int .i64 0), (24, .bool t)] w0 F [] F [[(b4, .cells ⟨[.int .u8 0, .int .i64 0, .string (bs []), .slice none 0 0]⟩ 26 (0, 0))], [(b3, .cells ⟨[.int .u8 (xk : Int), .int .i64 xn, .string (bs xs), .slice a1 xl.len c1]⟩ 26 (0, 0))]] a' w') → Kq4 a' w' := (by
    (intro a w hM; refine hKq4 _ _ ?_; clear hKq4 Kq4; clear S; obtain ⟨t, rfl, S⟩ := hM)
    refine wpc_split S rfl (fun h => ?_) (fun h => ?_)
    · (skip; (try simp only [tq] at h))
      refine wp_sr fun Kq5 hKq5 => ?_
      (refine wpl_f S rfl rfl rfl ?_; clear S a; intro a S)
      (refine wpl_l S rfl rfl rfl ?_; clear S a; intro a S)
      (refine wpl_call0 S rfl rfl rfl rfl rfl rfl (hsub) rfl ?_; clear S a; intro v a w hv S; subst hv)
      iterate 5 (refine wpl_p S rfl rfl rfl ?_; clear S a; intro a S)
      (refine wpList_nil (hKq5 _ _ (wp_seq_k fun Kq6 hKq6 => ?_)); try clear hKq5 Kq5)
      refine wp_sr fun Kq7 hKq7 => ?_
      iterate 2 (refine wpl_p S rfl rfl rfl ?_; clear S a; intro a S)
      (refine wpList_nil (hKq7 _ _ ?_); try clear hKq7 Kq7)
      refine wpc_split S rfl (fun h => ?_) (fun h => ?_)
      · (skip; (try simp only [tq] at h))
        refine wp_sr fun Kq8 hKq8 => ?_
        (refine wpl_b S rfl rfl rfl ?_; clear S a; intro a S)
        (refine wpl_p S rfl rfl rfl ?_; clear S a; intro a S)
        (refine wpl_storeO S rfl rfl rfl rfl rfl (by rfl) (by simp [Value.cells, Value.oneCell', splice]) (by rfl) ?_; clear S; intro w S)
        (refine wpl_p S rfl rfl rfl ?_; clear S a; intro a S)
        (refine wpList_nil (hKq8 _ _ ?_); try clear hKq8 Kq8)
        refine wp_ret (fin_ret S (results2 Tryz.results91 (RV.cellO S rfl (by rfl)) (RV.tmp S rfl)) ?_)
        ((conv => arg 3; repeat (first | rw [if_pos (by assumption)] | rw [if_neg (by assumption)])); first | exact ans_no _ _ | (exact ⟨_, rfl, vac_z _ (k := 1) (s := []) (by decide)⟩) | (exact ⟨_, rfl, vac_z _ (k := 2) (s := []) (by decide)⟩) | (exact ⟨_, rfl, vac_z _ (k := 3) (by first | exact Nat.le_trans hlen (by decide) | exact Nat.le_trans hlz (by decide))⟩) | (rcases hs1 with ⟨e1, e2, e3⟩ | ⟨e1, e3⟩ <;> first | omega | (rw [if_neg e3, e1]; exact ans_no _ _) | (rw [if_pos e3, e2]; exact ⟨_, rfl, vac_z _ (k := 2) (s := []) (by decide)⟩)) | (rcases hi1 with ⟨e1, e2, e3⟩ | ⟨e1, e3⟩ <;> first | omega | (rw [if_neg e3]; exact ans_no _ _) | (rw [if_pos e3, e2]; exact ⟨_, rfl, vac_z _ (k := 2) (s := []) (by decide)⟩)) | trace_state)
      (skip; (try simp only [tq] at h))
      refine wp_skip ?_
      (refine hKq6 _ _ ?_; try (clear hKq6 Kq6))
      refine wp_sr fun Kq8 hKq8 => ?_
      (refine wpl_p S rfl rfl rfl ?_; clear S a; intro a S)
      (refine wpl_call0 S rfl rfl rfl rfl rfl rfl (eWholeCt F _) rfl ?_; clear S a; intro v a w hv S; subst hv)
      (refine wpl_storeO S rfl rfl rfl rfl rfl (by rfl) (by simp [Value.cells, Value.oneCell', splice]) (by rfl) ?_; clear S; intro w S)
      (refine wpl_p S rfl rfl rfl ?_; clear S a; intro a S)
      (refine wpList_nil (hKq8 _ _ ?_); try clear hKq8 Kq8)
      refine wp_ret (fin_ret S (results2 Tryz.results91 (RV.cellO S rfl (by rfl)) (RV.tmp S rfl)) ?_)
      ((conv => arg 3; repeat (first | rw [if_pos (by assumption)] | rw [if_neg (by assumption)])); first | exact ans_no _ _ | (exact ⟨_, rfl, vac_z _ (k := 1) (s := []) (by decide)⟩) | (exact ⟨_, rfl, vac_z _ (k := 2) (s := []) (by decide)⟩) | (exact ⟨_, rfl, vac_z _ (k := 3) (by first | exact Nat.le_trans hlen (by decide) | exact Nat.le_trans hlz (by decide))⟩) | (rcases hs1 with ⟨e1, e2, e3⟩ | ⟨e1, e3⟩ <;> first | omega | (rw [if_neg e3, e1]; exact ans_no _ _) | (rw [if_pos e3, e2]; exact ⟨_, rfl, vac_z _ (k := 2) (s := []) (by decide)⟩)) | (rcases hi1 with ⟨e1, e2, e3⟩ | ⟨e1, e3⟩ <;> first | omega | (rw [if_neg e3]; exact ans_no _ _) | (rw [if_pos e3, e2]; exact ⟨_, rfl, vac_z _ (k := 2) (s := []) (by decide)⟩)) | trace_state)
    (skip; (try simp only [tq] at h))
    (refine wp_seq_k ?_; intro Kq5 hKq5)
    replace hKq5 : ∀ (a' : Act) (w' : World), (∃ t : Bool, t = decide (nm = [110, 101, 103] ∧ xk = 3) ∧ St 104 [(0, .string (bs nm)), (3, ptr b3), (4, ptr b4), (5, .int .i64 0), (44, .bool t)] w0 F [] F [[(b4, .cells ⟨[.int .u8 0, .int .i64 0, .string (bs []), .slice none 0 0]⟩ 26 (0, 0))], [(b3, .cells ⟨[.int .u8 (xk : Int), .int .i64 xn, .string (bs xs), .slice a1 xl.len c1]⟩ 26 (0, 0))]] a' w') → Kq5 a' w' := (by
     (intro a w hM; refine hKq5 _ _ ?_; clear hKq5 Kq5; clear S; obtain ⟨t, rfl, S⟩ := hM)
     refine wpc_split S rfl (fun h => ?_) (fun h => ?_)
     · (skip; (try simp only [tq] at h))
       refine wp_sr fun Kq6 hKq6 => ?_
       (refine wpl_f S rfl rfl rfl ?_; clear S a; intro a S)
       (refine wpl_l S rfl rfl rfl ?_; clear S a; intro a S)
       (refine wpl_call0 S rfl rfl rfl rfl rfl rfl (hneg) rfl ?_; clear S a; intro v a w hv S; subst hv)
       iterate 5 (refine wpl_p S rfl rfl rfl ?_; clear S a; intro a S)
       (refine wpList_nil (hKq6 _ _ (wp_sr fun Kq7 hKq7 => ?_)); try clear hKq6 Kq6)
       (refine wpl_p S rfl rfl rfl ?_; clear S a; intro a S)
       (refine wpl_b S rfl rfl rfl ?_; clear S a; intro a S)
       (refine wpl_storeO S rfl rfl rfl rfl rfl (by rfl) (by simp [Value.cells, Value.oneCell', splice]) (by rfl) ?_; clear S; intro w S)
       (refine wpl_p S rfl rfl rfl ?_; clear S a; intro a S)
       (refine wpList_nil (hKq7 _ _ ?_); try clear hKq7 Kq7)
       refine wp_ret (fin_ret S (results2 Tryz.results91 (RV.cellO S rfl (by rfl)) (RV.tmp S rfl)) ?_)
       ((conv => arg 3; repeat (first | rw [if_pos (by assumption)] | rw [if_neg (by assumption)])); first | exact ans_no _ _ | (exact ⟨_, rfl, vac_z _ (k := 1) (s := []) (by decide)⟩) | (exact ⟨_, rfl, vac_z _ (k := 2) (s := []) (by decide)⟩) | (exact ⟨_, rfl, vac_z _ (k := 3) (by first | exact Nat.le_trans hlen (by decide) | exact Nat.le_trans hlz (by decide))⟩) | (rcases hs1 with ⟨e1, e2, e3⟩ | ⟨e1, e3⟩ <;> first | omega | (rw [if_neg e3, e1]; exact ans_no _ _) | (rw [if_pos e3, e2]; exact ⟨_, rfl, vac_z _ (k := 2) (s := []) (by decide)⟩)) | (rcases hi1 with ⟨e1, e2, e3⟩ | ⟨e1, e3⟩ <;> first | omega | (rw [if_neg e3]; exact ans_no _ _) | (rw [if_pos e3, e2]; exact ⟨_, rfl, vac_z _ (k := 2) (s := []) (by decide)⟩)) | trace_state)
     (skip; (try simp only [tq] at h))
     (refine wp_seq_k ?_; intro Kq6 hKq6)
     replace hKq6 : ∀ (a' : Act) (w' : World), (∃ t : Bool, t = decide (nm = [108, 101, 110] ∧ xk = 4) ∧ St 104 [(0, .string (bs nm)), (3, ptr b3), (4, ptr b4), (5, .int .i64 0), (60, .bool t)] w0 F [] F [[(b4, .cells ⟨[.int .u8 0, .int .i64 0, .string (bs []), .slice none 0 0]⟩ 26 (0, 0))], [(b3, .cells ⟨[.int .u8 (xk : Int), .int .i64 xn, .string (bs xs), .slice a1 xl.len c1]⟩ 26 (0, 0))]] a' w') → Kq6 a' w' := (by
      (intro a w hM; refine hKq6 _ _ ?_; clear hKq6 Kq6; clear S; obtain ⟨t, rfl, S⟩ := hM)
      refine wpc_split S rfl (fun h => ?_) (fun h => ?_)
      · (skip; (try simp only [tq] at h))
        refine wp_sr fun Kq7 hKq7 => ?_
        (refine wpl_f S rfl rfl rfl ?_; clear S a; intro a S)
        (refine wpl_l S rfl rfl rfl ?_; clear S a; intro a S)
        (refine wpl_s S rfl rfl rfl ?_; clear S a; intro a S)
        (refine wpl_call0 S rfl rfl rfl rfl rfl rfl (eWholeCt F _) rfl ?_; clear S a; intro v a w hv S; subst hv)
        (refine wpl_storeO S rfl rfl rfl rfl rfl (by rfl) (by simp [Value.cells, Value.oneCell', splice]) (by rfl) ?_; clear S; intro w S)
        (refine wpl_p S rfl rfl rfl ?_; clear S a; intro a S)
        (refine wpList_nil (hKq7 _ _ ?_); try clear hKq7 Kq7)
        refine wp_ret (fin_ret S (results2 Tryz.results91 (RV.cellO S rfl (by rfl)) (RV.tmp S rfl)) ?_)
        ((conv => arg 3; repeat (first | rw [if_pos (by assumption)] | rw [if_neg (by assumption)])); first | exact ans_no _ _ | (exact ⟨_, rfl, vac_z _ (k := 1) (s := []) (by decide)⟩) | (exact ⟨_, rfl, vac_z _ (k := 2) (s := []) (by decide)⟩) | (exact ⟨_, rfl, vac_z _ (k := 3) (by first | exact Nat.le_trans hlen (by decide) | exact Nat.le_trans hlz (by decide))⟩) | (rcases hs1 with ⟨e1, e2, e3⟩ | ⟨e1, e3⟩ <;> first | omega | (rw [if_neg e3, e1]; exact ans_no _ _) | (rw [if_pos e3, e2]; exact ⟨_, rfl, vac_z _ (k := 2) (s := []) (by decide)⟩)) | (rcases hi1 with ⟨e1, e2, e3⟩ | ⟨e1, e3⟩ <;> first | omega | (rw [if_neg e3]; exact ans_no _ _) | (rw [if_pos e3, e2]; exact ⟨_, rfl, vac_z _ (k := 2) (s := []) (by decide)⟩)) | trace_state)
      (skip; (try simp only [tq] at h))
      (refine wp_seq_k ?_; intro Kq7 hKq7)
      replace hKq7 : ∀ (a' : Act) (w' : World), (∃ t : Bool, t = decide (nm = [98, 105, 103] ∧ xk = 2) ∧ St 104 [(0, .string (bs nm)), (3, ptr b3), (4, ptr b4), (5, .int .i64 0), (72, .bool t)] w0 F [] F [[(b4, .cells ⟨[.int .u8 0, .int .i64 0, .string (bs []), .slice none 0 0]⟩ 26 (0, 0))], [(b3, .cells ⟨[.int .u8 (xk : Int), .int .i64 xn, .string (bs xs), .slice a1 xl.len c1]⟩ 26 (0, 0))]] a' w') → Kq7 a' w' := (by
       (intro a w hM; refine hKq7 _ _ ?_; clear hKq7 Kq7; clear S; obtain ⟨t, rfl, S⟩ := hM)
       refine wpc_split S rfl (fun h => ?_) (fun h => ?_)
       · (skip; (try simp only [tq] at h))
         refine wp_sr fun Kq8 hKq8 => ?_
         (refine wpl_f S rfl rfl rfl ?_; clear S a; intro a S)
         (refine wpl_l S rfl rfl rfl ?_; clear S a; intro a S)
         (refine wpl_call0 S rfl rfl rfl rfl rfl rfl (bigOfCt xn F hT ix.1 ix.2) rfl ?_; clear S a; intro v a w hv S; subst hv)
         (refine wpl_b S rfl rfl rfl ?_; clear S a; intro a S)
         (refine wpl_storeO S rfl rfl rfl rfl rfl (by rfl) (by simp [Value.cells, Value.oneCell', splice]) (by rfl) ?_; clear S; intro w S)
         (refine wpl_p S rfl rfl rfl ?_; clear S a; intro a S)
         (refine wpList_nil (hKq8 _ _ ?_); try clear hKq8 Kq8)
         refine wp_ret (fin_ret S (results2 Tryz.results91 (RV.cellO S rfl (by rfl)) (RV.tmp S rfl)) ?_)
         ((conv => arg 3; repeat (first | rw [if_pos (by assumption)] | rw [if_neg (by assumption)])); first | exact ans_no _ _ | (exact ⟨_, rfl, vac_z _ (k := 1) (s := []) (by decide)⟩) | (exact ⟨_, rfl, vac_z _ (k := 2) (s := []) (by decide)⟩) | (exact ⟨_, rfl, vac_z _ (k := 3) (by first | exact Nat.le_trans hlen (by decide) | exact Nat.le_trans hlz (by decide))⟩) | (rcases hs1 with ⟨e1, e2, e3⟩ | ⟨e1, e3⟩ <;> first | omega | (rw [if_neg e3, e1]; exact ans_no _ _) | (rw [if_pos e3, e2]; exact ⟨_, rfl, vac_z _ (k := 2) (s := []) (by decide)⟩)) | (rcases hi1 with ⟨e1, e2, e3⟩ | ⟨e1, e3⟩ <;> first | omega | (rw [if_neg e3]; exact ans_no _ _) | (rw [if_pos e3, e2]; exact ⟨_, rfl, vac_z _ (k := 2) (s := []) (by decide)⟩)) | trace_state)
       (skip; (try simp only [tq] at h))
       (refine wp_seq_k ?_; intro Kq8 hKq8)
       replace hKq8 : ∀ (a' : Act) (w' : World), (∃ t : Bool, t = decide (nm = [105, 110, 116] ∧ xk = 3) ∧ St 104 [(0, .string (bs nm)), (3, ptr b3), (4, ptr b4), (5, .int .i64 0), (84, .bool t)] w0 F [] F [[(b4, .cells ⟨[.int .u8 0, .int .i64 0, .string (bs []), .slice none 0 0]⟩ 26 (0, 0))], [(b3, .cells ⟨[.int .u8 (xk : Int), .int .i64 xn, .string (bs xs), .slice a1 xl.len c1]⟩ 26 (0, 0))]] a' w') → Kq8 a' w' := (by
        (intro a w hM; refine hKq8 _ _ ?_; clear hKq8 Kq8; clear S; obtain ⟨t, rfl, S⟩ := hM)
        refine wpc_split S rfl (fun h => ?_) (fun h => ?_)
        · (skip; (try simp only [tq] at h))
          refine wp_sr fun Kq9 hKq9 => ?_
          (refine wpl_f S rfl rfl rfl ?_; clear S a; intro a S)
          (refine wpl_l S rfl rfl rfl ?_; clear S a; intro a S)
          (refine wpl_call0 S rfl rfl rfl rfl rfl rfl (hint) rfl ?_; clear S a; intro v a w hv S; subst hv)
          iterate 5 (refine wpl_p S rfl rfl rfl ?_; clear S a; intro a S)
          (refine wpList_nil (hKq9 _ _ (wp_seq_k fun Kq10 hKq10 => ?_)); try clear hKq9 Kq9)
          refine wp_sr fun Kq11 hKq11 => ?_
          iterate 2 (refine wpl_p S rfl rfl rfl ?_; clear S a; intro a S)
          (refine wpList_nil (hKq11 _ _ ?_); try clear hKq11 Kq11)
          refine wpc_split S rfl (fun h => ?_) (fun h => ?_)
          · (skip; (try simp only [tq] at h))
            refine wp_sr fun Kq12 hKq12 => ?_
            (refine wpl_b S rfl rfl rfl ?_; clear S a; intro a S)
            (refine wpl_storeO S rfl rfl rfl rfl rfl (by rfl) (by simp [Value.cells, Value.oneCell', splice]) (by rfl) ?_; clear S; intro w S)
            (refine wpl_p S rfl rfl rfl ?_; clear S a; intro a S)
            (refine wpList_nil (hKq12 _ _ ?_); try clear hKq12 Kq12)
            refine wp_ret (fin_ret S (results2 Tryz.results91 (RV.cellO S rfl (by rfl)) (RV.tmp S rfl)) ?_)
            ((conv => arg 3; repeat (first | rw [if_pos (by assumption)] | rw [if_neg (by assumption)])); first | exact ans_no _ _ | (exact ⟨_, rfl, vac_z _ (k := 1) (s := []) (by decide)⟩) | (exact ⟨_, rfl, vac_z _ (k := 2) (s := []) (by decide)⟩) | (exact ⟨_, rfl, vac_z _ (k := 3) (by first | exact Nat.le_trans hlen (by decide) | exact Nat.le_trans hlz (by decide))⟩) | (rcases hs1 with ⟨e1, e2, e3⟩ | ⟨e1, e3⟩ <;> first | omega | (rw [if_neg e3, e1]; exact ans_no _ _) | (rw [if_pos e3, e2]; exact ⟨_, rfl, vac_z _ (k := 2) (s := []) (by decide)⟩)) | (rcases hi1 with ⟨e1, e2, e3⟩ | ⟨e1, e3⟩ <;> first | omega | (rw [if_neg e3]; exact ans_no _ _) | (rw [if_pos e3, e2]; exact ⟨_, rfl, vac_z _ (k := 2) (s := []) (by decide)⟩)) | trace_state)
          (skip; (try simp only [tq] at h))
          refine wp_skip ?_
          (refine hKq10 _ _ ?_; try (clear hKq10 Kq10))
          refine wp_sr fun Kq12 hKq12 => ?_
          (refine wpl_p S rfl rfl rfl ?_; clear S a; intro a S)
          (refine wpl_call0 S rfl rfl rfl rfl rfl rfl (eWholeCt F _) rfl ?_; clear S a; intro v a w hv S; subst hv)
          (refine wpl_storeO S rfl rfl rfl rfl rfl (by rfl) (by simp [Value.cells, Value.oneCell', splice]) (by rfl) ?_; clear S; intro w S)
          (refine wpl_p S rfl rfl rfl ?_; clear S a; intro a S)
          (refine wpList_nil (hKq12 _ _ ?_); try clear hKq12 Kq12)
          refine wp_ret (fin_ret S (results2 Tryz.results91 (RV.cellO S rfl (by rfl)) (RV.tmp S rfl)) ?_)
          ((conv => arg 3; repeat (first | rw [if_pos (by assumption)] | rw [if_neg (by assumption)])); first | exact ans_no _ _ | (exact ⟨_, rfl, vac_z _ (k := 1) (s := []) (by decide)⟩) | (exact ⟨_, rfl, vac_z _ (k := 2) (s := []) (by decide)⟩) | (exact ⟨_, rfl, vac_z _ (k := 3) (by first | exact Nat.le_trans hlen (by decide) | exact Nat.le_trans hlz (by decide))⟩) | (rcases hs1 with ⟨e1, e2, e3⟩ | ⟨e1, e3⟩ <;> first | omega | (rw [if_neg e3, e1]; exact ans_no _ _) | (rw [if_pos e3, e2]; exact ⟨_, rfl, vac_z _ (k := 2) (s := []) (by decide)⟩)) | (rcases hi1 with ⟨e1, e2, e3⟩ | ⟨e1, e3⟩ <;> first | omega | (rw [if_neg e3]; exact ans_no _ _) | (rw [if_pos e3, e2]; exact ⟨_, rfl, vac_z _ (k := 2) (s := []) (by decide)⟩)) | trace_state)
        (skip; (try simp only [tq] at h))
        refine wp_skip ?_
        (refine hKq2 _ _ ?_; try (clear hKq2 Kq2))
        refine wp_sr fun Kq9 hKq9 => ?_
        (refine wpl_b S rfl rfl rfl ?_; clear S a; intro a S)
        (refine wpl_storeO S rfl rfl rfl rfl rfl (by rfl) (by simp [Value.cells, Value.oneCell', splice]) (by rfl) ?_; clear S; intro w S)
        (refine wpl_p S rfl rfl rfl ?_; clear S a; intro a S)
        (refine wpList_nil (hKq9 _ _ ?_); try clear hKq9 Kq9)
        refine wp_ret (fin_ret S (results2 Tryz.results91 (RV.cellO S rfl (by rfl)) (RV.tmp S rfl)) ?_)
        ((conv => arg 3; repeat (first | rw [if_pos (by assumption)] | rw [if_neg (by assumption)])); first | exact ans_no _ _ | (exact ⟨_, rfl, vac_z _ (k := 1) (s := []) (by decide)⟩) | (exact ⟨_, rfl, vac_z _ (k := 2) (s := []) (by decide)⟩) | (exact ⟨_, rfl, vac_z _ (k := 3) (by first | exact Nat.le_trans hlen (by decide) | exact Nat.le_trans hlz (by decide))⟩) | (rcases hs1 with ⟨e1, e2, e3⟩ | ⟨e1, e3⟩ <;> first | omega | (rw [if_neg e3, e1]; exact ans_no _ _) | (rw [if_pos e3, e2]; exact ⟨_, rfl, vac_z _ (k := 2) (s := []) (by decide)⟩)) | (rcases hi1 with ⟨e1, e2, e3⟩ | ⟨e1, e3⟩ <;> first | omega | (rw [if_neg e3]; exact ans_no _ _) | (rw [if_pos e3, e2]; exact ⟨_, rfl, vac_z _ (k := 2) (s := []) (by decide)⟩)) | trace_state))
       refine wp_region_lit ?_
       iterate 3 (refine wpl_p S rfl rfl rfl ?_; clear S a; intro a S)
       refine wpl_guard S rfl rfl rfl rfl rfl ?_ ?_
       · (intro h S'; clear S; have S := S'; clear S'; (try simp only [tq] at h))
         (refine wpl_f S rfl rfl rfl ?_; clear S a; intro a S)
         refine wpl_take S rfl rfl rfl ?_
         (refine wpl_l S rfl rfl rfl ?_; clear S a; intro a S)
         refine wpl_take S rfl rfl rfl ?_
         iterate 3 (refine wpl_p S rfl rfl rfl ?_; clear S a; intro a S)
         refine wpList_nil ?_
         (refine hKq8 _ _ ?_)
         (apply Exists.intro; apply And.intro; rotate_left 1; (refine S.keep ?_; repeat (first | exact trivial | refine ⟨rfl, ?_⟩)); first | exact kAnd_yes (m := 3) (by assumption) | exact kAnd_no (by assumption))
       (intro h; clear S a; intro a S; (try simp only [tq] at h))
       iterate 2 (refine wpl_skip S rfl rfl rfl rfl rfl ?_; clear S a; intro a S)
       iterate 2 (refine wpl_p S rfl rfl rfl ?_; clear S a; intro a S)
       refine wpList_nil ?_
       (refine hKq8 _ _ ?_)
       (apply Exists.intro; apply And.intro; rotate_left 1; (refine S.keep ?_; repeat (first | exact trivial | refine ⟨rfl, ?_⟩)); first | exact kAnd_yes (m := 3) (by assumption) | exact kAnd_no (by assumption)))
      refine wp_region_lit ?_
      iterate 3 (refine wpl_p S rfl rfl rfl ?_; clear S a; intro a S)
      refine wpl_guard S rfl rfl rfl rfl rfl ?_ ?_
      · (intro h S'; clear S; have S := S'; clear S'; (try simp only [tq] at h))
        (refine wpl_f S rfl rfl rfl ?_; clear S a; intro a S)
        refine wpl_take S rfl rfl rfl ?_
        (refine wpl_l S rfl rfl rfl ?_; clear S a; intro a S)
        refine wpl_take S rfl rfl rfl ?_
        iterate 3 (refine wpl_p S rfl rfl rfl ?_; clear S a; intro a S)
        refine wpList_nil ?_
        (refine hKq7 _ _ ?_)
        (apply Exists.intro; apply And.intro; rotate_left 1; (refine S.keep ?_; repeat (first | exact trivial | refine ⟨rfl, ?_⟩)); first | exact kAnd_yes (m := 2) (by assumption) | exact kAnd_no (by assumption))
      (intro h; clear S a; intro a S; (try simp only [tq] at h))
      iterate 2 (refine wpl_skip S rfl rfl rfl rfl rfl ?_; clear S a; intro a S)
      iterate 2 (refine wpl_p S rfl rfl rfl ?_; clear S a; intro a S)
      refine wpList_nil ?_
      (refine hKq7 _ _ ?_)
      (apply Exists.intro; apply And.intro; rotate_left 1; (refine S.keep ?_; repeat (first | exact trivial | refine ⟨rfl, ?_⟩)); first | exact kAnd_yes (m := 2) (by assumption) | exact kAnd_no (by assumption)))
     refine wp_region_lit ?_
     iterate 3 (refine wpl_p S rfl rfl rfl ?_; clear S a; intro a S)
     refine wpl_guard S rfl rfl rfl rfl rfl ?_ ?_
     · (intro h S'; clear S; have S := S'; clear S'; (try simp only [tq] at h))
       (refine wpl_f S rfl rfl rfl ?_; clear S a; intro a S)
       refine wpl_take S rfl rfl rfl ?_
       (refine wpl_l S rfl rfl rfl ?_; clear S a; intro a S)
       refine wpl_take S rfl rfl rfl ?_
       iterate 3 (refine wpl_p S rfl rfl rfl ?_; clear S a; intro a S)
       refine wpList_nil ?_
       (refine hKq6 _ _ ?_)
       (apply Exists.intro; apply And.intro; rotate_left 1; (refine S.keep ?_; repeat (first | exact trivial | refine ⟨rfl, ?_⟩)); first | exact kAnd_yes (m := 4) (by assumption) | exact kAnd_no (by assumption))
     (intro h; clear S a; intro a S; (try simp only [tq] at h))
     iterate 2 (refine wpl_skip S rfl rfl rfl rfl rfl ?_; clear S a; intro a S)
     iterate 2 (refine wpl_p S rfl rfl rfl ?_; clear S a; intro a S)
     refine wpList_nil ?_
     (refine hKq6 _ _ ?_)
     (apply Exists.intro; apply And.intro; rotate_left 1; (refine S.keep ?_; repeat (first | exact trivial | refine ⟨rfl, ?_⟩)); first | exact kAnd_yes (m := 4) (by assumption) | exact kAnd_no (by assumption)))
    refine wp_region_lit ?_
    iterate 3 (refine wpl_p S rfl rfl rfl ?_; clear S a; intro a S)
    refine wpl_guard S rfl rfl rfl rfl rfl ?_ ?_
    · (intro h S'; clear S; have S := S'; clear S'; (try simp only [tq] at h))
      (refine wpl_f S rfl rfl rfl ?_; clear S a; intro a S)
      refine wpl_take S rfl rfl rfl ?_
      (refine wpl_l S rfl rfl rfl ?_; clear S a; intro a S)
      refine wpl_take S rfl rfl rfl ?_
      iterate 3 (refine wpl_p S rfl rfl rfl ?_; clear S a; intro a S)
      refine wpList_nil ?_
      (refine hKq5 _ _ ?_)
      (apply Exists.intro; apply And.intro; rotate_left 1; (refine S.keep ?_; repeat (first | exact trivial | refine ⟨rfl, ?_⟩)); first | exact kAnd_yes (m := 3) (by assumption) | exact kAnd_no (by assumption))
    (intro h; clear S a; intro a S; (try simp only [tq] at h))
    iterate 2 (refine wpl_skip S rfl rfl rfl rfl rfl ?_; clear S a; intro a S)
    iterate 2 (refine wpl_p S rfl rfl rfl ?_; clear S a; intro a S)
    refine wpList_nil ?_
    (refine hKq5 _ _ ?_)
    (apply Exists.intro; apply And.intro; rotate_left 1; (refine S.keep ?_; repeat (first | exact trivial | refine ⟨rfl, ?_⟩)); first | exact kAnd_yes (m := 3) (by assumption) | exact kAnd_no (by assumption)))
   refine wp_region_lit ?_
   iterate 3 (refine wpl_p S rfl rfl rfl ?_; clear S a; intro a S)
   refine wpl_guard S rfl rfl rfl rfl rfl ?_ ?_
   · (intro h S'; clear S; have S := S'; clear S'; (try simp only [tq] at h))
     (refine wpl_f S rfl rfl rfl ?_; clear S a; intro a S)
     refine wpl_take S rfl rfl rfl ?_
     (refine wpl_l S rfl rfl rfl ?_; clear S a; intro a S)
     refine wpl_take S rfl rfl rfl ?_
     iterate 3 (refine wpl_p S rfl rfl rfl ?_; clear S a; intro a S)
     refine wpList_nil ?_
     (refine hKq4 _ _ ?_)
     (apply Exists.intro; apply And.intro; rotate_left 1; (refine S.keep ?_; repeat (first | exact trivial | refine ⟨rfl, ?_⟩)); first | exact kAnd_yes (m := 2) (by assumption) | exact kAnd_no (by assumption))
   (intro h; clear S a; intro a S; (try simp only [tq] at h))
   iterate 2 (refine wpl_skip S rfl rfl rfl rfl rfl ?_; clear S a; intro a S)
   iterate 2 (refine wpl_p S rfl rfl rfl ?_; clear S a; intro a S)
   refine wpList_nil ?_
   (refine hKq4 _ _ ?_)
   (apply Exists.intro; apply And.intro; rotate_left 1; (refine S.keep ?_; repeat (first | exact trivial | refine ⟨rfl, ?_⟩)); first | exact kAnd_yes (m := 2) (by assumption) | exact kAnd_no (by assumption)))
  refine wp_region_lit ?_
  iterate 3 (refine wpl_p S rfl rfl rfl ?_; clear S a; intro a S)
  refine wpl_guard S rfl rfl rfl rfl rfl ?_ ?_
  · (intro h S'; clear S; have S := S'; clear S'; (try simp only [tq] at h))
    (refine wpl_f S rfl rfl rfl ?_; clear S a; intro a S)
    refine wpl_take S rfl rfl rfl ?_
    (refine wpl_l S rfl rfl rfl ?_; clear S a; intro a S)
    refine wpl_take S rfl rfl rfl ?_
    iterate 3 (refine wpl_p S rfl rfl rfl ?_; clear S a; intro a S)
    refine wpList_nil ?_
    (refine hKq3 _ _ ?_)
    (apply Exists.intro; apply And.intro; rotate_left 1; (refine S.keep ?_; repeat (first | exact trivial | refine ⟨rfl, ?_⟩)); first | exact kAnd_yes (m := 1) (by assumption) | exact kAnd_no (by assumption))
  (intro h; clear S a; intro a S; (try simp only [tq] at h))
  iterate 2 (refine wpl_skip S rfl rfl rfl rfl rfl ?_; clear S a; intro a S)
  iterate 2 (refine wpl_p S rfl rfl rfl ?_; clear S a; intro a S)
  refine wpList_nil ?_
  (refine hKq3 _ _ ?_)
  (apply Exists.intro; apply And.intro; rotate_left 1; (refine S.keep ?_; repeat (first | exact trivial | refine ⟨rfl, ?_⟩)); first | exact kAnd_yes (m := 1) (by assumption) | exact kAnd_no (by assumption))
end Go.Proofs.YtigblodhdfnleaaGreatDoor
namespace Go.Proofs.YtigblodhdfnleaaGreatDoor
open Go Go.Wk Go.Un Go.De Go.Num
set_option linter.unusedSimpArgs false
set_option linter.unusedVariables false

theorem GVl.get : ∀ {l : Vf} {k : Nat} {x : Vv}, GVl l → l.get? k = some x → (in64 x.1.n ∧ x.1.s.length ≤ 200000) ∧ GVl x.2
  | .cons h L r, 0, x, ⟨h1, h2, _⟩, e => by cases e; exact ⟨h1, h2⟩
  | .cons h L r, k + 1, x, ⟨_, _, h3⟩, e => GVl.get (l := r) h3 e
theorem GV.kid {v x : Vv} {k : Nat} (g : GV v) (e : v.2.get? k = some x) : GV x := by
  obtain ⟨h1, h2⟩ := GVl.get g.2.1 e
  have := Rose.size_get e
  have := g.2.2
  exact ⟨h1, h2, by omega⟩
theorem GV_leaf {k : Nat} {n : Int} {s : List UInt8} (hn : in64 n) (hs : s.length ≤ 200000) : GV (⟨k, n, s⟩, .nil) := ⟨⟨hn, hs⟩, trivial, Nat.zero_le _⟩
theorem GV_z : GV zV := GV_leaf (by decide) (by decide)
theorem GV_bool (b : Bool) : GV (boolV b) := GV_leaf (by cases b <;> decide) (by decide)
theorem tmod64 {a b : Int} (ha : in64 a) : in64 (a.tmod b) := by
  have h1 : (a.tmod b).natAbs ≤ a.natAbs := by rw [Int.natAbs_tmod]; exact Nat.mod_le _ _
  unfold in64 at *
  by_cases h0 : 0 ≤ a
  · have := Int.tmod_nonneg b h0
    omega
  · have h := Int.tmod_nonneg b (show 0 ≤ -a by omega)
    rw [Int.neg_tmod] at h
    omega
theorem intO_in {k : Nat} {a b : Int} (ha : in64 a) (hb : in64 b) : in64 (intO k a b).1 := by
  unfold intO
  repeat' split
  all_goals first | assumption | exact tmod64 ha | (show in64 0; decide)
theorem doA_len2 (k : Nat) (s t : List UInt8) : (doA k s t).1.length ≤ 200000 := by
  have h : (doA k s t).1.length ≤ 201 := by
    unfold doA
    split <;> exact ansZ_len _ _
  omega
theorem numO_GV {k : Nat} {x y : Vv} (gx : GV x) (gy : GV y) : GV (numO k x y).2 := by
  unfold numO
  repeat' split
  all_goals first | exact GV_z | exact GV_leaf (intO_in gx.1.1 gy.1.1) (by show _ ≤ _; decide) | exact GV_leaf (by decide) (doA_len2 _ _ _)
theorem catO_GV {x y : Vv} : GV (catO x y).2 := by
  unfold catO
  split
  · exact GV_z
  · split
    · exact GV_z
    · exact GV_leaf (by decide) (by rw [List.length_append]; omega)
theorem op2_GV {s : List UInt8} {f : Vv → Vv → Ans} (h : op2 s = some f) {x y : Vv} (gx : GV x) (gy : GV y) : GV (f x y).2 := by
  unfold op2 at h
  rw [Option.map_eq_some_iff] at h
  obtain ⟨p, h1, rfl⟩ := h
  have h2 := List.mem_of_find?_eq_some h1
  unfold ops2 at h2
  simp only [List.mem_cons, List.not_mem_nil, or_false] at h2
  rcases h2 with rfl | rfl | rfl | rfl | rfl | rfl | rfl | rfl | rfl | rfl | rfl | rfl
  all_goals first | exact numO_GV gx gy | exact catO_GV | exact GV_bool _
theorem op1_GV {s : List UInt8} {x : Vv} (gx : GV x) : GV (op1 s x).2 := by
  unfold op1
  repeat' split
  all_goals first
    | exact GV_z
    | exact GV_bool _
    | exact GV_leaf (by assumption) (by decide)
    | exact GV_leaf (by decide) (by rw [negA_eq]; exact Nat.le_trans (ansZ_len _ _) (by decide))
    | (have := gx.1.2; exact GV_leaf (by unfold in64; omega) (by decide))
    | exact GV_leaf (by decide) (Nat.le_trans (showZ_len _) (by decide))
    | (rename_i h; exact GV_leaf h.2 (by decide))
theorem nameS_len {s : List UInt8} (h : nameS s = true) : s.length ≤ 32 := by
  unfold nameS at h
  rw [Bool.and_eq_true, decide_eq_true_eq] at h
  exact h.1.2.1
theorem cons_len {nm : List UInt8} {n : Nat} (h : formH ⟨6, 0, nm⟩ n = true) : nm.length ≤ 200000 := by
  unfold formH at h
  rw [if_neg (show ¬ (6 : Nat) = 1 by decide), if_neg (show ¬ (6 : Nat) = 2 by decide), if_neg (show ¬ (6 : Nat) = 3 by decide), if_neg (show ¬ (6 : Nat) = 4 by decide), if_neg (show ¬ (6 : Nat) = 5 by decide), if_pos rfl, Bool.and_eq_true, Bool.and_eq_true] at h
  have h1 := nameS_len h.2.1
  dsimp only at h h1
  by_cases hc : 0 ≤ cutI nm
  · have e1 : cutC nm = true := decide_eq_true hc
    have h2 := h.2.2
    rw [e1] at h2
    simp only [Bool.true_and, Bool.not_true, Bool.false_and, Bool.or_false] at h2
    have h3 := nameS_len h2
    unfold cutA at h1
    unfold cutB at h3
    rw [if_pos hc, List.length_take] at h1
    rw [if_pos hc, List.length_drop] at h3
    omega
  · unfold cutA at h1
    rw [if_neg hc] at h1
    omega
theorem check_form {h : VH} {L : Vf} (hc : checkV h L = 0) : formH h L.len = true := by
  unfold checkV at hc
  split at hc
  · cases hc
  · split at hc
    · cases hc
    · rename_i _ h2
      rw [Bool.not_eq_false, Bool.and_eq_true] at h2
      exact h2.1
theorem wholeO_GV {h : VH} {L : Vf} (hn : h.n = 0) (hs : checkV h L = 0 → h.s.length ≤ 200000) (hL : GVl L) : GV (wholeO h L).2 := by
  unfold wholeO
  split
  · exact GV_z
  · split
    · exact GV_z
    · rename_i h1 h2
      have h3 : checkV h L = 0 := Classical.byContradiction h2
      have h4 : insL L + 1 ≤ 4096 := by omega
      rw [insL_size] at h4
      exact ⟨⟨by show in64 h.n; rw [hn]; decide, hs h3⟩, hL, by show L.size ≤ _; omega⟩
theorem listO_GV : ∀ {l : List Ans}, (∀ a ∈ l, GV a.2) → ∀ x ∈ (listO l).2, GV x
  | [], _, x, hx => by cases hx
  | a :: r, h, x, hx => by
    unfold listO at hx
    split at hx
    · cases hx
    · split at hx
      · cases hx
      · rcases List.mem_cons.1 hx with rfl | hx
        · exact h _ (List.mem_cons_self ..)
        · exact listO_GV (fun a ha => h a (List.mem_cons_of_mem _ ha)) x hx
theorem roseOf_GV : ∀ {l : List Vv}, (∀ x ∈ l, GV x) → GVl (roseOf l)
  | [], _ => trivial
  | x :: r, h => ⟨(h x (List.mem_cons_self ..)).1, (h x (List.mem_cons_self ..)).2.1, roseOf_GV fun y hy => h y (List.mem_cons_of_mem _ hy)⟩
theorem fieldO_GV {cs : List KC} {nm : List UInt8} {v : Vv} (g : GV v) : GV (fieldO cs nm v).2 := by
  unfold fieldO
  repeat' split
  all_goals first | exact GV_z | (rename_i e; exact g.kid e)
theorem nthA_GV : ∀ {l : List Ans} (k : Nat), (∀ a ∈ l, GV a.2) → GV (nthA l k).2
  | [], _, _ => GV_z
  | a :: r, 0, h => h a (List.mem_cons_self ..)
  | a :: r, k + 1, h => nthA_GV (l := r) k fun b hb => h b (List.mem_cons_of_mem _ hb)
def GVB (vs : List Bd) : Prop := ∀ x ∈ vs, GV x.2
def GEl : Ef → Prop
  | .nil => True
  | .cons h L r => (GV (h.v, h.vl) ∧ (L.len ≤ 3000 ∧ h.nm.length ≤ 140737488355328) ∧ GEl L) ∧ GEl r
def GE (h : EH) (L : Ef) : Prop := GV (h.v, h.vl) ∧ (L.len ≤ 3000 ∧ h.nm.length ≤ 140737488355328) ∧ GEl L
theorem GEl.get : ∀ {l : Ef} {k : Nat} {x : EH × Ef}, GEl l → l.get? k = some x → GE x.1 x.2
  | .cons h L r, 0, x, ⟨h1, _⟩, e => by cases e; exact h1
  | .cons h L r, k + 1, x, ⟨_, h3⟩, e => GEl.get (l := r) h3 e
theorem partsO_GV {h : VH} {l : List Ans} (hn : h.n = 0) (hs : ∀ L, checkV h L = 0 → h.s.length ≤ 200000) (hl : ∀ a ∈ l, GV a.2) : GV (partsO h l).2 := by
  unfold partsO
  split
  · exact GV_z
  · exact wholeO_GV hn (hs _) (roseOf_GV (listO_GV hl))
theorem evK_GV {cs : List KC} {vs : List Bd} {h : EH} {l : List Ans} (hv : GV (h.v, h.vl)) (hb : GVB vs) (hl : ∀ a ∈ l, GV a.2) : GV (evK cs vs h l).2 := by
  have hlist := listO_GV hl
  have pull : ∀ {p : Prop} [Decidable p] {a b : Ans}, GV a.2 → GV b.2 → GV (if p then a else b).2 := fun {p} _ {a b} ha hb => by
    by_cases hp : p
    · rw [if_pos hp]; exact ha
    · rw [if_neg hp]; exact hb
  unfold evK
  refine pull hv (pull ?_ (pull (partsO_GV rfl (fun L _ => by decide) hl) (pull ?_ (pull (pull GV_z (fieldO_GV (nthA_GV _ hl))) (pull (pull GV_z (pull (nthA_GV _ hl) (nthA_GV _ hl))) (pull (pull (pull GV_z (GV_bool _)) (pull GV_z (GV_bool _))) (pull GV_z ?_)))))))
  · cases e : findB vs h.nm with
    | none => exact GV_z
    | some x => exact hb _ (List.mem_of_find?_eq_some e)
  · cases e : findC cs h.nm with
    | none => exact GV_z
    | some c => exact pull GV_z (partsO_GV rfl (fun L hc => cons_len (check_form hc)) hl)
  · cases e : (listO l).2 with
    | nil => exact GV_z
    | cons x r =>
      have gx := hlist x (by rw [e]; exact List.mem_cons_self ..)
      cases r with
      | nil => exact op1_GV gx
      | cons y r2 =>
        have gy := hlist y (by rw [e]; exact List.mem_cons_of_mem _ (List.mem_cons_self ..))
        dsimp only
        cases ho : op2 h.nm with
        | none => exact GV_z
        | some f => exact op2_GV ho gx gy
theorem evL_GV {cs : List KC} {vs : List Bd} (hb : GVB vs) : ∀ {L : Ef}, GEl L → ∀ a ∈ evL cs vs L, GV a.2
  | .nil, _, a, ha => by cases ha
  | .cons h L r, ⟨⟨h1, _, h3⟩, h4⟩, a, ha => by
    rcases List.mem_cons.1 ha with rfl | ha
    · exact evK_GV h1 hb (evL_GV hb h3)
    · exact evL_GV hb h4 a ha
theorem evE_GV {cs : List KC} {vs : List Bd} {h : EH} {L : Ef} (hb : GVB vs) (g : GE h L) : GV (evE cs vs h L).2 := evK_GV g.1 hb (evL_GV hb g.2.2)
end Go.Proofs.YtigblodhdfnleaaGreatDoor
