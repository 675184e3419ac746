/- Walks. -/
import Derived.Test.YtgefmjghdijbfaaGreatDoorQ15
import Derived.Test.YtgefmjghdijbfaaGreatDoorQ10
import Derived.Test.YtgefmjghdijbfaaGreatDoorQTy
set_option maxHeartbeats 16000000
set_option maxRecDepth 20000
namespace Go.Proofs.YtgefmjghdijbfaaGreatDoor
open Go Go.Wk Go.Un Go.De Go.Num
set_option linter.unusedSimpArgs false
set_option linter.unusedVariables false
attribute [local irreducible] Go.wpList Go.Code.wp Go.wpStill Go.Wk.wpPre Go.bodyPost Go.Calls Go.Wk.Ct Go.Wk.OwnS Go.Wk.wpG Go.Wk.wpM
theorem showZ_len (z : Int) : (showZ z).1.length ≤ 201 := by
 unfold showZ showS
 split
 ·decide
 ·split
  ·decide
  ·rename_i h1 h2
   cases decide (z < 0)
   ·simp; omega
   ·simp; omega
theorem ansZ_len (e z : Int) : (ansZ e (showZ z)).1.length ≤ 201 := by
 unfold ansZ
 split
 ·exact showZ_len z
 ·exact Nat.zero_le _
theorem doA_len (k : Nat) (s t : List UInt8) : (doA k s t).1.length ≤ 140737488355328 := by
 have h : (doA k s t).1.length ≤ 201 := by
  unfold doA
  split <;> exact ansZ_len _ _
 omega
theorem operatorsCt (F : Heap) (hT : TabF F) : Ct Tryz.prog 28 [] F [] (fun F' _ u => ∃ b es, u = .map (some b) ∧ F' b = some (mObj kS es) ∧ OpsM F' es ops2) := by
 refine Ct.enter Tryz.func28 rfl Tryz.ntmps28 rfl fun w0 a S => ?_
 (revert S a; refine go 5 ?_; intro Z hZ a S)
 (refine wpl_makeMap kS S rfl rfl rfl rfl ?_; clear S a; intro b1 a w S)
 (refine wcF S (numbersCt _ _ _ rfl rfl) ?_; clear S a; intro v2 F2 a w hv2 hF2 S; obtain ⟨p2, q2, rfl, c2, d2⟩ := hv2)
 (refine wpl_mapIns (enc := kS) S rfl rfl rfl rfl rfl rfl ?_; clear S; intro w S)
 (refine wcF S (numbersCt _ _ _ rfl rfl) ?_; clear S a; intro v3 F3 a w hv3 hF3 S; obtain ⟨p3, q3, rfl, c3, d3⟩ := hv3)
 (refine wpl_mapIns (enc := kS) S rfl rfl rfl rfl rfl rfl ?_; clear S; intro w S)
 (refine wcF S (numbersCt _ _ _ rfl rfl) ?_; clear S a; intro v4 F4 a w hv4 hF4 S; obtain ⟨p4, q4, rfl, c4, d4⟩ := hv4)
 (refine wpl_mapIns (enc := kS) S rfl rfl rfl rfl rfl rfl ?_; clear S; intro w S)
 (refine wcF S (numbersCt _ _ _ rfl rfl) ?_; clear S a; intro v5 F5 a w hv5 hF5 S; obtain ⟨p5, q5, rfl, c5, d5⟩ := hv5)
 (refine wpl_mapIns (enc := kS) S rfl rfl rfl rfl rfl rfl ?_; clear S; intro w S)
 (refine wcF S (numbersCt _ _ _ rfl rfl) ?_; clear S a; intro v6 F6 a w hv6 hF6 S; obtain ⟨p6, q6, rfl, c6, d6⟩ := hv6)
 (refine wpl_mapIns (enc := kS) S rfl rfl rfl rfl rfl rfl ?_; clear S; intro w S)
 (refine wcF S (orderCt _ _ rfl) ?_; clear S a; intro v7 F7 a w hv7 hF7 S; obtain ⟨p7, rfl, c7⟩ := hv7)
 (refine wpl_mapIns (enc := kS) S rfl rfl rfl rfl rfl rfl ?_; clear S; intro w S)
 (refine wcF S (orderCt _ _ rfl) ?_; clear S a; intro v8 F8 a w hv8 hF8 S; obtain ⟨p8, rfl, c8⟩ := hv8)
 (refine wpl_mapIns (enc := kS) S rfl rfl rfl rfl rfl rfl ?_; clear S; intro w S)
 (refine wcF S (orderCt _ _ rfl) ?_; clear S a; intro v9 F9 a w hv9 hF9 S; obtain ⟨p9, rfl, c9⟩ := hv9)
 (refine wpl_mapIns (enc := kS) S rfl rfl rfl rfl rfl rfl ?_; clear S; intro w S)
 (refine wcF S (orderCt _ _ rfl) ?_; clear S a; intro v10 F10 a w hv10 hF10 S; obtain ⟨p10, rfl, c10⟩ := hv10)
 (refine wpl_mapIns (enc := kS) S rfl rfl rfl rfl rfl rfl ?_; clear S; intro w S)
 (refine wcF S (orderCt _ _ rfl) ?_; clear S a; intro v11 F11 a w hv11 hF11 S; obtain ⟨p11, rfl, c11⟩ := hv11)
 (refine wpl_mapIns (enc := kS) S rfl rfl rfl rfl rfl rfl ?_; clear S; intro w S)
 (refine wcF S (orderCt _ _ rfl) ?_; clear S a; intro v12 F12 a w hv12 hF12 S; obtain ⟨p12, rfl, c12⟩ := hv12)
 iterate 2 (refine wpl_mapIns (enc := kS) S rfl rfl rfl rfl rfl rfl ?_; clear S; intro w S)
 (revert S a; revert hZ Z; refine go 4 ?_; intro a S)
 refine wp_ret ?_
 (have S' := frz1 S; clear S; obtain ⟨F13, hF13, hb13, S⟩ := S'; have m12 := hF13; have m11 := fun b o h => m12 b o (hF12 b o h); have m10 := fun b o h => m11 b o (hF11 b o h); have m9 := fun b o h => m10 b o (hF10 b o h); have m8 := fun b o h => m9 b o (hF9 b o h); have m7 := fun b o h => m8 b o (hF8 b o h); have m6 := fun b o h => m7 b o (hF7 b o h); have m5 := fun b o h => m6 b o (hF6 b o h); have m4 := fun b o h => m5 b o (hF5 b o h); have m3 := fun b o h => m4 b o (hF4 b o h); have m2 := fun b o h => m3 b o (hF3 b o h); have m1 := fun b o h => m2 b o (hF2 b o h); have h13 := hT.mono m1)
 refine fin_ret S (results1 Tryz.results28 (RV.tmp S rfl)) ?_
 (exact ⟨b1, _, rfl, hb13, rfl, num_op (c2.mono m2) (d2.mono m2) h13 eAddCt (fun F h s t hs ht => baddCt s t F h hs ht) (doA_len _), rfl, num_op (c3.mono m3) (d3.mono m3) h13 eSubCt (fun F h s t hs ht => bsubCt s t F h hs ht) (doA_len _), rfl, num_op (c4.mono m4) (d4.mono m4) h13 eMulCt (fun F h s t hs ht => bmulCt s t F h hs ht) (doA_len _), rfl, num_op (c5.mono m5) (d5.mono m5) h13 eDivCt (fun F h s t hs ht => bdivCt2 s t F h hs ht) (doA_len _), rfl, num_op (c6.mono m6) (d6.mono m6) h13 (fun F x y _ _ => eModCt F x y) (fun F h s t hs ht => bmodCt2 s t F h hs ht) (doA_len _), rfl, ord_op (c7.mono m7) o1Ct, rfl, ord_op (c8.mono m8) o2Ct, rfl, ord_op (c9.mono m9) o3Ct, rfl, ord_op (c10.mono m10) o4Ct, rfl, ord_op (c11.mono m11) o5Ct, rfl, ord_op (c12.mono m12) o6Ct, rfl, cat_op _, trivial⟩)
theorem sub0_cases (n : Int) : (intO 1 0 n = (0 - n, 0) ∧ in64 (0 - n)) ∨ (intO 1 0 n = (0, 80) ∧ ¬ in64 (0 - n)) := by
 have e : intO 1 0 n = if in64 (0 - n) then (0 - n, 0) else (0, 80) := rfl
 by_cases h : in64 (0 - n)
 ·exact .inl ⟨by rw [e, if_pos h], h⟩
 ·exact .inr ⟨by rw [e, if_neg h], h⟩
theorem fits64 (z : Int) : fitsI z = true ↔ in64 z := by unfold fitsI in64; simp
theorem intA_cases (s : List UInt8) : (intA s = (valS s, 0) ∧ checkS s = 0 ∧ in64 (valS s)) ∨ ((intA s).2 ≠ 0 ∧ ¬ (checkS s = 0 ∧ in64 (valS s))) := by
 unfold intA
 by_cases h : checkS s = 0
 ·rw [if_pos h]
  by_cases h2 : fitsI (valS s) = true
  ·rw [if_pos h2]; exact .inl ⟨rfl, h, (fits64 _).1 h2⟩
  ·rw [if_neg h2]; exact .inr ⟨(by decide), fun h3 => h2 ((fits64 _).2 h3.2)⟩
 ·rw [if_neg h]; exact .inr ⟨h, fun h3 => h h3.1⟩
theorem kAnd_yes {p : Prop} [Decidable p] {k m : Nat} (h : p) : ((k : Int) == (m : Int)) = decide (p ∧ k = m) := by
 rw [Bool.eq_iff_iff, beq_iff_eq, decide_eq_true_eq]
 exact ⟨fun e => ⟨h, by omega⟩, fun e => by omega⟩
theorem kAnd_no {p q : Prop} [Decidable p] [Decidable q] (h : ¬ p) : false = decide (p ∧ q) := (decide_eq_false fun e => h e.1).symm
theorem zzEvE0 {p : Prop} (h : p := by ((conv => arg 3; repeat (first | rw [if_pos (by assumption)] | rw [if_neg (by assumption)])); first | exact ans_no _ _ | (exact ⟨_, rfl, vac_z _ (k := 1) (s := []) (by decide)⟩) | (exact ⟨_, rfl, vac_z _ (k := 2) (s := []) (by decide)⟩) | (exact ⟨_, rfl, vac_z _ (k := 3) (by first | exact Nat.le_trans hlen (by decide) | exact Nat.le_trans hlz (by decide))⟩) | (rcases hs1 with ⟨e1, e2, e3⟩ | ⟨e1, e3⟩ <;> first | omega | (rw [if_neg e3, e1]; exact ans_no _ _) | (rw [if_pos e3, e2]; exact ⟨_, rfl, vac_z _ (k := 2) (s := []) (by decide)⟩)) | (rcases hi1 with ⟨e1, e2, e3⟩ | ⟨e1, e3⟩ <;> first | omega | (rw [if_neg e3]; exact ans_no _ _) | (rw [if_pos e3, e2]; exact ⟨_, rfl, vac_z _ (k := 2) (s := []) (by decide)⟩)) | trace_state)) : p := h
theorem zzEvE1 {p : Prop} (h : p := by (apply Exists.intro; apply And.intro; rotate_left 1; (refine S.keep ?_; exact zk); first | exact kAnd_yes (m := 3) (by assumption) | exact kAnd_no (by assumption))) : p := h
theorem zzEvE2 {p : Prop} (h : p := by (apply Exists.intro; apply And.intro; rotate_left 1; (refine S.keep ?_; exact zk); first | exact kAnd_yes (m := 2) (by assumption) | exact kAnd_no (by assumption))) : p := h
theorem zzEvE3 {p : Prop} (h : p := by (apply Exists.intro; apply And.intro; rotate_left 1; (refine S.keep ?_; exact zk); first | exact kAnd_yes (m := 1) (by assumption) | exact kAnd_no (by assumption))) : p := h
theorem oneCt (F : Heap) (hT : TabF F) (hE : ErrF F) (nm : List UInt8) (x : Vv) (cx : List Value) (gx : GV x) (hx : VaC F cx x.1 x.2) : Ct Tryz.prog 131 [.string (bs nm), .agg ⟨cx⟩] F [] (fun F' _ u => AnsR F' u (op1 nm x)) := by
  obtain ⟨⟨xk, xn, xs⟩, xl⟩ := x
  obtain ⟨⟨ix, lx⟩, -, -⟩ := gx
  obtain ⟨v1, rfl, ⟨a1, c1, rfl, -⟩, -⟩ := hx
  dsimp only at *
  have hsub := eSubCt F 0 xn (by decide) ix
  have hneg := negCt xs F hT (by omega)
  have hint := bintCt xs F hE (by omega)
  have hlen : (negA xs).1.length ≤ 201 := by rw [negA_eq]; exact ansZ_len _ _
  have hlz := showZ_len xn
  have hs0 := sub0_cases xn
  have hi0 := intA_cases xs
  unfold op1 sNot sNeg sLen sBig sInt
  dsimp only
  generalize intO 1 0 xn = p at hsub hs0
  generalize intA xs = q at hint hi0
  generalize negA xs = r at hneg hlen ⊢
  obtain ⟨p1, p2⟩ := p
  obtain ⟨q1, q2⟩ := q
  obtain ⟨r1, r2⟩ := r
  have hs1 : (p2 = 0 ∧ p1 = 0 - xn ∧ in64 (0 - xn)) ∨ (p2 = 80 ∧ ¬ in64 (0 - xn)) := by
    rcases hs0 with ⟨h1, h2⟩ | ⟨h1, h2⟩
    · cases h1; exact .inl ⟨rfl, rfl, h2⟩
    · cases h1; exact .inr ⟨rfl, h2⟩
  have hi1 : (q2 = 0 ∧ q1 = valS xs ∧ checkS xs = 0 ∧ in64 (valS xs)) ∨ (q2 ≠ 0 ∧ ¬ (checkS xs = 0 ∧ in64 (valS xs))) := by
    rcases hi0 with ⟨h1, h2, h3⟩ | ⟨h1, h2⟩
    · cases h1; exact .inl ⟨rfl, rfl, h2, h3⟩
    · exact .inr ⟨h1, h2⟩
  clear hs0 hi0
  dsimp only at *
  refine Ct.enter Tryz.func131 rfl Tryz.ntmps131 rfl fun w0 a S => ?_
  refine wp_sr fun Z hZ => ?_
  (refine wbx S ?_; clear S a; intro b3 a w S)
  (refine wpl_alloc S rfl rfl rfl rfl ?_; clear S a; intro b4 a w S)
  (revert S a; revert hZ Z; refine go 5 ?_; intro Z hZ a S)
  (refine wp_seq_k ?_; intro Z hZ)
  replace hZ : ∀ (a' : Act) (w' : World), (∃ t : Bool, t = decide (nm = [110, 111, 116] ∧ xk = 1) ∧ St 104 [(0, .string (bs nm)), (3, ptr b3), (4, ptr b4), (5, .int .i64 0), (12, .bool t)] w0 F [] F [[(b4, .cells ⟨[.int .u8 0, .int .i64 0, .string (bs []), .slice none 0 0]⟩ 33 (0, 0))], [(b3, .cells ⟨[.int .u8 (xk : Int), .int .i64 xn, .string (bs xs), .slice a1 xl.len c1]⟩ 33 (0, 0))]] a' w') → Z a' w' := (by
   (intro a w hM; refine hZ _ _ ?_; clear hZ Z; clear S; obtain ⟨t, rfl, S⟩ := hM)
   refine wpc_sp S rfl ?_ ?_ <;> intro h
   · (revert S a; refine go 4 ?_; intro Z hZ a S)
     (refine wc0 S (eTruthCt F _) ?_; clear S a; intro v a w hv S; subst hv)
     (refine wso S rfl rfl ?_; clear S; intro w S)
     (revert S a; revert hZ Z; refine go 3 ?_; intro a S)
     refine wp_ret (fin_ret S (results2 Tryz.results131 (RV.cellO S rfl (by rfl)) (RV.tmp S rfl)) ?_)
     exact zzEvE0
   (refine wp_seq_k ?_; intro Z hZ)
   replace hZ : ∀ (a' : Act) (w' : World), (∃ t : Bool, t = decide (nm = [110, 101, 103] ∧ xk = 2) ∧ St 104 [(0, .string (bs nm)), (3, ptr b3), (4, ptr b4), (5, .int .i64 0), (24, .bool t)] w0 F [] F [[(b4, .cells ⟨[.int .u8 0, .int .i64 0, .string (bs []), .slice none 0 0]⟩ 33 (0, 0))], [(b3, .cells ⟨[.int .u8 (xk : Int), .int .i64 xn, .string (bs xs), .slice a1 xl.len c1]⟩ 33 (0, 0))]] a' w') → Z a' w' := (by
    (intro a w hM; refine hZ _ _ ?_; clear hZ Z; clear S; obtain ⟨t, rfl, S⟩ := hM)
    refine wpc_sp S rfl ?_ ?_ <;> intro h
    · (revert S a; refine go 3 ?_; intro Z hZ a S)
      (refine wc0 S (hsub) ?_; clear S a; intro v a w hv S; subst hv)
      (revert S a; revert hZ Z; refine go 13 ?_; intro Z hZ a S)
      refine wpc_sp S rfl ?_ ?_ <;> intro h
      · (revert S a; refine go 3 ?_; intro Z hZ a S)
        (refine wso S rfl rfl ?_; clear S; intro w S)
        (revert S a; revert hZ Z; refine go 3 ?_; intro a S)
        refine wp_ret (fin_ret S (results2 Tryz.results131 (RV.cellO S rfl (by rfl)) (RV.tmp S rfl)) ?_)
        exact zzEvE0
      (revert S a; revert hZ Z; refine go 4 ?_; intro Z hZ a S)
      (refine wc0 S (eWholeCt F _) ?_; clear S a; intro v a w hv S; subst hv)
      (refine wso S rfl rfl ?_; clear S; intro w S)
      (revert S a; revert hZ Z; refine go 3 ?_; intro a S)
      refine wp_ret (fin_ret S (results2 Tryz.results131 (RV.cellO S rfl (by rfl)) (RV.tmp S rfl)) ?_)
      exact zzEvE0
    (refine wp_seq_k ?_; intro Z hZ)
    replace hZ : ∀ (a' : Act) (w' : World), (∃ t : Bool, t = decide (nm = [110, 101, 103] ∧ xk = 3) ∧ St 104 [(0, .string (bs nm)), (3, ptr b3), (4, ptr b4), (5, .int .i64 0), (44, .bool t)] w0 F [] F [[(b4, .cells ⟨[.int .u8 0, .int .i64 0, .string (bs []), .slice none 0 0]⟩ 33 (0, 0))], [(b3, .cells ⟨[.int .u8 (xk : Int), .int .i64 xn, .string (bs xs), .slice a1 xl.len c1]⟩ 33 (0, 0))]] a' w') → Z a' w' := (by
     (intro a w hM; refine hZ _ _ ?_; clear hZ Z; clear S; obtain ⟨t, rfl, S⟩ := hM)
     refine wpc_sp S rfl ?_ ?_ <;> intro h
     · (revert S a; refine go 3 ?_; intro Z hZ a S)
       (refine wc0 S (hneg) ?_; clear S a; intro v a w hv S; subst hv)
       (revert S a; revert hZ Z; refine go 10 ?_; intro Z hZ a S)
       (refine wso S rfl rfl ?_; clear S; intro w S)
       (revert S a; revert hZ Z; refine go 3 ?_; intro a S)
       refine wp_ret (fin_ret S (results2 Tryz.results131 (RV.cellO S rfl (by rfl)) (RV.tmp S rfl)) ?_)
       exact zzEvE0
     (refine wp_seq_k ?_; intro Z hZ)
     replace hZ : ∀ (a' : Act) (w' : World), (∃ t : Bool, t = decide (nm = [108, 101, 110] ∧ xk = 4) ∧ St 104 [(0, .string (bs nm)), (3, ptr b3), (4, ptr b4), (5, .int .i64 0), (60, .bool t)] w0 F [] F [[(b4, .cells ⟨[.int .u8 0, .int .i64 0, .string (bs []), .slice none 0 0]⟩ 33 (0, 0))], [(b3, .cells ⟨[.int .u8 (xk : Int), .int .i64 xn, .string (bs xs), .slice a1 xl.len c1]⟩ 33 (0, 0))]] a' w') → Z a' w' := (by
      (intro a w hM; refine hZ _ _ ?_; clear hZ Z; clear S; obtain ⟨t, rfl, S⟩ := hM)
      refine wpc_sp S rfl ?_ ?_ <;> intro h
      · (revert S a; refine go 4 ?_; intro Z hZ a S)
        (refine wc0 S (eWholeCt F _) ?_; clear S a; intro v a w hv S; subst hv)
        (refine wso S rfl rfl ?_; clear S; intro w S)
        (revert S a; revert hZ Z; refine go 3 ?_; intro a S)
        refine wp_ret (fin_ret S (results2 Tryz.results131 (RV.cellO S rfl (by rfl)) (RV.tmp S rfl)) ?_)
        exact zzEvE0
      (refine wp_seq_k ?_; intro Z hZ)
      replace hZ : ∀ (a' : Act) (w' : World), (∃ t : Bool, t = decide (nm = [98, 105, 103] ∧ xk = 2) ∧ St 104 [(0, .string (bs nm)), (3, ptr b3), (4, ptr b4), (5, .int .i64 0), (72, .bool t)] w0 F [] F [[(b4, .cells ⟨[.int .u8 0, .int .i64 0, .string (bs []), .slice none 0 0]⟩ 33 (0, 0))], [(b3, .cells ⟨[.int .u8 (xk : Int), .int .i64 xn, .string (bs xs), .slice a1 xl.len c1]⟩ 33 (0, 0))]] a' w') → Z a' w' := (by
       (intro a w hM; refine hZ _ _ ?_; clear hZ Z; clear S; obtain ⟨t, rfl, S⟩ := hM)
       refine wpc_sp S rfl ?_ ?_ <;> intro h
       · (revert S a; refine go 3 ?_; intro Z hZ a S)
         (refine wc0 S (bigOfCt xn F hT ix.1 ix.2) ?_; clear S a; intro v a w hv S; subst hv)
         (revert S a; refine go 1 ?_; intro a S)
         (refine wso S rfl rfl ?_; clear S; intro w S)
         (revert S a; revert hZ Z; refine go 3 ?_; intro a S)
         refine wp_ret (fin_ret S (results2 Tryz.results131 (RV.cellO S rfl (by rfl)) (RV.tmp S rfl)) ?_)
         exact zzEvE0
       (refine wp_seq_k ?_; intro Z hZ)
       replace hZ : ∀ (a' : Act) (w' : World), (∃ t : Bool, t = decide (nm = [105, 110, 116] ∧ xk = 3) ∧ St 104 [(0, .string (bs nm)), (3, ptr b3), (4, ptr b4), (5, .int .i64 0), (84, .bool t)] w0 F [] F [[(b4, .cells ⟨[.int .u8 0, .int .i64 0, .string (bs []), .slice none 0 0]⟩ 33 (0, 0))], [(b3, .cells ⟨[.int .u8 (xk : Int), .int .i64 xn, .string (bs xs), .slice a1 xl.len c1]⟩ 33 (0, 0))]] a' w') → Z a' w' := (by
        (intro a w hM; refine hZ _ _ ?_; clear hZ Z; clear S; obtain ⟨t, rfl, S⟩ := hM)
        refine wpc_sp S rfl ?_ ?_ <;> intro h
        · (revert S a; refine go 3 ?_; intro Z hZ a S)
          (refine wc0 S (hint) ?_; clear S a; intro v a w hv S; subst hv)
          (revert S a; revert hZ Z; refine go 13 ?_; intro Z hZ a S)
          refine wpc_sp S rfl ?_ ?_ <;> intro h
          · (revert S a; refine go 2 ?_; intro Z hZ a S)
            (refine wso S rfl rfl ?_; clear S; intro w S)
            (revert S a; revert hZ Z; refine go 3 ?_; intro a S)
            refine wp_ret (fin_ret S (results2 Tryz.results131 (RV.cellO S rfl (by rfl)) (RV.tmp S rfl)) ?_)
            exact zzEvE0
          (revert S a; revert hZ Z; refine go 4 ?_; intro Z hZ a S)
          (refine wc0 S (eWholeCt F _) ?_; clear S a; intro v a w hv S; subst hv)
          (refine wso S rfl rfl ?_; clear S; intro w S)
          (revert S a; revert hZ Z; refine go 3 ?_; intro a S)
          refine wp_ret (fin_ret S (results2 Tryz.results131 (RV.cellO S rfl (by rfl)) (RV.tmp S rfl)) ?_)
          exact zzEvE0
        (revert S a; revert hZ Z; refine go 4 ?_; intro Z hZ a S)
        (refine wso S rfl rfl ?_; clear S; intro w S)
        (revert S a; revert hZ Z; refine go 3 ?_; intro a S)
        refine wp_ret (fin_ret S (results2 Tryz.results131 (RV.cellO S rfl (by rfl)) (RV.tmp S rfl)) ?_)
        ((conv => arg 3; repeat (first | rw [if_pos (by assumption)] | rw [if_neg (by assumption)])); first | exact ans_no _ _ | (exact ⟨_, rfl, vac_z _ (k := 1) (s := []) (by decide)⟩) | (exact ⟨_, rfl, vac_z _ (k := 2) (s := []) (by decide)⟩) | (exact ⟨_, rfl, vac_z _ (k := 3) (by first | exact Nat.le_trans hlen (by decide) | exact Nat.le_trans hlz (by decide))⟩) | (rcases hs1 with ⟨e1, e2, e3⟩ | ⟨e1, e3⟩ <;> first | omega | (rw [if_neg e3, e1]; exact ans_no _ _) | (rw [if_pos e3, e2]; exact ⟨_, rfl, vac_z _ (k := 2) (s := []) (by decide)⟩)) | (rcases hi1 with ⟨e1, e2, e3⟩ | ⟨e1, e3⟩ <;> first | omega | (rw [if_neg e3]; exact ans_no _ _) | (rw [if_pos e3, e2]; exact ⟨_, rfl, vac_z _ (k := 2) (s := []) (by decide)⟩)) | trace_state))
       (revert S a; refine go 4 ?_; intro a S)
       refine wgd S ?_ ?_
       · (clear S; intro h S)
         (revert S a; refine go 8 ?_; intro a S)
         (refine hZ _ _ ?_)
         exact zzEvE1
       (clear S a; intro h a S)
       (revert S a; refine go 5 ?_; intro a S)
       (refine hZ _ _ ?_)
       (apply Exists.intro; apply And.intro; rotate_left 1; (refine S.keep ?_; exact zk); first | exact kAnd_yes (m := 3) (by assumption) | exact kAnd_no (by assumption)))
      (revert S a; refine go 4 ?_; intro a S)
      refine wgd S ?_ ?_
      · (clear S; intro h S)
        (revert S a; refine go 8 ?_; intro a S)
        (refine hZ _ _ ?_)
        exact zzEvE2
      (clear S a; intro h a S)
      (revert S a; refine go 5 ?_; intro a S)
      (refine hZ _ _ ?_)
      (apply Exists.intro; apply And.intro; rotate_left 1; (refine S.keep ?_; exact zk); first | exact kAnd_yes (m := 2) (by assumption) | exact kAnd_no (by assumption)))
     (revert S a; refine go 4 ?_; intro a S)
     refine wgd S ?_ ?_
     · (clear S; intro h S)
       (revert S a; refine go 8 ?_; intro a S)
       (refine hZ _ _ ?_)
       (apply Exists.intro; apply And.intro; rotate_left 1; (refine S.keep ?_; exact zk); first | exact kAnd_yes (m := 4) (by assumption) | exact kAnd_no (by assumption))
     (clear S a; intro h a S)
     (revert S a; refine go 5 ?_; intro a S)
     (refine hZ _ _ ?_)
     (apply Exists.intro; apply And.intro; rotate_left 1; (refine S.keep ?_; exact zk); first | exact kAnd_yes (m := 4) (by assumption) | exact kAnd_no (by assumption)))
    (revert S a; refine go 4 ?_; intro a S)
    refine wgd S ?_ ?_
    · (clear S; intro h S)
      (revert S a; refine go 8 ?_; intro a S)
      (refine hZ _ _ ?_)
      exact zzEvE1
    (clear S a; intro h a S)
    (revert S a; refine go 5 ?_; intro a S)
    (refine hZ _ _ ?_)
    (apply Exists.intro; apply And.intro; rotate_left 1; (refine S.keep ?_; exact zk); first | exact kAnd_yes (m := 3) (by assumption) | exact kAnd_no (by assumption)))
   (revert S a; refine go 4 ?_; intro a S)
   refine wgd S ?_ ?_
   · (clear S; intro h S)
     (revert S a; refine go 8 ?_; intro a S)
     (refine hZ _ _ ?_)
     exact zzEvE2
   (clear S a; intro h a S)
   (revert S a; refine go 5 ?_; intro a S)
   (refine hZ _ _ ?_)
   (apply Exists.intro; apply And.intro; rotate_left 1; (refine S.keep ?_; exact zk); first | exact kAnd_yes (m := 2) (by assumption) | exact kAnd_no (by assumption)))
  (revert S a; refine go 4 ?_; intro a S)
  refine wgd S ?_ ?_
  · (clear S; intro h S)
    (revert S a; refine go 8 ?_; intro a S)
    (refine hZ _ _ ?_)
    exact zzEvE3
  (clear S a; intro h a S)
  (revert S a; refine go 5 ?_; intro a S)
  (refine hZ _ _ ?_)
  exact zzEvE3
theorem GVl.get : ∀ {l : Vf} {k : Nat} {x : Vv}, GVl l → l.get? k = some x → (in64 x.1.n ∧ x.1.s.length ≤ 200000) ∧ GVl x.2
 | .cons h L r, 0, x, ⟨h1, h2, _⟩, e => by cases e; exact ⟨h1, h2⟩
 | .cons h L r, k + 1, x, ⟨_, _, h3⟩, e => GVl.get (l := r) h3 e
theorem GV.kid {v x : Vv} {k : Nat} (g : GV v) (e : v.2.get? k = some x) : GV x := by
 obtain ⟨h1, h2⟩ := GVl.get g.2.1 e
 have := Rose.size_get e
 have := g.2.2
 exact ⟨h1, h2, by omega⟩
theorem GV_leaf {k : Nat} {n : Int} {s : List UInt8} (hn : in64 n) (hs : s.length ≤ 200000) : GV (⟨k, n, s⟩, .nil) := ⟨⟨hn, hs⟩, trivial, Nat.zero_le _⟩
theorem GV_z : GV zV := GV_leaf (by decide) (by decide)
theorem GV_bool (b : Bool) : GV (boolV b) := GV_leaf (by cases b <;> decide) (by decide)
theorem tmod64 {a b : Int} (ha : in64 a) : in64 (a.tmod b) := by
 have h1 : (a.tmod b).natAbs ≤ a.natAbs := by rw [Int.natAbs_tmod]; exact Nat.mod_le _ _
 unfold in64 at *
 by_cases h0 : 0 ≤ a
 ·have := Int.tmod_nonneg b h0
  omega
 ·have h := Int.tmod_nonneg b (show 0 ≤ -a by omega)
  rw [Int.neg_tmod] at h
  omega
theorem intO_in {k : Nat} {a b : Int} (ha : in64 a) (hb : in64 b) : in64 (intO k a b).1 := by
 unfold intO
 repeat' split
 all_goals first | assumption | exact tmod64 ha | (show in64 0; decide)
theorem doA_len2 (k : Nat) (s t : List UInt8) : (doA k s t).1.length ≤ 200000 := by
 have h : (doA k s t).1.length ≤ 201 := by
  unfold doA
  split <;> exact ansZ_len _ _
 omega
theorem numO_GV {k : Nat} {x y : Vv} (gx : GV x) (gy : GV y) : GV (numO k x y).2 := by
 unfold numO
 repeat' split
 all_goals first | exact GV_z | exact GV_leaf (intO_in gx.1.1 gy.1.1) (by show _ ≤ _; decide) | exact GV_leaf (by decide) (doA_len2 _ _ _)
theorem catO_GV {x y : Vv} : GV (catO x y).2 := by
 unfold catO
 split
 ·exact GV_z
 ·split
  ·exact GV_z
  ·exact GV_leaf (by decide) (by rw [List.length_append]; omega)
theorem op2_GV {s : List UInt8} {f : Vv → Vv → Ans} (h : op2 s = some f) {x y : Vv} (gx : GV x) (gy : GV y) : GV (f x y).2 := by
 unfold op2 at h
 rw [Option.map_eq_some_iff] at h
 obtain ⟨p, h1, rfl⟩ := h
 have h2 := List.mem_of_find?_eq_some h1
 unfold ops2 at h2
 simp only [List.mem_cons, List.not_mem_nil, or_false] at h2
 rcases h2 with rfl | rfl | rfl | rfl | rfl | rfl | rfl | rfl | rfl | rfl | rfl | rfl
 all_goals first | exact numO_GV gx gy | exact catO_GV | exact GV_bool _
theorem op1_GV {s : List UInt8} {x : Vv} (gx : GV x) : GV (op1 s x).2 := by
 unfold op1
 repeat' split
 all_goals first
  | exact GV_z
  | exact GV_bool _
  | exact GV_leaf (by assumption) (by decide)
  | exact GV_leaf (by decide) (by rw [negA_eq]; exact Nat.le_trans (ansZ_len _ _) (by decide))
  | (have := gx.1.2; exact GV_leaf (by unfold in64; omega) (by decide))
  | exact GV_leaf (by decide) (Nat.le_trans (showZ_len _) (by decide))
  | (rename_i h; exact GV_leaf h.2 (by decide))
theorem nameS_len {s : List UInt8} (h : nameS s = true) : s.length ≤ 32 := by
 unfold nameS at h
 rw [Bool.and_eq_true, decide_eq_true_eq] at h
 exact h.1.2.1
theorem cons_len {nm : List UInt8} {n : Nat} (h : formH ⟨6, 0, nm⟩ n = true) : nm.length ≤ 200000 := by
 unfold formH at h
 rw [if_neg (show ¬ (6 : Nat) = 1 by decide), if_neg (show ¬ (6 : Nat) = 2 by decide), if_neg (show ¬ (6 : Nat) = 3 by decide), if_neg (show ¬ (6 : Nat) = 4 by decide), if_neg (show ¬ (6 : Nat) = 5 by decide), if_pos rfl, Bool.and_eq_true, Bool.and_eq_true] at h
 have h1 := nameS_len h.2.1
 dsimp only at h h1
 by_cases hc : 0 ≤ cutI nm
 ·have e1 : cutC nm = true := decide_eq_true hc
  have h2 := h.2.2
  rw [e1] at h2
  simp only [Bool.true_and, Bool.not_true, Bool.false_and, Bool.or_false] at h2
  have h3 := nameS_len h2
  unfold cutA at h1
  unfold cutB at h3
  rw [if_pos hc, List.length_take] at h1
  rw [if_pos hc, List.length_drop] at h3
  omega
 ·unfold cutA at h1
  rw [if_neg hc] at h1
  omega
theorem check_form {h : VH} {L : Vf} (hc : checkV h L = 0) : formH h L.len = true := by
 unfold checkV at hc
 split at hc
 ·cases hc
 ·split at hc
  ·cases hc
  ·rename_i _ h2
   rw [Bool.not_eq_false, Bool.and_eq_true] at h2
   exact h2.1
theorem wholeO_GV {h : VH} {L : Vf} (hn : h.n = 0) (hs : checkV h L = 0 → h.s.length ≤ 200000) (hL : GVl L) : GV (wholeO h L).2 := by
 unfold wholeO
 split
 ·exact GV_z
 ·split
  ·exact GV_z
  ·rename_i h1 h2
   have h3 : checkV h L = 0 := Classical.byContradiction h2
   have h4 : insL L + 1 ≤ 4096 := by omega
   rw [insL_size] at h4
   exact ⟨⟨by show in64 h.n; rw [hn]; decide, hs h3⟩, hL, by show L.size ≤ _; omega⟩
theorem listO_GV : ∀ {l : List Ans}, (∀ a ∈ l, GV a.2) → ∀ x ∈ (listO l).2, GV x
 | [], _, x, hx => by cases hx
 | a :: r, h, x, hx => by
  unfold listO at hx
  split at hx
  ·cases hx
  ·split at hx
   ·cases hx
   ·rcases List.mem_cons.1 hx with rfl | hx
    ·exact h _ (List.mem_cons_self ..)
    ·exact listO_GV (fun a ha => h a (List.mem_cons_of_mem _ ha)) x hx
theorem roseOf_GV : ∀ {l : List Vv}, (∀ x ∈ l, GV x) → GVl (roseOf l)
 | [], _ => trivial
 | x :: r, h => ⟨(h x (List.mem_cons_self ..)).1, (h x (List.mem_cons_self ..)).2.1, roseOf_GV fun y hy => h y (List.mem_cons_of_mem _ hy)⟩
theorem fieldO_GV {cs : List KC} {nm : List UInt8} {v : Vv} (g : GV v) : GV (fieldO cs nm v).2 := by
 unfold fieldO
 repeat' split
 all_goals first | exact GV_z | (rename_i e; exact g.kid e)
theorem nthA_GV : ∀ {l : List Ans} (k : Nat), (∀ a ∈ l, GV a.2) → GV (nthA l k).2
 | [], _, _ => GV_z
 | a :: r, 0, h => h a (List.mem_cons_self ..)
 | a :: r, k + 1, h => nthA_GV (l := r) k fun b hb => h b (List.mem_cons_of_mem _ hb)
def GVB (vs : List Bd) : Prop := ∀ x ∈ vs, GV x.2
def GEl : Ef → Prop
 | .nil => True
 | .cons h L r => (GV (h.v, h.vl) ∧ (L.len ≤ 3000 ∧ h.nm.length ≤ 140737488355328) ∧ GEl L) ∧ GEl r
def GE (h : EH) (L : Ef) : Prop := GV (h.v, h.vl) ∧ (L.len ≤ 3000 ∧ h.nm.length ≤ 140737488355328) ∧ GEl L
theorem GEl.get : ∀ {l : Ef} {k : Nat} {x : EH × Ef}, GEl l → l.get? k = some x → GE x.1 x.2
 | .cons h L r, 0, x, ⟨h1, _⟩, e => by cases e; exact h1
 | .cons h L r, k + 1, x, ⟨_, h3⟩, e => GEl.get (l := r) h3 e
theorem partsO_GV {h : VH} {l : List Ans} (hn : h.n = 0) (hs : ∀ L, checkV h L = 0 → h.s.length ≤ 200000) (hl : ∀ a ∈ l, GV a.2) : GV (partsO h l).2 := by
 unfold partsO
 split
 ·exact GV_z
 ·exact wholeO_GV hn (hs _) (roseOf_GV (listO_GV hl))
theorem evK_GV {cs : List KC} {vs : List Bd} {h : EH} {l : List Ans} (hv : GV (h.v, h.vl)) (hb : GVB vs) (hl : ∀ a ∈ l, GV a.2) : GV (evK cs vs h l).2 := by
 have hlist := listO_GV hl
 have pull : ∀ {p : Prop} [Decidable p] {a b : Ans}, GV a.2 → GV b.2 → GV (if p then a else b).2 := fun {p} _ {a b} ha hb => by
  by_cases hp : p
  ·rw [if_pos hp]; exact ha
  ·rw [if_neg hp]; exact hb
 unfold evK
 refine pull hv (pull ?_ (pull (partsO_GV rfl (fun L _ => by decide) hl) (pull ?_ (pull (pull GV_z (fieldO_GV (nthA_GV _ hl))) (pull (pull GV_z (pull (nthA_GV _ hl) (nthA_GV _ hl))) (pull (pull (pull GV_z (GV_bool _)) (pull GV_z (GV_bool _))) (pull GV_z ?_)))))))
 ·cases e : findB vs h.nm with
  | none => exact GV_z
  | some x => exact hb _ (List.mem_of_find?_eq_some e)
 ·cases e : findC cs h.nm with
  | none => exact GV_z
  | some c => exact pull GV_z (partsO_GV rfl (fun L hc => cons_len (check_form hc)) hl)
 ·cases e : (listO l).2 with
  | nil => exact GV_z
  | cons x r =>
   have gx := hlist x (by rw [e]; exact List.mem_cons_self ..)
   cases r with
   | nil => exact op1_GV gx
   | cons y r2 =>
    have gy := hlist y (by rw [e]; exact List.mem_cons_of_mem _ (List.mem_cons_self ..))
    dsimp only
    cases ho : op2 h.nm with
    | none => exact GV_z
    | some f => exact op2_GV ho gx gy
theorem evL_GV {cs : List KC} {vs : List Bd} (hb : GVB vs) : ∀ {L : Ef}, GEl L → ∀ a ∈ evL cs vs L, GV a.2
 | .nil, _, a, ha => by cases ha
 | .cons h L r, ⟨⟨h1, _, h3⟩, h4⟩, a, ha => by
  rcases List.mem_cons.1 ha with rfl | ha
  ·exact evK_GV h1 hb (evL_GV hb h3)
  ·exact evL_GV hb h4 a ha
theorem evE_GV {cs : List KC} {vs : List Bd} {h : EH} {L : Ef} (hb : GVB vs) (g : GE h L) : GV (evE cs vs h L).2 := evK_GV g.1 hb (evL_GV hb g.2.2)
theorem vac_slc {F : Heap} {xs : List Value} {h : VH} {L : Vf} (hX : VaC F xs h L) : ∃ ao cap, xs = [.int .u8 (h.k : Int), .int .i64 h.n, .string (bs h.s), .slice ao L.len cap] ∧ TrS F 4 VhR (.slice ao L.len cap) L ∧ h.s.length ≤ 140737488355328 := by
 obtain ⟨v, rfl, h2, h3⟩ := hX
 have h2c := h2
 obtain ⟨a1, c1, rfl, -⟩ := h2c
 exact ⟨a1, c1, rfl, h2, h3⟩
def BdR (F : Heap) (x : Bd) (cs : List Value) : Prop := ∃ c, cs = .string (bs x.1) :: c ∧ VaC F c x.2.1 x.2.2
instance : Mon BdR := ⟨fun hF ⟨c, h1, h2⟩ => ⟨c, h1, h2.mono hF⟩⟩
def ConsR (F : Heap) (u : Value) (o : Option KC) : Prop := ∃ (t : List UInt8) (p1 : Option Addr) (p2 p3 : Nat) (i : Int) (f1 : Option Addr) (f2 f3 : Nat), u = .tuple ⟨[.agg ⟨[.string (bs t), .slice p1 p2 p3, .int .i64 i, .slice f1 f2 f3]⟩, .bool o.isSome]⟩ ∧ ∀ y, o = some y → LiM F 3 FdR (.slice f1 f2 f3) y.fs
structure Mac (F : Heap) (bm : Nat) (cs : List KC) (vs : List Bd) : Prop where
  c : ∃ (tv : Option Addr) (ao : Option Addr) (cap bt : Nat) (es : List (List UInt8 × Value)), Cel F bm 0 (.pointer tv) ∧ Cel F bm 1 (.slice ao vs.length cap) ∧ Cel F bm 2 (.map (some bt)) ∧ LiM F 5 BdR (.slice ao vs.length cap) vs ∧ F bt = some (mObj kS es) ∧ OpsM F es ops2 ∧
    ∀ (F' : Heap) (nm : List UInt8), (∀ b o, F b = some o → F' b = some o) → Ct Tryz.prog 126 [.pointer tv, .string (bs nm)] F' [] (fun F2 _ u => ConsR F2 u (findC cs nm))
  t : TabF F
  e : ErrF F
  g : GVB vs
theorem Mac.mono {F F' : Heap} {bm : Nat} {cs : List KC} {vs : List Bd} (hF : ∀ b o, F b = some o → F' b = some o) (h : Mac F bm cs vs) : Mac F' bm cs vs := by
 obtain ⟨⟨tv, ao, cap, bt, es, h1, h2, h3, h4, h5, h6, h7⟩, ht, he, hg⟩ := h
 exact ⟨⟨tv, ao, cap, bt, es, h1.mono hF, h2.mono hF, h3.mono hF, h4.mono hF, hF _ _ h5, h6.mono hF, fun F2 nm h8 => h7 F2 nm fun b o h9 => h8 _ _ (hF _ _ h9)⟩, ht.mono hF, he.mono hF, hg⟩
def ExC (F : Heap) (cs : List Value) (h : EH) (L : Ef) : Prop := ∃ w v, cs = [.int .u8 (h.k : Int), .int .i64 h.l, .int .i64 h.c, .string (bs h.nm), .int .u8 (h.v.k : Int), .int .i64 h.v.n, .string (bs h.v.s), w, v] ∧ TrS F 4 VhR w h.vl ∧ TrS F 9 EhR v L
theorem ExC.mono {F F' : Heap} {cs : List Value} {h : EH} {L : Ef} (hF : ∀ b o, F b = some o → F' b = some o) (hv : ExC F cs h L) : ExC F' cs h L := by
 obtain ⟨w, v, h1, h2, h3⟩ := hv
 exact ⟨w, v, h1, h2.mono hF, h3.mono hF⟩
theorem exc_of {F : Heap} {c1 : List Value} {u : Value} {x : EH × Ef} (hR : EhR F x.1 c1) (hT : TrS F 9 EhR u x.2) : ExC F (c1 ++ [u]) x.1 x.2 := by
 obtain ⟨w, rfl, h2⟩ := hR
 exact ⟨w, u, rfl, h2, hT⟩
def EvC (n : Nat) : Prop := ∀ (F : Heap) (bm : Nat) (cs : List KC) (vs : List Bd) (h : EH) (L : Ef) (xs : List Value), L.size < n → Mac F bm cs vs → ExC F xs h L → GE h L → formE h L = true →
 Ct Tryz.prog 34 [ptr bm, .agg ⟨xs⟩] F [] (fun F' _ u => AnsR F' u (evE cs vs h L))
def addP (pre : List Vv) (r : Int × List Vv) : Int × List Vv := if r.1 ≠ 0 then (r.1, []) else (0, pre ++ r.2)
theorem addP_no {pre : List Vv} {x : Ans} {r : List Ans} (h : x.1 ≠ 0) : addP pre (listO (x :: r)) = (x.1, []) := by
 unfold addP listO
 rw [if_pos h]
 dsimp only
 rw [if_pos h]
theorem addP_yes {pre : List Vv} {x : Ans} {r : List Ans} (h : x.1 = 0) : addP pre (listO (x :: r)) = addP (pre ++ [x.2]) (listO r) := by
 have e : listO (x :: r) = if (listO r).1 ≠ 0 then ((listO r).1, []) else (0, x.2 :: (listO r).2) := by
  show (if x.1 ≠ 0 then _ else _) = _
  rw [if_neg (fun h9 => h9 h)]
 rw [e]
 unfold addP
 by_cases h2 : (listO r).1 ≠ 0
 ·simp only [if_pos h2]
 ·simp only [if_neg h2]
  simp
theorem addP_end (cs : List KC) (vs : List Bd) (pre : List Vv) : addP pre (listO (evL cs vs .nil)) = (0, pre) := by
 show addP pre (0, []) = _
 unfold addP
 rw [if_neg (fun h : (0 : Int) ≠ 0 => h rfl), List.append_nil]
theorem addP_nil (r : Int × List Vv) (h : r.1 ≠ 0 → r.2 = []) : addP [] r = r := by
 unfold addP
 by_cases h1 : r.1 ≠ 0
 ·rw [if_pos h1, ← h h1]
 ·rw [if_neg h1, List.nil_append, ← show r.1 = 0 by omega]
theorem listO_no : ∀ (l : List Ans), (listO l).1 ≠ 0 → (listO l).2 = []
 | [], h => absurd rfl h
 | x :: r, h => by
  unfold listO at h ⊢
  split
  ·rfl
  ·rename_i h1
   rw [if_neg h1] at h
   split
   ·rfl
   ·rename_i h2
    rw [if_neg h2] at h
    exact absurd rfl h
theorem evL_drop {cs : List KC} {vs : List Bd} {l : Ef} {k : Nat} {x : EH × Ef} (hx : l.get? k = some x) : evL cs vs (l.drop k) = evE cs vs x.1 x.2 :: evL cs vs (l.drop (k + 1)) := by
 rw [Rose.drop_get hx]; rfl
theorem evL_len (cs : List KC) (vs : List Bd) : ∀ l : Ef, (evL cs vs l).length = l.len
 | .nil => rfl
 | .cons h L r => by show (evL cs vs r).length + 1 = r.len + 1; rw [evL_len cs vs r]
theorem formEL_get : ∀ {l : Ef} {k : Nat} {x : EH × Ef}, formEL l = true → l.get? k = some x → formE x.1 x.2 = true
 | .cons h L r, 0, x, hf, e => by
  cases e
  unfold formEL at hf
  rw [Bool.and_eq_true] at hf
  exact hf.1
 | .cons h L r, k + 1, x, hf, e => by
  unfold formEL at hf
  rw [Bool.and_eq_true] at hf
  exact formEL_get (l := r) hf.2 e
def ListR (F : Heap) (u : Value) (x : Int × List Vv) : Prop := ∃ v, u = .tuple ⟨[v, .int .i64 x.1]⟩ ∧ TrS F 4 VhR v (roseOf x.2)
theorem zzEvF0 {p : Prop} (h : p := by (first | (have hii : i = l.len := (by omega); rw [Rose.drop_len (by omega), addP_end] at had; rw [← had]; exact ⟨_, rfl, trs_lim (LiC.lim hown hfc hpre.symm hle (by omega))⟩) | (rw [← had, evL_drop hx, addP_no (by assumption)]; exact ⟨_, rfl, TrS.nil _ _ _⟩) | trace_state)) : p := h
theorem listCt {n : Nat} (hE : EvC n) (F : Heap) (bm : Nat) (cs : List KC) (vs : List Bd) (l : Ef) (v : Value) (hn : l.size ≤ n) (hM : Mac F bm cs vs) (hv : TrS F 9 EhR v l) (hg : GEl l) (hln : l.len ≤ 3000) (hf : formEL l = true) :
  Ct Tryz.prog 127 [ptr bm, v] F [] (fun F' _ u => ListR F' u (listO (evL cs vs l))) := by
 obtain ⟨ao, cap, rfl, hcap, hpos⟩ := hv
 refine Ct.enter Tryz.func127 rfl Tryz.ntmps127 rfl fun w0 a S => ?_
 (revert S a; refine go 17 ?_; intro Z hZ a S)
 refine wpc_loop (fun m a w' => ∃ (i : Nat) (v : Value) (g : Grp) (xs : List Value) (pre : List Vv) (F3 : Heap), m = l.len - i ∧ i ≤ l.len ∧ (∀ b o, F b = some o → F3 b = some o) ∧ OwnS 33 4 v i xs g ∧ LiC F3 4 (RoR 4 VhR) xs pre ∧ pre.length = i ∧ addP pre (listO (evL cs vs (l.drop i))) = listO (evL cs vs l) ∧ St 32 [(0, ptr bm), (6, v), (11, .slice ao l.len cap), (12, .int .i64 l.len), (13, .int .i64 i)] w0 F [] F3 [g] a w') ?_ ?_
 ·(replace S := S.nilg; refine ⟨l.len, 0, .slice none 0 0, [], [], [], F, by omega, Nat.zero_le _, fun _ _ h => h, OwnS.nil _ _, rfl, rfl, addP_nil _ (listO_no _), ?_⟩; refine S.keep ?_; exact zk)
 (clear S; rintro m a w ⟨i, v, g, xs, pre, F3, rfl, hil, hF3, hown, hfc, hpre, had, S⟩)
 (revert S a; refine go 5 ?_; intro Z hZ a S)
 refine wpc_sp S rfl ?_ ?_ <;> intro h
 ·(revert S a; revert hZ Z; refine go 4 ?_; intro Z hZ a S)
  (refine wp_seq_k ?_; intro Z hZ)
  (obtain ⟨b8, o8, hao, x, cs1, v1, hx, hc1, hR1, hT1⟩ := TrM.pos hpos (k := i) (by omega); rw [hao] at S; have hxs := Rose.size_get hx; replace hc1 := Cels.mono hF3 hc1; have hX := (exc_of hR1 hT1).mono hF3; have hXc := hX; obtain ⟨w1, v1', he1, ⟨a91, c91, rfl, -⟩, ⟨a92, c92, rfl, -⟩⟩ := hXc; rw [he1] at hc1 hX)
  (revert S a; refine go 3 ?_; intro a S)
  (refine wpl_alloc S rfl rfl rfl rfl ?_; clear S a; intro b8 a w S)
  (refine wso S rfl rfl ?_; clear S; intro w S)
  (revert S a; revert hZ Z; refine go 5 ?_; intro Z hZ a S)
  (refine wcF S (hE F3 bm cs vs x.1 x.2 _ (by omega) (hM.mono hF3) hX (GEl.get hg hx) (formEL_get hf hx)) ?_; clear S a; intro u9 F4 a w hv hF4 S; obtain ⟨cs4, rfl, hV4⟩ := hv; have hV4c := hV4; obtain ⟨v4, rfl, ⟨a4, c4, rfl, -⟩, -⟩ := hV4c)
  (revert S a; refine go 3 ?_; intro a S)
  (refine wpl_alloc S rfl rfl rfl rfl ?_; clear S a; intro b9 a w S)
  (refine wso S rfl rfl ?_; clear S; intro w S)
  (revert S a; revert hZ Z; refine go 9 ?_; intro Z hZ a S)
  refine wpc_sp S rfl ?_ ?_ <;> intro h
  ·(revert S a; refine go 6 ?_; intro a S)
   refine wp_ret ?_
   (first | (have hii : i = l.len := (by omega); have hle := add_le (G1 := []) S; replace S := St.freeze (G1 := []) S; (simp only [List.nil_append] at S hle)) | skip)
   refine fin_ret S (results2 Tryz.results127 (RV.tmp S rfl) (RV.tmp S rfl)) ?_
   exact zzEvF0
  refine wp_skip ?_
  (refine hZ _ _ ?_; clear hZ Z)
  (obtain ⟨aoK, capK, rfl, -⟩ := hown.at)
  (revert S a; refine go 3 ?_; intro a S)
  (refine wpl_append S rfl rfl rfl rfl rfl rfl rfl rfl rfl rfl rfl (fun _ => rfl) hown (by rfl) (by simp [Value.cells, splice, splice]) (by simp [Value.cells, Value.oneCell', splice, splice]) rfl (by rfl) (by rfl) rfl (by omega) (by omega) ?_; clear hown S a; intro v u g a w hown S)
  (revert S a; revert hZ Z; refine go 7 ?_; intro a S)
  change ∃ m', _ ∧ _
  (rw [← hao] at S; replace S := S.drop1.drop1; refine ⟨l.len - (i + 1), by omega, i + 1, _, _, _, pre ++ [(evE cs vs x.1 x.2).2], F4, rfl, by omega, fun b o h => hF4 _ _ (hF3 _ _ h), hown, LiC.app (hfc.mono hF4) (LiC.one rfl (vac_ror hV4)), by rw [List.length_append, hpre]; rfl, by rw [← had, evL_drop hx, addP_yes (by omega)], ?_⟩; refine S.keep ?_; exact zk)
 (refine wp_exit ?_; conv => whnf)
 clear hZ Z
 (revert S a; revert hZ Z; refine go 7 ?_; intro a S)
 refine wp_ret ?_
 (first | (have hii : i = l.len := (by omega); have hle := add_le (G1 := []) S; replace S := St.freeze (G1 := []) S; (simp only [List.nil_append] at S hle)) | skip)
 refine fin_ret S (results2 Tryz.results127 (RV.tmp S rfl) (RV.tmp S rfl)) ?_
 exact zzEvF0
theorem exc_slc {F : Heap} {xs : List Value} {h : EH} {L : Ef} (hX : ExC F xs h L) : ∃ a1 n1 c1 ao cap, xs = [.int .u8 (h.k : Int), .int .i64 h.l, .int .i64 h.c, .string (bs h.nm), .int .u8 (h.v.k : Int), .int .i64 h.v.n, .string (bs h.v.s), .slice a1 n1 c1, .slice ao L.len cap] ∧ TrS F 4 VhR (.slice a1 n1 c1) h.vl ∧ TrS F 9 EhR (.slice ao L.len cap) L := by
 obtain ⟨w, v, rfl, h2, h3⟩ := hX
 have h2c := h2
 have h3c := h3
 obtain ⟨a1, c1, rfl, -⟩ := h2c
 obtain ⟨ao, cap, rfl, -⟩ := h3c
 exact ⟨a1, _, c1, ao, cap, rfl, h2, h3⟩
theorem zzEvF1 {p : Prop} (h : p := by (unfold truthO; first | (rw [if_pos (by assumption)]; done) | (rw [if_neg (by omega), if_pos (by omega)]; done) | (rw [if_neg (by omega), if_neg (by omega)]; rfl) | trace_state)) : p := h
theorem mtruthCt {n : Nat} (hE : EvC n) (F : Heap) (bm : Nat) (cs : List KC) (vs : List Bd) (h : EH) (L : Ef) (xs : List Value) (hn : L.size < n) (hM : Mac F bm cs vs) (hX : ExC F xs h L) (hg : GE h L) (hf : formE h L = true) :
  Ct Tryz.prog 85 [ptr bm, .agg ⟨xs⟩] F [] (fun _ _ u => u = .tuple ⟨[.bool (truthO (evE cs vs h L)).1, .int .i64 (truthO (evE cs vs h L)).2]⟩) := by
 have hc := hE F bm cs vs h L xs hn hM hX hg hf
 obtain ⟨a1, n1, c1, ao, cap, rfl, -, -⟩ := exc_slc hX
 generalize evE cs vs h L = A at hc ⊢
 refine Ct.enter Tryz.func85 rfl Tryz.ntmps85 rfl fun w0 a S => ?_
 refine wp_sr fun Z hZ => ?_
 (refine wbx S ?_; clear S a; intro b3 a w S)
 (revert S a; revert hZ Z; refine go 7 ?_; intro Z hZ a S)
 (refine wcF S hc ?_; clear S a; intro u9 F4 a w hv hF4 S; obtain ⟨cs4, rfl, hV4⟩ := hv; obtain ⟨a4, c4, rfl, hT4, hs4⟩ := vac_slc hV4)
 (revert S a; refine go 3 ?_; intro a S)
 (refine wpl_alloc S rfl rfl rfl rfl ?_; clear S a; intro b6 a w S)
 (refine wso S rfl rfl ?_; clear S; intro w S)
 (revert S a; revert hZ Z; refine go 11 ?_; intro Z hZ a S)
 refine wpc_sp S rfl ?_ ?_ <;> intro h
 ·(revert S a; refine go 6 ?_; intro a S)
  refine wp_ret (fr2 S Tryz.results85 ?_)
  exact zzEvF1
 (revert S a; refine go 7 ?_; intro a S)
 refine wpc_sp S rfl ?_ ?_ <;> intro h
 ·(revert S a; refine go 5 ?_; intro a S)
  refine wp_ret (fr2 S Tryz.results85 ?_)
  exact zzEvF1
 (revert S a; revert hZ Z; refine go 10 ?_; intro a S)
 refine wp_ret (fr2 S Tryz.results85 ?_)
 exact zzEvF1
theorem zzIy0 {p : Prop} (h : p := by (rw [hfp]; first | (rw [idxF_at (by omega), if_pos (by assumption)]; done) | (rw [idxF_end (by omega)]; done) | trace_state)) : p := h
theorem zzIy1 {p : Prop} (h : p := by (refine ⟨n - (k + 1), by omega, k + 1, rfl, by omega, ?_, ?_⟩; rotate_left 1; (refine S.keep ?_; exact zk); rw [hfp, idxF_at (by omega), if_neg (by rw [(by assumption : p k = false)]; decide)])) : p := h
theorem ixBCt (F : Heap) (v : Value) (n : Nat) (C : Nat → List Value → Prop) (h : Sq F 5 v n C) (fid : FuncId) (fi ca : List Value) [hfn : HasFn Tryz.prog fid] (p : Nat → Bool)
  (hcl : ∀ k cs, k < n → C k cs → Ct Tryz.prog fid (fi ++ [.agg ⟨cs⟩] ++ ca) F [] (fun _ _ u => u = .bool (p k))) :
  Ct Tryz.prog 79 [v, .func (.func fid) ⟨fi⟩ ⟨ca⟩] F [] (fun _ _ u => u = .int .i64 (idxN p n)) := by
 obtain ⟨ao, cap, rfl, hcap, hpos⟩ := h
 refine Ct.enter Tryz.func79 rfl Tryz.ntmps79 rfl fun w0 a S => ?_
 (revert S a; refine go 12 ?_; intro Z hZ a S)
 refine wpc_loop (fun m a w' => ∃ (k : Nat), m = n - k ∧ k ≤ n ∧ idxN p n = idxF p k (n - k) ∧ St 19 [(0, .slice ao n cap), (1, .func (.func fid) ⟨fi⟩ ⟨ca⟩), (7, .int .i64 n), (8, .int .i64 k)] w0 F [] F [] a w') ?_ ?_
 ·(refine ⟨n, 0, by omega, Nat.zero_le _, rfl, ?_⟩; refine S.keep ?_; exact zk)
 (clear S; rintro m a w ⟨k, rfl, hkl, hfp, S⟩)
 (revert S a; refine go 5 ?_; intro Z hZ a S)
 refine wpc_sp S rfl ?_ ?_ <;> intro h
 ·(revert S a; revert hZ Z; refine go 9 ?_; intro Z hZ a S)
  (refine wp_seq_k ?_; intro Z hZ)
  (obtain ⟨b8, o8, rfl, cs1, hc1, hl1, hC⟩ := Sq.pos hpos (k := k) (by omega))
  (revert S a; refine go 5 ?_; intro a S)
  (refine wv S (sv_loadAF S rfl rfl hc1 hl1) ?_; clear S a; intro a S)
  (refine wc0 S (hcl k _ (by omega) hC) ?_; clear S a; intro v a w hv S; subst hv)
  (revert S a; revert hZ Z; refine go 2 ?_; intro a S)
  refine wpc_sp S rfl ?_ ?_ <;> intro h
  ·(revert S a; refine go 5 ?_; intro a S)
   refine wp_ret (fr1 S Tryz.results79 ?_)
   exact zzIy0
  (revert S a; revert hZ Z; refine go 6 ?_; intro a S)
  change ∃ m', _ ∧ _
  exact zzIy1
 (refine wp_exit ?_; conv => whnf)
 clear hZ Z
 (revert S a; revert hZ Z; refine go 5 ?_; intro a S)
 refine wp_ret (fr1 S Tryz.results79 ?_)
 exact zzIy0
theorem cfBCt (F : Heap) (v : Value) (n : Nat) (C : Nat → List Value → Prop) (h : Sq F 5 v n C) (fid : FuncId) (fi ca : List Value) [hfn : HasFn Tryz.prog fid] (p : Nat → Bool)
  (hcl : ∀ k cs, k < n → C k cs → Ct Tryz.prog fid (fi ++ [.agg ⟨cs⟩] ++ ca) F [] (fun _ _ u => u = .bool (p k))) :
  Ct Tryz.prog 31 [v, .func (.func fid) ⟨fi⟩ ⟨ca⟩] F [] (fun _ _ u => u = .bool (anyN p n)) := by
 have hc := ixBCt F v n C h fid fi ca p hcl
 obtain ⟨ao, cap, rfl, hcap, hpos⟩ := h
 refine Ct.enter Tryz.func31 rfl Tryz.ntmps31 rfl fun w0 a S => ?_
 (revert S a; refine go 7 ?_; intro Z hZ a S)
 (refine wc0 S (hc) ?_; clear S a; intro v a w hv S; subst hv)
 (revert S a; revert hZ Z; refine go 4 ?_; intro a S)
 refine wp_ret (fr1 S Tryz.results31 ?_)
 rfl
theorem ixDCt (F : Heap) (v : Value) (n : Nat) (C : Nat → List Value → Prop) (h : Sq F 3 v n C) (fid : FuncId) (fi ca : List Value) [hfn : HasFn Tryz.prog fid] (p : Nat → Bool)
  (hcl : ∀ k cs, k < n → C k cs → Ct Tryz.prog fid (fi ++ [.agg ⟨cs⟩] ++ ca) F [] (fun _ _ u => u = .bool (p k))) :
  Ct Tryz.prog 129 [v, .func (.func fid) ⟨fi⟩ ⟨ca⟩] F [] (fun _ _ u => u = .int .i64 (idxN p n)) := by
 obtain ⟨ao, cap, rfl, hcap, hpos⟩ := h
 refine Ct.enter Tryz.func129 rfl Tryz.ntmps129 rfl fun w0 a S => ?_
 (revert S a; refine go 12 ?_; intro Z hZ a S)
 refine wpc_loop (fun m a w' => ∃ (k : Nat), m = n - k ∧ k ≤ n ∧ idxN p n = idxF p k (n - k) ∧ St 19 [(0, .slice ao n cap), (1, .func (.func fid) ⟨fi⟩ ⟨ca⟩), (7, .int .i64 n), (8, .int .i64 k)] w0 F [] F [] a w') ?_ ?_
 ·(refine ⟨n, 0, by omega, Nat.zero_le _, rfl, ?_⟩; refine S.keep ?_; exact zk)
 (clear S; rintro m a w ⟨k, rfl, hkl, hfp, S⟩)
 (revert S a; refine go 5 ?_; intro Z hZ a S)
 refine wpc_sp S rfl ?_ ?_ <;> intro h
 ·(revert S a; revert hZ Z; refine go 9 ?_; intro Z hZ a S)
  (refine wp_seq_k ?_; intro Z hZ)
  (obtain ⟨b8, o8, rfl, cs1, hc1, hl1, hC⟩ := Sq.pos hpos (k := k) (by omega))
  (revert S a; refine go 5 ?_; intro a S)
  (refine wv S (sv_loadAF S rfl rfl hc1 hl1) ?_; clear S a; intro a S)
  (refine wc0 S (hcl k _ (by omega) hC) ?_; clear S a; intro v a w hv S; subst hv)
  (revert S a; revert hZ Z; refine go 2 ?_; intro a S)
  refine wpc_sp S rfl ?_ ?_ <;> intro h
  ·(revert S a; refine go 5 ?_; intro a S)
   refine wp_ret (fr1 S Tryz.results129 ?_)
   exact zzIy0
  (revert S a; revert hZ Z; refine go 6 ?_; intro a S)
  change ∃ m', _ ∧ _
  exact zzIy1
 (refine wp_exit ?_; conv => whnf)
 clear hZ Z
 (revert S a; revert hZ Z; refine go 5 ?_; intro a S)
 refine wp_ret (fr1 S Tryz.results129 ?_)
 exact zzIy0
end Go.Proofs.YtgefmjghdijbfaaGreatDoor
