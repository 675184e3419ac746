/- Walks. -/
import Derived.Test.YtgefmjghdijbfaaGreatDoorQ17
import Derived.Test.YtgefmjghdijbfaaGreatDoorQ13
import Derived.Test.YtgefmjghdijbfaaGreatDoorQ14
set_option maxHeartbeats 4000000
namespace Go.Proofs.YtgefmjghdijbfaaGreatDoor
open Go Go.Wk Go.Num Go.Un Go.De
set_option linter.unusedSimpArgs false
set_option linter.unusedVariables false
attribute [local irreducible] Go.wpList Go.Code.wp Go.wpStill Go.Wk.wpPre Go.bodyPost Go.Calls Go.Wk.Ct Go.Wk.OwnS Go.Wk.wpG Go.Wk.wpM
def divE (s t : List UInt8) : Int := if bothE s t = 0 then (if decV (bodyS t) = 0 then 81 else 0) else bothE s t
def zeroB : Value := .agg ⟨[.bool false, .slice none 0 0]⟩
def DivV (F : Heap) (u : Value) (s t : List UInt8) : Prop :=
 if divE s t = 0 then ∃ q r, u = .tuple ⟨[.agg ⟨[.bool (negS s != negS t), q]⟩, .agg ⟨[.bool (negS s), r]⟩, .int .i64 0]⟩ ∧ Mag F q (decV (bodyS s) / decV (bodyS t)) ∧ Mag F r (decV (bodyS s) % decV (bodyS t))
 else u = .tuple ⟨[zeroB, zeroB, .int .i64 (divE s t)]⟩
theorem dividedErr (s t : List UInt8) (F : Heap) (hs : s.length ≤ 1000000) (ht : t.length ≤ 1000000) (hbe : ¬ bothE s t = 0) : Ct Tryz.prog 117 [.string (bs s), .string (bs t)] F [] (fun F' _ u => DivV F' u s t) := by
 have hde : divE s t = bothE s t := by unfold divE; rw [if_neg hbe]
 refine Ct.enter Tryz.func117 rfl Tryz.ntmps117 rfl fun w0 a S => ?_
 refine wp_sr fun Z hZ => ?_
 (refine wpl_alloc S rfl rfl rfl rfl ?_; clear S a; intro b4 a w S)
 (refine wpl_alloc S rfl rfl rfl rfl ?_; clear S a; intro b5 a w S)
 (revert S a; revert hZ Z; refine go 6 ?_; intro Z hZ a S)
 (refine wcF S (bothCt s t F (by omega) (by omega)) ?_; clear S a; intro v F1 a w hv hF1 S; rw [BothV, if_neg hbe] at hv; subst hv)
 (revert S a; refine go 4 ?_; intro a S)
 (refine wpl_alloc S rfl rfl rfl rfl ?_; clear S a; intro b7 a w S)
 (refine wpl_alloc S rfl rfl rfl rfl ?_; clear S a; intro b8 a w S)
 iterate 2 (refine wso S rfl rfl ?_; clear S; intro w S)
 (revert S a; revert hZ Z; refine go 11 ?_; intro Z hZ a S)
 refine wpc_split S rfl (fun h => ?_) (fun h => ?_)
 ·(skip; (try simp only [tq] at h))
  (revert S a; refine go 4 ?_; intro Z hZ a S)
  iterate 2 (refine wso S rfl rfl ?_; clear S; intro w S)
  (revert S a; revert hZ Z; refine go 3 ?_; intro a S)
  refine wp_ret (fin_ret S (results3 Tryz.results117 (RV.cellO S rfl (by rfl)) (RV.cellO S rfl (by rfl)) (RV.tmp S rfl)) ?_)
  (unfold DivV; rw [if_neg (by rw [hde]; exact hbe), hde]; rfl)
 (skip; (try simp only [tq] at h); exact absurd h hbe)
theorem dividedZero (s t : List UInt8) (F : Heap) (hs : s.length ≤ 1000000) (ht : t.length ≤ 1000000) (hbe : bothE s t = 0) (h0 : decV (bodyS t) = 0) : Ct Tryz.prog 117 [.string (bs s), .string (bs t)] F [] (fun F' _ u => DivV F' u s t) := by
 have hde : divE s t = 81 := by unfold divE; rw [if_pos hbe, if_pos h0]
 have hn0 : nd 1000000000 (decV (bodyS t)) = 0 := by rw [h0, nd_zero]
 refine Ct.enter Tryz.func117 rfl Tryz.ntmps117 rfl fun w0 a S => ?_
 refine wp_sr fun Z hZ => ?_
 (refine wpl_alloc S rfl rfl rfl rfl ?_; clear S a; intro b4 a w S)
 (refine wpl_alloc S rfl rfl rfl rfl ?_; clear S a; intro b5 a w S)
 (revert S a; revert hZ Z; refine go 6 ?_; intro Z hZ a S)
 (refine wcF S (bothCt s t F (by omega) (by omega)) ?_; clear S a; intro v F1 a w hv hF1 S; rw [BothV, if_pos hbe] at hv; obtain ⟨p, q, rfl, hp, hq⟩ := hv; have hp0 := hp; have hq0 := hq; obtain ⟨po, pc, rfl, -, -⟩ := hp0; obtain ⟨qo, qc, rfl, -, -⟩ := hq0)
 (revert S a; refine go 4 ?_; intro a S)
 (refine wpl_alloc S rfl rfl rfl rfl ?_; clear S a; intro b7 a w S)
 (refine wpl_alloc S rfl rfl rfl rfl ?_; clear S a; intro b8 a w S)
 iterate 2 (refine wso S rfl rfl ?_; clear S; intro w S)
 (revert S a; revert hZ Z; refine go 11 ?_; intro Z hZ a S)
 refine wpc_split S rfl (fun h => ?_) (fun h => ?_)
 ·(skip; (try simp only [tq] at h); exact absurd trivial h)
 (skip; (try simp only [tq] at h))
 (revert S a; refine go 8 ?_; intro a S)
 refine wpc_split S rfl (fun h => ?_) (fun h => ?_)
 ·(skip; (try simp only [tq] at h))
  (revert S a; refine go 3 ?_; intro Z hZ a S)
  iterate 2 (refine wso S rfl rfl ?_; clear S; intro w S)
  (revert S a; revert hZ Z; refine go 3 ?_; intro a S)
  refine wp_ret (fin_ret S (results3 Tryz.results117 (RV.cellO S rfl (by rfl)) (RV.cellO S rfl (by rfl)) (RV.tmp S rfl)) ?_)
  (unfold DivV; rw [if_neg (by rw [hde]; decide), hde]; rfl)
 (skip; (try simp only [tq] at h); omega)
theorem dividedOk (s t : List UInt8) (F : Heap) (hs : s.length ≤ 1000000) (ht : t.length ≤ 1000000) (hbe : bothE s t = 0) (h0 : ¬ decV (bodyS t) = 0) : Ct Tryz.prog 117 [.string (bs s), .string (bs t)] F [] (fun F' _ u => DivV F' u s t) := by
 have hde : divE s t = 0 := by unfold divE; rw [if_pos hbe, if_neg h0]
 have hn0 : nd 1000000000 (decV (bodyS t)) ≠ 0 := fun e => h0 (nd_eq_zero b2 e)
 have hn1 := nd_num (both_ok hbe).1
 have hn2 := nd_num (both_ok hbe).2
 refine Ct.enter Tryz.func117 rfl Tryz.ntmps117 rfl fun w0 a S => ?_
 refine wp_sr fun Z hZ => ?_
 (refine wpl_alloc S rfl rfl rfl rfl ?_; clear S a; intro b4 a w S)
 (refine wpl_alloc S rfl rfl rfl rfl ?_; clear S a; intro b5 a w S)
 (revert S a; revert hZ Z; refine go 6 ?_; intro Z hZ a S)
 (refine wcF S (bothCt s t F (by omega) (by omega)) ?_; clear S a; intro v F1 a w hv hF1 S; rw [BothV, if_pos hbe] at hv; obtain ⟨p, q, rfl, hp, hq⟩ := hv; have hp0 := hp; have hq0 := hq; obtain ⟨po, pc, rfl, -, -⟩ := hp0; obtain ⟨qo, qc, rfl, -, -⟩ := hq0)
 (revert S a; refine go 4 ?_; intro a S)
 (refine wpl_alloc S rfl rfl rfl rfl ?_; clear S a; intro b7 a w S)
 (refine wpl_alloc S rfl rfl rfl rfl ?_; clear S a; intro b8 a w S)
 iterate 2 (refine wso S rfl rfl ?_; clear S; intro w S)
 (revert S a; revert hZ Z; refine go 11 ?_; intro Z hZ a S)
 refine wpc_split S rfl (fun h => ?_) (fun h => ?_)
 ·(skip; (try simp only [tq] at h); exact absurd trivial h)
 (skip; (try simp only [tq] at h))
 (revert S a; refine go 8 ?_; intro a S)
 refine wpc_split S rfl (fun h => ?_) (fun h => ?_)
 ·(skip; (try simp only [tq] at h); omega)
 (skip; (try simp only [tq] at h))
 (revert S a; revert hZ Z; refine go 7 ?_; intro Z hZ a S)
 (refine wcF S (overCt (decV (bodyS s)) (decV (bodyS t)) _ _ F1 (by omega) (by omega) (by omega) hp hq) ?_; clear S a; intro v2 F2 a w hv2 hF2 S; obtain ⟨q2, r2, rfl, hq2, hr2⟩ := hv2; have hq20 := hq2; have hr20 := hr2; obtain ⟨q2o, q2c, rfl, -, -⟩ := hq20; obtain ⟨r2o, r2c, rfl, -, -⟩ := hr20)
 (revert S a; revert hZ Z; refine go 7 ?_; intro a S)
 (refine wp_seq_k ?_; intro Z hZ)
 (refine wpc_mixM [0, 1, 2, 3, 4, 5, 6, 7, 8, 9, 10] [1, 3, 8] [] (.one 0 (.one 1 (.one 2 (.one 3 (.one 4 (.one 5 (.one 6 (.one 7 (.one 8 (.one 9 (.one 10 (.one 11 (.one 12 (.one 13 .nil)))))))))))))) [b7, b8] S mixed (by kernel_rfl) ?_; clear S; intro w S)
 (revert S a; refine go 12 ?_; intro a S)
 (refine wso S rfl rfl ?_; clear S; intro w S)
 (revert S a; refine go 2 ?_; intro a S)
 (refine wso S rfl rfl ?_; clear S; intro w S)
 (revert S a; revert hZ Z; refine go 6 ?_; intro a S)
 refine wp_ret (fin_ret S (results3 Tryz.results117 (RV.cellO S rfl (by rfl)) (RV.cellO S rfl (by rfl)) (RV.tmp S rfl)) ?_)
 (unfold DivV; rw [if_pos hde]; exact ⟨_, _, rfl, hq2, hr2⟩)
theorem dividedCt (s t : List UInt8) (F : Heap) (hs : s.length ≤ 1000000) (ht : t.length ≤ 1000000) : Ct Tryz.prog 117 [.string (bs s), .string (bs t)] F [] (fun F' _ u => DivV F' u s t) := by
 by_cases hbe : bothE s t = 0
 ·by_cases h0 : decV (bodyS t) = 0
  ·exact dividedZero s t F hs ht hbe h0
  ·exact dividedOk s t F hs ht hbe h0
 ·exact dividedErr s t F hs ht hbe
def divA (s t : List UInt8) : List UInt8 × Int := if divE s t = 0 then showS (negS s != negS t) (decV (bodyS s) / decV (bodyS t)) else ([], divE s t)
def modA (s t : List UInt8) : List UInt8 × Int := if divE s t = 0 then showS (negS s) (decV (bodyS s) % decV (bodyS t)) else ([], divE s t)
theorem divE_ok {s t : List UInt8} (h : divE s t = 0) : bothE s t = 0 ∧ decV (bodyS t) ≠ 0 := by
 unfold divE at h
 split at h
 ·rename_i h1; split at h
  ·cases h
  ·exact ⟨h1, by assumption⟩
 ·rename_i h1; exact absurd h h1
theorem bdivCt (s t : List UInt8) (F : Heap) (hT : TabF F) (hs : s.length ≤ 1000000) (ht : t.length ≤ 1000000) : Ct Tryz.prog 64 [.string (bs s), .string (bs t)] F [] (fun _ _ u => u = ansV (divA s t)) := by
 have hdc := dividedCt s t F hs ht
 by_cases hde : divE s t = 0
 ·have hn1 := nd_num (both_ok (divE_ok hde).1).1
  have hn3 := nd_mono (Nat.div_le_self (decV (bodyS s)) (decV (bodyS t)))
  simp only [DivV, if_pos hde] at hdc
  refine Ct.enter Tryz.func64 rfl Tryz.ntmps64 rfl fun w0 a S => ?_
  (revert S a; refine go 8 ?_; intro Z hZ a S)
  (refine wcF S (hdc) ?_; clear S a; intro v F1 a w hv hF1 S; obtain ⟨q, r, rfl, hq, hr⟩ := hv; have hq0 := hq; have hr0 := hr; obtain ⟨qo, qc, rfl, -, -⟩ := hq0; obtain ⟨ro, rc, rfl, -, -⟩ := hr0)
  (revert S a; refine go 4 ?_; intro a S)
  (refine wpl_alloc S rfl rfl rfl rfl ?_; clear S a; intro b6 a w S)
  (refine wpl_alloc S rfl rfl rfl rfl ?_; clear S a; intro b7 a w S)
  iterate 2 (refine wso S rfl rfl ?_; clear S; intro w S)
  (revert S a; revert hZ Z; refine go 9 ?_; intro Z hZ a S)
  refine wpc_split S rfl (fun h => ?_) (fun h => ?_)
  ·(skip; (try simp only [tq] at h); exact absurd trivial h)
  (skip; (try simp only [tq] at h))
  (revert S a; revert hZ Z; refine go 4 ?_; intro Z hZ a S)
  (refine wc0 S (textCt _ _ _ F1 (hT.mono hF1) (by omega) ⟨_, rfl, hq⟩) ?_; clear S a; intro v a w hv S; subst hv)
  (revert S a; revert hZ Z; refine go 6 ?_; intro a S)
  refine wp_ret (fr2 S Tryz.results64 ?_)
  (unfold divA; rw [if_pos hde]; rfl)
 ·simp only [DivV, if_neg hde] at hdc
  refine Ct.enter Tryz.func64 rfl Tryz.ntmps64 rfl fun w0 a S => ?_
  (revert S a; refine go 8 ?_; intro Z hZ a S)
  (refine wcF S (hdc) ?_; clear S a; intro v F1 a w hv hF1 S; subst hv)
  (revert S a; refine go 4 ?_; intro a S)
  (refine wpl_alloc S rfl rfl rfl rfl ?_; clear S a; intro b6 a w S)
  (refine wpl_alloc S rfl rfl rfl rfl ?_; clear S a; intro b7 a w S)
  iterate 2 (refine wpl_storeO S rfl rfl rfl rfl rfl (by rfl) (by simp [Value.cells, Value.oneCell', splice, zeroB]) (by rfl) ?_; clear S; intro w S)
  (revert S a; revert hZ Z; refine go 9 ?_; intro Z hZ a S)
  refine wpc_split S rfl (fun h => ?_) (fun h => ?_)
  ·(skip; (try simp only [tq] at h))
   (revert S a; refine go 6 ?_; intro a S)
   refine wp_ret (fr2 S Tryz.results64 ?_)
   (unfold divA; rw [if_neg hde]; rfl)
  (skip; (try simp only [tq] at h); exact absurd h hde)
theorem bmodCt (s t : List UInt8) (F : Heap) (hT : TabF F) (hs : s.length ≤ 1000000) (ht : t.length ≤ 1000000) : Ct Tryz.prog 66 [.string (bs s), .string (bs t)] F [] (fun _ _ u => u = ansV (modA s t)) := by
 have hdc := dividedCt s t F hs ht
 by_cases hde : divE s t = 0
 ·have hn1 := nd_num (both_ok (divE_ok hde).1).1
  have hn3 := nd_mono (Nat.mod_le (decV (bodyS s)) (decV (bodyS t)))
  simp only [DivV, if_pos hde] at hdc
  refine Ct.enter Tryz.func66 rfl Tryz.ntmps66 rfl fun w0 a S => ?_
  (revert S a; refine go 8 ?_; intro Z hZ a S)
  (refine wcF S (hdc) ?_; clear S a; intro v F1 a w hv hF1 S; obtain ⟨q, r, rfl, hq, hr⟩ := hv; have hq0 := hq; have hr0 := hr; obtain ⟨qo, qc, rfl, -, -⟩ := hq0; obtain ⟨ro, rc, rfl, -, -⟩ := hr0)
  (revert S a; refine go 4 ?_; intro a S)
  (refine wpl_alloc S rfl rfl rfl rfl ?_; clear S a; intro b6 a w S)
  (refine wpl_alloc S rfl rfl rfl rfl ?_; clear S a; intro b7 a w S)
  iterate 2 (refine wso S rfl rfl ?_; clear S; intro w S)
  (revert S a; revert hZ Z; refine go 9 ?_; intro Z hZ a S)
  refine wpc_split S rfl (fun h => ?_) (fun h => ?_)
  ·(skip; (try simp only [tq] at h); exact absurd trivial h)
  (skip; (try simp only [tq] at h))
  (revert S a; revert hZ Z; refine go 4 ?_; intro Z hZ a S)
  (refine wc0 S (textCt _ _ _ F1 (hT.mono hF1) (by omega) ⟨_, rfl, hr⟩) ?_; clear S a; intro v a w hv S; subst hv)
  (revert S a; revert hZ Z; refine go 6 ?_; intro a S)
  refine wp_ret (fr2 S Tryz.results66 ?_)
  (unfold modA; rw [if_pos hde]; rfl)
 ·simp only [DivV, if_neg hde] at hdc
  refine Ct.enter Tryz.func66 rfl Tryz.ntmps66 rfl fun w0 a S => ?_
  (revert S a; refine go 8 ?_; intro Z hZ a S)
  (refine wcF S (hdc) ?_; clear S a; intro v F1 a w hv hF1 S; subst hv)
  (revert S a; refine go 4 ?_; intro a S)
  (refine wpl_alloc S rfl rfl rfl rfl ?_; clear S a; intro b6 a w S)
  (refine wpl_alloc S rfl rfl rfl rfl ?_; clear S a; intro b7 a w S)
  iterate 2 (refine wpl_storeO S rfl rfl rfl rfl rfl (by rfl) (by simp [Value.cells, Value.oneCell', splice, zeroB]) (by rfl) ?_; clear S; intro w S)
  (revert S a; revert hZ Z; refine go 9 ?_; intro Z hZ a S)
  refine wpc_split S rfl (fun h => ?_) (fun h => ?_)
  ·(skip; (try simp only [tq] at h))
   (revert S a; refine go 6 ?_; intro a S)
   refine wp_ret (fr2 S Tryz.results66 ?_)
   (unfold modA; rw [if_neg hde]; rfl)
  (skip; (try simp only [tq] at h); exact absurd h hde)
theorem val_nz {t : List UInt8} : decV (bodyS t) = 0 ↔ valS t = 0 := by unfold valS toZ; cases negS t <;> simp
theorem val_abs (s : List UInt8) : (valS s).natAbs = decV (bodyS s) := toZ_abs _ _
theorem val_neg (s : List UInt8) (h : decV (bodyS s) ≠ 0) : decide (valS s < 0) = negS s := toZ_neg _ h
theorem neg_zero {s : List UInt8} (hs : checkS s = 0) (h : decV (bodyS s) = 0) : negS s = false := by
 have := (val_zero hs).1 (val_nz.1 h)
 subst this; rfl
theorem val_neg2 {s : List UInt8} (hs : checkS s = 0) : decide (valS s < 0) = negS s := by
 by_cases h : decV (bodyS s) = 0
 ·rw [neg_zero hs h, val_nz.1 h]; rfl
 ·exact val_neg s h
theorem divA_eq (s t : List UInt8) : divA s t = ansZ (divE s t) (showZ ((valS s).tdiv (valS t))) := by
 unfold divA ansZ
 split
 ·rename_i h
  have h1 := both_ok (divE_ok h).1
  rw [showS_toZ, ← tdiv_sign, val_neg2 h1.1, val_neg2 h1.2, val_abs, val_abs]
 ·rfl
theorem modA_eq (s t : List UInt8) : modA s t = ansZ (divE s t) (showZ ((valS s).tmod (valS t))) := by
 unfold modA ansZ
 split
 ·rename_i h
  have h1 := both_ok (divE_ok h).1
  rw [showS_toZ, ← tmod_sign, val_neg2 h1.1, val_abs, val_abs]
 ·rfl
def doA (o : Nat) (s t : List UInt8) : List UInt8 × Int :=
 match o with
 | 0 => ansZ (bothE s t) (showZ (valS s + valS t))
 | 1 => ansZ (bothE s t) (showZ (valS s - valS t))
 | 2 => ansZ (bothE s t) (showZ (valS s * valS t))
 | 3 => ansZ (divE s t) (showZ ((valS s).tdiv (valS t)))
 | _ => ansZ (divE s t) (showZ ((valS s).tmod (valS t)))
theorem bmulCt (s t : List UInt8) (F : Heap) (hT : TabF F) (hs : s.length ≤ 1000000) (ht : t.length ≤ 1000000) : Ct Tryz.prog 62 [.string (bs s), .string (bs t)] F [] (fun _ _ u => u = ansV (doA 2 s t)) := by
 rw [show doA 2 s t = mulA s t from (mulA_eq s t).symm]
 by_cases hbe : bothE s t = 0
 ·exact mulOk s t F hT hs ht hbe
 ·exact mulErr s t F hs ht hbe
theorem baddCt (s t : List UInt8) (F : Heap) (hT : TabF F) (hs : s.length ≤ 1000000) (ht : t.length ≤ 1000000) : Ct Tryz.prog 58 [.string (bs s), .string (bs t)] F [] (fun _ _ u => u = ansV (doA 0 s t)) := by
 rw [show doA 0 s t = addA s t from (addA_eq s t).symm]; exact add0Ct s t F hT hs ht
theorem bsubCt (s t : List UInt8) (F : Heap) (hT : TabF F) (hs : s.length ≤ 1000000) (ht : t.length ≤ 1000000) : Ct Tryz.prog 60 [.string (bs s), .string (bs t)] F [] (fun _ _ u => u = ansV (doA 1 s t)) := by
 rw [show doA 1 s t = subA s t from (subA_eq s t).symm]; exact sub0Ct s t F hT hs ht
theorem bdivCt2 (s t : List UInt8) (F : Heap) (hT : TabF F) (hs : s.length ≤ 1000000) (ht : t.length ≤ 1000000) : Ct Tryz.prog 64 [.string (bs s), .string (bs t)] F [] (fun _ _ u => u = ansV (doA 3 s t)) := by
 rw [show doA 3 s t = divA s t from (divA_eq s t).symm]; exact bdivCt s t F hT hs ht
theorem bmodCt2 (s t : List UInt8) (F : Heap) (hT : TabF F) (hs : s.length ≤ 1000000) (ht : t.length ≤ 1000000) : Ct Tryz.prog 66 [.string (bs s), .string (bs t)] F [] (fun _ _ u => u = ansV (doA 4 s t)) := by
 rw [show doA 4 s t = modA s t from (modA_eq s t).symm]; exact bmodCt s t F hT hs ht
theorem ownVCt : ∀ (n : Nat) (F : Heap) (h : VH) (L : Vf) (cs : List Value), L.size ≤ n → L.size ≤ 1000000000 → VaC F cs h L → Ct Tryz.prog 35 [.agg ⟨cs⟩] F [] (fun F' _ u => ∃ cs', u = .agg ⟨cs'⟩ ∧ VaC F' cs' h L) := by
 intro n
 induction n using Nat.strongRecOn with
 | _ n ih =>
 intro F h L cs hn hb hV
 obtain ⟨v, rfl, ⟨ao, cap, rfl, hcap, hpos⟩, hsb⟩ := hV
 have hll := Rose.len_size L
 refine Ct.enter Tryz.func35 rfl Tryz.ntmps35 rfl fun w0 a S => ?_
 refine wp_sr fun Z hZ => ?_
 (refine wbx S ?_; clear S a; intro b1 a w S)
 (refine wpl_alloc S rfl rfl rfl rfl ?_; clear S a; intro b2 a w S)
 (revert S a; revert hZ Z; refine go 15 ?_; intro Z hZ a S)
 refine wpc_loop (fun m a w' => ∃ (i : Nat) (v : Value) (g : Grp) (xs : List Value) (F3 : Heap), m = L.len - i ∧ i ≤ L.len ∧ (∀ b o, F b = some o → F3 b = some o) ∧ OwnS 33 4 v i xs g ∧ LiC F3 4 (RoR 4 VhR) xs ((kids L).take i) ∧ St 22 [(1, ptr b1), (2, ptr b2), (3, v), (7, .slice ao L.len cap), (8, .int .i64 L.len), (9, .int .i64 i)] w0 F [] F3 (g :: [(b2, .cells ⟨[.int .u8 0, .int .i64 0, .string (bs []), .slice none 0 0]⟩ 33 (0, 0))] :: [(b1, .cells ⟨[.int .u8 (h.k : Int), .int .i64 h.n, .string (bs h.s), .slice ao L.len cap]⟩ 33 (0, 0))] :: []) a w') ?_ ?_
 ·(replace S := S.nilg; refine ⟨L.len, 0, .slice none 0 0, [], [], F, by omega, Nat.zero_le _, fun _ _ h => h, OwnS.nil _ _, rfl, ?_⟩; refine S.keep ?_; exact zk)
 (clear S; rintro m a w ⟨i, v, g, xs, F3, rfl, hil, hF3, hown, hfc, S⟩)
 (revert S a; refine go 5 ?_; intro Z hZ a S)
 refine wpc_sp S rfl ?_ ?_ <;> intro h
 ·(revert S a; revert hZ Z; refine go 4 ?_; intro Z hZ a S)
  (refine wp_seq_k ?_; intro Z hZ)
  (obtain ⟨b8, o8, hao, x, cs1, v1, hx, hc1, hw9, hT1⟩ := TrM.pos hpos (k := i) (by omega); rw [hao] at S; replace hc1 := Cels.mono hF3 hc1; replace hT1 := hT1.mono hF3; have hxs := Rose.size_get hx; have hT1c := hT1; obtain ⟨a91, c91, rfl, -⟩ := hT1c; have hw9c := hw9.1; subst hw9c; (simp only [List.cons_append, List.nil_append] at hc1))
  (revert S a; refine go 3 ?_; intro a S)
  (refine wpl_alloc S rfl rfl rfl rfl ?_; clear S a; intro b5 a w S)
  (refine wso S rfl rfl ?_; clear S; intro w S)
  (revert S a; revert hZ Z; refine go 5 ?_; intro a S)
  (refine wcF S (ih x.2.size (by omega) F3 x.1 x.2 _ (Nat.le_refl _) (by omega) ⟨_, rfl, hT1, hw9.2⟩) ?_; clear S a; intro u9 F4 a w hv hF4 S; obtain ⟨cs4, rfl, hV4⟩ := hv; have hV4c := hV4; obtain ⟨v4, rfl, ⟨a4, c4, rfl, -⟩, -⟩ := hV4c)
  (refine wpl_append S rfl rfl rfl rfl rfl rfl rfl rfl rfl rfl rfl (fun _ => rfl) hown (by rfl) (by simp [Value.cells, splice, splice]) (by simp [Value.cells, Value.oneCell', splice, splice]) rfl (by rfl) (by rfl) rfl (by omega) (by omega) ?_; clear hown S a; intro v u g a w hown S)
  (revert S a; revert hZ Z; refine go 7 ?_; intro a S)
  change ∃ m', _ ∧ _
  (rw [← hao] at S; replace S := S.drop1; refine ⟨L.len - (i + 1), by omega, i + 1, _, _, _, F4, rfl, by omega, fun b o h => hF4 _ _ (hF3 _ _ h), hown, ?_, ?_⟩; rotate_left 1; (refine S.keep ?_; exact zk); (rw [List.take_add_one, kids_get, hx]; exact LiC.app (hfc.mono hF4) (LiC.one rfl (vac_ror hV4))))
 (refine wp_exit ?_; conv => whnf)
 clear hZ Z
 (refine hZ _ _ ?_; clear hZ Z)
 (refine wp_seq_k ?_; intro Z hZ)
 (obtain ⟨aoK, capK, rfl, -⟩ := hown.at)
 (revert S a; refine go 3 ?_; intro a S)
 (refine wpl_store1 S rfl rfl rfl rfl rfl rfl (by first | (simp; done) | (simp [Value.cells]; done) | exact Nat.le_of_ble_eq_true rfl) ?_; clear S; intro w S)
 (revert S a; revert hZ Z; refine go 4 ?_; intro Z hZ a S)
 (refine wso S rfl rfl ?_; clear S; intro w S)
 (revert S a; revert hZ Z; refine go 2 ?_; intro a S)
 refine wp_ret ?_
 (have hii : i = L.len := (by omega); have hle := add_le (G1 := []) S; replace S := St.freeze (G1 := []) S; (simp only [List.nil_append] at S hle))
 refine fin_ret S (results1 Tryz.results35 (RV.cellO S rfl (by rfl))) ?_
 (rw [List.take_of_length_le (by rw [kids_len]; omega)] at hfc; exact ⟨_, rfl, _, rfl, trs_kids (LiC.lim hown hfc (by rw [kids_len]; omega) hle (by omega)), hsb⟩)
def insL : Vf → Nat
 | .nil => 0
 | .cons _ L r => (insL L + 1) + insL r
theorem insL_size : ∀ L : Vf, insL L = L.size
 | .nil => rfl
 | .cons h L r => by show (insL L + 1) + insL r = L.size + r.size + 1; rw [insL_size L, insL_size r]; omega
abbrev Ans := Int × Vv
def zV : Vv := (⟨0, 0, []⟩, .nil)
def noA (e : Int) : Ans := (e, zV)
def yesA (v : Vv) : Ans := (0, v)
def boolV (b : Bool) : Vv := (⟨1, if b then 1 else 0, []⟩, .nil)
def intV (n : Int) : Vv := (⟨2, n, []⟩, .nil)
def bigV (s : List UInt8) : Vv := (⟨3, 0, s⟩, .nil)
def textV (s : List UInt8) : Vv := (⟨4, 0, s⟩, .nil)
def in64 (n : Int) : Prop := -9223372036854775808 ≤ n ∧ n ≤ 9223372036854775807
instance (n : Int) : Decidable (in64 n) := by unfold in64; infer_instance
def intO (k : Nat) (a b : Int) : Int × Int :=
 if k = 0 then (if in64 (a + b) then (a + b, 0) else (0, 80))
 else if k = 1 then (if in64 (a - b) then (a - b, 0) else (0, 80))
 else if k = 2 then (if in64 (a * b) then (a * b, 0) else (0, 80))
 else if k = 3 then (if b = 0 then (0, 81) else if in64 (a.tdiv b) then (a.tdiv b, 0) else (0, 80))
 else (if b = 0 then (0, 81) else (a.tmod b, 0))
def numO (k : Nat) (a b : Vv) : Ans :=
 if a.1.k = 2 ∧ b.1.k = 2 then (if (intO k a.1.n b.1.n).2 ≠ 0 then noA (intO k a.1.n b.1.n).2 else yesA (intV (intO k a.1.n b.1.n).1))
 else if a.1.k = 3 ∧ b.1.k = 3 then (if (doA k a.1.s b.1.s).2 ≠ 0 then noA (doA k a.1.s b.1.s).2 else yesA (bigV (doA k a.1.s b.1.s).1))
 else noA 70
def ordT (k : Nat) (c : Int) : Bool := if k = 0 then decide (c = 0) else if k = 1 then decide (c ≠ 0) else if k = 2 then decide (c < 0) else if k = 3 then decide (c ≤ 0) else if k = 4 then decide (0 < c) else decide (0 ≤ c)
def ordO (k : Nat) (a b : Vv) : Ans := yesA (boolV (ordT k (cmpV2 a b)))
def catO (a b : Vv) : Ans := if a.1.k ≠ 4 ∨ b.1.k ≠ 4 then noA 70 else if 4096 < a.1.s.length + b.1.s.length then noA 80 else yesA (textV (a.1.s ++ b.1.s))
def ops2 : List (List UInt8 × (Vv → Vv → Ans)) :=
 [([43], numO 0), ([45], numO 1), ([42], numO 2), ([47], numO 3), ([37], numO 4), ([61, 61], ordO 0), ([33, 61], ordO 1), ([60], ordO 2), ([60, 61], ordO 3), ([62], ordO 4), ([62, 61], ordO 5), ([43, 43], catO)]
def op2 (s : List UInt8) : Option (Vv → Vv → Ans) := (ops2.find? fun x => decide (s = x.1)).map (·.2)
def sAnd : List UInt8 := [97, 110, 100]
def sOr : List UInt8 := [111, 114]
def sNot : List UInt8 := [110, 111, 116]
def sNeg : List UInt8 := [110, 101, 103]
def sLen : List UInt8 := [108, 101, 110]
def op1 (s : List UInt8) (a : Vv) : Ans :=
 if s = sNot ∧ a.1.k = 1 then yesA (boolV (decide (a.1.n = 0)))
 else if s = sNeg ∧ a.1.k = 2 then (if in64 (0 - a.1.n) then yesA (intV (0 - a.1.n)) else noA 80)
 else if s = sNeg ∧ a.1.k = 3 then yesA (bigV (negA a.1.s).1)
 else if s = sLen ∧ a.1.k = 4 then yesA (intV a.1.s.length)
 else if s = sBig ∧ a.1.k = 2 then yesA (bigV (showZ a.1.n).1)
 else if s = sInt ∧ a.1.k = 3 then (if checkS a.1.s = 0 ∧ in64 (valS a.1.s) then yesA (intV (valS a.1.s)) else noA 80)
 else noA 70
def wholeO (h : VH) (L : Vf) : Ans := if checkV h L = 65 ∨ 4096 < insL L + 1 then noA 80 else if checkV h L ≠ 0 then noA 4 else yesA (h, L)
def nthA : List Ans → Nat → Ans
 | [], _ => noA 0
 | x :: _, 0 => x
 | _ :: r, k + 1 => nthA r k
def truthO (x : Ans) : Bool × Int := if x.1 ≠ 0 then (false, x.1) else if x.2.1.k ≠ 1 then (false, 70) else (decide (x.2.1.n = 1), 0)
def listO : List Ans → Int × List Vv
 | [] => (0, [])
 | x :: r => if x.1 ≠ 0 then (x.1, []) else if (listO r).1 ≠ 0 then ((listO r).1, []) else (0, x.2 :: (listO r).2)
def fieldO (cs : List KC) (nm : List UInt8) (v : Vv) : Ans :=
 if v.1.k ≠ 6 then noA 70 else match findC cs v.1.s with
  | none => noA 70
  | some c => if c.fs.length ≠ v.2.len ∨ nm = [] then noA 70 else match c.fs.findIdx? fun f => decide (f.nm = nm) with
   | none => noA 70
   | some i => match v.2.get? i with | none => noA 70 | some x => yesA x
def partsO (h : VH) (l : List Ans) : Ans := if (listO l).1 ≠ 0 then noA (listO l).1 else wholeO h (roseOf (listO l).2)
def evK (cs : List KC) (vs : List Bd) (h : EH) (l : List Ans) : Ans :=
  if h.k = 1 then yesA (h.v, h.vl)
  else if h.k = 2 then (match findB vs h.nm with | none => noA 71 | some x => yesA x.2)
  else if h.k = 4 then partsO ⟨5, 0, []⟩ l
  else if h.k = 5 then (match findC cs h.nm with | none => noA 63 | some c => if c.fs.length ≠ l.length then noA 70 else partsO ⟨6, 0, h.nm⟩ l)
  else if h.k = 7 then (if (nthA l 0).1 ≠ 0 then noA (nthA l 0).1 else fieldO cs h.nm (nthA l 0).2)
  else if h.k = 8 then (if (truthO (nthA l 0)).2 ≠ 0 then noA (truthO (nthA l 0)).2 else if (truthO (nthA l 0)).1 = true then nthA l 1 else nthA l 2)
  else if h.nm = sAnd ∨ h.nm = sOr then
    (if (truthO (nthA l 0)).2 = 0 ∧ (truthO (nthA l 0)).1 = decide (h.nm = sAnd) then (if (truthO (nthA l 1)).2 ≠ 0 then noA (truthO (nthA l 1)).2 else yesA (boolV (truthO (nthA l 1)).1))
     else if (truthO (nthA l 0)).2 ≠ 0 then noA (truthO (nthA l 0)).2 else yesA (boolV (truthO (nthA l 0)).1))
  else if (listO l).1 ≠ 0 then noA (listO l).1
  else match (listO l).2 with
    | [a] => op1 h.nm a
    | a :: b :: _ => (match op2 h.nm with | some f => f a b | none => noA 0)
    | [] => noA 0
def evL (cs : List KC) (vs : List Bd) : Ef → List Ans
 | .nil => []
 | .cons h L r => evK cs vs h (evL cs vs L) :: evL cs vs r
def evE (cs : List KC) (vs : List Bd) (h : EH) (L : Ef) : Ans := evK cs vs h (evL cs vs L)
def deepL : Ef → Int → Bool
 | .nil, _ => false
 | .cons _ L r, d => (decide (64 < d) || deepL L (d + 1)) || deepL r d
def deepE (L : Ef) (d : Int) : Bool := decide (64 < d) || deepL L (d + 1)
def ones : List (List UInt8) := [sNot, sNeg, sLen, sBig, sInt]
def formK (h : EH) (n : Nat) : Bool :=
 if h.k = 4 then decide (n ≠ 1) && decide (n ≤ 16) else if h.k = 5 then true else if h.k = 7 then decide (n = 1) else if h.k = 8 then decide (n = 3)
 else if h.k = 6 then ((((op2 h.nm).isSome || decide (h.nm = sAnd)) || decide (h.nm = sOr)) && decide (n = 2)) || (decide (n = 1) && decide (h.nm ∈ ones)) else false
def formEL : Ef → Bool
 | .nil => true
 | .cons h L r => (if h.k = 1 then decide (checkV h.v h.vl = 0) else if h.k = 2 then true else formK h L.len && formEL L) && formEL r
def formE (h : EH) (L : Ef) : Bool := if h.k = 1 then decide (checkV h.v h.vl = 0) else if h.k = 2 then true else formK h L.len && formEL L
def evalO (cs : List KC) (vs : List Bd) (h : EH) (L : Ef) : Ans :=
 if deepE L 1 = true then noA 65 else if formE h L = false then noA 4 else if (vs.all fun x => mayV x.2) = false then noA 4 else evE cs vs h L
end Go.Proofs.YtgefmjghdijbfaaGreatDoor
