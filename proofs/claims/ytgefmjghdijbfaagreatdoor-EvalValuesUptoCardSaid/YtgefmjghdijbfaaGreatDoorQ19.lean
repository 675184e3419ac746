/- Walks. -/
import Derived.Test.YtgefmjghdijbfaaGreatDoorQ15
import Derived.Test.YtgefmjghdijbfaaGreatDoorQ11
import Derived.Test.YtgefmjghdijbfaaGreatDoorQ10
import Derived.Test.YtgefmjghdijbfaaGreatDoorQ18
import Derived.Test.YtgefmjghdijbfaaGreatDoorQ16
import Derived.Test.YtgefmjghdijbfaaGreatDoorQ14
import Derived.OpenShut
import Derived.SizedLaws
import Derived.ChangeSame
import Derived.Test.YtgefmjghdijbfaaGreatDoorRows
import Derived.WalkKit
import Derived.ProofKit
import Derived.Stop.Joined
import Derived.ChangeOld
import Derived.SevenTiedAt
import Derived.Test.YtgefmjghdijbfaaGreatDoorQ12
import Derived.Test.YtgefmjghdijbfaaGreatDoorQ03
import Derived.Test.YtgefmjghdijbfaaGreatDoorQ09
import Derived.Lib.AppendZeros
set_option maxHeartbeats 64000000
set_option maxRecDepth 20000
namespace Go.Proofs.YtgefmjghdijbfaaGreatDoor
open Go Go.Wk Go.Un Go.De Go.Num
set_option linter.unusedSimpArgs false
set_option linter.unusedVariables false
attribute [local irreducible] Go.wpList Go.Code.wp Go.wpStill Go.Wk.wpPre Go.bodyPost Go.Calls Go.Wk.Ct Go.Wk.OwnS Go.Wk.wpG Go.Wk.wpM
abbrev Ex := EH × Ef
def litX (v : Vv) : Ex := (⟨1, 0, 0, [], v.1, v.2⟩, .nil)
def callH (s : List UInt8) : EH := ⟨6, 0, 0, s, ⟨0, 0, []⟩, .nil⟩
def callX2 (s : List UInt8) (x y : Ex) : Ex := (callH s, .cons x.1 x.2 (.cons y.1 y.2 .nil))
def opn (k : Nat) : List UInt8 := if k = 0 then [43] else if k = 1 then [45] else if k = 2 then [42] else if k = 3 then [47] else [37]
theorem opn_op2 {k : Nat} (hk : k ≤ 4) : op2 (opn k) = some (numO k) := by
 match k, hk with
 | 0, _ => rfl
 | 1, _ => rfl
 | 2, _ => rfl
 | 3, _ => rfl
 | 4, _ => rfl
def zO (k : Nat) (a b : Int) : Int := if k = 0 then a + b else if k = 1 then a - b else if k = 2 then a * b else if k = 3 then a.tdiv b else a.tmod b
theorem tmod_in {a b : Int} (ha : in64 a) : in64 (a.tmod b) := by
 have h1 : (a.tmod b).natAbs ≤ a.natAbs := by rw [Int.natAbs_tmod]; exact Nat.mod_le _ _
 unfold in64 at *
 by_cases h0 : 0 ≤ a
 ·have := Int.tmod_nonneg b h0
  omega
 ·have h := Int.tmod_nonneg b (show 0 ≤ -a by omega)
  rw [Int.neg_tmod] at h
  omega
theorem intO_eq {k : Nat} (hk : k ≤ 4) {a b : Int} (ha : in64 a) : intO k a b = if 3 ≤ k ∧ b = 0 then (0, 81) else if in64 (zO k a b) then (zO k a b, 0) else (0, 80) := by
 match k, hk with
 | 0, _ => rfl
 | 1, _ => rfl
 | 2, _ => rfl
 | 3, _ =>
  show (if b = 0 then ((0 : Int), (81 : Int)) else if in64 (a.tdiv b) then (a.tdiv b, 0) else (0, 80)) = _
  by_cases h : b = 0
  ·rw [if_pos h, if_pos ⟨by decide, h⟩]
  ·rw [if_neg h, if_neg (show ¬ (3 ≤ 3 ∧ b = 0) from fun h9 => h h9.2)]; rfl
 | 4, _ =>
  show (if b = 0 then ((0 : Int), (81 : Int)) else (a.tmod b, 0)) = _
  by_cases h : b = 0
  ·rw [if_pos h, if_pos ⟨by decide, h⟩]
  ·rw [if_neg h, if_neg (fun h9 => h h9.2), show zO 4 a b = a.tmod b from rfl, if_pos (tmod_in ha)]
theorem numO_int (k : Nat) (a b : Int) : numO k (intV a) (intV b) = if (intO k a b).2 ≠ 0 then noA (intO k a b).2 else yesA (intV (intO k a b).1) := rfl
theorem numO_ok {k : Nat} (hk : k ≤ 4) {a b : Int} (ha : in64 a) (h : (numO k (intV a) (intV b)).1 = 0) : numO k (intV a) (intV b) = yesA (intV (zO k a b)) ∧ in64 (zO k a b) ∧ (3 ≤ k → b ≠ 0) := by
 rw [numO_int, intO_eq hk ha] at h ⊢
 by_cases h1 : 3 ≤ k ∧ b = 0
 ·rw [if_pos h1] at h; exact absurd h (by decide)
 rw [if_neg h1] at h ⊢
 by_cases h2 : in64 (zO k a b)
 ·rw [if_pos h2, if_neg (fun h : (0 : Int) ≠ 0 => h rfl)]
  exact ⟨rfl, h2, fun h3 h4 => h1 ⟨h3, h4⟩⟩
 ·rw [if_neg h2] at h; exact absurd h (by decide)
def bo2 (f : Vv → Vv → Ans) (x y : Ans) : Ans := if x.1 ≠ 0 then noA x.1 else if y.1 ≠ 0 then noA y.1 else f x.2 y.2
def bo1 (s : List UInt8) (x : Ans) : Ans := if x.1 ≠ 0 then noA x.1 else op1 s x.2
theorem b2_ok {f : Vv → Vv → Ans} {x y : Ans} (h : (bo2 f x y).1 = 0) : x.1 = 0 ∧ y.1 = 0 ∧ bo2 f x y = f x.2 y.2 ∧ (f x.2 y.2).1 = 0 := by
 unfold bo2 at h ⊢
 by_cases hx : x.1 ≠ 0
 ·rw [if_pos hx] at h; exact absurd h hx
 rw [if_neg hx] at h ⊢
 by_cases hy : y.1 ≠ 0
 ·rw [if_pos hy] at h; exact absurd h hy
 rw [if_neg hy] at h ⊢
 exact ⟨by simpa using hx, by simpa using hy, rfl, h⟩
theorem b1_ok {s : List UInt8} {x : Ans} (h : (bo1 s x).1 = 0) : x.1 = 0 ∧ bo1 s x = op1 s x.2 ∧ (op1 s x.2).1 = 0 := by
 unfold bo1 at h ⊢
 by_cases hx : x.1 ≠ 0
 ·rw [if_pos hx] at h; exact absurd h hx
 rw [if_neg hx] at h ⊢
 exact ⟨by simpa using hx, rfl, h⟩
theorem n2_ok {k : Nat} (hk : k ≤ 4) {x y : Ans} {a b : Int} (hx : x.1 = 0 → x.2 = intV a ∧ in64 a) (hy : y.1 = 0 → y.2 = intV b ∧ in64 b) (h : (bo2 (numO k) x y).1 = 0) :
  x.1 = 0 ∧ y.1 = 0 ∧ (bo2 (numO k) x y).2 = intV (zO k a b) ∧ in64 (zO k a b) ∧ (3 ≤ k → b ≠ 0) := by
 obtain ⟨h1, h2, h3, h4⟩ := b2_ok h
 obtain ⟨e1, i1⟩ := hx h1
 obtain ⟨e2, i2⟩ := hy h2
 rw [e1, e2] at h4 h3
 obtain ⟨g1, g2, g3⟩ := numO_ok hk i1 h4
 exact ⟨h1, h2, by rw [h3, g1]; rfl, g2, g3⟩
def K (x : Ans) (a : Int) : Prop := x.1 = 0 → x.2 = intV a ∧ in64 a
theorem K.lit {a : Int} (ha : in64 a) : K (yesA (intV a)) a := fun _ => ⟨rfl, ha⟩
theorem K.neg {x : Ans} {a : Int} (hx : K x a) : K (bo1 sNeg x) (0 - a) := fun h => by
 obtain ⟨h1, h2, h3⟩ := b1_ok h
 obtain ⟨e1, i1⟩ := hx h1
 rw [e1] at h2 h3
 have e : op1 sNeg (intV a) = if in64 (0 - a) then yesA (intV (0 - a)) else noA 80 := rfl
 rw [e] at h2 h3
 by_cases hi : in64 (0 - a)
 ·rw [if_pos hi] at h2
  rw [h2]
  exact ⟨rfl, hi⟩
 ·rw [if_neg hi] at h3; exact absurd h3 (by decide)
theorem K.same {x y : Ans} {a b : Int} (hx : K x a) (hy : K y b) (e : a = b) (h1 : x.1 = 0) (h2 : y.1 = 0) : x.2 = y.2 := by rw [(hx h1).1, (hy h2).1, e]
theorem K.quo {x y : Ans} {a b : Int} (hx : K x a) (hy : K y b) (h : (bo2 (numO 3) x y).1 = 0) : b ≠ 0 := (n2_ok (by decide) hx hy h).2.2.2.2 (by decide)
section
variable {a b c : Int} (ha : in64 a) (hb : in64 b) (hc : in64 c)
include ha hb
include hc
end
def KT (x : Ans) (s : List UInt8) : Prop := x.1 = 0 → x.2 = textV s
theorem KT.lit (s : List UInt8) : KT (yesA (textV s)) s := fun _ => rfl
theorem KT.len {x : Ans} {s : List UInt8} (hx : KT x s) (hl : s.length ≤ 1000000) : K (bo1 sLen x) s.length := fun h => by
 obtain ⟨h1, h2, h3⟩ := b1_ok h
 rw [hx h1] at h2 h3
 have e : op1 sLen (textV s) = yesA (intV s.length) := rfl
 rw [h2, e]
 exact ⟨rfl, by unfold in64; omega⟩
def SmC (n : Nat) : Prop := ∀ (F : Heap) (x y : Vv) (cs cs2 : List Value), x.2.size < n → VaC F cs x.1 x.2 → VaC F cs2 y.1 y.2 → Ct Tryz.prog 10 [.agg ⟨cs⟩, .agg ⟨cs2⟩] F [] (fun _ _ u => u = .bool (sameV x y))
theorem zzSa0 {p : Prop} (h : p := by (congr 1; first | (rw [sameL_len (by omega)]; done) | (rw [← hfp, Rose.drop_len (by omega), Rose.drop_len (by omega)]; rfl) | (rw [← hfp, sameL_drop hx hy, (by assumption : sameV x y = false), Bool.false_and]; done) | trace_state)) : p := h
theorem sameRowCt {n : Nat} (hC : SmC n) (F : Heap) (l m : Vf) (v u : Value) (hn : l.size ≤ n) (hv : TrS F 4 VhR v l) (hu : TrS F 4 VhR u m) : Ct Tryz.prog 37 [v, u] F [] (fun _ _ u => u = .bool (sameL l m)) := by
 obtain ⟨ao, cap, rfl, hcap, hpos⟩ := hv
 obtain ⟨ao2, cap2, rfl, hcap2, hpos2⟩ := hu
 refine Ct.enter Tryz.func37 rfl Tryz.ntmps37 rfl fun w0 a S => ?_
 (revert S a; refine go 13 ?_; intro Z hZ a S)
 refine wpc_sp S rfl ?_ ?_ <;> intro h
 ·(revert S a; refine go 4 ?_; intro a S)
  refine wp_ret (fr1 S Tryz.results37 ?_)
  exact zzSa0
 (revert S a; revert hZ Z; refine go 8 ?_; intro Z hZ a S)
 refine wpc_loop (fun q a w' => ∃ (k : Nat), q = l.len - k ∧ k ≤ l.len ∧ sameL (l.drop k) (m.drop k) = sameL l m ∧ St 27 [(0, .slice ao l.len cap), (1, .slice ao2 m.len cap2), (5, .int .i64 k)] w0 F [] F [] a w') ?_ ?_
 ·(have hlm : l.len = m.len := (by omega); refine ⟨l.len, 0, by omega, Nat.zero_le _, rfl, ?_⟩; refine S.keep ?_; exact zk)
 (clear S; rintro q a w ⟨k, rfl, hkl, hfp, S⟩)
 (revert S a; refine go 8 ?_; intro Z hZ a S)
 refine wpc_sp S rfl ?_ ?_ <;> intro h
 ·(revert S a; revert hZ Z; refine go 4 ?_; intro Z hZ a S)
  (refine wp_seq_k ?_; intro Z hZ)
  (obtain ⟨b8, o8, hao, x, cs1, v1, hx, hc1, hw9, hT1⟩ := TrM.pos hpos (k := k) (by omega); rw [hao] at S; have hxs := Rose.size_get hx; have hT1c := hT1; obtain ⟨a91, c91, rfl, -⟩ := hT1c; have hw9c := hw9.1; subst hw9c; (simp only [List.cons_append, List.nil_append] at hc1); obtain ⟨b9, o9, hao2, y, cs2, v2, hy, hc2, hw8, hT2⟩ := TrM.pos hpos2 (k := k) (by omega); rw [hao2] at S; have hT2c := hT2; obtain ⟨a92, c92, rfl, -⟩ := hT2c; have hw8c := hw8.1; subst hw8c; (simp only [List.cons_append, List.nil_append] at hc2))
  (refine wpc_mixM [0, 1, 2, 3, 4, 5, 6, 7, 9] [3, 7] [] (.one 0 (.one 1 (.one 2 (.one 3 (.one 4 (.one 5 (.one 6 (.one 7 (.one 8 (.one 9 .nil)))))))))) [] S mixed (by kernel_rfl) ?_; clear S; intro w S)
  (revert S a; refine go 9 ?_; intro a S)
  (refine wc0 S (hC F x y _ _ (by omega) ⟨_, rfl, hT1, hw9.2⟩ ⟨_, rfl, hT2, hw8.2⟩) ?_; clear S a; intro v a w hv S; subst hv)
  (revert S a; revert hZ Z; refine go 4 ?_; intro a S)
  refine wpc_sp S rfl ?_ ?_ <;> intro h
  ·(revert S a; refine go 4 ?_; intro a S)
   refine wp_ret (fr1 S Tryz.results37 ?_)
   exact zzSa0
  (revert S a; revert hZ Z; refine go 7 ?_; intro a S)
  change ∃ m', _ ∧ _
  (rw [← hao, ← hao2] at S; refine ⟨l.len - (k + 1), by omega, k + 1, rfl, by omega, ?_, ?_⟩; rotate_left 1; (refine S.keep ?_; exact zk); rw [← hfp, sameL_drop hx hy, (by assumption : sameV x y = true), Bool.true_and])
 (refine wp_exit ?_; conv => whnf)
 clear hZ Z
 (revert S a; revert hZ Z; refine go 5 ?_; intro a S)
 refine wp_ret (fr1 S Tryz.results37 ?_)
 exact zzSa0
theorem zzSa1 {p : Prop} (h : p := by (congr 1; show _ = (decide (xk = yk) && (decide (xn = yn) && decide (xs = ys)) && sameL xl yl); first | (rw [decide_eq_true (show xk = yk by omega), decide_eq_true (show xn = yn by assumption), decide_eq_true (show xs = ys by assumption)]; rfl) | (rw [decide_eq_false (show ¬ xk = yk by omega)]; rfl) | (rw [decide_eq_false (show ¬ xn = yn by assumption), Bool.false_and, Bool.and_false, Bool.false_and]; done) | (rw [decide_eq_false (show ¬ xs = ys by assumption), Bool.and_false, Bool.and_false, Bool.false_and]; done) | trace_state)) : p := h
theorem sameCt : ∀ n, SmC n := by
 intro n
 induction n with
 | zero => intro F x y cs cs2 hn; omega
 | succ n ih =>
 intro F x y cs cs2 hn hV hV2
 obtain ⟨⟨xk, xn, xs⟩, xl⟩ := x
 obtain ⟨⟨yk, yn, ys⟩, yl⟩ := y
 obtain ⟨v1, rfl, hT1, hs1⟩ := hV
 obtain ⟨v2, rfl, hT2, hs2⟩ := hV2
 dsimp only at *
 have hr := sameRowCt ih F xl yl v1 v2 (by omega) hT1 hT2
 obtain ⟨a1, c1, rfl, -⟩ := hT1
 obtain ⟨a2, c2, rfl, -⟩ := hT2
 refine Ct.enter Tryz.func10 rfl Tryz.ntmps10 rfl fun w0 a S => ?_
 refine wp_sr fun Z hZ => ?_
 (refine wbx S ?_; clear S a; intro b2 a w S)
 (refine wbx S ?_; clear S a; intro b3 a w S)
 (revert S a; revert hZ Z; refine go 10 ?_; intro Z hZ a S)
 refine wgd S ?_ ?_
 ·(clear S; intro h S)
  (revert S a; refine go 11 ?_; intro a S)
  refine wgd S ?_ ?_
  ·(clear S; intro h S)
   (revert S a; refine go 11 ?_; intro a S)
   refine wgd S ?_ ?_
   ·(clear S; intro h S)
    (revert S a; refine go 8 ?_; intro a S)
    (refine wc0 S (hr) ?_; clear S a; intro v a w hv S; subst hv)
    (revert S a; revert hZ Z; refine go 4 ?_; intro a S)
    refine wp_ret (fr1 S Tryz.results10 ?_)
    exact zzSa1
   (clear S a; intro h a S)
   (revert S a; revert hZ Z; refine go 8 ?_; intro a S)
   refine wp_ret (fr1 S Tryz.results10 ?_)
   exact zzSa1
  (clear S a; intro h a S)
  (revert S a; revert hZ Z; refine go 15 ?_; intro a S)
  refine wp_ret (fr1 S Tryz.results10 ?_)
  exact zzSa1
 (clear S a; intro h a S)
 (revert S a; revert hZ Z; refine go 22 ?_; intro a S)
 refine wp_ret (fr1 S Tryz.results10 ?_)
 exact zzSa1
abbrev RvR := RoR 4 VhR
abbrev ReR := RoR 9 EhR
theorem ror_leaf (F : Heap) (k : Nat) (n : Int) (s : List UInt8) (hs : s.length ≤ 140737488355328) : RvR F (⟨k, n, s⟩, .nil) [.int .u8 (k : Int), .int .i64 n, .string (bs s), .slice none 0 0] := ⟨[_, _, _], _, rfl, rfl, ⟨rfl, hs⟩, TrS.nil _ _ _⟩
theorem ror_exc {F : Heap} {cs : List Value} {x : Ex} (h : ReR F x cs) : ExC F cs x.1 x.2 := by
 obtain ⟨c, v, rfl, -, h1, h2⟩ := h
 exact exc_of h1 h2
theorem lnumCt (F : Heap) (n : Int) : Ct Tryz.prog 13 [.int .i64 n] F [] (fun F' _ u => ∃ cs, u = .agg ⟨cs⟩ ∧ cs.length = 4 ∧ RvR F' (intV n) cs) := by
 refine Ct.enter Tryz.func13 rfl Tryz.ntmps13 rfl fun w0 a S => ?_
 refine wp_sr fun Z hZ => ?_
 (refine wpl_alloc S rfl rfl rfl rfl ?_; clear S a; intro b2 a w S)
 (revert S a; revert hZ Z; refine go 5 ?_; intro Z hZ a S)
 (refine wso S rfl rfl ?_; clear S; intro w S)
 (revert S a; revert hZ Z; refine go 2 ?_; intro a S)
 refine wp_ret (fin_ret S (results1 Tryz.results13 (RV.cellO S rfl (by rfl))) ?_)
 (exact ⟨_, rfl, rfl, ror_leaf _ 2 n [] (by decide)⟩)
theorem lhugeCt (F : Heap) (s : List UInt8) (hs : s.length ≤ 140737488355328) : Ct Tryz.prog 17 [.string (bs s)] F [] (fun F' _ u => ∃ cs, u = .agg ⟨cs⟩ ∧ cs.length = 4 ∧ RvR F' (bigV s) cs) := by
 refine Ct.enter Tryz.func17 rfl Tryz.ntmps17 rfl fun w0 a S => ?_
 refine wp_sr fun Z hZ => ?_
 (refine wpl_alloc S rfl rfl rfl rfl ?_; clear S a; intro b2 a w S)
 (revert S a; revert hZ Z; refine go 5 ?_; intro Z hZ a S)
 (refine wso S rfl rfl ?_; clear S; intro w S)
 (revert S a; revert hZ Z; refine go 2 ?_; intro a S)
 refine wp_ret (fin_ret S (results1 Tryz.results17 (RV.cellO S rfl (by rfl))) ?_)
 (exact ⟨_, rfl, rfl, ror_leaf _ 3 0 s hs⟩)
theorem ltextCt (F : Heap) (s : List UInt8) (hs : s.length ≤ 140737488355328) : Ct Tryz.prog 14 [.string (bs s)] F [] (fun F' _ u => ∃ cs, u = .agg ⟨cs⟩ ∧ cs.length = 4 ∧ RvR F' (textV s) cs) := by
 refine Ct.enter Tryz.func14 rfl Tryz.ntmps14 rfl fun w0 a S => ?_
 refine wp_sr fun Z hZ => ?_
 (refine wpl_alloc S rfl rfl rfl rfl ?_; clear S a; intro b2 a w S)
 (revert S a; revert hZ Z; refine go 5 ?_; intro Z hZ a S)
 (refine wso S rfl rfl ?_; clear S; intro w S)
 (revert S a; revert hZ Z; refine go 2 ?_; intro a S)
 refine wp_ret (fin_ret S (results1 Tryz.results14 (RV.cellO S rfl (by rfl))) ?_)
 (exact ⟨_, rfl, rfl, ror_leaf _ 4 0 s hs⟩)
theorem ltruthCt (F : Heap) (b : Bool) : Ct Tryz.prog 19 [.bool b] F [] (fun F' _ u => ∃ cs, u = .agg ⟨cs⟩ ∧ cs.length = 4 ∧ RvR F' (boolV b) cs) := by
 refine Ct.enter Tryz.func19 rfl Tryz.ntmps19 rfl fun w0 a S => ?_
 refine wp_sr fun Z hZ => ?_
 (refine wpl_alloc S rfl rfl rfl rfl ?_; clear S a; intro b2 a w S)
 (revert S a; revert hZ Z; refine go 7 ?_; intro Z hZ a S)
 refine wpc_sp S rfl ?_ ?_ <;> intro h
 ·(revert S a; refine go 2 ?_; intro Z hZ a S)
  (refine wso S rfl rfl ?_; clear S; intro w S)
  (revert S a; revert hZ Z; refine go 2 ?_; intro a S)
  refine wp_ret (fin_ret S (results1 Tryz.results19 (RV.cellO S rfl (by rfl))) ?_)
  (subst h; exact ⟨_, rfl, rfl, ror_leaf _ 1 _ [] (by decide)⟩)
 (revert S a; revert hZ Z; refine go 4 ?_; intro Z hZ a S)
 (refine wso S rfl rfl ?_; clear S; intro w S)
 (revert S a; revert hZ Z; refine go 2 ?_; intro a S)
 refine wp_ret (fin_ret S (results1 Tryz.results19 (RV.cellO S rfl (by rfl))) ?_)
 (subst h; exact ⟨_, rfl, rfl, ror_leaf _ 1 _ [] (by decide)⟩)
theorem llitCt (F : Heap) (v : Vv) (cs : List Value) (h : RvR F v cs) : Ct Tryz.prog 12 [.agg ⟨cs⟩] F [] (fun F' _ u => ∃ cs, u = .agg ⟨cs⟩ ∧ cs.length = 9 ∧ ReR F' (litX v) cs) := by
 obtain ⟨c, w, rfl, -, ⟨rfl, hs⟩, hT⟩ := h
 have hTc := hT
 obtain ⟨a1, c1, rfl, -⟩ := hTc
 refine Ct.enter Tryz.func12 rfl Tryz.ntmps12 rfl fun w0 a S => ?_
 refine wp_sr fun Z hZ => ?_
 (refine wbx S ?_; clear S a; intro b1 a w S)
 (refine wpl_alloc S rfl rfl rfl rfl ?_; clear S a; intro b2 a w S)
 (revert S a; revert hZ Z; refine go 5 ?_; intro Z hZ a S)
 (refine wso S rfl rfl ?_; clear S; intro w S)
 (revert S a; revert hZ Z; refine go 2 ?_; intro a S)
 refine wp_ret (fin_ret S (results1 Tryz.results12 (RV.cellO S rfl (by rfl))) ?_)
 (exact ⟨_, rfl, rfl, [_, _, _, _, _, _, _, _], _, rfl, rfl, ⟨_, rfl, hT⟩, TrS.nil _ _ _⟩)
theorem lcallCt (F : Heap) (s : List UInt8) (L : Ef) (v : Value) (h : TrS F 9 EhR v L) : Ct Tryz.prog 15 [.string (bs s), v] F [] (fun F' _ u => ∃ cs, u = .agg ⟨cs⟩ ∧ cs.length = 9 ∧ ReR F' (callH s, L) cs) := by
 have hTc := h
 obtain ⟨a1, c1, rfl, -⟩ := hTc
 refine Ct.enter Tryz.func15 rfl Tryz.ntmps15 rfl fun w0 a S => ?_
 refine wp_sr fun Z hZ => ?_
 (refine wpl_alloc S rfl rfl rfl rfl ?_; clear S a; intro b4 a w S)
 (revert S a; revert hZ Z; refine go 6 ?_; intro Z hZ a S)
 (refine wso S rfl rfl ?_; clear S; intro w S)
 (revert S a; revert hZ Z; refine go 2 ?_; intro a S)
 refine wp_ret (fin_ret S (results1 Tryz.results15 (RV.cellO S rfl (by rfl))) ?_)
 (exact ⟨_, rfl, rfl, [_, _, _, _, _, _, _, _], _, rfl, rfl, ⟨_, rfl, TrS.nil _ _ _⟩, h⟩)
theorem cons0Ct (F : Heap) (s : List UInt8) : Ct Tryz.prog 126 [.pointer none, .string (bs s)] F [] (fun F2 _ u => ConsR F2 u none) := by
 refine Ct.enter Tryz.func126 rfl Tryz.ntmps126 rfl fun w0 a S => ?_
 refine wp_sr fun Z hZ => ?_
 (refine wpl_alloc S rfl rfl rfl rfl ?_; clear S a; intro b4 a w S)
 (revert S a; revert hZ Z; refine go 6 ?_; intro Z hZ Z hZ a S)
 (refine wv S (sv_lit (c := true) (sv_eqPtrNil S rfl rfl rfl) (by rfl)) ?_; clear S a; intro a S)
 (revert S a; revert hZ Z; refine go 2 ?_; intro a S)
 refine wpc_true S rfl ?_
 (revert S a; refine go 2 ?_; intro Z hZ a S)
 (refine wso S rfl rfl ?_; clear S; intro w S)
 (revert S a; revert hZ Z; refine go 3 ?_; intro a S)
 refine wp_ret (fin_ret S (results2 Tryz.results126 (RV.cellO S rfl (by rfl)) (RV.tmp S rfl)) ?_)
 (exact ⟨[], none, 0, 0, 0, none, 0, 0, rfl, fun y h => by cases h⟩)
theorem eval0Ct (F : Heap) (hT : TabF F) (hE : ErrF F) (x : Ex) (cs : List Value) (hX : ReR F x cs) (hg : GE x.1 x.2) : Ct Tryz.prog 8 [.pointer none, .agg ⟨cs⟩, .slice none 0 0] F [] (fun F' _ u => AnsR F' u (evalO [] [] x.1 x.2)) :=
 evalCt F hT hE none [] (fun F' nm _ => cons0Ct F' nm) [] _ (LiM.nil _ _ _) (fun x hx => by cases hx) x.1 x.2 cs (ror_exc hX) hg
def comesB (x : Ex) (v : Vv) (e : Int) : Bool := decide ((evalO [] [] x.1 x.2).1 = e) && sameV (evalO [] [] x.1 x.2).2 v
theorem comesCt (F : Heap) (hT : TabF F) (hE : ErrF F) (x : Ex) (cs : List Value) (hX : ReR F x cs) (hg : GE x.1 x.2) (v : Vv) (cv : List Value) (hv : RvR F v cv) (e : Int) : Ct Tryz.prog 20 [.agg ⟨cs⟩, .agg ⟨cv⟩, .int .i64 e] F [] (fun _ _ u => u = .bool (comesB x v e)) := by
 have hev := eval0Ct F hT hE x cs hX hg
 obtain ⟨a1, n1, c1, ao, cap, rfl, -, -⟩ := exc_slc (ror_exc hX)
 obtain ⟨a2, c2, rfl, hT2, hs2⟩ := vac_slc (ror_vac hv)
 unfold comesB
 generalize evalO [] [] x.1 x.2 = A at hev ⊢
 refine Ct.enter Tryz.func20 rfl Tryz.ntmps20 rfl fun w0 a S => ?_
 refine wp_sr fun Z hZ => ?_
 (refine wbx S ?_; clear S a; intro b3 a w S)
 (refine wbx S ?_; clear S a; intro b4 a w S)
 (revert S a; revert hZ Z; refine go 5 ?_; intro Z hZ a S)
 (refine wcF S hev ?_; clear S a; intro u9 F4 a w hv9 hF4 S; obtain ⟨cs4, rfl, hV4⟩ := hv9; obtain ⟨a4, c4, rfl, hT4, hs4⟩ := vac_slc hV4)
 (revert S a; refine go 3 ?_; intro a S)
 (refine wpl_alloc S rfl rfl rfl rfl ?_; clear S a; intro b7 a w S)
 (refine wso S rfl rfl ?_; clear S; intro w S)
 (revert S a; revert hZ Z; refine go 8 ?_; intro Z hZ a S)
 refine wgd S ?_ ?_
 ·(clear S; intro h S)
  (revert S a; refine go 4 ?_; intro a S)
  (refine wc0 S (sameCt (A.2.2.size + 1) F4 A.2 v _ _ (Nat.lt_succ_self _) ⟨_, rfl, hT4, hs4⟩ ⟨_, rfl, hT2.mono hF4, hs2⟩) ?_; clear S a; intro v a w hv S; subst hv)
  (revert S a; revert hZ Z; refine go 4 ?_; intro a S)
  refine wp_ret (fr1 S Tryz.results20 ?_)
  (congr 1; first | (rw [decide_eq_true (by omega)]; rfl) | (rw [decide_eq_false (by omega)]; rfl) | trace_state)
 (clear S a; intro h a S)
 (revert S a; revert hZ Z; refine go 6 ?_; intro a S)
 refine wp_ret (fr1 S Tryz.results20 ?_)
 (congr 1; first | (rw [decide_eq_true (by omega)]; rfl) | (rw [decide_eq_false (by omega)]; rfl) | trace_state)
theorem GE_lit {v : Vv} (g : GV v) : GE (litX v).1 (litX v).2 := ⟨g, ⟨Nat.zero_le _, Nat.zero_le _⟩, trivial⟩
theorem GE_call2 {s : List UInt8} {x y : Ex} (hs : s.length ≤ 140737488355328) (g : GE x.1 x.2) (g2 : GE y.1 y.2) : GE (callX2 s x y).1 (callX2 s x y).2 := ⟨GV_z, ⟨show 2 ≤ 3000 by decide, hs⟩, g, g2, trivial⟩
theorem GE_num {n : Int} (h : in64 n) : GE (litX (intV n)).1 (litX (intV n)).2 := GE_lit (GV_leaf h (by decide))
theorem GE_text {s : List UInt8} (h : s.length ≤ 200000) : GE (litX (textV s)).1 (litX (textV s)).2 := GE_lit (GV_leaf (by decide) h)
theorem GE_huge {s : List UInt8} (h : s.length ≤ 200000) : GE (litX (bigV s)).1 (litX (bigV s)).2 := GE_lit (GV_leaf (by decide) h)
theorem GE_truth (b : Bool) : GE (litX (boolV b)).1 (litX (boolV b)).2 := GE_lit (GV_bool b)
def xDiv : Ex := callX2 [47] (litX (intV 1)) (litX (intV 0))
theorem gDiv : GE xDiv.1 xDiv.2 := GE_call2 (by decide) (GE_num (by decide)) (GE_num (by decide))
theorem w1 : comesB (callX2 [47] (litX (intV 7)) (litX (intV (-2)))) (intV (-3)) 0 = true := by decide +kernel
theorem w2 : comesB (callX2 [37] (litX (intV 7)) (litX (intV (-2)))) (intV 1) 0 = true := by decide +kernel
theorem w3 : comesB xDiv zV 81 = true := by decide +kernel
theorem w4 : comesB (callX2 [42] (litX (bigV [51])) (litX (bigV [52]))) (bigV [49, 50]) 0 = true := by decide +kernel
theorem w5 : comesB (callX2 [43, 43] (litX (textV [97])) (litX (textV [98]))) (textV [97, 98]) 0 = true := by decide +kernel
theorem w6 : comesB (callX2 [97, 110, 100] (litX (boolV false)) (callX2 [61, 61] xDiv (litX (intV 1)))) (boolV false) 0 = true := by decide +kernel
theorem worksCt (F : Heap) (hT : TabF F) (hE : ErrF F) : Ct Tryz.prog 5 [] F [] (fun _ _ u => u = .bool true) := by
 have m : ∀ b o, F b = some o → F b = some o := fun _ _ h => h
 refine Ct.enter Tryz.func5 rfl Tryz.ntmps5 rfl fun w0 a S => ?_
 (revert S a; refine go 5 ?_; intro Z hZ a S)
 (refine wcF S (lnumCt F _) ?_; clear S a; intro v2 F2 a w hv hF2 S; obtain ⟨c2, rfl, -, r2⟩ := hv; obtain ⟨xa2, xb2, he2, -, -⟩ := vac_slc (ror_vac r2); subst he2; replace m := fun b o h => hF2 b o (m b o h))
 (refine wcF S (llitCt F2 _ _ r2) ?_; clear S a; intro v3 F3 a w hv hF3 S; obtain ⟨c3, rfl, -, r3⟩ := hv; obtain ⟨xa3, xb3, xc3, xd3, xe3, he3, -, -⟩ := exc_slc (ror_exc r3); subst he3; replace m := fun b o h => hF3 b o (m b o h))
 (refine wcF S (lnumCt F3 _) ?_; clear S a; intro v4 F4 a w hv hF4 S; obtain ⟨c4, rfl, -, r4⟩ := hv; obtain ⟨xa4, xb4, he4, -, -⟩ := vac_slc (ror_vac r4); subst he4; replace m := fun b o h => hF4 b o (m b o h))
 (refine wcF S (llitCt F4 _ _ r4) ?_; clear S a; intro v5 F5 a w hv hF5 S; obtain ⟨c5, rfl, -, r5⟩ := hv; obtain ⟨xa5, xb5, xc5, xd5, xe5, he5, -, -⟩ := exc_slc (ror_exc r5); subst he5; replace m := fun b o h => hF5 b o (m b o h))
 (refine wpl_buildSlice S rfl rfl rfl rfl rfl rfl (by rfl) (by simp [Value.cells, splice]) rfl (by rfl) (by rfl) ?_; clear S a; intro b6 a w hown S; have S' := frz1 S; clear S; obtain ⟨F6, hF6, hb6, S⟩ := S'; have r6 := trs_lim (lim_of (l := ([(litX (intV 1)), (litX (intV 0))] : List Ex)) hb6 (LiC.app (l := ([(litX (intV 1))] : List Ex)) (LiC.one (sz := 9) rfl (Mon.h (fun b o h => hF6 _ _ (hF5 _ _ (hF4 _ _ h))) r3)) (LiC.one (sz := 9) rfl (Mon.h (fun b o h => hF6 _ _ h) r5))) (show 2 ≤ _ by decide)); replace m := fun b o h => hF6 b o (m b o h))
 (refine wcF S (lcallCt F6 [47] (.cons (litX (intV 1)).1 (litX (intV 1)).2 (.cons (litX (intV 0)).1 (litX (intV 0)).2 .nil)) _ r6) ?_; clear S a; intro v7 F7 a w hv hF7 S; obtain ⟨c7, rfl, -, r7⟩ := hv; obtain ⟨xa7, xb7, xc7, xd7, xe7, he7, -, -⟩ := exc_slc (ror_exc r7); subst he7; replace m := fun b o h => hF7 b o (m b o h))
 (refine wpl_alloc S rfl rfl rfl rfl ?_; clear S a; intro b1 a w S)
 (refine wso S rfl rfl ?_; clear S; intro w S)
 (revert S a; revert hZ Z; refine go 2 ?_; intro a S)
 (refine wp_seq_k ?_; intro Z hZ)
 (have m2 : ∀ b o, F7 b = some o → F7 b = some o := fun _ _ h => h)
 (refine wpc_mixM [8, 17, 18, 19, 20, 22, 23, 32, 33, 42, 43, 46, 55] [19, 46] [] (.one 0 (.one 1 (.one 2 (.one 3 (.one 4 (.one 5 (.one 6 (.one 7 (.one 8 (.one 9 (.one 10 (.one 11 (.one 12 (.one 13 (.one 14 (.one 15 (.one 16 (.one 17 (.one 18 (.one 19 (.one 20 (.one 21 (.one 22 (.one 23 (.one 24 (.one 25 (.one 26 (.one 27 (.one 28 (.one 29 (.one 30 (.one 31 (.one 32 (.one 33 (.one 34 (.one 35 (.one 36 (.one 37 (.one 38 (.one 39 (.one 40 (.one 41 (.one 42 (.one 43 (.one 46 (.one 44 (.one 45 (.one 47 (.one 48 (.one 49 (.one 50 (.one 51 (.one 52 (.one 53 (.one 54 (.one 55 (.one 56 .nil))))))))))))))))))))))))))))))))))))))))))))))))))))))))) [b1] S mixed (by kernel_rfl) ?_; clear S; intro w S)
 refine wpm_eff rfl rfl (kwg S fun b o h => by exact m2 _ _ h) ?_
 (refine wcF S (lnumCt F7 _) ?_; clear S a; intro v8 F8 a w hv hF8 S; obtain ⟨c8, rfl, -, r8⟩ := hv; obtain ⟨xa8, xb8, he8, -, -⟩ := vac_slc (ror_vac r8); subst he8; replace m := fun b o h => hF8 b o (m b o h); replace m2 := fun b o h => hF8 b o (m2 b o h))
 refine wpList_nil ?_
 refine wpm_eff rfl rfl (kwg S fun b o h => by exact m2 _ _ h) ?_
 (refine wcF S (llitCt F8 _ _ r8) ?_; clear S a; intro v9 F9 a w hv hF9 S; obtain ⟨c9, rfl, -, r9⟩ := hv; obtain ⟨xa9, xb9, xc9, xd9, xe9, he9, -, -⟩ := exc_slc (ror_exc r9); subst he9; replace m := fun b o h => hF9 b o (m b o h); replace m2 := fun b o h => hF9 b o (m2 b o h))
 refine wpList_nil ?_
 refine wpm_eff rfl rfl (kwg S fun b o h => by exact m2 _ _ h) ?_
 (refine wcF S (lnumCt F9 _) ?_; clear S a; intro v10 F10 a w hv hF10 S; obtain ⟨c10, rfl, -, r10⟩ := hv; obtain ⟨xa10, xb10, he10, -, -⟩ := vac_slc (ror_vac r10); subst he10; replace m := fun b o h => hF10 b o (m b o h); replace m2 := fun b o h => hF10 b o (m2 b o h))
 refine wpList_nil ?_
 refine wpm_eff rfl rfl (kwg S fun b o h => by exact m2 _ _ h) ?_
 (refine wcF S (llitCt F10 _ _ r10) ?_; clear S a; intro v11 F11 a w hv hF11 S; obtain ⟨c11, rfl, -, r11⟩ := hv; obtain ⟨xa11, xb11, xc11, xd11, xe11, he11, -, -⟩ := exc_slc (ror_exc r11); subst he11; replace m := fun b o h => hF11 b o (m b o h); replace m2 := fun b o h => hF11 b o (m2 b o h))
 refine wpList_nil ?_
 refine wpm_eff rfl rfl (kwg S fun b o h => by exact m2 _ _ h) ?_
 (refine wpl_buildSlice S rfl rfl rfl rfl rfl rfl (by rfl) (by simp [Value.cells, splice]) rfl (by rfl) (by rfl) ?_; clear S a; intro b12 a w hown S; have S' := frz1 S; clear S; obtain ⟨F12, hF12, hb12, S⟩ := S'; have r12 := trs_lim (lim_of (l := ([(litX (intV 7)), (litX (intV (-2)))] : List Ex)) hb12 (LiC.app (l := ([(litX (intV 7))] : List Ex)) (LiC.one (sz := 9) rfl (Mon.h (fun b o h => hF12 _ _ (hF11 _ _ (hF10 _ _ h))) r9)) (LiC.one (sz := 9) rfl (Mon.h (fun b o h => hF12 _ _ h) r11))) (show 2 ≤ _ by decide)); replace m := fun b o h => hF12 b o (m b o h); replace m2 := fun b o h => hF12 b o (m2 b o h))
 refine wpList_nil ?_
 refine wpm_eff rfl rfl (kwg S fun b o h => by exact m2 _ _ h) ?_
 (refine wcF S (lcallCt F12 [47] (.cons (litX (intV 7)).1 (litX (intV 7)).2 (.cons (litX (intV (-2))).1 (litX (intV (-2))).2 .nil)) _ r12) ?_; clear S a; intro v13 F13 a w hv hF13 S; obtain ⟨c13, rfl, -, r13⟩ := hv; obtain ⟨xa13, xb13, xc13, xd13, xe13, he13, -, -⟩ := exc_slc (ror_exc r13); subst he13; replace m := fun b o h => hF13 b o (m b o h); replace m2 := fun b o h => hF13 b o (m2 b o h))
 refine wpList_nil ?_
 refine wpm_eff rfl rfl (kwg S fun b o h => by exact m2 _ _ h) ?_
 (refine wcF S (lnumCt F13 _) ?_; clear S a; intro v14 F14 a w hv hF14 S; obtain ⟨c14, rfl, -, r14⟩ := hv; obtain ⟨xa14, xb14, he14, -, -⟩ := vac_slc (ror_vac r14); subst he14; replace m := fun b o h => hF14 b o (m b o h); replace m2 := fun b o h => hF14 b o (m2 b o h))
 refine wpList_nil ?_
 refine wpm_eff rfl rfl (kwg S fun b o h => by exact m2 _ _ h) ?_
 (refine wc0 S (comesCt F14 (hT.mono m) (hE.mono m) (callX2 [47] (litX (intV 7)) (litX (intV (-2)))) _ (Mon.h (fun b o h => hF14 _ _ h) r13) (GE_call2 (by decide) (GE_num (by decide)) (GE_num (by decide))) (intV (-3)) _ r14 0) ?_; clear S a; intro v a w hv S; subst hv)
 (rw [w1] at S)
 (revert S a; refine go 2 ?_; intro a S)
 refine wpm_eff rfl rfl (kwg S fun b o h => by exact m2 _ _ h) ?_
 refine wpl_take S rfl rfl rfl ?_
 (refine wcF S (lnumCt F14 _) ?_; clear S a; intro v17 F17 a w hv hF17 S; obtain ⟨c17, rfl, -, r17⟩ := hv; obtain ⟨xa17, xb17, he17, -, -⟩ := vac_slc (ror_vac r17); subst he17; replace m := fun b o h => hF17 b o (m b o h); replace m2 := fun b o h => hF17 b o (m2 b o h))
 refine wpList_nil ?_
 refine wpm_eff rfl rfl (kwg S fun b o h => by exact m2 _ _ h) ?_
 refine wpl_take S rfl rfl rfl ?_
 (refine wcF S (llitCt F17 _ _ r17) ?_; clear S a; intro v18 F18 a w hv hF18 S; obtain ⟨c18, rfl, -, r18⟩ := hv; obtain ⟨xa18, xb18, xc18, xd18, xe18, he18, -, -⟩ := exc_slc (ror_exc r18); subst he18; replace m := fun b o h => hF18 b o (m b o h); replace m2 := fun b o h => hF18 b o (m2 b o h))
 refine wpList_nil ?_
 refine wpm_eff rfl rfl (kwg S fun b o h => by exact m2 _ _ h) ?_
 refine wpl_take S rfl rfl rfl ?_
 (refine wcF S (lnumCt F18 _) ?_; clear S a; intro v19 F19 a w hv hF19 S; obtain ⟨c19, rfl, -, r19⟩ := hv; obtain ⟨xa19, xb19, he19, -, -⟩ := vac_slc (ror_vac r19); subst he19; replace m := fun b o h => hF19 b o (m b o h); replace m2 := fun b o h => hF19 b o (m2 b o h))
 refine wpList_nil ?_
 refine wpm_eff rfl rfl (kwg S fun b o h => by exact m2 _ _ h) ?_
 refine wpl_take S rfl rfl rfl ?_
 (refine wcF S (llitCt F19 _ _ r19) ?_; clear S a; intro v20 F20 a w hv hF20 S; obtain ⟨c20, rfl, -, r20⟩ := hv; obtain ⟨xa20, xb20, xc20, xd20, xe20, he20, -, -⟩ := exc_slc (ror_exc r20); subst he20; replace m := fun b o h => hF20 b o (m b o h); replace m2 := fun b o h => hF20 b o (m2 b o h))
 refine wpList_nil ?_
 refine wpm_eff rfl rfl (kwg S fun b o h => by exact m2 _ _ h) ?_
 refine wpl_take S rfl rfl rfl ?_
 (refine wpl_buildSlice S rfl rfl rfl rfl rfl rfl (by rfl) (by simp [Value.cells, splice]) rfl (by rfl) (by rfl) ?_; clear S a; intro b21 a w hown S; have S' := frz1 S; clear S; obtain ⟨F21, hF21, hb21, S⟩ := S'; have r21 := trs_lim (lim_of (l := ([(litX (intV 7)), (litX (intV (-2)))] : List Ex)) hb21 (LiC.app (l := ([(litX (intV 7))] : List Ex)) (LiC.one (sz := 9) rfl (Mon.h (fun b o h => hF21 _ _ (hF20 _ _ (hF19 _ _ h))) r18)) (LiC.one (sz := 9) rfl (Mon.h (fun b o h => hF21 _ _ h) r20))) (show 2 ≤ _ by decide)); replace m := fun b o h => hF21 b o (m b o h); replace m2 := fun b o h => hF21 b o (m2 b o h))
 refine wpList_nil ?_
 refine wpm_eff rfl rfl (kwg S fun b o h => by exact m2 _ _ h) ?_
 refine wpl_take S rfl rfl rfl ?_
 (refine wcF S (lcallCt F21 [37] (.cons (litX (intV 7)).1 (litX (intV 7)).2 (.cons (litX (intV (-2))).1 (litX (intV (-2))).2 .nil)) _ r21) ?_; clear S a; intro v22 F22 a w hv hF22 S; obtain ⟨c22, rfl, -, r22⟩ := hv; obtain ⟨xa22, xb22, xc22, xd22, xe22, he22, -, -⟩ := exc_slc (ror_exc r22); subst he22; replace m := fun b o h => hF22 b o (m b o h); replace m2 := fun b o h => hF22 b o (m2 b o h))
 refine wpList_nil ?_
 refine wpm_eff rfl rfl (kwg S fun b o h => by exact m2 _ _ h) ?_
 refine wpl_take S rfl rfl rfl ?_
 (refine wcF S (lnumCt F22 _) ?_; clear S a; intro v23 F23 a w hv hF23 S; obtain ⟨c23, rfl, -, r23⟩ := hv; obtain ⟨xa23, xb23, he23, -, -⟩ := vac_slc (ror_vac r23); subst he23; replace m := fun b o h => hF23 b o (m b o h); replace m2 := fun b o h => hF23 b o (m2 b o h))
 refine wpList_nil ?_
 refine wpm_eff rfl rfl (kwg S fun b o h => by exact m2 _ _ h) ?_
 refine wpl_take S rfl rfl rfl ?_
 (refine wc0 S (comesCt F23 (hT.mono m) (hE.mono m) (callX2 [37] (litX (intV 7)) (litX (intV (-2)))) _ (Mon.h (fun b o h => hF23 _ _ h) r22) (GE_call2 (by decide) (GE_num (by decide)) (GE_num (by decide))) (intV 1) _ r23 0) ?_; clear S a; intro v a w hv S; subst hv)
 (rw [w2] at S)
 (revert S a; refine go 5 ?_; intro a S)
 refine wpm_eff rfl rfl (kwg S fun b o h => by exact m2 _ _ h) ?_
 refine wpl_take S rfl rfl rfl ?_
 (refine wc0 S (comesCt F23 (hT.mono m) (hE.mono m) xDiv _ (Mon.h (fun b o h => hF23 _ _ (hF22 _ _ (hF21 _ _ (hF20 _ _ (hF19 _ _ (hF18 _ _ (hF17 _ _ (hF14 _ _ (hF13 _ _ (hF12 _ _ (hF11 _ _ (hF10 _ _ (hF9 _ _ (hF8 _ _ h)))))))))))))) r7) gDiv zV _ (ror_leaf _ 0 0 [] (by decide)) 81) ?_; clear S a; intro v a w hv S; subst hv)
 (rw [w3] at S)
 (revert S a; refine go 3 ?_; intro a S)
 refine wpm_eff rfl rfl (kwg S fun b o h => by exact m2 _ _ h) ?_
 refine wpl_take S rfl rfl rfl ?_
 (refine wcF S (lhugeCt F23 [51] (by decide)) ?_; clear S a; intro v32 F32 a w hv hF32 S; obtain ⟨c32, rfl, -, r32⟩ := hv; obtain ⟨xa32, xb32, he32, -, -⟩ := vac_slc (ror_vac r32); subst he32; replace m := fun b o h => hF32 b o (m b o h); replace m2 := fun b o h => hF32 b o (m2 b o h))
 refine wpList_nil ?_
 refine wpm_eff rfl rfl (kwg S fun b o h => by exact m2 _ _ h) ?_
 refine wpl_take S rfl rfl rfl ?_
 (refine wcF S (llitCt F32 _ _ r32) ?_; clear S a; intro v33 F33 a w hv hF33 S; obtain ⟨c33, rfl, -, r33⟩ := hv; obtain ⟨xa33, xb33, xc33, xd33, xe33, he33, -, -⟩ := exc_slc (ror_exc r33); subst he33; replace m := fun b o h => hF33 b o (m b o h); replace m2 := fun b o h => hF33 b o (m2 b o h))
 refine wpList_nil ?_
 refine wpm_eff rfl rfl (kwg S fun b o h => by exact m2 _ _ h) ?_
 refine wpl_take S rfl rfl rfl ?_
 (refine wcF S (lhugeCt F33 [52] (by decide)) ?_; clear S a; intro v34 F34 a w hv hF34 S; obtain ⟨c34, rfl, -, r34⟩ := hv; obtain ⟨xa34, xb34, he34, -, -⟩ := vac_slc (ror_vac r34); subst he34; replace m := fun b o h => hF34 b o (m b o h); replace m2 := fun b o h => hF34 b o (m2 b o h))
 refine wpList_nil ?_
 refine wpm_eff rfl rfl (kwg S fun b o h => by exact m2 _ _ h) ?_
 refine wpl_take S rfl rfl rfl ?_
 (refine wcF S (llitCt F34 _ _ r34) ?_; clear S a; intro v35 F35 a w hv hF35 S; obtain ⟨c35, rfl, -, r35⟩ := hv; obtain ⟨xa35, xb35, xc35, xd35, xe35, he35, -, -⟩ := exc_slc (ror_exc r35); subst he35; replace m := fun b o h => hF35 b o (m b o h); replace m2 := fun b o h => hF35 b o (m2 b o h))
 refine wpList_nil ?_
 refine wpm_eff rfl rfl (kwg S fun b o h => by exact m2 _ _ h) ?_
 refine wpl_take S rfl rfl rfl ?_
 (refine wpl_buildSlice S rfl rfl rfl rfl rfl rfl (by rfl) (by simp [Value.cells, splice]) rfl (by rfl) (by rfl) ?_; clear S a; intro b36 a w hown S; have S' := frz1 S; clear S; obtain ⟨F36, hF36, hb36, S⟩ := S'; have r36 := trs_lim (lim_of (l := ([(litX (bigV [51])), (litX (bigV [52]))] : List Ex)) hb36 (LiC.app (l := ([(litX (bigV [51]))] : List Ex)) (LiC.one (sz := 9) rfl (Mon.h (fun b o h => hF36 _ _ (hF35 _ _ (hF34 _ _ h))) r33)) (LiC.one (sz := 9) rfl (Mon.h (fun b o h => hF36 _ _ h) r35))) (show 2 ≤ _ by decide)); replace m := fun b o h => hF36 b o (m b o h); replace m2 := fun b o h => hF36 b o (m2 b o h))
 refine wpList_nil ?_
 refine wpm_eff rfl rfl (kwg S fun b o h => by exact m2 _ _ h) ?_
 refine wpl_take S rfl rfl rfl ?_
 (refine wcF S (lcallCt F36 [42] (.cons (litX (bigV [51])).1 (litX (bigV [51])).2 (.cons (litX (bigV [52])).1 (litX (bigV [52])).2 .nil)) _ r36) ?_; clear S a; intro v37 F37 a w hv hF37 S; obtain ⟨c37, rfl, -, r37⟩ := hv; obtain ⟨xa37, xb37, xc37, xd37, xe37, he37, -, -⟩ := exc_slc (ror_exc r37); subst he37; replace m := fun b o h => hF37 b o (m b o h); replace m2 := fun b o h => hF37 b o (m2 b o h))
 refine wpList_nil ?_
 refine wpm_eff rfl rfl (kwg S fun b o h => by exact m2 _ _ h) ?_
 refine wpl_take S rfl rfl rfl ?_
 (refine wcF S (lhugeCt F37 [49, 50] (by decide)) ?_; clear S a; intro v38 F38 a w hv hF38 S; obtain ⟨c38, rfl, -, r38⟩ := hv; obtain ⟨xa38, xb38, he38, -, -⟩ := vac_slc (ror_vac r38); subst he38; replace m := fun b o h => hF38 b o (m b o h); replace m2 := fun b o h => hF38 b o (m2 b o h))
 refine wpList_nil ?_
 refine wpm_eff rfl rfl (kwg S fun b o h => by exact m2 _ _ h) ?_
 refine wpl_take S rfl rfl rfl ?_
 (refine wc0 S (comesCt F38 (hT.mono m) (hE.mono m) (callX2 [42] (litX (bigV [51])) (litX (bigV [52]))) _ (Mon.h (fun b o h => hF38 _ _ h) r37) (GE_call2 (by decide) (GE_huge (by decide)) (GE_huge (by decide))) (bigV [49, 50]) _ r38 0) ?_; clear S a; intro v a w hv S; subst hv)
 (rw [w4] at S)
 (revert S a; refine go 3 ?_; intro a S)
 refine wpm_eff rfl rfl (kwg S fun b o h => by exact m2 _ _ h) ?_
 refine wpl_take S rfl rfl rfl ?_
 (refine wcF S (ltextCt F38 [97] (by decide)) ?_; clear S a; intro v42 F42 a w hv hF42 S; obtain ⟨c42, rfl, -, r42⟩ := hv; obtain ⟨xa42, xb42, he42, -, -⟩ := vac_slc (ror_vac r42); subst he42; replace m := fun b o h => hF42 b o (m b o h); replace m2 := fun b o h => hF42 b o (m2 b o h))
 refine wpList_nil ?_
 refine wpm_eff rfl rfl (kwg S fun b o h => by exact m2 _ _ h) ?_
 refine wpl_take S rfl rfl rfl ?_
 (refine wcF S (llitCt F42 _ _ r42) ?_; clear S a; intro v43 F43 a w hv hF43 S; obtain ⟨c43, rfl, -, r43⟩ := hv; obtain ⟨xa43, xb43, xc43, xd43, xe43, he43, -, -⟩ := exc_slc (ror_exc r43); subst he43; replace m := fun b o h => hF43 b o (m b o h); replace m2 := fun b o h => hF43 b o (m2 b o h))
 refine wpList_nil ?_
 refine wpm_eff rfl rfl (kwg S fun b o h => by exact m2 _ _ h) ?_
 refine wpl_take S rfl rfl rfl ?_
 (refine wcF S (ltextCt F43 [98] (by decide)) ?_; clear S a; intro v44 F44 a w hv hF44 S; obtain ⟨c44, rfl, -, r44⟩ := hv; obtain ⟨xa44, xb44, he44, -, -⟩ := vac_slc (ror_vac r44); subst he44; replace m := fun b o h => hF44 b o (m b o h); replace m2 := fun b o h => hF44 b o (m2 b o h))
 refine wpList_nil ?_
 refine wpm_eff rfl rfl (kwg S fun b o h => by exact m2 _ _ h) ?_
 refine wpl_take S rfl rfl rfl ?_
 (refine wcF S (llitCt F44 _ _ r44) ?_; clear S a; intro v45 F45 a w hv hF45 S; obtain ⟨c45, rfl, -, r45⟩ := hv; obtain ⟨xa45, xb45, xc45, xd45, xe45, he45, -, -⟩ := exc_slc (ror_exc r45); subst he45; replace m := fun b o h => hF45 b o (m b o h); replace m2 := fun b o h => hF45 b o (m2 b o h))
 refine wpList_nil ?_
 refine wpm_eff rfl rfl (kwg S fun b o h => by exact m2 _ _ h) ?_
 refine wpl_take S rfl rfl rfl ?_
 (refine wpl_buildSlice S rfl rfl rfl rfl rfl rfl (by rfl) (by simp [Value.cells, splice]) rfl (by rfl) (by rfl) ?_; clear S a; intro b46 a w hown S; have S' := frz1 S; clear S; obtain ⟨F46, hF46, hb46, S⟩ := S'; have r46 := trs_lim (lim_of (l := ([(litX (textV [97])), (litX (textV [98]))] : List Ex)) hb46 (LiC.app (l := ([(litX (textV [97]))] : List Ex)) (LiC.one (sz := 9) rfl (Mon.h (fun b o h => hF46 _ _ (hF45 _ _ (hF44 _ _ h))) r43)) (LiC.one (sz := 9) rfl (Mon.h (fun b o h => hF46 _ _ h) r45))) (show 2 ≤ _ by decide)); replace m := fun b o h => hF46 b o (m b o h); replace m2 := fun b o h => hF46 b o (m2 b o h))
 refine wpList_nil ?_
 refine wpm_eff rfl rfl (kwg S fun b o h => by exact m2 _ _ h) ?_
 refine wpl_take S rfl rfl rfl ?_
 (refine wcF S (lcallCt F46 [43, 43] (.cons (litX (textV [97])).1 (litX (textV [97])).2 (.cons (litX (textV [98])).1 (litX (textV [98])).2 .nil)) _ r46) ?_; clear S a; intro v47 F47 a w hv hF47 S; obtain ⟨c47, rfl, -, r47⟩ := hv; obtain ⟨xa47, xb47, xc47, xd47, xe47, he47, -, -⟩ := exc_slc (ror_exc r47); subst he47; replace m := fun b o h => hF47 b o (m b o h); replace m2 := fun b o h => hF47 b o (m2 b o h))
 refine wpList_nil ?_
 refine wpm_eff rfl rfl (kwg S fun b o h => by exact m2 _ _ h) ?_
 refine wpl_take S rfl rfl rfl ?_
 (refine wcF S (ltextCt F47 [97, 98] (by decide)) ?_; clear S a; intro v48 F48 a w hv hF48 S; obtain ⟨c48, rfl, -, r48⟩ := hv; obtain ⟨xa48, xb48, he48, -, -⟩ := vac_slc (ror_vac r48); subst he48; replace m := fun b o h => hF48 b o (m b o h); replace m2 := fun b o h => hF48 b o (m2 b o h))
 refine wpList_nil ?_
 refine wpm_eff rfl rfl (kwg S fun b o h => by exact m2 _ _ h) ?_
 refine wpl_take S rfl rfl rfl ?_
 (refine wc0 S (comesCt F48 (hT.mono m) (hE.mono m) (callX2 [43, 43] (litX (textV [97])) (litX (textV [98]))) _ (Mon.h (fun b o h => hF48 _ _ h) r47) (GE_call2 (by decide) (GE_text (by decide)) (GE_text (by decide))) (textV [97, 98]) _ r48 0) ?_; clear S a; intro v a w hv S; subst hv)
 (rw [w5] at S)
 (revert S a; refine go 4 ?_; intro a S)
 refine wpm_eff rfl rfl (kwg S fun b o h => by exact m2 _ _ h) ?_
 refine wpl_take S rfl rfl rfl ?_
 (refine wcF S (ltruthCt F48 _) ?_; clear S a; intro v52 F52 a w hv hF52 S; obtain ⟨c52, rfl, -, r52⟩ := hv; obtain ⟨xa52, xb52, he52, -, -⟩ := vac_slc (ror_vac r52); subst he52; replace m := fun b o h => hF52 b o (m b o h); replace m2 := fun b o h => hF52 b o (m2 b o h))
 refine wpList_nil ?_
 refine wpm_eff rfl rfl (kwg S fun b o h => by exact m2 _ _ h) ?_
 refine wpl_take S rfl rfl rfl ?_
 (refine wcF S (llitCt F52 _ _ r52) ?_; clear S a; intro v53 F53 a w hv hF53 S; obtain ⟨c53, rfl, -, r53⟩ := hv; obtain ⟨xa53, xb53, xc53, xd53, xe53, he53, -, -⟩ := exc_slc (ror_exc r53); subst he53; replace m := fun b o h => hF53 b o (m b o h); replace m2 := fun b o h => hF53 b o (m2 b o h))
 refine wpList_nil ?_
 refine wpm_eff rfl rfl (kwg S fun b o h => by exact m2 _ _ h) ?_
 refine wpl_take S rfl rfl rfl ?_
 (refine wcF S (lnumCt F53 _) ?_; clear S a; intro v55 F55 a w hv hF55 S; obtain ⟨c55, rfl, -, r55⟩ := hv; obtain ⟨xa55, xb55, he55, -, -⟩ := vac_slc (ror_vac r55); subst he55; replace m := fun b o h => hF55 b o (m b o h); replace m2 := fun b o h => hF55 b o (m2 b o h))
 refine wpList_nil ?_
 refine wpm_eff rfl rfl (kwg S fun b o h => by exact m2 _ _ h) ?_
 refine wpl_take S rfl rfl rfl ?_
 (refine wcF S (llitCt F55 _ _ r55) ?_; clear S a; intro v56 F56 a w hv hF56 S; obtain ⟨c56, rfl, -, r56⟩ := hv; obtain ⟨xa56, xb56, xc56, xd56, xe56, he56, -, -⟩ := exc_slc (ror_exc r56); subst he56; replace m := fun b o h => hF56 b o (m b o h); replace m2 := fun b o h => hF56 b o (m2 b o h))
 refine wpList_nil ?_
 refine wpm_eff rfl rfl (kwg S fun b o h => by exact m2 _ _ h) ?_
 refine wpl_take S rfl rfl rfl ?_
 (refine wpl_buildSlice S rfl rfl rfl rfl rfl rfl (by rfl) (by simp [Value.cells, splice]) rfl (by rfl) (by rfl) ?_; clear S a; intro b57 a w hown S; have S' := frz1 S; clear S; obtain ⟨F57, hF57, hb57, S⟩ := S'; have r57 := trs_lim (lim_of (l := ([xDiv, (litX (intV 1))] : List Ex)) hb57 (LiC.app (l := ([xDiv] : List Ex)) (LiC.one (sz := 9) rfl (Mon.h (fun b o h => hF57 _ _ (hF56 _ _ (hF55 _ _ (hF53 _ _ (hF52 _ _ (hF48 _ _ (hF47 _ _ (hF46 _ _ (hF45 _ _ (hF44 _ _ (hF43 _ _ (hF42 _ _ (hF38 _ _ (hF37 _ _ (hF36 _ _ (hF35 _ _ (hF34 _ _ (hF33 _ _ (hF32 _ _ (hF23 _ _ (hF22 _ _ (hF21 _ _ (hF20 _ _ (hF19 _ _ (hF18 _ _ (hF17 _ _ (hF14 _ _ (hF13 _ _ (hF12 _ _ (hF11 _ _ (hF10 _ _ (hF9 _ _ (hF8 _ _ h))))))))))))))))))))))))))))))))) r7)) (LiC.one (sz := 9) rfl (Mon.h (fun b o h => hF57 _ _ h) r56))) (show 2 ≤ _ by decide)); replace m := fun b o h => hF57 b o (m b o h); replace m2 := fun b o h => hF57 b o (m2 b o h))
 refine wpList_nil ?_
 refine wpm_eff rfl rfl (kwg S fun b o h => by exact m2 _ _ h) ?_
 refine wpl_take S rfl rfl rfl ?_
 (refine wcF S (lcallCt F57 [61, 61] (.cons xDiv.1 xDiv.2 (.cons (litX (intV 1)).1 (litX (intV 1)).2 .nil)) _ r57) ?_; clear S a; intro v58 F58 a w hv hF58 S; obtain ⟨c58, rfl, -, r58⟩ := hv; obtain ⟨xa58, xb58, xc58, xd58, xe58, he58, -, -⟩ := exc_slc (ror_exc r58); subst he58; replace m := fun b o h => hF58 b o (m b o h); replace m2 := fun b o h => hF58 b o (m2 b o h))
 refine wpList_nil ?_
 refine wpm_eff rfl rfl (kwg S fun b o h => by exact m2 _ _ h) ?_
 refine wpl_take S rfl rfl rfl ?_
 (refine wpl_buildSlice S rfl rfl rfl rfl rfl rfl (by rfl) (by simp [Value.cells, splice]) rfl (by rfl) (by rfl) ?_; clear S a; intro b59 a w hown S; have S' := frz1 S; clear S; obtain ⟨F59, hF59, hb59, S⟩ := S'; have r59 := trs_lim (lim_of (l := ([(litX (boolV false)), (callX2 [61, 61] xDiv (litX (intV 1)))] : List Ex)) hb59 (LiC.app (l := ([(litX (boolV false))] : List Ex)) (LiC.one (sz := 9) rfl (Mon.h (fun b o h => hF59 _ _ (hF58 _ _ (hF57 _ _ (hF56 _ _ (hF55 _ _ h))))) r53)) (LiC.one (sz := 9) rfl (Mon.h (fun b o h => hF59 _ _ h) r58))) (show 2 ≤ _ by decide)); replace m := fun b o h => hF59 b o (m b o h); replace m2 := fun b o h => hF59 b o (m2 b o h))
 refine wpList_nil ?_
 refine wpm_eff rfl rfl (kwg S fun b o h => by exact m2 _ _ h) ?_
 refine wpl_take S rfl rfl rfl ?_
 (refine wcF S (lcallCt F59 [97, 110, 100] (.cons (litX (boolV false)).1 (litX (boolV false)).2 (.cons (callX2 [61, 61] xDiv (litX (intV 1))).1 (callX2 [61, 61] xDiv (litX (intV 1))).2 .nil)) _ r59) ?_; clear S a; intro v60 F60 a w hv hF60 S; obtain ⟨c60, rfl, -, r60⟩ := hv; obtain ⟨xa60, xb60, xc60, xd60, xe60, he60, -, -⟩ := exc_slc (ror_exc r60); subst he60; replace m := fun b o h => hF60 b o (m b o h); replace m2 := fun b o h => hF60 b o (m2 b o h))
 refine wpList_nil ?_
 refine wpm_eff rfl rfl (kwg S fun b o h => by exact m2 _ _ h) ?_
 refine wpl_take S rfl rfl rfl ?_
 (refine wcF S (ltruthCt F60 _) ?_; clear S a; intro v61 F61 a w hv hF61 S; obtain ⟨c61, rfl, -, r61⟩ := hv; obtain ⟨xa61, xb61, he61, -, -⟩ := vac_slc (ror_vac r61); subst he61; replace m := fun b o h => hF61 b o (m b o h); replace m2 := fun b o h => hF61 b o (m2 b o h))
 refine wpList_nil ?_
 refine wpm_eff rfl rfl (kwg S fun b o h => by exact m2 _ _ h) ?_
 refine wpl_take S rfl rfl rfl ?_
 (refine wc0 S (comesCt F61 (hT.mono m) (hE.mono m) (callX2 [97, 110, 100] (litX (boolV false)) (callX2 [61, 61] xDiv (litX (intV 1)))) _ (Mon.h (fun b o h => hF61 _ _ h) r60) (GE_call2 (by decide) (GE_truth _) (GE_call2 (by decide) gDiv (GE_num (by decide)))) (boolV false) _ r61 0) ?_; clear S a; intro v a w hv S; subst hv)
 (rw [w6] at S)
 (revert S a; refine go 2 ?_; intro a S)
 refine wpm_eff rfl rfl (kwg S fun b o h => by exact m2 _ _ h) ?_
 (revert S a; refine go 2 ?_; intro a S)
 (refine wpm_nil (kwg S fun b o h => by exact m2 _ _ h) (hZ _ _ ?_); clear hZ Z)
 refine wp_ret (fr1 S Tryz.results5 ?_)
 rfl
def Pr (r : Ex × Ex) : Prop := GE r.1.1 r.1.2 ∧ GE r.2.1 r.2.2 ∧ ((evalO [] [] r.1.1 r.1.2).1 = 0 → (evalO [] [] r.2.1 r.2.2).1 = 0 → (evalO [] [] r.1.1 r.1.2).2 = (evalO [] [] r.2.1 r.2.2).2)
def NV : Vf → Prop
 | .nil => True
 | .cons h L r => (in64 h.n ∧ h.s.length ≤ 140737488355328) ∧ NV L ∧ NV r
def NVv (x : Vv) : Prop := (in64 x.1.n ∧ x.1.s.length ≤ 140737488355328) ∧ NV x.2
theorem NV.get : ∀ {l : Vf} {k : Nat} {x : Vv}, NV l → l.get? k = some x → NVv x
 | .cons h L r, 0, x, ⟨h1, h2, _⟩, e => by cases e; exact ⟨h1, h2⟩
 | .cons h L r, k + 1, x, ⟨_, _, h3⟩, e => NV.get (l := r) h3 e
def dpE : Ef → Int
 | .nil => 0
 | .cons _ L r => max (dpE L + 1) (dpE r)
def NH (h : EH) : Prop := NVv (h.v, h.vl) ∧ dpR h.vl ≤ 2000000 ∧ h.nm.length ≤ 140737488355328
def NE : Ef → Prop
 | .nil => True
 | .cons h L r => NH h ∧ NE L ∧ NE r
def NEe (x : Ex) : Prop := NH x.1 ∧ NE x.2
theorem NE.get : ∀ {l : Ef} {k : Nat} {x : Ex}, NE l → l.get? k = some x → NEe x
 | .cons h L r, 0, x, ⟨h1, h2, _⟩, e => by cases e; exact ⟨h1, h2⟩
 | .cons h L r, k + 1, x, ⟨_, _, h3⟩, e => NE.get (l := r) h3 e
theorem bd {b : Bool} {p : Prop} [Decidable p] (h : b = true ↔ p) : b = decide p := by rw [Bool.eq_iff_iff, decide_eq_true_eq]; exact h
end Go.Proofs.YtgefmjghdijbfaaGreatDoor
namespace Go.De
open Go Go.Wk Go.Un Go.ChangeShapes Go.WideShapes
set_option linter.unusedSimpArgs false
set_option linter.unusedVariables false
class Msr {H : Type} (μ : DataW H → Nat) : Prop where
  s : ∀ {d : DataW H} {es sp : List (DataW H)}, d ∈ es → μ d < μ (.slice es sp)
  a : ∀ {d : DataW H} {ps : List (DataW H)}, d ∈ ps → μ d < μ (.agg ps)
section
variable {H : Type} (μ : DataW H → Nat) (enc : TypeId × Value → H) (P : Program) (w : World) (spare : Nat → Bool) (held : Bool)
def Opn (m : Nat) (t : TypeId) (R : List Value → Prop) : Prop := ∀ (fuel : Nat) (cs : List Value) (d : DataW H) (p : List MemPlace), μ d < m → DataW.trod enc P w 0 spare held fuel t cs = some (d, p) → (d.weights P t).all (· ≤ reachBytes) = true → R cs
inductive OpnAll (m : Nat) : List Field → List (List Value → Prop) → Prop
  | nil : OpnAll m [] []
  | cons {f : Field} {fs : List Field} {R : List Value → Prop} {Rs : List (List Value → Prop)} (h : Opn μ enc P w spare held m f.type R) (r : OpnAll m fs Rs) : OpnAll m (f :: fs) (R :: Rs)
end
section
variable {H : Type} {μ : DataW H → Nat} [hμ : Msr μ] {enc : TypeId × Value → H} {P : Program} {w : World} {spare : Nat → Bool} {held : Bool} {m : Nat} {t : TypeId}
omit hμ in
omit hμ in
theorem Opn.lt {R : List Value → Prop} {m' : Nat} (h : Opn μ enc P w spare held m t R) (hm : m' ≤ m) : Opn μ enc P w spare held m' t R := fun f cs d p h1 h2 h3 => h f cs d p (Nat.lt_of_lt_of_le h1 hm) h2 h3
omit hμ in
omit hμ in
omit hμ in
omit hμ in
end
end Go.De
namespace Go.Proofs.YtgefmjghdijbfaaGreatDoor
open Go Go.Wk Go.Un Go.De Go.Num Go.ChangeShapes Go.WideShapes Go.ChangeAt Go.RowKit
set_option linter.unusedSimpArgs false
set_option linter.unusedVariables false
attribute [local irreducible] Go.wpList Go.Code.wp Go.wpStill Go.Wk.wpPre Go.bodyPost Go.Calls Go.Wk.Ct Go.Wk.OwnS Go.Wk.wpG Go.Wk.wpM
def Ne (m : Nat) (x : Ex) : Prop := NEe x ∧ dpE x.2 + 1 ≤ (m : Int)
def KSz (css : List KC) : Prop := ∀ c ∈ css, c.ps.length ≤ 2000000 ∧ c.fs.length ≤ 2000000 ∧ FThin c.fs
theorem KSz.of {css : List KC} {s : List UInt8} {x : KC} (hK : KSz css) (h : findC css s = some x ∨ findC css s = none ∧ x = zKC) : x.ps.length ≤ 2000000 ∧ x.fs.length ≤ 2000000 ∧ FThin x.fs := by
 rcases h with h | ⟨-, rfl⟩
 ·exact hK x (List.mem_of_find?_eq_some h)
 ·exact ⟨Nat.zero_le _, Nat.zero_le _, fun y hy => by cases hy⟩
def RTab (F : Heap) (tp : Nat) (ts : List TD) : Prop := ∃ (ao : Option Addr) (cap : Nat), Cel F tp 2 (.slice ao ts.length cap) ∧ LiM F 6 TdR (.slice ao ts.length cap) ts
theorem RTab.mono {F F' : Heap} {tp : Nat} {ts : List TD} (h : RTab F tp ts) (hF : ∀ b o, F b = some o → F' b = some o) : RTab F' tp ts := by
 obtain ⟨ao, cap, h1, h2⟩ := h
 exact ⟨ao, cap, h1.mono hF, h2.mono hF⟩
end Go.Proofs.YtgefmjghdijbfaaGreatDoor
namespace Go.Wk
open Go
set_option linter.unusedSimpArgs false
set_option linter.unusedVariables false
section
variable {P : Program} {ops : Array Oper} {Q : Exit → Act → World → Prop} {rest : List Oper} {n : Sz} {L : List (Nat × Value)} {w0 : World} {F0 : Heap} {K0 : List Nat} {F : Heap} {G : List Grp} {a : Act} {w : World} {o : Oper}
def cutA (ao : Option Addr) (i c sz : Nat) : Option Addr := if c = i then ao else ao.map (fun a : Addr => a.add (i * sz))
end
end Go.Wk
namespace Go.Proofs.YtgefmjghdijbfaaGreatDoor
open Go Go.Wk Go.Un Go.De Go.Cv
set_option linter.unusedSimpArgs false
set_option linter.unusedVariables false
attribute [local irreducible] Go.wpList Go.Code.wp Go.wpStill Go.Wk.wpPre Go.bodyPost Go.Calls Go.Wk.Ct Go.Wk.OwnS Go.Wk.wpG Go.Wk.wpM
structure TzR (ts : List TD) : Prop where
  l : ts.length ≤ 10000
  c : ∀ x ∈ ts, x.cs.length ≤ 2000000 ∧ x.ps.length ≤ 2000000 ∧ ∀ c ∈ x.cs, ∀ f ∈ c.fs, depthL f.ta ≤ 2000000
def RRel (F : Heap) (tp : Nat) (rs : List RD) : Prop := ∃ (ao : Option Addr) (cap : Nat), Cel F tp 3 (.slice ao rs.length cap) ∧ LiM F 6 RdR (.slice ao rs.length cap) rs
theorem RRel.mono {F F' : Heap} {tp : Nat} {rs : List RD} (h : RRel F tp rs) (hF : ∀ b o, F b = some o → F' b = some o) : RRel F' tp rs := by
 obtain ⟨ao, cap, h1, h2⟩ := h
 exact ⟨ao, cap, h1.mono hF, h2.mono hF⟩
def TbG (M : MD) (F' : Heap) (tv : Option Addr) : Prop := ∃ tb m1 m2 m3, tv = some ⟨tb, 0, none⟩ ∧ TabS F' tb m1 m2 m3 M.ts (consOf M.ts) M.rs
theorem TbG.mono {M : MD} {F F' : Heap} {tv : Option Addr} (h : TbG M F tv) (hF : ∀ b o, F b = some o → F' b = some o) : TbG M F' tv := by
 obtain ⟨tb, m1, m2, m3, h1, h2⟩ := h
 exact ⟨tb, m1, m2, m3, h1, h2.mono hF⟩
end Go.Proofs.YtgefmjghdijbfaaGreatDoor
