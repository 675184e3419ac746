/- Walks. -/
import Derived.Test.YtgefmjghdijbfaaGreatDoorQ18
import Derived.Test.YtgefmjghdijbfaaGreatDoorQ14
import Derived.Test.YtgefmjghdijbfaaGreatDoorQShelf
import Derived.Test.YtgefmjghdijbfaaGreatDoorQ17
import Derived.Test.YtgefmjghdijbfaaGreatDoorQ07
import Derived.Test.YtgefmjghdijbfaaGreatDoorQ11
set_option maxHeartbeats 2000000
namespace Go.Proofs.YtgefmjghdijbfaaGreatDoor
open Go Go.Wk Go.Un Go.De Go.Num
set_option linter.unusedSimpArgs false
set_option linter.unusedVariables false
attribute [local irreducible] Go.wpList Go.Code.wp Go.wpStill Go.Wk.wpPre Go.bodyPost Go.Calls Go.Wk.Ct Go.Wk.OwnS Go.Wk.wpG Go.Wk.wpM
def AnsR (F : Heap) (u : Value) (x : Ans) : Prop := ∃ cs, u = .tuple ⟨[.agg ⟨cs⟩, .int .i64 x.1]⟩ ∧ VaC F cs x.2.1 x.2.2
theorem vac_z (F : Heap) {k : Nat} {n : Int} {s : List UInt8} (hs : s.length ≤ 140737488355328) : VaC F [.int .u8 (k : Int), .int .i64 n, .string (bs s), .slice none 0 0] ⟨k, n, s⟩ .nil := ⟨_, rfl, TrS.nil _ _ _, hs⟩
theorem ans_no (F : Heap) (e : Int) : AnsR F (.tuple ⟨[.agg ⟨[.int .u8 0, .int .i64 0, .string (bs []), .slice none 0 0]⟩, .int .i64 e]⟩) (noA e) := ⟨_, rfl, vac_z F (k := 0) (by decide)⟩
theorem eTruthCt (F : Heap) (b : Bool) : Ct Tryz.prog 119 [.bool b] F [] (fun _ _ u => u = .agg ⟨[.int .u8 1, .int .i64 (if b then 1 else 0), .string (bs []), .slice none 0 0]⟩) := by
 refine Ct.enter Tryz.func119 rfl Tryz.ntmps119 rfl fun w0 a S => ?_
 refine wp_sr fun Z hZ => ?_
 (refine wpl_alloc S rfl rfl rfl rfl ?_; clear S a; intro b2 a w S)
 (revert S a; revert hZ Z; refine go 7 ?_; intro Z hZ a S)
 refine wpc_sp S rfl ?_ ?_ <;> intro h
 ·(revert S a; refine go 2 ?_; intro Z hZ a S)
  (refine wso S rfl rfl ?_; clear S; intro w S)
  (revert S a; revert hZ Z; refine go 2 ?_; intro a S)
  refine wp_ret (fin_ret S (results1 Tryz.results119 (RV.cellO S rfl (by rfl))) ?_)
  (rw [h]; rfl)
 (revert S a; revert hZ Z; refine go 4 ?_; intro Z hZ a S)
 (refine wso S rfl rfl ?_; clear S; intro w S)
 (revert S a; revert hZ Z; refine go 2 ?_; intro a S)
 refine wp_ret (fin_ret S (results1 Tryz.results119 (RV.cellO S rfl (by rfl))) ?_)
 (rw [h]; rfl)
theorem eWholeCt (F : Heap) (n : Int) : Ct Tryz.prog 109 [.int .i64 n] F [] (fun _ _ u => u = .agg ⟨[.int .u8 2, .int .i64 n, .string (bs []), .slice none 0 0]⟩) := by
 refine Ct.enter Tryz.func109 rfl Tryz.ntmps109 rfl fun w0 a S => ?_
 refine wp_sr fun Z hZ => ?_
 (refine wpl_alloc S rfl rfl rfl rfl ?_; clear S a; intro b2 a w S)
 (revert S a; revert hZ Z; refine go 5 ?_; intro Z hZ a S)
 (refine wso S rfl rfl ?_; clear S; intro w S)
 (revert S a; revert hZ Z; refine go 2 ?_; intro a S)
 refine wp_ret (fin_ret S (results1 Tryz.results109 (RV.cellO S rfl (by rfl))) ?_)
 rfl
theorem zzEvB0 {p : Prop} (h : p := by (show _ = cmpV (if in64 (x + y) then (x + y, 0) else (0, 80)); first | (rw [if_neg (show ¬ in64 _ by unfold in64; omega)]; rfl) | (rw [if_pos (show in64 _ by unfold in64; omega), show c = x + y by omega]; rfl) | trace_state)) : p := h
theorem eAddCt (F : Heap) (x y : Int) (hx : in64 x) (hy : in64 y) : Ct Tryz.prog 57 [.int .i64 x, .int .i64 y] F [] (fun _ _ u => u = cmpV (intO 0 x y)) := by
 unfold in64 at hx hy
 refine Ct.enter Tryz.func57 rfl Tryz.ntmps57 rfl fun w0 a S => ?_
 (revert S a; refine go 8 ?_; intro Z hZ a S)
 (refine wv S (sv_addW S rfl rfl rfl) ?_; clear S a; intro a S; have hc := IntKind.wrap_i64 (x + y); generalize IntKind.i64.wrap (x + y) = c at S hc)
 (revert S a; revert hZ Z; refine go 11 ?_; intro Z hZ Z hZ a S)
 (rw [neD] at S)
 (revert S a; refine go 1 ?_; intro a S)
 refine wgd S ?_ ?_
 ·(clear S; intro h S)
  (revert S a; revert hZ Z; refine go 6 ?_; intro a S)
  refine wpc_sp S rfl ?_ ?_ <;> intro h
  ·(revert S a; refine go 5 ?_; intro a S)
   refine wp_ret (fr2 S Tryz.results57 ?_)
   exact zzEvB0
  (revert S a; revert hZ Z; refine go 8 ?_; intro a S)
  refine wp_ret (fr2 S Tryz.results57 ?_)
  exact zzEvB0
 (clear S a; intro h a S)
 (revert S a; revert hZ Z; refine go 4 ?_; intro a S)
 refine wpc_false S rfl ?_
 (revert S a; revert hZ Z; refine go 8 ?_; intro a S)
 refine wp_ret (fr2 S Tryz.results57 ?_)
 exact zzEvB0
theorem zzEvB1 {p : Prop} (h : p := by (show _ = cmpV (if in64 (x - y) then (x - y, 0) else (0, 80)); first | (rw [if_neg (show ¬ in64 _ by unfold in64; omega)]; rfl) | (rw [if_pos (show in64 _ by unfold in64; omega), show c = x - y by omega]; rfl) | trace_state)) : p := h
theorem eSubCt (F : Heap) (x y : Int) (hx : in64 x) (hy : in64 y) : Ct Tryz.prog 59 [.int .i64 x, .int .i64 y] F [] (fun _ _ u => u = cmpV (intO 1 x y)) := by
 unfold in64 at hx hy
 refine Ct.enter Tryz.func59 rfl Tryz.ntmps59 rfl fun w0 a S => ?_
 (revert S a; refine go 8 ?_; intro Z hZ a S)
 (refine wv S (sv_subW S rfl rfl rfl) ?_; clear S a; intro a S; have hc := IntKind.wrap_i64 (x - y); generalize IntKind.i64.wrap (x - y) = c at S hc)
 (revert S a; revert hZ Z; refine go 11 ?_; intro Z hZ Z hZ a S)
 (rw [neD] at S)
 (revert S a; refine go 1 ?_; intro a S)
 refine wgd S ?_ ?_
 ·(clear S; intro h S)
  (revert S a; revert hZ Z; refine go 6 ?_; intro a S)
  refine wpc_sp S rfl ?_ ?_ <;> intro h
  ·(revert S a; refine go 5 ?_; intro a S)
   refine wp_ret (fr2 S Tryz.results59 ?_)
   exact zzEvB1
  (revert S a; revert hZ Z; refine go 8 ?_; intro a S)
  refine wp_ret (fr2 S Tryz.results59 ?_)
  exact zzEvB1
 (clear S a; intro h a S)
 (revert S a; revert hZ Z; refine go 4 ?_; intro a S)
 refine wpc_false S rfl ?_
 (revert S a; revert hZ Z; refine go 8 ?_; intro a S)
 refine wp_ret (fr2 S Tryz.results59 ?_)
 exact zzEvB1
theorem eSizeCt (F : Heap) (x : Int) (hx : in64 x) : Ct Tryz.prog 115 [.int .i64 x] F [] (fun _ _ u => u = .int .u64 (x.natAbs : Int)) := by
 unfold in64 at hx
 refine Ct.enter Tryz.func115 rfl Tryz.ntmps115 rfl fun w0 a S => ?_
 (revert S a; refine go 10 ?_; intro Z hZ a S)
 refine wpc_sp S rfl ?_ ?_ <;> intro h
 ·(revert S a; refine go 2 ?_; intro Z hZ a S)
  (refine wv S (sv_conv S rfl rfl) ?_; clear S a; intro a S; have hc := IntKind.wrap_u64 x; generalize IntKind.u64.wrap x = c at S hc)
  (refine wv S (sv_negW S rfl rfl) ?_; clear S a; intro a S; have hd := IntKind.wrap_u64 (0 - c); generalize IntKind.u64.wrap (0 - c) = d at S hd)
  (revert S a; revert hZ Z; refine go 3 ?_; intro a S)
  refine wp_ret (fr1 S Tryz.results115 ?_)
  (congr 1; omega)
 (revert S a; revert hZ Z; refine go 4 ?_; intro Z hZ a S)
 (refine wv S (sv_conv S rfl rfl) ?_; clear S a; intro a S; have hc := IntKind.wrap_u64 x; generalize IntKind.u64.wrap x = c at S hc)
 (revert S a; revert hZ Z; refine go 3 ?_; intro a S)
 refine wp_ret (fr1 S Tryz.results115 ?_)
 (congr 1; omega)
theorem mul_abs (x y : Int) : (¬ (x < 0 ↔ y < 0) → x * y = -((x.natAbs * y.natAbs : Nat) : Int)) ∧ ((x < 0 ↔ y < 0) → x * y = ((x.natAbs * y.natAbs : Nat) : Int)) := by
 constructor
 ·intro h
  by_cases hx : x < 0
  ·have hy : ¬ y < 0 := fun h9 => h ⟨fun _ => h9, fun _ => hx⟩
   rw [Int.natCast_mul, show ((x.natAbs : Nat) : Int) = -x by omega, show ((y.natAbs : Nat) : Int) = y by omega, Int.neg_mul, Int.neg_neg]
  ·have hy : y < 0 := by
    by_cases h9 : y < 0
    ·exact h9
    ·exact absurd ⟨fun h8 => absurd h8 hx, fun h8 => absurd h8 h9⟩ h
   rw [Int.natCast_mul, show ((x.natAbs : Nat) : Int) = x by omega, show ((y.natAbs : Nat) : Int) = -y by omega, Int.mul_neg, Int.neg_neg]
 ·intro h
  by_cases hx : x < 0
  ·have hy := h.1 hx
   rw [Int.natCast_mul, show ((x.natAbs : Nat) : Int) = -x by omega, show ((y.natAbs : Nat) : Int) = -y by omega, Int.neg_mul_neg]
  ·have hy : ¬ y < 0 := fun h9 => hx (h.2 h9)
   rw [Int.natCast_mul, show ((x.natAbs : Nat) : Int) = x by omega, show ((y.natAbs : Nat) : Int) = y by omega]
theorem mul64Ct (F : Heap) (x y : Nat) (hx : x < 18446744073709551616) (hy : y < 18446744073709551616) : Ct Tryz.prog 114 [.int .u64 x, .int .u64 y] F [] (fun _ _ u => u = .tuple ⟨[.int .u64 ((x * y / 18446744073709551616 : Nat) : Int), .int .u64 ((x * y % 18446744073709551616 : Nat) : Int)]⟩) := by
 refine ct_of_below fun w hw => ?_
 refine (Tryz.bits_Mul64 x y hx hy w).mono fun e w' ⟨h1, h2⟩ => ⟨?_, ?_⟩
 ·rw [h1]
 ·rw [h2]; exact RowKit.Below.refl _ _
theorem zzEvB2 {p : Prop} (h : p := by (show _ = cmpV (if in64 (x * y) then (x * y, 0) else (0, 80)); generalize x * y = z at hab1 hab2 ⊢; first | (rw [if_neg (show ¬ in64 _ by unfold in64; omega)]; rfl) | (rw [if_pos (show in64 _ by unfold in64; omega), show c = z by omega]; rfl) | trace_state)) : p := h
theorem eMulCt (F : Heap) (x y : Int) (hx : in64 x) (hy : in64 y) : Ct Tryz.prog 61 [.int .i64 x, .int .i64 y] F [] (fun _ _ u => u = cmpV (intO 2 x y)) := by
 have hsx := eSizeCt F x hx
 have hsy := eSizeCt F y hy
 unfold in64 at hx hy
 have hm := mul64Ct F x.natAbs y.natAbs (by omega) (by omega)
 obtain ⟨hab1, hab2⟩ := mul_abs x y
 generalize x.natAbs * y.natAbs = p at hab1 hab2 hm
 refine Ct.enter Tryz.func61 rfl Tryz.ntmps61 rfl fun w0 a S => ?_
 (revert S a; refine go 7 ?_; intro Z hZ a S)
 (refine wc0 S hsx ?_; clear S a; intro v a w hv S; subst hv)
 (revert S a; refine go 1 ?_; intro a S)
 (refine wc0 S hsy ?_; clear S a; intro v a w hv S; subst hv)
 (refine wc0 S (hm) ?_; clear S a; intro v a w hv S; subst hv)
 (revert S a; revert hZ Z; refine go 13 ?_; intro Z hZ a S)
 (rw [neD] at S)
 (revert S a; revert hZ Z; refine go 9 ?_; intro Z hZ Z hZ a S)
 refine wgd S ?_ ?_
 ·(clear S; intro h S)
  (revert S a; refine go 5 ?_; intro a S)
  refine wgd S ?_ ?_
  ·(clear S; intro h S)
   (revert S a; refine go 5 ?_; intro a S)
   refine wgd S ?_ ?_
   ·(clear S; intro h S)
    (revert S a; revert hZ Z; refine go 9 ?_; intro a S)
    refine wpc_sp S rfl ?_ ?_ <;> intro h
    ·(revert S a; refine go 5 ?_; intro a S)
     refine wp_ret (fr2 S Tryz.results61 ?_)
     exact zzEvB2
    (revert S a; refine go 5 ?_; intro a S)
    refine wpc_sp S rfl ?_ ?_ <;> intro h
    ·(revert S a; refine go 2 ?_; intro Z hZ a S)
     (refine wv S (sv_negW S rfl rfl) ?_; clear S a; intro a S; have hd := IntKind.wrap_u64 (0 - ((p % 18446744073709551616 : Nat) : Int)); generalize IntKind.u64.wrap (0 - ((p % 18446744073709551616 : Nat) : Int)) = d at S hd)
     (refine wv S (sv_conv S rfl rfl) ?_; clear S a; intro a S; have hc := IntKind.wrap_i64 d; generalize IntKind.i64.wrap d = c at S hc)
     (revert S a; revert hZ Z; refine go 4 ?_; intro a S)
     refine wp_ret (fr2 S Tryz.results61 ?_)
     exact zzEvB2
    (revert S a; revert hZ Z; refine go 4 ?_; intro Z hZ a S)
    (refine wv S (sv_conv S rfl rfl) ?_; clear S a; intro a S; have hc := IntKind.wrap_i64 ((p % 18446744073709551616 : Nat) : Int); generalize IntKind.i64.wrap ((p % 18446744073709551616 : Nat) : Int) = c at S hc)
    (revert S a; revert hZ Z; refine go 4 ?_; intro a S)
    refine wp_ret (fr2 S Tryz.results61 ?_)
    exact zzEvB2
   (clear S a; intro h a S)
   (revert S a; revert hZ Z; refine go 7 ?_; intro a S)
   refine wpc_false S rfl ?_
   (revert S a; refine go 5 ?_; intro a S)
   refine wpc_sp S rfl ?_ ?_ <;> intro h
   ·(revert S a; refine go 2 ?_; intro Z hZ a S)
    (refine wv S (sv_negW S rfl rfl) ?_; clear S a; intro a S; have hd := IntKind.wrap_u64 (0 - ((p % 18446744073709551616 : Nat) : Int)); generalize IntKind.u64.wrap (0 - ((p % 18446744073709551616 : Nat) : Int)) = d at S hd)
    (refine wv S (sv_conv S rfl rfl) ?_; clear S a; intro a S; have hc := IntKind.wrap_i64 d; generalize IntKind.i64.wrap d = c at S hc)
    (revert S a; revert hZ Z; refine go 4 ?_; intro a S)
    refine wp_ret (fr2 S Tryz.results61 ?_)
    exact zzEvB2
   (revert S a; revert hZ Z; refine go 4 ?_; intro Z hZ a S)
   (refine wv S (sv_conv S rfl rfl) ?_; clear S a; intro a S; have hc := IntKind.wrap_i64 ((p % 18446744073709551616 : Nat) : Int); generalize IntKind.i64.wrap ((p % 18446744073709551616 : Nat) : Int) = c at S hc)
   (revert S a; revert hZ Z; refine go 4 ?_; intro a S)
   refine wp_ret (fr2 S Tryz.results61 ?_)
   exact zzEvB2
  (clear S a; intro h a S)
  (revert S a; revert hZ Z; refine go 9 ?_; intro a S)
  refine wpc_true S rfl ?_
  (revert S a; refine go 5 ?_; intro a S)
  refine wp_ret (fr2 S Tryz.results61 ?_)
  exact zzEvB2
 (clear S a; intro h a S)
 (revert S a; revert hZ Z; refine go 13 ?_; intro a S)
 refine wpc_true S rfl ?_
 (revert S a; refine go 5 ?_; intro a S)
 refine wp_ret (fr2 S Tryz.results61 ?_)
 exact zzEvB2
theorem zzEvB3 {p : Prop} (h : p := by (first | (rw [if_pos (by omega)]; rfl) | (have hy1 : y = -1 := (by omega); subst hy1; rw [if_neg (by decide), Int.tdiv_neg, Int.tdiv_one, ← Int.zero_sub]; rfl) | (rw [if_neg (by omega), if_pos (show in64 _ by unfold in64; omega)]; rfl) | trace_state)) : p := h
theorem eDivCt (F : Heap) (x y : Int) (hx : in64 x) (hy : in64 y) : Ct Tryz.prog 63 [.int .i64 x, .int .i64 y] F [] (fun _ _ u => u = cmpV (intO 3 x y)) := by
 have hs := eSubCt F 0 x (by decide) hx
 unfold in64 at hx hy
 show Ct Tryz.prog _ _ F [] (fun _ _ u => u = cmpV (if y = 0 then ((0 : Int), (81 : Int)) else if in64 (x.tdiv y) then (x.tdiv y, 0) else (0, 80)))
 refine Ct.enter Tryz.func63 rfl Tryz.ntmps63 rfl fun w0 a S => ?_
 (revert S a; refine go 13 ?_; intro Z hZ a S)
 refine wpc_sp S rfl ?_ ?_ <;> intro h
 ·(revert S a; refine go 5 ?_; intro a S)
  refine wp_ret (fr2 S Tryz.results63 ?_)
  exact zzEvB3
 (revert S a; refine go 6 ?_; intro a S)
 refine wpc_sp S rfl ?_ ?_ <;> intro h
 ·(revert S a; refine go 2 ?_; intro Z hZ a S)
  (refine wc0 S (hs) ?_; clear S a; intro v a w hv S; subst hv)
  (revert S a; revert hZ Z; refine go 6 ?_; intro a S)
  refine wp_ret (fr2 S Tryz.results63 ?_)
  exact zzEvB3
 (revert S a; revert hZ Z; refine go 5 ?_; intro Z hZ a S)
 (have hh := tdiv_half (x := x) (y := y); have h1 : y = 1 → x.tdiv y = x := (fun e => by rw [e, Int.tdiv_one]); (refine wv S (sv_quoG S rfl rfl rfl (by omega) (by omega)) ?_; clear S a; intro a S))
 (revert S a; revert hZ Z; refine go 4 ?_; intro a S)
 refine wp_ret (fr2 S Tryz.results63 ?_)
 exact zzEvB3
theorem zzEvB4 {p : Prop} (h : p := by (first | (rw [if_pos (by omega)]; rfl) | (have hy1 : y = -1 := (by omega); subst hy1; rw [if_neg (by decide), Int.tmod_neg, Int.tmod_one]; rfl) | (rw [if_neg (by omega)]; rfl) | trace_state)) : p := h
theorem eModCt (F : Heap) (x y : Int) : Ct Tryz.prog 65 [.int .i64 x, .int .i64 y] F [] (fun _ _ u => u = cmpV (intO 4 x y)) := by
 show Ct Tryz.prog _ _ F [] (fun _ _ u => u = cmpV (if y = 0 then ((0 : Int), (81 : Int)) else (x.tmod y, 0)))
 refine Ct.enter Tryz.func65 rfl Tryz.ntmps65 rfl fun w0 a S => ?_
 (revert S a; refine go 16 ?_; intro Z hZ a S)
 refine wpc_sp S rfl ?_ ?_ <;> intro h
 ·(revert S a; refine go 5 ?_; intro a S)
  refine wp_ret (fr2 S Tryz.results65 ?_)
  exact zzEvB4
 (revert S a; refine go 5 ?_; intro a S)
 refine wpc_sp S rfl ?_ ?_ <;> intro h
 ·(revert S a; refine go 5 ?_; intro a S)
  refine wp_ret (fr2 S Tryz.results65 ?_)
  exact zzEvB4
 (revert S a; revert hZ Z; refine go 5 ?_; intro Z hZ a S)
 (refine wv S (sv_remG S rfl rfl rfl (by omega)) ?_; clear S a; intro a S)
 (revert S a; revert hZ Z; refine go 4 ?_; intro a S)
 refine wp_ret (fr2 S Tryz.results65 ?_)
 exact zzEvB4
theorem zzEvB5 {p : Prop} (h : p := by (first | (rw [if_pos (by omega)]; exact ans_no _ _) | (rw [if_neg (by omega), if_pos (by omega)]; exact ans_no _ _) | (rw [if_neg (by omega), if_neg (by omega)]; exact ⟨_, rfl, vac_z _ (k := 4) (by rw [List.length_append]; omega)⟩) | trace_state)) : p := h
theorem eTextsCt (F : Heap) (x y : Vv) (cx cy : List Value) (hx : VaC F cx x.1 x.2) (hy : VaC F cy y.1 y.2) (bx : x.1.s.length ≤ 1000000) (by_ : y.1.s.length ≤ 1000000) : Ct Tryz.prog 74 [.agg ⟨cx⟩, .agg ⟨cy⟩] F [] (fun F' _ u => AnsR F' u (catO x y)) := by
 obtain ⟨⟨xk, xn, xs⟩, xl⟩ := x
 obtain ⟨⟨yk, yn, ys⟩, yl⟩ := y
 obtain ⟨v1, rfl, ⟨a1, c1, rfl, -⟩, -⟩ := hx
 obtain ⟨v2, rfl, ⟨a2, c2, rfl, -⟩, -⟩ := hy
 dsimp only at *
 unfold catO
 dsimp only
 refine Ct.enter Tryz.func74 rfl Tryz.ntmps74 rfl fun w0 a S => ?_
 refine wp_sr fun Z hZ => ?_
 (refine wbx S ?_; clear S a; intro b2 a w S)
 (refine wbx S ?_; clear S a; intro b3 a w S)
 (refine wpl_alloc S rfl rfl rfl rfl ?_; clear S a; intro b4 a w S)
 (revert S a; revert hZ Z; refine go 10 ?_; intro Z hZ Z hZ a S)
 refine wgd S ?_ ?_
 ·(clear S; intro h S)
  (revert S a; revert hZ Z; refine go 9 ?_; intro a S)
  refine wpc_sp S rfl ?_ ?_ <;> intro h
  ·(revert S a; refine go 2 ?_; intro Z hZ a S)
   (refine wso S rfl rfl ?_; clear S; intro w S)
   (revert S a; revert hZ Z; refine go 3 ?_; intro a S)
   refine wp_ret (fin_ret S (results2 Tryz.results74 (RV.cellO S rfl (by rfl)) (RV.tmp S rfl)) ?_)
   exact zzEvB5
  (revert S a; refine go 12 ?_; intro a S)
  refine wpc_sp S rfl ?_ ?_ <;> intro h
  ·(revert S a; refine go 2 ?_; intro Z hZ a S)
   (refine wso S rfl rfl ?_; clear S; intro w S)
   (revert S a; revert hZ Z; refine go 3 ?_; intro a S)
   refine wp_ret (fin_ret S (results2 Tryz.results74 (RV.cellO S rfl (by rfl)) (RV.tmp S rfl)) ?_)
   exact zzEvB5
  (revert S a; revert hZ Z; refine go 7 ?_; intro Z hZ a S)
  (refine wv S (sv_cat S rfl rfl rfl (by first | omega | (simp only [List.length_append, List.length_cons, List.length_nil]; omega))) ?_; clear S a; intro a S)
  (revert S a; refine go 1 ?_; intro a S)
  (refine wso S rfl rfl ?_; clear S; intro w S)
  (revert S a; revert hZ Z; refine go 3 ?_; intro a S)
  refine wp_ret (fin_ret S (results2 Tryz.results74 (RV.cellO S rfl (by rfl)) (RV.tmp S rfl)) ?_)
  exact zzEvB5
 (clear S a; intro h a S)
 (revert S a; revert hZ Z; refine go 6 ?_; intro a S)
 refine wpc_true S rfl ?_
 (revert S a; refine go 2 ?_; intro Z hZ a S)
 (refine wso S rfl rfl ?_; clear S; intro w S)
 (revert S a; revert hZ Z; refine go 3 ?_; intro a S)
 refine wp_ret (fin_ret S (results2 Tryz.results74 (RV.cellO S rfl (by rfl)) (RV.tmp S rfl)) ?_)
 exact zzEvB5
theorem decV_cons (c : UInt8) (r : List UInt8) : decV (c :: r) = dv c * 10 ^ r.length + decV r := by
 have := decV_append [c] r
 rw [List.singleton_append] at this
 rw [this]; congr 1; simp [decV]
theorem parseM (l : List UInt8) : ∀ acc : Nat, l.all isD = true → acc ≤ 18446744073709551615 → Lib.parseUintM (2 ^ 64 - 1) acc l = if acc * 10 ^ l.length + decV l ≤ 18446744073709551615 then .ok (acc * 10 ^ l.length + decV l) else .range := by
 induction l with
 | nil => intro acc _ ha; simp [Lib.parseUintM, decV_nil, ha]
 | cons c r ih =>
  intro acc hall ha
  rw [List.all_cons, Bool.and_eq_true] at hall
  have hc := (isD_iff c).1 hall.1
  have hdv : dv c = c.toNat - 48 := rfl
  have hp : 1 ≤ 10 ^ r.length := Nat.pow_pos (by decide)
  have hge : acc * 10 + dv c ≤ (acc * 10 + dv c) * 10 ^ r.length := Nat.le_mul_of_pos_right _ hp
  have hval : acc * 10 ^ (c :: r).length + decV (c :: r) = (acc * 10 + dv c) * 10 ^ r.length + decV r := by
   rw [decV_cons, List.length_cons, Nat.pow_succ, Nat.add_mul, Nat.mul_assoc, Nat.mul_comm 10, ← Nat.mul_assoc, Nat.add_assoc, Nat.mul_assoc]
  rw [hval]
  unfold Lib.parseUintM
  rw [if_pos hc]
  by_cases h1 : 1844674407370955162 ≤ acc
  ·rw [if_pos h1, if_neg (by omega)]
  ·rw [if_neg h1, ← hdv]
   by_cases h2 : 2 ^ 64 - 1 < acc * 10 + dv c
   ·rw [if_pos h2, if_neg (by omega)]
   ·rw [if_neg h2]
    exact ih _ hall.2 (by omega)
def fitsI (z : Int) : Bool := decide (-9223372036854775808 ≤ z) && decide (z ≤ 9223372036854775807)
theorem parse_int {s : List UInt8} (h : checkS s = 0) : Lib.parseIntB 64 s = if fitsI (valS s) = true then .ok (valS s) else .range := by
 obtain ⟨h1, h2, h3, h4⟩ := check_parts h
 have hu : Lib.parseUintB 64 (bodyS s) = if decV (bodyS s) ≤ 18446744073709551615 then .ok (decV (bodyS s)) else .range := by
  unfold Lib.parseUintB
  rw [if_neg h3, parseM _ 0 h1 (by decide)]; simp
 cases s with
 | nil => exact absurd rfl h3
 | cons c r =>
  unfold Lib.parseIntB
  by_cases hc : c = 45
  ·subst hc
   have hb : bodyS (45 :: r) = r := (body_neg r).1
   have hn : negS (45 :: r) = true := (body_neg r).2
   rw [hb] at hu
   have hv : valS (45 :: r) = -(decV r : Int) := by unfold valS; rw [hb, hn]; rfl
   rw [hv]
   simp only [show (45 : UInt8).toNat = 45 from rfl, or_true, if_true, hu, not_true, false_and, if_false, true_and]
   unfold fitsI
   by_cases hd : decV r ≤ 18446744073709551615
   ·rw [if_pos hd]
    simp only
    by_cases hd2 : 2 ^ (64 - 1) < decV r
    ·rw [if_pos hd2, if_neg (by simp; omega)]
    ·rw [if_neg hd2, if_pos (by simp; omega)]
   ·rw [if_neg hd, if_neg (by simp; omega)]
  ·have hb : bodyS (c :: r) = c :: r := by unfold bodyS; rw [if_neg (by simpa using hc)]
   have hn : negS (c :: r) = false := by unfold negS; simpa using hc
   rw [hb] at hu h1
   have hcd := (isD_iff c).1 (by rw [List.all_cons, Bool.and_eq_true] at h1; exact h1.1)
   have hv : valS (c :: r) = (decV (c :: r) : Int) := by unfold valS; rw [hb, hn]; rfl
   rw [hv]
   have e1 : ¬ c.toNat = 43 := by omega
   have e2 : ¬ c.toNat = 45 := by omega
   simp only [e1, e2, or_self, if_false, hu, not_false_eq_true, true_and, false_and]
   unfold fitsI
   by_cases hd : decV (c :: r) ≤ 18446744073709551615
   ·rw [if_pos hd]
    simp only
    by_cases hd2 : 2 ^ (64 - 1) ≤ decV (c :: r)
    ·rw [if_pos hd2, if_neg (by simp; omega)]
    ·rw [if_neg hd2, if_pos (by simp; omega)]
   ·rw [if_neg hd, if_neg (by simp; omega)]
def ErrF (F : Heap) : Prop := ∃ ev, Cel F 6 0 ev ∧ (ev = .nilIface ∨ ∃ te pe, ev = .iface te pe)
theorem ErrF.mono {F F' : Heap} (hF : ∀ b o, F b = some o → F' b = some o) (h : ErrF F) : ErrF F' := by
 obtain ⟨ev, h1, h2⟩ := h; exact ⟨ev, h1.mono hF, h2⟩
theorem parseIntOk (s : List UInt8) (F : Heap) (hck : checkS s = 0) (hf : fitsI (valS s) = true) (hs : s.length ≤ 1000000) : Ct Tryz.prog 204 [.string (bs s), .int .i64 10, .int .i64 64] F [] (fun _ _ u => u = .tuple ⟨[.int .i64 (valS s), .nilIface]⟩) := by
 refine ct_of_below fun w hw => ?_
 refine (Tryz.strconv_ParseInt_10_at64_ok (bs s) (by rw [bs_size]; omega) (valS s) (by rw [show (bs s).data.toList = s from rfl, parse_int hck, if_pos hf]) w).mono fun e w' ⟨h1, h2⟩ => ⟨h1, ?_⟩
 rcases h2 with rfl | ⟨t, rfl⟩
 ·exact RowKit.Below.refl _ _
 ·exact Lib.bytesWorld_below w _ t
theorem parseIntRange (s : List UInt8) (F : Heap) (hE : ErrF F) (hck : checkS s = 0) (hf : ¬ fitsI (valS s) = true) (hs : s.length ≤ 1000000) : Ct Tryz.prog 204 [.string (bs s), .int .i64 10, .int .i64 64] F [] (fun _ _ u => ∃ n t v, u = .tuple ⟨[.int .i64 n, .iface t v]⟩) := by
 obtain ⟨ev, hc, hev⟩ := hE
 refine ct_of_below2 fun w hw => ?_
 exact (Tryz.strconv_ParseInt_10_at64_range (bs s) (by rw [bs_size]; omega) (by rw [show (bs s).data.toList = s from rfl, parse_int hck, if_neg hf]) ev w (hw.cel hc) hev).mono fun e w' ⟨N, h1, h2, h3, h4⟩ => ⟨_, h1, ⟨_, _, _, rfl⟩, h4⟩
def intA (s : List UInt8) : Int × Int := if checkS s = 0 then (if fitsI (valS s) = true then (valS s, 0) else (0, 80)) else (0, checkS s)
theorem bintCt (s : List UInt8) (F : Heap) (hE : ErrF F) (hs : s.length ≤ 1000000) : Ct Tryz.prog 168 [.string (bs s)] F [] (fun _ _ u => u = cmpV (intA s)) := by
 by_cases hck : checkS s = 0
 ·by_cases hf : fitsI (valS s) = true
  ·rw [show intA s = (valS s, 0) from (by unfold intA; rw [if_pos hck, if_pos hf])]
   refine Ct.enter Tryz.func168 rfl Tryz.ntmps168 rfl fun w0 a S => ?_
   (revert S a; refine go 8 ?_; intro Z hZ Z hZ a S)
   (refine wc0 S (checkCt s F (by omega)) ?_; clear S a; intro v a w hv S; subst hv)
   (revert S a; revert hZ Z; refine go 8 ?_; intro a S)
   refine wpc_split S rfl (fun h => ?_) (fun h => ?_)
   ·(skip; (try simp only [tq] at h); exact absurd hck h)
   (skip; (try simp only [tq] at h))
   (revert S a; revert hZ Z; refine go 4 ?_; intro Z hZ a S)
   (refine wc0 S (parseIntOk s F hck hf hs) ?_; clear S a; intro v a w hv S; subst hv)
   (revert S a; revert hZ Z; refine go 10 ?_; intro Z hZ Z hZ a S)
   (refine wv S (sv_neNil S rfl rfl) ?_; clear S a; intro a S)
   (revert S a; revert hZ Z; refine go 2 ?_; intro a S)
   refine wpc_false S rfl ?_
   (revert S a; revert hZ Z; refine go 8 ?_; intro a S)
   refine wp_ret (fr2 S Tryz.results168 ?_)
   rfl
  ·rw [show intA s = (0, 80) from (by unfold intA; rw [if_pos hck, if_neg hf])]
   refine Ct.enter Tryz.func168 rfl Tryz.ntmps168 rfl fun w0 a S => ?_
   (revert S a; refine go 8 ?_; intro Z hZ Z hZ a S)
   (refine wc0 S (checkCt s F (by omega)) ?_; clear S a; intro v a w hv S; subst hv)
   (revert S a; revert hZ Z; refine go 8 ?_; intro a S)
   refine wpc_split S rfl (fun h => ?_) (fun h => ?_)
   ·(skip; (try simp only [tq] at h); exact absurd hck h)
   (skip; (try simp only [tq] at h))
   (revert S a; revert hZ Z; refine go 4 ?_; intro Z hZ a S)
   (refine wc0 S (parseIntRange s F hE hck hf hs) ?_; clear S a; intro v a w hv S; obtain ⟨pn, pt, pv, rfl⟩ := hv)
   (revert S a; revert hZ Z; refine go 10 ?_; intro Z hZ Z hZ a S)
   (refine wv S (sv_neSome S rfl rfl) ?_; clear S a; intro a S)
   (revert S a; revert hZ Z; refine go 2 ?_; intro a S)
   refine wpc_true S rfl ?_
   (revert S a; refine go 5 ?_; intro a S)
   refine wp_ret (fr2 S Tryz.results168 ?_)
   rfl
 ·rw [show intA s = (0, checkS s) from (by unfold intA; rw [if_neg hck])]
  refine Ct.enter Tryz.func168 rfl Tryz.ntmps168 rfl fun w0 a S => ?_
  (revert S a; refine go 8 ?_; intro Z hZ Z hZ a S)
  (refine wc0 S (checkCt s F (by omega)) ?_; clear S a; intro v a w hv S; subst hv)
  (revert S a; revert hZ Z; refine go 8 ?_; intro a S)
  refine wpc_split S rfl (fun h => ?_) (fun h => ?_)
  ·(skip; (try simp only [tq] at h))
   (revert S a; refine go 6 ?_; intro a S)
   refine wp_ret (fr2 S Tryz.results168 ?_)
   rfl
  (skip; (try simp only [tq] at h); exact absurd h hck)
theorem i64_nd {z : Int} (h0 : -9223372036854775808 ≤ z) (h1 : z ≤ 9223372036854775807) : nd 10 z.natAbs ≤ 19 := by
 refine nd_le ?_ t2
 have : z.natAbs ≤ 9223372036854775808 := by omega
 exact Nat.lt_of_le_of_lt this (by decide)
theorem show_itoa {z : Int} (h0 : -9223372036854775808 ≤ z) (h1 : z ≤ 9223372036854775807) : Lib.itoa z = (showZ z).1 := by
 have hn := i64_nd h0 h1
 by_cases hz : z.natAbs = 0
 ·have : z = 0 := by omega
  subst this
  rw [show (0 : Int) = ((0 : Nat) : Int) from rfl, Lib.itoa_nonneg, dd_small (by decide)]; rfl
 ·have hl : ¬ 200 < (Lib.decDigits z.natAbs).length := by rw [dd_nd hz]; omega
  unfold showZ showS
  rw [if_neg hz, if_neg hl]
  by_cases hs : z < 0
  ·rw [show z = -((z.natAbs : Nat) : Int) by omega, Lib.itoa_neg _ (by omega), Int.natAbs_neg, decide_eq_true (by omega)]
   simp
  ·have e : z = ((z.natAbs : Nat) : Int) := by omega
   rw [show Lib.itoa z = Lib.decDigits z.natAbs from (by conv => lhs; rw [e]; rw [Lib.itoa_nonneg]), decide_eq_false hs]
   simp
theorem bofnCt (n : Int) (F : Heap) (hT : TabF F) (h0 : -9223372036854775808 ≤ n) (h1 : n ≤ 9223372036854775807) : Ct Tryz.prog 153 [.int .i64 n, .int .i64 10] F [] (fun _ _ u => u = .string (bs (showZ n).1)) := by
 refine ct_of_below fun w hw => ?_
 refine (Tryz.strconv_FormatInt_10 n h0 h1 w (hT w hw.frz)).mono fun e w' ⟨h1', k, os, h2⟩ => ⟨?_, ?_⟩
 ·rw [h1', ← show_itoa h0 h1]; rfl
 ·rw [h2]; exact Lib.below_grow _ w (Nat.le_refl _) k os
theorem bigOfCt (n : Int) (F : Heap) (hT : TabF F) (h0 : -9223372036854775808 ≤ n) (h1 : n ≤ 9223372036854775807) : Ct Tryz.prog 167 [.int .i64 n] F [] (fun _ _ u => u = .string (bs (showZ n).1)) := by
 refine Ct.enter Tryz.func167 rfl Tryz.ntmps167 rfl fun w0 a S => ?_
 (revert S a; refine go 6 ?_; intro Z hZ a S)
 (refine wc0 S (bofnCt n F hT h0 h1) ?_; clear S a; intro v a w hv S; subst hv)
 (revert S a; revert hZ Z; refine go 3 ?_; intro a S)
 refine wp_ret (fr1 S Tryz.results167 ?_)
 rfl
end Go.Proofs.YtgefmjghdijbfaaGreatDoor
namespace Go.Wk
open Go
set_option linter.unusedVariables false
set_option linter.unusedSimpArgs false
section
variable {α : Type} [DecidableEq α] {P : Program} {n : Sz} {L : List (Nat × Value)} {w0 : World} {F0 : Heap} {K0 : List Nat} {F : Heap} {G : List Grp} {a : Act} {w : World} {ops : Array Oper} {Q : Exit → Act → World → Prop} {rest : List Oper} {o : Oper}
theorem wpl_mapIns {d : TypeDesc} {enc : α → Value} [hk : KeyK d enc] {t kt e : TypeId} {x y z : Operand} {b : Nat} {es : List (α × Value)} {R} {k : α} {v : Value} [ht : Und P t (.map kt e)] [hd : Und P kt d] [hh : Has G b (mObj enc es) R]
  (S : St n L w0 F0 K0 F G a w) (hg : o.guard = none) (ho : o.op = .insert t x y z) (hdst : o.dst = none) (hx : ev L x = some (.map (some b))) (hy : ev L y = some (enc k)) (hz : ev L z = some v)
  (kk : ∀ w', St n L w0 F0 K0 F (R [(b, mObj enc (mSet es k v))]) a w' → wpList P ops Q rest a w') : wpList P ops Q (o :: rest) a w := by
 refine wpList_plain hg fun K hK => ?_
 have hb := S.has hh
 have hr : (Instr.mapUpdate t (.map (some b)) (enc k) v).run P w = .ok () (w.putObj b (mObj enc (mSet es k v))) := by
  unfold Instr.mapUpdate
  have hg := run_getMap (P := P) hb
  have hc := hk.chk P w kt false k hd.h
  simp only [Sem.run_bind, run_underlying ht.h, Result.andThen_ok, hg, Sem.run_pure, hc, run_findKey (d := d) hd.h w es k]
  cases hf : List.findIdx? (fun p => decide (k = p.1)) es with
  | none =>
   have hn : mGet es k = none := by rw [mGet_idx, hf]; rfl
   simp only [Option.map_none, mSet_new hn, mObj, mEnt_append]
   simp only [mObj] at hb
   simp [setObj, Sem.run, hb, World.putObj, Array.set!]
  | some j =>
   obtain ⟨h1, h2, h3⟩ := mEnt_modify enc k v 0 es j hf
   simp only [Option.map_some, Sem.run_bind, mObj, List.getElem?_toArray, h2, Option.getD_some]
   unfold Instr.keyThatStays
   rw [if_pos (hk.bits k)]
   simp only [Sem.run_pure, Result.andThen_ok, List.modify_toArray, h1, h3]
   simp only [mObj] at hb
   simp [setObj, Sem.run, hb, World.putObj, Array.set!]
 unfold Oper.wp execOp
 rw [ho]
 simp [S.fr.eval hx, S.fr.eval hy, S.fr.eval hz, hr, Oper.upon_skip, hdst, Act.put]
 exact hK _ _ (kk _ (S.write hh rfl rfl rfl (by simp) (World.putObj_heap_same (heap_lt hb)) fun j hj => World.putObj_heap_other hj))
end
end Go.Wk
