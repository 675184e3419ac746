/- Walks: what two ints come to; truth values and ints as values; texts put together. The document's check of values, in plain Lean: what it lets pass, the program's lets pass. The walks of Int of package big and of Int, Whole of the document's answer, and of Of of package big. The walk of Of of package big. An entry of a map's literal. Nothing here knows the program. -/
import Derived.Test.YtigblodhdfnleaaGreatDoorEv
import Derived.Test.YtigblodhdfnleaaGreatDoorCm
import Derived.Test.YtigblodhdfnleaaGreatDoorShelf
import Derived.Test.YtigblodhdfnleaaGreatDoorDeV
import Derived.Test.YtigblodhdfnleaaGreatDoorWk18
namespace Go.Proofs.YtigblodhdfnleaaGreatDoor
open Go Go.Wk Go.Un Go.De Go.Num
set_option linter.unusedSimpArgs false
set_option linter.unusedVariables false
attribute [local irreducible] Go.wpList Go.Code.wp Go.wpStill Go.Wk.wpPre Go.bodyPost Go.Calls Go.Wk.Ct Go.Wk.OwnS
attribute [local irreducible] Go.Wk.wpG Go.Wk.wpM

def AnsR (F : Heap) (u : Value) (x : Ans) : Prop := ∃ cs, u = .tuple ⟨[.agg ⟨cs⟩, .int .i64 x.1]⟩ ∧ VaC F cs x.2.1 x.2.2
theorem vac_z (F : Heap) {k : Nat} {n : Int} {s : List UInt8} (hs : s.length ≤ 140737488355328) : VaC F [.int .u8 (k : Int), .int .i64 n, .string (bs s), .slice none 0 0] ⟨k, n, s⟩ .nil := ⟨_, rfl, TrS.nil _ _ _, hs⟩
theorem ans_no (F : Heap) (e : Int) : AnsR F (.tuple ⟨[.agg ⟨[.int .u8 0, .int .i64 0, .string (bs []), .slice none 0 0]⟩, .int .i64 e]⟩) (noA e) := ⟨_, rfl, vac_z F (k := 0) (by decide)⟩
theorem eTruthCt (F : Heap) (b : Bool) : Ct Tryz.prog 79 [.bool b] F [] (fun _ _ u => u = .agg ⟨[.int .u8 1, .int .i64 (if b then 1 else 0), .string (bs []), .slice none 0 0]⟩) := by
  refine Ct.enter Tryz.func79 rfl Tryz.ntmps79 rfl fun w0 a S => ?_
  refine wp_sr fun Z hZ => ?_
  (refine wpl_alloc S rfl rfl rfl rfl ?_; clear S a; intro b2 a w S)
  (revert S a; revert hZ Z; refine go11 7 ?_; intro Z hZ a S)
  refine wpc_split S rfl (fun h => ?_) (fun h => ?_)
  · (skip; (try simp only [tq] at h))
    (revert S a; refine go01 2 ?_; intro Z hZ a S)
    (refine wpl_storeO S rfl rfl rfl rfl rfl (by rfl) (by simp [Value.cells, Value.oneCell', splice]) (by rfl) ?_; clear S; intro w S)
    (revert S a; revert hZ Z; refine go10 2 ?_; intro a S)
    refine wp_ret (fin_ret S (results1 Tryz.results79 (RV.cellO S rfl (by rfl))) ?_)
    (rw [h]; rfl)
  (skip; (try simp only [tq] at h))
  (revert S a; revert hZ Z; refine go11 4 ?_; intro Z hZ a S)
  (refine wpl_storeO S rfl rfl rfl rfl rfl (by rfl) (by simp [Value.cells, Value.oneCell', splice]) (by rfl) ?_; clear S; intro w S)
  (refine wpList_nil (hZ _ _ ?_); clear hZ Z)
  refine wp_ret (fin_ret S (results1 Tryz.results79 (RV.cellO S rfl (by rfl))) ?_)
  (rw [h]; rfl)
theorem eWholeCt (F : Heap) (n : Int) : Ct Tryz.prog 69 [.int .i64 n] F [] (fun _ _ u => u = .agg ⟨[.int .u8 2, .int .i64 n, .string (bs []), .slice none 0 0]⟩) := by
  refine Ct.enter Tryz.func69 rfl Tryz.ntmps69 rfl fun w0 a S => ?_
  refine wp_sr fun Z hZ => ?_
  (refine wpl_alloc S rfl rfl rfl rfl ?_; clear S a; intro b2 a w S)
  (revert S a; revert hZ Z; refine go11 5 ?_; intro Z hZ a S)
  (refine wpl_storeO S rfl rfl rfl rfl rfl (by rfl) (by simp [Value.cells, Value.oneCell', splice]) (by rfl) ?_; clear S; intro w S)
  (refine wpList_nil (hZ _ _ ?_); clear hZ Z)
  refine wp_ret (fin_ret S (results1 Tryz.results69 (RV.cellO S rfl (by rfl))) ?_)
  rfl
theorem zzEvB0 {p : Prop} (h : p := by (show _ = cmpV (if in64 (x + y) then (x + y, 0) else (0, 80)); first | (rw [if_neg (show ¬ in64 _ by unfold in64; omega)]; rfl) | (rw [if_pos (show in64 _ by unfold in64; omega), show c = x + y by omega]; rfl) | trace_state)) : p := h
theorem eAddCt (F : Heap) (x y : Int) (hx : in64 x) (hy : in64 y) : Ct Tryz.prog 35 [.int .i64 x, .int .i64 y] F [] (fun _ _ u => u = cmpV (intO 0 x y)) := by
  unfold in64 at hx hy
  refine Ct.enter Tryz.func35 rfl Tryz.ntmps35 rfl fun w0 a S => ?_
  (revert S a; refine go01 8 ?_; intro Z hZ a S)
  (refine wpl_v S rfl rfl rfl (sv_addW S rfl rfl rfl) ?_; clear S a; intro a S; have hc := IntKind.wrap_i64 (x + y); generalize IntKind.i64.wrap (x + y) = c at S hc)
  (revert S a; revert hZ Z; refine go12 11 ?_; intro Z hZ Z hZ a S)
  (rw [neD] at S)
  (revert S a; refine go00 1 ?_; intro a S)
  refine wpl_guard S rfl rfl rfl rfl rfl ?_ ?_
  · (clear S; intro h S; (try simp only [tq] at h))
    (revert S a; revert hZ Z; refine go10 6 ?_; intro a S)
    refine wpc_split S rfl (fun h => ?_) (fun h => ?_)
    · (skip; (try simp only [tq] at h))
      (revert S a; refine go00 5 ?_; intro a S)
      refine wp_ret (fin_ret S (results2 Tryz.results35 (RV.tmp S rfl) (RV.tmp S rfl)) ?_)
      exact zzEvB0
    (skip; (try simp only [tq] at h))
    (revert S a; revert hZ Z; refine go10 8 ?_; intro a S)
    refine wp_ret (fin_ret S (results2 Tryz.results35 (RV.tmp S rfl) (RV.tmp S rfl)) ?_)
    exact zzEvB0
  (intro h; clear S a; intro a S; (try simp only [tq] at h))
  (revert S a; revert hZ Z; refine go10 4 ?_; intro a S)
  refine wpc_false S rfl ?_
  (revert S a; revert hZ Z; refine go10 8 ?_; intro a S)
  refine wp_ret (fin_ret S (results2 Tryz.results35 (RV.tmp S rfl) (RV.tmp S rfl)) ?_)
  exact zzEvB0
theorem zzEvB1 {p : Prop} (h : p := by (show _ = cmpV (if in64 (x - y) then (x - y, 0) else (0, 80)); first | (rw [if_neg (show ¬ in64 _ by unfold in64; omega)]; rfl) | (rw [if_pos (show in64 _ by unfold in64; omega), show c = x - y by omega]; rfl) | trace_state)) : p := h
theorem eSubCt (F : Heap) (x y : Int) (hx : in64 x) (hy : in64 y) : Ct Tryz.prog 37 [.int .i64 x, .int .i64 y] F [] (fun _ _ u => u = cmpV (intO 1 x y)) := by
  unfold in64 at hx hy
  refine Ct.enter Tryz.func37 rfl Tryz.ntmps37 rfl fun w0 a S => ?_
  (revert S a; refine go01 8 ?_; intro Z hZ a S)
  (refine wpl_v S rfl rfl rfl (sv_subW S rfl rfl rfl) ?_; clear S a; intro a S; have hc := IntKind.wrap_i64 (x - y); generalize IntKind.i64.wrap (x - y) = c at S hc)
  (revert S a; revert hZ Z; refine go12 11 ?_; intro Z hZ Z hZ a S)
  (rw [neD] at S)
  (revert S a; refine go00 1 ?_; intro a S)
  refine wpl_guard S rfl rfl rfl rfl rfl ?_ ?_
  · (clear S; intro h S; (try simp only [tq] at h))
    (revert S a; revert hZ Z; refine go10 6 ?_; intro a S)
    refine wpc_split S rfl (fun h => ?_) (fun h => ?_)
    · (skip; (try simp only [tq] at h))
      (revert S a; refine go00 5 ?_; intro a S)
      refine wp_ret (fin_ret S (results2 Tryz.results37 (RV.tmp S rfl) (RV.tmp S rfl)) ?_)
      exact zzEvB1
    (skip; (try simp only [tq] at h))
    (revert S a; revert hZ Z; refine go10 8 ?_; intro a S)
    refine wp_ret (fin_ret S (results2 Tryz.results37 (RV.tmp S rfl) (RV.tmp S rfl)) ?_)
    exact zzEvB1
  (intro h; clear S a; intro a S; (try simp only [tq] at h))
  (revert S a; revert hZ Z; refine go10 4 ?_; intro a S)
  refine wpc_false S rfl ?_
  (revert S a; revert hZ Z; refine go10 8 ?_; intro a S)
  refine wp_ret (fin_ret S (results2 Tryz.results37 (RV.tmp S rfl) (RV.tmp S rfl)) ?_)
  exact zzEvB1
theorem eSizeCt (F : Heap) (x : Int) (hx : in64 x) : Ct Tryz.prog 75 [.int .i64 x] F [] (fun _ _ u => u = .int .u64 (x.natAbs : Int)) := by
  unfold in64 at hx
  refine Ct.enter Tryz.func75 rfl Tryz.ntmps75 rfl fun w0 a S => ?_
  (revert S a; refine go01 10 ?_; intro Z hZ a S)
  refine wpc_split S rfl (fun h => ?_) (fun h => ?_)
  · (skip; (try simp only [tq] at h))
    (revert S a; refine go01 2 ?_; intro Z hZ a S)
    (refine wpl_v S rfl rfl rfl (sv_conv S rfl rfl) ?_; clear S a; intro a S; have hc := IntKind.wrap_u64 x; generalize IntKind.u64.wrap x = c at S hc)
    (refine wpl_v S rfl rfl rfl (sv_negW S rfl rfl) ?_; clear S a; intro a S; have hd := IntKind.wrap_u64 (0 - c); generalize IntKind.u64.wrap (0 - c) = d at S hd)
    (revert S a; revert hZ Z; refine go10 3 ?_; intro a S)
    refine wp_ret (fin_ret S (results1 Tryz.results75 (RV.tmp S rfl)) ?_)
    (congr 1; omega)
  (skip; (try simp only [tq] at h))
  (revert S a; revert hZ Z; refine go11 4 ?_; intro Z hZ a S)
  (refine wpl_v S rfl rfl rfl (sv_conv S rfl rfl) ?_; clear S a; intro a S; have hc := IntKind.wrap_u64 x; generalize IntKind.u64.wrap x = c at S hc)
  (revert S a; revert hZ Z; refine go10 3 ?_; intro a S)
  refine wp_ret (fin_ret S (results1 Tryz.results75 (RV.tmp S rfl)) ?_)
  (congr 1; omega)
theorem mul_abs (x y : Int) : (¬ (x < 0 ↔ y < 0) → x * y = -((x.natAbs * y.natAbs : Nat) : Int)) ∧ ((x < 0 ↔ y < 0) → x * y = ((x.natAbs * y.natAbs : Nat) : Int)) := by
  constructor
  · intro h
    by_cases hx : x < 0
    · have hy : ¬ y < 0 := fun h9 => h ⟨fun _ => h9, fun _ => hx⟩
      rw [Int.natCast_mul, show ((x.natAbs : Nat) : Int) = -x by omega, show ((y.natAbs : Nat) : Int) = y by omega, Int.neg_mul, Int.neg_neg]
    · have hy : y < 0 := by
        by_cases h9 : y < 0
        · exact h9
        · exact absurd ⟨fun h8 => absurd h8 hx, fun h8 => absurd h8 h9⟩ h
      rw [Int.natCast_mul, show ((x.natAbs : Nat) : Int) = x by omega, show ((y.natAbs : Nat) : Int) = -y by omega, Int.mul_neg, Int.neg_neg]
  · intro h
    by_cases hx : x < 0
    · have hy := h.1 hx
      rw [Int.natCast_mul, show ((x.natAbs : Nat) : Int) = -x by omega, show ((y.natAbs : Nat) : Int) = -y by omega, Int.neg_mul_neg]
    · have hy : ¬ y < 0 := fun h9 => hx (h.2 h9)
      rw [Int.natCast_mul, show ((x.natAbs : Nat) : Int) = x by omega, show ((y.natAbs : Nat) : Int) = y by omega]
theorem mul64Ct (F : Heap) (x y : Nat) (hx : x < 18446744073709551616) (hy : y < 18446744073709551616) : Ct Tryz.prog 74 [.int .u64 x, .int .u64 y] F [] (fun _ _ u => u = .tuple ⟨[.int .u64 ((x * y / 18446744073709551616 : Nat) : Int), .int .u64 ((x * y % 18446744073709551616 : Nat) : Int)]⟩) := by
  refine ct_of_below fun w hw => ?_
  refine (Tryz.bits_Mul64 x y hx hy w).mono fun e w' ⟨h1, h2⟩ => ⟨?_, ?_⟩
  · rw [h1]
  · rw [h2]; exact RowKit.Below.refl _ _
theorem zzEvB2 {p : Prop} (h : p := by (show _ = cmpV (if in64 (x * y) then (x * y, 0) else (0, 80)); generalize x * y = z at hab1 hab2 ⊢; first | (rw [if_neg (show ¬ in64 _ by unfold in64; omega)]; rfl) | (rw [if_pos (show in64 _ by unfold in64; omega), show c = z by omega]; rfl) | trace_state)) : p := h
theorem eMulCt (F : Heap) (x y : Int) (hx : in64 x) (hy : in64 y) : Ct Tryz.prog 39 [.int .i64 x, .int .i64 y] F [] (fun _ _ u => u = cmpV (intO 2 x y)) := by
  have hsx := eSizeCt F x hx
  have hsy := eSizeCt F y hy
  unfold in64 at hx hy
  have hm := mul64Ct F x.natAbs y.natAbs (by omega) (by omega)
  obtain ⟨hab1, hab2⟩ := mul_abs x y
  generalize x.natAbs * y.natAbs = p at hab1 hab2 hm
  refine Ct.enter Tryz.func39 rfl Tryz.ntmps39 rfl fun w0 a S => ?_
  (revert S a; refine go01 7 ?_; intro Z hZ a S)
  (refine wpl_call0 S rfl rfl rfl rfl rfl rfl hsx rfl ?_; clear S a; intro v a w hv S; subst hv)
  (revert S a; refine go00 1 ?_; intro a S)
  (refine wpl_call0 S rfl rfl rfl rfl rfl rfl hsy rfl ?_; clear S a; intro v a w hv S; subst hv)
  (refine wpl_call0 S rfl rfl rfl rfl rfl rfl (hm) rfl ?_; clear S a; intro v a w hv S; subst hv)
  (revert S a; revert hZ Z; refine go11 13 ?_; intro Z hZ a S)
  (rw [neD] at S)
  (revert S a; revert hZ Z; refine go12 9 ?_; intro Z hZ Z hZ a S)
  refine wpl_guard S rfl rfl rfl rfl rfl ?_ ?_
  · (clear S; intro h S; (try simp only [tq] at h))
    (revert S a; refine go00 5 ?_; intro a S)
    refine wpl_guard S rfl rfl rfl rfl rfl ?_ ?_
    · (clear S; intro h S; (try simp only [tq] at h))
      (revert S a; refine go00 5 ?_; intro a S)
      refine wpl_guard S rfl rfl rfl rfl rfl ?_ ?_
      · (clear S; intro h S; (try simp only [tq] at h))
        (revert S a; revert hZ Z; refine go10 9 ?_; intro a S)
        refine wpc_split S rfl (fun h => ?_) (fun h => ?_)
        · (skip; (try simp only [tq] at h))
          (revert S a; refine go00 5 ?_; intro a S)
          refine wp_ret (fin_ret S (results2 Tryz.results39 (RV.tmp S rfl) (RV.tmp S rfl)) ?_)
          exact zzEvB2
        (skip; (try simp only [tq] at h))
        (revert S a; refine go00 5 ?_; intro a S)
        refine wpc_split S rfl (fun h => ?_) (fun h => ?_)
        · (skip; (try simp only [tq] at h))
          (revert S a; refine go01 2 ?_; intro Z hZ a S)
          (refine wpl_v S rfl rfl rfl (sv_negW S rfl rfl) ?_; clear S a; intro a S; have hd := IntKind.wrap_u64 (0 - ((p % 18446744073709551616 : Nat) : Int)); generalize IntKind.u64.wrap (0 - ((p % 18446744073709551616 : Nat) : Int)) = d at S hd)
          (refine wpl_v S rfl rfl rfl (sv_conv S rfl rfl) ?_; clear S a; intro a S; have hc := IntKind.wrap_i64 d; generalize IntKind.i64.wrap d = c at S hc)
          (revert S a; revert hZ Z; refine go10 4 ?_; intro a S)
          refine wp_ret (fin_ret S (results2 Tryz.results39 (RV.tmp S rfl) (RV.tmp S rfl)) ?_)
          exact zzEvB2
        (skip; (try simp only [tq] at h))
        (revert S a; revert hZ Z; refine go11 4 ?_; intro Z hZ a S)
        (refine wpl_v S rfl rfl rfl (sv_conv S rfl rfl) ?_; clear S a; intro a S; have hc := IntKind.wrap_i64 ((p % 18446744073709551616 : Nat) : Int); generalize IntKind.i64.wrap ((p % 18446744073709551616 : Nat) : Int) = c at S hc)
        (revert S a; revert hZ Z; refine go10 4 ?_; intro a S)
        refine wp_ret (fin_ret S (results2 Tryz.results39 (RV.tmp S rfl) (RV.tmp S rfl)) ?_)
        exact zzEvB2
      (intro h; clear S a; intro a S; (try simp only [tq] at h))
      (revert S a; revert hZ Z; refine go10 7 ?_; intro a S)
      refine wpc_false S rfl ?_
      (revert S a; refine go00 5 ?_; intro a S)
      refine wpc_split S rfl (fun h => ?_) (fun h => ?_)
      · (skip; (try simp only [tq] at h))
        (revert S a; refine go01 2 ?_; intro Z hZ a S)
        (refine wpl_v S rfl rfl rfl (sv_negW S rfl rfl) ?_; clear S a; intro a S; have hd := IntKind.wrap_u64 (0 - ((p % 18446744073709551616 : Nat) : Int)); generalize IntKind.u64.wrap (0 - ((p % 18446744073709551616 : Nat) : Int)) = d at S hd)
        (refine wpl_v S rfl rfl rfl (sv_conv S rfl rfl) ?_; clear S a; intro a S; have hc := IntKind.wrap_i64 d; generalize IntKind.i64.wrap d = c at S hc)
        (revert S a; revert hZ Z; refine go10 4 ?_; intro a S)
        refine wp_ret (fin_ret S (results2 Tryz.results39 (RV.tmp S rfl) (RV.tmp S rfl)) ?_)
        exact zzEvB2
      (skip; (try simp only [tq] at h))
      (revert S a; revert hZ Z; refine go11 4 ?_; intro Z hZ a S)
      (refine wpl_v S rfl rfl rfl (sv_conv S rfl rfl) ?_; clear S a; intro a S; have hc := IntKind.wrap_i64 ((p % 18446744073709551616 : Nat) : Int); generalize IntKind.i64.wrap ((p % 18446744073709551616 : Nat) : Int) = c at S hc)
      (revert S a; revert hZ Z; refine go10 4 ?_; intro a S)
      refine wp_ret (fin_ret S (results2 Tryz.results39 (RV.tmp S rfl) (RV.tmp S rfl)) ?_)
      exact zzEvB2
    (intro h; clear S a; intro a S; (try simp only [tq] at h))
    (revert S a; refine go00 2 ?_; intro a S)
    iterate 2 (refine wpl_skipU S rfl rfl rfl rfl rfl ?_; clear S a; intro a S)
    (revert S a; revert hZ Z; refine go10 5 ?_; intro a S)
    refine wpc_true S rfl ?_
    (revert S a; refine go00 5 ?_; intro a S)
    refine wp_ret (fin_ret S (results2 Tryz.results39 (RV.tmp S rfl) (RV.tmp S rfl)) ?_)
    exact zzEvB2
  (intro h; clear S a; intro a S; (try simp only [tq] at h))
  (revert S a; refine go00 6 ?_; intro a S)
  iterate 2 (refine wpl_skipU S rfl rfl rfl rfl rfl ?_; clear S a; intro a S)
  (revert S a; revert hZ Z; refine go10 5 ?_; intro a S)
  refine wpc_true S rfl ?_
  (revert S a; refine go00 5 ?_; intro a S)
  refine wp_ret (fin_ret S (results2 Tryz.results39 (RV.tmp S rfl) (RV.tmp S rfl)) ?_)
  exact zzEvB2
theorem zzEvB3 {p : Prop} (h : p := by (first | (rw [if_pos (by omega)]; rfl) | (have hy1 : y = -1 := (by omega); subst hy1; rw [if_neg (by decide), Int.tdiv_neg, Int.tdiv_one, ← Int.zero_sub]; rfl) | (rw [if_neg (by omega), if_pos (show in64 _ by unfold in64; omega)]; rfl) | trace_state)) : p := h
theorem eDivCt (F : Heap) (x y : Int) (hx : in64 x) (hy : in64 y) : Ct Tryz.prog 41 [.int .i64 x, .int .i64 y] F [] (fun _ _ u => u = cmpV (intO 3 x y)) := by
  have hs := eSubCt F 0 x (by decide) hx
  unfold in64 at hx hy
  show Ct Tryz.prog _ _ F [] (fun _ _ u => u = cmpV (if y = 0 then ((0 : Int), (81 : Int)) else if in64 (x.tdiv y) then (x.tdiv y, 0) else (0, 80)))
  refine Ct.enter Tryz.func41 rfl Tryz.ntmps41 rfl fun w0 a S => ?_
  (revert S a; refine go01 13 ?_; intro Z hZ a S)
  refine wpc_split S rfl (fun h => ?_) (fun h => ?_)
  · (skip; (try simp only [tq] at h))
    (revert S a; refine go00 5 ?_; intro a S)
    refine wp_ret (fin_ret S (results2 Tryz.results41 (RV.tmp S rfl) (RV.tmp S rfl)) ?_)
    exact zzEvB3
  (skip; (try simp only [tq] at h))
  (revert S a; refine go00 6 ?_; intro a S)
  refine wpc_split S rfl (fun h => ?_) (fun h => ?_)
  · (skip; (try simp only [tq] at h))
    (revert S a; refine go01 2 ?_; intro Z hZ a S)
    (refine wpl_call0 S rfl rfl rfl rfl rfl rfl (hs) rfl ?_; clear S a; intro v a w hv S; subst hv)
    (revert S a; revert hZ Z; refine go10 6 ?_; intro a S)
    refine wp_ret (fin_ret S (results2 Tryz.results41 (RV.tmp S rfl) (RV.tmp S rfl)) ?_)
    exact zzEvB3
  (skip; (try simp only [tq] at h))
  (revert S a; revert hZ Z; refine go11 5 ?_; intro Z hZ a S)
  (have hh := tdiv_half (x := x) (y := y); have h1 : y = 1 → x.tdiv y = x := (fun e => by rw [e, Int.tdiv_one]); (refine wpl_v S rfl rfl rfl (sv_quoG S rfl rfl rfl (by omega) (by omega)) ?_; clear S a; intro a S))
  (revert S a; revert hZ Z; refine go10 4 ?_; intro a S)
  refine wp_ret (fin_ret S (results2 Tryz.results41 (RV.tmp S rfl) (RV.tmp S rfl)) ?_)
  exact zzEvB3
theorem zzEvB4 {p : Prop} (h : p := by (first | (rw [if_pos (by omega)]; rfl) | (have hy1 : y = -1 := (by omega); subst hy1; rw [if_neg (by decide), Int.tmod_neg, Int.tmod_one]; rfl) | (rw [if_neg (by omega)]; rfl) | trace_state)) : p := h
theorem eModCt (F : Heap) (x y : Int) : Ct Tryz.prog 43 [.int .i64 x, .int .i64 y] F [] (fun _ _ u => u = cmpV (intO 4 x y)) := by
  show Ct Tryz.prog _ _ F [] (fun _ _ u => u = cmpV (if y = 0 then ((0 : Int), (81 : Int)) else (x.tmod y, 0)))
  refine Ct.enter Tryz.func43 rfl Tryz.ntmps43 rfl fun w0 a S => ?_
  (revert S a; refine go01 16 ?_; intro Z hZ a S)
  refine wpc_split S rfl (fun h => ?_) (fun h => ?_)
  · (skip; (try simp only [tq] at h))
    (revert S a; refine go00 5 ?_; intro a S)
    refine wp_ret (fin_ret S (results2 Tryz.results43 (RV.tmp S rfl) (RV.tmp S rfl)) ?_)
    exact zzEvB4
  (skip; (try simp only [tq] at h))
  (revert S a; refine go00 5 ?_; intro a S)
  refine wpc_split S rfl (fun h => ?_) (fun h => ?_)
  · (skip; (try simp only [tq] at h))
    (revert S a; refine go00 5 ?_; intro a S)
    refine wp_ret (fin_ret S (results2 Tryz.results43 (RV.tmp S rfl) (RV.tmp S rfl)) ?_)
    exact zzEvB4
  (skip; (try simp only [tq] at h))
  (revert S a; revert hZ Z; refine go11 5 ?_; intro Z hZ a S)
  (refine wpl_v S rfl rfl rfl (sv_remG S rfl rfl rfl (by omega)) ?_; clear S a; intro a S)
  (revert S a; revert hZ Z; refine go10 4 ?_; intro a S)
  refine wp_ret (fin_ret S (results2 Tryz.results43 (RV.tmp S rfl) (RV.tmp S rfl)) ?_)
  exact zzEvB4
theorem zzEvB5 {p : Prop} (h : p := by (first | (rw [if_pos (by omega)]; exact ans_no _ _) | (rw [if_neg (by omega), if_pos (by omega)]; exact ans_no _ _) | (rw [if_neg (by omega), if_neg (by omega)]; exact ⟨_, rfl, vac_z _ (k := 4) (by rw [List.length_append]; omega)⟩) | trace_state)) : p := h
theorem eTextsCt (F : Heap) (x y : Vv) (cx cy : List Value) (hx : VaC F cx x.1 x.2) (hy : VaC F cy y.1 y.2) (bx : x.1.s.length ≤ 1000000) (by_ : y.1.s.length ≤ 1000000) : Ct Tryz.prog 52 [.agg ⟨cx⟩, .agg ⟨cy⟩] F [] (fun F' _ u => AnsR F' u (catO x y)) := by
  obtain ⟨⟨xk, xn, xs⟩, xl⟩ := x
  obtain ⟨⟨yk, yn, ys⟩, yl⟩ := y
  obtain ⟨v1, rfl, ⟨a1, c1, rfl, -⟩, -⟩ := hx
  obtain ⟨v2, rfl, ⟨a2, c2, rfl, -⟩, -⟩ := hy
  dsimp only at *
  unfold catO
  dsimp only
  refine Ct.enter Tryz.func52 rfl Tryz.ntmps52 rfl fun w0 a S => ?_
  refine wp_sr fun Z hZ => ?_
  (refine wpl_box S rfl rfl rfl rfl rfl ?_; clear S a; intro b2 a w S)
  (refine wpl_box S rfl rfl rfl rfl rfl ?_; clear S a; intro b3 a w S)
  (refine wpl_alloc S rfl rfl rfl rfl ?_; clear S a; intro b4 a w S)
  (revert S a; revert hZ Z; refine go12 10 ?_; intro Z hZ Z hZ a S)
  refine wpl_guard S rfl rfl rfl rfl rfl ?_ ?_
  · (clear S; intro h S; (try simp only [tq] at h))
    (revert S a; revert hZ Z; refine go10 9 ?_; intro a S)
    refine wpc_split S rfl (fun h => ?_) (fun h => ?_)
    · (skip; (try simp only [tq] at h))
      (revert S a; refine go01 2 ?_; intro Z hZ a S)
      (refine wpl_storeO S rfl rfl rfl rfl rfl (by rfl) (by simp [Value.cells, Value.oneCell', splice]) (by rfl) ?_; clear S; intro w S)
      (revert S a; revert hZ Z; refine go10 3 ?_; intro a S)
      refine wp_ret (fin_ret S (results2 Tryz.results52 (RV.cellO S rfl (by rfl)) (RV.tmp S rfl)) ?_)
      exact zzEvB5
    (skip; (try simp only [tq] at h))
    (revert S a; refine go00 12 ?_; intro a S)
    refine wpc_split S rfl (fun h => ?_) (fun h => ?_)
    · (skip; (try simp only [tq] at h))
      (revert S a; refine go01 2 ?_; intro Z hZ a S)
      (refine wpl_storeO S rfl rfl rfl rfl rfl (by rfl) (by simp [Value.cells, Value.oneCell', splice]) (by rfl) ?_; clear S; intro w S)
      (revert S a; revert hZ Z; refine go10 3 ?_; intro a S)
      refine wp_ret (fin_ret S (results2 Tryz.results52 (RV.cellO S rfl (by rfl)) (RV.tmp S rfl)) ?_)
      exact zzEvB5
    (skip; (try simp only [tq] at h))
    (revert S a; revert hZ Z; refine go11 7 ?_; intro Z hZ a S)
    (refine wpl_v S rfl rfl rfl (sv_cat S rfl rfl rfl (by first | omega | (simp only [List.length_append, List.length_cons, List.length_nil]; omega))) ?_; clear S a; intro a S)
    (revert S a; refine go00 1 ?_; intro a S)
    (refine wpl_storeO S rfl rfl rfl rfl rfl (by rfl) (by simp [Value.cells, Value.oneCell', splice]) (by rfl) ?_; clear S; intro w S)
    (revert S a; revert hZ Z; refine go10 3 ?_; intro a S)
    refine wp_ret (fin_ret S (results2 Tryz.results52 (RV.cellO S rfl (by rfl)) (RV.tmp S rfl)) ?_)
    exact zzEvB5
  (intro h; clear S a; intro a S; (try simp only [tq] at h))
  (revert S a; revert hZ Z; refine go10 6 ?_; intro a S)
  refine wpc_true S rfl ?_
  (revert S a; refine go01 2 ?_; intro Z hZ a S)
  (refine wpl_storeO S rfl rfl rfl rfl rfl (by rfl) (by simp [Value.cells, Value.oneCell', splice]) (by rfl) ?_; clear S; intro w S)
  (revert S a; revert hZ Z; refine go10 3 ?_; intro a S)
  refine wp_ret (fin_ret S (results2 Tryz.results52 (RV.cellO S rfl (by rfl)) (RV.tmp S rfl)) ?_)
  exact zzEvB5
end Go.Proofs.YtigblodhdfnleaaGreatDoor
namespace Go.De
open Go Go.Wk Go.Un
set_option linter.unusedSimpArgs false
set_option linter.unusedVariables false

def dpR : Vf → Int
  | .nil => 0
  | .cons _ L r => max (dpR L + 1) (dpR r)
theorem dpR_nn : ∀ l : Vf, 0 ≤ dpR l
  | .nil => Int.le_refl _
  | .cons _ L r => by have := dpR_nn L; have := dpR_nn r; simp only [dpR]; omega
theorem depV_le : ∀ (l : Vf) (n m : Int), depV l n m ≤ max n (dpR l)
  | .nil, n, m => by show n ≤ _; omega
  | .cons h L r, n, m => by
    rw [depV_cons]
    have h1 := depV_le L 0 (m - 1)
    have h2 := depV_le r (max n (depV L 0 (m - 1) + 1)) m
    have h3 := dpR_nn L
    simp only [dpR]
    split <;> omega
def digB (c : UInt8) : Bool := decide (48 ≤ c.toNat ∧ c.toNat ≤ 57)
def numB (d : List UInt8) : Bool := decide (d ≠ [] ∧ ¬ (1 < d.length ∧ (d.getD 0 0).toNat = 48)) && d.all digB
/-- Number. -/
def rnum (s : List UInt8) : Bool := if 1 < s.length ∧ (s.getD 0 0).toNat = 45 then (if ((s.drop 1).getD 0 0).toNat = 48 then false else numB (s.drop 1)) else numB s
/-- Digits. -/
def rdig (s : List UInt8) : Int := if (s.getD 0 0).toNat = 45 then s.length - 1 else s.length
theorem dig_mem {c : UInt8} (h : digB c = true) : digS.contains c = true := by
  unfold digB at h
  rw [decide_eq_true_eq] at h
  have : ∀ n : Nat, 48 ≤ n → n ≤ 57 → ∀ c : UInt8, c.toNat = n → digS.contains c = true := by
    intro n h1 h2 c hc
    have e : c = UInt8.ofNat n := by rw [← hc]; simp
    subst e
    have : n = 48 ∨ n = 49 ∨ n = 50 ∨ n = 51 ∨ n = 52 ∨ n = 53 ∨ n = 54 ∨ n = 55 ∨ n = 56 ∨ n = 57 := by omega
    rcases this with rfl | rfl | rfl | rfl | rfl | rfl | rfl | rfl | rfl | rfl <;> decide
  exact this _ h.1 h.2 c rfl
theorem dropWhile_all {α : Type} {p : α → Bool} : ∀ {l : List α}, (∀ x ∈ l, p x = true) → l.dropWhile p = []
  | [], _ => rfl
  | x :: r, h => by
    rw [List.dropWhile_cons, h x (List.mem_cons_self ..), if_pos rfl]
    exact dropWhile_all fun y hy => h y (List.mem_cons_of_mem _ hy)
theorem trim_all {d : List UInt8} (h : d.all digB = true) : Lib.trimS d digS = [] := by
  have h1 : d.reverse.dropWhile (digS.contains ·) = [] := dropWhile_all fun x hx => dig_mem (List.all_eq_true.1 h x (List.mem_reverse.1 hx))
  unfold Lib.trimS Lib.trimRightS
  rw [h1]; rfl
theorem numD_of (s : List UInt8) : numD s = if s.take 1 = [45] then s.drop 1 else s := by
  unfold numD Lib.trimPrefix
  cases s with
  | nil => rfl
  | cons c r =>
    by_cases hc : c = 45
    · subst hc; rfl
    · have e1 : Lib.hasPrefix (c :: r) [45] = false := by
        unfold Lib.hasPrefix
        simp [List.isPrefixOf, hc, Ne.symm hc]
        try (intro h; exact hc h.symm)
      have e2 : ¬ (c :: r).take 1 = [45] := by simp [hc]
      rw [e1, if_neg e2]; rfl
theorem numB_ok {s d : List UInt8} (hd : numD s = d) (h : numB d = true) (hz : (d.getD 0 0).toNat = 48 → s = [48]) : numOK s = true := by
  unfold numB at h
  rw [Bool.and_eq_true, decide_eq_true_eq] at h
  unfold numOK
  rw [hd, decide_eq_false h.1.1, trim_all h.2]
  by_cases h0 : (d.getD 0 0).toNat = 48
  · simp [hz h0]
  · simp only [decide_eq_false h0, Bool.false_and, ne_eq, not_true_eq_false, decide_false, Bool.or_false, Bool.not_false]
theorem dash {s : List UInt8} : (s.getD 0 0).toNat = 45 ↔ s.take 1 = [45] := by
  cases s with
  | nil => simp
  | cons c r =>
    simp
    exact ⟨fun h => UInt8.toNat_inj.1 h, fun h => by subst h; rfl⟩
theorem rnum_ok {s : List UInt8} (h : rnum s = true) : numOK s = true ∧ rdig s = numN s := by
  have key : ∀ d, numD s = d → numB d = true → ((d.getD 0 0).toNat = 48 → s = [48]) → rdig s = d.length → numOK s = true ∧ rdig s = numN s := fun d e hb hz hr => by
    have h1 := numB_ok e hb hz
    refine ⟨h1, ?_⟩
    unfold numN
    rw [if_pos h1, e, hr]
  unfold rnum at h
  by_cases h1 : 1 < s.length ∧ (s.getD 0 0).toNat = 45
  · rw [if_pos h1] at h
    by_cases h2 : ((s.drop 1).getD 0 0).toNat = 48
    · rw [if_pos h2] at h; cases h
    rw [if_neg h2] at h
    refine key (s.drop 1) (by rw [numD_of, if_pos (dash.1 h1.2)]) h (fun h9 => absurd h9 h2) ?_
    unfold rdig
    rw [if_pos h1.2, List.length_drop]; omega
  · rw [if_neg h1] at h
    have hnd : ¬ (s.getD 0 0).toNat = 45 := fun h9 => by
      have hlen : s.length = 1 ∨ s.length = 0 := by
        have : ¬ 1 < s.length := fun h8 => h1 ⟨h8, h9⟩
        omega
      unfold numB at h
      rw [Bool.and_eq_true] at h
      cases s with
      | nil => simp at h9
      | cons c r =>
        have h5 := List.all_eq_true.1 h.2 c (List.mem_cons_self ..)
        unfold digB at h5
        rw [decide_eq_true_eq] at h5
        simp at h9
        omega
    refine key s (by rw [numD_of, if_neg (fun h9 => hnd (dash.2 h9))]) h (fun h9 => ?_) ?_
    · unfold numB at h
      rw [Bool.and_eq_true, decide_eq_true_eq] at h
      cases s with
      | nil => exact absurd rfl h.1.1
      | cons c r =>
        have hr : r = [] := by
          have : ¬ 1 < (c :: r).length := fun h8 => h.1.2 ⟨h8, h9⟩
          simp at this
          exact this
        subst hr
        simp at h9
        have : c = 48 := UInt8.toNat_inj.1 h9
        subst this; rfl
    · unfold rdig; rw [if_neg hnd]
/-- Names. -/
def rnamesS (s : List UInt8) : Bool := if s = sTrue ∨ s = sFalse then false else if 0 ≤ cutI s then nameS (cutA s) && nameS (cutB s) else nameS s
def rformH (h : VH) (n : Nat) : Bool :=
  if h.k = 1 then decide ((h.n = 0 ∨ h.n = 1) ∧ h.s = [] ∧ n = 0)
  else if h.k = 2 then decide (h.s = [] ∧ n = 0)
  else if h.k = 3 then decide (h.n = 0 ∧ n = 0) && rnum h.s
  else if h.k = 4 then decide (h.n = 0 ∧ n = 0)
  else if h.k = 5 then decide (h.n = 0 ∧ h.s = [] ∧ n ≠ 1)
  else if h.k = 6 then decide (h.n = 0) && rnamesS h.s
  else false
def rfitsH (h : VH) (n : Nat) : Bool :=
  if h.k = 3 then decide (rdig h.s ≤ 200) else if h.k = 4 then decide (h.s.length ≤ 4096) else if h.k = 5 then decide (n ≤ 16) else if h.k = 6 then decide (n ≤ 8) else true
def rformL : Vf → Bool
  | .nil => true
  | .cons h L r => (rformH h L.len && rformL L) && rformL r
def rfitsL : Vf → Bool
  | .nil => true
  | .cons h L r => (rfitsH h L.len && rfitsL L) && rfitsL r
/-- Check. -/
def rcheckV (h : VH) (L : Vf) : Int := if 64 < dpR L + 1 then 65 else if (rformH h L.len && rformL L) = false then 4 else if (rfitsH h L.len && rfitsL L) = false then 40 else 0
theorem rnames_ok {s : List UInt8} (h : rnamesS s = true) : (nameS (cutA s) && ((cutC s && nameS (cutB s)) || (!cutC s && decide (s ≠ sTrue ∧ s ≠ sFalse)))) = true := by
  unfold rnamesS at h
  by_cases h1 : s = sTrue ∨ s = sFalse
  · rw [if_pos h1] at h; cases h
  rw [if_neg h1] at h
  by_cases h2 : 0 ≤ cutI s
  · rw [if_pos h2, Bool.and_eq_true] at h
    unfold cutC
    rw [decide_eq_true h2, h.1, h.2]; rfl
  · rw [if_neg h2] at h
    unfold cutC cutA
    rw [decide_eq_false h2, if_neg h2, h, decide_eq_true (show s ≠ sTrue ∧ s ≠ sFalse from ⟨fun e => h1 (.inl e), fun e => h1 (.inr e)⟩)]
    rfl
theorem rformH_ok {h : VH} {n : Nat} (hf : rformH h n = true) : formH h n = true := by
  unfold rformH at hf
  unfold formH
  by_cases k1 : h.k = 1
  · rw [if_pos k1] at hf ⊢; exact hf
  rw [if_neg k1] at hf ⊢
  by_cases k2 : h.k = 2
  · rw [if_pos k2] at hf ⊢; exact hf
  rw [if_neg k2] at hf ⊢
  by_cases k3 : h.k = 3
  · rw [if_pos k3] at hf ⊢
    rw [Bool.and_eq_true] at hf ⊢
    exact ⟨(rnum_ok hf.2).1, hf.1⟩
  rw [if_neg k3] at hf ⊢
  by_cases k4 : h.k = 4
  · rw [if_pos k4] at hf ⊢; exact hf
  rw [if_neg k4] at hf ⊢
  by_cases k5 : h.k = 5
  · rw [if_pos k5] at hf ⊢; exact hf
  rw [if_neg k5] at hf ⊢
  by_cases k6 : h.k = 6
  · rw [if_pos k6] at hf ⊢
    rw [Bool.and_eq_true] at hf ⊢
    exact ⟨hf.1, rnames_ok hf.2⟩
  · rw [if_neg k6] at hf; cases hf
theorem rfitsH_ok {h : VH} {n : Nat} (hf : rformH h n = true) (hg : rfitsH h n = true) : fitsH h n = true := by
  unfold rfitsH at hg
  unfold fitsH
  by_cases k3 : h.k = 3
  · rw [if_pos k3] at hg ⊢
    unfold rformH at hf
    rw [if_neg (by omega), if_neg (by omega), if_pos k3, Bool.and_eq_true] at hf
    rw [← (rnum_ok hf.2).2]; exact hg
  · rw [if_neg k3] at hg ⊢; exact hg
theorem rL_ok : ∀ {l : Vf}, rformL l = true → rfitsL l = true → formL l = true ∧ fitsL l = true
  | .nil, _, _ => ⟨rfl, rfl⟩
  | .cons h L r, hf, hg => by
    unfold rformL at hf
    unfold rfitsL at hg
    rw [Bool.and_eq_true, Bool.and_eq_true] at hf hg
    obtain ⟨a1, a2⟩ := rL_ok hf.1.2 hg.1.2
    obtain ⟨b1, b2⟩ := rL_ok hf.2 hg.2
    rw [formL_cons, fitsL_cons, rformH_ok hf.1.1, rfitsH_ok hf.1.1 hg.1.1, a1, a2, b1, b2]
    exact ⟨rfl, rfl⟩
theorem rcheck_ok {h : VH} {L : Vf} (hc : rcheckV h L = 0) : checkV h L = 0 := by
  unfold rcheckV at hc
  by_cases h1 : 64 < dpR L + 1
  · rw [if_pos h1] at hc; cases hc
  rw [if_neg h1] at hc
  by_cases h2 : (rformH h L.len && rformL L) = false
  · rw [if_pos h2] at hc; cases hc
  rw [if_neg h2] at hc
  by_cases h3 : (rfitsH h L.len && rfitsL L) = false
  · rw [if_pos h3] at hc; cases hc
  rw [Bool.not_eq_false, Bool.and_eq_true] at h2 h3
  have hd := depV_le L 0 65
  have hn := dpR_nn L
  obtain ⟨a, b⟩ := rL_ok h2.2 h3.2
  unfold checkV
  rw [if_neg (by omega), rformH_ok h2.1, rfitsH_ok h2.1 h3.1, a, b, if_neg (by decide), if_neg (by decide)]
end Go.De
namespace Go.Proofs.YtigblodhdfnleaaGreatDoor
open Go Go.Wk Go.Num
set_option linter.unusedSimpArgs false
set_option linter.unusedVariables false
attribute [local irreducible] Go.wpList Go.Code.wp Go.wpStill Go.Wk.wpPre Go.bodyPost Go.Calls Go.Wk.Ct Go.Wk.OwnS
attribute [local irreducible] Go.Wk.wpG Go.Wk.wpM

theorem decV_cons (c : UInt8) (r : List UInt8) : decV (c :: r) = dv c * 10 ^ r.length + decV r := by
  have := decV_append [c] r
  rw [List.singleton_append] at this
  rw [this]; congr 1; simp [decV]
theorem parseM (l : List UInt8) : ∀ acc : Nat, l.all isD = true → acc ≤ 18446744073709551615 → Lib.parseUintM (2 ^ 64 - 1) acc l = if acc * 10 ^ l.length + decV l ≤ 18446744073709551615 then .ok (acc * 10 ^ l.length + decV l) else .range := by
  induction l with
  | nil => intro acc _ ha; simp [Lib.parseUintM, decV_nil, ha]
  | cons c r ih =>
    intro acc hall ha
    rw [List.all_cons, Bool.and_eq_true] at hall
    have hc := (isD_iff c).1 hall.1
    have hdv : dv c = c.toNat - 48 := rfl
    have hp : 1 ≤ 10 ^ r.length := Nat.pow_pos (by decide)
    have hge : acc * 10 + dv c ≤ (acc * 10 + dv c) * 10 ^ r.length := Nat.le_mul_of_pos_right _ hp
    have hval : acc * 10 ^ (c :: r).length + decV (c :: r) = (acc * 10 + dv c) * 10 ^ r.length + decV r := by
      rw [decV_cons, List.length_cons, Nat.pow_succ, Nat.add_mul, Nat.mul_assoc, Nat.mul_comm 10, ← Nat.mul_assoc, Nat.add_assoc, Nat.mul_assoc]
    rw [hval]
    unfold Lib.parseUintM
    rw [if_pos hc]
    by_cases h1 : 1844674407370955162 ≤ acc
    · rw [if_pos h1, if_neg (by omega)]
    · rw [if_neg h1, ← hdv]
      by_cases h2 : 2 ^ 64 - 1 < acc * 10 + dv c
      · rw [if_pos h2, if_neg (by omega)]
      · rw [if_neg h2]
        exact ih _ hall.2 (by omega)
def fitsI (z : Int) : Bool := decide (-9223372036854775808 ≤ z) && decide (z ≤ 9223372036854775807)
theorem parse_int {s : List UInt8} (h : checkS s = 0) : Lib.parseIntB 64 s = if fitsI (valS s) = true then .ok (valS s) else .range := by
  obtain ⟨h1, h2, h3, h4⟩ := check_parts h
  have hu : Lib.parseUintB 64 (bodyS s) = if decV (bodyS s) ≤ 18446744073709551615 then .ok (decV (bodyS s)) else .range := by
    unfold Lib.parseUintB
    rw [if_neg h3, parseM _ 0 h1 (by decide)]; simp
  cases s with
  | nil => exact absurd rfl h3
  | cons c r =>
    unfold Lib.parseIntB
    by_cases hc : c = 45
    · subst hc
      have hb : bodyS (45 :: r) = r := (body_neg r).1
      have hn : negS (45 :: r) = true := (body_neg r).2
      rw [hb] at hu
      have hv : valS (45 :: r) = -(decV r : Int) := by unfold valS; rw [hb, hn]; rfl
      rw [hv]
      simp only [show (45 : UInt8).toNat = 45 from rfl, or_true, if_true, hu, not_true, false_and, if_false, true_and]
      unfold fitsI
      by_cases hd : decV r ≤ 18446744073709551615
      · rw [if_pos hd]
        simp only
        by_cases hd2 : 2 ^ (64 - 1) < decV r
        · rw [if_pos hd2, if_neg (by simp; omega)]
        · rw [if_neg hd2, if_pos (by simp; omega)]
      · rw [if_neg hd, if_neg (by simp; omega)]
    · have hb : bodyS (c :: r) = c :: r := by unfold bodyS; rw [if_neg (by simpa using hc)]
      have hn : negS (c :: r) = false := by unfold negS; simpa using hc
      rw [hb] at hu h1
      have hcd := (isD_iff c).1 (by rw [List.all_cons, Bool.and_eq_true] at h1; exact h1.1)
      have hv : valS (c :: r) = (decV (c :: r) : Int) := by unfold valS; rw [hb, hn]; rfl
      rw [hv]
      have e1 : ¬ c.toNat = 43 := by omega
      have e2 : ¬ c.toNat = 45 := by omega
      simp only [e1, e2, or_self, if_false, hu, not_false_eq_true, true_and, false_and]
      unfold fitsI
      by_cases hd : decV (c :: r) ≤ 18446744073709551615
      · rw [if_pos hd]
        simp only
        by_cases hd2 : 2 ^ (64 - 1) ≤ decV (c :: r)
        · rw [if_pos hd2, if_neg (by simp; omega)]
        · rw [if_neg hd2, if_pos (by simp; omega)]
      · rw [if_neg hd, if_neg (by simp; omega)]

/-- The variable ErrRange holds a value. -/
def ErrF (F : Heap) : Prop := ∃ ev, Cel F 5 0 ev ∧ (ev = .nilIface ∨ ∃ te pe, ev = .iface te pe)
theorem ErrF.mono {F F' : Heap} (hF : ∀ b o, F b = some o → F' b = some o) (h : ErrF F) : ErrF F' := by
  obtain ⟨ev, h1, h2⟩ := h; exact ⟨ev, h1.mono hF, h2⟩
theorem parseIntOk (s : List UInt8) (F : Heap) (hck : checkS s = 0) (hf : fitsI (valS s) = true) (hs : s.length ≤ 1000000) : Ct Tryz.prog 138 [.string (bs s), .int .i64 10, .int .i64 64] F [] (fun _ _ u => u = .tuple ⟨[.int .i64 (valS s), .nilIface]⟩) := by
  refine ct_of_below fun w hw => ?_
  refine (Tryz.strconv_ParseInt_10_at64_ok (bs s) (by rw [bs_size]; omega) (valS s) (by rw [show (bs s).data.toList = s from rfl, parse_int hck, if_pos hf]) w).mono fun e w' ⟨h1, h2⟩ => ⟨h1, ?_⟩
  rcases h2 with rfl | ⟨t, rfl⟩
  · exact RowKit.Below.refl _ _
  · exact Lib.bytesWorld_below w _ t
theorem parseIntRange (s : List UInt8) (F : Heap) (hE : ErrF F) (hck : checkS s = 0) (hf : ¬ fitsI (valS s) = true) (hs : s.length ≤ 1000000) : Ct Tryz.prog 138 [.string (bs s), .int .i64 10, .int .i64 64] F [] (fun _ _ u => ∃ n t v, u = .tuple ⟨[.int .i64 n, .iface t v]⟩) := by
  obtain ⟨ev, hc, hev⟩ := hE
  refine ct_of_below2 fun w hw => ?_
  exact (Tryz.strconv_ParseInt_10_at64_range (bs s) (by rw [bs_size]; omega) (by rw [show (bs s).data.toList = s from rfl, parse_int hck, if_neg hf]) ev w (hw.cel hc) hev).mono fun e w' ⟨N, h1, h2, h3, h4⟩ => ⟨_, h1, ⟨_, _, _, rfl⟩, h4⟩

def intA (s : List UInt8) : Int × Int := if checkS s = 0 then (if fitsI (valS s) = true then (valS s, 0) else (0, 80)) else (0, checkS s)
set_option maxHeartbeats 2000000 in
theorem bintCt (s : List UInt8) (F : Heap) (hE : ErrF F) (hs : s.length ≤ 1000000) : Ct Tryz.prog 113 [.string (bs s)] F [] (fun _ _ u => u = cmpV (intA s)) := by
  by_cases hck : checkS s = 0
  · by_cases hf : fitsI (valS s) = true
    · rw [show intA s = (valS s, 0) from (by unfold intA; rw [if_pos hck, if_pos hf])]
      refine Ct.enter Tryz.func113 rfl Tryz.ntmps113 rfl fun w0 a S => ?_
      (revert S a; refine go02 8 ?_; intro Z hZ Z hZ a S)
      (refine wpl_call0 S rfl rfl rfl rfl rfl rfl (checkCt s F (by omega)) rfl ?_; clear S a; intro v a w hv S; subst hv)
      (revert S a; revert hZ Z; refine go10 8 ?_; intro a S)
      refine wpc_split S rfl (fun h => ?_) (fun h => ?_)
      · (skip; (try simp only [tq] at h); exact absurd hck h)
      (skip; (try simp only [tq] at h))
      (revert S a; revert hZ Z; refine go11 4 ?_; intro Z hZ a S)
      (refine wpl_call0 S rfl rfl rfl rfl rfl rfl (parseIntOk s F hck hf hs) rfl ?_; clear S a; intro v a w hv S; subst hv)
      (revert S a; revert hZ Z; refine go12 10 ?_; intro Z hZ Z hZ a S)
      (refine wpl_v S rfl rfl rfl (sv_neNil S rfl rfl) ?_; clear S a; intro a S)
      (revert S a; revert hZ Z; refine go10 2 ?_; intro a S)
      refine wpc_false S rfl ?_
      (revert S a; revert hZ Z; refine go10 8 ?_; intro a S)
      refine wp_ret (fin_ret S (results2 Tryz.results113 (RV.tmp S rfl) (RV.tmp S rfl)) ?_)
      rfl
    · rw [show intA s = (0, 80) from (by unfold intA; rw [if_pos hck, if_neg hf])]
      refine Ct.enter Tryz.func113 rfl Tryz.ntmps113 rfl fun w0 a S => ?_
      (revert S a; refine go02 8 ?_; intro Z hZ Z hZ a S)
      (refine wpl_call0 S rfl rfl rfl rfl rfl rfl (checkCt s F (by omega)) rfl ?_; clear S a; intro v a w hv S; subst hv)
      (revert S a; revert hZ Z; refine go10 8 ?_; intro a S)
      refine wpc_split S rfl (fun h => ?_) (fun h => ?_)
      · (skip; (try simp only [tq] at h); exact absurd hck h)
      (skip; (try simp only [tq] at h))
      (revert S a; revert hZ Z; refine go11 4 ?_; intro Z hZ a S)
      (refine wpl_call0 S rfl rfl rfl rfl rfl rfl (parseIntRange s F hE hck hf hs) rfl ?_; clear S a; intro v a w hv S; obtain ⟨pn, pt, pv, rfl⟩ := hv)
      (revert S a; revert hZ Z; refine go12 10 ?_; intro Z hZ Z hZ a S)
      (refine wpl_v S rfl rfl rfl (sv_neSome S rfl rfl) ?_; clear S a; intro a S)
      (revert S a; revert hZ Z; refine go10 2 ?_; intro a S)
      refine wpc_true S rfl ?_
      (revert S a; refine go00 5 ?_; intro a S)
      refine wp_ret (fin_ret S (results2 Tryz.results113 (RV.tmp S rfl) (RV.tmp S rfl)) ?_)
      rfl
  · rw [show intA s = (0, checkS s) from (by unfold intA; rw [if_neg hck])]
    refine Ct.enter Tryz.func113 rfl Tryz.ntmps113 rfl fun w0 a S => ?_
    (revert S a; refine go02 8 ?_; intro Z hZ Z hZ a S)
    (refine wpl_call0 S rfl rfl rfl rfl rfl rfl (checkCt s F (by omega)) rfl ?_; clear S a; intro v a w hv S; subst hv)
    (revert S a; revert hZ Z; refine go10 8 ?_; intro a S)
    refine wpc_split S rfl (fun h => ?_) (fun h => ?_)
    · (skip; (try simp only [tq] at h))
      (revert S a; refine go00 6 ?_; intro a S)
      refine wp_ret (fin_ret S (results2 Tryz.results113 (RV.tmp S rfl) (RV.tmp S rfl)) ?_)
      rfl
    (skip; (try simp only [tq] at h); exact absurd h hck)
end Go.Proofs.YtigblodhdfnleaaGreatDoor
namespace Go.Proofs.YtigblodhdfnleaaGreatDoor
open Go Go.Wk Go.Num
set_option linter.unusedSimpArgs false
set_option linter.unusedVariables false
attribute [local irreducible] Go.wpList Go.Code.wp Go.wpStill Go.Wk.wpPre Go.bodyPost Go.Calls Go.Wk.Ct Go.Wk.OwnS
attribute [local irreducible] Go.Wk.wpG Go.Wk.wpM

theorem i64_nd {z : Int} (h0 : -9223372036854775808 ≤ z) (h1 : z ≤ 9223372036854775807) : nd 10 z.natAbs ≤ 19 := by
  refine nd_le ?_ t2
  have : z.natAbs ≤ 9223372036854775808 := by omega
  exact Nat.lt_of_le_of_lt this (by decide)
theorem show_itoa {z : Int} (h0 : -9223372036854775808 ≤ z) (h1 : z ≤ 9223372036854775807) : Lib.itoa z = (showZ z).1 := by
  have hn := i64_nd h0 h1
  by_cases hz : z.natAbs = 0
  · have : z = 0 := by omega
    subst this
    rw [show (0 : Int) = ((0 : Nat) : Int) from rfl, Lib.itoa_nonneg, dd_small (by decide)]; rfl
  · have hl : ¬ 200 < (Lib.decDigits z.natAbs).length := by rw [dd_nd hz]; omega
    unfold showZ showS
    rw [if_neg hz, if_neg hl]
    by_cases hs : z < 0
    · rw [show z = -((z.natAbs : Nat) : Int) by omega, Lib.itoa_neg _ (by omega), Int.natAbs_neg, decide_eq_true (by omega)]
      simp
    · have e : z = ((z.natAbs : Nat) : Int) := by omega
      rw [show Lib.itoa z = Lib.decDigits z.natAbs from (by conv => lhs; rw [e]; rw [Lib.itoa_nonneg]), decide_eq_false hs]
      simp
theorem bofnCt (n : Int) (F : Heap) (hT : TabF F) (h0 : -9223372036854775808 ≤ n) (h1 : n ≤ 9223372036854775807) : Ct Tryz.prog 96 [.int .i64 n, .int .i64 10] F [] (fun _ _ u => u = .string (bs (showZ n).1)) := by
  refine ct_of_below fun w hw => ?_
  refine (Tryz.strconv_FormatInt_10 n h0 h1 w (hT w hw.frz)).mono fun e w' ⟨h1', k, os, h2⟩ => ⟨?_, ?_⟩
  · rw [h1', ← show_itoa h0 h1]; rfl
  · rw [h2]; exact Lib.below_grow _ w (Nat.le_refl _) k os
theorem bigOfCt (n : Int) (F : Heap) (hT : TabF F) (h0 : -9223372036854775808 ≤ n) (h1 : n ≤ 9223372036854775807) : Ct Tryz.prog 112 [.int .i64 n] F [] (fun _ _ u => u = .string (bs (showZ n).1)) := by
  refine Ct.enter Tryz.func112 rfl Tryz.ntmps112 rfl fun w0 a S => ?_
  (revert S a; refine go01 6 ?_; intro Z hZ a S)
  (refine wpl_call0 S rfl rfl rfl rfl rfl rfl (bofnCt n F hT h0 h1) rfl ?_; clear S a; intro v a w hv S; subst hv)
  (revert S a; revert hZ Z; refine go10 3 ?_; intro a S)
  refine wp_ret (fin_ret S (results1 Tryz.results112 (RV.tmp S rfl)) ?_)
  rfl
end Go.Proofs.YtigblodhdfnleaaGreatDoor
namespace Go.Wk
open Go
set_option linter.unusedVariables false
set_option linter.unusedSimpArgs false

section
variable {α : Type} [DecidableEq α] {P : Program} {n : Sz} {L : List (Nat × Value)} {w0 : World} {F0 : Heap} {K0 : List Nat} {F : Heap} {G : List Grp} {a : Act} {w : World} {ops : Array Oper} {Q : Exit → Act → World → Prop} {rest : List Oper} {o : Oper}
/-- An entry of a map's literal. -/
theorem wpl_mapIns {d : TypeDesc} {enc : α → Value} [hk : KeyK d enc] {t kt e : TypeId} {x y z : Operand} {b : Nat} {es : List (α × Value)} {R} {k : α} {v : Value} [ht : Und P t (.map kt e)] [hd : Und P kt d] [hh : Has G b (mObj enc es) R]
    (S : St n L w0 F0 K0 F G a w) (hg : o.guard = none) (ho : o.op = .insert t x y z) (hdst : o.dst = none) (hx : ev L x = some (.map (some b))) (hy : ev L y = some (enc k)) (hz : ev L z = some v)
    (kk : ∀ w', St n L w0 F0 K0 F (R [(b, mObj enc (mSet es k v))]) a w' → wpList P ops Q rest a w') : wpList P ops Q (o :: rest) a w := by
  refine wpList_plain hg fun K hK => ?_
  have hb := S.has hh
  have hr : (Instr.mapUpdate t (.map (some b)) (enc k) v).run P w = .ok () (w.putObj b (mObj enc (mSet es k v))) := by
    unfold Instr.mapUpdate
    have hg := run_getMap (P := P) hb
    have hc := hk.chk P w kt false k hd.h
    simp only [Sem.run_bind, run_underlying ht.h, Result.andThen_ok, hg, Sem.run_pure, hc, run_findKey (d := d) hd.h w es k]
    cases hf : List.findIdx? (fun p => decide (k = p.1)) es with
    | none =>
      have hn : mGet es k = none := by rw [mGet_idx, hf]; rfl
      simp only [Option.map_none, mSet_new hn, mObj, mEnt_append]
      simp only [mObj] at hb
      simp [setObj, Sem.run, hb, World.putObj, Array.set!]
    | some j =>
      obtain ⟨h1, h2, h3⟩ := mEnt_modify enc k v 0 es j hf
      simp only [Option.map_some, Sem.run_bind, mObj, List.getElem?_toArray, h2, Option.getD_some]
      unfold Instr.keyThatStays
      rw [if_pos (hk.bits k)]
      simp only [Sem.run_pure, Result.andThen_ok, List.modify_toArray, h1, h3]
      simp only [mObj] at hb
      simp [setObj, Sem.run, hb, World.putObj, Array.set!]
  unfold Oper.wp execOp
  rw [ho]
  simp [S.fr.eval hx, S.fr.eval hy, S.fr.eval hz, hr, Oper.upon_skip, hdst, Act.put]
  exact hK _ _ (kk _ (S.write hh rfl rfl rfl (by simp) (World.putObj_heap_same (heap_lt hb)) fun j hj => World.putObj_heap_other hj))
end
end Go.Wk
