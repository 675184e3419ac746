/- Walks. -/
import Derived.Test.YtgefmjghdijbfaaGreatDoorQ14
import Derived.Test.YtgefmjghdijbfaaGreatDoorQ13
import Derived.Test.YtgefmjghdijbfaaGreatDoorQ24
set_option maxHeartbeats 8000000
namespace Go.Proofs.YtgefmjghdijbfaaGreatDoor
open Go Go.Wk Go.Un Go.De Go.Num
set_option linter.unusedSimpArgs false
set_option linter.unusedVariables false
attribute [local irreducible] Go.wpList Go.Code.wp Go.wpStill Go.Wk.wpPre Go.bodyPost Go.Calls Go.Wk.Ct Go.Wk.OwnS Go.Wk.wpG Go.Wk.wpM
def SmC (n : Nat) : Prop := ∀ (F : Heap) (x y : Vv) (cs cs2 : List Value), x.2.size < n → VaC F cs x.1 x.2 → VaC F cs2 y.1 y.2 → Ct Tryz.prog 10 [.agg ⟨cs⟩, .agg ⟨cs2⟩] F [] (fun _ _ u => u = .bool (sameV x y))
theorem zzSa0 {p : Prop} (h : p := by (congr 1; first | (rw [sameL_len (by omega)]; done) | (rw [← hfp, Rose.drop_len (by omega), Rose.drop_len (by omega)]; rfl) | (rw [← hfp, sameL_drop hx hy, (by assumption : sameV x y = false), Bool.false_and]; done) | trace_state)) : p := h
theorem sameRowCt {n : Nat} (hC : SmC n) (F : Heap) (l m : Vf) (v u : Value) (hn : l.size ≤ n) (hv : TrS F 4 VhR v l) (hu : TrS F 4 VhR u m) : Ct Tryz.prog 37 [v, u] F [] (fun _ _ u => u = .bool (sameL l m)) := by
 obtain ⟨ao, cap, rfl, hcap, hpos⟩ := hv
 obtain ⟨ao2, cap2, rfl, hcap2, hpos2⟩ := hu
 refine Ct.enter Tryz.func37 rfl Tryz.ntmps37 rfl fun w0 a S => ?_
 (revert S a; refine go 13 ?_; intro Z hZ a S)
 refine wpc_sp S rfl ?_ ?_ <;> intro h
 ·(revert S a; refine go 4 ?_; intro a S)
  refine wp_ret (fr1 S Tryz.results37 ?_)
  exact zzSa0
 (revert S a; revert hZ Z; refine go 8 ?_; intro Z hZ a S)
 refine wpc_loop (fun q a w' => ∃ (k : Nat), q = l.len - k ∧ k ≤ l.len ∧ sameL (l.drop k) (m.drop k) = sameL l m ∧ St 27 [(0, .slice ao l.len cap), (1, .slice ao2 m.len cap2), (5, .int .i64 k)] w0 F [] F [] a w') ?_ ?_
 ·(have hlm : l.len = m.len := (by omega); refine ⟨l.len, 0, by omega, Nat.zero_le _, rfl, ?_⟩; refine S.keep ?_; exact zk)
 (clear S; rintro q a w ⟨k, rfl, hkl, hfp, S⟩)
 (revert S a; refine go 8 ?_; intro Z hZ a S)
 refine wpc_sp S rfl ?_ ?_ <;> intro h
 ·(revert S a; revert hZ Z; refine go 4 ?_; intro Z hZ a S)
  (refine wp_seq_k ?_; intro Z hZ)
  (obtain ⟨b8, o8, hao, x, cs1, v1, hx, hc1, hw9, hT1⟩ := TrM.pos hpos (k := k) (by omega); rw [hao] at S; have hxs := Rose.size_get hx; have hT1c := hT1; obtain ⟨a91, c91, rfl, -⟩ := hT1c; have hw9c := hw9.1; subst hw9c; (simp only [List.cons_append, List.nil_append] at hc1); obtain ⟨b9, o9, hao2, y, cs2, v2, hy, hc2, hw8, hT2⟩ := TrM.pos hpos2 (k := k) (by omega); rw [hao2] at S; have hT2c := hT2; obtain ⟨a92, c92, rfl, -⟩ := hT2c; have hw8c := hw8.1; subst hw8c; (simp only [List.cons_append, List.nil_append] at hc2))
  (refine wpc_mixM [0, 1, 2, 3, 4, 5, 6, 7, 9] [3, 7] [] (.one 0 (.one 1 (.one 2 (.one 3 (.one 4 (.one 5 (.one 6 (.one 7 (.one 8 (.one 9 .nil)))))))))) [] S mixed (by kernel_rfl) ?_; clear S; intro w S)
  (revert S a; refine go 9 ?_; intro a S)
  (refine wc0 S (hC F x y _ _ (by omega) ⟨_, rfl, hT1, hw9.2⟩ ⟨_, rfl, hT2, hw8.2⟩) ?_; clear S a; intro v a w hv S; subst hv)
  (revert S a; revert hZ Z; refine go 4 ?_; intro a S)
  refine wpc_sp S rfl ?_ ?_ <;> intro h
  ·(revert S a; refine go 4 ?_; intro a S)
   refine wp_ret (fr1 S Tryz.results37 ?_)
   exact zzSa0
  (revert S a; revert hZ Z; refine go 7 ?_; intro a S)
  change ∃ m', _ ∧ _
  (rw [← hao, ← hao2] at S; refine ⟨l.len - (k + 1), by omega, k + 1, rfl, by omega, ?_, ?_⟩; rotate_left 1; (refine S.keep ?_; exact zk); rw [← hfp, sameL_drop hx hy, (by assumption : sameV x y = true), Bool.true_and])
 (refine wp_exit ?_; conv => whnf)
 clear hZ Z
 (revert S a; revert hZ Z; refine go 5 ?_; intro a S)
 refine wp_ret (fr1 S Tryz.results37 ?_)
 exact zzSa0
theorem zzSa1 {p : Prop} (h : p := by (congr 1; show _ = (decide (xk = yk) && (decide (xn = yn) && decide (xs = ys)) && sameL xl yl); first | (rw [decide_eq_true (show xk = yk by omega), decide_eq_true (show xn = yn by assumption), decide_eq_true (show xs = ys by assumption)]; rfl) | (rw [decide_eq_false (show ¬ xk = yk by omega)]; rfl) | (rw [decide_eq_false (show ¬ xn = yn by assumption), Bool.false_and, Bool.and_false, Bool.false_and]; done) | (rw [decide_eq_false (show ¬ xs = ys by assumption), Bool.and_false, Bool.and_false, Bool.false_and]; done) | trace_state)) : p := h
theorem sameCt : ∀ n, SmC n := by
 intro n
 induction n with
 | zero => intro F x y cs cs2 hn; omega
 | succ n ih =>
 intro F x y cs cs2 hn hV hV2
 obtain ⟨⟨xk, xn, xs⟩, xl⟩ := x
 obtain ⟨⟨yk, yn, ys⟩, yl⟩ := y
 obtain ⟨v1, rfl, hT1, hs1⟩ := hV
 obtain ⟨v2, rfl, hT2, hs2⟩ := hV2
 dsimp only at *
 have hr := sameRowCt ih F xl yl v1 v2 (by omega) hT1 hT2
 obtain ⟨a1, c1, rfl, -⟩ := hT1
 obtain ⟨a2, c2, rfl, -⟩ := hT2
 refine Ct.enter Tryz.func10 rfl Tryz.ntmps10 rfl fun w0 a S => ?_
 refine wp_sr fun Z hZ => ?_
 (refine wbx S ?_; clear S a; intro b2 a w S)
 (refine wbx S ?_; clear S a; intro b3 a w S)
 (revert S a; revert hZ Z; refine go 10 ?_; intro Z hZ a S)
 refine wgd S ?_ ?_
 ·(clear S; intro h S)
  (revert S a; refine go 11 ?_; intro a S)
  refine wgd S ?_ ?_
  ·(clear S; intro h S)
   (revert S a; refine go 11 ?_; intro a S)
   refine wgd S ?_ ?_
   ·(clear S; intro h S)
    (revert S a; refine go 8 ?_; intro a S)
    (refine wc0 S (hr) ?_; clear S a; intro v a w hv S; subst hv)
    (revert S a; revert hZ Z; refine go 4 ?_; intro a S)
    refine wp_ret (fr1 S Tryz.results10 ?_)
    exact zzSa1
   (clear S a; intro h a S)
   (revert S a; revert hZ Z; refine go 8 ?_; intro a S)
   refine wp_ret (fr1 S Tryz.results10 ?_)
   exact zzSa1
  (clear S a; intro h a S)
  (revert S a; revert hZ Z; refine go 15 ?_; intro a S)
  refine wp_ret (fr1 S Tryz.results10 ?_)
  exact zzSa1
 (clear S a; intro h a S)
 (revert S a; revert hZ Z; refine go 22 ?_; intro a S)
 refine wp_ret (fr1 S Tryz.results10 ?_)
 exact zzSa1
abbrev RvR := RoR 4 VhR
abbrev ReR := RoR 9 EhR
theorem ror_leaf (F : Heap) (k : Nat) (n : Int) (s : List UInt8) (hs : s.length ≤ 140737488355328) : RvR F (⟨k, n, s⟩, .nil) [.int .u8 (k : Int), .int .i64 n, .string (bs s), .slice none 0 0] := ⟨[_, _, _], _, rfl, rfl, ⟨rfl, hs⟩, TrS.nil _ _ _⟩
theorem ror_exc {F : Heap} {cs : List Value} {x : Ex} (h : ReR F x cs) : ExC F cs x.1 x.2 := by
 obtain ⟨c, v, rfl, -, h1, h2⟩ := h
 exact exc_of h1 h2
theorem lnumCt (F : Heap) (n : Int) : Ct Tryz.prog 13 [.int .i64 n] F [] (fun F' _ u => ∃ cs, u = .agg ⟨cs⟩ ∧ cs.length = 4 ∧ RvR F' (intV n) cs) := by
 refine Ct.enter Tryz.func13 rfl Tryz.ntmps13 rfl fun w0 a S => ?_
 refine wp_sr fun Z hZ => ?_
 (refine wpl_alloc S rfl rfl rfl rfl ?_; clear S a; intro b2 a w S)
 (revert S a; revert hZ Z; refine go 5 ?_; intro Z hZ a S)
 (refine wso S rfl rfl ?_; clear S; intro w S)
 (revert S a; revert hZ Z; refine go 2 ?_; intro a S)
 refine wp_ret (fin_ret S (results1 Tryz.results13 (RV.cellO S rfl (by rfl))) ?_)
 (exact ⟨_, rfl, rfl, ror_leaf _ 2 n [] (by decide)⟩)
theorem lhugeCt (F : Heap) (s : List UInt8) (hs : s.length ≤ 140737488355328) : Ct Tryz.prog 17 [.string (bs s)] F [] (fun F' _ u => ∃ cs, u = .agg ⟨cs⟩ ∧ cs.length = 4 ∧ RvR F' (bigV s) cs) := by
 refine Ct.enter Tryz.func17 rfl Tryz.ntmps17 rfl fun w0 a S => ?_
 refine wp_sr fun Z hZ => ?_
 (refine wpl_alloc S rfl rfl rfl rfl ?_; clear S a; intro b2 a w S)
 (revert S a; revert hZ Z; refine go 5 ?_; intro Z hZ a S)
 (refine wso S rfl rfl ?_; clear S; intro w S)
 (revert S a; revert hZ Z; refine go 2 ?_; intro a S)
 refine wp_ret (fin_ret S (results1 Tryz.results17 (RV.cellO S rfl (by rfl))) ?_)
 (exact ⟨_, rfl, rfl, ror_leaf _ 3 0 s hs⟩)
theorem ltextCt (F : Heap) (s : List UInt8) (hs : s.length ≤ 140737488355328) : Ct Tryz.prog 14 [.string (bs s)] F [] (fun F' _ u => ∃ cs, u = .agg ⟨cs⟩ ∧ cs.length = 4 ∧ RvR F' (textV s) cs) := by
 refine Ct.enter Tryz.func14 rfl Tryz.ntmps14 rfl fun w0 a S => ?_
 refine wp_sr fun Z hZ => ?_
 (refine wpl_alloc S rfl rfl rfl rfl ?_; clear S a; intro b2 a w S)
 (revert S a; revert hZ Z; refine go 5 ?_; intro Z hZ a S)
 (refine wso S rfl rfl ?_; clear S; intro w S)
 (revert S a; revert hZ Z; refine go 2 ?_; intro a S)
 refine wp_ret (fin_ret S (results1 Tryz.results14 (RV.cellO S rfl (by rfl))) ?_)
 (exact ⟨_, rfl, rfl, ror_leaf _ 4 0 s hs⟩)
theorem ltruthCt (F : Heap) (b : Bool) : Ct Tryz.prog 19 [.bool b] F [] (fun F' _ u => ∃ cs, u = .agg ⟨cs⟩ ∧ cs.length = 4 ∧ RvR F' (boolV b) cs) := by
 refine Ct.enter Tryz.func19 rfl Tryz.ntmps19 rfl fun w0 a S => ?_
 refine wp_sr fun Z hZ => ?_
 (refine wpl_alloc S rfl rfl rfl rfl ?_; clear S a; intro b2 a w S)
 (revert S a; revert hZ Z; refine go 7 ?_; intro Z hZ a S)
 refine wpc_sp S rfl ?_ ?_ <;> intro h
 ·(revert S a; refine go 2 ?_; intro Z hZ a S)
  (refine wso S rfl rfl ?_; clear S; intro w S)
  (revert S a; revert hZ Z; refine go 2 ?_; intro a S)
  refine wp_ret (fin_ret S (results1 Tryz.results19 (RV.cellO S rfl (by rfl))) ?_)
  (subst h; exact ⟨_, rfl, rfl, ror_leaf _ 1 _ [] (by decide)⟩)
 (revert S a; revert hZ Z; refine go 4 ?_; intro Z hZ a S)
 (refine wso S rfl rfl ?_; clear S; intro w S)
 (revert S a; revert hZ Z; refine go 2 ?_; intro a S)
 refine wp_ret (fin_ret S (results1 Tryz.results19 (RV.cellO S rfl (by rfl))) ?_)
 (subst h; exact ⟨_, rfl, rfl, ror_leaf _ 1 _ [] (by decide)⟩)
theorem llitCt (F : Heap) (v : Vv) (cs : List Value) (h : RvR F v cs) : Ct Tryz.prog 12 [.agg ⟨cs⟩] F [] (fun F' _ u => ∃ cs, u = .agg ⟨cs⟩ ∧ cs.length = 9 ∧ ReR F' (litX v) cs) := by
 obtain ⟨c, w, rfl, -, ⟨rfl, hs⟩, hT⟩ := h
 have hTc := hT
 obtain ⟨a1, c1, rfl, -⟩ := hTc
 refine Ct.enter Tryz.func12 rfl Tryz.ntmps12 rfl fun w0 a S => ?_
 refine wp_sr fun Z hZ => ?_
 (refine wbx S ?_; clear S a; intro b1 a w S)
 (refine wpl_alloc S rfl rfl rfl rfl ?_; clear S a; intro b2 a w S)
 (revert S a; revert hZ Z; refine go 5 ?_; intro Z hZ a S)
 (refine wso S rfl rfl ?_; clear S; intro w S)
 (revert S a; revert hZ Z; refine go 2 ?_; intro a S)
 refine wp_ret (fin_ret S (results1 Tryz.results12 (RV.cellO S rfl (by rfl))) ?_)
 (exact ⟨_, rfl, rfl, [_, _, _, _, _, _, _, _], _, rfl, rfl, ⟨_, rfl, hT⟩, TrS.nil _ _ _⟩)
theorem lcallCt (F : Heap) (s : List UInt8) (L : Ef) (v : Value) (h : TrS F 9 EhR v L) : Ct Tryz.prog 15 [.string (bs s), v] F [] (fun F' _ u => ∃ cs, u = .agg ⟨cs⟩ ∧ cs.length = 9 ∧ ReR F' (callH s, L) cs) := by
 have hTc := h
 obtain ⟨a1, c1, rfl, -⟩ := hTc
 refine Ct.enter Tryz.func15 rfl Tryz.ntmps15 rfl fun w0 a S => ?_
 refine wp_sr fun Z hZ => ?_
 (refine wpl_alloc S rfl rfl rfl rfl ?_; clear S a; intro b4 a w S)
 (revert S a; revert hZ Z; refine go 6 ?_; intro Z hZ a S)
 (refine wso S rfl rfl ?_; clear S; intro w S)
 (revert S a; revert hZ Z; refine go 2 ?_; intro a S)
 refine wp_ret (fin_ret S (results1 Tryz.results15 (RV.cellO S rfl (by rfl))) ?_)
 (exact ⟨_, rfl, rfl, [_, _, _, _, _, _, _, _], _, rfl, rfl, ⟨_, rfl, TrS.nil _ _ _⟩, h⟩)
theorem cons0Ct (F : Heap) (s : List UInt8) : Ct Tryz.prog 126 [.pointer none, .string (bs s)] F [] (fun F2 _ u => ConsR F2 u none) := by
 refine Ct.enter Tryz.func126 rfl Tryz.ntmps126 rfl fun w0 a S => ?_
 refine wp_sr fun Z hZ => ?_
 (refine wpl_alloc S rfl rfl rfl rfl ?_; clear S a; intro b4 a w S)
 (revert S a; revert hZ Z; refine go 6 ?_; intro Z hZ Z hZ a S)
 (refine wv S (sv_lit (c := true) (sv_eqPtrNil S rfl rfl rfl) (by rfl)) ?_; clear S a; intro a S)
 (revert S a; revert hZ Z; refine go 2 ?_; intro a S)
 refine wpc_true S rfl ?_
 (revert S a; refine go 2 ?_; intro Z hZ a S)
 (refine wso S rfl rfl ?_; clear S; intro w S)
 (revert S a; revert hZ Z; refine go 3 ?_; intro a S)
 refine wp_ret (fin_ret S (results2 Tryz.results126 (RV.cellO S rfl (by rfl)) (RV.tmp S rfl)) ?_)
 (exact ⟨[], none, 0, 0, 0, none, 0, 0, rfl, fun y h => by cases h⟩)
theorem eval0Ct (F : Heap) (hT : TabF F) (hE : ErrF F) (x : Ex) (cs : List Value) (hX : ReR F x cs) (hg : GE x.1 x.2) : Ct Tryz.prog 8 [.pointer none, .agg ⟨cs⟩, .slice none 0 0] F [] (fun F' _ u => AnsR F' u (evalO [] [] x.1 x.2)) :=
 evalCt F hT hE none [] (fun F' nm _ => cons0Ct F' nm) [] _ (LiM.nil _ _ _) (fun x hx => by cases hx) x.1 x.2 cs (ror_exc hX) hg
def comesB (x : Ex) (v : Vv) (e : Int) : Bool := decide ((evalO [] [] x.1 x.2).1 = e) && sameV (evalO [] [] x.1 x.2).2 v
theorem comesCt (F : Heap) (hT : TabF F) (hE : ErrF F) (x : Ex) (cs : List Value) (hX : ReR F x cs) (hg : GE x.1 x.2) (v : Vv) (cv : List Value) (hv : RvR F v cv) (e : Int) : Ct Tryz.prog 20 [.agg ⟨cs⟩, .agg ⟨cv⟩, .int .i64 e] F [] (fun _ _ u => u = .bool (comesB x v e)) := by
 have hev := eval0Ct F hT hE x cs hX hg
 obtain ⟨a1, n1, c1, ao, cap, rfl, -, -⟩ := exc_slc (ror_exc hX)
 obtain ⟨a2, c2, rfl, hT2, hs2⟩ := vac_slc (ror_vac hv)
 unfold comesB
 generalize evalO [] [] x.1 x.2 = A at hev ⊢
 refine Ct.enter Tryz.func20 rfl Tryz.ntmps20 rfl fun w0 a S => ?_
 refine wp_sr fun Z hZ => ?_
 (refine wbx S ?_; clear S a; intro b3 a w S)
 (refine wbx S ?_; clear S a; intro b4 a w S)
 (revert S a; revert hZ Z; refine go 5 ?_; intro Z hZ a S)
 (refine wcF S hev ?_; clear S a; intro u9 F4 a w hv9 hF4 S; obtain ⟨cs4, rfl, hV4⟩ := hv9; obtain ⟨a4, c4, rfl, hT4, hs4⟩ := vac_slc hV4)
 (revert S a; refine go 3 ?_; intro a S)
 (refine wpl_alloc S rfl rfl rfl rfl ?_; clear S a; intro b7 a w S)
 (refine wso S rfl rfl ?_; clear S; intro w S)
 (revert S a; revert hZ Z; refine go 8 ?_; intro Z hZ a S)
 refine wgd S ?_ ?_
 ·(clear S; intro h S)
  (revert S a; refine go 4 ?_; intro a S)
  (refine wc0 S (sameCt (A.2.2.size + 1) F4 A.2 v _ _ (Nat.lt_succ_self _) ⟨_, rfl, hT4, hs4⟩ ⟨_, rfl, hT2.mono hF4, hs2⟩) ?_; clear S a; intro v a w hv S; subst hv)
  (revert S a; revert hZ Z; refine go 4 ?_; intro a S)
  refine wp_ret (fr1 S Tryz.results20 ?_)
  (congr 1; first | (rw [decide_eq_true (by omega)]; rfl) | (rw [decide_eq_false (by omega)]; rfl) | trace_state)
 (clear S a; intro h a S)
 (revert S a; revert hZ Z; refine go 6 ?_; intro a S)
 refine wp_ret (fr1 S Tryz.results20 ?_)
 (congr 1; first | (rw [decide_eq_true (by omega)]; rfl) | (rw [decide_eq_false (by omega)]; rfl) | trace_state)
end Go.Proofs.YtgefmjghdijbfaaGreatDoor
