/- Walks. -/
import Derived.Test.YtgefmjghdijbfaaGreatDoorQ19
import Derived.Test.YtgefmjghdijbfaaGreatDoorQ15
import Derived.Test.YtgefmjghdijbfaaGreatDoorQ18
set_option maxHeartbeats 16000000
set_option maxRecDepth 20000
namespace Go.Proofs.YtgefmjghdijbfaaGreatDoor
open Go Go.Wk Go.Un Go.De Go.Num
set_option linter.unusedSimpArgs false
set_option linter.unusedVariables false
attribute [local irreducible] Go.wpList Go.Code.wp Go.wpStill Go.Wk.wpPre Go.bodyPost Go.Calls Go.Wk.Ct Go.Wk.OwnS Go.Wk.wpG Go.Wk.wpM
def GVl : Vf → Prop
 | .nil => True
 | .cons h L r => (in64 h.n ∧ h.s.length ≤ 200000) ∧ GVl L ∧ GVl r
def GV (v : Vv) : Prop := (in64 v.1.n ∧ v.1.s.length ≤ 200000) ∧ GVl v.2 ∧ v.2.size ≤ 5000
theorem zzEvD0 {p : Prop} (h : p := by (first | (rw [if_pos (by omega), if_pos (by assumption)]; exact ans_no _ _) | (rw [if_pos (by omega), if_neg (by omega)]; exact ⟨_, rfl, vac_z _ (k := 2) (s := []) (by decide)⟩) | (rw [if_neg (by omega), if_pos (by omega), if_pos (by assumption)]; exact ans_no _ _) | (rw [if_neg (by omega), if_pos (by omega), if_neg (by omega)]; exact ⟨_, rfl, vac_z _ (k := 3) hd⟩) | (rw [if_neg (by omega), if_neg (by omega)]; exact ans_no _ _) | trace_state)) : p := h
theorem num1Ct (F : Heap) (k : Nat) (b2 b3 fidI fidB : Nat) [HasFn Tryz.prog fidI] [HasFn Tryz.prog fidB] (h2 : Cel F b2 0 (.func (.func fidI) ⟨[]⟩ ⟨[]⟩)) (h3 : Cel F b3 0 (.func (.func fidB) ⟨[]⟩ ⟨[]⟩))
  (hI : ∀ (x y : Int), in64 x → in64 y → Ct Tryz.prog fidI [.int .i64 x, .int .i64 y] F [] (fun _ _ u => u = cmpV (intO k x y))) (hB : ∀ (s t : List UInt8), s.length ≤ 1000000 → t.length ≤ 1000000 → Ct Tryz.prog fidB [.string (bs s), .string (bs t)] F [] (fun _ _ u => u = ansV (doA k s t)))
  (x y : Vv) (cx cy : List Value) (gx : GV x) (gy : GV y) (hx : VaC F cx x.1 x.2) (hy : VaC F cy y.1 y.2) (hd : (doA k x.1.s y.1.s).1.length ≤ 140737488355328) : Ct Tryz.prog 108 ([] ++ [.agg ⟨cx⟩, .agg ⟨cy⟩] ++ [ptr b2, ptr b3]) F [] (fun F' _ u => AnsR F' u (numO k x y)) := by
 obtain ⟨⟨xk, xn, xs⟩, xl⟩ := x
 obtain ⟨⟨yk, yn, ys⟩, yl⟩ := y
 obtain ⟨⟨ix, lx⟩, -, -⟩ := gx
 obtain ⟨⟨iy, ly⟩, -, -⟩ := gy
 obtain ⟨v1, rfl, ⟨a1, c1, rfl, -⟩, -⟩ := hx
 obtain ⟨v2, rfl, ⟨a2, c2, rfl, -⟩, -⟩ := hy
 dsimp only at *
 unfold numO
 dsimp only
 have hI' := hI xn yn ix iy
 have hB' := hB xs ys (by omega) (by omega)
 generalize intO k xn yn = p at hI' ⊢
 generalize doA k xs ys = q at hB' hd ⊢
 obtain ⟨p1, p2⟩ := p
 obtain ⟨q1, q2⟩ := q
 dsimp only at *
 refine Ct.enter Tryz.func108 rfl Tryz.ntmps108 rfl fun w0 a S => ?_
 refine wp_sr fun Z hZ => ?_
 (refine wbx S ?_; clear S a; intro b4 a w S)
 (refine wbx S ?_; clear S a; intro b5 a w S)
 (refine wpl_alloc S rfl rfl rfl rfl ?_; clear S a; intro b6 a w S)
 (revert S a; revert hZ Z; refine go 10 ?_; intro Z hZ Z hZ a S)
 refine wgd S ?_ ?_
 ·(clear S; intro h S)
  (revert S a; revert hZ Z; refine go 9 ?_; intro a S)
  refine wpc_sp S rfl ?_ ?_ <;> intro h
  ·refine wp_sr fun Z hZ => ?_
   (refine wv S (sv_loadF S rfl rfl h2) ?_; clear S a; intro a S)
   (revert S a; refine go 4 ?_; intro a S)
   (refine wc0 S hI' ?_; clear S a; intro v a w hv S; subst hv)
   (revert S a; revert hZ Z; refine go 13 ?_; intro Z hZ a S)
   refine wpc_sp S rfl ?_ ?_ <;> intro h
   ·(revert S a; refine go 3 ?_; intro Z hZ a S)
    (refine wso S rfl rfl ?_; clear S; intro w S)
    (revert S a; revert hZ Z; refine go 3 ?_; intro a S)
    refine wp_ret (fin_ret S (results2 Tryz.results108 (RV.cellO S rfl (by rfl)) (RV.tmp S rfl)) ?_)
    exact zzEvD0
   (revert S a; revert hZ Z; refine go 4 ?_; intro Z hZ a S)
   (refine wc0 S (eWholeCt F _) ?_; clear S a; intro v a w hv S; subst hv)
   (refine wso S rfl rfl ?_; clear S; intro w S)
   (revert S a; revert hZ Z; refine go 3 ?_; intro a S)
   refine wp_ret (fin_ret S (results2 Tryz.results108 (RV.cellO S rfl (by rfl)) (RV.tmp S rfl)) ?_)
   exact zzEvD0
  (revert S a; refine go 5 ?_; intro Z hZ a S)
  refine wgd S ?_ ?_
  ·(clear S; intro h S)
   (revert S a; revert hZ Z; refine go 9 ?_; intro a S)
   refine wpc_sp S rfl ?_ ?_ <;> intro h
   ·refine wp_sr fun Z hZ => ?_
    (refine wv S (sv_loadF S rfl rfl h3) ?_; clear S a; intro a S)
    (revert S a; refine go 4 ?_; intro a S)
    (refine wc0 S hB' ?_; clear S a; intro v a w hv S; subst hv)
    (revert S a; revert hZ Z; refine go 13 ?_; intro Z hZ a S)
    refine wpc_sp S rfl ?_ ?_ <;> intro h
    ·(revert S a; refine go 3 ?_; intro Z hZ a S)
     (refine wso S rfl rfl ?_; clear S; intro w S)
     (revert S a; revert hZ Z; refine go 3 ?_; intro a S)
     refine wp_ret (fin_ret S (results2 Tryz.results108 (RV.cellO S rfl (by rfl)) (RV.tmp S rfl)) ?_)
     exact zzEvD0
    (revert S a; revert hZ Z; refine go 5 ?_; intro Z hZ a S)
    (refine wso S rfl rfl ?_; clear S; intro w S)
    (revert S a; revert hZ Z; refine go 3 ?_; intro a S)
    refine wp_ret (fin_ret S (results2 Tryz.results108 (RV.cellO S rfl (by rfl)) (RV.tmp S rfl)) ?_)
    exact zzEvD0
   (revert S a; revert hZ Z; refine go 4 ?_; intro Z hZ a S)
   (refine wso S rfl rfl ?_; clear S; intro w S)
   (revert S a; revert hZ Z; refine go 3 ?_; intro a S)
   refine wp_ret (fin_ret S (results2 Tryz.results108 (RV.cellO S rfl (by rfl)) (RV.tmp S rfl)) ?_)
   exact zzEvD0
  (clear S a; intro h a S)
  (revert S a; revert hZ Z; refine go 6 ?_; intro a S)
  refine wpc_false S rfl ?_
  (revert S a; revert hZ Z; refine go 4 ?_; intro Z hZ a S)
  (refine wso S rfl rfl ?_; clear S; intro w S)
  (revert S a; revert hZ Z; refine go 3 ?_; intro a S)
  refine wp_ret (fin_ret S (results2 Tryz.results108 (RV.cellO S rfl (by rfl)) (RV.tmp S rfl)) ?_)
  exact zzEvD0
 (clear S a; intro h a S)
 (revert S a; revert hZ Z; refine go 6 ?_; intro a S)
 refine wpc_false S rfl ?_
 (revert S a; refine go 5 ?_; intro Z hZ a S)
 refine wgd S ?_ ?_
 ·(clear S; intro h S)
  (revert S a; revert hZ Z; refine go 9 ?_; intro a S)
  refine wpc_sp S rfl ?_ ?_ <;> intro h
  ·refine wp_sr fun Z hZ => ?_
   (refine wv S (sv_loadF S rfl rfl h3) ?_; clear S a; intro a S)
   (revert S a; refine go 4 ?_; intro a S)
   (refine wc0 S hB' ?_; clear S a; intro v a w hv S; subst hv)
   (revert S a; revert hZ Z; refine go 13 ?_; intro Z hZ a S)
   refine wpc_sp S rfl ?_ ?_ <;> intro h
   ·(revert S a; refine go 3 ?_; intro Z hZ a S)
    (refine wso S rfl rfl ?_; clear S; intro w S)
    (revert S a; revert hZ Z; refine go 3 ?_; intro a S)
    refine wp_ret (fin_ret S (results2 Tryz.results108 (RV.cellO S rfl (by rfl)) (RV.tmp S rfl)) ?_)
    exact zzEvD0
   (revert S a; revert hZ Z; refine go 5 ?_; intro Z hZ a S)
   (refine wso S rfl rfl ?_; clear S; intro w S)
   (revert S a; revert hZ Z; refine go 3 ?_; intro a S)
   refine wp_ret (fin_ret S (results2 Tryz.results108 (RV.cellO S rfl (by rfl)) (RV.tmp S rfl)) ?_)
   exact zzEvD0
  (revert S a; revert hZ Z; refine go 4 ?_; intro Z hZ a S)
  (refine wso S rfl rfl ?_; clear S; intro w S)
  (revert S a; revert hZ Z; refine go 3 ?_; intro a S)
  refine wp_ret (fin_ret S (results2 Tryz.results108 (RV.cellO S rfl (by rfl)) (RV.tmp S rfl)) ?_)
  exact zzEvD0
 (clear S a; intro h a S)
 (revert S a; revert hZ Z; refine go 6 ?_; intro a S)
 refine wpc_false S rfl ?_
 (revert S a; revert hZ Z; refine go 4 ?_; intro Z hZ a S)
 (refine wso S rfl rfl ?_; clear S; intro w S)
 (revert S a; revert hZ Z; refine go 3 ?_; intro a S)
 refine wp_ret (fin_ret S (results2 Tryz.results108 (RV.cellO S rfl (by rfl)) (RV.tmp S rfl)) ?_)
 exact zzEvD0
theorem numbersCt (F : Heap) (fi fb : Value) (h1 : fi.oneCell' = true) (h2 : fb.oneCell' = true) : Ct Tryz.prog 56 [fi, fb] F [] (fun F' _ u => ∃ b2 b3, u = .func (.func 108) ⟨[]⟩ ⟨[ptr b2, ptr b3]⟩ ∧ Cel F' b2 0 fi ∧ Cel F' b3 0 fb) := by
 refine Ct.enter Tryz.func56 rfl Tryz.ntmps56 rfl fun w0 a S => ?_
 refine wp_sr fun Z hZ => ?_
 (refine wbx S ?_; clear S a; intro b2 a w S)
 (refine wbx S ?_; clear S a; intro b3 a w S)
 (revert S a; revert hZ Z; refine go 8 ?_; intro a S)
 refine wp_ret ?_
 (have S' := frzAll [(b3, _), (b2, _)] S; clear S; obtain ⟨F5, hle5, hbl, S⟩ := S'; have h6 := hbl _ (List.mem_cons_of_mem _ (List.mem_cons_self ..)); have h8 := hbl _ (List.mem_cons_self ..))
 refine fin_ret S (results1 Tryz.results56 (RV.tmp S rfl)) ?_
 (exact ⟨b2, b3, rfl, ⟨_, _, _, h6, by cases fi <;> first | rfl | cases h1⟩, ⟨_, _, _, h8, by cases fb <;> first | rfl | cases h2⟩⟩)
theorem ord1Ct (F : Heap) (k : Nat) (b fid : Nat) [HasFn Tryz.prog fid] (h2 : Cel F b 0 (.func (.func fid) ⟨[]⟩ ⟨[]⟩)) (hO : ∀ (F : Heap) (c : Int), Ct Tryz.prog fid [.int .i64 c] F [] (fun _ _ u => u = .bool (ordT k c)))
  (x y : Vv) (cx cy : List Value) (gx : GV x) (gy : GV y) (hx : VaC F cx x.1 x.2) (hy : VaC F cy y.1 y.2) : Ct Tryz.prog 118 ([] ++ [.agg ⟨cx⟩, .agg ⟨cy⟩] ++ [ptr b]) F [] (fun F' _ u => AnsR F' u (ordO k x y)) := by
 have hc := cmpVCt F x y cx cy (Nat.le_trans gx.2.2 (by decide)) (Nat.le_trans gy.2.2 (by decide)) hx hy
 obtain ⟨v1, rfl, ⟨a1, c1, rfl, -⟩, -⟩ := hx
 obtain ⟨v2, rfl, ⟨a2, c2, rfl, -⟩, -⟩ := hy
 refine Ct.enter Tryz.func118 rfl Tryz.ntmps118 rfl fun w0 a S => ?_
 refine wp_sr fun Z hZ => ?_
 (refine wbx S ?_; clear S a; intro b3 a w S)
 (refine wbx S ?_; clear S a; intro b4 a w S)
 (refine wpl_alloc S rfl rfl rfl rfl ?_; clear S a; intro b5 a w S)
 (revert S a; revert hZ Z; refine go 3 ?_; intro a S)
 (refine wp_seq_k ?_; intro Z hZ)
 (refine wpc_mixM [0, 1, 2] [0, 1, 2] [] (.one 0 (.one 1 (.one 2 (.one 3 (.one 4 (.one 5 (.one 6 (.one 7 .nil)))))))) [b3, b4] S mixed (by kernel_rfl) ?_; clear S; intro w S)
 (refine wlF S rfl (fun w' S => sv_loadF S rfl rfl h2) ?_; clear S a; intro a S)
 (revert S a; refine go 3 ?_; intro a S)
 (refine wc0 S hc ?_; clear S a; intro v a w hv S; subst hv)
 (revert S a; refine go 2 ?_; intro a S)
 (refine wc0 S (hO F _) ?_; clear S a; intro v a w hv S; subst hv)
 (revert S a; refine go 2 ?_; intro a S)
 (refine wc0 S (eTruthCt F _) ?_; clear S a; intro v a w hv S; subst hv)
 (revert S a; refine go 2 ?_; intro a S)
 (refine wso S rfl rfl ?_; clear S; intro w S)
 (revert S a; revert hZ Z; refine go 6 ?_; intro a S)
 refine wp_ret (fin_ret S (results2 Tryz.results118 (RV.cellO S rfl (by rfl)) (RV.tmp S rfl)) ?_)
 (exact ⟨_, rfl, vac_z _ (k := 1) (s := []) (by decide)⟩)
theorem orderCt (F : Heap) (fi : Value) (h1 : fi.oneCell' = true) : Ct Tryz.prog 67 [fi] F [] (fun F' _ u => ∃ b2, u = .func (.func 118) ⟨[]⟩ ⟨[ptr b2]⟩ ∧ Cel F' b2 0 fi) := by
 refine Ct.enter Tryz.func67 rfl Tryz.ntmps67 rfl fun w0 a S => ?_
 refine wp_sr fun Z hZ => ?_
 (refine wbx S ?_; clear S a; intro b1 a w S)
 (revert S a; revert hZ Z; refine go 8 ?_; intro a S)
 refine wp_ret ?_
 (have S' := frz1 S; clear S; obtain ⟨F5, hle5, h6, S⟩ := S')
 refine fin_ret S (results1 Tryz.results67 (RV.tmp S rfl)) ?_
 (exact ⟨b1, rfl, ⟨_, _, _, h6, by cases fi <;> first | rfl | cases h1⟩⟩)
theorem o1Ct (F : Heap) (c : Int) : Ct Tryz.prog 68 [.int .i64 c] F [] (fun _ _ u => u = .bool (ordT 0 c)) := by
 refine Ct.enter Tryz.func68 rfl Tryz.ntmps68 rfl fun w0 a S => ?_
 (revert S a; refine go 10 ?_; intro a S)
 refine wp_ret (fr1 S Tryz.results68 ?_)
 rfl
theorem o2Ct (F : Heap) (c : Int) : Ct Tryz.prog 69 [.int .i64 c] F [] (fun _ _ u => u = .bool (ordT 1 c)) := by
 refine Ct.enter Tryz.func69 rfl Tryz.ntmps69 rfl fun w0 a S => ?_
 (revert S a; refine go 10 ?_; intro a S)
 refine wp_ret (fr1 S Tryz.results69 ?_)
 (show Value.bool (c != 0) = .bool (decide (c ≠ 0)); congr 1; by_cases h : c = 0 <;> simp [h])
theorem o3Ct (F : Heap) (c : Int) : Ct Tryz.prog 70 [.int .i64 c] F [] (fun _ _ u => u = .bool (ordT 2 c)) := by
 refine Ct.enter Tryz.func70 rfl Tryz.ntmps70 rfl fun w0 a S => ?_
 (revert S a; refine go 10 ?_; intro a S)
 refine wp_ret (fr1 S Tryz.results70 ?_)
 rfl
theorem o4Ct (F : Heap) (c : Int) : Ct Tryz.prog 71 [.int .i64 c] F [] (fun _ _ u => u = .bool (ordT 3 c)) := by
 refine Ct.enter Tryz.func71 rfl Tryz.ntmps71 rfl fun w0 a S => ?_
 (revert S a; refine go 10 ?_; intro a S)
 refine wp_ret (fr1 S Tryz.results71 ?_)
 rfl
theorem o5Ct (F : Heap) (c : Int) : Ct Tryz.prog 72 [.int .i64 c] F [] (fun _ _ u => u = .bool (ordT 4 c)) := by
 refine Ct.enter Tryz.func72 rfl Tryz.ntmps72 rfl fun w0 a S => ?_
 (revert S a; refine go 10 ?_; intro a S)
 refine wp_ret (fr1 S Tryz.results72 ?_)
 rfl
theorem o6Ct (F : Heap) (c : Int) : Ct Tryz.prog 73 [.int .i64 c] F [] (fun _ _ u => u = .bool (ordT 5 c)) := by
 refine Ct.enter Tryz.func73 rfl Tryz.ntmps73 rfl fun w0 a S => ?_
 (revert S a; refine go 10 ?_; intro a S)
 refine wp_ret (fr1 S Tryz.results73 ?_)
 rfl
def Op2 (F : Heap) (u : Value) (f : Vv → Vv → Ans) : Prop := ∃ (fid : Nat) (ca : List Value), u = .func (.func fid) ⟨[]⟩ ⟨ca⟩ ∧ HasFn Tryz.prog fid ∧ ∀ (F' : Heap), (∀ b o, F b = some o → F' b = some o) → ∀ (x y : Vv) (cx cy : List Value), GV x → GV y → VaC F' cx x.1 x.2 → VaC F' cy y.1 y.2 →
 Ct Tryz.prog fid ([] ++ [.agg ⟨cx⟩, .agg ⟨cy⟩] ++ ca) F' [] (fun F2 _ u => AnsR F2 u (f x y))
theorem Op2.mono {F F' : Heap} {u : Value} {f : Vv → Vv → Ans} (hF : ∀ b o, F b = some o → F' b = some o) (h : Op2 F u f) : Op2 F' u f := by
 obtain ⟨fid, ca, h1, h2, h3⟩ := h
 exact ⟨fid, ca, h1, h2, fun F2 h4 => h3 F2 fun b o h5 => h4 _ _ (hF _ _ h5)⟩
def OpsM (F : Heap) : List (List UInt8 × Value) → List (List UInt8 × (Vv → Vv → Ans)) → Prop
 | [], [] => True
 | (k, u) :: es, (k2, f) :: l => k = k2 ∧ Op2 F u f ∧ OpsM F es l
 | _, _ => False
theorem OpsM.mono {F F' : Heap} (hF : ∀ b o, F b = some o → F' b = some o) : ∀ {es : List (List UInt8 × Value)} {l : List (List UInt8 × (Vv → Vv → Ans))}, OpsM F es l → OpsM F' es l
 | [], [], _ => trivial
 | [], _ :: _, h => h.elim
 | _ :: _, [], h => h.elim
 | (k, u) :: es, (k2, f) :: l, ⟨h1, h2, h3⟩ => ⟨h1, h2.mono hF, OpsM.mono hF h3⟩
theorem OpsM.get {F : Heap} : ∀ {es : List (List UInt8 × Value)} {l : List (List UInt8 × (Vv → Vv → Ans))}, OpsM F es l → ∀ s, (∃ f u, (l.find? fun x => decide (s = x.1)).map (·.2) = some f ∧ mGet es s = some u ∧ Op2 F u f) ∨ ((l.find? fun x => decide (s = x.1)).map (·.2) = none ∧ mGet es s = none)
 | [], [], _, s => .inr ⟨rfl, rfl⟩
 | [], _ :: _, h, _ => h.elim
 | _ :: _, [], h, _ => h.elim
 | (k, u) :: es, (k2, f) :: l, ⟨h1, h2, h3⟩, s => by
  subst h1
  unfold mGet
  rw [List.find?_cons, List.find?_cons]
  by_cases e : s = k
  ·left
   refine ⟨f, u, ?_, ?_, h2⟩ <;> simp [e]
  ·have h5 := OpsM.get h3 s
   unfold mGet at h5
   simpa [e] using h5
theorem num_op {F : Heap} {k : Nat} {b2 b3 fidI fidB : Nat} [HasFn Tryz.prog fidI] [HasFn Tryz.prog fidB] (h2 : Cel F b2 0 (.func (.func fidI) ⟨[]⟩ ⟨[]⟩)) (h3 : Cel F b3 0 (.func (.func fidB) ⟨[]⟩ ⟨[]⟩)) (hT : TabF F)
  (hI : ∀ (F : Heap) (x y : Int), in64 x → in64 y → Ct Tryz.prog fidI [.int .i64 x, .int .i64 y] F [] (fun _ _ u => u = cmpV (intO k x y))) (hB : ∀ (F : Heap), TabF F → ∀ (s t : List UInt8), s.length ≤ 1000000 → t.length ≤ 1000000 → Ct Tryz.prog fidB [.string (bs s), .string (bs t)] F [] (fun _ _ u => u = ansV (doA k s t)))
  (hd : ∀ s t, (doA k s t).1.length ≤ 140737488355328) : Op2 F (.func (.func 108) ⟨[]⟩ ⟨[ptr b2, ptr b3]⟩) (numO k) :=
 ⟨_, _, rfl, inferInstance, fun F' hF x y cx cy gx gy hx hy => num1Ct F' k b2 b3 fidI fidB (h2.mono hF) (h3.mono hF) (hI F') (hB F' (hT.mono hF)) x y cx cy gx gy hx hy (hd _ _)⟩
theorem ord_op {F : Heap} {k : Nat} {b fid : Nat} [HasFn Tryz.prog fid] (h2 : Cel F b 0 (.func (.func fid) ⟨[]⟩ ⟨[]⟩)) (hO : ∀ (F : Heap) (c : Int), Ct Tryz.prog fid [.int .i64 c] F [] (fun _ _ u => u = .bool (ordT k c))) : Op2 F (.func (.func 118) ⟨[]⟩ ⟨[ptr b]⟩) (ordO k) :=
 ⟨_, _, rfl, inferInstance, fun F' hF x y cx cy gx gy hx hy => ord1Ct F' k b fid (h2.mono hF) hO x y cx cy gx gy hx hy⟩
theorem cat_op (F : Heap) : Op2 F (.func (.func 74) ⟨[]⟩ ⟨[]⟩) catO :=
 ⟨_, _, rfl, inferInstance, fun F' hF x y cx cy gx gy hx hy => eTextsCt F' x y cx cy hx hy (Nat.le_trans gx.1.2 (by decide)) (Nat.le_trans gy.1.2 (by decide))⟩
theorem showZ_len (z : Int) : (showZ z).1.length ≤ 201 := by
 unfold showZ showS
 split
 ·decide
 ·split
  ·decide
  ·rename_i h1 h2
   cases decide (z < 0)
   ·simp; omega
   ·simp; omega
theorem ansZ_len (e z : Int) : (ansZ e (showZ z)).1.length ≤ 201 := by
 unfold ansZ
 split
 ·exact showZ_len z
 ·exact Nat.zero_le _
theorem doA_len (k : Nat) (s t : List UInt8) : (doA k s t).1.length ≤ 140737488355328 := by
 have h : (doA k s t).1.length ≤ 201 := by
  unfold doA
  split <;> exact ansZ_len _ _
 omega
theorem operatorsCt (F : Heap) (hT : TabF F) : Ct Tryz.prog 28 [] F [] (fun F' _ u => ∃ b es, u = .map (some b) ∧ F' b = some (mObj kS es) ∧ OpsM F' es ops2) := by
 refine Ct.enter Tryz.func28 rfl Tryz.ntmps28 rfl fun w0 a S => ?_
 (revert S a; refine go 5 ?_; intro Z hZ a S)
 (refine wpl_makeMap kS S rfl rfl rfl rfl ?_; clear S a; intro b1 a w S)
 (refine wcF S (numbersCt _ _ _ rfl rfl) ?_; clear S a; intro v2 F2 a w hv2 hF2 S; obtain ⟨p2, q2, rfl, c2, d2⟩ := hv2)
 (refine wpl_mapIns (enc := kS) S rfl rfl rfl rfl rfl rfl ?_; clear S; intro w S)
 (refine wcF S (numbersCt _ _ _ rfl rfl) ?_; clear S a; intro v3 F3 a w hv3 hF3 S; obtain ⟨p3, q3, rfl, c3, d3⟩ := hv3)
 (refine wpl_mapIns (enc := kS) S rfl rfl rfl rfl rfl rfl ?_; clear S; intro w S)
 (refine wcF S (numbersCt _ _ _ rfl rfl) ?_; clear S a; intro v4 F4 a w hv4 hF4 S; obtain ⟨p4, q4, rfl, c4, d4⟩ := hv4)
 (refine wpl_mapIns (enc := kS) S rfl rfl rfl rfl rfl rfl ?_; clear S; intro w S)
 (refine wcF S (numbersCt _ _ _ rfl rfl) ?_; clear S a; intro v5 F5 a w hv5 hF5 S; obtain ⟨p5, q5, rfl, c5, d5⟩ := hv5)
 (refine wpl_mapIns (enc := kS) S rfl rfl rfl rfl rfl rfl ?_; clear S; intro w S)
 (refine wcF S (numbersCt _ _ _ rfl rfl) ?_; clear S a; intro v6 F6 a w hv6 hF6 S; obtain ⟨p6, q6, rfl, c6, d6⟩ := hv6)
 (refine wpl_mapIns (enc := kS) S rfl rfl rfl rfl rfl rfl ?_; clear S; intro w S)
 (refine wcF S (orderCt _ _ rfl) ?_; clear S a; intro v7 F7 a w hv7 hF7 S; obtain ⟨p7, rfl, c7⟩ := hv7)
 (refine wpl_mapIns (enc := kS) S rfl rfl rfl rfl rfl rfl ?_; clear S; intro w S)
 (refine wcF S (orderCt _ _ rfl) ?_; clear S a; intro v8 F8 a w hv8 hF8 S; obtain ⟨p8, rfl, c8⟩ := hv8)
 (refine wpl_mapIns (enc := kS) S rfl rfl rfl rfl rfl rfl ?_; clear S; intro w S)
 (refine wcF S (orderCt _ _ rfl) ?_; clear S a; intro v9 F9 a w hv9 hF9 S; obtain ⟨p9, rfl, c9⟩ := hv9)
 (refine wpl_mapIns (enc := kS) S rfl rfl rfl rfl rfl rfl ?_; clear S; intro w S)
 (refine wcF S (orderCt _ _ rfl) ?_; clear S a; intro v10 F10 a w hv10 hF10 S; obtain ⟨p10, rfl, c10⟩ := hv10)
 (refine wpl_mapIns (enc := kS) S rfl rfl rfl rfl rfl rfl ?_; clear S; intro w S)
 (refine wcF S (orderCt _ _ rfl) ?_; clear S a; intro v11 F11 a w hv11 hF11 S; obtain ⟨p11, rfl, c11⟩ := hv11)
 (refine wpl_mapIns (enc := kS) S rfl rfl rfl rfl rfl rfl ?_; clear S; intro w S)
 (refine wcF S (orderCt _ _ rfl) ?_; clear S a; intro v12 F12 a w hv12 hF12 S; obtain ⟨p12, rfl, c12⟩ := hv12)
 iterate 2 (refine wpl_mapIns (enc := kS) S rfl rfl rfl rfl rfl rfl ?_; clear S; intro w S)
 (revert S a; revert hZ Z; refine go 4 ?_; intro a S)
 refine wp_ret ?_
 (have S' := frz1 S; clear S; obtain ⟨F13, hF13, hb13, S⟩ := S'; have m12 := hF13; have m11 := fun b o h => m12 b o (hF12 b o h); have m10 := fun b o h => m11 b o (hF11 b o h); have m9 := fun b o h => m10 b o (hF10 b o h); have m8 := fun b o h => m9 b o (hF9 b o h); have m7 := fun b o h => m8 b o (hF8 b o h); have m6 := fun b o h => m7 b o (hF7 b o h); have m5 := fun b o h => m6 b o (hF6 b o h); have m4 := fun b o h => m5 b o (hF5 b o h); have m3 := fun b o h => m4 b o (hF4 b o h); have m2 := fun b o h => m3 b o (hF3 b o h); have m1 := fun b o h => m2 b o (hF2 b o h); have h13 := hT.mono m1)
 refine fin_ret S (results1 Tryz.results28 (RV.tmp S rfl)) ?_
 (exact ⟨b1, _, rfl, hb13, rfl, num_op (c2.mono m2) (d2.mono m2) h13 eAddCt (fun F h s t hs ht => baddCt s t F h hs ht) (doA_len _), rfl, num_op (c3.mono m3) (d3.mono m3) h13 eSubCt (fun F h s t hs ht => bsubCt s t F h hs ht) (doA_len _), rfl, num_op (c4.mono m4) (d4.mono m4) h13 eMulCt (fun F h s t hs ht => bmulCt s t F h hs ht) (doA_len _), rfl, num_op (c5.mono m5) (d5.mono m5) h13 eDivCt (fun F h s t hs ht => bdivCt2 s t F h hs ht) (doA_len _), rfl, num_op (c6.mono m6) (d6.mono m6) h13 (fun F x y _ _ => eModCt F x y) (fun F h s t hs ht => bmodCt2 s t F h hs ht) (doA_len _), rfl, ord_op (c7.mono m7) o1Ct, rfl, ord_op (c8.mono m8) o2Ct, rfl, ord_op (c9.mono m9) o3Ct, rfl, ord_op (c10.mono m10) o4Ct, rfl, ord_op (c11.mono m11) o5Ct, rfl, ord_op (c12.mono m12) o6Ct, rfl, cat_op _, trivial⟩)
theorem sub0_cases (n : Int) : (intO 1 0 n = (0 - n, 0) ∧ in64 (0 - n)) ∨ (intO 1 0 n = (0, 80) ∧ ¬ in64 (0 - n)) := by
 have e : intO 1 0 n = if in64 (0 - n) then (0 - n, 0) else (0, 80) := rfl
 by_cases h : in64 (0 - n)
 ·exact .inl ⟨by rw [e, if_pos h], h⟩
 ·exact .inr ⟨by rw [e, if_neg h], h⟩
theorem fits64 (z : Int) : fitsI z = true ↔ in64 z := by unfold fitsI in64; simp
theorem intA_cases (s : List UInt8) : (intA s = (valS s, 0) ∧ checkS s = 0 ∧ in64 (valS s)) ∨ ((intA s).2 ≠ 0 ∧ ¬ (checkS s = 0 ∧ in64 (valS s))) := by
 unfold intA
 by_cases h : checkS s = 0
 ·rw [if_pos h]
  by_cases h2 : fitsI (valS s) = true
  ·rw [if_pos h2]; exact .inl ⟨rfl, h, (fits64 _).1 h2⟩
  ·rw [if_neg h2]; exact .inr ⟨(by decide), fun h3 => h2 ((fits64 _).2 h3.2)⟩
 ·rw [if_neg h]; exact .inr ⟨h, fun h3 => h h3.1⟩
theorem kAnd_yes {p : Prop} [Decidable p] {k m : Nat} (h : p) : ((k : Int) == (m : Int)) = decide (p ∧ k = m) := by
 rw [Bool.eq_iff_iff, beq_iff_eq, decide_eq_true_eq]
 exact ⟨fun e => ⟨h, by omega⟩, fun e => by omega⟩
theorem kAnd_no {p q : Prop} [Decidable p] [Decidable q] (h : ¬ p) : false = decide (p ∧ q) := (decide_eq_false fun e => h e.1).symm
theorem zzEvE0 {p : Prop} (h : p := by ((conv => arg 3; repeat (first | rw [if_pos (by assumption)] | rw [if_neg (by assumption)])); first | exact ans_no _ _ | (exact ⟨_, rfl, vac_z _ (k := 1) (s := []) (by decide)⟩) | (exact ⟨_, rfl, vac_z _ (k := 2) (s := []) (by decide)⟩) | (exact ⟨_, rfl, vac_z _ (k := 3) (by first | exact Nat.le_trans hlen (by decide) | exact Nat.le_trans hlz (by decide))⟩) | (rcases hs1 with ⟨e1, e2, e3⟩ | ⟨e1, e3⟩ <;> first | omega | (rw [if_neg e3, e1]; exact ans_no _ _) | (rw [if_pos e3, e2]; exact ⟨_, rfl, vac_z _ (k := 2) (s := []) (by decide)⟩)) | (rcases hi1 with ⟨e1, e2, e3⟩ | ⟨e1, e3⟩ <;> first | omega | (rw [if_neg e3]; exact ans_no _ _) | (rw [if_pos e3, e2]; exact ⟨_, rfl, vac_z _ (k := 2) (s := []) (by decide)⟩)) | trace_state)) : p := h
theorem zzEvE1 {p : Prop} (h : p := by (apply Exists.intro; apply And.intro; rotate_left 1; (refine S.keep ?_; exact zk); first | exact kAnd_yes (m := 3) (by assumption) | exact kAnd_no (by assumption))) : p := h
theorem zzEvE2 {p : Prop} (h : p := by (apply Exists.intro; apply And.intro; rotate_left 1; (refine S.keep ?_; exact zk); first | exact kAnd_yes (m := 2) (by assumption) | exact kAnd_no (by assumption))) : p := h
theorem zzEvE3 {p : Prop} (h : p := by (apply Exists.intro; apply And.intro; rotate_left 1; (refine S.keep ?_; exact zk); first | exact kAnd_yes (m := 1) (by assumption) | exact kAnd_no (by assumption))) : p := h
theorem oneCt (F : Heap) (hT : TabF F) (hE : ErrF F) (nm : List UInt8) (x : Vv) (cx : List Value) (gx : GV x) (hx : VaC F cx x.1 x.2) : Ct Tryz.prog 131 [.string (bs nm), .agg ⟨cx⟩] F [] (fun F' _ u => AnsR F' u (op1 nm x)) := by
  obtain ⟨⟨xk, xn, xs⟩, xl⟩ := x
  obtain ⟨⟨ix, lx⟩, -, -⟩ := gx
  obtain ⟨v1, rfl, ⟨a1, c1, rfl, -⟩, -⟩ := hx
  dsimp only at *
  have hsub := eSubCt F 0 xn (by decide) ix
  have hneg := negCt xs F hT (by omega)
  have hint := bintCt xs F hE (by omega)
  have hlen : (negA xs).1.length ≤ 201 := by rw [negA_eq]; exact ansZ_len _ _
  have hlz := showZ_len xn
  have hs0 := sub0_cases xn
  have hi0 := intA_cases xs
  unfold op1 sNot sNeg sLen sBig sInt
  dsimp only
  generalize intO 1 0 xn = p at hsub hs0
  generalize intA xs = q at hint hi0
  generalize negA xs = r at hneg hlen ⊢
  obtain ⟨p1, p2⟩ := p
  obtain ⟨q1, q2⟩ := q
  obtain ⟨r1, r2⟩ := r
  have hs1 : (p2 = 0 ∧ p1 = 0 - xn ∧ in64 (0 - xn)) ∨ (p2 = 80 ∧ ¬ in64 (0 - xn)) := by
    rcases hs0 with ⟨h1, h2⟩ | ⟨h1, h2⟩
    · cases h1; exact .inl ⟨rfl, rfl, h2⟩
    · cases h1; exact .inr ⟨rfl, h2⟩
  have hi1 : (q2 = 0 ∧ q1 = valS xs ∧ checkS xs = 0 ∧ in64 (valS xs)) ∨ (q2 ≠ 0 ∧ ¬ (checkS xs = 0 ∧ in64 (valS xs))) := by
    rcases hi0 with ⟨h1, h2, h3⟩ | ⟨h1, h2⟩
    · cases h1; exact .inl ⟨rfl, rfl, h2, h3⟩
    · exact .inr ⟨h1, h2⟩
  clear hs0 hi0
  dsimp only at *
  refine Ct.enter Tryz.func131 rfl Tryz.ntmps131 rfl fun w0 a S => ?_
  refine wp_sr fun Z hZ => ?_
  (refine wbx S ?_; clear S a; intro b3 a w S)
  (refine wpl_alloc S rfl rfl rfl rfl ?_; clear S a; intro b4 a w S)
  (revert S a; revert hZ Z; refine go 5 ?_; intro Z hZ a S)
  (refine wp_seq_k ?_; intro Z hZ)
  replace hZ : ∀ (a' : Act) (w' : World), (∃ t : Bool, t = decide (nm = [110, 111, 116] ∧ xk = 1) ∧ St 104 [(0, .string (bs nm)), (3, ptr b3), (4, ptr b4), (5, .int .i64 0), (12, .bool t)] w0 F [] F [[(b4, .cells ⟨[.int .u8 0, .int .i64 0, .string (bs []), .slice none 0 0]⟩ 33 (0, 0))], [(b3, .cells ⟨[.int .u8 (xk : Int), .int .i64 xn, .string (bs xs), .slice a1 xl.len c1]⟩ 33 (0, 0))]] a' w') → Z a' w' := (by
   (intro a w hM; refine hZ _ _ ?_; clear hZ Z; clear S; obtain ⟨t, rfl, S⟩ := hM)
   refine wpc_sp S rfl ?_ ?_ <;> intro h
   · (revert S a; refine go 4 ?_; intro Z hZ a S)
     (refine wc0 S (eTruthCt F _) ?_; clear S a; intro v a w hv S; subst hv)
     (refine wso S rfl rfl ?_; clear S; intro w S)
     (revert S a; revert hZ Z; refine go 3 ?_; intro a S)
     refine wp_ret (fin_ret S (results2 Tryz.results131 (RV.cellO S rfl (by rfl)) (RV.tmp S rfl)) ?_)
     exact zzEvE0
   (refine wp_seq_k ?_; intro Z hZ)
   replace hZ : ∀ (a' : Act) (w' : World), (∃ t : Bool, t = decide (nm = [110, 101, 103] ∧ xk = 2) ∧ St 104 [(0, .string (bs nm)), (3, ptr b3), (4, ptr b4), (5, .int .i64 0), (24, .bool t)] w0 F [] F [[(b4, .cells ⟨[.int .u8 0, .int .i64 0, .string (bs []), .slice none 0 0]⟩ 33 (0, 0))], [(b3, .cells ⟨[.int .u8 (xk : Int), .int .i64 xn, .string (bs xs), .slice a1 xl.len c1]⟩ 33 (0, 0))]] a' w') → Z a' w' := (by
    (intro a w hM; refine hZ _ _ ?_; clear hZ Z; clear S; obtain ⟨t, rfl, S⟩ := hM)
    refine wpc_sp S rfl ?_ ?_ <;> intro h
    · (revert S a; refine go 3 ?_; intro Z hZ a S)
      (refine wc0 S (hsub) ?_; clear S a; intro v a w hv S; subst hv)
      (revert S a; revert hZ Z; refine go 13 ?_; intro Z hZ a S)
      refine wpc_sp S rfl ?_ ?_ <;> intro h
      · (revert S a; refine go 3 ?_; intro Z hZ a S)
        (refine wso S rfl rfl ?_; clear S; intro w S)
        (revert S a; revert hZ Z; refine go 3 ?_; intro a S)
        refine wp_ret (fin_ret S (results2 Tryz.results131 (RV.cellO S rfl (by rfl)) (RV.tmp S rfl)) ?_)
        exact zzEvE0
      (revert S a; revert hZ Z; refine go 4 ?_; intro Z hZ a S)
      (refine wc0 S (eWholeCt F _) ?_; clear S a; intro v a w hv S; subst hv)
      (refine wso S rfl rfl ?_; clear S; intro w S)
      (revert S a; revert hZ Z; refine go 3 ?_; intro a S)
      refine wp_ret (fin_ret S (results2 Tryz.results131 (RV.cellO S rfl (by rfl)) (RV.tmp S rfl)) ?_)
      exact zzEvE0
    (refine wp_seq_k ?_; intro Z hZ)
    replace hZ : ∀ (a' : Act) (w' : World), (∃ t : Bool, t = decide (nm = [110, 101, 103] ∧ xk = 3) ∧ St 104 [(0, .string (bs nm)), (3, ptr b3), (4, ptr b4), (5, .int .i64 0), (44, .bool t)] w0 F [] F [[(b4, .cells ⟨[.int .u8 0, .int .i64 0, .string (bs []), .slice none 0 0]⟩ 33 (0, 0))], [(b3, .cells ⟨[.int .u8 (xk : Int), .int .i64 xn, .string (bs xs), .slice a1 xl.len c1]⟩ 33 (0, 0))]] a' w') → Z a' w' := (by
     (intro a w hM; refine hZ _ _ ?_; clear hZ Z; clear S; obtain ⟨t, rfl, S⟩ := hM)
     refine wpc_sp S rfl ?_ ?_ <;> intro h
     · (revert S a; refine go 3 ?_; intro Z hZ a S)
       (refine wc0 S (hneg) ?_; clear S a; intro v a w hv S; subst hv)
       (revert S a; revert hZ Z; refine go 10 ?_; intro Z hZ a S)
       (refine wso S rfl rfl ?_; clear S; intro w S)
       (revert S a; revert hZ Z; refine go 3 ?_; intro a S)
       refine wp_ret (fin_ret S (results2 Tryz.results131 (RV.cellO S rfl (by rfl)) (RV.tmp S rfl)) ?_)
       exact zzEvE0
     (refine wp_seq_k ?_; intro Z hZ)
     replace hZ : ∀ (a' : Act) (w' : World), (∃ t : Bool, t = decide (nm = [108, 101, 110] ∧ xk = 4) ∧ St 104 [(0, .string (bs nm)), (3, ptr b3), (4, ptr b4), (5, .int .i64 0), (60, .bool t)] w0 F [] F [[(b4, .cells ⟨[.int .u8 0, .int .i64 0, .string (bs []), .slice none 0 0]⟩ 33 (0, 0))], [(b3, .cells ⟨[.int .u8 (xk : Int), .int .i64 xn, .string (bs xs), .slice a1 xl.len c1]⟩ 33 (0, 0))]] a' w') → Z a' w' := (by
      (intro a w hM; refine hZ _ _ ?_; clear hZ Z; clear S; obtain ⟨t, rfl, S⟩ := hM)
      refine wpc_sp S rfl ?_ ?_ <;> intro h
      · (revert S a; refine go 4 ?_; intro Z hZ a S)
        (refine wc0 S (eWholeCt F _) ?_; clear S a; intro v a w hv S; subst hv)
        (refine wso S rfl rfl ?_; clear S; intro w S)
        (revert S a; revert hZ Z; refine go 3 ?_; intro a S)
        refine wp_ret (fin_ret S (results2 Tryz.results131 (RV.cellO S rfl (by rfl)) (RV.tmp S rfl)) ?_)
        exact zzEvE0
      (refine wp_seq_k ?_; intro Z hZ)
      replace hZ : ∀ (a' : Act) (w' : World), (∃ t : Bool, t = decide (nm = [98, 105, 103] ∧ xk = 2) ∧ St 104 [(0, .string (bs nm)), (3, ptr b3), (4, ptr b4), (5, .int .i64 0), (72, .bool t)] w0 F [] F [[(b4, .cells ⟨[.int .u8 0, .int .i64 0, .string (bs []), .slice none 0 0]⟩ 33 (0, 0))], [(b3, .cells ⟨[.int .u8 (xk : Int), .int .i64 xn, .string (bs xs), .slice a1 xl.len c1]⟩ 33 (0, 0))]] a' w') → Z a' w' := (by
       (intro a w hM; refine hZ _ _ ?_; clear hZ Z; clear S; obtain ⟨t, rfl, S⟩ := hM)
       refine wpc_sp S rfl ?_ ?_ <;> intro h
       · (revert S a; refine go 3 ?_; intro Z hZ a S)
         (refine wc0 S (bigOfCt xn F hT ix.1 ix.2) ?_; clear S a; intro v a w hv S; subst hv)
         (revert S a; refine go 1 ?_; intro a S)
         (refine wso S rfl rfl ?_; clear S; intro w S)
         (revert S a; revert hZ Z; refine go 3 ?_; intro a S)
         refine wp_ret (fin_ret S (results2 Tryz.results131 (RV.cellO S rfl (by rfl)) (RV.tmp S rfl)) ?_)
         exact zzEvE0
       (refine wp_seq_k ?_; intro Z hZ)
       replace hZ : ∀ (a' : Act) (w' : World), (∃ t : Bool, t = decide (nm = [105, 110, 116] ∧ xk = 3) ∧ St 104 [(0, .string (bs nm)), (3, ptr b3), (4, ptr b4), (5, .int .i64 0), (84, .bool t)] w0 F [] F [[(b4, .cells ⟨[.int .u8 0, .int .i64 0, .string (bs []), .slice none 0 0]⟩ 33 (0, 0))], [(b3, .cells ⟨[.int .u8 (xk : Int), .int .i64 xn, .string (bs xs), .slice a1 xl.len c1]⟩ 33 (0, 0))]] a' w') → Z a' w' := (by
        (intro a w hM; refine hZ _ _ ?_; clear hZ Z; clear S; obtain ⟨t, rfl, S⟩ := hM)
        refine wpc_sp S rfl ?_ ?_ <;> intro h
        · (revert S a; refine go 3 ?_; intro Z hZ a S)
          (refine wc0 S (hint) ?_; clear S a; intro v a w hv S; subst hv)
          (revert S a; revert hZ Z; refine go 13 ?_; intro Z hZ a S)
          refine wpc_sp S rfl ?_ ?_ <;> intro h
          · (revert S a; refine go 2 ?_; intro Z hZ a S)
            (refine wso S rfl rfl ?_; clear S; intro w S)
            (revert S a; revert hZ Z; refine go 3 ?_; intro a S)
            refine wp_ret (fin_ret S (results2 Tryz.results131 (RV.cellO S rfl (by rfl)) (RV.tmp S rfl)) ?_)
            exact zzEvE0
          (revert S a; revert hZ Z; refine go 4 ?_; intro Z hZ a S)
          (refine wc0 S (eWholeCt F _) ?_; clear S a; intro v a w hv S; subst hv)
          (refine wso S rfl rfl ?_; clear S; intro w S)
          (revert S a; revert hZ Z; refine go 3 ?_; intro a S)
          refine wp_ret (fin_ret S (results2 Tryz.results131 (RV.cellO S rfl (by rfl)) (RV.tmp S rfl)) ?_)
          exact zzEvE0
        (revert S a; revert hZ Z; refine go 4 ?_; intro Z hZ a S)
        (refine wso S rfl rfl ?_; clear S; intro w S)
        (revert S a; revert hZ Z; refine go 3 ?_; intro a S)
        refine wp_ret (fin_ret S (results2 Tryz.results131 (RV.cellO S rfl (by rfl)) (RV.tmp S rfl)) ?_)
        ((conv => arg 3; repeat (first | rw [if_pos (by assumption)] | rw [if_neg (by assumption)])); first | exact ans_no _ _ | (exact ⟨_, rfl, vac_z _ (k := 1) (s := []) (by decide)⟩) | (exact ⟨_, rfl, vac_z _ (k := 2) (s := []) (by decide)⟩) | (exact ⟨_, rfl, vac_z _ (k := 3) (by first | exact Nat.le_trans hlen (by decide) | exact Nat.le_trans hlz (by decide))⟩) | (rcases hs1 with ⟨e1, e2, e3⟩ | ⟨e1, e3⟩ <;> first | omega | (rw [if_neg e3, e1]; exact ans_no _ _) | (rw [if_pos e3, e2]; exact ⟨_, rfl, vac_z _ (k := 2) (s := []) (by decide)⟩)) | (rcases hi1 with ⟨e1, e2, e3⟩ | ⟨e1, e3⟩ <;> first | omega | (rw [if_neg e3]; exact ans_no _ _) | (rw [if_pos e3, e2]; exact ⟨_, rfl, vac_z _ (k := 2) (s := []) (by decide)⟩)) | trace_state))
       (revert S a; refine go 4 ?_; intro a S)
       refine wgd S ?_ ?_
       · (clear S; intro h S)
         (revert S a; refine go 8 ?_; intro a S)
         (refine hZ _ _ ?_)
         exact zzEvE1
       (clear S a; intro h a S)
       (revert S a; refine go 5 ?_; intro a S)
       (refine hZ _ _ ?_)
       (apply Exists.intro; apply And.intro; rotate_left 1; (refine S.keep ?_; exact zk); first | exact kAnd_yes (m := 3) (by assumption) | exact kAnd_no (by assumption)))
      (revert S a; refine go 4 ?_; intro a S)
      refine wgd S ?_ ?_
      · (clear S; intro h S)
        (revert S a; refine go 8 ?_; intro a S)
        (refine hZ _ _ ?_)
        exact zzEvE2
      (clear S a; intro h a S)
      (revert S a; refine go 5 ?_; intro a S)
      (refine hZ _ _ ?_)
      (apply Exists.intro; apply And.intro; rotate_left 1; (refine S.keep ?_; exact zk); first | exact kAnd_yes (m := 2) (by assumption) | exact kAnd_no (by assumption)))
     (revert S a; refine go 4 ?_; intro a S)
     refine wgd S ?_ ?_
     · (clear S; intro h S)
       (revert S a; refine go 8 ?_; intro a S)
       (refine hZ _ _ ?_)
       (apply Exists.intro; apply And.intro; rotate_left 1; (refine S.keep ?_; exact zk); first | exact kAnd_yes (m := 4) (by assumption) | exact kAnd_no (by assumption))
     (clear S a; intro h a S)
     (revert S a; refine go 5 ?_; intro a S)
     (refine hZ _ _ ?_)
     (apply Exists.intro; apply And.intro; rotate_left 1; (refine S.keep ?_; exact zk); first | exact kAnd_yes (m := 4) (by assumption) | exact kAnd_no (by assumption)))
    (revert S a; refine go 4 ?_; intro a S)
    refine wgd S ?_ ?_
    · (clear S; intro h S)
      (revert S a; refine go 8 ?_; intro a S)
      (refine hZ _ _ ?_)
      exact zzEvE1
    (clear S a; intro h a S)
    (revert S a; refine go 5 ?_; intro a S)
    (refine hZ _ _ ?_)
    (apply Exists.intro; apply And.intro; rotate_left 1; (refine S.keep ?_; exact zk); first | exact kAnd_yes (m := 3) (by assumption) | exact kAnd_no (by assumption)))
   (revert S a; refine go 4 ?_; intro a S)
   refine wgd S ?_ ?_
   · (clear S; intro h S)
     (revert S a; refine go 8 ?_; intro a S)
     (refine hZ _ _ ?_)
     exact zzEvE2
   (clear S a; intro h a S)
   (revert S a; refine go 5 ?_; intro a S)
   (refine hZ _ _ ?_)
   (apply Exists.intro; apply And.intro; rotate_left 1; (refine S.keep ?_; exact zk); first | exact kAnd_yes (m := 2) (by assumption) | exact kAnd_no (by assumption)))
  (revert S a; refine go 4 ?_; intro a S)
  refine wgd S ?_ ?_
  · (clear S; intro h S)
    (revert S a; refine go 8 ?_; intro a S)
    (refine hZ _ _ ?_)
    exact zzEvE3
  (clear S a; intro h a S)
  (revert S a; refine go 5 ?_; intro a S)
  (refine hZ _ _ ?_)
  exact zzEvE3
end Go.Proofs.YtgefmjghdijbfaaGreatDoor
