/- Walks: the operators: what they come to, one by one, and the map of them. Walks: the map of operators; operators of one. What an expression comes to stays within bounds, in plain Lean. -/
import Derived.Test.YtigblodhdfnleaaGreatDoorWk17
import Derived.Test.YtigblodhdfnleaaGreatDoorCm
import Derived.Test.YtigblodhdfnleaaGreatDoorEv
namespace Go.Proofs.YtigblodhdfnleaaGreatDoor
open Go Go.Wk Go.Un Go.De Go.Num
set_option linter.unusedSimpArgs false
set_option linter.unusedVariables false
attribute [local irreducible] Go.wpList Go.Code.wp Go.wpStill Go.Wk.wpPre Go.bodyPost Go.Calls Go.Wk.Ct Go.Wk.OwnS
attribute [local irreducible] Go.Wk.wpG Go.Wk.wpM

/-- All numbers in a value are whole numbers of 64 bits, and texts are not too long. -/
def GVl : Vf → Prop
  | .nil => True
  | .cons h L r => (in64 h.n ∧ h.s.length ≤ 200000) ∧ GVl L ∧ GVl r
def GV (v : Vv) : Prop := (in64 v.1.n ∧ v.1.s.length ≤ 200000) ∧ GVl v.2 ∧ v.2.size ≤ 5000
theorem zzEvD0 {p : Prop} (h : p := by (first | (rw [if_pos (by omega), if_pos (by assumption)]; exact ans_no _ _) | (rw [if_pos (by omega), if_neg (by omega)]; exact ⟨_, rfl, vac_z _ (k := 2) (s := []) (by decide)⟩) | (rw [if_neg (by omega), if_pos (by omega), if_pos (by assumption)]; exact ans_no _ _) | (rw [if_neg (by omega), if_pos (by omega), if_neg (by omega)]; exact ⟨_, rfl, vac_z _ (k := 3) hd⟩) | (rw [if_neg (by omega), if_neg (by omega)]; exact ans_no _ _) | trace_state)) : p := h
theorem num1Ct (F : Heap) (k : Nat) (b2 b3 fidI fidB : Nat) [HasFn Tryz.prog fidI] [HasFn Tryz.prog fidB] (h2 : Cel F b2 0 (.func (.func fidI) ⟨[]⟩ ⟨[]⟩)) (h3 : Cel F b3 0 (.func (.func fidB) ⟨[]⟩ ⟨[]⟩))
    (hI : ∀ (x y : Int), in64 x → in64 y → Ct Tryz.prog fidI [.int .i64 x, .int .i64 y] F [] (fun _ _ u => u = cmpV (intO k x y))) (hB : ∀ (s t : List UInt8), s.length ≤ 1000000 → t.length ≤ 1000000 → Ct Tryz.prog fidB [.string (bs s), .string (bs t)] F [] (fun _ _ u => u = ansV (doA k s t)))
    (x y : Vv) (cx cy : List Value) (gx : GV x) (gy : GV y) (hx : VaC F cx x.1 x.2) (hy : VaC F cy y.1 y.2) (hd : (doA k x.1.s y.1.s).1.length ≤ 140737488355328) : Ct Tryz.prog 68 ([] ++ [.agg ⟨cx⟩, .agg ⟨cy⟩] ++ [ptr b2, ptr b3]) F [] (fun F' _ u => AnsR F' u (numO k x y)) := by
  obtain ⟨⟨xk, xn, xs⟩, xl⟩ := x
  obtain ⟨⟨yk, yn, ys⟩, yl⟩ := y
  obtain ⟨⟨ix, lx⟩, -, -⟩ := gx
  obtain ⟨⟨iy, ly⟩, -, -⟩ := gy
  obtain ⟨v1, rfl, ⟨a1, c1, rfl, -⟩, -⟩ := hx
  obtain ⟨v2, rfl, ⟨a2, c2, rfl, -⟩, -⟩ := hy
  dsimp only at *
  unfold numO
  dsimp only
  have hI' := hI xn yn ix iy
  have hB' := hB xs ys (by omega) (by omega)
  generalize intO k xn yn = p at hI' ⊢
  generalize doA k xs ys = q at hB' hd ⊢
  obtain ⟨p1, p2⟩ := p
  obtain ⟨q1, q2⟩ := q
  dsimp only at *
  refine Ct.enter Tryz.func68 rfl Tryz.ntmps68 rfl fun w0 a S => ?_
  refine wp_sr fun Z hZ => ?_
  (refine wpl_box S rfl rfl rfl rfl rfl ?_; clear S a; intro b4 a w S)
  (refine wpl_box S rfl rfl rfl rfl rfl ?_; clear S a; intro b5 a w S)
  (refine wpl_alloc S rfl rfl rfl rfl ?_; clear S a; intro b6 a w S)
  (revert S a; revert hZ Z; refine go12 10 ?_; intro Z hZ Z hZ a S)
  refine wpl_guard S rfl rfl rfl rfl rfl ?_ ?_
  · (clear S; intro h S; (try simp only [tq] at h))
    (revert S a; revert hZ Z; refine go10 9 ?_; intro a S)
    refine wpc_split S rfl (fun h => ?_) (fun h => ?_)
    · (skip; (try simp only [tq] at h))
      refine wp_sr fun Z hZ => ?_
      (refine wpl_v S rfl rfl rfl (sv_loadF S rfl rfl h2) ?_; clear S a; intro a S)
      (revert S a; refine go00 4 ?_; intro a S)
      (refine wpl_call0 S rfl rfl rfl rfl rfl rfl hI' rfl ?_; clear S a; intro v a w hv S; subst hv)
      (revert S a; revert hZ Z; refine go11 13 ?_; intro Z hZ a S)
      refine wpc_split S rfl (fun h => ?_) (fun h => ?_)
      · (skip; (try simp only [tq] at h))
        (revert S a; refine go01 3 ?_; intro Z hZ a S)
        (refine wpl_storeO S rfl rfl rfl rfl rfl (by rfl) (by simp [Value.cells, Value.oneCell', splice]) (by rfl) ?_; clear S; intro w S)
        (revert S a; revert hZ Z; refine go10 3 ?_; intro a S)
        refine wp_ret (fin_ret S (results2 Tryz.results68 (RV.cellO S rfl (by rfl)) (RV.tmp S rfl)) ?_)
        exact zzEvD0
      (skip; (try simp only [tq] at h))
      (revert S a; revert hZ Z; refine go11 4 ?_; intro Z hZ a S)
      (refine wpl_call0 S rfl rfl rfl rfl rfl rfl (eWholeCt F _) rfl ?_; clear S a; intro v a w hv S; subst hv)
      (refine wpl_storeO S rfl rfl rfl rfl rfl (by rfl) (by simp [Value.cells, Value.oneCell', splice]) (by rfl) ?_; clear S; intro w S)
      (revert S a; revert hZ Z; refine go10 3 ?_; intro a S)
      refine wp_ret (fin_ret S (results2 Tryz.results68 (RV.cellO S rfl (by rfl)) (RV.tmp S rfl)) ?_)
      exact zzEvD0
    (skip; (try simp only [tq] at h))
    (revert S a; refine go01 5 ?_; intro Z hZ a S)
    refine wpl_guard S rfl rfl rfl rfl rfl ?_ ?_
    · (clear S; intro h S; (try simp only [tq] at h))
      (revert S a; revert hZ Z; refine go10 9 ?_; intro a S)
      refine wpc_split S rfl (fun h => ?_) (fun h => ?_)
      · (skip; (try simp only [tq] at h))
        refine wp_sr fun Z hZ => ?_
        (refine wpl_v S rfl rfl rfl (sv_loadF S rfl rfl h3) ?_; clear S a; intro a S)
        (revert S a; refine go00 4 ?_; intro a S)
        (refine wpl_call0 S rfl rfl rfl rfl rfl rfl hB' rfl ?_; clear S a; intro v a w hv S; subst hv)
        (revert S a; revert hZ Z; refine go11 13 ?_; intro Z hZ a S)
        refine wpc_split S rfl (fun h => ?_) (fun h => ?_)
        · (skip; (try simp only [tq] at h))
          (revert S a; refine go01 3 ?_; intro Z hZ a S)
          (refine wpl_storeO S rfl rfl rfl rfl rfl (by rfl) (by simp [Value.cells, Value.oneCell', splice]) (by rfl) ?_; clear S; intro w S)
          (revert S a; revert hZ Z; refine go10 3 ?_; intro a S)
          refine wp_ret (fin_ret S (results2 Tryz.results68 (RV.cellO S rfl (by rfl)) (RV.tmp S rfl)) ?_)
          exact zzEvD0
        (skip; (try simp only [tq] at h))
        (revert S a; revert hZ Z; refine go11 5 ?_; intro Z hZ a S)
        (refine wpl_storeO S rfl rfl rfl rfl rfl (by rfl) (by simp [Value.cells, Value.oneCell', splice]) (by rfl) ?_; clear S; intro w S)
        (revert S a; revert hZ Z; refine go10 3 ?_; intro a S)
        refine wp_ret (fin_ret S (results2 Tryz.results68 (RV.cellO S rfl (by rfl)) (RV.tmp S rfl)) ?_)
        exact zzEvD0
      (skip; (try simp only [tq] at h))
      (revert S a; revert hZ Z; refine go11 4 ?_; intro Z hZ a S)
      (refine wpl_storeO S rfl rfl rfl rfl rfl (by rfl) (by simp [Value.cells, Value.oneCell', splice]) (by rfl) ?_; clear S; intro w S)
      (revert S a; revert hZ Z; refine go10 3 ?_; intro a S)
      refine wp_ret (fin_ret S (results2 Tryz.results68 (RV.cellO S rfl (by rfl)) (RV.tmp S rfl)) ?_)
      exact zzEvD0
    (intro h; clear S a; intro a S; (try simp only [tq] at h))
    (revert S a; revert hZ Z; refine go10 6 ?_; intro a S)
    refine wpc_false S rfl ?_
    (revert S a; revert hZ Z; refine go11 4 ?_; intro Z hZ a S)
    (refine wpl_storeO S rfl rfl rfl rfl rfl (by rfl) (by simp [Value.cells, Value.oneCell', splice]) (by rfl) ?_; clear S; intro w S)
    (revert S a; revert hZ Z; refine go10 3 ?_; intro a S)
    refine wp_ret (fin_ret S (results2 Tryz.results68 (RV.cellO S rfl (by rfl)) (RV.tmp S rfl)) ?_)
    exact zzEvD0
  (intro h; clear S a; intro a S; (try simp only [tq] at h))
  (revert S a; revert hZ Z; refine go10 6 ?_; intro a S)
  refine wpc_false S rfl ?_
  (revert S a; refine go01 5 ?_; intro Z hZ a S)
  refine wpl_guard S rfl rfl rfl rfl rfl ?_ ?_
  · (clear S; intro h S; (try simp only [tq] at h))
    (revert S a; revert hZ Z; refine go10 9 ?_; intro a S)
    refine wpc_split S rfl (fun h => ?_) (fun h => ?_)
    · (skip; (try simp only [tq] at h))
      refine wp_sr fun Z hZ => ?_
      (refine wpl_v S rfl rfl rfl (sv_loadF S rfl rfl h3) ?_; clear S a; intro a S)
      (revert S a; refine go00 4 ?_; intro a S)
      (refine wpl_call0 S rfl rfl rfl rfl rfl rfl hB' rfl ?_; clear S a; intro v a w hv S; subst hv)
      (revert S a; revert hZ Z; refine go11 13 ?_; intro Z hZ a S)
      refine wpc_split S rfl (fun h => ?_) (fun h => ?_)
      · (skip; (try simp only [tq] at h))
        (revert S a; refine go01 3 ?_; intro Z hZ a S)
        (refine wpl_storeO S rfl rfl rfl rfl rfl (by rfl) (by simp [Value.cells, Value.oneCell', splice]) (by rfl) ?_; clear S; intro w S)
        (revert S a; revert hZ Z; refine go10 3 ?_; intro a S)
        refine wp_ret (fin_ret S (results2 Tryz.results68 (RV.cellO S rfl (by rfl)) (RV.tmp S rfl)) ?_)
        exact zzEvD0
      (skip; (try simp only [tq] at h))
      (revert S a; revert hZ Z; refine go11 5 ?_; intro Z hZ a S)
      (refine wpl_storeO S rfl rfl rfl rfl rfl (by rfl) (by simp [Value.cells, Value.oneCell', splice]) (by rfl) ?_; clear S; intro w S)
      (revert S a; revert hZ Z; refine go10 3 ?_; intro a S)
      refine wp_ret (fin_ret S (results2 Tryz.results68 (RV.cellO S rfl (by rfl)) (RV.tmp S rfl)) ?_)
      exact zzEvD0
    (skip; (try simp only [tq] at h))
    (revert S a; revert hZ Z; refine go11 4 ?_; intro Z hZ a S)
    (refine wpl_storeO S rfl rfl rfl rfl rfl (by rfl) (by simp [Value.cells, Value.oneCell', splice]) (by rfl) ?_; clear S; intro w S)
    (revert S a; revert hZ Z; refine go10 3 ?_; intro a S)
    refine wp_ret (fin_ret S (results2 Tryz.results68 (RV.cellO S rfl (by rfl)) (RV.tmp S rfl)) ?_)
    exact zzEvD0
  (intro h; clear S a; intro a S; (try simp only [tq] at h))
  (revert S a; revert hZ Z; refine go10 6 ?_; intro a S)
  refine wpc_false S rfl ?_
  (revert S a; revert hZ Z; refine go11 4 ?_; intro Z hZ a S)
  (refine wpl_storeO S rfl rfl rfl rfl rfl (by rfl) (by simp [Value.cells, Value.oneCell', splice]) (by rfl) ?_; clear S; intro w S)
  (revert S a; revert hZ Z; refine go10 3 ?_; intro a S)
  refine wp_ret (fin_ret S (results2 Tryz.results68 (RV.cellO S rfl (by rfl)) (RV.tmp S rfl)) ?_)
  exact zzEvD0
theorem numbersCt (F : Heap) (fi fb : Value) (h1 : fi.oneCell' = true) (h2 : fb.oneCell' = true) : Ct Tryz.prog 34 [fi, fb] F [] (fun F' _ u => ∃ b2 b3, u = .func (.func 68) ⟨[]⟩ ⟨[ptr b2, ptr b3]⟩ ∧ Cel F' b2 0 fi ∧ Cel F' b3 0 fb) := by
  refine Ct.enter Tryz.func34 rfl Tryz.ntmps34 rfl fun w0 a S => ?_
  refine wp_sr fun Z hZ => ?_
  (refine wpl_box S rfl rfl rfl rfl rfl ?_; clear S a; intro b2 a w S)
  (refine wpl_box S rfl rfl rfl rfl rfl ?_; clear S a; intro b3 a w S)
  (revert S a; revert hZ Z; refine go10 8 ?_; intro a S)
  refine wp_ret ?_
  (have S' := frzAll [(b3, _), (b2, _)] S; clear S; obtain ⟨F5, hle5, hbl, S⟩ := S'; have h6 := hbl _ (List.mem_cons_of_mem _ (List.mem_cons_self ..)); have h8 := hbl _ (List.mem_cons_self ..))
  refine fin_ret S (results1 Tryz.results34 (RV.tmp S rfl)) ?_
  (exact ⟨b2, b3, rfl, ⟨_, _, _, h6, by cases fi <;> first | rfl | cases h1⟩, ⟨_, _, _, h8, by cases fb <;> first | rfl | cases h2⟩⟩)
theorem ord1Ct (F : Heap) (k : Nat) (b fid : Nat) [HasFn Tryz.prog fid] (h2 : Cel F b 0 (.func (.func fid) ⟨[]⟩ ⟨[]⟩)) (hO : ∀ (F : Heap) (c : Int), Ct Tryz.prog fid [.int .i64 c] F [] (fun _ _ u => u = .bool (ordT k c)))
    (x y : Vv) (cx cy : List Value) (gx : GV x) (gy : GV y) (hx : VaC F cx x.1 x.2) (hy : VaC F cy y.1 y.2) : Ct Tryz.prog 78 ([] ++ [.agg ⟨cx⟩, .agg ⟨cy⟩] ++ [ptr b]) F [] (fun F' _ u => AnsR F' u (ordO k x y)) := by
  have hc := cmpVCt F x y cx cy (Nat.le_trans gx.2.2 (by decide)) (Nat.le_trans gy.2.2 (by decide)) hx hy
  obtain ⟨v1, rfl, ⟨a1, c1, rfl, -⟩, -⟩ := hx
  obtain ⟨v2, rfl, ⟨a2, c2, rfl, -⟩, -⟩ := hy
  refine Ct.enter Tryz.func78 rfl Tryz.ntmps78 rfl fun w0 a S => ?_
  refine wp_sr fun Z hZ => ?_
  (refine wpl_box S rfl rfl rfl rfl rfl ?_; clear S a; intro b3 a w S)
  (refine wpl_box S rfl rfl rfl rfl rfl ?_; clear S a; intro b4 a w S)
  (refine wpl_alloc S rfl rfl rfl rfl ?_; clear S a; intro b5 a w S)
  (revert S a; revert hZ Z; refine go10 3 ?_; intro a S)
  (refine wp_seq_k ?_; intro Z hZ)
  (refine wpc_mixM [0, 1, 2] [0, 1, 2] [] (.one 0 (.one 1 (.one 2 (.one 3 (.one 4 (.one 5 (.one 6 (.one 7 .nil)))))))) [b3, b4] S mixed (by kernel_rfl) ?_; clear S; intro w S)
  (refine wpm_lateF S rfl rfl rfl (want_none _ rfl) rfl rfl (fun w' S => sv_loadF S rfl rfl h2) ?_; clear S a; intro a S)
  (refine wpm_o b3 S rfl rfl rfl (want_none _ rfl) rfl rfl ?_; clear S a; intro a S)
  (refine wpm_o b4 S rfl rfl rfl (want_none _ rfl) rfl rfl ?_; clear S a; intro a S)
  refine wpm_eff rfl rfl (kwa S) ?_
  (refine wpl_call0 S rfl rfl rfl rfl rfl rfl hc rfl ?_; clear S a; intro v a w hv S; subst hv)
  refine wpList_nil ?_
  refine wpm_eff rfl rfl (kwa S) ?_
  (refine wpl_call0 S rfl rfl rfl rfl rfl rfl (hO F _) rfl ?_; clear S a; intro v a w hv S; subst hv)
  refine wpList_nil ?_
  refine wpm_eff rfl rfl (kwa S) ?_
  (refine wpl_call0 S rfl rfl rfl rfl rfl rfl (eTruthCt F _) rfl ?_; clear S a; intro v a w hv S; subst hv)
  refine wpList_nil ?_
  refine wpm_eff rfl rfl (kwa S) ?_
  (refine wpl_storeO S rfl rfl rfl rfl rfl (by rfl) (by simp [Value.cells, Value.oneCell', splice]) (by rfl) ?_; clear S; intro w S)
  refine wpList_nil ?_
  refine wpm_eff rfl rfl (kwa S) ?_
  (revert S a; refine go00 2 ?_; intro a S)
  (refine wpm_nil (kwa S) (hZ _ _ ?_); clear hZ Z)
  refine wp_ret (fin_ret S (results2 Tryz.results78 (RV.cellO S rfl (by rfl)) (RV.tmp S rfl)) ?_)
  (exact ⟨_, rfl, vac_z _ (k := 1) (s := []) (by decide)⟩)
theorem orderCt (F : Heap) (fi : Value) (h1 : fi.oneCell' = true) : Ct Tryz.prog 45 [fi] F [] (fun F' _ u => ∃ b2, u = .func (.func 78) ⟨[]⟩ ⟨[ptr b2]⟩ ∧ Cel F' b2 0 fi) := by
  refine Ct.enter Tryz.func45 rfl Tryz.ntmps45 rfl fun w0 a S => ?_
  refine wp_sr fun Z hZ => ?_
  (refine wpl_box S rfl rfl rfl rfl rfl ?_; clear S a; intro b1 a w S)
  (revert S a; revert hZ Z; refine go10 8 ?_; intro a S)
  refine wp_ret ?_
  (have S' := frz1 S; clear S; obtain ⟨F5, hle5, h6, S⟩ := S')
  refine fin_ret S (results1 Tryz.results45 (RV.tmp S rfl)) ?_
  (exact ⟨b1, rfl, ⟨_, _, _, h6, by cases fi <;> first | rfl | cases h1⟩⟩)
theorem o1Ct (F : Heap) (c : Int) : Ct Tryz.prog 46 [.int .i64 c] F [] (fun _ _ u => u = .bool (ordT 0 c)) := by
  refine Ct.enter Tryz.func46 rfl Tryz.ntmps46 rfl fun w0 a S => ?_
  (revert S a; refine go00 10 ?_; intro a S)
  refine wp_ret (fin_ret S (results1 Tryz.results46 (RV.tmp S rfl)) ?_)
  rfl
theorem o2Ct (F : Heap) (c : Int) : Ct Tryz.prog 47 [.int .i64 c] F [] (fun _ _ u => u = .bool (ordT 1 c)) := by
  refine Ct.enter Tryz.func47 rfl Tryz.ntmps47 rfl fun w0 a S => ?_
  (revert S a; refine go00 10 ?_; intro a S)
  refine wp_ret (fin_ret S (results1 Tryz.results47 (RV.tmp S rfl)) ?_)
  (show Value.bool (c != 0) = .bool (decide (c ≠ 0)); congr 1; by_cases h : c = 0 <;> simp [h])
theorem o3Ct (F : Heap) (c : Int) : Ct Tryz.prog 48 [.int .i64 c] F [] (fun _ _ u => u = .bool (ordT 2 c)) := by
  refine Ct.enter Tryz.func48 rfl Tryz.ntmps48 rfl fun w0 a S => ?_
  (revert S a; refine go00 10 ?_; intro a S)
  refine wp_ret (fin_ret S (results1 Tryz.results48 (RV.tmp S rfl)) ?_)
  rfl
theorem o4Ct (F : Heap) (c : Int) : Ct Tryz.prog 49 [.int .i64 c] F [] (fun _ _ u => u = .bool (ordT 3 c)) := by
  refine Ct.enter Tryz.func49 rfl Tryz.ntmps49 rfl fun w0 a S => ?_
  (revert S a; refine go00 10 ?_; intro a S)
  refine wp_ret (fin_ret S (results1 Tryz.results49 (RV.tmp S rfl)) ?_)
  rfl
theorem o5Ct (F : Heap) (c : Int) : Ct Tryz.prog 50 [.int .i64 c] F [] (fun _ _ u => u = .bool (ordT 4 c)) := by
  refine Ct.enter Tryz.func50 rfl Tryz.ntmps50 rfl fun w0 a S => ?_
  (revert S a; refine go00 10 ?_; intro a S)
  refine wp_ret (fin_ret S (results1 Tryz.results50 (RV.tmp S rfl)) ?_)
  rfl
theorem o6Ct (F : Heap) (c : Int) : Ct Tryz.prog 51 [.int .i64 c] F [] (fun _ _ u => u = .bool (ordT 5 c)) := by
  refine Ct.enter Tryz.func51 rfl Tryz.ntmps51 rfl fun w0 a S => ?_
  (revert S a; refine go00 10 ?_; intro a S)
  refine wp_ret (fin_ret S (results1 Tryz.results51 (RV.tmp S rfl)) ?_)
  rfl
/-! ### the map -/
/-- A function's value comes to that. -/
def Op2 (F : Heap) (u : Value) (f : Vv → Vv → Ans) : Prop := ∃ (fid : Nat) (ca : List Value), u = .func (.func fid) ⟨[]⟩ ⟨ca⟩ ∧ HasFn Tryz.prog fid ∧ ∀ (F' : Heap), (∀ b o, F b = some o → F' b = some o) → ∀ (x y : Vv) (cx cy : List Value), GV x → GV y → VaC F' cx x.1 x.2 → VaC F' cy y.1 y.2 →
  Ct Tryz.prog fid ([] ++ [.agg ⟨cx⟩, .agg ⟨cy⟩] ++ ca) F' [] (fun F2 _ u => AnsR F2 u (f x y))
theorem Op2.mono {F F' : Heap} {u : Value} {f : Vv → Vv → Ans} (hF : ∀ b o, F b = some o → F' b = some o) (h : Op2 F u f) : Op2 F' u f := by
  obtain ⟨fid, ca, h1, h2, h3⟩ := h
  exact ⟨fid, ca, h1, h2, fun F2 h4 => h3 F2 fun b o h5 => h4 _ _ (hF _ _ h5)⟩
def OpsM (F : Heap) : List (List UInt8 × Value) → List (List UInt8 × (Vv → Vv → Ans)) → Prop
  | [], [] => True
  | (k, u) :: es, (k2, f) :: l => k = k2 ∧ Op2 F u f ∧ OpsM F es l
  | _, _ => False
theorem OpsM.mono {F F' : Heap} (hF : ∀ b o, F b = some o → F' b = some o) : ∀ {es : List (List UInt8 × Value)} {l : List (List UInt8 × (Vv → Vv → Ans))}, OpsM F es l → OpsM F' es l
  | [], [], _ => trivial
  | [], _ :: _, h => h.elim
  | _ :: _, [], h => h.elim
  | (k, u) :: es, (k2, f) :: l, ⟨h1, h2, h3⟩ => ⟨h1, h2.mono hF, OpsM.mono hF h3⟩
theorem OpsM.get {F : Heap} : ∀ {es : List (List UInt8 × Value)} {l : List (List UInt8 × (Vv → Vv → Ans))}, OpsM F es l → ∀ s, (∃ f u, (l.find? fun x => decide (s = x.1)).map (·.2) = some f ∧ mGet es s = some u ∧ Op2 F u f) ∨ ((l.find? fun x => decide (s = x.1)).map (·.2) = none ∧ mGet es s = none)
  | [], [], _, s => .inr ⟨rfl, rfl⟩
  | [], _ :: _, h, _ => h.elim
  | _ :: _, [], h, _ => h.elim
  | (k, u) :: es, (k2, f) :: l, ⟨h1, h2, h3⟩, s => by
    subst h1
    unfold mGet
    rw [List.find?_cons, List.find?_cons]
    by_cases e : s = k
    · left
      refine ⟨f, u, ?_, ?_, h2⟩ <;> simp [e]
    · have h5 := OpsM.get h3 s
      unfold mGet at h5
      simpa [e] using h5
theorem num_op {F : Heap} {k : Nat} {b2 b3 fidI fidB : Nat} [HasFn Tryz.prog fidI] [HasFn Tryz.prog fidB] (h2 : Cel F b2 0 (.func (.func fidI) ⟨[]⟩ ⟨[]⟩)) (h3 : Cel F b3 0 (.func (.func fidB) ⟨[]⟩ ⟨[]⟩)) (hT : TabF F)
    (hI : ∀ (F : Heap) (x y : Int), in64 x → in64 y → Ct Tryz.prog fidI [.int .i64 x, .int .i64 y] F [] (fun _ _ u => u = cmpV (intO k x y))) (hB : ∀ (F : Heap), TabF F → ∀ (s t : List UInt8), s.length ≤ 1000000 → t.length ≤ 1000000 → Ct Tryz.prog fidB [.string (bs s), .string (bs t)] F [] (fun _ _ u => u = ansV (doA k s t)))
    (hd : ∀ s t, (doA k s t).1.length ≤ 140737488355328) : Op2 F (.func (.func 68) ⟨[]⟩ ⟨[ptr b2, ptr b3]⟩) (numO k) :=
  ⟨_, _, rfl, inferInstance, fun F' hF x y cx cy gx gy hx hy => num1Ct F' k b2 b3 fidI fidB (h2.mono hF) (h3.mono hF) (hI F') (hB F' (hT.mono hF)) x y cx cy gx gy hx hy (hd _ _)⟩
theorem ord_op {F : Heap} {k : Nat} {b fid : Nat} [HasFn Tryz.prog fid] (h2 : Cel F b 0 (.func (.func fid) ⟨[]⟩ ⟨[]⟩)) (hO : ∀ (F : Heap) (c : Int), Ct Tryz.prog fid [.int .i64 c] F [] (fun _ _ u => u = .bool (ordT k c))) : Op2 F (.func (.func 78) ⟨[]⟩ ⟨[ptr b]⟩) (ordO k) :=
  ⟨_, _, rfl, inferInstance, fun F' hF x y cx cy gx gy hx hy => ord1Ct F' k b fid (h2.mono hF) hO x y cx cy gx gy hx hy⟩
theorem cat_op (F : Heap) : Op2 F (.func (.func 52) ⟨[]⟩ ⟨[]⟩) catO :=
  ⟨_, _, rfl, inferInstance, fun F' hF x y cx cy gx gy hx hy => eTextsCt F' x y cx cy hx hy (Nat.le_trans gx.1.2 (by decide)) (Nat.le_trans gy.1.2 (by decide))⟩
end Go.Proofs.YtigblodhdfnleaaGreatDoor
namespace Go.Proofs.YtigblodhdfnleaaGreatDoor
open Go Go.Wk Go.Un Go.De Go.Num
set_option linter.unusedSimpArgs false
set_option linter.unusedVariables false
attribute [local irreducible] Go.wpList Go.Code.wp Go.wpStill Go.Wk.wpPre Go.bodyPost Go.Calls Go.Wk.Ct Go.Wk.OwnS
attribute [local irreducible] Go.Wk.wpG Go.Wk.wpM

theorem showZ_len (z : Int) : (showZ z).1.length ≤ 201 := by
  unfold showZ showS
  split
  · decide
  · split
    · decide
    · rename_i h1 h2
      cases decide (z < 0)
      · simp; omega
      · simp; omega
theorem ansZ_len (e z : Int) : (ansZ e (showZ z)).1.length ≤ 201 := by
  unfold ansZ
  split
  · exact showZ_len z
  · exact Nat.zero_le _
theorem doA_len (k : Nat) (s t : List UInt8) : (doA k s t).1.length ≤ 140737488355328 := by
  have h : (doA k s t).1.length ≤ 201 := by
    unfold doA
    split <;> exact ansZ_len _ _
  omega
set_option maxRecDepth 20000 in
set_option maxHeartbeats 16000000 in
theorem operatorsCt (F : Heap) (hT : TabF F) : Ct Tryz.prog 19 [] F [] (fun F' _ u => ∃ b es, u = .map (some b) ∧ F' b = some (mObj kS es) ∧ OpsM F' es ops2) := by
  refine Ct.enter Tryz.func19 rfl Tryz.ntmps19 rfl fun w0 a S => ?_
  (revert S a; refine go01 5 ?_; intro Z hZ a S)
  (refine wpl_makeMap kS S rfl rfl rfl rfl ?_; clear S a; intro b1 a w S)
  (refine wpl_callF S rfl rfl rfl rfl rfl rfl (numbersCt _ _ _ rfl rfl) rfl ?_; clear S a; intro v2 F2 a w hv2 hF2 S; obtain ⟨p2, q2, rfl, c2, d2⟩ := hv2)
  (refine wpl_mapIns (enc := kS) S rfl rfl rfl rfl rfl rfl ?_; clear S; intro w S)
  (refine wpl_callF S rfl rfl rfl rfl rfl rfl (numbersCt _ _ _ rfl rfl) rfl ?_; clear S a; intro v3 F3 a w hv3 hF3 S; obtain ⟨p3, q3, rfl, c3, d3⟩ := hv3)
  (refine wpl_mapIns (enc := kS) S rfl rfl rfl rfl rfl rfl ?_; clear S; intro w S)
  (refine wpl_callF S rfl rfl rfl rfl rfl rfl (numbersCt _ _ _ rfl rfl) rfl ?_; clear S a; intro v4 F4 a w hv4 hF4 S; obtain ⟨p4, q4, rfl, c4, d4⟩ := hv4)
  (refine wpl_mapIns (enc := kS) S rfl rfl rfl rfl rfl rfl ?_; clear S; intro w S)
  (refine wpl_callF S rfl rfl rfl rfl rfl rfl (numbersCt _ _ _ rfl rfl) rfl ?_; clear S a; intro v5 F5 a w hv5 hF5 S; obtain ⟨p5, q5, rfl, c5, d5⟩ := hv5)
  (refine wpl_mapIns (enc := kS) S rfl rfl rfl rfl rfl rfl ?_; clear S; intro w S)
  (refine wpl_callF S rfl rfl rfl rfl rfl rfl (numbersCt _ _ _ rfl rfl) rfl ?_; clear S a; intro v6 F6 a w hv6 hF6 S; obtain ⟨p6, q6, rfl, c6, d6⟩ := hv6)
  (refine wpl_mapIns (enc := kS) S rfl rfl rfl rfl rfl rfl ?_; clear S; intro w S)
  (refine wpl_callF S rfl rfl rfl rfl rfl rfl (orderCt _ _ rfl) rfl ?_; clear S a; intro v7 F7 a w hv7 hF7 S; obtain ⟨p7, rfl, c7⟩ := hv7)
  (refine wpl_mapIns (enc := kS) S rfl rfl rfl rfl rfl rfl ?_; clear S; intro w S)
  (refine wpl_callF S rfl rfl rfl rfl rfl rfl (orderCt _ _ rfl) rfl ?_; clear S a; intro v8 F8 a w hv8 hF8 S; obtain ⟨p8, rfl, c8⟩ := hv8)
  (refine wpl_mapIns (enc := kS) S rfl rfl rfl rfl rfl rfl ?_; clear S; intro w S)
  (refine wpl_callF S rfl rfl rfl rfl rfl rfl (orderCt _ _ rfl) rfl ?_; clear S a; intro v9 F9 a w hv9 hF9 S; obtain ⟨p9, rfl, c9⟩ := hv9)
  (refine wpl_mapIns (enc := kS) S rfl rfl rfl rfl rfl rfl ?_; clear S; intro w S)
  (refine wpl_callF S rfl rfl rfl rfl rfl rfl (orderCt _ _ rfl) rfl ?_; clear S a; intro v10 F10 a w hv10 hF10 S; obtain ⟨p10, rfl, c10⟩ := hv10)
  (refine wpl_mapIns (enc := kS) S rfl rfl rfl rfl rfl rfl ?_; clear S; intro w S)
  (refine wpl_callF S rfl rfl rfl rfl rfl rfl (orderCt _ _ rfl) rfl ?_; clear S a; intro v11 F11 a w hv11 hF11 S; obtain ⟨p11, rfl, c11⟩ := hv11)
  (refine wpl_mapIns (enc := kS) S rfl rfl rfl rfl rfl rfl ?_; clear S; intro w S)
  (refine wpl_callF S rfl rfl rfl rfl rfl rfl (orderCt _ _ rfl) rfl ?_; clear S a; intro v12 F12 a w hv12 hF12 S; obtain ⟨p12, rfl, c12⟩ := hv12)
  iterate 2 (refine wpl_mapIns (enc := kS) S rfl rfl rfl rfl rfl rfl ?_; clear S; intro w S)
  (revert S a; revert hZ Z; refine go10 4 ?_; intro a S)
  refine wp_ret ?_
  (have S' := frz1 S; clear S; obtain ⟨F13, hF13, hb13, S⟩ := S'; have m12 := hF13; have m11 := fun b o h => m12 b o (hF12 b o h); have m10 := fun b o h => m11 b o (hF11 b o h); have m9 := fun b o h => m10 b o (hF10 b o h); have m8 := fun b o h => m9 b o (hF9 b o h); have m7 := fun b o h => m8 b o (hF8 b o h); have m6 := fun b o h => m7 b o (hF7 b o h); have m5 := fun b o h => m6 b o (hF6 b o h); have m4 := fun b o h => m5 b o (hF5 b o h); have m3 := fun b o h => m4 b o (hF4 b o h); have m2 := fun b o h => m3 b o (hF3 b o h); have m1 := fun b o h => m2 b o (hF2 b o h); have h13 := hT.mono m1)
  refine fin_ret S (results1 Tryz.results19 (RV.tmp S rfl)) ?_
  (exact ⟨b1, _, rfl, hb13, rfl, num_op (c2.mono m2) (d2.mono m2) h13 eAddCt (fun F h s t hs ht => baddCt s t F h hs ht) (doA_len _), rfl, num_op (c3.mono m3) (d3.mono m3) h13 eSubCt (fun F h s t hs ht => bsubCt s t F h hs ht) (doA_len _), rfl, num_op (c4.mono m4) (d4.mono m4) h13 eMulCt (fun F h s t hs ht => bmulCt s t F h hs ht) (doA_len _), rfl, num_op (c5.mono m5) (d5.mono m5) h13 eDivCt (fun F h s t hs ht => bdivCt2 s t F h hs ht) (doA_len _), rfl, num_op (c6.mono m6) (d6.mono m6) h13 (fun F x y _ _ => eModCt F x y) (fun F h s t hs ht => bmodCt2 s t F h hs ht) (doA_len _), rfl, ord_op (c7.mono m7) o1Ct, rfl, ord_op (c8.mono m8) o2Ct, rfl, ord_op (c9.mono m9) o3Ct, rfl, ord_op (c10.mono m10) o4Ct, rfl, ord_op (c11.mono m11) o5Ct, rfl, ord_op (c12.mono m12) o6Ct, rfl, cat_op _, trivial⟩)
theorem sub0_cases (n : Int) : (intO 1 0 n = (0 - n, 0) ∧ in64 (0 - n)) ∨ (intO 1 0 n = (0, 80) ∧ ¬ in64 (0 - n)) := by
  have e : intO 1 0 n = if in64 (0 - n) then (0 - n, 0) else (0, 80) := rfl
  by_cases h : in64 (0 - n)
  · exact .inl ⟨by rw [e, if_pos h], h⟩
  · exact .inr ⟨by rw [e, if_neg h], h⟩
theorem fits64 (z : Int) : fitsI z = true ↔ in64 z := by unfold fitsI in64; simp
theorem intA_cases (s : List UInt8) : (intA s = (valS s, 0) ∧ checkS s = 0 ∧ in64 (valS s)) ∨ ((intA s).2 ≠ 0 ∧ ¬ (checkS s = 0 ∧ in64 (valS s))) := by
  unfold intA
  by_cases h : checkS s = 0
  · rw [if_pos h]
    by_cases h2 : fitsI (valS s) = true
    · rw [if_pos h2]; exact .inl ⟨rfl, h, (fits64 _).1 h2⟩
    · rw [if_neg h2]; exact .inr ⟨(by decide), fun h3 => h2 ((fits64 _).2 h3.2)⟩
  · rw [if_neg h]; exact .inr ⟨h, fun h3 => h h3.1⟩
theorem kAnd_yes {p : Prop} [Decidable p] {k m : Nat} (h : p) : ((k : Int) == (m : Int)) = decide (p ∧ k = m) := by
  rw [Bool.eq_iff_iff, beq_iff_eq, decide_eq_true_eq]
  exact ⟨fun e => ⟨h, by omega⟩, fun e => by omega⟩
theorem kAnd_no {p q : Prop} [Decidable p] [Decidable q] (h : ¬ p) : false = decide (p ∧ q) := (decide_eq_false fun e => h e.1).symm
theorem zzEvE0 {p : Prop} (h : p := by ((conv => arg 3; repeat (first | rw [if_pos (by assumption)] | rw [if_neg (by assumption)])); first | exact ans_no _ _ | (exact ⟨_, rfl, vac_z _ (k := 1) (s := []) (by decide)⟩) | (exact ⟨_, rfl, vac_z _ (k := 2) (s := []) (by decide)⟩) | (exact ⟨_, rfl, vac_z _ (k := 3) (by first | exact Nat.le_trans hlen (by decide) | exact Nat.le_trans hlz (by decide))⟩) | (rcases hs1 with ⟨e1, e2, e3⟩ | ⟨e1, e3⟩ <;> first | omega | (rw [if_neg e3, e1]; exact ans_no _ _) | (rw [if_pos e3, e2]; exact ⟨_, rfl, vac_z _ (k := 2) (s := []) (by decide)⟩)) | (rcases hi1 with ⟨e1, e2, e3⟩ | ⟨e1, e3⟩ <;> first | omega | (rw [if_neg e3]; exact ans_no _ _) | (rw [if_pos e3, e2]; exact ⟨_, rfl, vac_z _ (k := 2) (s := []) (by decide)⟩)) | trace_state)) : p := h
theorem zzEvE1 {p : Prop} (h : p := by (apply Exists.intro; apply And.intro; rotate_left 1; (refine S.keep ?_; repeat (first | exact trivial | refine ⟨rfl, ?_⟩)); first | exact kAnd_yes (m := 3) (by assumption) | exact kAnd_no (by assumption))) : p := h
theorem zzEvE2 {p : Prop} (h : p := by (apply Exists.intro; apply And.intro; rotate_left 1; (refine S.keep ?_; repeat (first | exact trivial | refine ⟨rfl, ?_⟩)); first | exact kAnd_yes (m := 2) (by assumption) | exact kAnd_no (by assumption))) : p := h
theorem zzEvE3 {p : Prop} (h : p := by (apply Exists.intro; apply And.intro; rotate_left 1; (refine S.keep ?_; repeat (first | exact trivial | refine ⟨rfl, ?_⟩)); first | exact kAnd_yes (m := 1) (by assumption) | exact kAnd_no (by assumption))) : p := h
set_option maxHeartbeats 16000000 in
theorem oneCt (F : Heap) (hT : TabF F) (hE : ErrF F) (nm : List UInt8) (x : Vv) (cx : List Value) (gx : GV x) (hx : VaC F cx x.1 x.2) : Ct Tryz.prog 91 [.string (bs nm), .agg ⟨cx⟩] F [] (fun F' _ u => AnsR F' u (op1 nm x)) := by
  obtain ⟨⟨xk, xn, xs⟩, xl⟩ := x
  obtain ⟨⟨ix, lx⟩, -, -⟩ := gx
  obtain ⟨v1, rfl, ⟨a1, c1, rfl, -⟩, -⟩ := hx
  dsimp only at *
  have hsub := eSubCt F 0 xn (by decide) ix
  have hneg := negCt xs F hT (by omega)
  have hint := bintCt xs F hE (by omega)
  have hlen : (negA xs).1.length ≤ 201 := by rw [negA_eq]; exact ansZ_len _ _
  have hlz := showZ_len xn
  have hs0 := sub0_cases xn
  have hi0 := intA_cases xs
  unfold op1 sNot sNeg sLen sBig sInt
  dsimp only
  generalize intO 1 0 xn = p at hsub hs0
  generalize intA xs = q at hint hi0
  generalize negA xs = r at hneg hlen ⊢
  obtain ⟨p1, p2⟩ := p
  obtain ⟨q1, q2⟩ := q
  obtain ⟨r1, r2⟩ := r
  have hs1 : (p2 = 0 ∧ p1 = 0 - xn ∧ in64 (0 - xn)) ∨ (p2 = 80 ∧ ¬ in64 (0 - xn)) := by
    rcases hs0 with ⟨h1, h2⟩ | ⟨h1, h2⟩
    · cases h1; exact .inl ⟨rfl, rfl, h2⟩
    · cases h1; exact .inr ⟨rfl, h2⟩
  have hi1 : (q2 = 0 ∧ q1 = valS xs ∧ checkS xs = 0 ∧ in64 (valS xs)) ∨ (q2 ≠ 0 ∧ ¬ (checkS xs = 0 ∧ in64 (valS xs))) := by
    rcases hi0 with ⟨h1, h2, h3⟩ | ⟨h1, h2⟩
    · cases h1; exact .inl ⟨rfl, rfl, h2, h3⟩
    · exact .inr ⟨h1, h2⟩
  clear hs0 hi0
  dsimp only at *
  refine Ct.enter Tryz.func91 rfl Tryz.ntmps91 rfl fun w0 a S => ?_
  refine wp_sr fun Z hZ => ?_
  (refine wpl_box S rfl rfl rfl rfl rfl ?_; clear S a; intro b3 a w S)
  (refine wpl_alloc S rfl rfl rfl rfl ?_; clear S a; intro b4 a w S)
  (revert S a; revert hZ Z; refine go11 5 ?_; intro Z hZ a S)
  (refine wp_seq_k ?_; intro Z hZ)
  replace hZ : ∀ (a' : Act) (w' : World), (∃ t : Bool, t = decide (nm = [110, 111, 116] ∧ xk = 1) ∧ St 104 [(0, .string (bs nm)), (3, ptr b3), (4, ptr b4), (5, .int .i64 0), (12, .bool t)] w0 F [] F [[(b4, .cells ⟨[.int .u8 0, .int .i64 0, .string (bs []), .slice none 0 0]⟩ 26 (0, 0))], [(b3, .cells ⟨[.int .u8 (xk : Int), .int .i64 xn, .string (bs xs), .slice a1 xl.len c1]⟩ 26 (0, 0))]] a' w') → Z a' w' := (by
   (intro a w hM; refine hZ _ _ ?_; clear hZ Z; clear S; obtain ⟨t, rfl, S⟩ := hM)
   refine wpc_split S rfl (fun h => ?_) (fun h => ?_)
   · (skip; (try simp only [tq] at h))
     (revert S a; refine go01 4 ?_; intro Z hZ a S)
     (refine wpl_call0 S rfl rfl rfl rfl rfl rfl (eTruthCt F _) rfl ?_; clear S a; intro v a w hv S; subst hv)
     (refine wpl_storeO S rfl rfl rfl rfl rfl (by rfl) (by simp [Value.cells, Value.oneCell', splice]) (by rfl) ?_; clear S; intro w S)
     (revert S a; revert hZ Z; refine go10 3 ?_; intro a S)
     refine wp_ret (fin_ret S (results2 Tryz.results91 (RV.cellO S rfl (by rfl)) (RV.tmp S rfl)) ?_)
     exact zzEvE0
   (skip; (try simp only [tq] at h))
   (refine wp_seq_k ?_; intro Z hZ)
   replace hZ : ∀ (a' : Act) (w' : World), (∃ t : Bool, t = decide (nm = [110, 101, 103] ∧ xk = 2) ∧ St 104 [(0, .string (bs nm)), (3, ptr b3), (4, ptr b4), (5, .int .i64 0), (24, .bool t)] w0 F [] F [[(b4, .cells ⟨[.int .u8 0, .int .i64 0, .string (bs []), .slice none 0 0]⟩ 26 (0, 0))], [(b3, .cells ⟨[.int .u8 (xk : Int), .int .i64 xn, .string (bs xs), .slice a1 xl.len c1]⟩ 26 (0, 0))]] a' w') → Z a' w' := (by
    (intro a w hM; refine hZ _ _ ?_; clear hZ Z; clear S; obtain ⟨t, rfl, S⟩ := hM)
    refine wpc_split S rfl (fun h => ?_) (fun h => ?_)
    · (skip; (try simp only [tq] at h))
      (revert S a; refine go01 3 ?_; intro Z hZ a S)
      (refine wpl_call0 S rfl rfl rfl rfl rfl rfl (hsub) rfl ?_; clear S a; intro v a w hv S; subst hv)
      (revert S a; revert hZ Z; refine go11 13 ?_; intro Z hZ a S)
      refine wpc_split S rfl (fun h => ?_) (fun h => ?_)
      · (skip; (try simp only [tq] at h))
        (revert S a; refine go01 3 ?_; intro Z hZ a S)
        (refine wpl_storeO S rfl rfl rfl rfl rfl (by rfl) (by simp [Value.cells, Value.oneCell', splice]) (by rfl) ?_; clear S; intro w S)
        (revert S a; revert hZ Z; refine go10 3 ?_; intro a S)
        refine wp_ret (fin_ret S (results2 Tryz.results91 (RV.cellO S rfl (by rfl)) (RV.tmp S rfl)) ?_)
        exact zzEvE0
      (skip; (try simp only [tq] at h))
      (revert S a; revert hZ Z; refine go11 4 ?_; intro Z hZ a S)
      (refine wpl_call0 S rfl rfl rfl rfl rfl rfl (eWholeCt F _) rfl ?_; clear S a; intro v a w hv S; subst hv)
      (refine wpl_storeO S rfl rfl rfl rfl rfl (by rfl) (by simp [Value.cells, Value.oneCell', splice]) (by rfl) ?_; clear S; intro w S)
      (revert S a; revert hZ Z; refine go10 3 ?_; intro a S)
      refine wp_ret (fin_ret S (results2 Tryz.results91 (RV.cellO S rfl (by rfl)) (RV.tmp S rfl)) ?_)
      exact zzEvE0
    (skip; (try simp only [tq] at h))
    (refine wp_seq_k ?_; intro Z hZ)
    replace hZ : ∀ (a' : Act) (w' : World), (∃ t : Bool, t = decide (nm = [110, 101, 103] ∧ xk = 3) ∧ St 104 [(0, .string (bs nm)), (3, ptr b3), (4, ptr b4), (5, .int .i64 0), (44, .bool t)] w0 F [] F [[(b4, .cells ⟨[.int .u8 0, .int .i64 0, .string (bs []), .slice none 0 0]⟩ 26 (0, 0))], [(b3, .cells ⟨[.int .u8 (xk : Int), .int .i64 xn, .string (bs xs), .slice a1 xl.len c1]⟩ 26 (0, 0))]] a' w') → Z a' w' := (by
     (intro a w hM; refine hZ _ _ ?_; clear hZ Z; clear S; obtain ⟨t, rfl, S⟩ := hM)
     refine wpc_split S rfl (fun h => ?_) (fun h => ?_)
     · (skip; (try simp only [tq] at h))
       (revert S a; refine go01 3 ?_; intro Z hZ a S)
       (refine wpl_call0 S rfl rfl rfl rfl rfl rfl (hneg) rfl ?_; clear S a; intro v a w hv S; subst hv)
       (revert S a; revert hZ Z; refine go11 10 ?_; intro Z hZ a S)
       (refine wpl_storeO S rfl rfl rfl rfl rfl (by rfl) (by simp [Value.cells, Value.oneCell', splice]) (by rfl) ?_; clear S; intro w S)
       (revert S a; revert hZ Z; refine go10 3 ?_; intro a S)
       refine wp_ret (fin_ret S (results2 Tryz.results91 (RV.cellO S rfl (by rfl)) (RV.tmp S rfl)) ?_)
       exact zzEvE0
     (skip; (try simp only [tq] at h))
     (refine wp_seq_k ?_; intro Z hZ)
     replace hZ : ∀ (a' : Act) (w' : World), (∃ t : Bool, t = decide (nm = [108, 101, 110] ∧ xk = 4) ∧ St 104 [(0, .string (bs nm)), (3, ptr b3), (4, ptr b4), (5, .int .i64 0), (60, .bool t)] w0 F [] F [[(b4, .cells ⟨[.int .u8 0, .int .i64 0, .string (bs []), .slice none 0 0]⟩ 26 (0, 0))], [(b3, .cells ⟨[.int .u8 (xk : Int), .int .i64 xn, .string (bs xs), .slice a1 xl.len c1]⟩ 26 (0, 0))]] a' w') → Z a' w' := (by
      (intro a w hM; refine hZ _ _ ?_; clear hZ Z; clear S; obtain ⟨t, rfl, S⟩ := hM)
      refine wpc_split S rfl (fun h => ?_) (fun h => ?_)
      · (skip; (try simp only [tq] at h))
        (revert S a; refine go01 4 ?_; intro Z hZ a S)
        (refine wpl_call0 S rfl rfl rfl rfl rfl rfl (eWholeCt F _) rfl ?_; clear S a; intro v a w hv S; subst hv)
        (refine wpl_storeO S rfl rfl rfl rfl rfl (by rfl) (by simp [Value.cells, Value.oneCell', splice]) (by rfl) ?_; clear S; intro w S)
        (revert S a; revert hZ Z; refine go10 3 ?_; intro a S)
        refine wp_ret (fin_ret S (results2 Tryz.results91 (RV.cellO S rfl (by rfl)) (RV.tmp S rfl)) ?_)
        exact zzEvE0
      (skip; (try simp only [tq] at h))
      (refine wp_seq_k ?_; intro Z hZ)
      replace hZ : ∀ (a' : Act) (w' : World), (∃ t : Bool, t = decide (nm = [98, 105, 103] ∧ xk = 2) ∧ St 104 [(0, .string (bs nm)), (3, ptr b3), (4, ptr b4), (5, .int .i64 0), (72, .bool t)] w0 F [] F [[(b4, .cells ⟨[.int .u8 0, .int .i64 0, .string (bs []), .slice none 0 0]⟩ 26 (0, 0))], [(b3, .cells ⟨[.int .u8 (xk : Int), .int .i64 xn, .string (bs xs), .slice a1 xl.len c1]⟩ 26 (0, 0))]] a' w') → Z a' w' := (by
       (intro a w hM; refine hZ _ _ ?_; clear hZ Z; clear S; obtain ⟨t, rfl, S⟩ := hM)
       refine wpc_split S rfl (fun h => ?_) (fun h => ?_)
       · (skip; (try simp only [tq] at h))
         (revert S a; refine go01 3 ?_; intro Z hZ a S)
         (refine wpl_call0 S rfl rfl rfl rfl rfl rfl (bigOfCt xn F hT ix.1 ix.2) rfl ?_; clear S a; intro v a w hv S; subst hv)
         (revert S a; refine go00 1 ?_; intro a S)
         (refine wpl_storeO S rfl rfl rfl rfl rfl (by rfl) (by simp [Value.cells, Value.oneCell', splice]) (by rfl) ?_; clear S; intro w S)
         (revert S a; revert hZ Z; refine go10 3 ?_; intro a S)
         refine wp_ret (fin_ret S (results2 Tryz.results91 (RV.cellO S rfl (by rfl)) (RV.tmp S rfl)) ?_)
         exact zzEvE0
       (skip; (try simp only [tq] at h))
       (refine wp_seq_k ?_; intro Z hZ)
       replace hZ : ∀ (a' : Act) (w' : World), (∃ t : Bool, t = decide (nm = [105, 110, 116] ∧ xk = 3) ∧ St 104 [(0, .string (bs nm)), (3, ptr b3), (4, ptr b4), (5, .int .i64 0), (84, .bool t)] w0 F [] F [[(b4, .cells ⟨[.int .u8 0, .int .i64 0, .string (bs []), .slice none 0 0]⟩ 26 (0, 0))], [(b3, .cells ⟨[.int .u8 (xk : Int), .int .i64 xn, .string (bs xs), .slice a1 xl.len c1]⟩ 26 (0, 0))]] a' w') → Z a' w' := (by
        (intro a w hM; refine hZ _ _ ?_; clear hZ Z; clear S; obtain ⟨t, rfl, S⟩ := hM)
        refine wpc_split S rfl (fun h => ?_) (fun h => ?_)
        · (skip; (try simp only [tq] at h))
          (revert S a; refine go01 3 ?_; intro Z hZ a S)
          (refine wpl_call0 S rfl rfl rfl rfl rfl rfl (hint) rfl ?_; clear S a; intro v a w hv S; subst hv)
          (revert S a; revert hZ Z; refine go11 13 ?_; intro Z hZ a S)
          refine wpc_split S rfl (fun h => ?_) (fun h => ?_)
          · (skip; (try simp only [tq] at h))
            (revert S a; refine go01 2 ?_; intro Z hZ a S)
            (refine wpl_storeO S rfl rfl rfl rfl rfl (by rfl) (by simp [Value.cells, Value.oneCell', splice]) (by rfl) ?_; clear S; intro w S)
            (revert S a; revert hZ Z; refine go10 3 ?_; intro a S)
            refine wp_ret (fin_ret S (results2 Tryz.results91 (RV.cellO S rfl (by rfl)) (RV.tmp S rfl)) ?_)
            exact zzEvE0
          (skip; (try simp only [tq] at h))
          (revert S a; revert hZ Z; refine go11 4 ?_; intro Z hZ a S)
          (refine wpl_call0 S rfl rfl rfl rfl rfl rfl (eWholeCt F _) rfl ?_; clear S a; intro v a w hv S; subst hv)
          (refine wpl_storeO S rfl rfl rfl rfl rfl (by rfl) (by simp [Value.cells, Value.oneCell', splice]) (by rfl) ?_; clear S; intro w S)
          (revert S a; revert hZ Z; refine go10 3 ?_; intro a S)
          refine wp_ret (fin_ret S (results2 Tryz.results91 (RV.cellO S rfl (by rfl)) (RV.tmp S rfl)) ?_)
          exact zzEvE0
        (skip; (try simp only [tq] at h))
        (revert S a; revert hZ Z; refine go11 4 ?_; intro Z hZ a S)
        (refine wpl_storeO S rfl rfl rfl rfl rfl (by rfl) (by simp [Value.cells, Value.oneCell', splice]) (by rfl) ?_; clear S; intro w S)
        (revert S a; revert hZ Z; refine go10 3 ?_; intro a S)
        refine wp_ret (fin_ret S (results2 Tryz.results91 (RV.cellO S rfl (by rfl)) (RV.tmp S rfl)) ?_)
        ((conv => arg 3; repeat (first | rw [if_pos (by assumption)] | rw [if_neg (by assumption)])); first | exact ans_no _ _ | (exact ⟨_, rfl, vac_z _ (k := 1) (s := []) (by decide)⟩) | (exact ⟨_, rfl, vac_z _ (k := 2) (s := []) (by decide)⟩) | (exact ⟨_, rfl, vac_z _ (k := 3) (by first | exact Nat.le_trans hlen (by decide) | exact Nat.le_trans hlz (by decide))⟩) | (rcases hs1 with ⟨e1, e2, e3⟩ | ⟨e1, e3⟩ <;> first | omega | (rw [if_neg e3, e1]; exact ans_no _ _) | (rw [if_pos e3, e2]; exact ⟨_, rfl, vac_z _ (k := 2) (s := []) (by decide)⟩)) | (rcases hi1 with ⟨e1, e2, e3⟩ | ⟨e1, e3⟩ <;> first | omega | (rw [if_neg e3]; exact ans_no _ _) | (rw [if_pos e3, e2]; exact ⟨_, rfl, vac_z _ (k := 2) (s := []) (by decide)⟩)) | trace_state))
       (revert S a; refine go00 4 ?_; intro a S)
       refine wpl_guard S rfl rfl rfl rfl rfl ?_ ?_
       · (clear S; intro h S; (try simp only [tq] at h))
         (revert S a; refine go00 8 ?_; intro a S)
         (refine hZ _ _ ?_)
         exact zzEvE1
       (intro h; clear S a; intro a S; (try simp only [tq] at h))
       (revert S a; refine go00 5 ?_; intro a S)
       (refine hZ _ _ ?_)
       (apply Exists.intro; apply And.intro; rotate_left 1; (refine S.keep ?_; repeat (first | exact trivial | refine ⟨rfl, ?_⟩)); first | exact kAnd_yes (m := 3) (by assumption) | exact kAnd_no (by assumption)))
      (revert S a; refine go00 4 ?_; intro a S)
      refine wpl_guard S rfl rfl rfl rfl rfl ?_ ?_
      · (clear S; intro h S; (try simp only [tq] at h))
        (revert S a; refine go00 8 ?_; intro a S)
        (refine hZ _ _ ?_)
        exact zzEvE2
      (intro h; clear S a; intro a S; (try simp only [tq] at h))
      (revert S a; refine go00 5 ?_; intro a S)
      (refine hZ _ _ ?_)
      (apply Exists.intro; apply And.intro; rotate_left 1; (refine S.keep ?_; repeat (first | exact trivial | refine ⟨rfl, ?_⟩)); first | exact kAnd_yes (m := 2) (by assumption) | exact kAnd_no (by assumption)))
     (revert S a; refine go00 4 ?_; intro a S)
     refine wpl_guard S rfl rfl rfl rfl rfl ?_ ?_
     · (clear S; intro h S; (try simp only [tq] at h))
       (revert S a; refine go00 8 ?_; intro a S)
       (refine hZ _ _ ?_)
       (apply Exists.intro; apply And.intro; rotate_left 1; (refine S.keep ?_; repeat (first | exact trivial | refine ⟨rfl, ?_⟩)); first | exact kAnd_yes (m := 4) (by assumption) | exact kAnd_no (by assumption))
     (intro h; clear S a; intro a S; (try simp only [tq] at h))
     (revert S a; refine go00 5 ?_; intro a S)
     (refine hZ _ _ ?_)
     (apply Exists.intro; apply And.intro; rotate_left 1; (refine S.keep ?_; repeat (first | exact trivial | refine ⟨rfl, ?_⟩)); first | exact kAnd_yes (m := 4) (by assumption) | exact kAnd_no (by assumption)))
    (revert S a; refine go00 4 ?_; intro a S)
    refine wpl_guard S rfl rfl rfl rfl rfl ?_ ?_
    · (clear S; intro h S; (try simp only [tq] at h))
      (revert S a; refine go00 8 ?_; intro a S)
      (refine hZ _ _ ?_)
      exact zzEvE1
    (intro h; clear S a; intro a S; (try simp only [tq] at h))
    (revert S a; refine go00 5 ?_; intro a S)
    (refine hZ _ _ ?_)
    (apply Exists.intro; apply And.intro; rotate_left 1; (refine S.keep ?_; repeat (first | exact trivial | refine ⟨rfl, ?_⟩)); first | exact kAnd_yes (m := 3) (by assumption) | exact kAnd_no (by assumption)))
   (revert S a; refine go00 4 ?_; intro a S)
   refine wpl_guard S rfl rfl rfl rfl rfl ?_ ?_
   · (clear S; intro h S; (try simp only [tq] at h))
     (revert S a; refine go00 8 ?_; intro a S)
     (refine hZ _ _ ?_)
     exact zzEvE2
   (intro h; clear S a; intro a S; (try simp only [tq] at h))
   (revert S a; refine go00 5 ?_; intro a S)
   (refine hZ _ _ ?_)
   (apply Exists.intro; apply And.intro; rotate_left 1; (refine S.keep ?_; repeat (first | exact trivial | refine ⟨rfl, ?_⟩)); first | exact kAnd_yes (m := 2) (by assumption) | exact kAnd_no (by assumption)))
  (revert S a; refine go00 4 ?_; intro a S)
  refine wpl_guard S rfl rfl rfl rfl rfl ?_ ?_
  · (clear S; intro h S; (try simp only [tq] at h))
    (revert S a; refine go00 8 ?_; intro a S)
    (refine hZ _ _ ?_)
    exact zzEvE3
  (intro h; clear S a; intro a S; (try simp only [tq] at h))
  (revert S a; refine go00 5 ?_; intro a S)
  (refine hZ _ _ ?_)
  exact zzEvE3
end Go.Proofs.YtigblodhdfnleaaGreatDoor
namespace Go.Proofs.YtigblodhdfnleaaGreatDoor
open Go Go.Wk Go.Un Go.De Go.Num
set_option linter.unusedSimpArgs false
set_option linter.unusedVariables false

theorem GVl.get : ∀ {l : Vf} {k : Nat} {x : Vv}, GVl l → l.get? k = some x → (in64 x.1.n ∧ x.1.s.length ≤ 200000) ∧ GVl x.2
  | .cons h L r, 0, x, ⟨h1, h2, _⟩, e => by cases e; exact ⟨h1, h2⟩
  | .cons h L r, k + 1, x, ⟨_, _, h3⟩, e => GVl.get (l := r) h3 e
theorem GV.kid {v x : Vv} {k : Nat} (g : GV v) (e : v.2.get? k = some x) : GV x := by
  obtain ⟨h1, h2⟩ := GVl.get g.2.1 e
  have := Rose.size_get e
  have := g.2.2
  exact ⟨h1, h2, by omega⟩
theorem GV_leaf {k : Nat} {n : Int} {s : List UInt8} (hn : in64 n) (hs : s.length ≤ 200000) : GV (⟨k, n, s⟩, .nil) := ⟨⟨hn, hs⟩, trivial, Nat.zero_le _⟩
theorem GV_z : GV zV := GV_leaf (by decide) (by decide)
theorem GV_bool (b : Bool) : GV (boolV b) := GV_leaf (by cases b <;> decide) (by decide)
theorem tmod64 {a b : Int} (ha : in64 a) : in64 (a.tmod b) := by
  have h1 : (a.tmod b).natAbs ≤ a.natAbs := by rw [Int.natAbs_tmod]; exact Nat.mod_le _ _
  unfold in64 at *
  by_cases h0 : 0 ≤ a
  · have := Int.tmod_nonneg b h0
    omega
  · have h := Int.tmod_nonneg b (show 0 ≤ -a by omega)
    rw [Int.neg_tmod] at h
    omega
theorem intO_in {k : Nat} {a b : Int} (ha : in64 a) (hb : in64 b) : in64 (intO k a b).1 := by
  unfold intO
  repeat' split
  all_goals first | assumption | exact tmod64 ha | (show in64 0; decide)
theorem doA_len2 (k : Nat) (s t : List UInt8) : (doA k s t).1.length ≤ 200000 := by
  have h : (doA k s t).1.length ≤ 201 := by
    unfold doA
    split <;> exact ansZ_len _ _
  omega
theorem numO_GV {k : Nat} {x y : Vv} (gx : GV x) (gy : GV y) : GV (numO k x y).2 := by
  unfold numO
  repeat' split
  all_goals first | exact GV_z | exact GV_leaf (intO_in gx.1.1 gy.1.1) (by show _ ≤ _; decide) | exact GV_leaf (by decide) (doA_len2 _ _ _)
theorem catO_GV {x y : Vv} : GV (catO x y).2 := by
  unfold catO
  split
  · exact GV_z
  · split
    · exact GV_z
    · exact GV_leaf (by decide) (by rw [List.length_append]; omega)
theorem op2_GV {s : List UInt8} {f : Vv → Vv → Ans} (h : op2 s = some f) {x y : Vv} (gx : GV x) (gy : GV y) : GV (f x y).2 := by
  unfold op2 at h
  rw [Option.map_eq_some_iff] at h
  obtain ⟨p, h1, rfl⟩ := h
  have h2 := List.mem_of_find?_eq_some h1
  unfold ops2 at h2
  simp only [List.mem_cons, List.not_mem_nil, or_false] at h2
  rcases h2 with rfl | rfl | rfl | rfl | rfl | rfl | rfl | rfl | rfl | rfl | rfl | rfl
  all_goals first | exact numO_GV gx gy | exact catO_GV | exact GV_bool _
theorem op1_GV {s : List UInt8} {x : Vv} (gx : GV x) : GV (op1 s x).2 := by
  unfold op1
  repeat' split
  all_goals first
    | exact GV_z
    | exact GV_bool _
    | exact GV_leaf (by assumption) (by decide)
    | exact GV_leaf (by decide) (by rw [negA_eq]; exact Nat.le_trans (ansZ_len _ _) (by decide))
    | (have := gx.1.2; exact GV_leaf (by unfold in64; omega) (by decide))
    | exact GV_leaf (by decide) (Nat.le_trans (showZ_len _) (by decide))
    | (rename_i h; exact GV_leaf h.2 (by decide))
theorem nameS_len {s : List UInt8} (h : nameS s = true) : s.length ≤ 32 := by
  unfold nameS at h
  rw [Bool.and_eq_true, decide_eq_true_eq] at h
  exact h.1.2.1
theorem cons_len {nm : List UInt8} {n : Nat} (h : formH ⟨6, 0, nm⟩ n = true) : nm.length ≤ 200000 := by
  unfold formH at h
  rw [if_neg (show ¬ (6 : Nat) = 1 by decide), if_neg (show ¬ (6 : Nat) = 2 by decide), if_neg (show ¬ (6 : Nat) = 3 by decide), if_neg (show ¬ (6 : Nat) = 4 by decide), if_neg (show ¬ (6 : Nat) = 5 by decide), if_pos rfl, Bool.and_eq_true, Bool.and_eq_true] at h
  have h1 := nameS_len h.2.1
  dsimp only at h h1
  by_cases hc : 0 ≤ cutI nm
  · have e1 : cutC nm = true := decide_eq_true hc
    have h2 := h.2.2
    rw [e1] at h2
    simp only [Bool.true_and, Bool.not_true, Bool.false_and, Bool.or_false] at h2
    have h3 := nameS_len h2
    unfold cutA at h1
    unfold cutB at h3
    rw [if_pos hc, List.length_take] at h1
    rw [if_pos hc, List.length_drop] at h3
    omega
  · unfold cutA at h1
    rw [if_neg hc] at h1
    omega
theorem check_form {h : VH} {L : Vf} (hc : checkV h L = 0) : formH h L.len = true := by
  unfold checkV at hc
  split at hc
  · cases hc
  · split at hc
    · cases hc
    · rename_i _ h2
      rw [Bool.not_eq_false, Bool.and_eq_true] at h2
      exact h2.1
theorem wholeO_GV {h : VH} {L : Vf} (hn : h.n = 0) (hs : checkV h L = 0 → h.s.length ≤ 200000) (hL : GVl L) : GV (wholeO h L).2 := by
  unfold wholeO
  split
  · exact GV_z
  · split
    · exact GV_z
    · rename_i h1 h2
      have h3 : checkV h L = 0 := Classical.byContradiction h2
      have h4 : insL L + 1 ≤ 4096 := by omega
      rw [insL_size] at h4
      exact ⟨⟨by show in64 h.n; rw [hn]; decide, hs h3⟩, hL, by show L.size ≤ _; omega⟩
theorem listO_GV : ∀ {l : List Ans}, (∀ a ∈ l, GV a.2) → ∀ x ∈ (listO l).2, GV x
  | [], _, x, hx => by cases hx
  | a :: r, h, x, hx => by
    unfold listO at hx
    split at hx
    · cases hx
    · split at hx
      · cases hx
      · rcases List.mem_cons.1 hx with rfl | hx
        · exact h _ (List.mem_cons_self ..)
        · exact listO_GV (fun a ha => h a (List.mem_cons_of_mem _ ha)) x hx
theorem roseOf_GV : ∀ {l : List Vv}, (∀ x ∈ l, GV x) → GVl (roseOf l)
  | [], _ => trivial
  | x :: r, h => ⟨(h x (List.mem_cons_self ..)).1, (h x (List.mem_cons_self ..)).2.1, roseOf_GV fun y hy => h y (List.mem_cons_of_mem _ hy)⟩
theorem fieldO_GV {cs : List KC} {nm : List UInt8} {v : Vv} (g : GV v) : GV (fieldO cs nm v).2 := by
  unfold fieldO
  repeat' split
  all_goals first | exact GV_z | (rename_i e; exact g.kid e)
theorem nthA_GV : ∀ {l : List Ans} (k : Nat), (∀ a ∈ l, GV a.2) → GV (nthA l k).2
  | [], _, _ => GV_z
  | a :: r, 0, h => h a (List.mem_cons_self ..)
  | a :: r, k + 1, h => nthA_GV (l := r) k fun b hb => h b (List.mem_cons_of_mem _ hb)
def GVB (vs : List Bd) : Prop := ∀ x ∈ vs, GV x.2
def GEl : Ef → Prop
  | .nil => True
  | .cons h L r => (GV (h.v, h.vl) ∧ (L.len ≤ 3000 ∧ h.nm.length ≤ 140737488355328) ∧ GEl L) ∧ GEl r
def GE (h : EH) (L : Ef) : Prop := GV (h.v, h.vl) ∧ (L.len ≤ 3000 ∧ h.nm.length ≤ 140737488355328) ∧ GEl L
theorem GEl.get : ∀ {l : Ef} {k : Nat} {x : EH × Ef}, GEl l → l.get? k = some x → GE x.1 x.2
  | .cons h L r, 0, x, ⟨h1, _⟩, e => by cases e; exact h1
  | .cons h L r, k + 1, x, ⟨_, h3⟩, e => GEl.get (l := r) h3 e
theorem partsO_GV {h : VH} {l : List Ans} (hn : h.n = 0) (hs : ∀ L, checkV h L = 0 → h.s.length ≤ 200000) (hl : ∀ a ∈ l, GV a.2) : GV (partsO h l).2 := by
  unfold partsO
  split
  · exact GV_z
  · exact wholeO_GV hn (hs _) (roseOf_GV (listO_GV hl))
theorem evK_GV {cs : List KC} {vs : List Bd} {h : EH} {l : List Ans} (hv : GV (h.v, h.vl)) (hb : GVB vs) (hl : ∀ a ∈ l, GV a.2) : GV (evK cs vs h l).2 := by
  have hlist := listO_GV hl
  have pull : ∀ {p : Prop} [Decidable p] {a b : Ans}, GV a.2 → GV b.2 → GV (if p then a else b).2 := fun {p} _ {a b} ha hb => by
    by_cases hp : p
    · rw [if_pos hp]; exact ha
    · rw [if_neg hp]; exact hb
  unfold evK
  refine pull hv (pull ?_ (pull (partsO_GV rfl (fun L _ => by decide) hl) (pull ?_ (pull (pull GV_z (fieldO_GV (nthA_GV _ hl))) (pull (pull GV_z (pull (nthA_GV _ hl) (nthA_GV _ hl))) (pull (pull (pull GV_z (GV_bool _)) (pull GV_z (GV_bool _))) (pull GV_z ?_)))))))
  · cases e : findB vs h.nm with
    | none => exact GV_z
    | some x => exact hb _ (List.mem_of_find?_eq_some e)
  · cases e : findC cs h.nm with
    | none => exact GV_z
    | some c => exact pull GV_z (partsO_GV rfl (fun L hc => cons_len (check_form hc)) hl)
  · cases e : (listO l).2 with
    | nil => exact GV_z
    | cons x r =>
      have gx := hlist x (by rw [e]; exact List.mem_cons_self ..)
      cases r with
      | nil => exact op1_GV gx
      | cons y r2 =>
        have gy := hlist y (by rw [e]; exact List.mem_cons_of_mem _ (List.mem_cons_self ..))
        dsimp only
        cases ho : op2 h.nm with
        | none => exact GV_z
        | some f => exact op2_GV ho gx gy
theorem evL_GV {cs : List KC} {vs : List Bd} (hb : GVB vs) : ∀ {L : Ef}, GEl L → ∀ a ∈ evL cs vs L, GV a.2
  | .nil, _, a, ha => by cases ha
  | .cons h L r, ⟨⟨h1, _, h3⟩, h4⟩, a, ha => by
    rcases List.mem_cons.1 ha with rfl | ha
    · exact evK_GV h1 hb (evL_GV hb h3)
    · exact evL_GV hb h4 a ha
theorem evE_GV {cs : List KC} {vs : List Bd} {h : EH} {L : Ef} (hb : GVB vs) (g : GE h L) : GV (evE cs vs h L).2 := evK_GV g.1 hb (evL_GV hb g.2.2)
end Go.Proofs.YtigblodhdfnleaaGreatDoor
