/- BigRing answers true. -/
import Derived.Test.YtmmpbpfdnpgklaaDoorOutB
namespace Go.Proofs.YtmmpbpfdnpgklaaDoor
open Go Go.Wk Go.Num
set_option linter.unusedSimpArgs false
set_option linter.unusedVariables false
attribute [local irreducible] Go.wpList Go.Code.wp Go.wpStill Go.Wk.wpPre Go.bodyPost Go.Calls Go.Wk.Ct Go.Wk.OwnS
attribute [local irreducible] Go.Wk.wpG Go.Wk.wpM

set_option maxHeartbeats 1000000 in
theorem ringE1 (s t u : List UInt8) (F : Heap) (hT : TabF F) (ha : s.length ≤ 140737488355328) (hb : t.length ≤ 140737488355328) (hc : u.length ≤ 140737488355328) (h1 : ¬ checkS s = 0) : Ct Tryd.prog 8 [.string (bs s), .string (bs t), .string (bs u)] F [] (fun _ _ u => u = .bool true) := by
  refine Ct.enter Tryd.func8 rfl Tryd.ntmps8 rfl fun w0 a S => ?_
  (refine wp_seq_k ?_; intro Kq1 hKq1)
  refine wp_region_lit ?_
  (refine wpl_v S rfl rfl rfl (sv_pure S rfl) ?_; clear S a; intro a S)
  refine wpList_nil ?_
  (refine hKq1 _ _ ?_; try (clear hKq1 Kq1))
  (refine wp_seq_k ?_; intro Kq2 hKq2)
  (refine wp_seq_k ?_; intro Kq3 hKq3)
  refine wp_region_lit ?_
  (refine wpl_call0 S rfl rfl rfl rfl rfl rfl (worksCt F hT) rfl ?_; clear S a; intro v a w hv S; subst hv)
  (refine wpl_v S rfl rfl rfl (sv_lit (c := false) (sv_pure S rfl) (by rfl)) ?_; clear S a; intro a S)
  (refine wpl_v S rfl rfl rfl (sv_pure S rfl) ?_; clear S a; intro a S)
  refine wpl_take S rfl rfl rfl ?_
  (refine wpl_v S rfl rfl rfl (sv_pure S rfl) ?_; clear S a; intro a S)
  refine wpl_take S rfl rfl rfl ?_
  ((first | (refine wpl_call0 S rfl rfl rfl rfl rfl rfl (checkCt s F (by omega)) rfl ?_) | (refine wpl_call0 S rfl rfl rfl rfl rfl rfl (checkCt t F (by omega)) rfl ?_) | (refine wpl_call0 S rfl rfl rfl rfl rfl rfl (checkCt u F (by omega)) rfl ?_)); clear S a; intro v a w hv S; subst hv)
  refine wpl_take S rfl rfl rfl ?_
  (refine wpl_v S rfl rfl rfl (sv_lit (c := true) (sv_pure S rfl) (by simpa using h1)) ?_; clear S a; intro a S)
  first | (refine wpl_v S rfl rfl rfl (sv_pure S rfl) ?_; clear S a; intro a S) | (refine wpl_v S rfl rfl rfl (sv_pickB S rfl rfl rfl rfl) ?_; clear S a; intro a S)
  (refine wpl_v S rfl rfl rfl (sv_pure S rfl) ?_; clear S a; intro a S)
  (refine wpl_skip S rfl rfl rfl rfl rfl ?_; clear S a; intro a S)
  (refine wpl_skip S rfl rfl rfl rfl rfl ?_; clear S a; intro a S)
  (refine wpl_skip S rfl rfl rfl rfl rfl ?_; clear S a; intro a S)
  first | (refine wpl_v S rfl rfl rfl (sv_pure S rfl) ?_; clear S a; intro a S) | (refine wpl_v S rfl rfl rfl (sv_pickB S rfl rfl rfl rfl) ?_; clear S a; intro a S)
  (refine wpl_v S rfl rfl rfl (sv_pure S rfl) ?_; clear S a; intro a S)
  (refine wpl_skip S rfl rfl rfl rfl rfl ?_; clear S a; intro a S)
  (refine wpl_skip S rfl rfl rfl rfl rfl ?_; clear S a; intro a S)
  (refine wpl_skip S rfl rfl rfl rfl rfl ?_; clear S a; intro a S)
  first | (refine wpl_v S rfl rfl rfl (sv_pure S rfl) ?_; clear S a; intro a S) | (refine wpl_v S rfl rfl rfl (sv_pickB S rfl rfl rfl rfl) ?_; clear S a; intro a S)
  refine wpList_nil ?_
  (refine hKq3 _ _ ?_; try (clear hKq3 Kq3))
  refine wpc_true S rfl ?_
  (refine wp_seq_k ?_; intro Kq4 hKq4)
  refine wp_region_lit ?_
  (refine wpl_call0 S rfl rfl rfl rfl rfl rfl (worksCt F hT) rfl ?_; clear S a; intro v a w hv S; subst hv)
  (refine wpl_v S rfl rfl rfl (sv_pure S rfl) ?_; clear S a; intro a S)
  refine wpList_nil ?_
  (refine hKq4 _ _ ?_; try (clear hKq4 Kq4))
  refine wp_ret ?_
  refine fin_ret S (results1 Tryd.results8 (RV.tmp S rfl)) ?_
  rfl
set_option maxHeartbeats 1000000 in
theorem ringE2 (s t u : List UInt8) (F : Heap) (hT : TabF F) (ha : s.length ≤ 140737488355328) (hb : t.length ≤ 140737488355328) (hc : u.length ≤ 140737488355328) (h1 : checkS s = 0) (h2 : ¬ checkS t = 0) : Ct Tryd.prog 8 [.string (bs s), .string (bs t), .string (bs u)] F [] (fun _ _ u => u = .bool true) := by
  refine Ct.enter Tryd.func8 rfl Tryd.ntmps8 rfl fun w0 a S => ?_
  (refine wp_seq_k ?_; intro Kq1 hKq1)
  refine wp_region_lit ?_
  (refine wpl_v S rfl rfl rfl (sv_pure S rfl) ?_; clear S a; intro a S)
  refine wpList_nil ?_
  (refine hKq1 _ _ ?_; try (clear hKq1 Kq1))
  (refine wp_seq_k ?_; intro Kq2 hKq2)
  (refine wp_seq_k ?_; intro Kq3 hKq3)
  refine wp_region_lit ?_
  (refine wpl_call0 S rfl rfl rfl rfl rfl rfl (worksCt F hT) rfl ?_; clear S a; intro v a w hv S; subst hv)
  (refine wpl_v S rfl rfl rfl (sv_lit (c := false) (sv_pure S rfl) (by rfl)) ?_; clear S a; intro a S)
  (refine wpl_v S rfl rfl rfl (sv_pure S rfl) ?_; clear S a; intro a S)
  refine wpl_take S rfl rfl rfl ?_
  (refine wpl_v S rfl rfl rfl (sv_pure S rfl) ?_; clear S a; intro a S)
  refine wpl_take S rfl rfl rfl ?_
  ((first | (refine wpl_call0 S rfl rfl rfl rfl rfl rfl (checkCt s F (by omega)) rfl ?_) | (refine wpl_call0 S rfl rfl rfl rfl rfl rfl (checkCt t F (by omega)) rfl ?_) | (refine wpl_call0 S rfl rfl rfl rfl rfl rfl (checkCt u F (by omega)) rfl ?_)); clear S a; intro v a w hv S; subst hv)
  refine wpl_take S rfl rfl rfl ?_
  (refine wpl_v S rfl rfl rfl (sv_lit (c := false) (sv_pure S rfl) (by simpa using h1)) ?_; clear S a; intro a S)
  first | (refine wpl_v S rfl rfl rfl (sv_pure S rfl) ?_; clear S a; intro a S) | (refine wpl_v S rfl rfl rfl (sv_pickB S rfl rfl rfl rfl) ?_; clear S a; intro a S)
  (refine wpl_v S rfl rfl rfl (sv_pure S rfl) ?_; clear S a; intro a S)
  refine wpl_take S rfl rfl rfl ?_
  (refine wpl_v S rfl rfl rfl (sv_pure S rfl) ?_; clear S a; intro a S)
  refine wpl_take S rfl rfl rfl ?_
  ((first | (refine wpl_call0 S rfl rfl rfl rfl rfl rfl (checkCt s F (by omega)) rfl ?_) | (refine wpl_call0 S rfl rfl rfl rfl rfl rfl (checkCt t F (by omega)) rfl ?_) | (refine wpl_call0 S rfl rfl rfl rfl rfl rfl (checkCt u F (by omega)) rfl ?_)); clear S a; intro v a w hv S; subst hv)
  refine wpl_take S rfl rfl rfl ?_
  (refine wpl_v S rfl rfl rfl (sv_lit (c := true) (sv_pure S rfl) (by simpa using h2)) ?_; clear S a; intro a S)
  first | (refine wpl_v S rfl rfl rfl (sv_pure S rfl) ?_; clear S a; intro a S) | (refine wpl_v S rfl rfl rfl (sv_pickB S rfl rfl rfl rfl) ?_; clear S a; intro a S)
  (refine wpl_v S rfl rfl rfl (sv_pure S rfl) ?_; clear S a; intro a S)
  (refine wpl_skip S rfl rfl rfl rfl rfl ?_; clear S a; intro a S)
  (refine wpl_skip S rfl rfl rfl rfl rfl ?_; clear S a; intro a S)
  (refine wpl_skip S rfl rfl rfl rfl rfl ?_; clear S a; intro a S)
  first | (refine wpl_v S rfl rfl rfl (sv_pure S rfl) ?_; clear S a; intro a S) | (refine wpl_v S rfl rfl rfl (sv_pickB S rfl rfl rfl rfl) ?_; clear S a; intro a S)
  refine wpList_nil ?_
  (refine hKq3 _ _ ?_; try (clear hKq3 Kq3))
  refine wpc_true S rfl ?_
  (refine wp_seq_k ?_; intro Kq4 hKq4)
  refine wp_region_lit ?_
  (refine wpl_call0 S rfl rfl rfl rfl rfl rfl (worksCt F hT) rfl ?_; clear S a; intro v a w hv S; subst hv)
  (refine wpl_v S rfl rfl rfl (sv_pure S rfl) ?_; clear S a; intro a S)
  refine wpList_nil ?_
  (refine hKq4 _ _ ?_; try (clear hKq4 Kq4))
  refine wp_ret ?_
  refine fin_ret S (results1 Tryd.results8 (RV.tmp S rfl)) ?_
  rfl
set_option maxHeartbeats 1000000 in
theorem ringE3 (s t u : List UInt8) (F : Heap) (hT : TabF F) (ha : s.length ≤ 140737488355328) (hb : t.length ≤ 140737488355328) (hc : u.length ≤ 140737488355328) (h1 : checkS s = 0) (h2 : checkS t = 0) (h3 : ¬ checkS u = 0) : Ct Tryd.prog 8 [.string (bs s), .string (bs t), .string (bs u)] F [] (fun _ _ u => u = .bool true) := by
  refine Ct.enter Tryd.func8 rfl Tryd.ntmps8 rfl fun w0 a S => ?_
  (refine wp_seq_k ?_; intro Kq1 hKq1)
  refine wp_region_lit ?_
  (refine wpl_v S rfl rfl rfl (sv_pure S rfl) ?_; clear S a; intro a S)
  refine wpList_nil ?_
  (refine hKq1 _ _ ?_; try (clear hKq1 Kq1))
  (refine wp_seq_k ?_; intro Kq2 hKq2)
  (refine wp_seq_k ?_; intro Kq3 hKq3)
  refine wp_region_lit ?_
  (refine wpl_call0 S rfl rfl rfl rfl rfl rfl (worksCt F hT) rfl ?_; clear S a; intro v a w hv S; subst hv)
  (refine wpl_v S rfl rfl rfl (sv_lit (c := false) (sv_pure S rfl) (by rfl)) ?_; clear S a; intro a S)
  (refine wpl_v S rfl rfl rfl (sv_pure S rfl) ?_; clear S a; intro a S)
  refine wpl_take S rfl rfl rfl ?_
  (refine wpl_v S rfl rfl rfl (sv_pure S rfl) ?_; clear S a; intro a S)
  refine wpl_take S rfl rfl rfl ?_
  ((first | (refine wpl_call0 S rfl rfl rfl rfl rfl rfl (checkCt s F (by omega)) rfl ?_) | (refine wpl_call0 S rfl rfl rfl rfl rfl rfl (checkCt t F (by omega)) rfl ?_) | (refine wpl_call0 S rfl rfl rfl rfl rfl rfl (checkCt u F (by omega)) rfl ?_)); clear S a; intro v a w hv S; subst hv)
  refine wpl_take S rfl rfl rfl ?_
  (refine wpl_v S rfl rfl rfl (sv_lit (c := false) (sv_pure S rfl) (by simpa using h1)) ?_; clear S a; intro a S)
  first | (refine wpl_v S rfl rfl rfl (sv_pure S rfl) ?_; clear S a; intro a S) | (refine wpl_v S rfl rfl rfl (sv_pickB S rfl rfl rfl rfl) ?_; clear S a; intro a S)
  (refine wpl_v S rfl rfl rfl (sv_pure S rfl) ?_; clear S a; intro a S)
  refine wpl_take S rfl rfl rfl ?_
  (refine wpl_v S rfl rfl rfl (sv_pure S rfl) ?_; clear S a; intro a S)
  refine wpl_take S rfl rfl rfl ?_
  ((first | (refine wpl_call0 S rfl rfl rfl rfl rfl rfl (checkCt s F (by omega)) rfl ?_) | (refine wpl_call0 S rfl rfl rfl rfl rfl rfl (checkCt t F (by omega)) rfl ?_) | (refine wpl_call0 S rfl rfl rfl rfl rfl rfl (checkCt u F (by omega)) rfl ?_)); clear S a; intro v a w hv S; subst hv)
  refine wpl_take S rfl rfl rfl ?_
  (refine wpl_v S rfl rfl rfl (sv_lit (c := false) (sv_pure S rfl) (by simpa using h2)) ?_; clear S a; intro a S)
  first | (refine wpl_v S rfl rfl rfl (sv_pure S rfl) ?_; clear S a; intro a S) | (refine wpl_v S rfl rfl rfl (sv_pickB S rfl rfl rfl rfl) ?_; clear S a; intro a S)
  (refine wpl_v S rfl rfl rfl (sv_pure S rfl) ?_; clear S a; intro a S)
  refine wpl_take S rfl rfl rfl ?_
  (refine wpl_v S rfl rfl rfl (sv_pure S rfl) ?_; clear S a; intro a S)
  refine wpl_take S rfl rfl rfl ?_
  ((first | (refine wpl_call0 S rfl rfl rfl rfl rfl rfl (checkCt s F (by omega)) rfl ?_) | (refine wpl_call0 S rfl rfl rfl rfl rfl rfl (checkCt t F (by omega)) rfl ?_) | (refine wpl_call0 S rfl rfl rfl rfl rfl rfl (checkCt u F (by omega)) rfl ?_)); clear S a; intro v a w hv S; subst hv)
  refine wpl_take S rfl rfl rfl ?_
  (refine wpl_v S rfl rfl rfl (sv_lit (c := true) (sv_pure S rfl) (by simpa using h3)) ?_; clear S a; intro a S)
  first | (refine wpl_v S rfl rfl rfl (sv_pure S rfl) ?_; clear S a; intro a S) | (refine wpl_v S rfl rfl rfl (sv_pickB S rfl rfl rfl rfl) ?_; clear S a; intro a S)
  refine wpList_nil ?_
  (refine hKq3 _ _ ?_; try (clear hKq3 Kq3))
  refine wpc_true S rfl ?_
  (refine wp_seq_k ?_; intro Kq4 hKq4)
  refine wp_region_lit ?_
  (refine wpl_call0 S rfl rfl rfl rfl rfl rfl (worksCt F hT) rfl ?_; clear S a; intro v a w hv S; subst hv)
  (refine wpl_v S rfl rfl rfl (sv_pure S rfl) ?_; clear S a; intro a S)
  refine wpList_nil ?_
  (refine hKq4 _ _ ?_; try (clear hKq4 Kq4))
  refine wp_ret ?_
  refine fin_ret S (results1 Tryd.results8 (RV.tmp S rfl)) ?_
  rfl
set_option maxRecDepth 10000 in
set_option maxHeartbeats 8000000 in
theorem ringN1 (s t u : List UInt8) (F : Heap) (hT : TabF F) (h1 : checkS s = 0) (h2 : checkS t = 0) (h3 : checkS u = 0) (hab : ¬ (doA 0 s t).2 = 0) : Ct Tryd.prog 8 [.string (bs s), .string (bs t), .string (bs u)] F [] (fun _ _ u => u = .bool true) := by
  obtain ⟨f1, f2, f3, f4, f5, f6, f7⟩ := ring_facts h1 h2 h3
  have la := len_ok h1
  have lb := len_ok h2
  have lc := len_ok h3
  have ln := len_ok f5
  have cAB := baddCt s t F hT (by omega) (by omega)
  have cBA := baddCt t s F hT (by omega) (by omega)
  have cX := bmulCt s t F hT (by omega) (by omega)
  have cY := bmulCt t s F hT (by omega) (by omega)
  have cBC := baddCt t u F hT (by omega) (by omega)
  have cD := bsubCt s s F hT (by omega) (by omega)
  have cN := bnegCt2 s F hT (by omega)
  have cZ := baddCt s (negB s).1 F hT (by omega) (by omega)
  have cB := bnegCt2 (negB s).1 F hT (by omega)
  rw [f1] at cBA
  rw [f2] at cY
  rw [f4] at cD
  rw [f6] at cZ
  generalize negB (negB s).1 = back at cB f7
  subst f7
  generalize negB back.1 = n at *
  refine Ct.enter Tryd.func8 rfl Tryd.ntmps8 rfl fun w0 a S => ?_
  (refine wp_seq_k ?_; intro Kq1 hKq1)
  refine wp_region_lit ?_
  (refine wpl_v S rfl rfl rfl (sv_pure S rfl) ?_; clear S a; intro a S)
  refine wpList_nil ?_
  (refine hKq1 _ _ ?_; try (clear hKq1 Kq1))
  (refine wp_seq_k ?_; intro Kq2 hKq2)
  (refine wp_seq_k ?_; intro Kq3 hKq3)
  refine wp_region_lit ?_
  (refine wpl_call0 S rfl rfl rfl rfl rfl rfl (worksCt F hT) rfl ?_; clear S a; intro v a w hv S; subst hv)
  (refine wpl_v S rfl rfl rfl (sv_lit (c := false) (sv_pure S rfl) (by rfl)) ?_; clear S a; intro a S)
  (refine wpl_v S rfl rfl rfl (sv_pure S rfl) ?_; clear S a; intro a S)
  refine wpl_take S rfl rfl rfl ?_
  (refine wpl_v S rfl rfl rfl (sv_pure S rfl) ?_; clear S a; intro a S)
  refine wpl_take S rfl rfl rfl ?_
  ((first | (refine wpl_call0 S rfl rfl rfl rfl rfl rfl (checkCt back.1 F (by omega)) rfl ?_) | (refine wpl_call0 S rfl rfl rfl rfl rfl rfl (checkCt t F (by omega)) rfl ?_) | (refine wpl_call0 S rfl rfl rfl rfl rfl rfl (checkCt u F (by omega)) rfl ?_)); clear S a; intro v a w hv S; subst hv)
  refine wpl_take S rfl rfl rfl ?_
  (refine wpl_v S rfl rfl rfl (sv_lit (c := false) (sv_pure S rfl) (by simpa using h1)) ?_; clear S a; intro a S)
  first | (refine wpl_v S rfl rfl rfl (sv_pure S rfl) ?_; clear S a; intro a S) | (refine wpl_v S rfl rfl rfl (sv_pickB S rfl rfl rfl rfl) ?_; clear S a; intro a S)
  (refine wpl_v S rfl rfl rfl (sv_pure S rfl) ?_; clear S a; intro a S)
  refine wpl_take S rfl rfl rfl ?_
  (refine wpl_v S rfl rfl rfl (sv_pure S rfl) ?_; clear S a; intro a S)
  refine wpl_take S rfl rfl rfl ?_
  ((first | (refine wpl_call0 S rfl rfl rfl rfl rfl rfl (checkCt back.1 F (by omega)) rfl ?_) | (refine wpl_call0 S rfl rfl rfl rfl rfl rfl (checkCt t F (by omega)) rfl ?_) | (refine wpl_call0 S rfl rfl rfl rfl rfl rfl (checkCt u F (by omega)) rfl ?_)); clear S a; intro v a w hv S; subst hv)
  refine wpl_take S rfl rfl rfl ?_
  (refine wpl_v S rfl rfl rfl (sv_lit (c := false) (sv_pure S rfl) (by simpa using h2)) ?_; clear S a; intro a S)
  first | (refine wpl_v S rfl rfl rfl (sv_pure S rfl) ?_; clear S a; intro a S) | (refine wpl_v S rfl rfl rfl (sv_pickB S rfl rfl rfl rfl) ?_; clear S a; intro a S)
  (refine wpl_v S rfl rfl rfl (sv_pure S rfl) ?_; clear S a; intro a S)
  refine wpl_take S rfl rfl rfl ?_
  (refine wpl_v S rfl rfl rfl (sv_pure S rfl) ?_; clear S a; intro a S)
  refine wpl_take S rfl rfl rfl ?_
  ((first | (refine wpl_call0 S rfl rfl rfl rfl rfl rfl (checkCt back.1 F (by omega)) rfl ?_) | (refine wpl_call0 S rfl rfl rfl rfl rfl rfl (checkCt t F (by omega)) rfl ?_) | (refine wpl_call0 S rfl rfl rfl rfl rfl rfl (checkCt u F (by omega)) rfl ?_)); clear S a; intro v a w hv S; subst hv)
  refine wpl_take S rfl rfl rfl ?_
  (refine wpl_v S rfl rfl rfl (sv_lit (c := false) (sv_pure S rfl) (by simpa using h3)) ?_; clear S a; intro a S)
  first | (refine wpl_v S rfl rfl rfl (sv_pure S rfl) ?_; clear S a; intro a S) | (refine wpl_v S rfl rfl rfl (sv_pickB S rfl rfl rfl rfl) ?_; clear S a; intro a S)
  refine wpList_nil ?_
  (refine hKq3 _ _ ?_; try (clear hKq3 Kq3))
  refine wpc_false S rfl ?_
  refine wp_skip ?_
  (refine hKq2 _ _ ?_; try (clear hKq2 Kq2))
  (refine wp_seq_k ?_; intro Kq4 hKq4)
  refine wp_region_lit ?_
  (refine wpl_v S rfl rfl rfl (sv_pure S rfl) ?_; clear S a; intro a S)
  (refine wpl_v S rfl rfl rfl (sv_pure S rfl) ?_; clear S a; intro a S)
  ((first | (refine wpl_call0 S rfl rfl rfl rfl rfl rfl (cAB) rfl ?_) | (refine wpl_call0 S rfl rfl rfl rfl rfl rfl (cBA) rfl ?_) | (refine wpl_call0 S rfl rfl rfl rfl rfl rfl (cBC) rfl ?_) | (refine wpl_call0 S rfl rfl rfl rfl rfl rfl (cZ) rfl ?_)); clear S a; intro v a w hv S; subst hv)
  (refine wpl_v S rfl rfl rfl (sv_pure S rfl) ?_; clear S a; intro a S)
  (refine wpl_v S rfl rfl rfl (sv_pure S rfl) ?_; clear S a; intro a S)
  (refine wpl_v S rfl rfl rfl (sv_pure S rfl) ?_; clear S a; intro a S)
  (refine wpl_v S rfl rfl rfl (sv_pure S rfl) ?_; clear S a; intro a S)
  (refine wpl_v S rfl rfl rfl (sv_pure S rfl) ?_; clear S a; intro a S)
  refine wpList_nil ?_
  (refine hKq4 _ _ ?_; try (clear hKq4 Kq4))
  (refine wp_seq_k ?_; intro Kq5 hKq5)
  refine wp_region_lit ?_
  (refine wpl_v S rfl rfl rfl (sv_pure S rfl) ?_; clear S a; intro a S)
  (refine wpl_v S rfl rfl rfl (sv_pure S rfl) ?_; clear S a; intro a S)
  ((first | (refine wpl_call0 S rfl rfl rfl rfl rfl rfl (cAB) rfl ?_) | (refine wpl_call0 S rfl rfl rfl rfl rfl rfl (cBA) rfl ?_) | (refine wpl_call0 S rfl rfl rfl rfl rfl rfl (cBC) rfl ?_) | (refine wpl_call0 S rfl rfl rfl rfl rfl rfl (cZ) rfl ?_)); clear S a; intro v a w hv S; subst hv)
  (refine wpl_v S rfl rfl rfl (sv_pure S rfl) ?_; clear S a; intro a S)
  (refine wpl_v S rfl rfl rfl (sv_pure S rfl) ?_; clear S a; intro a S)
  (refine wpl_v S rfl rfl rfl (sv_pure S rfl) ?_; clear S a; intro a S)
  (refine wpl_v S rfl rfl rfl (sv_pure S rfl) ?_; clear S a; intro a S)
  (refine wpl_v S rfl rfl rfl (sv_pure S rfl) ?_; clear S a; intro a S)
  refine wpList_nil ?_
  (refine hKq5 _ _ ?_; try (clear hKq5 Kq5))
  (refine wp_seq_k ?_; intro Kq6 hKq6)
  refine wp_region_lit ?_
  (refine wpl_v S rfl rfl rfl (sv_pure S rfl) ?_; clear S a; intro a S)
  (refine wpl_v S rfl rfl rfl (sv_pure S rfl) ?_; clear S a; intro a S)
  ((first | (refine wpl_call0 S rfl rfl rfl rfl rfl rfl (cX) rfl ?_) | (refine wpl_call0 S rfl rfl rfl rfl rfl rfl (cY) rfl ?_)); clear S a; intro v a w hv S; subst hv)
  (refine wpl_v S rfl rfl rfl (sv_pure S rfl) ?_; clear S a; intro a S)
  (refine wpl_v S rfl rfl rfl (sv_pure S rfl) ?_; clear S a; intro a S)
  (refine wpl_v S rfl rfl rfl (sv_pure S rfl) ?_; clear S a; intro a S)
  (refine wpl_v S rfl rfl rfl (sv_pure S rfl) ?_; clear S a; intro a S)
  (refine wpl_v S rfl rfl rfl (sv_pure S rfl) ?_; clear S a; intro a S)
  refine wpList_nil ?_
  (refine hKq6 _ _ ?_; try (clear hKq6 Kq6))
  (refine wp_seq_k ?_; intro Kq7 hKq7)
  refine wp_region_lit ?_
  (refine wpl_v S rfl rfl rfl (sv_pure S rfl) ?_; clear S a; intro a S)
  (refine wpl_v S rfl rfl rfl (sv_pure S rfl) ?_; clear S a; intro a S)
  ((first | (refine wpl_call0 S rfl rfl rfl rfl rfl rfl (cX) rfl ?_) | (refine wpl_call0 S rfl rfl rfl rfl rfl rfl (cY) rfl ?_)); clear S a; intro v a w hv S; subst hv)
  (refine wpl_v S rfl rfl rfl (sv_pure S rfl) ?_; clear S a; intro a S)
  (refine wpl_v S rfl rfl rfl (sv_pure S rfl) ?_; clear S a; intro a S)
  (refine wpl_v S rfl rfl rfl (sv_pure S rfl) ?_; clear S a; intro a S)
  (refine wpl_v S rfl rfl rfl (sv_pure S rfl) ?_; clear S a; intro a S)
  (refine wpl_v S rfl rfl rfl (sv_pure S rfl) ?_; clear S a; intro a S)
  refine wpList_nil ?_
  (refine hKq7 _ _ ?_; try (clear hKq7 Kq7))
  (refine wp_seq_k ?_; intro Kq8 hKq8)
  (refine wp_seq_k ?_; intro Kq9 hKq9)
  refine wp_region_lit ?_
  (refine wpl_v S rfl rfl rfl (sv_pure S rfl) ?_; clear S a; intro a S)
  (refine wpl_v S rfl rfl rfl (sv_pure S rfl) ?_; clear S a; intro a S)
  (refine wpl_v S rfl rfl rfl (sv_lit (c := false) (sv_pure S rfl) (by simp)) ?_; clear S a; intro a S)
  (refine wpl_v S rfl rfl rfl (sv_pure S rfl) ?_; clear S a; intro a S)
  refine wpl_take S rfl rfl rfl ?_
  (refine wpl_v S rfl rfl rfl (sv_pure S rfl) ?_; clear S a; intro a S)
  refine wpl_take S rfl rfl rfl ?_
  (refine wpl_v S rfl rfl rfl (sv_pure S rfl) ?_; clear S a; intro a S)
  refine wpl_take S rfl rfl rfl ?_
  (refine wpl_v S rfl rfl rfl (sv_lit (c := false) (sv_pure S rfl) (by simp)) ?_; clear S a; intro a S)
  first | (refine wpl_v S rfl rfl rfl (sv_pure S rfl) ?_; clear S a; intro a S) | (refine wpl_v S rfl rfl rfl (sv_pickB S rfl rfl rfl rfl) ?_; clear S a; intro a S)
  (refine wpl_v S rfl rfl rfl (sv_pure S rfl) ?_; clear S a; intro a S)
  refine wpl_take S rfl rfl rfl ?_
  (refine wpl_v S rfl rfl rfl (sv_pure S rfl) ?_; clear S a; intro a S)
  refine wpl_take S rfl rfl rfl ?_
  (refine wpl_v S rfl rfl rfl (sv_pure S rfl) ?_; clear S a; intro a S)
  refine wpl_take S rfl rfl rfl ?_
  (refine wpl_v S rfl rfl rfl (sv_lit (c := false) (sv_pure S rfl) (by simp)) ?_; clear S a; intro a S)
  first | (refine wpl_v S rfl rfl rfl (sv_pure S rfl) ?_; clear S a; intro a S) | (refine wpl_v S rfl rfl rfl (sv_pickB S rfl rfl rfl rfl) ?_; clear S a; intro a S)
  (refine wpl_v S rfl rfl rfl (sv_pure S rfl) ?_; clear S a; intro a S)
  refine wpl_take S rfl rfl rfl ?_
  (refine wpl_v S rfl rfl rfl (sv_pure S rfl) ?_; clear S a; intro a S)
  refine wpl_take S rfl rfl rfl ?_
  (refine wpl_v S rfl rfl rfl (sv_pure S rfl) ?_; clear S a; intro a S)
  refine wpl_take S rfl rfl rfl ?_
  (refine wpl_v S rfl rfl rfl (sv_lit (c := false) (sv_pure S rfl) (by simp)) ?_; clear S a; intro a S)
  first | (refine wpl_v S rfl rfl rfl (sv_pure S rfl) ?_; clear S a; intro a S) | (refine wpl_v S rfl rfl rfl (sv_pickB S rfl rfl rfl rfl) ?_; clear S a; intro a S)
  refine wpList_nil ?_
  (refine hKq9 _ _ ?_; try (clear hKq9 Kq9))
  refine wpc_false S rfl ?_
  refine wp_skip ?_
  (refine hKq8 _ _ ?_; try (clear hKq8 Kq8))
  (refine wp_seq_k ?_; intro Kq10 hKq10)
  refine wp_region_lit ?_
  (refine wpl_v S rfl rfl rfl (sv_pure S rfl) ?_; clear S a; intro a S)
  (refine wpl_v S rfl rfl rfl (sv_pure S rfl) ?_; clear S a; intro a S)
  ((first | (refine wpl_call0 S rfl rfl rfl rfl rfl rfl (cAB) rfl ?_) | (refine wpl_call0 S rfl rfl rfl rfl rfl rfl (cBA) rfl ?_) | (refine wpl_call0 S rfl rfl rfl rfl rfl rfl (cBC) rfl ?_) | (refine wpl_call0 S rfl rfl rfl rfl rfl rfl (cZ) rfl ?_)); clear S a; intro v a w hv S; subst hv)
  (refine wpl_v S rfl rfl rfl (sv_pure S rfl) ?_; clear S a; intro a S)
  (refine wpl_v S rfl rfl rfl (sv_pure S rfl) ?_; clear S a; intro a S)
  (refine wpl_v S rfl rfl rfl (sv_pure S rfl) ?_; clear S a; intro a S)
  (refine wpl_v S rfl rfl rfl (sv_pure S rfl) ?_; clear S a; intro a S)
  (refine wpl_v S rfl rfl rfl (sv_pure S rfl) ?_; clear S a; intro a S)
  refine wpList_nil ?_
  (refine hKq10 _ _ ?_; try (clear hKq10 Kq10))
  (refine wp_seq_k ?_; intro Kq11 hKq11)
  (refine wp_seq_k ?_; intro Kq12 hKq12)
  refine wp_region_lit ?_
  (refine wpl_v S rfl rfl rfl (sv_pure S rfl) ?_; clear S a; intro a S)
  (refine wpl_v S rfl rfl rfl (sv_lit (c := false) (sv_pure S rfl) (by simpa using hab)) ?_; clear S a; intro a S)
  (refine wpl_v S rfl rfl rfl (sv_pure S rfl) ?_; clear S a; intro a S)
  (refine wpl_skip S rfl rfl rfl rfl rfl ?_; clear S a; intro a S)
  (refine wpl_skip S rfl rfl rfl rfl rfl ?_; clear S a; intro a S)
  first | (refine wpl_v S rfl rfl rfl (sv_pure S rfl) ?_; clear S a; intro a S) | (refine wpl_v S rfl rfl rfl (sv_pickB S rfl rfl rfl rfl) ?_; clear S a; intro a S)
  refine wpList_nil ?_
  (refine hKq12 _ _ ?_; try (clear hKq12 Kq12))
  refine wpc_false S rfl ?_
  refine wp_skip ?_
  (refine hKq11 _ _ ?_; try (clear hKq11 Kq11))
  (refine wp_seq_k ?_; intro Kq13 hKq13)
  refine wp_region_lit ?_
  (refine wpl_v S rfl rfl rfl (sv_pure S rfl) ?_; clear S a; intro a S)
  (refine wpl_v S rfl rfl rfl (sv_pure S rfl) ?_; clear S a; intro a S)
  (refine wpl_call0 S rfl rfl rfl rfl rfl rfl (cD) rfl ?_; clear S a; intro v a w hv S; subst hv)
  (refine wpl_v S rfl rfl rfl (sv_pure S rfl) ?_; clear S a; intro a S)
  (refine wpl_v S rfl rfl rfl (sv_pure S rfl) ?_; clear S a; intro a S)
  (refine wpl_v S rfl rfl rfl (sv_pure S rfl) ?_; clear S a; intro a S)
  (refine wpl_v S rfl rfl rfl (sv_pure S rfl) ?_; clear S a; intro a S)
  (refine wpl_v S rfl rfl rfl (sv_pure S rfl) ?_; clear S a; intro a S)
  refine wpList_nil ?_
  (refine hKq13 _ _ ?_; try (clear hKq13 Kq13))
  (refine wp_seq_k ?_; intro Kq14 hKq14)
  refine wp_region_lit ?_
  (refine wpl_v S rfl rfl rfl (sv_pure S rfl) ?_; clear S a; intro a S)
  ((first | (refine wpl_call0 S rfl rfl rfl rfl rfl rfl (cN) rfl ?_) | (refine wpl_call0 S rfl rfl rfl rfl rfl rfl (cB) rfl ?_)); clear S a; intro v a w hv S; subst hv)
  (refine wpl_v S rfl rfl rfl (sv_pure S rfl) ?_; clear S a; intro a S)
  (refine wpl_v S rfl rfl rfl (sv_pure S rfl) ?_; clear S a; intro a S)
  (refine wpl_v S rfl rfl rfl (sv_pure S rfl) ?_; clear S a; intro a S)
  (refine wpl_v S rfl rfl rfl (sv_pure S rfl) ?_; clear S a; intro a S)
  (refine wpl_v S rfl rfl rfl (sv_pure S rfl) ?_; clear S a; intro a S)
  refine wpList_nil ?_
  (refine hKq14 _ _ ?_; try (clear hKq14 Kq14))
  (refine wp_seq_k ?_; intro Kq15 hKq15)
  refine wp_region_lit ?_
  (refine wpl_v S rfl rfl rfl (sv_pure S rfl) ?_; clear S a; intro a S)
  (refine wpl_v S rfl rfl rfl (sv_pure S rfl) ?_; clear S a; intro a S)
  ((first | (refine wpl_call0 S rfl rfl rfl rfl rfl rfl (cAB) rfl ?_) | (refine wpl_call0 S rfl rfl rfl rfl rfl rfl (cBA) rfl ?_) | (refine wpl_call0 S rfl rfl rfl rfl rfl rfl (cBC) rfl ?_) | (refine wpl_call0 S rfl rfl rfl rfl rfl rfl (cZ) rfl ?_)); clear S a; intro v a w hv S; subst hv)
  (refine wpl_v S rfl rfl rfl (sv_pure S rfl) ?_; clear S a; intro a S)
  (refine wpl_v S rfl rfl rfl (sv_pure S rfl) ?_; clear S a; intro a S)
  (refine wpl_v S rfl rfl rfl (sv_pure S rfl) ?_; clear S a; intro a S)
  (refine wpl_v S rfl rfl rfl (sv_pure S rfl) ?_; clear S a; intro a S)
  (refine wpl_v S rfl rfl rfl (sv_pure S rfl) ?_; clear S a; intro a S)
  refine wpList_nil ?_
  (refine hKq15 _ _ ?_; try (clear hKq15 Kq15))
  (refine wp_seq_k ?_; intro Kq16 hKq16)
  refine wp_region_lit ?_
  (refine wpl_v S rfl rfl rfl (sv_pure S rfl) ?_; clear S a; intro a S)
  ((first | (refine wpl_call0 S rfl rfl rfl rfl rfl rfl (cN) rfl ?_) | (refine wpl_call0 S rfl rfl rfl rfl rfl rfl (cB) rfl ?_)); clear S a; intro v a w hv S; subst hv)
  (refine wpl_v S rfl rfl rfl (sv_pure S rfl) ?_; clear S a; intro a S)
  (refine wpl_v S rfl rfl rfl (sv_pure S rfl) ?_; clear S a; intro a S)
  (refine wpl_v S rfl rfl rfl (sv_pure S rfl) ?_; clear S a; intro a S)
  (refine wpl_v S rfl rfl rfl (sv_pure S rfl) ?_; clear S a; intro a S)
  (refine wpl_v S rfl rfl rfl (sv_pure S rfl) ?_; clear S a; intro a S)
  refine wpList_nil ?_
  (refine hKq16 _ _ ?_; try (clear hKq16 Kq16))
  (refine wp_seq_k ?_; intro Kq17 hKq17)
  refine wp_region_lit ?_
  (refine wpl_v S rfl rfl rfl (sv_pure S rfl) ?_; clear S a; intro a S)
  (refine wpl_v S rfl rfl rfl (sv_lit (c := true) (sv_pure S rfl) (by simp)) ?_; clear S a; intro a S)
  (refine wpl_v S rfl rfl rfl (sv_pure S rfl) ?_; clear S a; intro a S)
  refine wpl_take S rfl rfl rfl ?_
  (refine wpl_v S rfl rfl rfl (sv_pure S rfl) ?_; clear S a; intro a S)
  refine wpl_take S rfl rfl rfl ?_
  (refine wpl_v S rfl rfl rfl (sv_lit (c := true) (sv_pure S rfl) (by simp)) ?_; clear S a; intro a S)
  first | (refine wpl_v S rfl rfl rfl (sv_pure S rfl) ?_; clear S a; intro a S) | (refine wpl_v S rfl rfl rfl (sv_pickB S rfl rfl rfl rfl) ?_; clear S a; intro a S)
  (refine wpl_v S rfl rfl rfl (sv_pure S rfl) ?_; clear S a; intro a S)
  refine wpl_take S rfl rfl rfl ?_
  (refine wpl_v S rfl rfl rfl (sv_pure S rfl) ?_; clear S a; intro a S)
  refine wpl_take S rfl rfl rfl ?_
  (refine wpl_v S rfl rfl rfl (sv_pure S rfl) ?_; clear S a; intro a S)
  refine wpl_take S rfl rfl rfl ?_
  (refine wpl_v S rfl rfl rfl (sv_lit (c := true) (sv_pure S rfl) (by simp)) ?_; clear S a; intro a S)
  first | (refine wpl_v S rfl rfl rfl (sv_pure S rfl) ?_; clear S a; intro a S) | (refine wpl_v S rfl rfl rfl (sv_pickB S rfl rfl rfl rfl) ?_; clear S a; intro a S)
  (refine wpl_v S rfl rfl rfl (sv_pure S rfl) ?_; clear S a; intro a S)
  refine wpList_nil ?_
  (refine hKq17 _ _ ?_; try (clear hKq17 Kq17))
  refine wp_ret ?_
  refine fin_ret S (results1 Tryd.results8 (RV.tmp S rfl)) ?_
  rfl
set_option maxRecDepth 10000 in
set_option maxHeartbeats 8000000 in
theorem ringN2 (s t u : List UInt8) (F : Heap) (hT : TabF F) (h1 : checkS s = 0) (h2 : checkS t = 0) (h3 : checkS u = 0) (hab : (doA 0 s t).2 = 0) (hbc : ¬ (doA 0 t u).2 = 0) : Ct Tryd.prog 8 [.string (bs s), .string (bs t), .string (bs u)] F [] (fun _ _ u => u = .bool true) := by
  obtain ⟨f1, f2, f3, f4, f5, f6, f7⟩ := ring_facts h1 h2 h3
  have la := len_ok h1
  have lb := len_ok h2
  have lc := len_ok h3
  have ln := len_ok f5
  have cAB := baddCt s t F hT (by omega) (by omega)
  have cBA := baddCt t s F hT (by omega) (by omega)
  have cX := bmulCt s t F hT (by omega) (by omega)
  have cY := bmulCt t s F hT (by omega) (by omega)
  have cBC := baddCt t u F hT (by omega) (by omega)
  have cD := bsubCt s s F hT (by omega) (by omega)
  have cN := bnegCt2 s F hT (by omega)
  have cZ := baddCt s (negB s).1 F hT (by omega) (by omega)
  have cB := bnegCt2 (negB s).1 F hT (by omega)
  rw [f1] at cBA
  rw [f2] at cY
  rw [f4] at cD
  rw [f6] at cZ
  generalize negB (negB s).1 = back at cB f7
  subst f7
  generalize negB back.1 = n at *
  refine Ct.enter Tryd.func8 rfl Tryd.ntmps8 rfl fun w0 a S => ?_
  (refine wp_seq_k ?_; intro Kq1 hKq1)
  refine wp_region_lit ?_
  (refine wpl_v S rfl rfl rfl (sv_pure S rfl) ?_; clear S a; intro a S)
  refine wpList_nil ?_
  (refine hKq1 _ _ ?_; try (clear hKq1 Kq1))
  (refine wp_seq_k ?_; intro Kq2 hKq2)
  (refine wp_seq_k ?_; intro Kq3 hKq3)
  refine wp_region_lit ?_
  (refine wpl_call0 S rfl rfl rfl rfl rfl rfl (worksCt F hT) rfl ?_; clear S a; intro v a w hv S; subst hv)
  (refine wpl_v S rfl rfl rfl (sv_lit (c := false) (sv_pure S rfl) (by rfl)) ?_; clear S a; intro a S)
  (refine wpl_v S rfl rfl rfl (sv_pure S rfl) ?_; clear S a; intro a S)
  refine wpl_take S rfl rfl rfl ?_
  (refine wpl_v S rfl rfl rfl (sv_pure S rfl) ?_; clear S a; intro a S)
  refine wpl_take S rfl rfl rfl ?_
  ((first | (refine wpl_call0 S rfl rfl rfl rfl rfl rfl (checkCt back.1 F (by omega)) rfl ?_) | (refine wpl_call0 S rfl rfl rfl rfl rfl rfl (checkCt t F (by omega)) rfl ?_) | (refine wpl_call0 S rfl rfl rfl rfl rfl rfl (checkCt u F (by omega)) rfl ?_)); clear S a; intro v a w hv S; subst hv)
  refine wpl_take S rfl rfl rfl ?_
  (refine wpl_v S rfl rfl rfl (sv_lit (c := false) (sv_pure S rfl) (by simpa using h1)) ?_; clear S a; intro a S)
  first | (refine wpl_v S rfl rfl rfl (sv_pure S rfl) ?_; clear S a; intro a S) | (refine wpl_v S rfl rfl rfl (sv_pickB S rfl rfl rfl rfl) ?_; clear S a; intro a S)
  (refine wpl_v S rfl rfl rfl (sv_pure S rfl) ?_; clear S a; intro a S)
  refine wpl_take S rfl rfl rfl ?_
  (refine wpl_v S rfl rfl rfl (sv_pure S rfl) ?_; clear S a; intro a S)
  refine wpl_take S rfl rfl rfl ?_
  ((first | (refine wpl_call0 S rfl rfl rfl rfl rfl rfl (checkCt back.1 F (by omega)) rfl ?_) | (refine wpl_call0 S rfl rfl rfl rfl rfl rfl (checkCt t F (by omega)) rfl ?_) | (refine wpl_call0 S rfl rfl rfl rfl rfl rfl (checkCt u F (by omega)) rfl ?_)); clear S a; intro v a w hv S; subst hv)
  refine wpl_take S rfl rfl rfl ?_
  (refine wpl_v S rfl rfl rfl (sv_lit (c := false) (sv_pure S rfl) (by simpa using h2)) ?_; clear S a; intro a S)
  first | (refine wpl_v S rfl rfl rfl (sv_pure S rfl) ?_; clear S a; intro a S) | (refine wpl_v S rfl rfl rfl (sv_pickB S rfl rfl rfl rfl) ?_; clear S a; intro a S)
  (refine wpl_v S rfl rfl rfl (sv_pure S rfl) ?_; clear S a; intro a S)
  refine wpl_take S rfl rfl rfl ?_
  (refine wpl_v S rfl rfl rfl (sv_pure S rfl) ?_; clear S a; intro a S)
  refine wpl_take S rfl rfl rfl ?_
  ((first | (refine wpl_call0 S rfl rfl rfl rfl rfl rfl (checkCt back.1 F (by omega)) rfl ?_) | (refine wpl_call0 S rfl rfl rfl rfl rfl rfl (checkCt t F (by omega)) rfl ?_) | (refine wpl_call0 S rfl rfl rfl rfl rfl rfl (checkCt u F (by omega)) rfl ?_)); clear S a; intro v a w hv S; subst hv)
  refine wpl_take S rfl rfl rfl ?_
  (refine wpl_v S rfl rfl rfl (sv_lit (c := false) (sv_pure S rfl) (by simpa using h3)) ?_; clear S a; intro a S)
  first | (refine wpl_v S rfl rfl rfl (sv_pure S rfl) ?_; clear S a; intro a S) | (refine wpl_v S rfl rfl rfl (sv_pickB S rfl rfl rfl rfl) ?_; clear S a; intro a S)
  refine wpList_nil ?_
  (refine hKq3 _ _ ?_; try (clear hKq3 Kq3))
  refine wpc_false S rfl ?_
  refine wp_skip ?_
  (refine hKq2 _ _ ?_; try (clear hKq2 Kq2))
  (refine wp_seq_k ?_; intro Kq4 hKq4)
  refine wp_region_lit ?_
  (refine wpl_v S rfl rfl rfl (sv_pure S rfl) ?_; clear S a; intro a S)
  (refine wpl_v S rfl rfl rfl (sv_pure S rfl) ?_; clear S a; intro a S)
  ((first | (refine wpl_call0 S rfl rfl rfl rfl rfl rfl (cAB) rfl ?_) | (refine wpl_call0 S rfl rfl rfl rfl rfl rfl (cBA) rfl ?_) | (refine wpl_call0 S rfl rfl rfl rfl rfl rfl (cBC) rfl ?_) | (refine wpl_call0 S rfl rfl rfl rfl rfl rfl (cZ) rfl ?_)); clear S a; intro v a w hv S; subst hv)
  (refine wpl_v S rfl rfl rfl (sv_pure S rfl) ?_; clear S a; intro a S)
  (refine wpl_v S rfl rfl rfl (sv_pure S rfl) ?_; clear S a; intro a S)
  (refine wpl_v S rfl rfl rfl (sv_pure S rfl) ?_; clear S a; intro a S)
  (refine wpl_v S rfl rfl rfl (sv_pure S rfl) ?_; clear S a; intro a S)
  (refine wpl_v S rfl rfl rfl (sv_pure S rfl) ?_; clear S a; intro a S)
  refine wpList_nil ?_
  (refine hKq4 _ _ ?_; try (clear hKq4 Kq4))
  (refine wp_seq_k ?_; intro Kq5 hKq5)
  refine wp_region_lit ?_
  (refine wpl_v S rfl rfl rfl (sv_pure S rfl) ?_; clear S a; intro a S)
  (refine wpl_v S rfl rfl rfl (sv_pure S rfl) ?_; clear S a; intro a S)
  ((first | (refine wpl_call0 S rfl rfl rfl rfl rfl rfl (cAB) rfl ?_) | (refine wpl_call0 S rfl rfl rfl rfl rfl rfl (cBA) rfl ?_) | (refine wpl_call0 S rfl rfl rfl rfl rfl rfl (cBC) rfl ?_) | (refine wpl_call0 S rfl rfl rfl rfl rfl rfl (cZ) rfl ?_)); clear S a; intro v a w hv S; subst hv)
  (refine wpl_v S rfl rfl rfl (sv_pure S rfl) ?_; clear S a; intro a S)
  (refine wpl_v S rfl rfl rfl (sv_pure S rfl) ?_; clear S a; intro a S)
  (refine wpl_v S rfl rfl rfl (sv_pure S rfl) ?_; clear S a; intro a S)
  (refine wpl_v S rfl rfl rfl (sv_pure S rfl) ?_; clear S a; intro a S)
  (refine wpl_v S rfl rfl rfl (sv_pure S rfl) ?_; clear S a; intro a S)
  refine wpList_nil ?_
  (refine hKq5 _ _ ?_; try (clear hKq5 Kq5))
  (refine wp_seq_k ?_; intro Kq6 hKq6)
  refine wp_region_lit ?_
  (refine wpl_v S rfl rfl rfl (sv_pure S rfl) ?_; clear S a; intro a S)
  (refine wpl_v S rfl rfl rfl (sv_pure S rfl) ?_; clear S a; intro a S)
  ((first | (refine wpl_call0 S rfl rfl rfl rfl rfl rfl (cX) rfl ?_) | (refine wpl_call0 S rfl rfl rfl rfl rfl rfl (cY) rfl ?_)); clear S a; intro v a w hv S; subst hv)
  (refine wpl_v S rfl rfl rfl (sv_pure S rfl) ?_; clear S a; intro a S)
  (refine wpl_v S rfl rfl rfl (sv_pure S rfl) ?_; clear S a; intro a S)
  (refine wpl_v S rfl rfl rfl (sv_pure S rfl) ?_; clear S a; intro a S)
  (refine wpl_v S rfl rfl rfl (sv_pure S rfl) ?_; clear S a; intro a S)
  (refine wpl_v S rfl rfl rfl (sv_pure S rfl) ?_; clear S a; intro a S)
  refine wpList_nil ?_
  (refine hKq6 _ _ ?_; try (clear hKq6 Kq6))
  (refine wp_seq_k ?_; intro Kq7 hKq7)
  refine wp_region_lit ?_
  (refine wpl_v S rfl rfl rfl (sv_pure S rfl) ?_; clear S a; intro a S)
  (refine wpl_v S rfl rfl rfl (sv_pure S rfl) ?_; clear S a; intro a S)
  ((first | (refine wpl_call0 S rfl rfl rfl rfl rfl rfl (cX) rfl ?_) | (refine wpl_call0 S rfl rfl rfl rfl rfl rfl (cY) rfl ?_)); clear S a; intro v a w hv S; subst hv)
  (refine wpl_v S rfl rfl rfl (sv_pure S rfl) ?_; clear S a; intro a S)
  (refine wpl_v S rfl rfl rfl (sv_pure S rfl) ?_; clear S a; intro a S)
  (refine wpl_v S rfl rfl rfl (sv_pure S rfl) ?_; clear S a; intro a S)
  (refine wpl_v S rfl rfl rfl (sv_pure S rfl) ?_; clear S a; intro a S)
  (refine wpl_v S rfl rfl rfl (sv_pure S rfl) ?_; clear S a; intro a S)
  refine wpList_nil ?_
  (refine hKq7 _ _ ?_; try (clear hKq7 Kq7))
  (refine wp_seq_k ?_; intro Kq8 hKq8)
  (refine wp_seq_k ?_; intro Kq9 hKq9)
  refine wp_region_lit ?_
  (refine wpl_v S rfl rfl rfl (sv_pure S rfl) ?_; clear S a; intro a S)
  (refine wpl_v S rfl rfl rfl (sv_pure S rfl) ?_; clear S a; intro a S)
  (refine wpl_v S rfl rfl rfl (sv_lit (c := false) (sv_pure S rfl) (by simp)) ?_; clear S a; intro a S)
  (refine wpl_v S rfl rfl rfl (sv_pure S rfl) ?_; clear S a; intro a S)
  refine wpl_take S rfl rfl rfl ?_
  (refine wpl_v S rfl rfl rfl (sv_pure S rfl) ?_; clear S a; intro a S)
  refine wpl_take S rfl rfl rfl ?_
  (refine wpl_v S rfl rfl rfl (sv_pure S rfl) ?_; clear S a; intro a S)
  refine wpl_take S rfl rfl rfl ?_
  (refine wpl_v S rfl rfl rfl (sv_lit (c := false) (sv_pure S rfl) (by simp)) ?_; clear S a; intro a S)
  first | (refine wpl_v S rfl rfl rfl (sv_pure S rfl) ?_; clear S a; intro a S) | (refine wpl_v S rfl rfl rfl (sv_pickB S rfl rfl rfl rfl) ?_; clear S a; intro a S)
  (refine wpl_v S rfl rfl rfl (sv_pure S rfl) ?_; clear S a; intro a S)
  refine wpl_take S rfl rfl rfl ?_
  (refine wpl_v S rfl rfl rfl (sv_pure S rfl) ?_; clear S a; intro a S)
  refine wpl_take S rfl rfl rfl ?_
  (refine wpl_v S rfl rfl rfl (sv_pure S rfl) ?_; clear S a; intro a S)
  refine wpl_take S rfl rfl rfl ?_
  (refine wpl_v S rfl rfl rfl (sv_lit (c := false) (sv_pure S rfl) (by simp)) ?_; clear S a; intro a S)
  first | (refine wpl_v S rfl rfl rfl (sv_pure S rfl) ?_; clear S a; intro a S) | (refine wpl_v S rfl rfl rfl (sv_pickB S rfl rfl rfl rfl) ?_; clear S a; intro a S)
  (refine wpl_v S rfl rfl rfl (sv_pure S rfl) ?_; clear S a; intro a S)
  refine wpl_take S rfl rfl rfl ?_
  (refine wpl_v S rfl rfl rfl (sv_pure S rfl) ?_; clear S a; intro a S)
  refine wpl_take S rfl rfl rfl ?_
  (refine wpl_v S rfl rfl rfl (sv_pure S rfl) ?_; clear S a; intro a S)
  refine wpl_take S rfl rfl rfl ?_
  (refine wpl_v S rfl rfl rfl (sv_lit (c := false) (sv_pure S rfl) (by simp)) ?_; clear S a; intro a S)
  first | (refine wpl_v S rfl rfl rfl (sv_pure S rfl) ?_; clear S a; intro a S) | (refine wpl_v S rfl rfl rfl (sv_pickB S rfl rfl rfl rfl) ?_; clear S a; intro a S)
  refine wpList_nil ?_
  (refine hKq9 _ _ ?_; try (clear hKq9 Kq9))
  refine wpc_false S rfl ?_
  refine wp_skip ?_
  (refine hKq8 _ _ ?_; try (clear hKq8 Kq8))
  (refine wp_seq_k ?_; intro Kq10 hKq10)
  refine wp_region_lit ?_
  (refine wpl_v S rfl rfl rfl (sv_pure S rfl) ?_; clear S a; intro a S)
  (refine wpl_v S rfl rfl rfl (sv_pure S rfl) ?_; clear S a; intro a S)
  ((first | (refine wpl_call0 S rfl rfl rfl rfl rfl rfl (cAB) rfl ?_) | (refine wpl_call0 S rfl rfl rfl rfl rfl rfl (cBA) rfl ?_) | (refine wpl_call0 S rfl rfl rfl rfl rfl rfl (cBC) rfl ?_) | (refine wpl_call0 S rfl rfl rfl rfl rfl rfl (cZ) rfl ?_)); clear S a; intro v a w hv S; subst hv)
  (refine wpl_v S rfl rfl rfl (sv_pure S rfl) ?_; clear S a; intro a S)
  (refine wpl_v S rfl rfl rfl (sv_pure S rfl) ?_; clear S a; intro a S)
  (refine wpl_v S rfl rfl rfl (sv_pure S rfl) ?_; clear S a; intro a S)
  (refine wpl_v S rfl rfl rfl (sv_pure S rfl) ?_; clear S a; intro a S)
  (refine wpl_v S rfl rfl rfl (sv_pure S rfl) ?_; clear S a; intro a S)
  refine wpList_nil ?_
  (refine hKq10 _ _ ?_; try (clear hKq10 Kq10))
  (refine wp_seq_k ?_; intro Kq11 hKq11)
  (refine wp_seq_k ?_; intro Kq12 hKq12)
  refine wp_region_lit ?_
  (refine wpl_v S rfl rfl rfl (sv_pure S rfl) ?_; clear S a; intro a S)
  (refine wpl_v S rfl rfl rfl (sv_lit (c := true) (sv_pure S rfl) (by simpa using hab)) ?_; clear S a; intro a S)
  (refine wpl_v S rfl rfl rfl (sv_pure S rfl) ?_; clear S a; intro a S)
  refine wpl_take S rfl rfl rfl ?_
  (refine wpl_v S rfl rfl rfl (sv_pure S rfl) ?_; clear S a; intro a S)
  refine wpl_take S rfl rfl rfl ?_
  (refine wpl_v S rfl rfl rfl (sv_lit (c := false) (sv_pure S rfl) (by simpa using hbc)) ?_; clear S a; intro a S)
  first | (refine wpl_v S rfl rfl rfl (sv_pure S rfl) ?_; clear S a; intro a S) | (refine wpl_v S rfl rfl rfl (sv_pickB S rfl rfl rfl rfl) ?_; clear S a; intro a S)
  refine wpList_nil ?_
  (refine hKq12 _ _ ?_; try (clear hKq12 Kq12))
  refine wpc_false S rfl ?_
  refine wp_skip ?_
  (refine hKq11 _ _ ?_; try (clear hKq11 Kq11))
  (refine wp_seq_k ?_; intro Kq13 hKq13)
  refine wp_region_lit ?_
  (refine wpl_v S rfl rfl rfl (sv_pure S rfl) ?_; clear S a; intro a S)
  (refine wpl_v S rfl rfl rfl (sv_pure S rfl) ?_; clear S a; intro a S)
  (refine wpl_call0 S rfl rfl rfl rfl rfl rfl (cD) rfl ?_; clear S a; intro v a w hv S; subst hv)
  (refine wpl_v S rfl rfl rfl (sv_pure S rfl) ?_; clear S a; intro a S)
  (refine wpl_v S rfl rfl rfl (sv_pure S rfl) ?_; clear S a; intro a S)
  (refine wpl_v S rfl rfl rfl (sv_pure S rfl) ?_; clear S a; intro a S)
  (refine wpl_v S rfl rfl rfl (sv_pure S rfl) ?_; clear S a; intro a S)
  (refine wpl_v S rfl rfl rfl (sv_pure S rfl) ?_; clear S a; intro a S)
  refine wpList_nil ?_
  (refine hKq13 _ _ ?_; try (clear hKq13 Kq13))
  (refine wp_seq_k ?_; intro Kq14 hKq14)
  refine wp_region_lit ?_
  (refine wpl_v S rfl rfl rfl (sv_pure S rfl) ?_; clear S a; intro a S)
  ((first | (refine wpl_call0 S rfl rfl rfl rfl rfl rfl (cN) rfl ?_) | (refine wpl_call0 S rfl rfl rfl rfl rfl rfl (cB) rfl ?_)); clear S a; intro v a w hv S; subst hv)
  (refine wpl_v S rfl rfl rfl (sv_pure S rfl) ?_; clear S a; intro a S)
  (refine wpl_v S rfl rfl rfl (sv_pure S rfl) ?_; clear S a; intro a S)
  (refine wpl_v S rfl rfl rfl (sv_pure S rfl) ?_; clear S a; intro a S)
  (refine wpl_v S rfl rfl rfl (sv_pure S rfl) ?_; clear S a; intro a S)
  (refine wpl_v S rfl rfl rfl (sv_pure S rfl) ?_; clear S a; intro a S)
  refine wpList_nil ?_
  (refine hKq14 _ _ ?_; try (clear hKq14 Kq14))
  (refine wp_seq_k ?_; intro Kq15 hKq15)
  refine wp_region_lit ?_
  (refine wpl_v S rfl rfl rfl (sv_pure S rfl) ?_; clear S a; intro a S)
  (refine wpl_v S rfl rfl rfl (sv_pure S rfl) ?_; clear S a; intro a S)
  ((first | (refine wpl_call0 S rfl rfl rfl rfl rfl rfl (cAB) rfl ?_) | (refine wpl_call0 S rfl rfl rfl rfl rfl rfl (cBA) rfl ?_) | (refine wpl_call0 S rfl rfl rfl rfl rfl rfl (cBC) rfl ?_) | (refine wpl_call0 S rfl rfl rfl rfl rfl rfl (cZ) rfl ?_)); clear S a; intro v a w hv S; subst hv)
  (refine wpl_v S rfl rfl rfl (sv_pure S rfl) ?_; clear S a; intro a S)
  (refine wpl_v S rfl rfl rfl (sv_pure S rfl) ?_; clear S a; intro a S)
  (refine wpl_v S rfl rfl rfl (sv_pure S rfl) ?_; clear S a; intro a S)
  (refine wpl_v S rfl rfl rfl (sv_pure S rfl) ?_; clear S a; intro a S)
  (refine wpl_v S rfl rfl rfl (sv_pure S rfl) ?_; clear S a; intro a S)
  refine wpList_nil ?_
  (refine hKq15 _ _ ?_; try (clear hKq15 Kq15))
  (refine wp_seq_k ?_; intro Kq16 hKq16)
  refine wp_region_lit ?_
  (refine wpl_v S rfl rfl rfl (sv_pure S rfl) ?_; clear S a; intro a S)
  ((first | (refine wpl_call0 S rfl rfl rfl rfl rfl rfl (cN) rfl ?_) | (refine wpl_call0 S rfl rfl rfl rfl rfl rfl (cB) rfl ?_)); clear S a; intro v a w hv S; subst hv)
  (refine wpl_v S rfl rfl rfl (sv_pure S rfl) ?_; clear S a; intro a S)
  (refine wpl_v S rfl rfl rfl (sv_pure S rfl) ?_; clear S a; intro a S)
  (refine wpl_v S rfl rfl rfl (sv_pure S rfl) ?_; clear S a; intro a S)
  (refine wpl_v S rfl rfl rfl (sv_pure S rfl) ?_; clear S a; intro a S)
  (refine wpl_v S rfl rfl rfl (sv_pure S rfl) ?_; clear S a; intro a S)
  refine wpList_nil ?_
  (refine hKq16 _ _ ?_; try (clear hKq16 Kq16))
  (refine wp_seq_k ?_; intro Kq17 hKq17)
  refine wp_region_lit ?_
  (refine wpl_v S rfl rfl rfl (sv_pure S rfl) ?_; clear S a; intro a S)
  (refine wpl_v S rfl rfl rfl (sv_lit (c := true) (sv_pure S rfl) (by simp)) ?_; clear S a; intro a S)
  (refine wpl_v S rfl rfl rfl (sv_pure S rfl) ?_; clear S a; intro a S)
  refine wpl_take S rfl rfl rfl ?_
  (refine wpl_v S rfl rfl rfl (sv_pure S rfl) ?_; clear S a; intro a S)
  refine wpl_take S rfl rfl rfl ?_
  (refine wpl_v S rfl rfl rfl (sv_lit (c := true) (sv_pure S rfl) (by simp)) ?_; clear S a; intro a S)
  first | (refine wpl_v S rfl rfl rfl (sv_pure S rfl) ?_; clear S a; intro a S) | (refine wpl_v S rfl rfl rfl (sv_pickB S rfl rfl rfl rfl) ?_; clear S a; intro a S)
  (refine wpl_v S rfl rfl rfl (sv_pure S rfl) ?_; clear S a; intro a S)
  refine wpl_take S rfl rfl rfl ?_
  (refine wpl_v S rfl rfl rfl (sv_pure S rfl) ?_; clear S a; intro a S)
  refine wpl_take S rfl rfl rfl ?_
  (refine wpl_v S rfl rfl rfl (sv_pure S rfl) ?_; clear S a; intro a S)
  refine wpl_take S rfl rfl rfl ?_
  (refine wpl_v S rfl rfl rfl (sv_lit (c := true) (sv_pure S rfl) (by simp)) ?_; clear S a; intro a S)
  first | (refine wpl_v S rfl rfl rfl (sv_pure S rfl) ?_; clear S a; intro a S) | (refine wpl_v S rfl rfl rfl (sv_pickB S rfl rfl rfl rfl) ?_; clear S a; intro a S)
  (refine wpl_v S rfl rfl rfl (sv_pure S rfl) ?_; clear S a; intro a S)
  refine wpList_nil ?_
  (refine hKq17 _ _ ?_; try (clear hKq17 Kq17))
  refine wp_ret ?_
  refine fin_ret S (results1 Tryd.results8 (RV.tmp S rfl)) ?_
  rfl
set_option maxRecDepth 10000 in
set_option maxHeartbeats 8000000 in
theorem ringY1 (s t u : List UInt8) (F : Heap) (hT : TabF F) (h1 : checkS s = 0) (h2 : checkS t = 0) (h3 : checkS u = 0) (hab : (doA 0 s t).2 = 0) (hbc : (doA 0 t u).2 = 0) (hq : (doA 2 s u).2 = 0) (hs : (doA 2 t u).2 = 0) : Ct Tryd.prog 8 [.string (bs s), .string (bs t), .string (bs u)] F [] (fun _ _ u => u = .bool true) := by
  obtain ⟨f1, f2, f3, f4, f5, f6, f7⟩ := ring_facts h1 h2 h3
  have la := len_ok h1
  have lb := len_ok h2
  have lc := len_ok h3
  have ln := len_ok f5
  have cAB := baddCt s t F hT (by omega) (by omega)
  have cBA := baddCt t s F hT (by omega) (by omega)
  have cX := bmulCt s t F hT (by omega) (by omega)
  have cY := bmulCt t s F hT (by omega) (by omega)
  have cBC := baddCt t u F hT (by omega) (by omega)
  have cD := bsubCt s s F hT (by omega) (by omega)
  have cN := bnegCt2 s F hT (by omega)
  have cZ := baddCt s (negB s).1 F hT (by omega) (by omega)
  have cB := bnegCt2 (negB s).1 F hT (by omega)
  rw [f1] at cBA
  rw [f2] at cY
  rw [f4] at cD
  rw [f6] at cZ
  obtain ⟨g1, g2⟩ := f3 hab hbc
  have l1 := doA_len 0 s t
  have l2 := doA_len 0 t u
  have l3 := doA_len 2 s u
  have l4 := doA_len 2 t u
  have cL := baddCt (doA 0 s t).1 u F hT (by omega) (by omega)
  have cR := baddCt s (doA 0 t u).1 F hT (by omega) (by omega)
  have cP := bmulCt (doA 0 s t).1 u F hT (by omega) (by omega)
  have cQ := bmulCt s u F hT (by omega) (by omega)
  have cS := bmulCt t u F hT (by omega) (by omega)
  have cT := baddCt (doA 2 s u).1 (doA 2 t u).1 F hT (by omega) (by omega)
  rw [g1] at cR
  rw [g2 hq hs] at cT
  generalize negB (negB s).1 = back at cB f7
  subst f7
  generalize negB back.1 = n at *
  refine Ct.enter Tryd.func8 rfl Tryd.ntmps8 rfl fun w0 a S => ?_
  (refine wp_seq_k ?_; intro Kq1 hKq1)
  refine wp_region_lit ?_
  (refine wpl_v S rfl rfl rfl (sv_pure S rfl) ?_; clear S a; intro a S)
  refine wpList_nil ?_
  (refine hKq1 _ _ ?_; try (clear hKq1 Kq1))
  (refine wp_seq_k ?_; intro Kq2 hKq2)
  (refine wp_seq_k ?_; intro Kq3 hKq3)
  refine wp_region_lit ?_
  (refine wpl_call0 S rfl rfl rfl rfl rfl rfl (worksCt F hT) rfl ?_; clear S a; intro v a w hv S; subst hv)
  (refine wpl_v S rfl rfl rfl (sv_lit (c := false) (sv_pure S rfl) (by rfl)) ?_; clear S a; intro a S)
  (refine wpl_v S rfl rfl rfl (sv_pure S rfl) ?_; clear S a; intro a S)
  refine wpl_take S rfl rfl rfl ?_
  (refine wpl_v S rfl rfl rfl (sv_pure S rfl) ?_; clear S a; intro a S)
  refine wpl_take S rfl rfl rfl ?_
  ((first | (refine wpl_call0 S rfl rfl rfl rfl rfl rfl (checkCt back.1 F (by omega)) rfl ?_) | (refine wpl_call0 S rfl rfl rfl rfl rfl rfl (checkCt t F (by omega)) rfl ?_) | (refine wpl_call0 S rfl rfl rfl rfl rfl rfl (checkCt u F (by omega)) rfl ?_)); clear S a; intro v a w hv S; subst hv)
  refine wpl_take S rfl rfl rfl ?_
  (refine wpl_v S rfl rfl rfl (sv_lit (c := false) (sv_pure S rfl) (by simpa using h1)) ?_; clear S a; intro a S)
  first | (refine wpl_v S rfl rfl rfl (sv_pure S rfl) ?_; clear S a; intro a S) | (refine wpl_v S rfl rfl rfl (sv_pickB S rfl rfl rfl rfl) ?_; clear S a; intro a S)
  (refine wpl_v S rfl rfl rfl (sv_pure S rfl) ?_; clear S a; intro a S)
  refine wpl_take S rfl rfl rfl ?_
  (refine wpl_v S rfl rfl rfl (sv_pure S rfl) ?_; clear S a; intro a S)
  refine wpl_take S rfl rfl rfl ?_
  ((first | (refine wpl_call0 S rfl rfl rfl rfl rfl rfl (checkCt back.1 F (by omega)) rfl ?_) | (refine wpl_call0 S rfl rfl rfl rfl rfl rfl (checkCt t F (by omega)) rfl ?_) | (refine wpl_call0 S rfl rfl rfl rfl rfl rfl (checkCt u F (by omega)) rfl ?_)); clear S a; intro v a w hv S; subst hv)
  refine wpl_take S rfl rfl rfl ?_
  (refine wpl_v S rfl rfl rfl (sv_lit (c := false) (sv_pure S rfl) (by simpa using h2)) ?_; clear S a; intro a S)
  first | (refine wpl_v S rfl rfl rfl (sv_pure S rfl) ?_; clear S a; intro a S) | (refine wpl_v S rfl rfl rfl (sv_pickB S rfl rfl rfl rfl) ?_; clear S a; intro a S)
  (refine wpl_v S rfl rfl rfl (sv_pure S rfl) ?_; clear S a; intro a S)
  refine wpl_take S rfl rfl rfl ?_
  (refine wpl_v S rfl rfl rfl (sv_pure S rfl) ?_; clear S a; intro a S)
  refine wpl_take S rfl rfl rfl ?_
  ((first | (refine wpl_call0 S rfl rfl rfl rfl rfl rfl (checkCt back.1 F (by omega)) rfl ?_) | (refine wpl_call0 S rfl rfl rfl rfl rfl rfl (checkCt t F (by omega)) rfl ?_) | (refine wpl_call0 S rfl rfl rfl rfl rfl rfl (checkCt u F (by omega)) rfl ?_)); clear S a; intro v a w hv S; subst hv)
  refine wpl_take S rfl rfl rfl ?_
  (refine wpl_v S rfl rfl rfl (sv_lit (c := false) (sv_pure S rfl) (by simpa using h3)) ?_; clear S a; intro a S)
  first | (refine wpl_v S rfl rfl rfl (sv_pure S rfl) ?_; clear S a; intro a S) | (refine wpl_v S rfl rfl rfl (sv_pickB S rfl rfl rfl rfl) ?_; clear S a; intro a S)
  refine wpList_nil ?_
  (refine hKq3 _ _ ?_; try (clear hKq3 Kq3))
  refine wpc_false S rfl ?_
  refine wp_skip ?_
  (refine hKq2 _ _ ?_; try (clear hKq2 Kq2))
  (refine wp_seq_k ?_; intro Kq4 hKq4)
  refine wp_region_lit ?_
  (refine wpl_v S rfl rfl rfl (sv_pure S rfl) ?_; clear S a; intro a S)
  (refine wpl_v S rfl rfl rfl (sv_pure S rfl) ?_; clear S a; intro a S)
  ((first | (refine wpl_call0 S rfl rfl rfl rfl rfl rfl (cAB) rfl ?_) | (refine wpl_call0 S rfl rfl rfl rfl rfl rfl (cBA) rfl ?_) | (refine wpl_call0 S rfl rfl rfl rfl rfl rfl (cBC) rfl ?_) | (refine wpl_call0 S rfl rfl rfl rfl rfl rfl (cZ) rfl ?_) | (refine wpl_call0 S rfl rfl rfl rfl rfl rfl (cL) rfl ?_) | (refine wpl_call0 S rfl rfl rfl rfl rfl rfl (cR) rfl ?_) | (refine wpl_call0 S rfl rfl rfl rfl rfl rfl (cT) rfl ?_)); clear S a; intro v a w hv S; subst hv)
  (refine wpl_v S rfl rfl rfl (sv_pure S rfl) ?_; clear S a; intro a S)
  (refine wpl_v S rfl rfl rfl (sv_pure S rfl) ?_; clear S a; intro a S)
  (refine wpl_v S rfl rfl rfl (sv_pure S rfl) ?_; clear S a; intro a S)
  (refine wpl_v S rfl rfl rfl (sv_pure S rfl) ?_; clear S a; intro a S)
  (refine wpl_v S rfl rfl rfl (sv_pure S rfl) ?_; clear S a; intro a S)
  refine wpList_nil ?_
  (refine hKq4 _ _ ?_; try (clear hKq4 Kq4))
  (refine wp_seq_k ?_; intro Kq5 hKq5)
  refine wp_region_lit ?_
  (refine wpl_v S rfl rfl rfl (sv_pure S rfl) ?_; clear S a; intro a S)
  (refine wpl_v S rfl rfl rfl (sv_pure S rfl) ?_; clear S a; intro a S)
  ((first | (refine wpl_call0 S rfl rfl rfl rfl rfl rfl (cAB) rfl ?_) | (refine wpl_call0 S rfl rfl rfl rfl rfl rfl (cBA) rfl ?_) | (refine wpl_call0 S rfl rfl rfl rfl rfl rfl (cBC) rfl ?_) | (refine wpl_call0 S rfl rfl rfl rfl rfl rfl (cZ) rfl ?_) | (refine wpl_call0 S rfl rfl rfl rfl rfl rfl (cL) rfl ?_) | (refine wpl_call0 S rfl rfl rfl rfl rfl rfl (cR) rfl ?_) | (refine wpl_call0 S rfl rfl rfl rfl rfl rfl (cT) rfl ?_)); clear S a; intro v a w hv S; subst hv)
  (refine wpl_v S rfl rfl rfl (sv_pure S rfl) ?_; clear S a; intro a S)
  (refine wpl_v S rfl rfl rfl (sv_pure S rfl) ?_; clear S a; intro a S)
  (refine wpl_v S rfl rfl rfl (sv_pure S rfl) ?_; clear S a; intro a S)
  (refine wpl_v S rfl rfl rfl (sv_pure S rfl) ?_; clear S a; intro a S)
  (refine wpl_v S rfl rfl rfl (sv_pure S rfl) ?_; clear S a; intro a S)
  refine wpList_nil ?_
  (refine hKq5 _ _ ?_; try (clear hKq5 Kq5))
  (refine wp_seq_k ?_; intro Kq6 hKq6)
  refine wp_region_lit ?_
  (refine wpl_v S rfl rfl rfl (sv_pure S rfl) ?_; clear S a; intro a S)
  (refine wpl_v S rfl rfl rfl (sv_pure S rfl) ?_; clear S a; intro a S)
  ((first | (refine wpl_call0 S rfl rfl rfl rfl rfl rfl (cX) rfl ?_) | (refine wpl_call0 S rfl rfl rfl rfl rfl rfl (cY) rfl ?_) | (refine wpl_call0 S rfl rfl rfl rfl rfl rfl (cP) rfl ?_) | (refine wpl_call0 S rfl rfl rfl rfl rfl rfl (cQ) rfl ?_) | (refine wpl_call0 S rfl rfl rfl rfl rfl rfl (cS) rfl ?_)); clear S a; intro v a w hv S; subst hv)
  (refine wpl_v S rfl rfl rfl (sv_pure S rfl) ?_; clear S a; intro a S)
  (refine wpl_v S rfl rfl rfl (sv_pure S rfl) ?_; clear S a; intro a S)
  (refine wpl_v S rfl rfl rfl (sv_pure S rfl) ?_; clear S a; intro a S)
  (refine wpl_v S rfl rfl rfl (sv_pure S rfl) ?_; clear S a; intro a S)
  (refine wpl_v S rfl rfl rfl (sv_pure S rfl) ?_; clear S a; intro a S)
  refine wpList_nil ?_
  (refine hKq6 _ _ ?_; try (clear hKq6 Kq6))
  (refine wp_seq_k ?_; intro Kq7 hKq7)
  refine wp_region_lit ?_
  (refine wpl_v S rfl rfl rfl (sv_pure S rfl) ?_; clear S a; intro a S)
  (refine wpl_v S rfl rfl rfl (sv_pure S rfl) ?_; clear S a; intro a S)
  ((first | (refine wpl_call0 S rfl rfl rfl rfl rfl rfl (cX) rfl ?_) | (refine wpl_call0 S rfl rfl rfl rfl rfl rfl (cY) rfl ?_) | (refine wpl_call0 S rfl rfl rfl rfl rfl rfl (cP) rfl ?_) | (refine wpl_call0 S rfl rfl rfl rfl rfl rfl (cQ) rfl ?_) | (refine wpl_call0 S rfl rfl rfl rfl rfl rfl (cS) rfl ?_)); clear S a; intro v a w hv S; subst hv)
  (refine wpl_v S rfl rfl rfl (sv_pure S rfl) ?_; clear S a; intro a S)
  (refine wpl_v S rfl rfl rfl (sv_pure S rfl) ?_; clear S a; intro a S)
  (refine wpl_v S rfl rfl rfl (sv_pure S rfl) ?_; clear S a; intro a S)
  (refine wpl_v S rfl rfl rfl (sv_pure S rfl) ?_; clear S a; intro a S)
  (refine wpl_v S rfl rfl rfl (sv_pure S rfl) ?_; clear S a; intro a S)
  refine wpList_nil ?_
  (refine hKq7 _ _ ?_; try (clear hKq7 Kq7))
  (refine wp_seq_k ?_; intro Kq8 hKq8)
  (refine wp_seq_k ?_; intro Kq9 hKq9)
  refine wp_region_lit ?_
  (refine wpl_v S rfl rfl rfl (sv_pure S rfl) ?_; clear S a; intro a S)
  (refine wpl_v S rfl rfl rfl (sv_pure S rfl) ?_; clear S a; intro a S)
  (refine wpl_v S rfl rfl rfl (sv_lit (c := false) (sv_pure S rfl) (by simp)) ?_; clear S a; intro a S)
  (refine wpl_v S rfl rfl rfl (sv_pure S rfl) ?_; clear S a; intro a S)
  refine wpl_take S rfl rfl rfl ?_
  (refine wpl_v S rfl rfl rfl (sv_pure S rfl) ?_; clear S a; intro a S)
  refine wpl_take S rfl rfl rfl ?_
  (refine wpl_v S rfl rfl rfl (sv_pure S rfl) ?_; clear S a; intro a S)
  refine wpl_take S rfl rfl rfl ?_
  (refine wpl_v S rfl rfl rfl (sv_lit (c := false) (sv_pure S rfl) (by simp)) ?_; clear S a; intro a S)
  first | (refine wpl_v S rfl rfl rfl (sv_pure S rfl) ?_; clear S a; intro a S) | (refine wpl_v S rfl rfl rfl (sv_pickB S rfl rfl rfl rfl) ?_; clear S a; intro a S)
  (refine wpl_v S rfl rfl rfl (sv_pure S rfl) ?_; clear S a; intro a S)
  refine wpl_take S rfl rfl rfl ?_
  (refine wpl_v S rfl rfl rfl (sv_pure S rfl) ?_; clear S a; intro a S)
  refine wpl_take S rfl rfl rfl ?_
  (refine wpl_v S rfl rfl rfl (sv_pure S rfl) ?_; clear S a; intro a S)
  refine wpl_take S rfl rfl rfl ?_
  (refine wpl_v S rfl rfl rfl (sv_lit (c := false) (sv_pure S rfl) (by simp)) ?_; clear S a; intro a S)
  first | (refine wpl_v S rfl rfl rfl (sv_pure S rfl) ?_; clear S a; intro a S) | (refine wpl_v S rfl rfl rfl (sv_pickB S rfl rfl rfl rfl) ?_; clear S a; intro a S)
  (refine wpl_v S rfl rfl rfl (sv_pure S rfl) ?_; clear S a; intro a S)
  refine wpl_take S rfl rfl rfl ?_
  (refine wpl_v S rfl rfl rfl (sv_pure S rfl) ?_; clear S a; intro a S)
  refine wpl_take S rfl rfl rfl ?_
  (refine wpl_v S rfl rfl rfl (sv_pure S rfl) ?_; clear S a; intro a S)
  refine wpl_take S rfl rfl rfl ?_
  (refine wpl_v S rfl rfl rfl (sv_lit (c := false) (sv_pure S rfl) (by simp)) ?_; clear S a; intro a S)
  first | (refine wpl_v S rfl rfl rfl (sv_pure S rfl) ?_; clear S a; intro a S) | (refine wpl_v S rfl rfl rfl (sv_pickB S rfl rfl rfl rfl) ?_; clear S a; intro a S)
  refine wpList_nil ?_
  (refine hKq9 _ _ ?_; try (clear hKq9 Kq9))
  refine wpc_false S rfl ?_
  refine wp_skip ?_
  (refine hKq8 _ _ ?_; try (clear hKq8 Kq8))
  (refine wp_seq_k ?_; intro Kq10 hKq10)
  refine wp_region_lit ?_
  (refine wpl_v S rfl rfl rfl (sv_pure S rfl) ?_; clear S a; intro a S)
  (refine wpl_v S rfl rfl rfl (sv_pure S rfl) ?_; clear S a; intro a S)
  ((first | (refine wpl_call0 S rfl rfl rfl rfl rfl rfl (cAB) rfl ?_) | (refine wpl_call0 S rfl rfl rfl rfl rfl rfl (cBA) rfl ?_) | (refine wpl_call0 S rfl rfl rfl rfl rfl rfl (cBC) rfl ?_) | (refine wpl_call0 S rfl rfl rfl rfl rfl rfl (cZ) rfl ?_) | (refine wpl_call0 S rfl rfl rfl rfl rfl rfl (cL) rfl ?_) | (refine wpl_call0 S rfl rfl rfl rfl rfl rfl (cR) rfl ?_) | (refine wpl_call0 S rfl rfl rfl rfl rfl rfl (cT) rfl ?_)); clear S a; intro v a w hv S; subst hv)
  (refine wpl_v S rfl rfl rfl (sv_pure S rfl) ?_; clear S a; intro a S)
  (refine wpl_v S rfl rfl rfl (sv_pure S rfl) ?_; clear S a; intro a S)
  (refine wpl_v S rfl rfl rfl (sv_pure S rfl) ?_; clear S a; intro a S)
  (refine wpl_v S rfl rfl rfl (sv_pure S rfl) ?_; clear S a; intro a S)
  (refine wpl_v S rfl rfl rfl (sv_pure S rfl) ?_; clear S a; intro a S)
  refine wpList_nil ?_
  (refine hKq10 _ _ ?_; try (clear hKq10 Kq10))
  (refine wp_seq_k ?_; intro Kq11 hKq11)
  (refine wp_seq_k ?_; intro Kq12 hKq12)
  refine wp_region_lit ?_
  (refine wpl_v S rfl rfl rfl (sv_pure S rfl) ?_; clear S a; intro a S)
  (refine wpl_v S rfl rfl rfl (sv_lit (c := true) (sv_pure S rfl) (by simpa using hab)) ?_; clear S a; intro a S)
  (refine wpl_v S rfl rfl rfl (sv_pure S rfl) ?_; clear S a; intro a S)
  refine wpl_take S rfl rfl rfl ?_
  (refine wpl_v S rfl rfl rfl (sv_pure S rfl) ?_; clear S a; intro a S)
  refine wpl_take S rfl rfl rfl ?_
  (refine wpl_v S rfl rfl rfl (sv_lit (c := true) (sv_pure S rfl) (by simpa using hbc)) ?_; clear S a; intro a S)
  first | (refine wpl_v S rfl rfl rfl (sv_pure S rfl) ?_; clear S a; intro a S) | (refine wpl_v S rfl rfl rfl (sv_pickB S rfl rfl rfl rfl) ?_; clear S a; intro a S)
  refine wpList_nil ?_
  (refine hKq12 _ _ ?_; try (clear hKq12 Kq12))
  refine wpc_true S rfl ?_
  (refine wp_seq_k ?_; intro Kq13 hKq13)
  refine wp_region_lit ?_
  (refine wpl_v S rfl rfl rfl (sv_pure S rfl) ?_; clear S a; intro a S)
  (refine wpl_v S rfl rfl rfl (sv_pure S rfl) ?_; clear S a; intro a S)
  ((first | (refine wpl_call0 S rfl rfl rfl rfl rfl rfl (cAB) rfl ?_) | (refine wpl_call0 S rfl rfl rfl rfl rfl rfl (cBA) rfl ?_) | (refine wpl_call0 S rfl rfl rfl rfl rfl rfl (cBC) rfl ?_) | (refine wpl_call0 S rfl rfl rfl rfl rfl rfl (cZ) rfl ?_) | (refine wpl_call0 S rfl rfl rfl rfl rfl rfl (cL) rfl ?_) | (refine wpl_call0 S rfl rfl rfl rfl rfl rfl (cR) rfl ?_) | (refine wpl_call0 S rfl rfl rfl rfl rfl rfl (cT) rfl ?_)); clear S a; intro v a w hv S; subst hv)
  (refine wpl_v S rfl rfl rfl (sv_pure S rfl) ?_; clear S a; intro a S)
  (refine wpl_v S rfl rfl rfl (sv_pure S rfl) ?_; clear S a; intro a S)
  (refine wpl_v S rfl rfl rfl (sv_pure S rfl) ?_; clear S a; intro a S)
  (refine wpl_v S rfl rfl rfl (sv_pure S rfl) ?_; clear S a; intro a S)
  (refine wpl_v S rfl rfl rfl (sv_pure S rfl) ?_; clear S a; intro a S)
  refine wpList_nil ?_
  (refine hKq13 _ _ ?_; try (clear hKq13 Kq13))
  (refine wp_seq_k ?_; intro Kq14 hKq14)
  refine wp_region_lit ?_
  (refine wpl_v S rfl rfl rfl (sv_pure S rfl) ?_; clear S a; intro a S)
  (refine wpl_v S rfl rfl rfl (sv_pure S rfl) ?_; clear S a; intro a S)
  ((first | (refine wpl_call0 S rfl rfl rfl rfl rfl rfl (cAB) rfl ?_) | (refine wpl_call0 S rfl rfl rfl rfl rfl rfl (cBA) rfl ?_) | (refine wpl_call0 S rfl rfl rfl rfl rfl rfl (cBC) rfl ?_) | (refine wpl_call0 S rfl rfl rfl rfl rfl rfl (cZ) rfl ?_) | (refine wpl_call0 S rfl rfl rfl rfl rfl rfl (cL) rfl ?_) | (refine wpl_call0 S rfl rfl rfl rfl rfl rfl (cR) rfl ?_) | (refine wpl_call0 S rfl rfl rfl rfl rfl rfl (cT) rfl ?_)); clear S a; intro v a w hv S; subst hv)
  (refine wpl_v S rfl rfl rfl (sv_pure S rfl) ?_; clear S a; intro a S)
  (refine wpl_v S rfl rfl rfl (sv_pure S rfl) ?_; clear S a; intro a S)
  (refine wpl_v S rfl rfl rfl (sv_pure S rfl) ?_; clear S a; intro a S)
  (refine wpl_v S rfl rfl rfl (sv_pure S rfl) ?_; clear S a; intro a S)
  (refine wpl_v S rfl rfl rfl (sv_pure S rfl) ?_; clear S a; intro a S)
  refine wpList_nil ?_
  (refine hKq14 _ _ ?_; try (clear hKq14 Kq14))
  (refine wp_seq_k ?_; intro Kq15 hKq15)
  refine wp_region_lit ?_
  (refine wpl_v S rfl rfl rfl (sv_pure S rfl) ?_; clear S a; intro a S)
  (refine wpl_v S rfl rfl rfl (sv_pure S rfl) ?_; clear S a; intro a S)
  ((first | (refine wpl_call0 S rfl rfl rfl rfl rfl rfl (cX) rfl ?_) | (refine wpl_call0 S rfl rfl rfl rfl rfl rfl (cY) rfl ?_) | (refine wpl_call0 S rfl rfl rfl rfl rfl rfl (cP) rfl ?_) | (refine wpl_call0 S rfl rfl rfl rfl rfl rfl (cQ) rfl ?_) | (refine wpl_call0 S rfl rfl rfl rfl rfl rfl (cS) rfl ?_)); clear S a; intro v a w hv S; subst hv)
  (refine wpl_v S rfl rfl rfl (sv_pure S rfl) ?_; clear S a; intro a S)
  (refine wpl_v S rfl rfl rfl (sv_pure S rfl) ?_; clear S a; intro a S)
  (refine wpl_v S rfl rfl rfl (sv_pure S rfl) ?_; clear S a; intro a S)
  (refine wpl_v S rfl rfl rfl (sv_pure S rfl) ?_; clear S a; intro a S)
  (refine wpl_v S rfl rfl rfl (sv_pure S rfl) ?_; clear S a; intro a S)
  refine wpList_nil ?_
  (refine hKq15 _ _ ?_; try (clear hKq15 Kq15))
  (refine wp_seq_k ?_; intro Kq16 hKq16)
  refine wp_region_lit ?_
  (refine wpl_v S rfl rfl rfl (sv_pure S rfl) ?_; clear S a; intro a S)
  (refine wpl_v S rfl rfl rfl (sv_pure S rfl) ?_; clear S a; intro a S)
  ((first | (refine wpl_call0 S rfl rfl rfl rfl rfl rfl (cX) rfl ?_) | (refine wpl_call0 S rfl rfl rfl rfl rfl rfl (cY) rfl ?_) | (refine wpl_call0 S rfl rfl rfl rfl rfl rfl (cP) rfl ?_) | (refine wpl_call0 S rfl rfl rfl rfl rfl rfl (cQ) rfl ?_) | (refine wpl_call0 S rfl rfl rfl rfl rfl rfl (cS) rfl ?_)); clear S a; intro v a w hv S; subst hv)
  (refine wpl_v S rfl rfl rfl (sv_pure S rfl) ?_; clear S a; intro a S)
  (refine wpl_v S rfl rfl rfl (sv_pure S rfl) ?_; clear S a; intro a S)
  (refine wpl_v S rfl rfl rfl (sv_pure S rfl) ?_; clear S a; intro a S)
  (refine wpl_v S rfl rfl rfl (sv_pure S rfl) ?_; clear S a; intro a S)
  (refine wpl_v S rfl rfl rfl (sv_pure S rfl) ?_; clear S a; intro a S)
  refine wpList_nil ?_
  (refine hKq16 _ _ ?_; try (clear hKq16 Kq16))
  (refine wp_seq_k ?_; intro Kq17 hKq17)
  refine wp_region_lit ?_
  (refine wpl_v S rfl rfl rfl (sv_pure S rfl) ?_; clear S a; intro a S)
  (refine wpl_v S rfl rfl rfl (sv_pure S rfl) ?_; clear S a; intro a S)
  ((first | (refine wpl_call0 S rfl rfl rfl rfl rfl rfl (cX) rfl ?_) | (refine wpl_call0 S rfl rfl rfl rfl rfl rfl (cY) rfl ?_) | (refine wpl_call0 S rfl rfl rfl rfl rfl rfl (cP) rfl ?_) | (refine wpl_call0 S rfl rfl rfl rfl rfl rfl (cQ) rfl ?_) | (refine wpl_call0 S rfl rfl rfl rfl rfl rfl (cS) rfl ?_)); clear S a; intro v a w hv S; subst hv)
  (refine wpl_v S rfl rfl rfl (sv_pure S rfl) ?_; clear S a; intro a S)
  (refine wpl_v S rfl rfl rfl (sv_pure S rfl) ?_; clear S a; intro a S)
  (refine wpl_v S rfl rfl rfl (sv_pure S rfl) ?_; clear S a; intro a S)
  (refine wpl_v S rfl rfl rfl (sv_pure S rfl) ?_; clear S a; intro a S)
  (refine wpl_v S rfl rfl rfl (sv_pure S rfl) ?_; clear S a; intro a S)
  refine wpList_nil ?_
  (refine hKq17 _ _ ?_; try (clear hKq17 Kq17))
  (refine wp_seq_k ?_; intro Kq18 hKq18)
  refine wp_region_lit ?_
  (refine wpl_v S rfl rfl rfl (sv_pure S rfl) ?_; clear S a; intro a S)
  (refine wpl_v S rfl rfl rfl (sv_pure S rfl) ?_; clear S a; intro a S)
  ((first | (refine wpl_call0 S rfl rfl rfl rfl rfl rfl (cAB) rfl ?_) | (refine wpl_call0 S rfl rfl rfl rfl rfl rfl (cBA) rfl ?_) | (refine wpl_call0 S rfl rfl rfl rfl rfl rfl (cBC) rfl ?_) | (refine wpl_call0 S rfl rfl rfl rfl rfl rfl (cZ) rfl ?_) | (refine wpl_call0 S rfl rfl rfl rfl rfl rfl (cL) rfl ?_) | (refine wpl_call0 S rfl rfl rfl rfl rfl rfl (cR) rfl ?_) | (refine wpl_call0 S rfl rfl rfl rfl rfl rfl (cT) rfl ?_)); clear S a; intro v a w hv S; subst hv)
  (refine wpl_v S rfl rfl rfl (sv_pure S rfl) ?_; clear S a; intro a S)
  (refine wpl_v S rfl rfl rfl (sv_pure S rfl) ?_; clear S a; intro a S)
  (refine wpl_v S rfl rfl rfl (sv_pure S rfl) ?_; clear S a; intro a S)
  (refine wpl_v S rfl rfl rfl (sv_pure S rfl) ?_; clear S a; intro a S)
  (refine wpl_v S rfl rfl rfl (sv_pure S rfl) ?_; clear S a; intro a S)
  refine wpList_nil ?_
  (refine hKq18 _ _ ?_; try (clear hKq18 Kq18))
  (refine wp_seq_k ?_; intro Kq19 hKq19)
  (refine wp_seq_k ?_; intro Kq20 hKq20)
  refine wp_region_lit ?_
  (refine wpl_v S rfl rfl rfl (sv_pure S rfl) ?_; clear S a; intro a S)
  (refine wpl_v S rfl rfl rfl (sv_lit (c := false) (sv_pure S rfl) (by simpa using hq)) ?_; clear S a; intro a S)
  (refine wpl_v S rfl rfl rfl (sv_pure S rfl) ?_; clear S a; intro a S)
  refine wpl_take S rfl rfl rfl ?_
  (refine wpl_v S rfl rfl rfl (sv_pure S rfl) ?_; clear S a; intro a S)
  refine wpl_take S rfl rfl rfl ?_
  (refine wpl_v S rfl rfl rfl (sv_lit (c := false) (sv_pure S rfl) (by simpa using hs)) ?_; clear S a; intro a S)
  first | (refine wpl_v S rfl rfl rfl (sv_pure S rfl) ?_; clear S a; intro a S) | (refine wpl_v S rfl rfl rfl (sv_pickB S rfl rfl rfl rfl) ?_; clear S a; intro a S)
  refine wpList_nil ?_
  (refine hKq20 _ _ ?_; try (clear hKq20 Kq20))
  refine wpc_false S rfl ?_
  refine wp_skip ?_
  (refine hKq19 _ _ ?_; try (clear hKq19 Kq19))
  (refine wp_seq_k ?_; intro Kq21 hKq21)
  refine wp_region_lit ?_
  (refine wpl_v S rfl rfl rfl (sv_pure S rfl) ?_; clear S a; intro a S)
  (refine wpl_v S rfl rfl rfl (sv_pure S rfl) ?_; clear S a; intro a S)
  (refine wpl_v S rfl rfl rfl (sv_lit (c := false) (sv_pure S rfl) (by simp)) ?_; clear S a; intro a S)
  (refine wpl_v S rfl rfl rfl (sv_pure S rfl) ?_; clear S a; intro a S)
  refine wpl_take S rfl rfl rfl ?_
  (refine wpl_v S rfl rfl rfl (sv_pure S rfl) ?_; clear S a; intro a S)
  refine wpl_take S rfl rfl rfl ?_
  (refine wpl_v S rfl rfl rfl (sv_pure S rfl) ?_; clear S a; intro a S)
  refine wpl_take S rfl rfl rfl ?_
  (refine wpl_v S rfl rfl rfl (sv_lit (c := false) (sv_pure S rfl) (by simp)) ?_; clear S a; intro a S)
  first | (refine wpl_v S rfl rfl rfl (sv_pure S rfl) ?_; clear S a; intro a S) | (refine wpl_v S rfl rfl rfl (sv_pickB S rfl rfl rfl rfl) ?_; clear S a; intro a S)
  (refine wpl_v S rfl rfl rfl (sv_pure S rfl) ?_; clear S a; intro a S)
  refine wpl_take S rfl rfl rfl ?_
  (refine wpl_v S rfl rfl rfl (sv_pure S rfl) ?_; clear S a; intro a S)
  refine wpl_take S rfl rfl rfl ?_
  (refine wpl_v S rfl rfl rfl (sv_pure S rfl) ?_; clear S a; intro a S)
  refine wpl_take S rfl rfl rfl ?_
  (refine wpl_v S rfl rfl rfl (sv_pure S rfl) ?_; clear S a; intro a S)
  refine wpl_take S rfl rfl rfl ?_
  (refine wpl_v S rfl rfl rfl (sv_pure S rfl) ?_; clear S a; intro a S)
  refine wpl_take S rfl rfl rfl ?_
  (refine wpl_call0 S rfl rfl rfl rfl rfl rfl (sameCt _ _ _ _ F (by simp [sameB])) rfl ?_; clear S a; intro v a w hv S; subst hv)
  refine wpl_take S rfl rfl rfl ?_
  (refine wpl_v S rfl rfl rfl (sv_lit (c := false) (sv_pure S rfl) (by rfl)) ?_; clear S a; intro a S)
  first | (refine wpl_v S rfl rfl rfl (sv_pure S rfl) ?_; clear S a; intro a S) | (refine wpl_v S rfl rfl rfl (sv_pickB S rfl rfl rfl rfl) ?_; clear S a; intro a S)
  refine wpList_nil ?_
  (refine hKq21 _ _ ?_; try (clear hKq21 Kq21))
  refine wpc_false S rfl ?_
  refine wp_skip ?_
  (refine hKq11 _ _ ?_; try (clear hKq11 Kq11))
  (refine wp_seq_k ?_; intro Kq22 hKq22)
  refine wp_region_lit ?_
  (refine wpl_v S rfl rfl rfl (sv_pure S rfl) ?_; clear S a; intro a S)
  (refine wpl_v S rfl rfl rfl (sv_pure S rfl) ?_; clear S a; intro a S)
  (refine wpl_call0 S rfl rfl rfl rfl rfl rfl (cD) rfl ?_; clear S a; intro v a w hv S; subst hv)
  (refine wpl_v S rfl rfl rfl (sv_pure S rfl) ?_; clear S a; intro a S)
  (refine wpl_v S rfl rfl rfl (sv_pure S rfl) ?_; clear S a; intro a S)
  (refine wpl_v S rfl rfl rfl (sv_pure S rfl) ?_; clear S a; intro a S)
  (refine wpl_v S rfl rfl rfl (sv_pure S rfl) ?_; clear S a; intro a S)
  (refine wpl_v S rfl rfl rfl (sv_pure S rfl) ?_; clear S a; intro a S)
  refine wpList_nil ?_
  (refine hKq22 _ _ ?_; try (clear hKq22 Kq22))
  (refine wp_seq_k ?_; intro Kq23 hKq23)
  refine wp_region_lit ?_
  (refine wpl_v S rfl rfl rfl (sv_pure S rfl) ?_; clear S a; intro a S)
  ((first | (refine wpl_call0 S rfl rfl rfl rfl rfl rfl (cN) rfl ?_) | (refine wpl_call0 S rfl rfl rfl rfl rfl rfl (cB) rfl ?_)); clear S a; intro v a w hv S; subst hv)
  (refine wpl_v S rfl rfl rfl (sv_pure S rfl) ?_; clear S a; intro a S)
  (refine wpl_v S rfl rfl rfl (sv_pure S rfl) ?_; clear S a; intro a S)
  (refine wpl_v S rfl rfl rfl (sv_pure S rfl) ?_; clear S a; intro a S)
  (refine wpl_v S rfl rfl rfl (sv_pure S rfl) ?_; clear S a; intro a S)
  (refine wpl_v S rfl rfl rfl (sv_pure S rfl) ?_; clear S a; intro a S)
  refine wpList_nil ?_
  (refine hKq23 _ _ ?_; try (clear hKq23 Kq23))
  (refine wp_seq_k ?_; intro Kq24 hKq24)
  refine wp_region_lit ?_
  (refine wpl_v S rfl rfl rfl (sv_pure S rfl) ?_; clear S a; intro a S)
  (refine wpl_v S rfl rfl rfl (sv_pure S rfl) ?_; clear S a; intro a S)
  ((first | (refine wpl_call0 S rfl rfl rfl rfl rfl rfl (cAB) rfl ?_) | (refine wpl_call0 S rfl rfl rfl rfl rfl rfl (cBA) rfl ?_) | (refine wpl_call0 S rfl rfl rfl rfl rfl rfl (cBC) rfl ?_) | (refine wpl_call0 S rfl rfl rfl rfl rfl rfl (cZ) rfl ?_) | (refine wpl_call0 S rfl rfl rfl rfl rfl rfl (cL) rfl ?_) | (refine wpl_call0 S rfl rfl rfl rfl rfl rfl (cR) rfl ?_) | (refine wpl_call0 S rfl rfl rfl rfl rfl rfl (cT) rfl ?_)); clear S a; intro v a w hv S; subst hv)
  (refine wpl_v S rfl rfl rfl (sv_pure S rfl) ?_; clear S a; intro a S)
  (refine wpl_v S rfl rfl rfl (sv_pure S rfl) ?_; clear S a; intro a S)
  (refine wpl_v S rfl rfl rfl (sv_pure S rfl) ?_; clear S a; intro a S)
  (refine wpl_v S rfl rfl rfl (sv_pure S rfl) ?_; clear S a; intro a S)
  (refine wpl_v S rfl rfl rfl (sv_pure S rfl) ?_; clear S a; intro a S)
  refine wpList_nil ?_
  (refine hKq24 _ _ ?_; try (clear hKq24 Kq24))
  (refine wp_seq_k ?_; intro Kq25 hKq25)
  refine wp_region_lit ?_
  (refine wpl_v S rfl rfl rfl (sv_pure S rfl) ?_; clear S a; intro a S)
  ((first | (refine wpl_call0 S rfl rfl rfl rfl rfl rfl (cN) rfl ?_) | (refine wpl_call0 S rfl rfl rfl rfl rfl rfl (cB) rfl ?_)); clear S a; intro v a w hv S; subst hv)
  (refine wpl_v S rfl rfl rfl (sv_pure S rfl) ?_; clear S a; intro a S)
  (refine wpl_v S rfl rfl rfl (sv_pure S rfl) ?_; clear S a; intro a S)
  (refine wpl_v S rfl rfl rfl (sv_pure S rfl) ?_; clear S a; intro a S)
  (refine wpl_v S rfl rfl rfl (sv_pure S rfl) ?_; clear S a; intro a S)
  (refine wpl_v S rfl rfl rfl (sv_pure S rfl) ?_; clear S a; intro a S)
  refine wpList_nil ?_
  (refine hKq25 _ _ ?_; try (clear hKq25 Kq25))
  (refine wp_seq_k ?_; intro Kq26 hKq26)
  refine wp_region_lit ?_
  (refine wpl_v S rfl rfl rfl (sv_pure S rfl) ?_; clear S a; intro a S)
  (refine wpl_v S rfl rfl rfl (sv_lit (c := true) (sv_pure S rfl) (by simp)) ?_; clear S a; intro a S)
  (refine wpl_v S rfl rfl rfl (sv_pure S rfl) ?_; clear S a; intro a S)
  refine wpl_take S rfl rfl rfl ?_
  (refine wpl_v S rfl rfl rfl (sv_pure S rfl) ?_; clear S a; intro a S)
  refine wpl_take S rfl rfl rfl ?_
  (refine wpl_v S rfl rfl rfl (sv_lit (c := true) (sv_pure S rfl) (by simp)) ?_; clear S a; intro a S)
  first | (refine wpl_v S rfl rfl rfl (sv_pure S rfl) ?_; clear S a; intro a S) | (refine wpl_v S rfl rfl rfl (sv_pickB S rfl rfl rfl rfl) ?_; clear S a; intro a S)
  (refine wpl_v S rfl rfl rfl (sv_pure S rfl) ?_; clear S a; intro a S)
  refine wpl_take S rfl rfl rfl ?_
  (refine wpl_v S rfl rfl rfl (sv_pure S rfl) ?_; clear S a; intro a S)
  refine wpl_take S rfl rfl rfl ?_
  (refine wpl_v S rfl rfl rfl (sv_pure S rfl) ?_; clear S a; intro a S)
  refine wpl_take S rfl rfl rfl ?_
  (refine wpl_v S rfl rfl rfl (sv_lit (c := true) (sv_pure S rfl) (by simp)) ?_; clear S a; intro a S)
  first | (refine wpl_v S rfl rfl rfl (sv_pure S rfl) ?_; clear S a; intro a S) | (refine wpl_v S rfl rfl rfl (sv_pickB S rfl rfl rfl rfl) ?_; clear S a; intro a S)
  (refine wpl_v S rfl rfl rfl (sv_pure S rfl) ?_; clear S a; intro a S)
  refine wpList_nil ?_
  (refine hKq26 _ _ ?_; try (clear hKq26 Kq26))
  refine wp_ret ?_
  refine fin_ret S (results1 Tryd.results8 (RV.tmp S rfl)) ?_
  rfl
set_option maxRecDepth 10000 in
set_option maxHeartbeats 8000000 in
theorem ringY2 (s t u : List UInt8) (F : Heap) (hT : TabF F) (h1 : checkS s = 0) (h2 : checkS t = 0) (h3 : checkS u = 0) (hab : (doA 0 s t).2 = 0) (hbc : (doA 0 t u).2 = 0) (hq : ¬ (doA 2 s u).2 = 0) : Ct Tryd.prog 8 [.string (bs s), .string (bs t), .string (bs u)] F [] (fun _ _ u => u = .bool true) := by
  obtain ⟨f1, f2, f3, f4, f5, f6, f7⟩ := ring_facts h1 h2 h3
  have la := len_ok h1
  have lb := len_ok h2
  have lc := len_ok h3
  have ln := len_ok f5
  have cAB := baddCt s t F hT (by omega) (by omega)
  have cBA := baddCt t s F hT (by omega) (by omega)
  have cX := bmulCt s t F hT (by omega) (by omega)
  have cY := bmulCt t s F hT (by omega) (by omega)
  have cBC := baddCt t u F hT (by omega) (by omega)
  have cD := bsubCt s s F hT (by omega) (by omega)
  have cN := bnegCt2 s F hT (by omega)
  have cZ := baddCt s (negB s).1 F hT (by omega) (by omega)
  have cB := bnegCt2 (negB s).1 F hT (by omega)
  rw [f1] at cBA
  rw [f2] at cY
  rw [f4] at cD
  rw [f6] at cZ
  obtain ⟨g1, g2⟩ := f3 hab hbc
  have l1 := doA_len 0 s t
  have l2 := doA_len 0 t u
  have l3 := doA_len 2 s u
  have l4 := doA_len 2 t u
  have cL := baddCt (doA 0 s t).1 u F hT (by omega) (by omega)
  have cR := baddCt s (doA 0 t u).1 F hT (by omega) (by omega)
  have cP := bmulCt (doA 0 s t).1 u F hT (by omega) (by omega)
  have cQ := bmulCt s u F hT (by omega) (by omega)
  have cS := bmulCt t u F hT (by omega) (by omega)
  have cT := baddCt (doA 2 s u).1 (doA 2 t u).1 F hT (by omega) (by omega)
  rw [g1] at cR
  generalize negB (negB s).1 = back at cB f7
  subst f7
  generalize negB back.1 = n at *
  refine Ct.enter Tryd.func8 rfl Tryd.ntmps8 rfl fun w0 a S => ?_
  (refine wp_seq_k ?_; intro Kq1 hKq1)
  refine wp_region_lit ?_
  (refine wpl_v S rfl rfl rfl (sv_pure S rfl) ?_; clear S a; intro a S)
  refine wpList_nil ?_
  (refine hKq1 _ _ ?_; try (clear hKq1 Kq1))
  (refine wp_seq_k ?_; intro Kq2 hKq2)
  (refine wp_seq_k ?_; intro Kq3 hKq3)
  refine wp_region_lit ?_
  (refine wpl_call0 S rfl rfl rfl rfl rfl rfl (worksCt F hT) rfl ?_; clear S a; intro v a w hv S; subst hv)
  (refine wpl_v S rfl rfl rfl (sv_lit (c := false) (sv_pure S rfl) (by rfl)) ?_; clear S a; intro a S)
  (refine wpl_v S rfl rfl rfl (sv_pure S rfl) ?_; clear S a; intro a S)
  refine wpl_take S rfl rfl rfl ?_
  (refine wpl_v S rfl rfl rfl (sv_pure S rfl) ?_; clear S a; intro a S)
  refine wpl_take S rfl rfl rfl ?_
  ((first | (refine wpl_call0 S rfl rfl rfl rfl rfl rfl (checkCt back.1 F (by omega)) rfl ?_) | (refine wpl_call0 S rfl rfl rfl rfl rfl rfl (checkCt t F (by omega)) rfl ?_) | (refine wpl_call0 S rfl rfl rfl rfl rfl rfl (checkCt u F (by omega)) rfl ?_)); clear S a; intro v a w hv S; subst hv)
  refine wpl_take S rfl rfl rfl ?_
  (refine wpl_v S rfl rfl rfl (sv_lit (c := false) (sv_pure S rfl) (by simpa using h1)) ?_; clear S a; intro a S)
  first | (refine wpl_v S rfl rfl rfl (sv_pure S rfl) ?_; clear S a; intro a S) | (refine wpl_v S rfl rfl rfl (sv_pickB S rfl rfl rfl rfl) ?_; clear S a; intro a S)
  (refine wpl_v S rfl rfl rfl (sv_pure S rfl) ?_; clear S a; intro a S)
  refine wpl_take S rfl rfl rfl ?_
  (refine wpl_v S rfl rfl rfl (sv_pure S rfl) ?_; clear S a; intro a S)
  refine wpl_take S rfl rfl rfl ?_
  ((first | (refine wpl_call0 S rfl rfl rfl rfl rfl rfl (checkCt back.1 F (by omega)) rfl ?_) | (refine wpl_call0 S rfl rfl rfl rfl rfl rfl (checkCt t F (by omega)) rfl ?_) | (refine wpl_call0 S rfl rfl rfl rfl rfl rfl (checkCt u F (by omega)) rfl ?_)); clear S a; intro v a w hv S; subst hv)
  refine wpl_take S rfl rfl rfl ?_
  (refine wpl_v S rfl rfl rfl (sv_lit (c := false) (sv_pure S rfl) (by simpa using h2)) ?_; clear S a; intro a S)
  first | (refine wpl_v S rfl rfl rfl (sv_pure S rfl) ?_; clear S a; intro a S) | (refine wpl_v S rfl rfl rfl (sv_pickB S rfl rfl rfl rfl) ?_; clear S a; intro a S)
  (refine wpl_v S rfl rfl rfl (sv_pure S rfl) ?_; clear S a; intro a S)
  refine wpl_take S rfl rfl rfl ?_
  (refine wpl_v S rfl rfl rfl (sv_pure S rfl) ?_; clear S a; intro a S)
  refine wpl_take S rfl rfl rfl ?_
  ((first | (refine wpl_call0 S rfl rfl rfl rfl rfl rfl (checkCt back.1 F (by omega)) rfl ?_) | (refine wpl_call0 S rfl rfl rfl rfl rfl rfl (checkCt t F (by omega)) rfl ?_) | (refine wpl_call0 S rfl rfl rfl rfl rfl rfl (checkCt u F (by omega)) rfl ?_)); clear S a; intro v a w hv S; subst hv)
  refine wpl_take S rfl rfl rfl ?_
  (refine wpl_v S rfl rfl rfl (sv_lit (c := false) (sv_pure S rfl) (by simpa using h3)) ?_; clear S a; intro a S)
  first | (refine wpl_v S rfl rfl rfl (sv_pure S rfl) ?_; clear S a; intro a S) | (refine wpl_v S rfl rfl rfl (sv_pickB S rfl rfl rfl rfl) ?_; clear S a; intro a S)
  refine wpList_nil ?_
  (refine hKq3 _ _ ?_; try (clear hKq3 Kq3))
  refine wpc_false S rfl ?_
  refine wp_skip ?_
  (refine hKq2 _ _ ?_; try (clear hKq2 Kq2))
  (refine wp_seq_k ?_; intro Kq4 hKq4)
  refine wp_region_lit ?_
  (refine wpl_v S rfl rfl rfl (sv_pure S rfl) ?_; clear S a; intro a S)
  (refine wpl_v S rfl rfl rfl (sv_pure S rfl) ?_; clear S a; intro a S)
  ((first | (refine wpl_call0 S rfl rfl rfl rfl rfl rfl (cAB) rfl ?_) | (refine wpl_call0 S rfl rfl rfl rfl rfl rfl (cBA) rfl ?_) | (refine wpl_call0 S rfl rfl rfl rfl rfl rfl (cBC) rfl ?_) | (refine wpl_call0 S rfl rfl rfl rfl rfl rfl (cZ) rfl ?_) | (refine wpl_call0 S rfl rfl rfl rfl rfl rfl (cL) rfl ?_) | (refine wpl_call0 S rfl rfl rfl rfl rfl rfl (cR) rfl ?_) | (refine wpl_call0 S rfl rfl rfl rfl rfl rfl (cT) rfl ?_)); clear S a; intro v a w hv S; subst hv)
  (refine wpl_v S rfl rfl rfl (sv_pure S rfl) ?_; clear S a; intro a S)
  (refine wpl_v S rfl rfl rfl (sv_pure S rfl) ?_; clear S a; intro a S)
  (refine wpl_v S rfl rfl rfl (sv_pure S rfl) ?_; clear S a; intro a S)
  (refine wpl_v S rfl rfl rfl (sv_pure S rfl) ?_; clear S a; intro a S)
  (refine wpl_v S rfl rfl rfl (sv_pure S rfl) ?_; clear S a; intro a S)
  refine wpList_nil ?_
  (refine hKq4 _ _ ?_; try (clear hKq4 Kq4))
  (refine wp_seq_k ?_; intro Kq5 hKq5)
  refine wp_region_lit ?_
  (refine wpl_v S rfl rfl rfl (sv_pure S rfl) ?_; clear S a; intro a S)
  (refine wpl_v S rfl rfl rfl (sv_pure S rfl) ?_; clear S a; intro a S)
  ((first | (refine wpl_call0 S rfl rfl rfl rfl rfl rfl (cAB) rfl ?_) | (refine wpl_call0 S rfl rfl rfl rfl rfl rfl (cBA) rfl ?_) | (refine wpl_call0 S rfl rfl rfl rfl rfl rfl (cBC) rfl ?_) | (refine wpl_call0 S rfl rfl rfl rfl rfl rfl (cZ) rfl ?_) | (refine wpl_call0 S rfl rfl rfl rfl rfl rfl (cL) rfl ?_) | (refine wpl_call0 S rfl rfl rfl rfl rfl rfl (cR) rfl ?_) | (refine wpl_call0 S rfl rfl rfl rfl rfl rfl (cT) rfl ?_)); clear S a; intro v a w hv S; subst hv)
  (refine wpl_v S rfl rfl rfl (sv_pure S rfl) ?_; clear S a; intro a S)
  (refine wpl_v S rfl rfl rfl (sv_pure S rfl) ?_; clear S a; intro a S)
  (refine wpl_v S rfl rfl rfl (sv_pure S rfl) ?_; clear S a; intro a S)
  (refine wpl_v S rfl rfl rfl (sv_pure S rfl) ?_; clear S a; intro a S)
  (refine wpl_v S rfl rfl rfl (sv_pure S rfl) ?_; clear S a; intro a S)
  refine wpList_nil ?_
  (refine hKq5 _ _ ?_; try (clear hKq5 Kq5))
  (refine wp_seq_k ?_; intro Kq6 hKq6)
  refine wp_region_lit ?_
  (refine wpl_v S rfl rfl rfl (sv_pure S rfl) ?_; clear S a; intro a S)
  (refine wpl_v S rfl rfl rfl (sv_pure S rfl) ?_; clear S a; intro a S)
  ((first | (refine wpl_call0 S rfl rfl rfl rfl rfl rfl (cX) rfl ?_) | (refine wpl_call0 S rfl rfl rfl rfl rfl rfl (cY) rfl ?_) | (refine wpl_call0 S rfl rfl rfl rfl rfl rfl (cP) rfl ?_) | (refine wpl_call0 S rfl rfl rfl rfl rfl rfl (cQ) rfl ?_) | (refine wpl_call0 S rfl rfl rfl rfl rfl rfl (cS) rfl ?_)); clear S a; intro v a w hv S; subst hv)
  (refine wpl_v S rfl rfl rfl (sv_pure S rfl) ?_; clear S a; intro a S)
  (refine wpl_v S rfl rfl rfl (sv_pure S rfl) ?_; clear S a; intro a S)
  (refine wpl_v S rfl rfl rfl (sv_pure S rfl) ?_; clear S a; intro a S)
  (refine wpl_v S rfl rfl rfl (sv_pure S rfl) ?_; clear S a; intro a S)
  (refine wpl_v S rfl rfl rfl (sv_pure S rfl) ?_; clear S a; intro a S)
  refine wpList_nil ?_
  (refine hKq6 _ _ ?_; try (clear hKq6 Kq6))
  (refine wp_seq_k ?_; intro Kq7 hKq7)
  refine wp_region_lit ?_
  (refine wpl_v S rfl rfl rfl (sv_pure S rfl) ?_; clear S a; intro a S)
  (refine wpl_v S rfl rfl rfl (sv_pure S rfl) ?_; clear S a; intro a S)
  ((first | (refine wpl_call0 S rfl rfl rfl rfl rfl rfl (cX) rfl ?_) | (refine wpl_call0 S rfl rfl rfl rfl rfl rfl (cY) rfl ?_) | (refine wpl_call0 S rfl rfl rfl rfl rfl rfl (cP) rfl ?_) | (refine wpl_call0 S rfl rfl rfl rfl rfl rfl (cQ) rfl ?_) | (refine wpl_call0 S rfl rfl rfl rfl rfl rfl (cS) rfl ?_)); clear S a; intro v a w hv S; subst hv)
  (refine wpl_v S rfl rfl rfl (sv_pure S rfl) ?_; clear S a; intro a S)
  (refine wpl_v S rfl rfl rfl (sv_pure S rfl) ?_; clear S a; intro a S)
  (refine wpl_v S rfl rfl rfl (sv_pure S rfl) ?_; clear S a; intro a S)
  (refine wpl_v S rfl rfl rfl (sv_pure S rfl) ?_; clear S a; intro a S)
  (refine wpl_v S rfl rfl rfl (sv_pure S rfl) ?_; clear S a; intro a S)
  refine wpList_nil ?_
  (refine hKq7 _ _ ?_; try (clear hKq7 Kq7))
  (refine wp_seq_k ?_; intro Kq8 hKq8)
  (refine wp_seq_k ?_; intro Kq9 hKq9)
  refine wp_region_lit ?_
  (refine wpl_v S rfl rfl rfl (sv_pure S rfl) ?_; clear S a; intro a S)
  (refine wpl_v S rfl rfl rfl (sv_pure S rfl) ?_; clear S a; intro a S)
  (refine wpl_v S rfl rfl rfl (sv_lit (c := false) (sv_pure S rfl) (by simp)) ?_; clear S a; intro a S)
  (refine wpl_v S rfl rfl rfl (sv_pure S rfl) ?_; clear S a; intro a S)
  refine wpl_take S rfl rfl rfl ?_
  (refine wpl_v S rfl rfl rfl (sv_pure S rfl) ?_; clear S a; intro a S)
  refine wpl_take S rfl rfl rfl ?_
  (refine wpl_v S rfl rfl rfl (sv_pure S rfl) ?_; clear S a; intro a S)
  refine wpl_take S rfl rfl rfl ?_
  (refine wpl_v S rfl rfl rfl (sv_lit (c := false) (sv_pure S rfl) (by simp)) ?_; clear S a; intro a S)
  first | (refine wpl_v S rfl rfl rfl (sv_pure S rfl) ?_; clear S a; intro a S) | (refine wpl_v S rfl rfl rfl (sv_pickB S rfl rfl rfl rfl) ?_; clear S a; intro a S)
  (refine wpl_v S rfl rfl rfl (sv_pure S rfl) ?_; clear S a; intro a S)
  refine wpl_take S rfl rfl rfl ?_
  (refine wpl_v S rfl rfl rfl (sv_pure S rfl) ?_; clear S a; intro a S)
  refine wpl_take S rfl rfl rfl ?_
  (refine wpl_v S rfl rfl rfl (sv_pure S rfl) ?_; clear S a; intro a S)
  refine wpl_take S rfl rfl rfl ?_
  (refine wpl_v S rfl rfl rfl (sv_lit (c := false) (sv_pure S rfl) (by simp)) ?_; clear S a; intro a S)
  first | (refine wpl_v S rfl rfl rfl (sv_pure S rfl) ?_; clear S a; intro a S) | (refine wpl_v S rfl rfl rfl (sv_pickB S rfl rfl rfl rfl) ?_; clear S a; intro a S)
  (refine wpl_v S rfl rfl rfl (sv_pure S rfl) ?_; clear S a; intro a S)
  refine wpl_take S rfl rfl rfl ?_
  (refine wpl_v S rfl rfl rfl (sv_pure S rfl) ?_; clear S a; intro a S)
  refine wpl_take S rfl rfl rfl ?_
  (refine wpl_v S rfl rfl rfl (sv_pure S rfl) ?_; clear S a; intro a S)
  refine wpl_take S rfl rfl rfl ?_
  (refine wpl_v S rfl rfl rfl (sv_lit (c := false) (sv_pure S rfl) (by simp)) ?_; clear S a; intro a S)
  first | (refine wpl_v S rfl rfl rfl (sv_pure S rfl) ?_; clear S a; intro a S) | (refine wpl_v S rfl rfl rfl (sv_pickB S rfl rfl rfl rfl) ?_; clear S a; intro a S)
  refine wpList_nil ?_
  (refine hKq9 _ _ ?_; try (clear hKq9 Kq9))
  refine wpc_false S rfl ?_
  refine wp_skip ?_
  (refine hKq8 _ _ ?_; try (clear hKq8 Kq8))
  (refine wp_seq_k ?_; intro Kq10 hKq10)
  refine wp_region_lit ?_
  (refine wpl_v S rfl rfl rfl (sv_pure S rfl) ?_; clear S a; intro a S)
  (refine wpl_v S rfl rfl rfl (sv_pure S rfl) ?_; clear S a; intro a S)
  ((first | (refine wpl_call0 S rfl rfl rfl rfl rfl rfl (cAB) rfl ?_) | (refine wpl_call0 S rfl rfl rfl rfl rfl rfl (cBA) rfl ?_) | (refine wpl_call0 S rfl rfl rfl rfl rfl rfl (cBC) rfl ?_) | (refine wpl_call0 S rfl rfl rfl rfl rfl rfl (cZ) rfl ?_) | (refine wpl_call0 S rfl rfl rfl rfl rfl rfl (cL) rfl ?_) | (refine wpl_call0 S rfl rfl rfl rfl rfl rfl (cR) rfl ?_) | (refine wpl_call0 S rfl rfl rfl rfl rfl rfl (cT) rfl ?_)); clear S a; intro v a w hv S; subst hv)
  (refine wpl_v S rfl rfl rfl (sv_pure S rfl) ?_; clear S a; intro a S)
  (refine wpl_v S rfl rfl rfl (sv_pure S rfl) ?_; clear S a; intro a S)
  (refine wpl_v S rfl rfl rfl (sv_pure S rfl) ?_; clear S a; intro a S)
  (refine wpl_v S rfl rfl rfl (sv_pure S rfl) ?_; clear S a; intro a S)
  (refine wpl_v S rfl rfl rfl (sv_pure S rfl) ?_; clear S a; intro a S)
  refine wpList_nil ?_
  (refine hKq10 _ _ ?_; try (clear hKq10 Kq10))
  (refine wp_seq_k ?_; intro Kq11 hKq11)
  (refine wp_seq_k ?_; intro Kq12 hKq12)
  refine wp_region_lit ?_
  (refine wpl_v S rfl rfl rfl (sv_pure S rfl) ?_; clear S a; intro a S)
  (refine wpl_v S rfl rfl rfl (sv_lit (c := true) (sv_pure S rfl) (by simpa using hab)) ?_; clear S a; intro a S)
  (refine wpl_v S rfl rfl rfl (sv_pure S rfl) ?_; clear S a; intro a S)
  refine wpl_take S rfl rfl rfl ?_
  (refine wpl_v S rfl rfl rfl (sv_pure S rfl) ?_; clear S a; intro a S)
  refine wpl_take S rfl rfl rfl ?_
  (refine wpl_v S rfl rfl rfl (sv_lit (c := true) (sv_pure S rfl) (by simpa using hbc)) ?_; clear S a; intro a S)
  first | (refine wpl_v S rfl rfl rfl (sv_pure S rfl) ?_; clear S a; intro a S) | (refine wpl_v S rfl rfl rfl (sv_pickB S rfl rfl rfl rfl) ?_; clear S a; intro a S)
  refine wpList_nil ?_
  (refine hKq12 _ _ ?_; try (clear hKq12 Kq12))
  refine wpc_true S rfl ?_
  (refine wp_seq_k ?_; intro Kq13 hKq13)
  refine wp_region_lit ?_
  (refine wpl_v S rfl rfl rfl (sv_pure S rfl) ?_; clear S a; intro a S)
  (refine wpl_v S rfl rfl rfl (sv_pure S rfl) ?_; clear S a; intro a S)
  ((first | (refine wpl_call0 S rfl rfl rfl rfl rfl rfl (cAB) rfl ?_) | (refine wpl_call0 S rfl rfl rfl rfl rfl rfl (cBA) rfl ?_) | (refine wpl_call0 S rfl rfl rfl rfl rfl rfl (cBC) rfl ?_) | (refine wpl_call0 S rfl rfl rfl rfl rfl rfl (cZ) rfl ?_) | (refine wpl_call0 S rfl rfl rfl rfl rfl rfl (cL) rfl ?_) | (refine wpl_call0 S rfl rfl rfl rfl rfl rfl (cR) rfl ?_) | (refine wpl_call0 S rfl rfl rfl rfl rfl rfl (cT) rfl ?_)); clear S a; intro v a w hv S; subst hv)
  (refine wpl_v S rfl rfl rfl (sv_pure S rfl) ?_; clear S a; intro a S)
  (refine wpl_v S rfl rfl rfl (sv_pure S rfl) ?_; clear S a; intro a S)
  (refine wpl_v S rfl rfl rfl (sv_pure S rfl) ?_; clear S a; intro a S)
  (refine wpl_v S rfl rfl rfl (sv_pure S rfl) ?_; clear S a; intro a S)
  (refine wpl_v S rfl rfl rfl (sv_pure S rfl) ?_; clear S a; intro a S)
  refine wpList_nil ?_
  (refine hKq13 _ _ ?_; try (clear hKq13 Kq13))
  (refine wp_seq_k ?_; intro Kq14 hKq14)
  refine wp_region_lit ?_
  (refine wpl_v S rfl rfl rfl (sv_pure S rfl) ?_; clear S a; intro a S)
  (refine wpl_v S rfl rfl rfl (sv_pure S rfl) ?_; clear S a; intro a S)
  ((first | (refine wpl_call0 S rfl rfl rfl rfl rfl rfl (cAB) rfl ?_) | (refine wpl_call0 S rfl rfl rfl rfl rfl rfl (cBA) rfl ?_) | (refine wpl_call0 S rfl rfl rfl rfl rfl rfl (cBC) rfl ?_) | (refine wpl_call0 S rfl rfl rfl rfl rfl rfl (cZ) rfl ?_) | (refine wpl_call0 S rfl rfl rfl rfl rfl rfl (cL) rfl ?_) | (refine wpl_call0 S rfl rfl rfl rfl rfl rfl (cR) rfl ?_) | (refine wpl_call0 S rfl rfl rfl rfl rfl rfl (cT) rfl ?_)); clear S a; intro v a w hv S; subst hv)
  (refine wpl_v S rfl rfl rfl (sv_pure S rfl) ?_; clear S a; intro a S)
  (refine wpl_v S rfl rfl rfl (sv_pure S rfl) ?_; clear S a; intro a S)
  (refine wpl_v S rfl rfl rfl (sv_pure S rfl) ?_; clear S a; intro a S)
  (refine wpl_v S rfl rfl rfl (sv_pure S rfl) ?_; clear S a; intro a S)
  (refine wpl_v S rfl rfl rfl (sv_pure S rfl) ?_; clear S a; intro a S)
  refine wpList_nil ?_
  (refine hKq14 _ _ ?_; try (clear hKq14 Kq14))
  (refine wp_seq_k ?_; intro Kq15 hKq15)
  refine wp_region_lit ?_
  (refine wpl_v S rfl rfl rfl (sv_pure S rfl) ?_; clear S a; intro a S)
  (refine wpl_v S rfl rfl rfl (sv_pure S rfl) ?_; clear S a; intro a S)
  ((first | (refine wpl_call0 S rfl rfl rfl rfl rfl rfl (cX) rfl ?_) | (refine wpl_call0 S rfl rfl rfl rfl rfl rfl (cY) rfl ?_) | (refine wpl_call0 S rfl rfl rfl rfl rfl rfl (cP) rfl ?_) | (refine wpl_call0 S rfl rfl rfl rfl rfl rfl (cQ) rfl ?_) | (refine wpl_call0 S rfl rfl rfl rfl rfl rfl (cS) rfl ?_)); clear S a; intro v a w hv S; subst hv)
  (refine wpl_v S rfl rfl rfl (sv_pure S rfl) ?_; clear S a; intro a S)
  (refine wpl_v S rfl rfl rfl (sv_pure S rfl) ?_; clear S a; intro a S)
  (refine wpl_v S rfl rfl rfl (sv_pure S rfl) ?_; clear S a; intro a S)
  (refine wpl_v S rfl rfl rfl (sv_pure S rfl) ?_; clear S a; intro a S)
  (refine wpl_v S rfl rfl rfl (sv_pure S rfl) ?_; clear S a; intro a S)
  refine wpList_nil ?_
  (refine hKq15 _ _ ?_; try (clear hKq15 Kq15))
  (refine wp_seq_k ?_; intro Kq16 hKq16)
  refine wp_region_lit ?_
  (refine wpl_v S rfl rfl rfl (sv_pure S rfl) ?_; clear S a; intro a S)
  (refine wpl_v S rfl rfl rfl (sv_pure S rfl) ?_; clear S a; intro a S)
  ((first | (refine wpl_call0 S rfl rfl rfl rfl rfl rfl (cX) rfl ?_) | (refine wpl_call0 S rfl rfl rfl rfl rfl rfl (cY) rfl ?_) | (refine wpl_call0 S rfl rfl rfl rfl rfl rfl (cP) rfl ?_) | (refine wpl_call0 S rfl rfl rfl rfl rfl rfl (cQ) rfl ?_) | (refine wpl_call0 S rfl rfl rfl rfl rfl rfl (cS) rfl ?_)); clear S a; intro v a w hv S; subst hv)
  (refine wpl_v S rfl rfl rfl (sv_pure S rfl) ?_; clear S a; intro a S)
  (refine wpl_v S rfl rfl rfl (sv_pure S rfl) ?_; clear S a; intro a S)
  (refine wpl_v S rfl rfl rfl (sv_pure S rfl) ?_; clear S a; intro a S)
  (refine wpl_v S rfl rfl rfl (sv_pure S rfl) ?_; clear S a; intro a S)
  (refine wpl_v S rfl rfl rfl (sv_pure S rfl) ?_; clear S a; intro a S)
  refine wpList_nil ?_
  (refine hKq16 _ _ ?_; try (clear hKq16 Kq16))
  (refine wp_seq_k ?_; intro Kq17 hKq17)
  refine wp_region_lit ?_
  (refine wpl_v S rfl rfl rfl (sv_pure S rfl) ?_; clear S a; intro a S)
  (refine wpl_v S rfl rfl rfl (sv_pure S rfl) ?_; clear S a; intro a S)
  ((first | (refine wpl_call0 S rfl rfl rfl rfl rfl rfl (cX) rfl ?_) | (refine wpl_call0 S rfl rfl rfl rfl rfl rfl (cY) rfl ?_) | (refine wpl_call0 S rfl rfl rfl rfl rfl rfl (cP) rfl ?_) | (refine wpl_call0 S rfl rfl rfl rfl rfl rfl (cQ) rfl ?_) | (refine wpl_call0 S rfl rfl rfl rfl rfl rfl (cS) rfl ?_)); clear S a; intro v a w hv S; subst hv)
  (refine wpl_v S rfl rfl rfl (sv_pure S rfl) ?_; clear S a; intro a S)
  (refine wpl_v S rfl rfl rfl (sv_pure S rfl) ?_; clear S a; intro a S)
  (refine wpl_v S rfl rfl rfl (sv_pure S rfl) ?_; clear S a; intro a S)
  (refine wpl_v S rfl rfl rfl (sv_pure S rfl) ?_; clear S a; intro a S)
  (refine wpl_v S rfl rfl rfl (sv_pure S rfl) ?_; clear S a; intro a S)
  refine wpList_nil ?_
  (refine hKq17 _ _ ?_; try (clear hKq17 Kq17))
  (refine wp_seq_k ?_; intro Kq18 hKq18)
  refine wp_region_lit ?_
  (refine wpl_v S rfl rfl rfl (sv_pure S rfl) ?_; clear S a; intro a S)
  (refine wpl_v S rfl rfl rfl (sv_pure S rfl) ?_; clear S a; intro a S)
  ((first | (refine wpl_call0 S rfl rfl rfl rfl rfl rfl (cAB) rfl ?_) | (refine wpl_call0 S rfl rfl rfl rfl rfl rfl (cBA) rfl ?_) | (refine wpl_call0 S rfl rfl rfl rfl rfl rfl (cBC) rfl ?_) | (refine wpl_call0 S rfl rfl rfl rfl rfl rfl (cZ) rfl ?_) | (refine wpl_call0 S rfl rfl rfl rfl rfl rfl (cL) rfl ?_) | (refine wpl_call0 S rfl rfl rfl rfl rfl rfl (cR) rfl ?_) | (refine wpl_call0 S rfl rfl rfl rfl rfl rfl (cT) rfl ?_)); clear S a; intro v a w hv S; subst hv)
  (refine wpl_v S rfl rfl rfl (sv_pure S rfl) ?_; clear S a; intro a S)
  (refine wpl_v S rfl rfl rfl (sv_pure S rfl) ?_; clear S a; intro a S)
  (refine wpl_v S rfl rfl rfl (sv_pure S rfl) ?_; clear S a; intro a S)
  (refine wpl_v S rfl rfl rfl (sv_pure S rfl) ?_; clear S a; intro a S)
  (refine wpl_v S rfl rfl rfl (sv_pure S rfl) ?_; clear S a; intro a S)
  refine wpList_nil ?_
  (refine hKq18 _ _ ?_; try (clear hKq18 Kq18))
  (refine wp_seq_k ?_; intro Kq19 hKq19)
  (refine wp_seq_k ?_; intro Kq20 hKq20)
  refine wp_region_lit ?_
  (refine wpl_v S rfl rfl rfl (sv_pure S rfl) ?_; clear S a; intro a S)
  (refine wpl_v S rfl rfl rfl (sv_lit (c := true) (sv_pure S rfl) (by simpa using hq)) ?_; clear S a; intro a S)
  (refine wpl_v S rfl rfl rfl (sv_pure S rfl) ?_; clear S a; intro a S)
  (refine wpl_skip S rfl rfl rfl rfl rfl ?_; clear S a; intro a S)
  (refine wpl_skip S rfl rfl rfl rfl rfl ?_; clear S a; intro a S)
  first | (refine wpl_v S rfl rfl rfl (sv_pure S rfl) ?_; clear S a; intro a S) | (refine wpl_v S rfl rfl rfl (sv_pickB S rfl rfl rfl rfl) ?_; clear S a; intro a S)
  refine wpList_nil ?_
  (refine hKq20 _ _ ?_; try (clear hKq20 Kq20))
  refine wpc_true S rfl ?_
  refine wp_region_lit ?_
  (refine wpl_v S rfl rfl rfl (sv_pure S rfl) ?_; clear S a; intro a S)
  refine wpList_nil ?_
  (refine hKq19 _ _ ?_; try (clear hKq19 Kq19))
  (refine wp_seq_k ?_; intro Kq21 hKq21)
  refine wp_region_lit ?_
  (refine wpl_v S rfl rfl rfl (sv_pure S rfl) ?_; clear S a; intro a S)
  (refine wpl_v S rfl rfl rfl (sv_pure S rfl) ?_; clear S a; intro a S)
  (refine wpl_v S rfl rfl rfl (sv_lit (c := false) (sv_pure S rfl) (by simp)) ?_; clear S a; intro a S)
  (refine wpl_v S rfl rfl rfl (sv_pure S rfl) ?_; clear S a; intro a S)
  refine wpl_take S rfl rfl rfl ?_
  (refine wpl_v S rfl rfl rfl (sv_pure S rfl) ?_; clear S a; intro a S)
  refine wpl_take S rfl rfl rfl ?_
  (refine wpl_v S rfl rfl rfl (sv_pure S rfl) ?_; clear S a; intro a S)
  refine wpl_take S rfl rfl rfl ?_
  (refine wpl_v S rfl rfl rfl (sv_lit (c := false) (sv_pure S rfl) (by simp)) ?_; clear S a; intro a S)
  first | (refine wpl_v S rfl rfl rfl (sv_pure S rfl) ?_; clear S a; intro a S) | (refine wpl_v S rfl rfl rfl (sv_pickB S rfl rfl rfl rfl) ?_; clear S a; intro a S)
  (refine wpl_v S rfl rfl rfl (sv_pure S rfl) ?_; clear S a; intro a S)
  refine wpl_take S rfl rfl rfl ?_
  (refine wpl_v S rfl rfl rfl (sv_pure S rfl) ?_; clear S a; intro a S)
  refine wpl_take S rfl rfl rfl ?_
  (refine wpl_v S rfl rfl rfl (sv_pure S rfl) ?_; clear S a; intro a S)
  refine wpl_take S rfl rfl rfl ?_
  (refine wpl_v S rfl rfl rfl (sv_pure S rfl) ?_; clear S a; intro a S)
  refine wpl_take S rfl rfl rfl ?_
  (refine wpl_v S rfl rfl rfl (sv_pure S rfl) ?_; clear S a; intro a S)
  refine wpl_take S rfl rfl rfl ?_
  (refine wpl_call0 S rfl rfl rfl rfl rfl rfl (sameCt _ _ _ _ F (by simp [sameB])) rfl ?_; clear S a; intro v a w hv S; subst hv)
  refine wpl_take S rfl rfl rfl ?_
  (refine wpl_v S rfl rfl rfl (sv_lit (c := false) (sv_pure S rfl) (by rfl)) ?_; clear S a; intro a S)
  first | (refine wpl_v S rfl rfl rfl (sv_pure S rfl) ?_; clear S a; intro a S) | (refine wpl_v S rfl rfl rfl (sv_pickB S rfl rfl rfl rfl) ?_; clear S a; intro a S)
  refine wpList_nil ?_
  (refine hKq21 _ _ ?_; try (clear hKq21 Kq21))
  refine wpc_false S rfl ?_
  refine wp_skip ?_
  (refine hKq11 _ _ ?_; try (clear hKq11 Kq11))
  (refine wp_seq_k ?_; intro Kq22 hKq22)
  refine wp_region_lit ?_
  (refine wpl_v S rfl rfl rfl (sv_pure S rfl) ?_; clear S a; intro a S)
  (refine wpl_v S rfl rfl rfl (sv_pure S rfl) ?_; clear S a; intro a S)
  (refine wpl_call0 S rfl rfl rfl rfl rfl rfl (cD) rfl ?_; clear S a; intro v a w hv S; subst hv)
  (refine wpl_v S rfl rfl rfl (sv_pure S rfl) ?_; clear S a; intro a S)
  (refine wpl_v S rfl rfl rfl (sv_pure S rfl) ?_; clear S a; intro a S)
  (refine wpl_v S rfl rfl rfl (sv_pure S rfl) ?_; clear S a; intro a S)
  (refine wpl_v S rfl rfl rfl (sv_pure S rfl) ?_; clear S a; intro a S)
  (refine wpl_v S rfl rfl rfl (sv_pure S rfl) ?_; clear S a; intro a S)
  refine wpList_nil ?_
  (refine hKq22 _ _ ?_; try (clear hKq22 Kq22))
  (refine wp_seq_k ?_; intro Kq23 hKq23)
  refine wp_region_lit ?_
  (refine wpl_v S rfl rfl rfl (sv_pure S rfl) ?_; clear S a; intro a S)
  ((first | (refine wpl_call0 S rfl rfl rfl rfl rfl rfl (cN) rfl ?_) | (refine wpl_call0 S rfl rfl rfl rfl rfl rfl (cB) rfl ?_)); clear S a; intro v a w hv S; subst hv)
  (refine wpl_v S rfl rfl rfl (sv_pure S rfl) ?_; clear S a; intro a S)
  (refine wpl_v S rfl rfl rfl (sv_pure S rfl) ?_; clear S a; intro a S)
  (refine wpl_v S rfl rfl rfl (sv_pure S rfl) ?_; clear S a; intro a S)
  (refine wpl_v S rfl rfl rfl (sv_pure S rfl) ?_; clear S a; intro a S)
  (refine wpl_v S rfl rfl rfl (sv_pure S rfl) ?_; clear S a; intro a S)
  refine wpList_nil ?_
  (refine hKq23 _ _ ?_; try (clear hKq23 Kq23))
  (refine wp_seq_k ?_; intro Kq24 hKq24)
  refine wp_region_lit ?_
  (refine wpl_v S rfl rfl rfl (sv_pure S rfl) ?_; clear S a; intro a S)
  (refine wpl_v S rfl rfl rfl (sv_pure S rfl) ?_; clear S a; intro a S)
  ((first | (refine wpl_call0 S rfl rfl rfl rfl rfl rfl (cAB) rfl ?_) | (refine wpl_call0 S rfl rfl rfl rfl rfl rfl (cBA) rfl ?_) | (refine wpl_call0 S rfl rfl rfl rfl rfl rfl (cBC) rfl ?_) | (refine wpl_call0 S rfl rfl rfl rfl rfl rfl (cZ) rfl ?_) | (refine wpl_call0 S rfl rfl rfl rfl rfl rfl (cL) rfl ?_) | (refine wpl_call0 S rfl rfl rfl rfl rfl rfl (cR) rfl ?_) | (refine wpl_call0 S rfl rfl rfl rfl rfl rfl (cT) rfl ?_)); clear S a; intro v a w hv S; subst hv)
  (refine wpl_v S rfl rfl rfl (sv_pure S rfl) ?_; clear S a; intro a S)
  (refine wpl_v S rfl rfl rfl (sv_pure S rfl) ?_; clear S a; intro a S)
  (refine wpl_v S rfl rfl rfl (sv_pure S rfl) ?_; clear S a; intro a S)
  (refine wpl_v S rfl rfl rfl (sv_pure S rfl) ?_; clear S a; intro a S)
  (refine wpl_v S rfl rfl rfl (sv_pure S rfl) ?_; clear S a; intro a S)
  refine wpList_nil ?_
  (refine hKq24 _ _ ?_; try (clear hKq24 Kq24))
  (refine wp_seq_k ?_; intro Kq25 hKq25)
  refine wp_region_lit ?_
  (refine wpl_v S rfl rfl rfl (sv_pure S rfl) ?_; clear S a; intro a S)
  ((first | (refine wpl_call0 S rfl rfl rfl rfl rfl rfl (cN) rfl ?_) | (refine wpl_call0 S rfl rfl rfl rfl rfl rfl (cB) rfl ?_)); clear S a; intro v a w hv S; subst hv)
  (refine wpl_v S rfl rfl rfl (sv_pure S rfl) ?_; clear S a; intro a S)
  (refine wpl_v S rfl rfl rfl (sv_pure S rfl) ?_; clear S a; intro a S)
  (refine wpl_v S rfl rfl rfl (sv_pure S rfl) ?_; clear S a; intro a S)
  (refine wpl_v S rfl rfl rfl (sv_pure S rfl) ?_; clear S a; intro a S)
  (refine wpl_v S rfl rfl rfl (sv_pure S rfl) ?_; clear S a; intro a S)
  refine wpList_nil ?_
  (refine hKq25 _ _ ?_; try (clear hKq25 Kq25))
  (refine wp_seq_k ?_; intro Kq26 hKq26)
  refine wp_region_lit ?_
  (refine wpl_v S rfl rfl rfl (sv_pure S rfl) ?_; clear S a; intro a S)
  (refine wpl_v S rfl rfl rfl (sv_lit (c := true) (sv_pure S rfl) (by simp)) ?_; clear S a; intro a S)
  (refine wpl_v S rfl rfl rfl (sv_pure S rfl) ?_; clear S a; intro a S)
  refine wpl_take S rfl rfl rfl ?_
  (refine wpl_v S rfl rfl rfl (sv_pure S rfl) ?_; clear S a; intro a S)
  refine wpl_take S rfl rfl rfl ?_
  (refine wpl_v S rfl rfl rfl (sv_lit (c := true) (sv_pure S rfl) (by simp)) ?_; clear S a; intro a S)
  first | (refine wpl_v S rfl rfl rfl (sv_pure S rfl) ?_; clear S a; intro a S) | (refine wpl_v S rfl rfl rfl (sv_pickB S rfl rfl rfl rfl) ?_; clear S a; intro a S)
  (refine wpl_v S rfl rfl rfl (sv_pure S rfl) ?_; clear S a; intro a S)
  refine wpl_take S rfl rfl rfl ?_
  (refine wpl_v S rfl rfl rfl (sv_pure S rfl) ?_; clear S a; intro a S)
  refine wpl_take S rfl rfl rfl ?_
  (refine wpl_v S rfl rfl rfl (sv_pure S rfl) ?_; clear S a; intro a S)
  refine wpl_take S rfl rfl rfl ?_
  (refine wpl_v S rfl rfl rfl (sv_lit (c := true) (sv_pure S rfl) (by simp)) ?_; clear S a; intro a S)
  first | (refine wpl_v S rfl rfl rfl (sv_pure S rfl) ?_; clear S a; intro a S) | (refine wpl_v S rfl rfl rfl (sv_pickB S rfl rfl rfl rfl) ?_; clear S a; intro a S)
  (refine wpl_v S rfl rfl rfl (sv_pure S rfl) ?_; clear S a; intro a S)
  refine wpList_nil ?_
  (refine hKq26 _ _ ?_; try (clear hKq26 Kq26))
  refine wp_ret ?_
  refine fin_ret S (results1 Tryd.results8 (RV.tmp S rfl)) ?_
  rfl
set_option maxRecDepth 10000 in
set_option maxHeartbeats 8000000 in
theorem ringY3 (s t u : List UInt8) (F : Heap) (hT : TabF F) (h1 : checkS s = 0) (h2 : checkS t = 0) (h3 : checkS u = 0) (hab : (doA 0 s t).2 = 0) (hbc : (doA 0 t u).2 = 0) (hq : (doA 2 s u).2 = 0) (hs : ¬ (doA 2 t u).2 = 0) : Ct Tryd.prog 8 [.string (bs s), .string (bs t), .string (bs u)] F [] (fun _ _ u => u = .bool true) := by
  obtain ⟨f1, f2, f3, f4, f5, f6, f7⟩ := ring_facts h1 h2 h3
  have la := len_ok h1
  have lb := len_ok h2
  have lc := len_ok h3
  have ln := len_ok f5
  have cAB := baddCt s t F hT (by omega) (by omega)
  have cBA := baddCt t s F hT (by omega) (by omega)
  have cX := bmulCt s t F hT (by omega) (by omega)
  have cY := bmulCt t s F hT (by omega) (by omega)
  have cBC := baddCt t u F hT (by omega) (by omega)
  have cD := bsubCt s s F hT (by omega) (by omega)
  have cN := bnegCt2 s F hT (by omega)
  have cZ := baddCt s (negB s).1 F hT (by omega) (by omega)
  have cB := bnegCt2 (negB s).1 F hT (by omega)
  rw [f1] at cBA
  rw [f2] at cY
  rw [f4] at cD
  rw [f6] at cZ
  obtain ⟨g1, g2⟩ := f3 hab hbc
  have l1 := doA_len 0 s t
  have l2 := doA_len 0 t u
  have l3 := doA_len 2 s u
  have l4 := doA_len 2 t u
  have cL := baddCt (doA 0 s t).1 u F hT (by omega) (by omega)
  have cR := baddCt s (doA 0 t u).1 F hT (by omega) (by omega)
  have cP := bmulCt (doA 0 s t).1 u F hT (by omega) (by omega)
  have cQ := bmulCt s u F hT (by omega) (by omega)
  have cS := bmulCt t u F hT (by omega) (by omega)
  have cT := baddCt (doA 2 s u).1 (doA 2 t u).1 F hT (by omega) (by omega)
  rw [g1] at cR
  generalize negB (negB s).1 = back at cB f7
  subst f7
  generalize negB back.1 = n at *
  refine Ct.enter Tryd.func8 rfl Tryd.ntmps8 rfl fun w0 a S => ?_
  (refine wp_seq_k ?_; intro Kq1 hKq1)
  refine wp_region_lit ?_
  (refine wpl_v S rfl rfl rfl (sv_pure S rfl) ?_; clear S a; intro a S)
  refine wpList_nil ?_
  (refine hKq1 _ _ ?_; try (clear hKq1 Kq1))
  (refine wp_seq_k ?_; intro Kq2 hKq2)
  (refine wp_seq_k ?_; intro Kq3 hKq3)
  refine wp_region_lit ?_
  (refine wpl_call0 S rfl rfl rfl rfl rfl rfl (worksCt F hT) rfl ?_; clear S a; intro v a w hv S; subst hv)
  (refine wpl_v S rfl rfl rfl (sv_lit (c := false) (sv_pure S rfl) (by rfl)) ?_; clear S a; intro a S)
  (refine wpl_v S rfl rfl rfl (sv_pure S rfl) ?_; clear S a; intro a S)
  refine wpl_take S rfl rfl rfl ?_
  (refine wpl_v S rfl rfl rfl (sv_pure S rfl) ?_; clear S a; intro a S)
  refine wpl_take S rfl rfl rfl ?_
  ((first | (refine wpl_call0 S rfl rfl rfl rfl rfl rfl (checkCt back.1 F (by omega)) rfl ?_) | (refine wpl_call0 S rfl rfl rfl rfl rfl rfl (checkCt t F (by omega)) rfl ?_) | (refine wpl_call0 S rfl rfl rfl rfl rfl rfl (checkCt u F (by omega)) rfl ?_)); clear S a; intro v a w hv S; subst hv)
  refine wpl_take S rfl rfl rfl ?_
  (refine wpl_v S rfl rfl rfl (sv_lit (c := false) (sv_pure S rfl) (by simpa using h1)) ?_; clear S a; intro a S)
  first | (refine wpl_v S rfl rfl rfl (sv_pure S rfl) ?_; clear S a; intro a S) | (refine wpl_v S rfl rfl rfl (sv_pickB S rfl rfl rfl rfl) ?_; clear S a; intro a S)
  (refine wpl_v S rfl rfl rfl (sv_pure S rfl) ?_; clear S a; intro a S)
  refine wpl_take S rfl rfl rfl ?_
  (refine wpl_v S rfl rfl rfl (sv_pure S rfl) ?_; clear S a; intro a S)
  refine wpl_take S rfl rfl rfl ?_
  ((first | (refine wpl_call0 S rfl rfl rfl rfl rfl rfl (checkCt back.1 F (by omega)) rfl ?_) | (refine wpl_call0 S rfl rfl rfl rfl rfl rfl (checkCt t F (by omega)) rfl ?_) | (refine wpl_call0 S rfl rfl rfl rfl rfl rfl (checkCt u F (by omega)) rfl ?_)); clear S a; intro v a w hv S; subst hv)
  refine wpl_take S rfl rfl rfl ?_
  (refine wpl_v S rfl rfl rfl (sv_lit (c := false) (sv_pure S rfl) (by simpa using h2)) ?_; clear S a; intro a S)
  first | (refine wpl_v S rfl rfl rfl (sv_pure S rfl) ?_; clear S a; intro a S) | (refine wpl_v S rfl rfl rfl (sv_pickB S rfl rfl rfl rfl) ?_; clear S a; intro a S)
  (refine wpl_v S rfl rfl rfl (sv_pure S rfl) ?_; clear S a; intro a S)
  refine wpl_take S rfl rfl rfl ?_
  (refine wpl_v S rfl rfl rfl (sv_pure S rfl) ?_; clear S a; intro a S)
  refine wpl_take S rfl rfl rfl ?_
  ((first | (refine wpl_call0 S rfl rfl rfl rfl rfl rfl (checkCt back.1 F (by omega)) rfl ?_) | (refine wpl_call0 S rfl rfl rfl rfl rfl rfl (checkCt t F (by omega)) rfl ?_) | (refine wpl_call0 S rfl rfl rfl rfl rfl rfl (checkCt u F (by omega)) rfl ?_)); clear S a; intro v a w hv S; subst hv)
  refine wpl_take S rfl rfl rfl ?_
  (refine wpl_v S rfl rfl rfl (sv_lit (c := false) (sv_pure S rfl) (by simpa using h3)) ?_; clear S a; intro a S)
  first | (refine wpl_v S rfl rfl rfl (sv_pure S rfl) ?_; clear S a; intro a S) | (refine wpl_v S rfl rfl rfl (sv_pickB S rfl rfl rfl rfl) ?_; clear S a; intro a S)
  refine wpList_nil ?_
  (refine hKq3 _ _ ?_; try (clear hKq3 Kq3))
  refine wpc_false S rfl ?_
  refine wp_skip ?_
  (refine hKq2 _ _ ?_; try (clear hKq2 Kq2))
  (refine wp_seq_k ?_; intro Kq4 hKq4)
  refine wp_region_lit ?_
  (refine wpl_v S rfl rfl rfl (sv_pure S rfl) ?_; clear S a; intro a S)
  (refine wpl_v S rfl rfl rfl (sv_pure S rfl) ?_; clear S a; intro a S)
  ((first | (refine wpl_call0 S rfl rfl rfl rfl rfl rfl (cAB) rfl ?_) | (refine wpl_call0 S rfl rfl rfl rfl rfl rfl (cBA) rfl ?_) | (refine wpl_call0 S rfl rfl rfl rfl rfl rfl (cBC) rfl ?_) | (refine wpl_call0 S rfl rfl rfl rfl rfl rfl (cZ) rfl ?_) | (refine wpl_call0 S rfl rfl rfl rfl rfl rfl (cL) rfl ?_) | (refine wpl_call0 S rfl rfl rfl rfl rfl rfl (cR) rfl ?_) | (refine wpl_call0 S rfl rfl rfl rfl rfl rfl (cT) rfl ?_)); clear S a; intro v a w hv S; subst hv)
  (refine wpl_v S rfl rfl rfl (sv_pure S rfl) ?_; clear S a; intro a S)
  (refine wpl_v S rfl rfl rfl (sv_pure S rfl) ?_; clear S a; intro a S)
  (refine wpl_v S rfl rfl rfl (sv_pure S rfl) ?_; clear S a; intro a S)
  (refine wpl_v S rfl rfl rfl (sv_pure S rfl) ?_; clear S a; intro a S)
  (refine wpl_v S rfl rfl rfl (sv_pure S rfl) ?_; clear S a; intro a S)
  refine wpList_nil ?_
  (refine hKq4 _ _ ?_; try (clear hKq4 Kq4))
  (refine wp_seq_k ?_; intro Kq5 hKq5)
  refine wp_region_lit ?_
  (refine wpl_v S rfl rfl rfl (sv_pure S rfl) ?_; clear S a; intro a S)
  (refine wpl_v S rfl rfl rfl (sv_pure S rfl) ?_; clear S a; intro a S)
  ((first | (refine wpl_call0 S rfl rfl rfl rfl rfl rfl (cAB) rfl ?_) | (refine wpl_call0 S rfl rfl rfl rfl rfl rfl (cBA) rfl ?_) | (refine wpl_call0 S rfl rfl rfl rfl rfl rfl (cBC) rfl ?_) | (refine wpl_call0 S rfl rfl rfl rfl rfl rfl (cZ) rfl ?_) | (refine wpl_call0 S rfl rfl rfl rfl rfl rfl (cL) rfl ?_) | (refine wpl_call0 S rfl rfl rfl rfl rfl rfl (cR) rfl ?_) | (refine wpl_call0 S rfl rfl rfl rfl rfl rfl (cT) rfl ?_)); clear S a; intro v a w hv S; subst hv)
  (refine wpl_v S rfl rfl rfl (sv_pure S rfl) ?_; clear S a; intro a S)
  (refine wpl_v S rfl rfl rfl (sv_pure S rfl) ?_; clear S a; intro a S)
  (refine wpl_v S rfl rfl rfl (sv_pure S rfl) ?_; clear S a; intro a S)
  (refine wpl_v S rfl rfl rfl (sv_pure S rfl) ?_; clear S a; intro a S)
  (refine wpl_v S rfl rfl rfl (sv_pure S rfl) ?_; clear S a; intro a S)
  refine wpList_nil ?_
  (refine hKq5 _ _ ?_; try (clear hKq5 Kq5))
  (refine wp_seq_k ?_; intro Kq6 hKq6)
  refine wp_region_lit ?_
  (refine wpl_v S rfl rfl rfl (sv_pure S rfl) ?_; clear S a; intro a S)
  (refine wpl_v S rfl rfl rfl (sv_pure S rfl) ?_; clear S a; intro a S)
  ((first | (refine wpl_call0 S rfl rfl rfl rfl rfl rfl (cX) rfl ?_) | (refine wpl_call0 S rfl rfl rfl rfl rfl rfl (cY) rfl ?_) | (refine wpl_call0 S rfl rfl rfl rfl rfl rfl (cP) rfl ?_) | (refine wpl_call0 S rfl rfl rfl rfl rfl rfl (cQ) rfl ?_) | (refine wpl_call0 S rfl rfl rfl rfl rfl rfl (cS) rfl ?_)); clear S a; intro v a w hv S; subst hv)
  (refine wpl_v S rfl rfl rfl (sv_pure S rfl) ?_; clear S a; intro a S)
  (refine wpl_v S rfl rfl rfl (sv_pure S rfl) ?_; clear S a; intro a S)
  (refine wpl_v S rfl rfl rfl (sv_pure S rfl) ?_; clear S a; intro a S)
  (refine wpl_v S rfl rfl rfl (sv_pure S rfl) ?_; clear S a; intro a S)
  (refine wpl_v S rfl rfl rfl (sv_pure S rfl) ?_; clear S a; intro a S)
  refine wpList_nil ?_
  (refine hKq6 _ _ ?_; try (clear hKq6 Kq6))
  (refine wp_seq_k ?_; intro Kq7 hKq7)
  refine wp_region_lit ?_
  (refine wpl_v S rfl rfl rfl (sv_pure S rfl) ?_; clear S a; intro a S)
  (refine wpl_v S rfl rfl rfl (sv_pure S rfl) ?_; clear S a; intro a S)
  ((first | (refine wpl_call0 S rfl rfl rfl rfl rfl rfl (cX) rfl ?_) | (refine wpl_call0 S rfl rfl rfl rfl rfl rfl (cY) rfl ?_) | (refine wpl_call0 S rfl rfl rfl rfl rfl rfl (cP) rfl ?_) | (refine wpl_call0 S rfl rfl rfl rfl rfl rfl (cQ) rfl ?_) | (refine wpl_call0 S rfl rfl rfl rfl rfl rfl (cS) rfl ?_)); clear S a; intro v a w hv S; subst hv)
  (refine wpl_v S rfl rfl rfl (sv_pure S rfl) ?_; clear S a; intro a S)
  (refine wpl_v S rfl rfl rfl (sv_pure S rfl) ?_; clear S a; intro a S)
  (refine wpl_v S rfl rfl rfl (sv_pure S rfl) ?_; clear S a; intro a S)
  (refine wpl_v S rfl rfl rfl (sv_pure S rfl) ?_; clear S a; intro a S)
  (refine wpl_v S rfl rfl rfl (sv_pure S rfl) ?_; clear S a; intro a S)
  refine wpList_nil ?_
  (refine hKq7 _ _ ?_; try (clear hKq7 Kq7))
  (refine wp_seq_k ?_; intro Kq8 hKq8)
  (refine wp_seq_k ?_; intro Kq9 hKq9)
  refine wp_region_lit ?_
  (refine wpl_v S rfl rfl rfl (sv_pure S rfl) ?_; clear S a; intro a S)
  (refine wpl_v S rfl rfl rfl (sv_pure S rfl) ?_; clear S a; intro a S)
  (refine wpl_v S rfl rfl rfl (sv_lit (c := false) (sv_pure S rfl) (by simp)) ?_; clear S a; intro a S)
  (refine wpl_v S rfl rfl rfl (sv_pure S rfl) ?_; clear S a; intro a S)
  refine wpl_take S rfl rfl rfl ?_
  (refine wpl_v S rfl rfl rfl (sv_pure S rfl) ?_; clear S a; intro a S)
  refine wpl_take S rfl rfl rfl ?_
  (refine wpl_v S rfl rfl rfl (sv_pure S rfl) ?_; clear S a; intro a S)
  refine wpl_take S rfl rfl rfl ?_
  (refine wpl_v S rfl rfl rfl (sv_lit (c := false) (sv_pure S rfl) (by simp)) ?_; clear S a; intro a S)
  first | (refine wpl_v S rfl rfl rfl (sv_pure S rfl) ?_; clear S a; intro a S) | (refine wpl_v S rfl rfl rfl (sv_pickB S rfl rfl rfl rfl) ?_; clear S a; intro a S)
  (refine wpl_v S rfl rfl rfl (sv_pure S rfl) ?_; clear S a; intro a S)
  refine wpl_take S rfl rfl rfl ?_
  (refine wpl_v S rfl rfl rfl (sv_pure S rfl) ?_; clear S a; intro a S)
  refine wpl_take S rfl rfl rfl ?_
  (refine wpl_v S rfl rfl rfl (sv_pure S rfl) ?_; clear S a; intro a S)
  refine wpl_take S rfl rfl rfl ?_
  (refine wpl_v S rfl rfl rfl (sv_lit (c := false) (sv_pure S rfl) (by simp)) ?_; clear S a; intro a S)
  first | (refine wpl_v S rfl rfl rfl (sv_pure S rfl) ?_; clear S a; intro a S) | (refine wpl_v S rfl rfl rfl (sv_pickB S rfl rfl rfl rfl) ?_; clear S a; intro a S)
  (refine wpl_v S rfl rfl rfl (sv_pure S rfl) ?_; clear S a; intro a S)
  refine wpl_take S rfl rfl rfl ?_
  (refine wpl_v S rfl rfl rfl (sv_pure S rfl) ?_; clear S a; intro a S)
  refine wpl_take S rfl rfl rfl ?_
  (refine wpl_v S rfl rfl rfl (sv_pure S rfl) ?_; clear S a; intro a S)
  refine wpl_take S rfl rfl rfl ?_
  (refine wpl_v S rfl rfl rfl (sv_lit (c := false) (sv_pure S rfl) (by simp)) ?_; clear S a; intro a S)
  first | (refine wpl_v S rfl rfl rfl (sv_pure S rfl) ?_; clear S a; intro a S) | (refine wpl_v S rfl rfl rfl (sv_pickB S rfl rfl rfl rfl) ?_; clear S a; intro a S)
  refine wpList_nil ?_
  (refine hKq9 _ _ ?_; try (clear hKq9 Kq9))
  refine wpc_false S rfl ?_
  refine wp_skip ?_
  (refine hKq8 _ _ ?_; try (clear hKq8 Kq8))
  (refine wp_seq_k ?_; intro Kq10 hKq10)
  refine wp_region_lit ?_
  (refine wpl_v S rfl rfl rfl (sv_pure S rfl) ?_; clear S a; intro a S)
  (refine wpl_v S rfl rfl rfl (sv_pure S rfl) ?_; clear S a; intro a S)
  ((first | (refine wpl_call0 S rfl rfl rfl rfl rfl rfl (cAB) rfl ?_) | (refine wpl_call0 S rfl rfl rfl rfl rfl rfl (cBA) rfl ?_) | (refine wpl_call0 S rfl rfl rfl rfl rfl rfl (cBC) rfl ?_) | (refine wpl_call0 S rfl rfl rfl rfl rfl rfl (cZ) rfl ?_) | (refine wpl_call0 S rfl rfl rfl rfl rfl rfl (cL) rfl ?_) | (refine wpl_call0 S rfl rfl rfl rfl rfl rfl (cR) rfl ?_) | (refine wpl_call0 S rfl rfl rfl rfl rfl rfl (cT) rfl ?_)); clear S a; intro v a w hv S; subst hv)
  (refine wpl_v S rfl rfl rfl (sv_pure S rfl) ?_; clear S a; intro a S)
  (refine wpl_v S rfl rfl rfl (sv_pure S rfl) ?_; clear S a; intro a S)
  (refine wpl_v S rfl rfl rfl (sv_pure S rfl) ?_; clear S a; intro a S)
  (refine wpl_v S rfl rfl rfl (sv_pure S rfl) ?_; clear S a; intro a S)
  (refine wpl_v S rfl rfl rfl (sv_pure S rfl) ?_; clear S a; intro a S)
  refine wpList_nil ?_
  (refine hKq10 _ _ ?_; try (clear hKq10 Kq10))
  (refine wp_seq_k ?_; intro Kq11 hKq11)
  (refine wp_seq_k ?_; intro Kq12 hKq12)
  refine wp_region_lit ?_
  (refine wpl_v S rfl rfl rfl (sv_pure S rfl) ?_; clear S a; intro a S)
  (refine wpl_v S rfl rfl rfl (sv_lit (c := true) (sv_pure S rfl) (by simpa using hab)) ?_; clear S a; intro a S)
  (refine wpl_v S rfl rfl rfl (sv_pure S rfl) ?_; clear S a; intro a S)
  refine wpl_take S rfl rfl rfl ?_
  (refine wpl_v S rfl rfl rfl (sv_pure S rfl) ?_; clear S a; intro a S)
  refine wpl_take S rfl rfl rfl ?_
  (refine wpl_v S rfl rfl rfl (sv_lit (c := true) (sv_pure S rfl) (by simpa using hbc)) ?_; clear S a; intro a S)
  first | (refine wpl_v S rfl rfl rfl (sv_pure S rfl) ?_; clear S a; intro a S) | (refine wpl_v S rfl rfl rfl (sv_pickB S rfl rfl rfl rfl) ?_; clear S a; intro a S)
  refine wpList_nil ?_
  (refine hKq12 _ _ ?_; try (clear hKq12 Kq12))
  refine wpc_true S rfl ?_
  (refine wp_seq_k ?_; intro Kq13 hKq13)
  refine wp_region_lit ?_
  (refine wpl_v S rfl rfl rfl (sv_pure S rfl) ?_; clear S a; intro a S)
  (refine wpl_v S rfl rfl rfl (sv_pure S rfl) ?_; clear S a; intro a S)
  ((first | (refine wpl_call0 S rfl rfl rfl rfl rfl rfl (cAB) rfl ?_) | (refine wpl_call0 S rfl rfl rfl rfl rfl rfl (cBA) rfl ?_) | (refine wpl_call0 S rfl rfl rfl rfl rfl rfl (cBC) rfl ?_) | (refine wpl_call0 S rfl rfl rfl rfl rfl rfl (cZ) rfl ?_) | (refine wpl_call0 S rfl rfl rfl rfl rfl rfl (cL) rfl ?_) | (refine wpl_call0 S rfl rfl rfl rfl rfl rfl (cR) rfl ?_) | (refine wpl_call0 S rfl rfl rfl rfl rfl rfl (cT) rfl ?_)); clear S a; intro v a w hv S; subst hv)
  (refine wpl_v S rfl rfl rfl (sv_pure S rfl) ?_; clear S a; intro a S)
  (refine wpl_v S rfl rfl rfl (sv_pure S rfl) ?_; clear S a; intro a S)
  (refine wpl_v S rfl rfl rfl (sv_pure S rfl) ?_; clear S a; intro a S)
  (refine wpl_v S rfl rfl rfl (sv_pure S rfl) ?_; clear S a; intro a S)
  (refine wpl_v S rfl rfl rfl (sv_pure S rfl) ?_; clear S a; intro a S)
  refine wpList_nil ?_
  (refine hKq13 _ _ ?_; try (clear hKq13 Kq13))
  (refine wp_seq_k ?_; intro Kq14 hKq14)
  refine wp_region_lit ?_
  (refine wpl_v S rfl rfl rfl (sv_pure S rfl) ?_; clear S a; intro a S)
  (refine wpl_v S rfl rfl rfl (sv_pure S rfl) ?_; clear S a; intro a S)
  ((first | (refine wpl_call0 S rfl rfl rfl rfl rfl rfl (cAB) rfl ?_) | (refine wpl_call0 S rfl rfl rfl rfl rfl rfl (cBA) rfl ?_) | (refine wpl_call0 S rfl rfl rfl rfl rfl rfl (cBC) rfl ?_) | (refine wpl_call0 S rfl rfl rfl rfl rfl rfl (cZ) rfl ?_) | (refine wpl_call0 S rfl rfl rfl rfl rfl rfl (cL) rfl ?_) | (refine wpl_call0 S rfl rfl rfl rfl rfl rfl (cR) rfl ?_) | (refine wpl_call0 S rfl rfl rfl rfl rfl rfl (cT) rfl ?_)); clear S a; intro v a w hv S; subst hv)
  (refine wpl_v S rfl rfl rfl (sv_pure S rfl) ?_; clear S a; intro a S)
  (refine wpl_v S rfl rfl rfl (sv_pure S rfl) ?_; clear S a; intro a S)
  (refine wpl_v S rfl rfl rfl (sv_pure S rfl) ?_; clear S a; intro a S)
  (refine wpl_v S rfl rfl rfl (sv_pure S rfl) ?_; clear S a; intro a S)
  (refine wpl_v S rfl rfl rfl (sv_pure S rfl) ?_; clear S a; intro a S)
  refine wpList_nil ?_
  (refine hKq14 _ _ ?_; try (clear hKq14 Kq14))
  (refine wp_seq_k ?_; intro Kq15 hKq15)
  refine wp_region_lit ?_
  (refine wpl_v S rfl rfl rfl (sv_pure S rfl) ?_; clear S a; intro a S)
  (refine wpl_v S rfl rfl rfl (sv_pure S rfl) ?_; clear S a; intro a S)
  ((first | (refine wpl_call0 S rfl rfl rfl rfl rfl rfl (cX) rfl ?_) | (refine wpl_call0 S rfl rfl rfl rfl rfl rfl (cY) rfl ?_) | (refine wpl_call0 S rfl rfl rfl rfl rfl rfl (cP) rfl ?_) | (refine wpl_call0 S rfl rfl rfl rfl rfl rfl (cQ) rfl ?_) | (refine wpl_call0 S rfl rfl rfl rfl rfl rfl (cS) rfl ?_)); clear S a; intro v a w hv S; subst hv)
  (refine wpl_v S rfl rfl rfl (sv_pure S rfl) ?_; clear S a; intro a S)
  (refine wpl_v S rfl rfl rfl (sv_pure S rfl) ?_; clear S a; intro a S)
  (refine wpl_v S rfl rfl rfl (sv_pure S rfl) ?_; clear S a; intro a S)
  (refine wpl_v S rfl rfl rfl (sv_pure S rfl) ?_; clear S a; intro a S)
  (refine wpl_v S rfl rfl rfl (sv_pure S rfl) ?_; clear S a; intro a S)
  refine wpList_nil ?_
  (refine hKq15 _ _ ?_; try (clear hKq15 Kq15))
  (refine wp_seq_k ?_; intro Kq16 hKq16)
  refine wp_region_lit ?_
  (refine wpl_v S rfl rfl rfl (sv_pure S rfl) ?_; clear S a; intro a S)
  (refine wpl_v S rfl rfl rfl (sv_pure S rfl) ?_; clear S a; intro a S)
  ((first | (refine wpl_call0 S rfl rfl rfl rfl rfl rfl (cX) rfl ?_) | (refine wpl_call0 S rfl rfl rfl rfl rfl rfl (cY) rfl ?_) | (refine wpl_call0 S rfl rfl rfl rfl rfl rfl (cP) rfl ?_) | (refine wpl_call0 S rfl rfl rfl rfl rfl rfl (cQ) rfl ?_) | (refine wpl_call0 S rfl rfl rfl rfl rfl rfl (cS) rfl ?_)); clear S a; intro v a w hv S; subst hv)
  (refine wpl_v S rfl rfl rfl (sv_pure S rfl) ?_; clear S a; intro a S)
  (refine wpl_v S rfl rfl rfl (sv_pure S rfl) ?_; clear S a; intro a S)
  (refine wpl_v S rfl rfl rfl (sv_pure S rfl) ?_; clear S a; intro a S)
  (refine wpl_v S rfl rfl rfl (sv_pure S rfl) ?_; clear S a; intro a S)
  (refine wpl_v S rfl rfl rfl (sv_pure S rfl) ?_; clear S a; intro a S)
  refine wpList_nil ?_
  (refine hKq16 _ _ ?_; try (clear hKq16 Kq16))
  (refine wp_seq_k ?_; intro Kq17 hKq17)
  refine wp_region_lit ?_
  (refine wpl_v S rfl rfl rfl (sv_pure S rfl) ?_; clear S a; intro a S)
  (refine wpl_v S rfl rfl rfl (sv_pure S rfl) ?_; clear S a; intro a S)
  ((first | (refine wpl_call0 S rfl rfl rfl rfl rfl rfl (cX) rfl ?_) | (refine wpl_call0 S rfl rfl rfl rfl rfl rfl (cY) rfl ?_) | (refine wpl_call0 S rfl rfl rfl rfl rfl rfl (cP) rfl ?_) | (refine wpl_call0 S rfl rfl rfl rfl rfl rfl (cQ) rfl ?_) | (refine wpl_call0 S rfl rfl rfl rfl rfl rfl (cS) rfl ?_)); clear S a; intro v a w hv S; subst hv)
  (refine wpl_v S rfl rfl rfl (sv_pure S rfl) ?_; clear S a; intro a S)
  (refine wpl_v S rfl rfl rfl (sv_pure S rfl) ?_; clear S a; intro a S)
  (refine wpl_v S rfl rfl rfl (sv_pure S rfl) ?_; clear S a; intro a S)
  (refine wpl_v S rfl rfl rfl (sv_pure S rfl) ?_; clear S a; intro a S)
  (refine wpl_v S rfl rfl rfl (sv_pure S rfl) ?_; clear S a; intro a S)
  refine wpList_nil ?_
  (refine hKq17 _ _ ?_; try (clear hKq17 Kq17))
  (refine wp_seq_k ?_; intro Kq18 hKq18)
  refine wp_region_lit ?_
  (refine wpl_v S rfl rfl rfl (sv_pure S rfl) ?_; clear S a; intro a S)
  (refine wpl_v S rfl rfl rfl (sv_pure S rfl) ?_; clear S a; intro a S)
  ((first | (refine wpl_call0 S rfl rfl rfl rfl rfl rfl (cAB) rfl ?_) | (refine wpl_call0 S rfl rfl rfl rfl rfl rfl (cBA) rfl ?_) | (refine wpl_call0 S rfl rfl rfl rfl rfl rfl (cBC) rfl ?_) | (refine wpl_call0 S rfl rfl rfl rfl rfl rfl (cZ) rfl ?_) | (refine wpl_call0 S rfl rfl rfl rfl rfl rfl (cL) rfl ?_) | (refine wpl_call0 S rfl rfl rfl rfl rfl rfl (cR) rfl ?_) | (refine wpl_call0 S rfl rfl rfl rfl rfl rfl (cT) rfl ?_)); clear S a; intro v a w hv S; subst hv)
  (refine wpl_v S rfl rfl rfl (sv_pure S rfl) ?_; clear S a; intro a S)
  (refine wpl_v S rfl rfl rfl (sv_pure S rfl) ?_; clear S a; intro a S)
  (refine wpl_v S rfl rfl rfl (sv_pure S rfl) ?_; clear S a; intro a S)
  (refine wpl_v S rfl rfl rfl (sv_pure S rfl) ?_; clear S a; intro a S)
  (refine wpl_v S rfl rfl rfl (sv_pure S rfl) ?_; clear S a; intro a S)
  refine wpList_nil ?_
  (refine hKq18 _ _ ?_; try (clear hKq18 Kq18))
  (refine wp_seq_k ?_; intro Kq19 hKq19)
  (refine wp_seq_k ?_; intro Kq20 hKq20)
  refine wp_region_lit ?_
  (refine wpl_v S rfl rfl rfl (sv_pure S rfl) ?_; clear S a; intro a S)
  (refine wpl_v S rfl rfl rfl (sv_lit (c := false) (sv_pure S rfl) (by simpa using hq)) ?_; clear S a; intro a S)
  (refine wpl_v S rfl rfl rfl (sv_pure S rfl) ?_; clear S a; intro a S)
  refine wpl_take S rfl rfl rfl ?_
  (refine wpl_v S rfl rfl rfl (sv_pure S rfl) ?_; clear S a; intro a S)
  refine wpl_take S rfl rfl rfl ?_
  (refine wpl_v S rfl rfl rfl (sv_lit (c := true) (sv_pure S rfl) (by simpa using hs)) ?_; clear S a; intro a S)
  first | (refine wpl_v S rfl rfl rfl (sv_pure S rfl) ?_; clear S a; intro a S) | (refine wpl_v S rfl rfl rfl (sv_pickB S rfl rfl rfl rfl) ?_; clear S a; intro a S)
  refine wpList_nil ?_
  (refine hKq20 _ _ ?_; try (clear hKq20 Kq20))
  refine wpc_true S rfl ?_
  refine wp_region_lit ?_
  (refine wpl_v S rfl rfl rfl (sv_pure S rfl) ?_; clear S a; intro a S)
  refine wpList_nil ?_
  (refine hKq19 _ _ ?_; try (clear hKq19 Kq19))
  (refine wp_seq_k ?_; intro Kq21 hKq21)
  refine wp_region_lit ?_
  (refine wpl_v S rfl rfl rfl (sv_pure S rfl) ?_; clear S a; intro a S)
  (refine wpl_v S rfl rfl rfl (sv_pure S rfl) ?_; clear S a; intro a S)
  (refine wpl_v S rfl rfl rfl (sv_lit (c := false) (sv_pure S rfl) (by simp)) ?_; clear S a; intro a S)
  (refine wpl_v S rfl rfl rfl (sv_pure S rfl) ?_; clear S a; intro a S)
  refine wpl_take S rfl rfl rfl ?_
  (refine wpl_v S rfl rfl rfl (sv_pure S rfl) ?_; clear S a; intro a S)
  refine wpl_take S rfl rfl rfl ?_
  (refine wpl_v S rfl rfl rfl (sv_pure S rfl) ?_; clear S a; intro a S)
  refine wpl_take S rfl rfl rfl ?_
  (refine wpl_v S rfl rfl rfl (sv_lit (c := false) (sv_pure S rfl) (by simp)) ?_; clear S a; intro a S)
  first | (refine wpl_v S rfl rfl rfl (sv_pure S rfl) ?_; clear S a; intro a S) | (refine wpl_v S rfl rfl rfl (sv_pickB S rfl rfl rfl rfl) ?_; clear S a; intro a S)
  (refine wpl_v S rfl rfl rfl (sv_pure S rfl) ?_; clear S a; intro a S)
  refine wpl_take S rfl rfl rfl ?_
  (refine wpl_v S rfl rfl rfl (sv_pure S rfl) ?_; clear S a; intro a S)
  refine wpl_take S rfl rfl rfl ?_
  (refine wpl_v S rfl rfl rfl (sv_pure S rfl) ?_; clear S a; intro a S)
  refine wpl_take S rfl rfl rfl ?_
  (refine wpl_v S rfl rfl rfl (sv_pure S rfl) ?_; clear S a; intro a S)
  refine wpl_take S rfl rfl rfl ?_
  (refine wpl_v S rfl rfl rfl (sv_pure S rfl) ?_; clear S a; intro a S)
  refine wpl_take S rfl rfl rfl ?_
  (refine wpl_call0 S rfl rfl rfl rfl rfl rfl (sameCt _ _ _ _ F (by simp [sameB])) rfl ?_; clear S a; intro v a w hv S; subst hv)
  refine wpl_take S rfl rfl rfl ?_
  (refine wpl_v S rfl rfl rfl (sv_lit (c := false) (sv_pure S rfl) (by rfl)) ?_; clear S a; intro a S)
  first | (refine wpl_v S rfl rfl rfl (sv_pure S rfl) ?_; clear S a; intro a S) | (refine wpl_v S rfl rfl rfl (sv_pickB S rfl rfl rfl rfl) ?_; clear S a; intro a S)
  refine wpList_nil ?_
  (refine hKq21 _ _ ?_; try (clear hKq21 Kq21))
  refine wpc_false S rfl ?_
  refine wp_skip ?_
  (refine hKq11 _ _ ?_; try (clear hKq11 Kq11))
  (refine wp_seq_k ?_; intro Kq22 hKq22)
  refine wp_region_lit ?_
  (refine wpl_v S rfl rfl rfl (sv_pure S rfl) ?_; clear S a; intro a S)
  (refine wpl_v S rfl rfl rfl (sv_pure S rfl) ?_; clear S a; intro a S)
  (refine wpl_call0 S rfl rfl rfl rfl rfl rfl (cD) rfl ?_; clear S a; intro v a w hv S; subst hv)
  (refine wpl_v S rfl rfl rfl (sv_pure S rfl) ?_; clear S a; intro a S)
  (refine wpl_v S rfl rfl rfl (sv_pure S rfl) ?_; clear S a; intro a S)
  (refine wpl_v S rfl rfl rfl (sv_pure S rfl) ?_; clear S a; intro a S)
  (refine wpl_v S rfl rfl rfl (sv_pure S rfl) ?_; clear S a; intro a S)
  (refine wpl_v S rfl rfl rfl (sv_pure S rfl) ?_; clear S a; intro a S)
  refine wpList_nil ?_
  (refine hKq22 _ _ ?_; try (clear hKq22 Kq22))
  (refine wp_seq_k ?_; intro Kq23 hKq23)
  refine wp_region_lit ?_
  (refine wpl_v S rfl rfl rfl (sv_pure S rfl) ?_; clear S a; intro a S)
  ((first | (refine wpl_call0 S rfl rfl rfl rfl rfl rfl (cN) rfl ?_) | (refine wpl_call0 S rfl rfl rfl rfl rfl rfl (cB) rfl ?_)); clear S a; intro v a w hv S; subst hv)
  (refine wpl_v S rfl rfl rfl (sv_pure S rfl) ?_; clear S a; intro a S)
  (refine wpl_v S rfl rfl rfl (sv_pure S rfl) ?_; clear S a; intro a S)
  (refine wpl_v S rfl rfl rfl (sv_pure S rfl) ?_; clear S a; intro a S)
  (refine wpl_v S rfl rfl rfl (sv_pure S rfl) ?_; clear S a; intro a S)
  (refine wpl_v S rfl rfl rfl (sv_pure S rfl) ?_; clear S a; intro a S)
  refine wpList_nil ?_
  (refine hKq23 _ _ ?_; try (clear hKq23 Kq23))
  (refine wp_seq_k ?_; intro Kq24 hKq24)
  refine wp_region_lit ?_
  (refine wpl_v S rfl rfl rfl (sv_pure S rfl) ?_; clear S a; intro a S)
  (refine wpl_v S rfl rfl rfl (sv_pure S rfl) ?_; clear S a; intro a S)
  ((first | (refine wpl_call0 S rfl rfl rfl rfl rfl rfl (cAB) rfl ?_) | (refine wpl_call0 S rfl rfl rfl rfl rfl rfl (cBA) rfl ?_) | (refine wpl_call0 S rfl rfl rfl rfl rfl rfl (cBC) rfl ?_) | (refine wpl_call0 S rfl rfl rfl rfl rfl rfl (cZ) rfl ?_) | (refine wpl_call0 S rfl rfl rfl rfl rfl rfl (cL) rfl ?_) | (refine wpl_call0 S rfl rfl rfl rfl rfl rfl (cR) rfl ?_) | (refine wpl_call0 S rfl rfl rfl rfl rfl rfl (cT) rfl ?_)); clear S a; intro v a w hv S; subst hv)
  (refine wpl_v S rfl rfl rfl (sv_pure S rfl) ?_; clear S a; intro a S)
  (refine wpl_v S rfl rfl rfl (sv_pure S rfl) ?_; clear S a; intro a S)
  (refine wpl_v S rfl rfl rfl (sv_pure S rfl) ?_; clear S a; intro a S)
  (refine wpl_v S rfl rfl rfl (sv_pure S rfl) ?_; clear S a; intro a S)
  (refine wpl_v S rfl rfl rfl (sv_pure S rfl) ?_; clear S a; intro a S)
  refine wpList_nil ?_
  (refine hKq24 _ _ ?_; try (clear hKq24 Kq24))
  (refine wp_seq_k ?_; intro Kq25 hKq25)
  refine wp_region_lit ?_
  (refine wpl_v S rfl rfl rfl (sv_pure S rfl) ?_; clear S a; intro a S)
  ((first | (refine wpl_call0 S rfl rfl rfl rfl rfl rfl (cN) rfl ?_) | (refine wpl_call0 S rfl rfl rfl rfl rfl rfl (cB) rfl ?_)); clear S a; intro v a w hv S; subst hv)
  (refine wpl_v S rfl rfl rfl (sv_pure S rfl) ?_; clear S a; intro a S)
  (refine wpl_v S rfl rfl rfl (sv_pure S rfl) ?_; clear S a; intro a S)
  (refine wpl_v S rfl rfl rfl (sv_pure S rfl) ?_; clear S a; intro a S)
  (refine wpl_v S rfl rfl rfl (sv_pure S rfl) ?_; clear S a; intro a S)
  (refine wpl_v S rfl rfl rfl (sv_pure S rfl) ?_; clear S a; intro a S)
  refine wpList_nil ?_
  (refine hKq25 _ _ ?_; try (clear hKq25 Kq25))
  (refine wp_seq_k ?_; intro Kq26 hKq26)
  refine wp_region_lit ?_
  (refine wpl_v S rfl rfl rfl (sv_pure S rfl) ?_; clear S a; intro a S)
  (refine wpl_v S rfl rfl rfl (sv_lit (c := true) (sv_pure S rfl) (by simp)) ?_; clear S a; intro a S)
  (refine wpl_v S rfl rfl rfl (sv_pure S rfl) ?_; clear S a; intro a S)
  refine wpl_take S rfl rfl rfl ?_
  (refine wpl_v S rfl rfl rfl (sv_pure S rfl) ?_; clear S a; intro a S)
  refine wpl_take S rfl rfl rfl ?_
  (refine wpl_v S rfl rfl rfl (sv_lit (c := true) (sv_pure S rfl) (by simp)) ?_; clear S a; intro a S)
  first | (refine wpl_v S rfl rfl rfl (sv_pure S rfl) ?_; clear S a; intro a S) | (refine wpl_v S rfl rfl rfl (sv_pickB S rfl rfl rfl rfl) ?_; clear S a; intro a S)
  (refine wpl_v S rfl rfl rfl (sv_pure S rfl) ?_; clear S a; intro a S)
  refine wpl_take S rfl rfl rfl ?_
  (refine wpl_v S rfl rfl rfl (sv_pure S rfl) ?_; clear S a; intro a S)
  refine wpl_take S rfl rfl rfl ?_
  (refine wpl_v S rfl rfl rfl (sv_pure S rfl) ?_; clear S a; intro a S)
  refine wpl_take S rfl rfl rfl ?_
  (refine wpl_v S rfl rfl rfl (sv_lit (c := true) (sv_pure S rfl) (by simp)) ?_; clear S a; intro a S)
  first | (refine wpl_v S rfl rfl rfl (sv_pure S rfl) ?_; clear S a; intro a S) | (refine wpl_v S rfl rfl rfl (sv_pickB S rfl rfl rfl rfl) ?_; clear S a; intro a S)
  (refine wpl_v S rfl rfl rfl (sv_pure S rfl) ?_; clear S a; intro a S)
  refine wpList_nil ?_
  (refine hKq26 _ _ ?_; try (clear hKq26 Kq26))
  refine wp_ret ?_
  refine fin_ret S (results1 Tryd.results8 (RV.tmp S rfl)) ?_
  rfl
theorem lawRing (s t u : List UInt8) (F : Heap) (hT : TabF F) (ha : s.length ≤ 140737488355328) (hb : t.length ≤ 140737488355328) (hc : u.length ≤ 140737488355328) : Ct Tryd.prog 8 [.string (bs s), .string (bs t), .string (bs u)] F [] (fun _ _ u => u = .bool true) := by
  by_cases h1 : checkS s = 0
  · by_cases h2 : checkS t = 0
    · by_cases h3 : checkS u = 0
      · by_cases hab : (doA 0 s t).2 = 0
        · by_cases hbc : (doA 0 t u).2 = 0
          · by_cases hq : (doA 2 s u).2 = 0
            · by_cases hs : (doA 2 t u).2 = 0
              · exact ringY1 s t u F hT h1 h2 h3 hab hbc hq hs
              · exact ringY3 s t u F hT h1 h2 h3 hab hbc hq hs
            · exact ringY2 s t u F hT h1 h2 h3 hab hbc hq
          · exact ringN2 s t u F hT h1 h2 h3 hab hbc
        · exact ringN1 s t u F hT h1 h2 h3 hab
      · exact ringE3 s t u F hT ha hb hc h1 h2 h3
    · exact ringE2 s t u F hT ha hb hc h1 h2
  · exact ringE1 s t u F hT ha hb hc h1
end Go.Proofs.YtmmpbpfdnpgklaaDoor
