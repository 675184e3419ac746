/- BigRest answers true. -/
import Derived.Test.YtmmpbpfdnpgklaaDoorRestE
namespace Go.Proofs.YtmmpbpfdnpgklaaDoor
open Go Go.Wk Go.Num
set_option linter.unusedSimpArgs false
set_option linter.unusedVariables false
attribute [local irreducible] Go.wpList Go.Code.wp Go.wpStill Go.Wk.wpPre Go.bodyPost Go.Calls Go.Wk.Ct Go.Wk.OwnS
attribute [local irreducible] Go.Wk.wpG Go.Wk.wpM

set_option maxRecDepth 10000 in
set_option maxHeartbeats 8000000 in
theorem restOk (s t : List UInt8) (F : Heap) (hT : TabF F) (h1 : checkS s = 0) (h2 : checkS t = 0) (h3 : t ≠ [48]) : Ct Tryd.prog 9 [.string (bs s), .string (bs t)] F [] (fun _ _ u => u = .bool true) := by
  obtain ⟨f1, f2, f3, f4, f5, f6, f7, f8, f9⟩ := rest_facts h1 h2 h3
  have ls := len_ok h1
  have lt := len_ok h2
  have lq := len_ok f3
  have lr := len_ok f4
  have lp := doA_len 2 t (doA 3 s t).1
  have hs0 : 0 < s.length := List.length_pos_iff.2 (fun e => by subst e; cases h1)
  have hr0 : 0 < (doA 4 s t).1.length := List.length_pos_iff.2 (fun e => by rw [e] at f4; cases f4)
  have lb1 := bodyS_len (doA 4 s t).1
  have lb2 := bodyS_len t
  have c1 := bdivCt2 s t F hT (by omega) (by omega)
  have c2 := bmodCt2 s t F hT (by omega) (by omega)
  have c3 := bmulCt t (doA 3 s t).1 F hT (by omega) (by omega)
  have c4 := baddCt (doA 2 t (doA 3 s t).1).1 (doA 4 s t).1 F hT (by omega) (by omega)
  have c5 := bcmpCt2 (bodyS (doA 4 s t).1) (bodyS t) F hT (by omega) (by omega)
  have c6 := sizeOfCt (doA 4 s t).1 F (by omega)
  have c7 := sizeOfCt t F (by omega)
  rw [f6] at c4
  rw [if_pos f8, f9] at c5
  generalize doA 2 t (doA 3 s t).1 = p at *
  generalize doA 3 s t = q at *
  generalize doA 4 s t = r at *
  by_cases hz : r.1 = [48]
  · skip
    refine Ct.enter Tryd.func9 rfl Tryd.ntmps9 rfl fun w0 a S => ?_
    (refine wp_seq_k ?_; intro Kq1 hKq1)
    refine wp_region_lit ?_
    (refine wpl_v S rfl rfl rfl (sv_pure S rfl) ?_; clear S a; intro a S)
    refine wpList_nil ?_
    (refine hKq1 _ _ ?_; try (clear hKq1 Kq1))
    (refine wp_seq_k ?_; intro Kq2 hKq2)
    (refine wp_seq_k ?_; intro Kq3 hKq3)
    refine wp_region_lit ?_
    (refine wpl_call0 S rfl rfl rfl rfl rfl rfl (worksCt F hT) rfl ?_; clear S a; intro v a w hv S; subst hv)
    (refine wpl_v S rfl rfl rfl (sv_lit (c := false) (sv_pure S rfl) (by rfl)) ?_; clear S a; intro a S)
    (refine wpl_v S rfl rfl rfl (sv_pure S rfl) ?_; clear S a; intro a S)
    refine wpl_take S rfl rfl rfl ?_
    (refine wpl_v S rfl rfl rfl (sv_pure S rfl) ?_; clear S a; intro a S)
    refine wpl_take S rfl rfl rfl ?_
    ((first | (refine wpl_call0 S rfl rfl rfl rfl rfl rfl (checkCt s F (by omega)) rfl ?_) | (refine wpl_call0 S rfl rfl rfl rfl rfl rfl (checkCt t F (by omega)) rfl ?_)); clear S a; intro v a w hv S; subst hv)
    refine wpl_take S rfl rfl rfl ?_
    (refine wpl_v S rfl rfl rfl (sv_lit (c := false) (sv_pure S rfl) (by simpa using h1)) ?_; clear S a; intro a S)
    first | (refine wpl_v S rfl rfl rfl (sv_pure S rfl) ?_; clear S a; intro a S) | (refine wpl_v S rfl rfl rfl (sv_pickB S rfl rfl rfl rfl) ?_; clear S a; intro a S)
    (refine wpl_v S rfl rfl rfl (sv_pure S rfl) ?_; clear S a; intro a S)
    refine wpl_take S rfl rfl rfl ?_
    (refine wpl_v S rfl rfl rfl (sv_pure S rfl) ?_; clear S a; intro a S)
    refine wpl_take S rfl rfl rfl ?_
    ((first | (refine wpl_call0 S rfl rfl rfl rfl rfl rfl (checkCt s F (by omega)) rfl ?_) | (refine wpl_call0 S rfl rfl rfl rfl rfl rfl (checkCt t F (by omega)) rfl ?_)); clear S a; intro v a w hv S; subst hv)
    refine wpl_take S rfl rfl rfl ?_
    (refine wpl_v S rfl rfl rfl (sv_lit (c := false) (sv_pure S rfl) (by simpa using h2)) ?_; clear S a; intro a S)
    first | (refine wpl_v S rfl rfl rfl (sv_pure S rfl) ?_; clear S a; intro a S) | (refine wpl_v S rfl rfl rfl (sv_pickB S rfl rfl rfl rfl) ?_; clear S a; intro a S)
    (refine wpl_v S rfl rfl rfl (sv_pure S rfl) ?_; clear S a; intro a S)
    refine wpl_take S rfl rfl rfl ?_
    (refine wpl_v S rfl rfl rfl (sv_pure S rfl) ?_; clear S a; intro a S)
    refine wpl_take S rfl rfl rfl ?_
    (refine wpl_v S rfl rfl rfl (sv_lit (c := false) (sv_pure S rfl) (by simpa using h3)) ?_; clear S a; intro a S)
    first | (refine wpl_v S rfl rfl rfl (sv_pure S rfl) ?_; clear S a; intro a S) | (refine wpl_v S rfl rfl rfl (sv_pickB S rfl rfl rfl rfl) ?_; clear S a; intro a S)
    refine wpList_nil ?_
    (refine hKq3 _ _ ?_; try (clear hKq3 Kq3))
    refine wpc_false S rfl ?_
    refine wp_skip ?_
    (refine hKq2 _ _ ?_; try (clear hKq2 Kq2))
    (refine wp_seq_k ?_; intro Kq4 hKq4)
    refine wp_region_lit ?_
    (refine wpl_v S rfl rfl rfl (sv_pure S rfl) ?_; clear S a; intro a S)
    (refine wpl_v S rfl rfl rfl (sv_pure S rfl) ?_; clear S a; intro a S)
    (refine wpl_call0 S rfl rfl rfl rfl rfl rfl (c1) rfl ?_; clear S a; intro v a w hv S; subst hv)
    (refine wpl_v S rfl rfl rfl (sv_pure S rfl) ?_; clear S a; intro a S)
    (refine wpl_v S rfl rfl rfl (sv_pure S rfl) ?_; clear S a; intro a S)
    (refine wpl_v S rfl rfl rfl (sv_pure S rfl) ?_; clear S a; intro a S)
    (refine wpl_v S rfl rfl rfl (sv_pure S rfl) ?_; clear S a; intro a S)
    (refine wpl_v S rfl rfl rfl (sv_pure S rfl) ?_; clear S a; intro a S)
    refine wpList_nil ?_
    (refine hKq4 _ _ ?_; try (clear hKq4 Kq4))
    (refine wp_seq_k ?_; intro Kq5 hKq5)
    refine wp_region_lit ?_
    (refine wpl_v S rfl rfl rfl (sv_pure S rfl) ?_; clear S a; intro a S)
    (refine wpl_v S rfl rfl rfl (sv_pure S rfl) ?_; clear S a; intro a S)
    (refine wpl_call0 S rfl rfl rfl rfl rfl rfl (c2) rfl ?_; clear S a; intro v a w hv S; subst hv)
    (refine wpl_v S rfl rfl rfl (sv_pure S rfl) ?_; clear S a; intro a S)
    (refine wpl_v S rfl rfl rfl (sv_pure S rfl) ?_; clear S a; intro a S)
    (refine wpl_v S rfl rfl rfl (sv_pure S rfl) ?_; clear S a; intro a S)
    (refine wpl_v S rfl rfl rfl (sv_pure S rfl) ?_; clear S a; intro a S)
    (refine wpl_v S rfl rfl rfl (sv_pure S rfl) ?_; clear S a; intro a S)
    refine wpList_nil ?_
    (refine hKq5 _ _ ?_; try (clear hKq5 Kq5))
    (refine wp_seq_k ?_; intro Kq6 hKq6)
    refine wp_region_lit ?_
    (refine wpl_v S rfl rfl rfl (sv_pure S rfl) ?_; clear S a; intro a S)
    (refine wpl_v S rfl rfl rfl (sv_pure S rfl) ?_; clear S a; intro a S)
    (refine wpl_call0 S rfl rfl rfl rfl rfl rfl (c3) rfl ?_; clear S a; intro v a w hv S; subst hv)
    (refine wpl_v S rfl rfl rfl (sv_pure S rfl) ?_; clear S a; intro a S)
    (refine wpl_v S rfl rfl rfl (sv_pure S rfl) ?_; clear S a; intro a S)
    (refine wpl_v S rfl rfl rfl (sv_pure S rfl) ?_; clear S a; intro a S)
    (refine wpl_v S rfl rfl rfl (sv_pure S rfl) ?_; clear S a; intro a S)
    (refine wpl_v S rfl rfl rfl (sv_pure S rfl) ?_; clear S a; intro a S)
    refine wpList_nil ?_
    (refine hKq6 _ _ ?_; try (clear hKq6 Kq6))
    (refine wp_seq_k ?_; intro Kq7 hKq7)
    refine wp_region_lit ?_
    (refine wpl_v S rfl rfl rfl (sv_pure S rfl) ?_; clear S a; intro a S)
    (refine wpl_v S rfl rfl rfl (sv_pure S rfl) ?_; clear S a; intro a S)
    (refine wpl_call0 S rfl rfl rfl rfl rfl rfl (c4) rfl ?_; clear S a; intro v a w hv S; subst hv)
    (refine wpl_v S rfl rfl rfl (sv_pure S rfl) ?_; clear S a; intro a S)
    (refine wpl_v S rfl rfl rfl (sv_pure S rfl) ?_; clear S a; intro a S)
    (refine wpl_v S rfl rfl rfl (sv_pure S rfl) ?_; clear S a; intro a S)
    (refine wpl_v S rfl rfl rfl (sv_pure S rfl) ?_; clear S a; intro a S)
    (refine wpl_v S rfl rfl rfl (sv_pure S rfl) ?_; clear S a; intro a S)
    refine wpList_nil ?_
    (refine hKq7 _ _ ?_; try (clear hKq7 Kq7))
    (refine wp_seq_k ?_; intro Kq8 hKq8)
    (refine wp_seq_k ?_; intro Kq9 hKq9)
    (refine wpc_mixM [0, 1, 2, 3, 4, 5, 6, 7, 8, 9, 10, 11, 12, 13, 14, 15, 16, 17, 18, 19, 20, 21, 22, 23, 24, 25, 26, 27, 28, 29, 30, 31] [] [] (.one 0 (.one 1 (.one 2 (.one 3 (.one 4 (.one 5 (.one 6 (.one 7 (.one 8 (.one 9 (.one 10 (.one 11 (.one 12 (.one 13 (.one 14 (.one 15 (.one 16 (.one 17 (.one 18 (.one 19 (.one 20 (.one 21 (.one 22 (.one 23 (.one 24 (.one 25 (.one 26 (.one 27 (.one 28 (.one 29 (.one 30 (.one 31 .nil)))))))))))))))))))))))))))))))) [] S mixed (by kernel_rfl) ?_; clear S; intro w S)
    (refine wpm_v S rfl rfl rfl (want_none _ rfl) rfl rfl (fun w' S => sv_pure S rfl) ?_; clear S a; intro a S)
    (refine wpm_v S rfl rfl rfl (want_none _ rfl) rfl rfl (fun w' S => sv_lit (c := false) (sv_pure S rfl) (by simpa using f1)) ?_; clear S a; intro a S)
    (refine wpm_v S rfl rfl rfl (want_none _ rfl) rfl rfl (fun w' S => sv_pure S rfl) ?_; clear S a; intro a S)
    (refine wpm_v S rfl rfl rfl (want_yes S rfl rfl rfl) rfl rfl (fun w' S => sv_pure S rfl) ?_; clear S a; intro a S)
    (refine wpm_v S rfl rfl rfl (want_yes S rfl rfl rfl) rfl rfl (fun w' S => sv_lit (c := false) (sv_pure S rfl) (by simpa using f2)) ?_; clear S a; intro a S)
    first | (refine wpm_v S rfl rfl rfl (want_none _ rfl) rfl rfl (fun w' S => sv_pure S rfl) ?_; clear S a; intro a S) | (refine wpm_v S rfl rfl rfl (want_none _ rfl) rfl rfl (fun w' S => sv_pickB S rfl rfl rfl rfl) ?_; clear S a; intro a S)
    (refine wpm_v S rfl rfl rfl (want_none _ rfl) rfl rfl (fun w' S => sv_pure S rfl) ?_; clear S a; intro a S)
    (refine wpm_v S rfl rfl rfl (want_yes S rfl rfl rfl) rfl rfl (fun w' S => sv_pure S rfl) ?_; clear S a; intro a S)
    (refine wpm_v S rfl rfl rfl (want_yes S rfl rfl rfl) rfl rfl (fun w' S => sv_lit (c := false) (sv_pure S rfl) (by simpa using f5)) ?_; clear S a; intro a S)
    first | (refine wpm_v S rfl rfl rfl (want_none _ rfl) rfl rfl (fun w' S => sv_pure S rfl) ?_; clear S a; intro a S) | (refine wpm_v S rfl rfl rfl (want_none _ rfl) rfl rfl (fun w' S => sv_pickB S rfl rfl rfl rfl) ?_; clear S a; intro a S)
    (refine wpm_v S rfl rfl rfl (want_none _ rfl) rfl rfl (fun w' S => sv_pure S rfl) ?_; clear S a; intro a S)
    (refine wpm_v S rfl rfl rfl (want_yes S rfl rfl rfl) rfl rfl (fun w' S => sv_pure S rfl) ?_; clear S a; intro a S)
    (refine wpm_v S rfl rfl rfl (want_yes S rfl rfl rfl) rfl rfl (fun w' S => sv_lit (c := false) (sv_pure S rfl) (by rfl)) ?_; clear S a; intro a S)
    first | (refine wpm_v S rfl rfl rfl (want_none _ rfl) rfl rfl (fun w' S => sv_pure S rfl) ?_; clear S a; intro a S) | (refine wpm_v S rfl rfl rfl (want_none _ rfl) rfl rfl (fun w' S => sv_pickB S rfl rfl rfl rfl) ?_; clear S a; intro a S)
    (refine wpm_v S rfl rfl rfl (want_none _ rfl) rfl rfl (fun w' S => sv_pure S rfl) ?_; clear S a; intro a S)
    (refine wpm_v S rfl rfl rfl (want_yes S rfl rfl rfl) rfl rfl (fun w' S => sv_pure S rfl) ?_; clear S a; intro a S)
    (refine wpm_v S rfl rfl rfl (want_yes S rfl rfl rfl) rfl rfl (fun w' S => sv_pure S rfl) ?_; clear S a; intro a S)
    (refine wpm_v S rfl rfl rfl (want_yes S rfl rfl rfl) rfl rfl (fun w' S => sv_lit (c := false) (sv_pure S rfl) (by simp)) ?_; clear S a; intro a S)
    first | (refine wpm_v S rfl rfl rfl (want_none _ rfl) rfl rfl (fun w' S => sv_pure S rfl) ?_; clear S a; intro a S) | (refine wpm_v S rfl rfl rfl (want_none _ rfl) rfl rfl (fun w' S => sv_pickB S rfl rfl rfl rfl) ?_; clear S a; intro a S)
    (refine wpm_v S rfl rfl rfl (want_none _ rfl) rfl rfl (fun w' S => sv_pure S rfl) ?_; clear S a; intro a S)
    (refine wpm_v S rfl rfl rfl (want_yes S rfl rfl rfl) rfl rfl (fun w' S => sv_pure S rfl) ?_; clear S a; intro a S)
    (refine wpm_v S rfl rfl rfl (want_yes S rfl rfl rfl) rfl rfl (fun w' S => sv_lit (c := false) (sv_pure S rfl) (by simp [hz])) ?_; clear S a; intro a S)
    (refine wpm_v S rfl rfl rfl (want_yes S rfl rfl rfl) rfl rfl (fun w' S => sv_pure S rfl) ?_; clear S a; intro a S)
    (refine wpm_skip S rfl rfl (want_no S rfl rfl rfl) rfl rfl ?_; clear S a; intro a S)
    (refine wpm_skip S rfl rfl (want_no S rfl rfl rfl) rfl rfl ?_; clear S a; intro a S)
    (refine wpm_skip S rfl rfl (want_no S rfl rfl rfl) rfl rfl ?_; clear S a; intro a S)
    (refine wpm_skip S rfl rfl (want_no S rfl rfl rfl) rfl rfl ?_; clear S a; intro a S)
    (refine wpm_skip S rfl rfl (want_no S rfl rfl rfl) rfl rfl ?_; clear S a; intro a S)
    (refine wpm_skip S rfl rfl (want_no S rfl rfl rfl) rfl rfl ?_; clear S a; intro a S)
    (refine wpm_skip S rfl rfl (want_no S rfl rfl rfl) rfl rfl ?_; clear S a; intro a S)
    first | (refine wpm_v S rfl rfl rfl (want_yes S rfl rfl rfl) rfl rfl (fun w' S => sv_pure S rfl) ?_; clear S a; intro a S) | (refine wpm_v S rfl rfl rfl (want_yes S rfl rfl rfl) rfl rfl (fun w' S => sv_pickB S rfl rfl rfl rfl) ?_; clear S a; intro a S)
    first | (refine wpm_v S rfl rfl rfl (want_none _ rfl) rfl rfl (fun w' S => sv_pure S rfl) ?_; clear S a; intro a S) | (refine wpm_v S rfl rfl rfl (want_none _ rfl) rfl rfl (fun w' S => sv_pickB S rfl rfl rfl rfl) ?_; clear S a; intro a S)
    refine wpm_nil (fun _ => ⟨fun b o h => S.tr.frz b o (by first | exact h | solve_by_elim), trivial⟩) ?_
    (refine hKq9 _ _ ?_; try (clear hKq9 Kq9))
    refine wpc_false S rfl ?_
    refine wp_skip ?_
    (refine hKq8 _ _ ?_; try (clear hKq8 Kq8))
    (refine wp_seq_k ?_; intro Kq10 hKq10)
    refine wp_region_lit ?_
    (refine wpl_v S rfl rfl rfl (sv_pure S rfl) ?_; clear S a; intro a S)
    ((first | (refine wpl_call0 S rfl rfl rfl rfl rfl rfl c6 rfl ?_) | (refine wpl_call0 S rfl rfl rfl rfl rfl rfl c7 rfl ?_)); clear S a; intro v a w hv S; subst hv)
    (refine wpl_v S rfl rfl rfl (sv_pure S rfl) ?_; clear S a; intro a S)
    ((first | (refine wpl_call0 S rfl rfl rfl rfl rfl rfl c6 rfl ?_) | (refine wpl_call0 S rfl rfl rfl rfl rfl rfl c7 rfl ?_)); clear S a; intro v a w hv S; subst hv)
    (refine wpl_call0 S rfl rfl rfl rfl rfl rfl (c5) rfl ?_; clear S a; intro v a w hv S; subst hv)
    (refine wpl_v S rfl rfl rfl (sv_pure S rfl) ?_; clear S a; intro a S)
    (refine wpl_v S rfl rfl rfl (sv_pure S rfl) ?_; clear S a; intro a S)
    (refine wpl_v S rfl rfl rfl (sv_pure S rfl) ?_; clear S a; intro a S)
    (refine wpl_v S rfl rfl rfl (sv_pure S rfl) ?_; clear S a; intro a S)
    (refine wpl_v S rfl rfl rfl (sv_pure S rfl) ?_; clear S a; intro a S)
    refine wpList_nil ?_
    (refine hKq10 _ _ ?_; try (clear hKq10 Kq10))
    (refine wp_seq_k ?_; intro Kq11 hKq11)
    refine wp_region_lit ?_
    (refine wpl_v S rfl rfl rfl (sv_pure S rfl) ?_; clear S a; intro a S)
    (refine wpl_v S rfl rfl rfl (sv_lit (c := true) (sv_pure S rfl) (by rfl)) ?_; clear S a; intro a S)
    (refine wpl_v S rfl rfl rfl (sv_pure S rfl) ?_; clear S a; intro a S)
    refine wpl_take S rfl rfl rfl ?_
    (refine wpl_v S rfl rfl rfl (sv_pure S rfl) ?_; clear S a; intro a S)
    refine wpl_take S rfl rfl rfl ?_
    (refine wpl_v S rfl rfl rfl (sv_lit (c := true) (sv_pure S rfl) (by rfl)) ?_; clear S a; intro a S)
    first | (refine wpl_v S rfl rfl rfl (sv_pure S rfl) ?_; clear S a; intro a S) | (refine wpl_v S rfl rfl rfl (sv_pickB S rfl rfl rfl rfl) ?_; clear S a; intro a S)
    (refine wpl_v S rfl rfl rfl (sv_pure S rfl) ?_; clear S a; intro a S)
    refine wpList_nil ?_
    (refine hKq11 _ _ ?_; try (clear hKq11 Kq11))
    refine wp_ret ?_
    refine fin_ret S (results1 Tryd.results9 (RV.tmp S rfl)) ?_
    rfl
  · have hh : ((((r.1.getD 0 0).toNat : Nat) : Int) == 45) = ((((s.getD 0 0).toNat : Nat) : Int) == 45) := by
      have h9 := f7 hz
      rw [decide_eq_decide] at h9
      rw [Bool.eq_iff_iff, beq_iff_eq, beq_iff_eq]
      omega
    refine Ct.enter Tryd.func9 rfl Tryd.ntmps9 rfl fun w0 a S => ?_
    (refine wp_seq_k ?_; intro Kq1 hKq1)
    refine wp_region_lit ?_
    (refine wpl_v S rfl rfl rfl (sv_pure S rfl) ?_; clear S a; intro a S)
    refine wpList_nil ?_
    (refine hKq1 _ _ ?_; try (clear hKq1 Kq1))
    (refine wp_seq_k ?_; intro Kq2 hKq2)
    (refine wp_seq_k ?_; intro Kq3 hKq3)
    refine wp_region_lit ?_
    (refine wpl_call0 S rfl rfl rfl rfl rfl rfl (worksCt F hT) rfl ?_; clear S a; intro v a w hv S; subst hv)
    (refine wpl_v S rfl rfl rfl (sv_lit (c := false) (sv_pure S rfl) (by rfl)) ?_; clear S a; intro a S)
    (refine wpl_v S rfl rfl rfl (sv_pure S rfl) ?_; clear S a; intro a S)
    refine wpl_take S rfl rfl rfl ?_
    (refine wpl_v S rfl rfl rfl (sv_pure S rfl) ?_; clear S a; intro a S)
    refine wpl_take S rfl rfl rfl ?_
    ((first | (refine wpl_call0 S rfl rfl rfl rfl rfl rfl (checkCt s F (by omega)) rfl ?_) | (refine wpl_call0 S rfl rfl rfl rfl rfl rfl (checkCt t F (by omega)) rfl ?_)); clear S a; intro v a w hv S; subst hv)
    refine wpl_take S rfl rfl rfl ?_
    (refine wpl_v S rfl rfl rfl (sv_lit (c := false) (sv_pure S rfl) (by simpa using h1)) ?_; clear S a; intro a S)
    first | (refine wpl_v S rfl rfl rfl (sv_pure S rfl) ?_; clear S a; intro a S) | (refine wpl_v S rfl rfl rfl (sv_pickB S rfl rfl rfl rfl) ?_; clear S a; intro a S)
    (refine wpl_v S rfl rfl rfl (sv_pure S rfl) ?_; clear S a; intro a S)
    refine wpl_take S rfl rfl rfl ?_
    (refine wpl_v S rfl rfl rfl (sv_pure S rfl) ?_; clear S a; intro a S)
    refine wpl_take S rfl rfl rfl ?_
    ((first | (refine wpl_call0 S rfl rfl rfl rfl rfl rfl (checkCt s F (by omega)) rfl ?_) | (refine wpl_call0 S rfl rfl rfl rfl rfl rfl (checkCt t F (by omega)) rfl ?_)); clear S a; intro v a w hv S; subst hv)
    refine wpl_take S rfl rfl rfl ?_
    (refine wpl_v S rfl rfl rfl (sv_lit (c := false) (sv_pure S rfl) (by simpa using h2)) ?_; clear S a; intro a S)
    first | (refine wpl_v S rfl rfl rfl (sv_pure S rfl) ?_; clear S a; intro a S) | (refine wpl_v S rfl rfl rfl (sv_pickB S rfl rfl rfl rfl) ?_; clear S a; intro a S)
    (refine wpl_v S rfl rfl rfl (sv_pure S rfl) ?_; clear S a; intro a S)
    refine wpl_take S rfl rfl rfl ?_
    (refine wpl_v S rfl rfl rfl (sv_pure S rfl) ?_; clear S a; intro a S)
    refine wpl_take S rfl rfl rfl ?_
    (refine wpl_v S rfl rfl rfl (sv_lit (c := false) (sv_pure S rfl) (by simpa using h3)) ?_; clear S a; intro a S)
    first | (refine wpl_v S rfl rfl rfl (sv_pure S rfl) ?_; clear S a; intro a S) | (refine wpl_v S rfl rfl rfl (sv_pickB S rfl rfl rfl rfl) ?_; clear S a; intro a S)
    refine wpList_nil ?_
    (refine hKq3 _ _ ?_; try (clear hKq3 Kq3))
    refine wpc_false S rfl ?_
    refine wp_skip ?_
    (refine hKq2 _ _ ?_; try (clear hKq2 Kq2))
    (refine wp_seq_k ?_; intro Kq4 hKq4)
    refine wp_region_lit ?_
    (refine wpl_v S rfl rfl rfl (sv_pure S rfl) ?_; clear S a; intro a S)
    (refine wpl_v S rfl rfl rfl (sv_pure S rfl) ?_; clear S a; intro a S)
    (refine wpl_call0 S rfl rfl rfl rfl rfl rfl (c1) rfl ?_; clear S a; intro v a w hv S; subst hv)
    (refine wpl_v S rfl rfl rfl (sv_pure S rfl) ?_; clear S a; intro a S)
    (refine wpl_v S rfl rfl rfl (sv_pure S rfl) ?_; clear S a; intro a S)
    (refine wpl_v S rfl rfl rfl (sv_pure S rfl) ?_; clear S a; intro a S)
    (refine wpl_v S rfl rfl rfl (sv_pure S rfl) ?_; clear S a; intro a S)
    (refine wpl_v S rfl rfl rfl (sv_pure S rfl) ?_; clear S a; intro a S)
    refine wpList_nil ?_
    (refine hKq4 _ _ ?_; try (clear hKq4 Kq4))
    (refine wp_seq_k ?_; intro Kq5 hKq5)
    refine wp_region_lit ?_
    (refine wpl_v S rfl rfl rfl (sv_pure S rfl) ?_; clear S a; intro a S)
    (refine wpl_v S rfl rfl rfl (sv_pure S rfl) ?_; clear S a; intro a S)
    (refine wpl_call0 S rfl rfl rfl rfl rfl rfl (c2) rfl ?_; clear S a; intro v a w hv S; subst hv)
    (refine wpl_v S rfl rfl rfl (sv_pure S rfl) ?_; clear S a; intro a S)
    (refine wpl_v S rfl rfl rfl (sv_pure S rfl) ?_; clear S a; intro a S)
    (refine wpl_v S rfl rfl rfl (sv_pure S rfl) ?_; clear S a; intro a S)
    (refine wpl_v S rfl rfl rfl (sv_pure S rfl) ?_; clear S a; intro a S)
    (refine wpl_v S rfl rfl rfl (sv_pure S rfl) ?_; clear S a; intro a S)
    refine wpList_nil ?_
    (refine hKq5 _ _ ?_; try (clear hKq5 Kq5))
    (refine wp_seq_k ?_; intro Kq6 hKq6)
    refine wp_region_lit ?_
    (refine wpl_v S rfl rfl rfl (sv_pure S rfl) ?_; clear S a; intro a S)
    (refine wpl_v S rfl rfl rfl (sv_pure S rfl) ?_; clear S a; intro a S)
    (refine wpl_call0 S rfl rfl rfl rfl rfl rfl (c3) rfl ?_; clear S a; intro v a w hv S; subst hv)
    (refine wpl_v S rfl rfl rfl (sv_pure S rfl) ?_; clear S a; intro a S)
    (refine wpl_v S rfl rfl rfl (sv_pure S rfl) ?_; clear S a; intro a S)
    (refine wpl_v S rfl rfl rfl (sv_pure S rfl) ?_; clear S a; intro a S)
    (refine wpl_v S rfl rfl rfl (sv_pure S rfl) ?_; clear S a; intro a S)
    (refine wpl_v S rfl rfl rfl (sv_pure S rfl) ?_; clear S a; intro a S)
    refine wpList_nil ?_
    (refine hKq6 _ _ ?_; try (clear hKq6 Kq6))
    (refine wp_seq_k ?_; intro Kq7 hKq7)
    refine wp_region_lit ?_
    (refine wpl_v S rfl rfl rfl (sv_pure S rfl) ?_; clear S a; intro a S)
    (refine wpl_v S rfl rfl rfl (sv_pure S rfl) ?_; clear S a; intro a S)
    (refine wpl_call0 S rfl rfl rfl rfl rfl rfl (c4) rfl ?_; clear S a; intro v a w hv S; subst hv)
    (refine wpl_v S rfl rfl rfl (sv_pure S rfl) ?_; clear S a; intro a S)
    (refine wpl_v S rfl rfl rfl (sv_pure S rfl) ?_; clear S a; intro a S)
    (refine wpl_v S rfl rfl rfl (sv_pure S rfl) ?_; clear S a; intro a S)
    (refine wpl_v S rfl rfl rfl (sv_pure S rfl) ?_; clear S a; intro a S)
    (refine wpl_v S rfl rfl rfl (sv_pure S rfl) ?_; clear S a; intro a S)
    refine wpList_nil ?_
    (refine hKq7 _ _ ?_; try (clear hKq7 Kq7))
    (refine wp_seq_k ?_; intro Kq8 hKq8)
    (refine wp_seq_k ?_; intro Kq9 hKq9)
    (refine wpc_mixM [0, 1, 2, 3, 4, 5, 6, 7, 8, 9, 10, 11, 12, 13, 14, 15, 16, 17, 18, 19, 20, 21, 22, 23, 24, 25, 26, 27, 28, 29, 30, 31] [] [] (.one 0 (.one 1 (.one 2 (.one 3 (.one 4 (.one 5 (.one 6 (.one 7 (.one 8 (.one 9 (.one 10 (.one 11 (.one 12 (.one 13 (.one 14 (.one 15 (.one 16 (.one 17 (.one 18 (.one 19 (.one 20 (.one 21 (.one 22 (.one 23 (.one 24 (.one 25 (.one 26 (.one 27 (.one 28 (.one 29 (.one 30 (.one 31 .nil)))))))))))))))))))))))))))))))) [] S mixed (by kernel_rfl) ?_; clear S; intro w S)
    (refine wpm_v S rfl rfl rfl (want_none _ rfl) rfl rfl (fun w' S => sv_pure S rfl) ?_; clear S a; intro a S)
    (refine wpm_v S rfl rfl rfl (want_none _ rfl) rfl rfl (fun w' S => sv_lit (c := false) (sv_pure S rfl) (by simpa using f1)) ?_; clear S a; intro a S)
    (refine wpm_v S rfl rfl rfl (want_none _ rfl) rfl rfl (fun w' S => sv_pure S rfl) ?_; clear S a; intro a S)
    (refine wpm_v S rfl rfl rfl (want_yes S rfl rfl rfl) rfl rfl (fun w' S => sv_pure S rfl) ?_; clear S a; intro a S)
    (refine wpm_v S rfl rfl rfl (want_yes S rfl rfl rfl) rfl rfl (fun w' S => sv_lit (c := false) (sv_pure S rfl) (by simpa using f2)) ?_; clear S a; intro a S)
    first | (refine wpm_v S rfl rfl rfl (want_none _ rfl) rfl rfl (fun w' S => sv_pure S rfl) ?_; clear S a; intro a S) | (refine wpm_v S rfl rfl rfl (want_none _ rfl) rfl rfl (fun w' S => sv_pickB S rfl rfl rfl rfl) ?_; clear S a; intro a S)
    (refine wpm_v S rfl rfl rfl (want_none _ rfl) rfl rfl (fun w' S => sv_pure S rfl) ?_; clear S a; intro a S)
    (refine wpm_v S rfl rfl rfl (want_yes S rfl rfl rfl) rfl rfl (fun w' S => sv_pure S rfl) ?_; clear S a; intro a S)
    (refine wpm_v S rfl rfl rfl (want_yes S rfl rfl rfl) rfl rfl (fun w' S => sv_lit (c := false) (sv_pure S rfl) (by simpa using f5)) ?_; clear S a; intro a S)
    first | (refine wpm_v S rfl rfl rfl (want_none _ rfl) rfl rfl (fun w' S => sv_pure S rfl) ?_; clear S a; intro a S) | (refine wpm_v S rfl rfl rfl (want_none _ rfl) rfl rfl (fun w' S => sv_pickB S rfl rfl rfl rfl) ?_; clear S a; intro a S)
    (refine wpm_v S rfl rfl rfl (want_none _ rfl) rfl rfl (fun w' S => sv_pure S rfl) ?_; clear S a; intro a S)
    (refine wpm_v S rfl rfl rfl (want_yes S rfl rfl rfl) rfl rfl (fun w' S => sv_pure S rfl) ?_; clear S a; intro a S)
    (refine wpm_v S rfl rfl rfl (want_yes S rfl rfl rfl) rfl rfl (fun w' S => sv_lit (c := false) (sv_pure S rfl) (by rfl)) ?_; clear S a; intro a S)
    first | (refine wpm_v S rfl rfl rfl (want_none _ rfl) rfl rfl (fun w' S => sv_pure S rfl) ?_; clear S a; intro a S) | (refine wpm_v S rfl rfl rfl (want_none _ rfl) rfl rfl (fun w' S => sv_pickB S rfl rfl rfl rfl) ?_; clear S a; intro a S)
    (refine wpm_v S rfl rfl rfl (want_none _ rfl) rfl rfl (fun w' S => sv_pure S rfl) ?_; clear S a; intro a S)
    (refine wpm_v S rfl rfl rfl (want_yes S rfl rfl rfl) rfl rfl (fun w' S => sv_pure S rfl) ?_; clear S a; intro a S)
    (refine wpm_v S rfl rfl rfl (want_yes S rfl rfl rfl) rfl rfl (fun w' S => sv_pure S rfl) ?_; clear S a; intro a S)
    (refine wpm_v S rfl rfl rfl (want_yes S rfl rfl rfl) rfl rfl (fun w' S => sv_lit (c := false) (sv_pure S rfl) (by simp)) ?_; clear S a; intro a S)
    first | (refine wpm_v S rfl rfl rfl (want_none _ rfl) rfl rfl (fun w' S => sv_pure S rfl) ?_; clear S a; intro a S) | (refine wpm_v S rfl rfl rfl (want_none _ rfl) rfl rfl (fun w' S => sv_pickB S rfl rfl rfl rfl) ?_; clear S a; intro a S)
    (refine wpm_v S rfl rfl rfl (want_none _ rfl) rfl rfl (fun w' S => sv_pure S rfl) ?_; clear S a; intro a S)
    (refine wpm_v S rfl rfl rfl (want_yes S rfl rfl rfl) rfl rfl (fun w' S => sv_pure S rfl) ?_; clear S a; intro a S)
    (refine wpm_v S rfl rfl rfl (want_yes S rfl rfl rfl) rfl rfl (fun w' S => sv_lit (c := true) (sv_pure S rfl) (by simpa using hz)) ?_; clear S a; intro a S)
    (refine wpm_v S rfl rfl rfl (want_yes S rfl rfl rfl) rfl rfl (fun w' S => sv_pure S rfl) ?_; clear S a; intro a S)
    (refine wpm_v S rfl rfl rfl (want_yes S rfl rfl rfl) rfl rfl (fun w' S => sv_pure S rfl) ?_; clear S a; intro a S)
    (refine wpm_v S rfl rfl rfl (want_yes S rfl rfl rfl) rfl rfl (fun w' S => sv_indexSN (i := 0) S rfl rfl rfl (by omega)) ?_; clear S a; intro a S)
    (refine wpm_v S rfl rfl rfl (want_yes S rfl rfl rfl) rfl rfl (fun w' S => sv_pure S rfl) ?_; clear S a; intro a S)
    (refine wpm_v S rfl rfl rfl (want_yes S rfl rfl rfl) rfl rfl (fun w' S => sv_pure S rfl) ?_; clear S a; intro a S)
    (refine wpm_v S rfl rfl rfl (want_yes S rfl rfl rfl) rfl rfl (fun w' S => sv_indexSN (i := 0) S rfl rfl rfl (by omega)) ?_; clear S a; intro a S)
    (refine wpm_v S rfl rfl rfl (want_yes S rfl rfl rfl) rfl rfl (fun w' S => sv_pure S rfl) ?_; clear S a; intro a S)
    (refine wpm_v S rfl rfl rfl (want_yes S rfl rfl rfl) rfl rfl (fun w' S => sv_lit (c := false) (sv_neB S rfl rfl rfl) (by rw [hh]; simp)) ?_; clear S a; intro a S)
    first | (refine wpm_v S rfl rfl rfl (want_yes S rfl rfl rfl) rfl rfl (fun w' S => sv_pure S rfl) ?_; clear S a; intro a S) | (refine wpm_v S rfl rfl rfl (want_yes S rfl rfl rfl) rfl rfl (fun w' S => sv_pickB S rfl rfl rfl rfl) ?_; clear S a; intro a S)
    first | (refine wpm_v S rfl rfl rfl (want_none _ rfl) rfl rfl (fun w' S => sv_pure S rfl) ?_; clear S a; intro a S) | (refine wpm_v S rfl rfl rfl (want_none _ rfl) rfl rfl (fun w' S => sv_pickB S rfl rfl rfl rfl) ?_; clear S a; intro a S)
    refine wpm_nil (fun _ => ⟨fun b o h => S.tr.frz b o (by first | exact h | solve_by_elim), trivial⟩) ?_
    (refine hKq9 _ _ ?_; try (clear hKq9 Kq9))
    refine wpc_false S rfl ?_
    refine wp_skip ?_
    (refine hKq8 _ _ ?_; try (clear hKq8 Kq8))
    (refine wp_seq_k ?_; intro Kq10 hKq10)
    refine wp_region_lit ?_
    (refine wpl_v S rfl rfl rfl (sv_pure S rfl) ?_; clear S a; intro a S)
    ((first | (refine wpl_call0 S rfl rfl rfl rfl rfl rfl c6 rfl ?_) | (refine wpl_call0 S rfl rfl rfl rfl rfl rfl c7 rfl ?_)); clear S a; intro v a w hv S; subst hv)
    (refine wpl_v S rfl rfl rfl (sv_pure S rfl) ?_; clear S a; intro a S)
    ((first | (refine wpl_call0 S rfl rfl rfl rfl rfl rfl c6 rfl ?_) | (refine wpl_call0 S rfl rfl rfl rfl rfl rfl c7 rfl ?_)); clear S a; intro v a w hv S; subst hv)
    (refine wpl_call0 S rfl rfl rfl rfl rfl rfl (c5) rfl ?_; clear S a; intro v a w hv S; subst hv)
    (refine wpl_v S rfl rfl rfl (sv_pure S rfl) ?_; clear S a; intro a S)
    (refine wpl_v S rfl rfl rfl (sv_pure S rfl) ?_; clear S a; intro a S)
    (refine wpl_v S rfl rfl rfl (sv_pure S rfl) ?_; clear S a; intro a S)
    (refine wpl_v S rfl rfl rfl (sv_pure S rfl) ?_; clear S a; intro a S)
    (refine wpl_v S rfl rfl rfl (sv_pure S rfl) ?_; clear S a; intro a S)
    refine wpList_nil ?_
    (refine hKq10 _ _ ?_; try (clear hKq10 Kq10))
    (refine wp_seq_k ?_; intro Kq11 hKq11)
    refine wp_region_lit ?_
    (refine wpl_v S rfl rfl rfl (sv_pure S rfl) ?_; clear S a; intro a S)
    (refine wpl_v S rfl rfl rfl (sv_lit (c := true) (sv_pure S rfl) (by rfl)) ?_; clear S a; intro a S)
    (refine wpl_v S rfl rfl rfl (sv_pure S rfl) ?_; clear S a; intro a S)
    refine wpl_take S rfl rfl rfl ?_
    (refine wpl_v S rfl rfl rfl (sv_pure S rfl) ?_; clear S a; intro a S)
    refine wpl_take S rfl rfl rfl ?_
    (refine wpl_v S rfl rfl rfl (sv_lit (c := true) (sv_pure S rfl) (by rfl)) ?_; clear S a; intro a S)
    first | (refine wpl_v S rfl rfl rfl (sv_pure S rfl) ?_; clear S a; intro a S) | (refine wpl_v S rfl rfl rfl (sv_pickB S rfl rfl rfl rfl) ?_; clear S a; intro a S)
    (refine wpl_v S rfl rfl rfl (sv_pure S rfl) ?_; clear S a; intro a S)
    refine wpList_nil ?_
    (refine hKq11 _ _ ?_; try (clear hKq11 Kq11))
    refine wp_ret ?_
    refine fin_ret S (results1 Tryd.results9 (RV.tmp S rfl)) ?_
    rfl
theorem lawRest (s t : List UInt8) (F : Heap) (hT : TabF F) (ha : s.length ≤ 140737488355328) (hb : t.length ≤ 140737488355328) : Ct Tryd.prog 9 [.string (bs s), .string (bs t)] F [] (fun _ _ u => u = .bool true) := by
  by_cases h1 : checkS s = 0
  · by_cases h2 : checkS t = 0
    · by_cases h3 : t = [48]
      · exact restE3 s t F hT ha hb h1 h2 h3
      · exact restOk s t F hT h1 h2 h3
    · exact restE2 s t F hT ha hb h1 h2
  · exact restE1 s t F hT ha hb h1
end Go.Proofs.YtmmpbpfdnpgklaaDoor
