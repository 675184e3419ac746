/- The statement Rows.EvalUnseenUptoCardSaid: whatever the law EvalUnseen is called with, of bulk at most 1048576, it answers true and leaves all as it was, the variables of the library lying as the program's text lays them. -/
import Derived.Test.YtigblodhdfnleaaGreatDoorEwL
import Derived.Deep.DeepHandedRow
import Derived.Deep.DeepWitnessRowRef
namespace Go.Proofs.YtigblodhdfnleaaGreatDoor
open Go Go.Wk Go.Un Go.De Go.ChangeShapes Go.WideShapes Go.ChangeAt Go.RowKit
set_option linter.unusedSimpArgs false
set_option linter.unusedVariables false
open Go.ChangeMaps (open_string shut_string)

theorem unseenReads (os : Os) {H : Type} (enc : TypeId × Value → H) : ∃ ds places, DataW.whole enc Tryz.prog ((startW os).forCall (fun _ _ => 0) ⟨#[], #[.agg #[.int .u8 0, .int .i64 0, .int .i64 0, .string ⟨#[]⟩, .int .u8 0, .int .i64 0, .string ⟨#[]⟩, .slice none 0 0, .slice none 0 0], .agg #[.int .u8 0, .int .i64 0, .int .i64 0, .string ⟨#[]⟩, .int .u8 0, .int .i64 0, .string ⟨#[]⟩, .slice none 0 0, .slice none 0 0], .slice none 0 0, .agg #[.string ⟨#[]⟩, .int .u8 0, .int .i64 0, .string ⟨#[]⟩, .slice none 0 0]], []⟩).memory Tryz.f4.params.toList Rows.evalUnseenSpec.vars false #[Value.agg #[.int .u8 0, .int .i64 0, .int .i64 0, .string ⟨#[]⟩, .int .u8 0, .int .i64 0, .string ⟨#[]⟩, .slice none 0 0, .slice none 0 0], .agg #[.int .u8 0, .int .i64 0, .int .i64 0, .string ⟨#[]⟩, .int .u8 0, .int .i64 0, .string ⟨#[]⟩, .slice none 0 0, .slice none 0 0], .slice none 0 0, .agg #[.string ⟨#[]⟩, .int .u8 0, .int .i64 0, .string ⟨#[]⟩, .slice none 0 0]].toList 8 = some (ds, [], places) ∧ Rows.uptoSmall H (ds ++ []) = true :=
  ⟨[.agg [.lit (.int .u8 0), .agg [.lit (.int .i64 0), .lit (.int .i64 0)], .lit (.string []), .agg [.lit (.int .u8 0), .lit (.int .i64 0), .lit (.string []), .nil], .nil], .agg [.lit (.int .u8 0), .agg [.lit (.int .i64 0), .lit (.int .i64 0)], .lit (.string []), .agg [.lit (.int .u8 0), .lit (.int .i64 0), .lit (.string []), .nil], .nil], .nil, .agg [.lit (.string []), .agg [.lit (.int .u8 0), .lit (.int .i64 0), .lit (.string []), .nil]]], [], by kernel_rfl, by kernel_rfl⟩
set_option maxRecDepth 100000 in
theorem evalUnseenLifted (os : Os) (started : os.Started) (H : Type) (enc : TypeId × Value → H) (F : Stop.Interp) :
    ReturnsInHanded {} Tryz.checked os 4 .any ((Rows.OpenSpec.upto Rows.evalUnseenSpec).preRow enc Tryz.prog Tryz.f4 Rows.evalUnseenUptoRow.domain false Rows.evalUnseenUptoRow.laid) (((Rows.OpenSpec.upto Rows.evalUnseenSpec).at F).post enc Tryz.prog Tryz.f4 false true false false) := by
  obtain ⟨ds0, places, hx, hk0⟩ := unseenReads os enc
  refine returnsInHanded_of_row (C := Tryz.checked) (s := Rows.OpenSpec.upto Rows.evalUnseenSpec) ownK started (by kernel_rfl) Tryz.func4
    (witness_row_atRef (enc := enc) (C := Tryz.checked) false (startW os) #[.agg #[.int .u8 0, .int .i64 0, .int .i64 0, .string ⟨#[]⟩, .int .u8 0, .int .i64 0, .string ⟨#[]⟩, .slice none 0 0, .slice none 0 0], .agg #[.int .u8 0, .int .i64 0, .int .i64 0, .string ⟨#[]⟩, .int .u8 0, .int .i64 0, .string ⟨#[]⟩, .slice none 0 0, .slice none 0 0], .slice none 0 0, .agg #[.string ⟨#[]⟩, .int .u8 0, .int .i64 0, .string ⟨#[]⟩, .slice none 0 0]] (startW_os os) (by kernel_rfl) (by kernel_rfl) (by kernel_rfl)
      (OpenSpec.preRow_of_cond 8 hx (by kernel_rfl) (fun k hk => by cases hk; exact hk0) (by kernel_rfl) (doorE os _))) ?_
  intro W base args ds gs before hval0 hW _ hcond hsz hL _ _
  have hval : ∀ (j : Nat) t v, Tryz.f4.params[j]? = some t → args[j]? = some v → Value.okWide Tryz.prog W .any base t v := hval0
  have hW' := hW
  obtain ⟨p, q, hA0, hV, rfl, hfz, hnd⟩ := hW
  have hA : DataW.TrodAll enc Tryz.prog W 0 (fun _ => true) true Tryz.f4.params.toList args.toList ds p := hA0
  have hsz' : (DataW.weightsEach Tryz.prog (Tryz.f4.params.toList ++ _) (ds ++ gs)).all (· ≤ reachBytes) = true := hsz
  rw [Tryz.params4] at hA hval hsz'
  obtain ⟨v0, vs0, d0, ds0, p0, q0, hargs, rfl, rfl, h0, r0⟩ := trodAll_cons hA
  obtain ⟨v1, vs1, d1, ds1, p1, q1, rfl, rfl, rfl, h1, r1⟩ := trodAll_cons r0
  obtain ⟨v2, vs2, d2, ds2, p2, q2, rfl, rfl, rfl, h2, r2⟩ := trodAll_cons r1
  obtain ⟨v3, vs3, d3, ds3, p3, q3, rfl, rfl, rfl, h3, r3⟩ := trodAll_cons r2
  obtain ⟨rfl, rfl, rfl⟩ := trodAll_nil r3
  obtain rfl : args = #[v0, v1, v2, v3] := by cases args; simp_all
  obtain ⟨rfl, rfl⟩ := trodVars_none hV
  have hbk : Rows.uptoBulkAll ([d0, d1, d2, d3] ++ []) ≤ 1048576 := of_decide_eq_true (hcond _ rfl)
  simp only [List.append_nil, Rows.uptoBulkAll] at hbk
  have hwt : ∀ (j : Nat) (t : TypeId) (d : DataW H), ([34, 34, 43, 45] : List TypeId)[j]? = some t → ([d0, d1, d2, d3] : List (DataW H))[j]? = some d → (d.weights Tryz.prog t).all (· ≤ reachBytes) = true := fun j t d ht hd => by
    rw [List.all_eq_true] at hsz' ⊢
    intro n hn
    refine hsz' n (DataW.weights_mem_each (j := j) (t := t) (d := d) ?_ ?_ n hn)
    · match j, ht with
      | 0, ht => exact ht
      | 1, ht => exact ht
      | 2, ht => exact ht
      | 3, ht => exact ht
    · match j, hd with
      | 0, hd => exact hd
      | 1, hd => exact hd
      | 2, hd => exact hd
      | 3, hd => exact hd
  have k0 := h0
  have k1 := h1
  have k2 := h2
  have k3 := h3
  have lt0 : ∀ x ∈ p0, x.block < W.heap.size := by obtain ⟨m, hm⟩ := k0; exact DataW.trod_lt m _ _ _ hm
  have lt1 : ∀ x ∈ p1, x.block < W.heap.size := by obtain ⟨m, hm⟩ := k1; exact DataW.trod_lt m _ _ _ hm
  have lt2 : ∀ x ∈ p2, x.block < W.heap.size := by obtain ⟨m, hm⟩ := k2; exact DataW.trod_lt m _ _ _ hm
  have lt3 : ∀ x ∈ p3, x.block < W.heap.size := by obtain ⟨m, hm⟩ := k3; exact DataW.trod_lt m _ _ _ hm
  obtain ⟨c0, rfl, -⟩ := okWide_struct Tryz.underlying34 (hval 0 34 v0 rfl rfl)
  obtain ⟨c1, rfl, -⟩ := okWide_struct Tryz.underlying34 (hval 1 34 v1 rfl rfl)
  obtain ⟨a2, len2, cap2, rfl⟩ := okWide_slice Tryz.underlying43 (hval 2 43 v2 rfl rfl)
  obtain ⟨c3, rfl, -⟩ := okWide_struct Tryz.underlying45 (hval 3 45 v3 rfl rfl)
  obtain ⟨f0, hf0⟩ := h0
  obtain ⟨f1, hf1⟩ := h1
  obtain ⟨f2, hf2⟩ := h2
  obtain ⟨f3, hf3⟩ := h3
  obtain ⟨-, x0, hR0, hN0⟩ := o_expr 1048577 (by decide) f0 _ _ _ (by omega) hf0 (hwt 0 _ _ rfl rfl)
  obtain ⟨-, x1, hR1, hN1⟩ := o_expr 1048577 (by decide) f1 _ _ _ (by omega) hf1 (hwt 1 _ _ rfl rfl)
  obtain ⟨u2, l2, e2, hl2, hN2⟩ := o_vars 1048577 (by decide) f2 _ _ _ (by omega) hf2 (hwt 2 _ _ rfl rfl)
  obtain rfl : Value.slice a2 len2 cap2 = u2 := (List.cons.inj e2).1
  obtain ⟨-, x3, hR3, hN3⟩ := o_var 1048577 (by decide) f3 _ _ _ (by omega) hf3 (hwt 3 _ _ rfl rfl)
  have hT := tab_of_laidE hL
  have e0 := hN0.2
  have e1 := hN1.2
  refine (evalUnseenCt (heapOf W) hT.1 hT.2 x0 x1 l2 x3 c0.toList c1.toList c3.toList _ hN0.1 (by omega) hN1.1 (by omega) hN2 (fun x hx => by rw [List.mem_singleton.1 hx]; exact hN3) (ror_exc hR0) (ror_exc hR1) hl2 hR3 W (at_heapOf W)).mono fun e W' ⟨u, F', G', he, htr, hu⟩ => ?_
  subst he; subst hu
  have bel := below_of htr
  exact ⟨_, rfl, _, _, _, [], _, [], hW', trodAll_mk1 (shut_bool Tryz.underlying4 _), (trodAll_cons_mk (Below.trod laidOut (by kernel_rfl) (of_decide_eq_true (by kernel_rfl)) k0 bel lt0) (trodAll_cons_mk (Below.trod laidOut (by kernel_rfl) (of_decide_eq_true (by kernel_rfl)) k1 bel lt1) (trodAll_cons_mk (Below.trod laidOut (by kernel_rfl) (of_decide_eq_true (by kernel_rfl)) k2 bel lt2) (trodAll_cons_mk (Below.trod laidOut (by kernel_rfl) (of_decide_eq_true (by kernel_rfl)) k3 bel lt3) trodAll_mk0)))), rfl, bel.frame _, fun h => by cases h⟩
theorem evalUnseenRow_holds : Rows.EvalUnseenUptoSaid :=
  OpenClaim.holds_of_cond 4 Tryz.f4 rfl rfl rfl rfl rfl rfl rfl ⟨rfl, rfl, rfl, rfl, rfl⟩ rfl rfl rfl rfl rfl (by kernel_rfl) Tryz.func4 (by kernel_rfl)
    (of_decide_eq_true (by kernel_rfl)) (by unfold Func.isWrapper; first | (rw [if_pos (by decide +kernel)]; kernel_rfl) | (rw [if_neg (by decide +kernel)]; exact ⟨rfl, rfl⟩))
    (fun os started H enc _ F => by rw [OpenClaim.pre_eq_preRow]; exact evalUnseenLifted os started H enc F)
theorem evalUnseen_holds : Rows.EvalUnseenUptoCardSaid :=
  Claim7.holds_tied_plain_at .later [] _ _ _ _ evalUnseenRow_holds (fun _ h => by cases h) (by kernel_rfl) (fun _ h => by cases h) evalUnseenUpto_row_tie rfl ⟨rfl, rfl⟩ (by kernel_rfl) rfl
    (fun f fn hf hfn => by
      obtain rfl : f = 4 := Option.some.inj ((show Tryz.prog.funcNamed "corollary/corollarylaw13.EvalUnseen" = some 4 by kernel_rfl).symm.trans hf) |>.symm
      obtain rfl : fn = Tryz.f4 := (Option.some.inj (Tryz.func4.symm.trans hfn)).symm
      exact ⟨by kernel_rfl, fun j t ht => by
        rw [Tryz.params4] at ht
        have hm : t ∈ [34, 34, 43, 45] := by simpa using Array.mem_of_getElem? ht
        have hall : ([34, 34, 43, 45].all fun u => !Tryz.prog.wantsStandIn u) = true := by kernel_rfl
        exact (show Tryz.prog.wantsStandIn t = false by simpa using List.all_eq_true.1 hall t hm)⟩)
    (by kernel_rfl)
#print axioms evalUnseen_holds
end Go.Proofs.YtigblodhdfnleaaGreatDoor
