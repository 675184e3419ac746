/- Walks. -/
import Derived.Test.YtgefmjghdijbfaaGreatDoorKEvalValuesUpto13
import Derived.Test.YtgefmjghdijbfaaGreatDoorQ15
import Derived.Test.YtgefmjghdijbfaaGreatDoorQ14
import Derived.Test.YtgefmjghdijbfaaGreatDoorKEvalValuesUpto07
import Derived.Test.YtgefmjghdijbfaaGreatDoorQ05
import Derived.Test.YtgefmjghdijbfaaGreatDoorKEvalValuesUpto01
import Derived.Test.YtgefmjghdijbfaaGreatDoorKEvalValuesUpto06
import Derived.Deep.DeepHandedRow
import Derived.Deep.DeepWitnessRowRef
set_option maxRecDepth 100000
namespace Go.Proofs.YtgefmjghdijbfaaGreatDoor
open Go Go.Wk Go.Un Go.De Go.ChangeShapes Go.WideShapes Go.ChangeAt Go.RowKit
set_option linter.unusedSimpArgs false
set_option linter.unusedVariables false
open Go.ChangeMaps (open_string shut_string)
theorem evalValuesReads (os : Os) {H : Type} (enc : TypeId × Value → H) : ∃ ds places, DataW.whole enc Tryz.prog ((startW os).forCall (fun _ _ => 0) ⟨#[], #[.agg #[.string ⟨#[]⟩, .slice none 0 0, .slice none 0 0, .slice none 0 0, .slice none 0 0, .slice none 0 0], .agg #[.int .u8 0, .int .i64 0, .int .i64 0, .string ⟨#[]⟩, .int .u8 0, .int .i64 0, .string ⟨#[]⟩, .slice none 0 0, .slice none 0 0], .slice none 0 0], []⟩).memory Tryz.f3.params.toList Rows.evalValuesSpec.vars false (#[.agg #[.string ⟨#[]⟩, .slice none 0 0, .slice none 0 0, .slice none 0 0, .slice none 0 0, .slice none 0 0], .agg #[.int .u8 0, .int .i64 0, .int .i64 0, .string ⟨#[]⟩, .int .u8 0, .int .i64 0, .string ⟨#[]⟩, .slice none 0 0, .slice none 0 0], .slice none 0 0] : Array Value).toList 8 = some (ds, [], places) ∧ decide (Rows.uptoBulkAll (ds ++ []) ≤ 1048576) = true :=
 ⟨[.agg [.lit (.string []), .nil, .nil, .nil, .nil, .nil], .agg [.lit (.int .u8 0), .agg [.lit (.int .i64 0), .lit (.int .i64 0)], .lit (.string []), .agg [.lit (.int .u8 0), .lit (.int .i64 0), .lit (.string []), .nil], .nil], .nil], [], by kernel_rfl, by kernel_rfl⟩
theorem evalValuesLifted (os : Os) (started : os.Started) (H : Type) (enc : TypeId × Value → H) (F : Stop.Interp) :
  ReturnsInHanded {} Tryz.checked os 3 .any ((Rows.OpenSpec.upto Rows.evalValuesSpec).preRow enc Tryz.prog Tryz.f3 Rows.evalValuesUptoRow.domain false Rows.evalValuesUptoRow.laid) (((Rows.OpenSpec.upto Rows.evalValuesSpec).at F).post enc Tryz.prog Tryz.f3 false true false false) := by
 obtain ⟨ds0, places, hx, hk0⟩ := evalValuesReads os enc
 refine returnsInHanded_of_row (C := Tryz.checked) (s := Rows.OpenSpec.upto Rows.evalValuesSpec) ownK started (by kernel_rfl) Tryz.func3
  (witness_row_atRef (enc := enc) (C := Tryz.checked) false (startW os) #[.agg #[.string ⟨#[]⟩, .slice none 0 0, .slice none 0 0, .slice none 0 0, .slice none 0 0, .slice none 0 0], .agg #[.int .u8 0, .int .i64 0, .int .i64 0, .string ⟨#[]⟩, .int .u8 0, .int .i64 0, .string ⟨#[]⟩, .slice none 0 0, .slice none 0 0], .slice none 0 0] (startW_os os) (by kernel_rfl) (by kernel_rfl) (by kernel_rfl)
   (OpenSpec.preRow_of_cond 8 hx (by kernel_rfl) (fun k hk => by cases hk; exact hk0) (by kernel_rfl) (doorA os _))) ?_
 intro W base args ds gs before hval0 hW _ hcond hsz hL hSh _
 have hval : ∀ (j : Nat) t v, Tryz.f3.params[j]? = some t → args[j]? = some v → Value.okWide Tryz.prog W .any base t v := hval0
 have hW' := hW
 obtain ⟨p, q, hA0, hV, rfl, hfz, hnd⟩ := hW
 have hA : DataW.TrodAll enc Tryz.prog W 0 (fun _ => true) true Tryz.f3.params.toList args.toList ds p := hA0
 have hsz' : (DataW.weightsEach Tryz.prog (Tryz.f3.params.toList ++ _) (ds ++ gs)).all (· ≤ reachBytes) = true := hsz
 rw [Tryz.params3] at hA hval hsz'
 obtain ⟨v0, vs0, d0, ds0, p0, q0, hargs, rfl, rfl, h0, r0⟩ := trodAll_cons hA
 obtain ⟨v1, vs1, d1, ds1, p1, q1, rfl, rfl, rfl, h1, r1⟩ := trodAll_cons r0
 obtain ⟨v2, vs2, d2, ds2, p2, q2, rfl, rfl, rfl, h2, r2⟩ := trodAll_cons r1
 obtain ⟨rfl, rfl, rfl⟩ := trodAll_nil r2
 obtain rfl : args = #[v0, v1, v2] := by cases args; simp_all
 obtain ⟨rfl, rfl⟩ := trodVars_none hV
 have hbk : Rows.uptoBulkAll ([d0, d1, d2] ++ []) ≤ 1048576 := of_decide_eq_true (hcond _ rfl)
 simp only [List.append_nil, Rows.uptoBulkAll] at hbk
 have hwt : ∀ (j : Nat) (t : TypeId) (d : DataW H), ([28, 36, 37] : List TypeId)[j]? = some t → ([d0, d1, d2] : List (DataW H))[j]? = some d → (d.weights Tryz.prog t).all (· ≤ reachBytes) = true := fun j t d ht hd => by
  rw [List.all_eq_true] at hsz' ⊢
  intro n hn
  refine hsz' n (DataW.weights_mem_each (j := j) (t := t) (d := d) ?_ ?_ n hn)
  ·match j, ht with
   | 0, ht => exact ht
   | 1, ht => exact ht
   | 2, ht => exact ht
  ·match j, hd with
   | 0, hd => exact hd
   | 1, hd => exact hd
   | 2, hd => exact hd
 have k0 := h0
 have lt0 : ∀ x ∈ p0, x.block < W.heap.size := by obtain ⟨m, hm⟩ := k0; exact DataW.trod_lt m _ _ _ hm
 obtain ⟨c0, rfl, -⟩ := okWide_struct Tryz.underlying28 (hval 0 28 v0 rfl rfl)
 obtain ⟨f0, hf0⟩ := h0
 obtain ⟨-, x0, hR0, hq0⟩ := modZ 1048577 (by omega) f0 _ _ _ (by omega) hf0 (hwt 0 _ _ rfl rfl)
 have k1 := h1
 have lt1 : ∀ x ∈ p1, x.block < W.heap.size := by obtain ⟨m, hm⟩ := k1; exact DataW.trod_lt m _ _ _ hm
 obtain ⟨c1, rfl, -⟩ := okWide_struct Tryz.underlying36 (hval 1 36 v1 rfl rfl)
 obtain ⟨f1, hf1⟩ := h1
 obtain ⟨-, x1, hR1, hq1⟩ := o_expr 1048577 (by omega) f1 _ _ _ (by omega) hf1 (hwt 1 _ _ rfl rfl)
 have k2 := h2
 have lt2 : ∀ x ∈ p2, x.block < W.heap.size := by obtain ⟨m, hm⟩ := k2; exact DataW.trod_lt m _ _ _ hm
 obtain ⟨a2, len2, cap2, rfl⟩ := okWide_slice Tryz.underlying37 (hval 2 37 v2 rfl rfl)
 obtain ⟨f2, hf2⟩ := h2
 obtain ⟨u2, l2, e2, hl2, hq2⟩ := o_vars 1048577 (by omega) f2 _ _ _ (by omega) hf2 (hwt 2 _ _ rfl rfl)
 obtain rfl : Value.slice a2 len2 cap2 = u2 := (List.cons.inj e2).1
 have hT := vars_of hL
 refine (evalValuesFr (heapOf W) hT x0 c0.toList x1 c1.toList l2 hR0 hq0 hR1 hq1 hl2 hq2 W (at_heapOf W)).mono fun e W' ⟨u, F', G', he, htr, hu⟩ => ?_
 subst he; subst hu
 have bel := below_of htr
 exact ⟨_, rfl, _, _, _, [], _, [], hW', trodAll_mk1 (shut_bool Tryz.underlying4 _), (trodAll_cons_mk (Below.trod laidOut (by kernel_rfl) (of_decide_eq_true (by kernel_rfl)) k0 bel lt0) (trodAll_cons_mk (Below.trod laidOut (by kernel_rfl) (of_decide_eq_true (by kernel_rfl)) k1 bel lt1) (trodAll_cons_mk (Below.trod laidOut (by kernel_rfl) (of_decide_eq_true (by kernel_rfl)) k2 bel lt2) trodAll_mk0))), rfl, bel.frame _, fun h => by cases h⟩
end Go.Proofs.YtgefmjghdijbfaaGreatDoor
