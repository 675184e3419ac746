/- Walks. -/
import Derived.Test.YthnafdbebniapaaGreatDoorKCoverFits06
set_option maxRecDepth 100000
namespace Go.Proofs.YthnafdbebniapaaGreatDoor
open Go Go.Wk Go.Un Go.De Go.ChangeShapes Go.WideShapes Go.ChangeAt Go.RowKit
set_option linter.unusedSimpArgs false
set_option linter.unusedVariables false
open Go.ChangeMaps (open_string shut_string)
theorem coverFitsLifted (os : Os) (started : os.Started) (H : Type) (enc : TypeId × Value → H) :
  ReturnsInHanded {} Tryz.checked os 4 .any (fun w args => (Rows.coverFitsSpec.pre enc Tryz.prog Tryz.f4 [] false w args ∧ laidMetH Tryz.prog laidA w) ∧ sizedMet enc Tryz.prog Tryz.f4 (OpenSpec.ofChange Rows.coverFitsSpec) false w args)
   (Rows.coverFitsSpec.post enc Tryz.prog Tryz.f4 false true false false) := by
 refine change_and_shaped (C := Tryz.checked) (X := fun w _ => laidMetH Tryz.prog laidA w) (fun _ _ _ hh h => h.of_heap hh) ownK started (by kernel_rfl) Tryz.func4
  (ChangeSpec.witness_shaped (enc := enc) (C := Tryz.checked) (os := os) (X := fun w _ => laidMetH Tryz.prog laidA w) false (startW os) #[.slice none 0 0, .agg #[.int .u8 0, .int .i64 0, .int .i64 0, .string ⟨#[]⟩, .int .u8 0, .int .i64 0, .string ⟨#[]⟩, .slice none 0 0, .slice none 0 0], .agg #[.string ⟨#[]⟩, .slice none 0 0]] 8 (startW_os os) (World.shaped_of_RefB (by kernel_rfl) (by kernel_rfl)) (by kernel_rfl) (by kernel_rfl) (by kernel_rfl) (doorA os _)) ?_
 intro W base args ds gs before hval0 hW hsz hL hSh
 have hval : ∀ (j : Nat) t v, Tryz.f4.params[j]? = some t → args[j]? = some v → Value.okWide Tryz.prog W .any base t v := hval0
 have hW' := hW
 obtain ⟨p, q, hA0, hV, rfl, hfz, hnd⟩ := hW
 have hA : DataW.TrodAll enc Tryz.prog W 0 (fun _ => true) true Tryz.f4.params.toList args.toList ds p := hA0
 have hsz' : (DataW.weightsEach Tryz.prog (Tryz.f4.params.toList ++ _) (ds ++ gs)).all (· ≤ reachBytes) = true := hsz
 rw [Tryz.params4] at hA hval hsz'
 obtain ⟨v0, vs0, d0, ds0, p0, q0, hargs, rfl, rfl, h0, r0⟩ := trodAll_cons hA
 obtain ⟨v1, vs1, d1, ds1, p1, q1, rfl, rfl, rfl, h1, r1⟩ := trodAll_cons r0
 obtain ⟨v2, vs2, d2, ds2, p2, q2, rfl, rfl, rfl, h2, r2⟩ := trodAll_cons r1
 obtain ⟨rfl, rfl, rfl⟩ := trodAll_nil r2
 obtain rfl : args = #[v0, v1, v2] := by cases args; simp_all
 obtain ⟨rfl, rfl⟩ := trodVars_none hV
 have hw0 : (d0.weights Tryz.prog 46).all (· ≤ reachBytes) = true := by
  rw [List.all_eq_true] at hsz' ⊢
  intro n hn
  exact hsz' n (DataW.weights_mem_each (j := 0) rfl rfl n hn)
 have k0 := h0
 have lt0 : ∀ x ∈ p0, x.block < W.heap.size := by obtain ⟨m, hm⟩ := k0; exact DataW.trod_lt m _ _ _ hm
 obtain ⟨a0, len0, cap0, rfl⟩ := okWide_slice Tryz.underlying46 (hval 0 46 v0 rfl rfl)
 obtain ⟨f0, hf0⟩ := h0
 have o0 := o_tds _ f0 _ _ _ (Nat.lt_succ_self _) hf0 hw0
 obtain ⟨u0, l0, e0, hl0⟩ := o0
 obtain rfl : Value.slice a0 len0 cap0 = u0 := (List.cons.inj e0).1
 have hw1 : (d1.weights Tryz.prog 29).all (· ≤ reachBytes) = true := by
  rw [List.all_eq_true] at hsz' ⊢
  intro n hn
  exact hsz' n (DataW.weights_mem_each (j := 1) rfl rfl n hn)
 have k1 := h1
 have lt1 : ∀ x ∈ p1, x.block < W.heap.size := by obtain ⟨m, hm⟩ := k1; exact DataW.trod_lt m _ _ _ hm
 obtain ⟨c1, rfl, -⟩ := okWide_struct Tryz.underlying29 (hval 1 29 v1 rfl rfl)
 obtain ⟨f1, hf1⟩ := h1
 have o1 := o_expr _ f1 _ _ _ (Nat.lt_succ_self _) hf1 hw1
 obtain ⟨-, ⟨eh1, L1⟩, hX1, hq1⟩ := o1
 have hw2 : (d2.weights Tryz.prog 49).all (· ≤ reachBytes) = true := by
  rw [List.all_eq_true] at hsz' ⊢
  intro n hn
  exact hsz' n (DataW.weights_mem_each (j := 2) rfl rfl n hn)
 have k2 := h2
 have lt2 : ∀ x ∈ p2, x.block < W.heap.size := by obtain ⟨m, hm⟩ := k2; exact DataW.trod_lt m _ _ _ hm
 obtain ⟨c2, rfl, -⟩ := okWide_struct Tryz.underlying49 (hval 2 49 v2 rfl rfl)
 obtain ⟨f2, hf2⟩ := h2
 have o2 := o_ty _ f2 _ _ _ (Nat.lt_succ_self _) hf2 hw2
 obtain ⟨-, ⟨nm2, ar2⟩, ht2⟩ := o2
 have hT := vars_of hL
 refine (fitsFr (heapOf W) (maxF_of hSh) hT.1 hT.2 l0 eh1 L1 c1.toList nm2 ar2 c2.toList hl0 hX1 hq1 ht2 W (at_heapOf W)).mono fun e W' ⟨u, F', G', he, htr, hu⟩ => ?_
 subst he; subst hu
 have bel := below_of htr
 exact ⟨_, rfl, _, _, _, [], _, [], hW', trodAll_mk1 (shut_bool Tryz.underlying4 _), (trodAll_cons_mk (Below.trod laidOut (by kernel_rfl) (of_decide_eq_true (by kernel_rfl)) k0 bel lt0) (trodAll_cons_mk (Below.trod laidOut (by kernel_rfl) (of_decide_eq_true (by kernel_rfl)) k1 bel lt1) (trodAll_cons_mk (Below.trod laidOut (by kernel_rfl) (of_decide_eq_true (by kernel_rfl)) k2 bel lt2) trodAll_mk0))), rfl, bel.frame _, fun h => by cases h⟩
end Go.Proofs.YthnafdbebniapaaGreatDoor
