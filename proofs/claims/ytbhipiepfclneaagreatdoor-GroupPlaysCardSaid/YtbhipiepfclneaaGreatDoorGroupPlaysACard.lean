/- Walks. -/
import Derived.Test.YtbhipiepfclneaaGreatDoorKGroupPlays13
set_option maxRecDepth 100000
namespace Go.Proofs.YtbhipiepfclneaaGreatDoor
open Go Go.Wk Go.Un Go.De Go.ChangeShapes Go.WideShapes Go.ChangeAt Go.RowKit
set_option linter.unusedSimpArgs false
set_option linter.unusedVariables false
open Go.ChangeMaps (open_string shut_string)
theorem groupPlaysLifted (os : Os) (started : os.Started) (H : Type) (enc : TypeId × Value → H) :
  ReturnsInHanded {} Tryz.checked os 5 .any (fun w args => (Rows.groupPlaysSpec.pre enc Tryz.prog Tryz.f5 [] false w args ∧ laidMetH Tryz.prog qgx w) ∧ sizedMet enc Tryz.prog Tryz.f5 (OpenSpec.ofChange Rows.groupPlaysSpec) false w args)
   (Rows.groupPlaysSpec.post enc Tryz.prog Tryz.f5 false true false false) := by
 refine returnsInHanded_of_change_and (C := Tryz.checked) (X := fun w _ => laidMetH Tryz.prog qgx w) (fun _ _ _ hh h => h.of_heap hh) ubb started (by kernel_rfl) Tryz.func5
  (ChangeSpec.witness_shaped (enc := enc) (C := Tryz.checked) (os := os) (X := fun w _ => laidMetH Tryz.prog qgx w) false (qq2 os) #[.slice none 0 0, .slice none 0 0] 8 (qqd os) (World.shaped_of_RefB (by kernel_rfl) (by kernel_rfl)) (by kernel_rfl) (by kernel_rfl) (by kernel_rfl) (u4o os _)) ?_
 intro W base args ds gs before hval0 hW _ hsz hL _
 have hval : ∀ (j : Nat) t v, Tryz.f5.params[j]? = some t → args[j]? = some v → Value.okWide Tryz.prog W .any base t v := hval0
 have hW' := hW
 obtain ⟨p, q, hA0, hV, rfl, hfz, hnd⟩ := hW
 have hA : DataW.TrodAll enc Tryz.prog W 0 (fun _ => true) true Tryz.f5.params.toList args.toList ds p := hA0
 have hsz' : (DataW.weightsEach Tryz.prog (Tryz.f5.params.toList ++ _) (ds ++ gs)).all (· ≤ reachBytes) = true := hsz
 rw [Tryz.params5] at hA hval hsz'
 obtain ⟨v0, vs0, d0, ds0, p0, q0, hargs, rfl, rfl, h0, r0⟩ := trodAll_cons hA
 obtain ⟨v1, vs1, d1, ds1, p1, q1, rfl, rfl, rfl, h1, r1⟩ := trodAll_cons r0
 obtain ⟨rfl, rfl, rfl⟩ := trodAll_nil r1
 obtain rfl : args = #[v0, v1] := by cases args; simp_all
 obtain ⟨rfl, rfl⟩ := trodVars_none hV
 have hw0 : (d0.weights Tryz.prog 22).all (· ≤ reachBytes) = true := by
  rw [List.all_eq_true] at hsz' ⊢
  intro n hn
  exact hsz' n (DataW.weights_mem_each (j := 0) rfl rfl n hn)
 have k0 := h0
 have lt0 : ∀ x ∈ p0, x.block < W.heap.size := by obtain ⟨m, hm⟩ := k0; exact DataW.trod_lt m _ _ _ hm
 obtain ⟨a0, qzp, cap0, rfl⟩ := okWide_slice Tryz.underlying22 (hval 0 22 v0 rfl rfl)
 obtain ⟨f0, hf0⟩ := h0
 have o0 := u2x _ f0 _ _ _ (Nat.lt_succ_self _) hf0 hw0
 obtain ⟨u0, l0, e0, hl0⟩ := o0
 obtain rfl : Value.slice a0 qzp cap0 = u0 := (List.cons.inj e0).1
 have hw1 : (d1.weights Tryz.prog 23).all (· ≤ reachBytes) = true := by
  rw [List.all_eq_true] at hsz' ⊢
  intro n hn
  exact hsz' n (DataW.weights_mem_each (j := 1) rfl rfl n hn)
 have k1 := h1
 have lt1 : ∀ x ∈ p1, x.block < W.heap.size := by obtain ⟨m, hm⟩ := k1; exact DataW.trod_lt m _ _ _ hm
 obtain ⟨a1, len1, cap1, rfl⟩ := okWide_slice Tryz.underlying23 (hval 1 23 v1 rfl rfl)
 obtain ⟨f1, hf1⟩ := h1
 have o1 := u4n _ f1 _ _ _ (Nat.lt_succ_self _) hf1 hw1
 obtain ⟨u1, l1, e1, hl1, hq1⟩ := o1
 obtain rfl : Value.slice a1 len1 cap1 = u1 := (List.cons.inj e1).1
 have hT := qw7 hL
 refine (qsb (q3g W) hT.1 hT.2 _ _ l0 l1 hl0 hl1 hq1 W (qmo W)).mono fun e W' ⟨u, F', G', he, htr, hu⟩ => ?_
 subst he; subst hu
 have bel := qs6 htr
 exact ⟨_, rfl, _, _, _, [], _, [], hW', trodAll_mk1 (shut_bool Tryz.underlying4 _), (trodAll_cons_mk (Below.trod laidOut (by kernel_rfl) (of_decide_eq_true (by kernel_rfl)) k0 bel lt0) (trodAll_cons_mk (Below.trod laidOut (by kernel_rfl) (of_decide_eq_true (by kernel_rfl)) k1 bel lt1) trodAll_mk0)), rfl, bel.frame _, fun h => by cases h⟩
end Go.Proofs.YtbhipiepfclneaaGreatDoor
