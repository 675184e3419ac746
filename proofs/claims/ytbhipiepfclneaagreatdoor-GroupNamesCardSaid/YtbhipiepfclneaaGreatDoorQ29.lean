/- Walks. -/
import Derived.Test.YtbhipiepfclneaaGreatDoorQ28
set_option maxHeartbeats 64000000
set_option maxRecDepth 20000
namespace Go.Proofs.YtbhipiepfclneaaGreatDoor
open Go Go.Wk Go.Un Go.De Go.Num
set_option linter.unusedSimpArgs false
set_option linter.unusedVariables false
attribute [local irreducible] Go.wpList Go.Code.wp Go.wpStill Go.Wk.wpPre Go.bodyPost Go.Calls Go.Wk.Ct Go.Wk.OwnS Go.Wk.wpG Go.Wk.wpM
theorem bkA : RowB kA := rowb_lit (l := [hT [107]]) rfl (by decide)
theorem boA : RowB oA := rowb_lit (l := [hN 1]) rfl (by decide)
theorem btA : RowB tA := rowb_lit (l := [hN 2]) rfl (by decide)
theorem b1A : RowB a1A := rowb_lit (l := [hN 1, hN 5, hT [97]]) rfl (by decide)
theorem b2A : RowB a2A := rowb_lit (l := [hN 1, hN (-2), hT [98]]) rfl (by decide)
theorem i1A : GInv agA x1A := by have h := gAdd_inv (way := oA) (gInv_nil agA) bkA b1A; rwa [eA2] at h
theorem i2A : GInv agA x2A := by have h := gAdd_inv (way := tA) i1A bkA b2A; rwa [eA4] at h
theorem l1A : ∀ p ∈ x1A, p.2.ways.length ≤ 1000000000 := by
 intro p hp
 obtain rfl := List.mem_singleton.1 hp
 exact Nat.le_of_ble_eq_true rfl
theorem l2A : ∀ p ∈ x2A, p.2.ways.length ≤ 1000000000 := by
 intro p hp
 obtain rfl := List.mem_singleton.1 hp
 exact Nat.le_of_ble_eq_true rfl
theorem k2A : alG x2A k9A = some ⟨kA, [(w1A, a1A), (w2A, a2A)]⟩ := by kernel_rfl
theorem k1A : alG x1A k9A = some ⟨kA, [(w1A, a1A)]⟩ := by kernel_rfl
theorem z2A : ∀ i, i < agA.length → (rowA agA [(w1A, a1A), (w2A, a2A)] i).1 = 0 := fun i hi => by
 match i, hi with
 | 0, _ => rw [eB1]
 | 1, _ => rw [eB2]
 | 2, _ => rw [eB3]
theorem z1A : ∀ i, i < agA.length → (rowA agA [(w1A, a1A)] i).1 = 0 := fun i hi => by
 match i, hi with
 | 0, _ => rw [eC1]
 | 1, _ => rw [eC2]
 | 2, _ => rw [eC3]
theorem q2A : roseOf ((List.range agA.length).map fun i => (rowA agA [(w1A, a1A), (w2A, a2A)] i).2) = r2A := by
 show roseOf ([0, 1, 2].map fun i => (rowA agA [(w1A, a1A), (w2A, a2A)] i).2) = r2A
 simp only [List.map_cons, List.map_nil, eB1, eB2, eB3]
 rfl
theorem q1A : roseOf ((List.range agA.length).map fun i => (rowA agA [(w1A, a1A)] i).2) = r1A := by
 show roseOf ([0, 1, 2].map fun i => (rowA agA [(w1A, a1A)] i).2) = r1A
 simp only [List.map_cons, List.map_nil, eC1, eC2, eC3]
 rfl
theorem s2A : sameL r2A r2A = true := by kernel_rfl
theorem s1A : sameL r1A r1A = true := by kernel_rfl
structure AwG (F : Heap) (av v3 v4 v5 : Value) (b : Nat) : Prop where
  T : TabF F
  E : ErrF F
  A : LiM F 1 StR av agA
  k : TrS F 4 VhR v3 kA
  o : TrS F 4 VhR v4 oA
  t : TrS F 4 VhR v5 tA
  c : Cels F b 0 (vcl (hN 1))
theorem AwG.mono {F F' : Heap} {av v3 v4 v5 : Value} {b : Nat} (hF : ∀ b o, F b = some o → F' b = some o) (h : AwG F av v3 v4 v5 b) : AwG F' av v3 v4 v5 b := ⟨h.T.mono hF, h.E.mono hF, h.A.mono hF, h.k.mono hF, h.o.mono hF, h.t.mono hF, fun j v hj => (h.c j v hj).mono hF⟩
theorem gAwakeCt (F : Heap) (hq : TabF F) (he : ErrF F) : Ct Tryz.prog 8 [] F [] (fun _ _ u => u = .bool true) := by
 refine Ct.enter Tryz.func8 rfl Tryz.ntmps8 rfl fun w0 a S => ?_
 (revert S a; refine go 5 ?_; intro Z hZ a S)
 (refine wpl_buildSlice S rfl rfl rfl rfl rfl rfl (by rfl) (by simp [Value.cells, splice, splice]) rfl (by rfl) (by rfl) ?_; clear S a; intro b17 a w hown S)
 (have S' := frz1 S; clear S; obtain ⟨F17, hF17, hb17, S⟩ := S'; refine wpl_gNew S rfl rfl rfl rfl rfl rfl (newGCt F17 _ agA (lim_of hb17 (strs_lic F17 agA) (by decide)) (by decide)) eA0 rfl ?_; clear S a; intro bg av gg F1 a w hO hA hF1 S; replace hq := (hq.mono hF17).mono hF1; replace he := (he.mono hF17).mono hF1)
 (revert S a; revert hZ Z; refine go 10 ?_; intro Z hZ Z hZ a S)
 (refine wv S (sv_lit (c := false) (sv_pure S rfl) (by rfl)) ?_; clear S a; intro a S)
 (revert S a; refine go 4 ?_; intro a S)
 (refine wv S (sv_lit (c := false) (sv_eqPtrSome S rfl rfl rfl) (by rfl)) ?_; clear S a; intro a S)
 (refine wv S (sv_lit (c := false) (sv_pure S rfl) (by rfl)) ?_; clear S a; intro a S)
 (revert S a; revert hZ Z; refine go 2 ?_; intro a S)
 refine wpc_false S rfl ?_
 (revert S a; revert hZ Z; refine go 4 ?_; intro Z hZ a S)
 (refine wpl_buildSlice S rfl rfl rfl rfl rfl rfl (by rfl) (by simp [Value.cells, splice, splice]) rfl (by rfl) (by rfl) ?_; clear S a; intro b28 a w hown S)
 (revert S a; refine go 1 ?_; intro a S)
 (refine wpl_buildSlice S rfl rfl rfl rfl rfl rfl (by rfl) (by simp [Value.cells, splice, splice]) rfl (by rfl) (by rfl) ?_; clear S a; intro b30 a w hown S)
 (revert S a; refine go 1 ?_; intro a S)
 (refine wpl_buildSlice S rfl rfl rfl rfl rfl rfl (by rfl) (by simp [Value.cells, splice, splice]) rfl (by rfl) (by rfl) ?_; clear S a; intro b32 a w hown S)
 (revert S a; revert hZ Z; refine go 5 ?_; intro a S)
 (refine wp_seq_k ?_; intro Z hZ)
 (have S' := frz1 S; clear S; obtain ⟨F2, hF2, hb32, S⟩ := S'; have S' := frz1 S; clear S; obtain ⟨F3, hF3, hb30, S⟩ := S'; have S' := frz1 S; clear S; obtain ⟨F4, hF4, hb28, S⟩ := S'; replace hb32 := hF4 _ _ (hF3 _ _ hb32); replace hb30 := hF4 _ _ hb30; have hm4 : ∀ b o, F1 b = some o → F4 b = some o := (fun b o h => hF4 _ _ (hF3 _ _ (hF2 _ _ h))); have W : AwG F4 av _ _ _ b30 := ⟨hq.mono hm4, he.mono hm4, hA.mono hm4, row_lit (l := [hT [107]]) hb28 rfl (by decide) (by decide), row_lit (l := [hN 1]) hb30 rfl (by decide) (by decide), row_lit (l := [hN 2]) hb32 rfl (by decide) (by decide), cels_of hb30⟩; replace hO := hO.mono hm4; clear hq he hA hb28 hb30 hb32)
 (revert S a; refine go 6 ?_; intro a S)
 (refine wv S (sv_loadAF S rfl rfl (vs := vcl (hN 1)) W.c rfl) ?_; clear S a; intro a S)
 (revert S a; refine go 2 ?_; intro a S)
 (refine wpl_buildSlice S rfl rfl rfl rfl rfl rfl (by rfl) (by simp [Value.cells, splice, splice]) rfl (by rfl) (by rfl) ?_; clear S a; intro b41 a w hown S)
 (have S' := frz1 S; clear S; obtain ⟨F41, hF41, hb41, S⟩ := S'; replace W := W.mono hF41; replace hO := hO.mono hF41; have hr := row_lit (l := [hN 1, hN 5, hT [97]]) hb41 rfl (by decide) (by decide); refine wpl_gg S rfl rfl rfl rfl rfl rfl hO (fun gv h1 h2 => (addGCt F41 W.T bg av gv gg agA [] h1 W.A h2 (gInv_nil _) kA oA a1A _ _ _ W.k W.o hr bkA boA b1A).mono (fun _ _ _ h => ⟨by rw [h.1, eA1], by have h9 := h.2; rw [eA2] at h9; exact h9⟩)) rfl (by exact List.Perm.refl _) ?_; clear S a hO hr hb41 gg; intro gg F42 a w hO hF42 S; replace W := W.mono hF42)
 (revert S a; revert hZ Z; refine go 9 ?_; intro Z hZ a S)
 (refine wv S (sv_loadAF S rfl rfl (vs := vcl (hN 1)) W.c rfl) ?_; clear S a; intro a S)
 (revert S a; refine go 2 ?_; intro a S)
 (refine wpl_buildSlice S rfl rfl rfl rfl rfl rfl (by rfl) (by simp [Value.cells, splice, splice]) rfl (by rfl) (by rfl) ?_; clear S a; intro b51 a w hown S)
 (have S' := frz1 S; clear S; obtain ⟨F51, hF51, hb51, S⟩ := S'; replace W := W.mono hF51; replace hO := hO.mono hF51; have hr := row_lit (l := [hN 1, hN (-2), hT [98]]) hb51 rfl (by decide) (by decide); refine wpl_gg S rfl rfl rfl rfl rfl rfl hO (fun gv h1 h2 => (addGCt F51 W.T bg av gv gg agA x1A h1 W.A h2 i1A kA tA a2A _ _ _ W.k W.t hr bkA btA b2A).mono (fun _ _ _ h => ⟨by rw [h.1, eA3], by have h9 := h.2; rw [eA4] at h9; exact h9⟩)) rfl (by exact List.Perm.refl _) ?_; clear S a hO hr hb51 gg; intro gg F52 a w hO hF52 S; replace W := W.mono hF52)
 (revert S a; revert hZ Z; refine go 6 ?_; intro Z hZ a S)
 (refine wpl_gRow (r := r2A) S rfl rfl rfl rfl rfl rfl hO (fun gv h1 h2 => rowGCt F52 W.T W.E bg av gv gg agA x2A h1 W.A (by decide) (by decide) h2 i2A l2A kA _ W.k bkA) rfl (by exact List.Perm.refl _) eA9 k2A z2A q2A ?_; clear S a; intro v56 F56 a w hr56 hF56 S; replace W := W.mono hF56; replace hO := hO.mono hF56)
 (revert S a; revert hZ Z; refine go 11 ?_; intro Z hZ a S)
 (have hav : av.oneCell' = true := (by obtain ⟨_, _, e9, -, -⟩ := id W.A; rw [e9]; rfl); refine wpl_gg S rfl rfl rfl rfl rfl rfl hO (fun gv h1 h2 => (delGCt F56 W.T bg av gv gg x2A h1 hav h2 kA tA _ _ W.k W.t bkA btA).mono (fun _ _ _ h => ⟨by rw [h.1, eA5], by have h9 := h.2; rw [eA6] at h9; exact h9⟩)) rfl (by exact List.Perm.refl _) ?_; clear S a hO gg; intro gg F62 a w hO hF62 S; replace W := W.mono hF62; replace hr56 := hr56.mono hF62)
 (revert S a; revert hZ Z; refine go 6 ?_; intro Z hZ a S)
 (refine wpl_gRow (r := r1A) S rfl rfl rfl rfl rfl rfl hO (fun gv h1 h2 => rowGCt F62 W.T W.E bg av gv gg agA x1A h1 W.A (by decide) (by decide) h2 i1A l1A kA _ W.k bkA) rfl (by exact List.Perm.refl _) eA9 k1A z1A q1A ?_; clear S a; intro v66 F66 a w hr66 hF66 S; replace W := W.mono hF66; replace hO := hO.mono hF66; replace hr56 := hr56.mono hF66)
 (revert S a; revert hZ Z; refine go 11 ?_; intro Z hZ a S)
 (have hav : av.oneCell' = true := (by obtain ⟨_, _, e9, -, -⟩ := id W.A; rw [e9]; rfl); refine wpl_gg S rfl rfl rfl rfl rfl rfl hO (fun gv h1 h2 => (delGCt F66 W.T bg av gv gg x1A h1 hav h2 kA oA _ _ W.k W.o bkA boA).mono (fun _ _ _ h => ⟨by rw [h.1, eA7], by have h9 := h.2; rw [eA8] at h9; exact h9⟩)) rfl (by exact List.Perm.refl _) ?_; clear S a hO gg; intro gg F72 a w hO hF72 S; replace W := W.mono hF72; replace hr56 := hr56.mono hF72; replace hr66 := hr66.mono hF72)
 (revert S a; revert hZ Z; refine go 6 ?_; intro Z hZ a S)
 (refine wpl_gRow5 S rfl rfl rfl rfl rfl rfl hO (fun gv h1 h2 => rowGCt F72 W.T W.E bg av gv gg agA [] h1 W.A (by decide) (by decide) h2 (gInv_nil _) (fun _ h => by cases h) kA _ W.k bkA) rfl (by exact List.Perm.refl _) eA9 rfl ?_; clear S a; intro a w S)
 (revert S a; revert hZ Z; refine go 9 ?_; intro Z hZ a S)
 (refine wv S (sv_lit (c := true) (sv_pure S rfl) (by rfl)) ?_; clear S a; intro a S)
 (revert S a; refine go 4 ?_; intro a S)
 iterate 2 (refine wv S (sv_lit (c := true) (sv_pure S rfl) (by rfl)) ?_; clear S a; intro a S)
 (revert S a; refine go 4 ?_; intro a S)
 iterate 2 (refine wv S (sv_lit (c := true) (sv_pure S rfl) (by rfl)) ?_; clear S a; intro a S)
 (revert S a; refine go 10 ?_; intro a S)
 (refine wpl_buildSlice S rfl rfl rfl rfl rfl rfl (by rfl) (by simp [Value.cells, splice, splice]) rfl (by rfl) (by rfl) ?_; clear S a; intro b94 a w hown S)
 refine wpl_take S rfl rfl rfl ?_
 (have S' := frz1 S; clear S; obtain ⟨F94, hF94, hb94, S⟩ := S'; replace W := W.mono hF94; replace hO := hO.mono hF94; replace hr56 := hr56.mono hF94; replace hr66 := hr66.mono hF94; refine wc0 S (sameRowCt (sameCt 1000) F94 r2A r2A _ _ (by decide) hr56 (row_lit (l := [hN 2, hN 3, hT [98]]) hb94 rfl (by decide) (by decide))) ?_; clear S a; intro v95 a w hv S; subst hv; rw [s2A] at S)
 (refine wv S (sv_lit (c := true) (sv_pure S rfl) (by rfl)) ?_; clear S a; intro a S)
 (revert S a; refine go 4 ?_; intro a S)
 iterate 2 (refine wv S (sv_lit (c := true) (sv_pure S rfl) (by rfl)) ?_; clear S a; intro a S)
 (revert S a; refine go 4 ?_; intro a S)
 iterate 2 (refine wv S (sv_lit (c := true) (sv_pure S rfl) (by rfl)) ?_; clear S a; intro a S)
 (revert S a; refine go 10 ?_; intro a S)
 (refine wpl_buildSlice S rfl rfl rfl rfl rfl rfl (by rfl) (by simp [Value.cells, splice, splice]) rfl (by rfl) (by rfl) ?_; clear S a; intro b110 a w hown S)
 refine wpl_take S rfl rfl rfl ?_
 (have S' := frz1 S; clear S; obtain ⟨F110, hF110, hb110, S⟩ := S'; replace W := W.mono hF110; replace hO := hO.mono hF110; replace hr56 := hr56.mono hF110; replace hr66 := hr66.mono hF110; refine wc0 S (sameRowCt (sameCt 1000) F110 r1A r1A _ _ (by decide) hr66 (row_lit (l := [hN 1, hN 5, hT [97]]) hb110 rfl (by decide) (by decide))) ?_; clear S a; intro v111 a w hv S; subst hv; rw [s1A] at S)
 (refine wv S (sv_lit (c := true) (sv_pure S rfl) (by rfl)) ?_; clear S a; intro a S)
 (revert S a; refine go 4 ?_; intro a S)
 iterate 2 (refine wv S (sv_lit (c := true) (sv_pure S rfl) (by rfl)) ?_; clear S a; intro a S)
 (revert S a; refine go 4 ?_; intro a S)
 iterate 2 (refine wv S (sv_lit (c := true) (sv_pure S rfl) (by rfl)) ?_; clear S a; intro a S)
 (revert S a; refine go 4 ?_; intro a S)
 (obtain ⟨gv, hG, hX⟩ := hO; obtain rfl : gv = [] := (by cases gv with | nil => rfl | cons _ _ => exact hX.elim); refine wpl_callOwn (Gs := [gg]) (Gr := []) S rfl rfl rfl rfl rfl rfl (keysNilCt _ bg av gg hG) rfl (by simp) ?_; clear S a; intro v123 G9 a w hv S; obtain ⟨rfl, rfl⟩ := hv)
 (revert S a; refine go 3 ?_; intro a S)
 iterate 2 (refine wv S (sv_lit (c := true) (sv_pure S rfl) (by rfl)) ?_; clear S a; intro a S)
 (revert S a; revert hZ Z; refine go 3 ?_; intro a S)
 refine wp_ret (fr1 S Tryz.results8 ?_)
 rfl
abbrev mxI : Int := 9223372036854775807
def agN : List (List UInt8) := [sSum]
def nr (n : Int) : Vf := rwH [hN n]
def n1 : GA := gAdd agN [] .nil (nr 1) (nr mxI)
def n2 : GA := gAdd agN n1 .nil (nr 2) (nr 1)
structure AwN (F : Heap) (av : Value) : Prop where
  T : TabF F
  E : ErrF F
  A : LiM F 1 StR av agN
theorem AwN.mono {F F' : Heap} {av : Value} (hF : ∀ b o, F b = some o → F' b = some o) (h : AwN F av) : AwN F' av := ⟨h.T.mono hF, h.E.mono hF, h.A.mono hF⟩
theorem AwN.one {F : Heap} {av : Value} (h : AwN F av) : av.oneCell' = true := by obtain ⟨_, _, e9, -, -⟩ := h.A; rw [e9]; rfl
end Go.Proofs.YtbhipiepfclneaaGreatDoor
