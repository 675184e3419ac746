/- Walks. -/
import Derived.Test.YtbhipiepfclneaaGreatDoorQ28
import Derived.Test.YtbhipiepfclneaaGreatDoorQ26
import Derived.Test.YtbhipiepfclneaaGreatDoorQ21
import Derived.Test.YtbhipiepfclneaaGreatDoorQ20
import Derived.Test.YtbhipiepfclneaaGreatDoorQ18
import Derived.Test.YtbhipiepfclneaaGreatDoorQ22
import Derived.Test.YtbhipiepfclneaaGreatDoorQ19
set_option maxHeartbeats 64000000
set_option maxRecDepth 20000
namespace Go.Proofs.YtbhipiepfclneaaGreatDoor
open Go Go.Wk Go.Un Go.De Go.Num
set_option linter.unusedSimpArgs false
set_option linter.unusedVariables false
attribute [local irreducible] Go.wpList Go.Code.wp Go.wpStill Go.Wk.wpPre Go.bodyPost Go.Calls Go.Wk.Ct Go.Wk.OwnS Go.Wk.wpG Go.Wk.wpM
theorem bkA : RowB kA := rowb_lit (l := [hT [107]]) rfl (by decide)
theorem boA : RowB oA := rowb_lit (l := [hN 1]) rfl (by decide)
theorem btA : RowB tA := rowb_lit (l := [hN 2]) rfl (by decide)
theorem b1A : RowB a1A := rowb_lit (l := [hN 1, hN 5, hT [97]]) rfl (by decide)
theorem b2A : RowB a2A := rowb_lit (l := [hN 1, hN (-2), hT [98]]) rfl (by decide)
theorem i1A : GInv agA x1A := by have h := gAdd_inv (way := oA) (gInv_nil agA) bkA b1A; rwa [eA2] at h
theorem i2A : GInv agA x2A := by have h := gAdd_inv (way := tA) i1A bkA b2A; rwa [eA4] at h
theorem l1A : ∀ p ∈ x1A, p.2.ways.length ≤ 1000000000 := by
 intro p hp
 obtain rfl := List.mem_singleton.1 hp
 exact Nat.le_of_ble_eq_true rfl
theorem l2A : ∀ p ∈ x2A, p.2.ways.length ≤ 1000000000 := by
 intro p hp
 obtain rfl := List.mem_singleton.1 hp
 exact Nat.le_of_ble_eq_true rfl
theorem k2A : alG x2A k9A = some ⟨kA, [(w1A, a1A), (w2A, a2A)]⟩ := by kernel_rfl
theorem k1A : alG x1A k9A = some ⟨kA, [(w1A, a1A)]⟩ := by kernel_rfl
theorem z2A : ∀ i, i < agA.length → (rowA agA [(w1A, a1A), (w2A, a2A)] i).1 = 0 := fun i hi => by
 match i, hi with
 | 0, _ => rw [eB1]
 | 1, _ => rw [eB2]
 | 2, _ => rw [eB3]
theorem z1A : ∀ i, i < agA.length → (rowA agA [(w1A, a1A)] i).1 = 0 := fun i hi => by
 match i, hi with
 | 0, _ => rw [eC1]
 | 1, _ => rw [eC2]
 | 2, _ => rw [eC3]
theorem q2A : roseOf ((List.range agA.length).map fun i => (rowA agA [(w1A, a1A), (w2A, a2A)] i).2) = r2A := by
 show roseOf ([0, 1, 2].map fun i => (rowA agA [(w1A, a1A), (w2A, a2A)] i).2) = r2A
 simp only [List.map_cons, List.map_nil, eB1, eB2, eB3]
 rfl
theorem q1A : roseOf ((List.range agA.length).map fun i => (rowA agA [(w1A, a1A)] i).2) = r1A := by
 show roseOf ([0, 1, 2].map fun i => (rowA agA [(w1A, a1A)] i).2) = r1A
 simp only [List.map_cons, List.map_nil, eC1, eC2, eC3]
 rfl
theorem s2A : sameL r2A r2A = true := by kernel_rfl
theorem s1A : sameL r1A r1A = true := by kernel_rfl
structure AwG (F : Heap) (av v3 v4 v5 : Value) (b : Nat) : Prop where
  T : TabF F
  E : ErrF F
  A : LiM F 1 StR av agA
  k : TrS F 4 VhR v3 kA
  o : TrS F 4 VhR v4 oA
  t : TrS F 4 VhR v5 tA
  c : Cels F b 0 (vcl (hN 1))
theorem AwG.mono {F F' : Heap} {av v3 v4 v5 : Value} {b : Nat} (hF : ∀ b o, F b = some o → F' b = some o) (h : AwG F av v3 v4 v5 b) : AwG F' av v3 v4 v5 b := ⟨h.T.mono hF, h.E.mono hF, h.A.mono hF, h.k.mono hF, h.o.mono hF, h.t.mono hF, fun j v hj => (h.c j v hj).mono hF⟩
theorem gAwakeCt (F : Heap) (hq : TabF F) (he : ErrF F) : Ct Tryz.prog 8 [] F [] (fun _ _ u => u = .bool true) := by
 refine Ct.enter Tryz.func8 rfl Tryz.ntmps8 rfl fun w0 a S => ?_
 (revert S a; refine go 5 ?_; intro Z hZ a S)
 (refine wpl_buildSlice S rfl rfl rfl rfl rfl rfl (by rfl) (by simp [Value.cells, splice, splice]) rfl (by rfl) (by rfl) ?_; clear S a; intro b17 a w hown S)
 (have S' := frz1 S; clear S; obtain ⟨F17, hF17, hb17, S⟩ := S'; refine wpl_gNew S rfl rfl rfl rfl rfl rfl (newGCt F17 _ agA (lim_of hb17 (strs_lic F17 agA) (by decide)) (by decide)) eA0 rfl ?_; clear S a; intro bg av gg F1 a w hO hA hF1 S; replace hq := (hq.mono hF17).mono hF1; replace he := (he.mono hF17).mono hF1)
 (revert S a; revert hZ Z; refine go 10 ?_; intro Z hZ Z hZ a S)
 (refine wv S (sv_lit (c := false) (sv_pure S rfl) (by rfl)) ?_; clear S a; intro a S)
 (revert S a; refine go 4 ?_; intro a S)
 (refine wv S (sv_lit (c := false) (sv_eqPtrSome S rfl rfl rfl) (by rfl)) ?_; clear S a; intro a S)
 (refine wv S (sv_lit (c := false) (sv_pure S rfl) (by rfl)) ?_; clear S a; intro a S)
 (revert S a; revert hZ Z; refine go 2 ?_; intro a S)
 refine wpc_false S rfl ?_
 (revert S a; revert hZ Z; refine go 4 ?_; intro Z hZ a S)
 (refine wpl_buildSlice S rfl rfl rfl rfl rfl rfl (by rfl) (by simp [Value.cells, splice, splice]) rfl (by rfl) (by rfl) ?_; clear S a; intro b28 a w hown S)
 (revert S a; refine go 1 ?_; intro a S)
 (refine wpl_buildSlice S rfl rfl rfl rfl rfl rfl (by rfl) (by simp [Value.cells, splice, splice]) rfl (by rfl) (by rfl) ?_; clear S a; intro b30 a w hown S)
 (revert S a; refine go 1 ?_; intro a S)
 (refine wpl_buildSlice S rfl rfl rfl rfl rfl rfl (by rfl) (by simp [Value.cells, splice, splice]) rfl (by rfl) (by rfl) ?_; clear S a; intro b32 a w hown S)
 (revert S a; revert hZ Z; refine go 5 ?_; intro a S)
 (refine wp_seq_k ?_; intro Z hZ)
 (have S' := frz1 S; clear S; obtain ⟨F2, hF2, hb32, S⟩ := S'; have S' := frz1 S; clear S; obtain ⟨F3, hF3, hb30, S⟩ := S'; have S' := frz1 S; clear S; obtain ⟨F4, hF4, hb28, S⟩ := S'; replace hb32 := hF4 _ _ (hF3 _ _ hb32); replace hb30 := hF4 _ _ hb30; have hm4 : ∀ b o, F1 b = some o → F4 b = some o := (fun b o h => hF4 _ _ (hF3 _ _ (hF2 _ _ h))); have W : AwG F4 av _ _ _ b30 := ⟨hq.mono hm4, he.mono hm4, hA.mono hm4, row_lit (l := [hT [107]]) hb28 rfl (by decide) (by decide), row_lit (l := [hN 1]) hb30 rfl (by decide) (by decide), row_lit (l := [hN 2]) hb32 rfl (by decide) (by decide), cels_of hb30⟩; replace hO := hO.mono hm4; clear hq he hA hb28 hb30 hb32)
 (revert S a; refine go 6 ?_; intro a S)
 (refine wv S (sv_loadAF S rfl rfl (vs := vcl (hN 1)) W.c rfl) ?_; clear S a; intro a S)
 (revert S a; refine go 2 ?_; intro a S)
 (refine wpl_buildSlice S rfl rfl rfl rfl rfl rfl (by rfl) (by simp [Value.cells, splice, splice]) rfl (by rfl) (by rfl) ?_; clear S a; intro b41 a w hown S)
 (have S' := frz1 S; clear S; obtain ⟨F41, hF41, hb41, S⟩ := S'; replace W := W.mono hF41; replace hO := hO.mono hF41; have hr := row_lit (l := [hN 1, hN 5, hT [97]]) hb41 rfl (by decide) (by decide); refine wpl_gg S rfl rfl rfl rfl rfl rfl hO (fun gv h1 h2 => (addGCt F41 W.T bg av gv gg agA [] h1 W.A h2 (gInv_nil _) kA oA a1A _ _ _ W.k W.o hr bkA boA b1A).mono (fun _ _ _ h => ⟨by rw [h.1, eA1], by have h9 := h.2; rw [eA2] at h9; exact h9⟩)) rfl (by exact List.Perm.refl _) ?_; clear S a hO hr hb41 gg; intro gg F42 a w hO hF42 S; replace W := W.mono hF42)
 (revert S a; revert hZ Z; refine go 9 ?_; intro Z hZ a S)
 (refine wv S (sv_loadAF S rfl rfl (vs := vcl (hN 1)) W.c rfl) ?_; clear S a; intro a S)
 (revert S a; refine go 2 ?_; intro a S)
 (refine wpl_buildSlice S rfl rfl rfl rfl rfl rfl (by rfl) (by simp [Value.cells, splice, splice]) rfl (by rfl) (by rfl) ?_; clear S a; intro b51 a w hown S)
 (have S' := frz1 S; clear S; obtain ⟨F51, hF51, hb51, S⟩ := S'; replace W := W.mono hF51; replace hO := hO.mono hF51; have hr := row_lit (l := [hN 1, hN (-2), hT [98]]) hb51 rfl (by decide) (by decide); refine wpl_gg S rfl rfl rfl rfl rfl rfl hO (fun gv h1 h2 => (addGCt F51 W.T bg av gv gg agA x1A h1 W.A h2 i1A kA tA a2A _ _ _ W.k W.t hr bkA btA b2A).mono (fun _ _ _ h => ⟨by rw [h.1, eA3], by have h9 := h.2; rw [eA4] at h9; exact h9⟩)) rfl (by exact List.Perm.refl _) ?_; clear S a hO hr hb51 gg; intro gg F52 a w hO hF52 S; replace W := W.mono hF52)
 (revert S a; revert hZ Z; refine go 6 ?_; intro Z hZ a S)
 (refine wpl_gRow (r := r2A) S rfl rfl rfl rfl rfl rfl hO (fun gv h1 h2 => rowGCt F52 W.T W.E bg av gv gg agA x2A h1 W.A (by decide) (by decide) h2 i2A l2A kA _ W.k bkA) rfl (by exact List.Perm.refl _) eA9 k2A z2A q2A ?_; clear S a; intro v56 F56 a w hr56 hF56 S; replace W := W.mono hF56; replace hO := hO.mono hF56)
 (revert S a; revert hZ Z; refine go 11 ?_; intro Z hZ a S)
 (have hav : av.oneCell' = true := (by obtain ⟨_, _, e9, -, -⟩ := id W.A; rw [e9]; rfl); refine wpl_gg S rfl rfl rfl rfl rfl rfl hO (fun gv h1 h2 => (delGCt F56 W.T bg av gv gg x2A h1 hav h2 kA tA _ _ W.k W.t bkA btA).mono (fun _ _ _ h => ⟨by rw [h.1, eA5], by have h9 := h.2; rw [eA6] at h9; exact h9⟩)) rfl (by exact List.Perm.refl _) ?_; clear S a hO gg; intro gg F62 a w hO hF62 S; replace W := W.mono hF62; replace hr56 := hr56.mono hF62)
 (revert S a; revert hZ Z; refine go 6 ?_; intro Z hZ a S)
 (refine wpl_gRow (r := r1A) S rfl rfl rfl rfl rfl rfl hO (fun gv h1 h2 => rowGCt F62 W.T W.E bg av gv gg agA x1A h1 W.A (by decide) (by decide) h2 i1A l1A kA _ W.k bkA) rfl (by exact List.Perm.refl _) eA9 k1A z1A q1A ?_; clear S a; intro v66 F66 a w hr66 hF66 S; replace W := W.mono hF66; replace hO := hO.mono hF66; replace hr56 := hr56.mono hF66)
 (revert S a; revert hZ Z; refine go 11 ?_; intro Z hZ a S)
 (have hav : av.oneCell' = true := (by obtain ⟨_, _, e9, -, -⟩ := id W.A; rw [e9]; rfl); refine wpl_gg S rfl rfl rfl rfl rfl rfl hO (fun gv h1 h2 => (delGCt F66 W.T bg av gv gg x1A h1 hav h2 kA oA _ _ W.k W.o bkA boA).mono (fun _ _ _ h => ⟨by rw [h.1, eA7], by have h9 := h.2; rw [eA8] at h9; exact h9⟩)) rfl (by exact List.Perm.refl _) ?_; clear S a hO gg; intro gg F72 a w hO hF72 S; replace W := W.mono hF72; replace hr56 := hr56.mono hF72; replace hr66 := hr66.mono hF72)
 (revert S a; revert hZ Z; refine go 6 ?_; intro Z hZ a S)
 (refine wpl_gRow5 S rfl rfl rfl rfl rfl rfl hO (fun gv h1 h2 => rowGCt F72 W.T W.E bg av gv gg agA [] h1 W.A (by decide) (by decide) h2 (gInv_nil _) (fun _ h => by cases h) kA _ W.k bkA) rfl (by exact List.Perm.refl _) eA9 rfl ?_; clear S a; intro a w S)
 (revert S a; revert hZ Z; refine go 9 ?_; intro Z hZ a S)
 (refine wv S (sv_lit (c := true) (sv_pure S rfl) (by rfl)) ?_; clear S a; intro a S)
 (revert S a; refine go 4 ?_; intro a S)
 iterate 2 (refine wv S (sv_lit (c := true) (sv_pure S rfl) (by rfl)) ?_; clear S a; intro a S)
 (revert S a; refine go 4 ?_; intro a S)
 iterate 2 (refine wv S (sv_lit (c := true) (sv_pure S rfl) (by rfl)) ?_; clear S a; intro a S)
 (revert S a; refine go 10 ?_; intro a S)
 (refine wpl_buildSlice S rfl rfl rfl rfl rfl rfl (by rfl) (by simp [Value.cells, splice, splice]) rfl (by rfl) (by rfl) ?_; clear S a; intro b94 a w hown S)
 refine wpl_take S rfl rfl rfl ?_
 (have S' := frz1 S; clear S; obtain ⟨F94, hF94, hb94, S⟩ := S'; replace W := W.mono hF94; replace hO := hO.mono hF94; replace hr56 := hr56.mono hF94; replace hr66 := hr66.mono hF94; refine wc0 S (sameRowCt (sameCt 1000) F94 r2A r2A _ _ (by decide) hr56 (row_lit (l := [hN 2, hN 3, hT [98]]) hb94 rfl (by decide) (by decide))) ?_; clear S a; intro v95 a w hv S; subst hv; rw [s2A] at S)
 (refine wv S (sv_lit (c := true) (sv_pure S rfl) (by rfl)) ?_; clear S a; intro a S)
 (revert S a; refine go 4 ?_; intro a S)
 iterate 2 (refine wv S (sv_lit (c := true) (sv_pure S rfl) (by rfl)) ?_; clear S a; intro a S)
 (revert S a; refine go 4 ?_; intro a S)
 iterate 2 (refine wv S (sv_lit (c := true) (sv_pure S rfl) (by rfl)) ?_; clear S a; intro a S)
 (revert S a; refine go 10 ?_; intro a S)
 (refine wpl_buildSlice S rfl rfl rfl rfl rfl rfl (by rfl) (by simp [Value.cells, splice, splice]) rfl (by rfl) (by rfl) ?_; clear S a; intro b110 a w hown S)
 refine wpl_take S rfl rfl rfl ?_
 (have S' := frz1 S; clear S; obtain ⟨F110, hF110, hb110, S⟩ := S'; replace W := W.mono hF110; replace hO := hO.mono hF110; replace hr56 := hr56.mono hF110; replace hr66 := hr66.mono hF110; refine wc0 S (sameRowCt (sameCt 1000) F110 r1A r1A _ _ (by decide) hr66 (row_lit (l := [hN 1, hN 5, hT [97]]) hb110 rfl (by decide) (by decide))) ?_; clear S a; intro v111 a w hv S; subst hv; rw [s1A] at S)
 (refine wv S (sv_lit (c := true) (sv_pure S rfl) (by rfl)) ?_; clear S a; intro a S)
 (revert S a; refine go 4 ?_; intro a S)
 iterate 2 (refine wv S (sv_lit (c := true) (sv_pure S rfl) (by rfl)) ?_; clear S a; intro a S)
 (revert S a; refine go 4 ?_; intro a S)
 iterate 2 (refine wv S (sv_lit (c := true) (sv_pure S rfl) (by rfl)) ?_; clear S a; intro a S)
 (revert S a; refine go 4 ?_; intro a S)
 (obtain ⟨gv, hG, hX⟩ := hO; obtain rfl : gv = [] := (by cases gv with | nil => rfl | cons _ _ => exact hX.elim); refine wpl_callOwn (Gs := [gg]) (Gr := []) S rfl rfl rfl rfl rfl rfl (keysNilCt _ bg av gg hG) rfl (by simp) ?_; clear S a; intro v123 G9 a w hv S; obtain ⟨rfl, rfl⟩ := hv)
 (revert S a; refine go 3 ?_; intro a S)
 iterate 2 (refine wv S (sv_lit (c := true) (sv_pure S rfl) (by rfl)) ?_; clear S a; intro a S)
 (revert S a; revert hZ Z; refine go 3 ?_; intro a S)
 refine wp_ret (fr1 S Tryz.results8 ?_)
 rfl
section
variable {α : Type}
structure Lt (lt : α → α → Bool) : Prop where
  tr : ∀ {x y z}, lt y x = false → lt z y = false → lt z x = false
  asy : ∀ {x y}, lt x y = true → lt y x = false
def Srt (lt : α → α → Bool) (l : List α) : Prop := l.Pairwise fun x y => lt y x = false
variable {lt : α → α → Bool}
theorem Srt.app {A B : List α} (hA : Srt lt A) (hB : Srt lt B) (h : ∀ x ∈ A, ∀ y ∈ B, lt y x = false) : Srt lt (A ++ B) := List.pairwise_append.2 ⟨hA, hB, h⟩
theorem Srt.left {A B : List α} (h : Srt lt (A ++ B)) : Srt lt A := (List.pairwise_append.1 h).1
theorem Srt.right {A B : List α} (h : Srt lt (A ++ B)) : Srt lt B := (List.pairwise_append.1 h).2.1
theorem Srt.one (x : α) : Srt lt [x] := List.pairwise_singleton ..
theorem refl_lt (h : Lt lt) (x : α) : lt x x = false := by
 cases e : lt x x with
 | false => rfl
 | true => exact absurd e (by rw [h.asy e]; decide)
theorem Srt.first (h : Lt lt) {A : List α} {z : α} (hA : Srt lt A) (hz : A.head? = some z) : ∀ x ∈ A, lt x z = false := fun x hx => by
 obtain ⟨B, rfl⟩ := List.head?_eq_some_iff.1 hz
 rcases List.mem_cons.1 hx with rfl | hx
 ·exact refl_lt h _
 ·exact (List.pairwise_cons.1 hA).1 x hx
end
def OneC (l : List Value) : Prop := ∀ v ∈ l, v.oneCell' = true
theorem OneC.left {A B : List Value} (h : OneC (A ++ B)) : OneC A := fun v hv => h v (List.mem_append.2 (.inl hv))
theorem OneC.right {A B : List Value} (h : OneC (A ++ B)) : OneC B := fun v hv => h v (List.mem_append.2 (.inr hv))
theorem OneC.app {A B : List Value} (h : OneC A) (h2 : OneC B) : OneC (A ++ B) := fun v hv => (List.mem_append.1 hv).elim (h v) (h2 v)
structure RotI (m n : Nat) (G : List Value) (L A B R : List Value) : Prop where
  m : L.length + A.length = m
  a : 0 < A.length
  b : 0 < B.length
  oa : OneC A
  ob : OneC B
  l1 : L.length + A.length + B.length ≤ n
  l2 : n ≤ L.length + A.length + B.length + R.length
  g : L ++ (B ++ (A ++ R)) = G
theorem RotI.lt {m n : Nat} {G L A B R : List Value} (h : RotI m n G L A B R) (hg : A.length < B.length) : ∃ X Y, B = X ++ Y ∧ Y.length = A.length ∧ X.length = B.length - A.length ∧ RotI m n G L Y X (A ++ R) := by
 have e : B = B.take (B.length - A.length) ++ B.drop (B.length - A.length) := (List.take_append_drop _ _).symm
 have e1 : (B.take (B.length - A.length)).length = B.length - A.length := by rw [List.length_take]; omega
 have e2 : (B.drop (B.length - A.length)).length = A.length := by rw [List.length_drop]; omega
 have ho := h.ob
 rw [e] at ho
 have h1 := h.l1
 have h2 := h.l2
 have h3 := h.m
 have h4 := h.a
 refine ⟨_, _, e, e2, e1, ⟨?_, ?_, ?_, ho.right, ho.left, ?_, ?_, ?_⟩⟩
 ·omega
 ·omega
 ·omega
 ·omega
 ·rw [List.length_append, e1, e2]; omega
 ·rw [← h.g]
  conv => rhs; rw [e]
  simp only [List.append_assoc]
abbrev Vr := Value × Vf
structure CmpQ (F : Heap) (fid : FuncId) (fi ca : List Value) (Q : Vr → Prop) (c : Vr → Vr → Int) : Prop where
  ct : ∀ x y, Q x → Q y → Ct Tryz.prog fid (fi ++ [x.1, y.1] ++ ca) F [] (fun _ _ u => u = .int .i64 (c x y))
  one : ∀ x, Q x → x.1.oneCell' = true
  ord : Lt fun x y => decide (c x y < 0)
def ltC (c : Vr → Vr → Int) (x y : Vr) : Bool := decide (c x y < 0)
structure HalfI (X : List Vr) (yes : Vr → Bool) (u v : Nat) : Prop where
  uv : u ≤ v
  hv : v ≤ X.length
  lo : 0 < u → ∃ z, X[u - 1]? = some z ∧ yes z = true
  hi : v < X.length → ∃ z, X[v]? = some z ∧ yes z = false
theorem HalfI.zero (X : List Vr) (yes : Vr → Bool) : HalfI X yes 0 X.length := ⟨Nat.zero_le _, Nat.le_refl _, fun h => absurd h (Nat.lt_irrefl 0), fun h => absurd h (Nat.lt_irrefl _)⟩
theorem HalfI.take {X : List Vr} {yes : Vr → Bool} {u : Nat} (h : HalfI X yes u u) : (∀ z, (X.take u).getLast? = some z → yes z = true) ∧ ∀ z, (X.drop u).head? = some z → yes z = false := by
 have hv := h.hv
 refine ⟨fun z hz => ?_, fun z hz => ?_⟩
 ·have hu : 0 < u := Nat.pos_of_ne_zero fun e => by subst e; rw [List.take_zero] at hz; cases hz
  obtain ⟨y, h1, h2⟩ := h.lo hu
  rw [List.getLast?_eq_getElem?, List.length_take, Nat.min_eq_left hv, List.getElem?_take, if_pos (by omega), h1] at hz
  cases hz; exact h2
 ·rw [List.head?_drop] at hz
  obtain ⟨y, h1, h2⟩ := h.hi (List.getElem?_eq_some_iff.1 hz).1
  rw [hz] at h1
  cases h1; exact h2
structure PartI (A B : List Vr) (c : Vr → Vr → Int) (pa mid s0 r0 s r : Nat) : Prop where
  ha : s0 ≤ s
  hb : s ≤ r
  hc : r ≤ r0
  lo : s0 < s → ∃ y z, B[mid - s]? = some y ∧ A[s - 1 - pa]? = some z ∧ ltC c y z = false
  hi : r < r0 → ∃ y z, B[mid - 1 - r]? = some y ∧ A[r - pa]? = some z ∧ ltC c y z = true
structure Blk (c : Vr → Vr → Int) (q : Nat) (X : List Vr) (Ls : List (List Vr)) (R : List Vr) : Prop where
  all : ∀ L ∈ Ls, L.length = q ∧ Srt (ltC c) L
  r : Srt (ltC c) R
  rl : R.length < q
  p : (Ls.flatten ++ R).Perm X
theorem flat_len {q : Nat} : ∀ {Ls : List (List Vr)}, (∀ L ∈ Ls, L.length = q) → Ls.flatten.length = q * Ls.length
 | [], _ => rfl
 | L :: r, h => by
  rw [List.flatten_cons, List.length_append, h L (List.mem_cons_self ..), flat_len fun x hx => h x (List.mem_cons_of_mem _ hx), List.length_cons, Nat.mul_succ]; omega
theorem Blk.fin {c : Vr → Vr → Int} {q : Nat} {X : List Vr} {Ls : List (List Vr)} {R : List Vr} (h : Blk c q X Ls R) (hq : X.length ≤ q) : Srt (ltC c) (Ls.flatten ++ R) := by
 have hl := h.p.length_eq
 rw [List.length_append, flat_len fun L hL => (h.all L hL).1] at hl
 have h0 := h.rl
 match Ls, h with
 | [], h => exact h.r
 | [L], h =>
  have h1 : q * [L].length = q := Nat.mul_one q
  have hR : R = [] := List.length_eq_zero_iff.1 (by omega)
  subst hR
  rw [List.append_nil, List.flatten_cons, List.flatten_nil, List.append_nil]
  exact (h.all L (List.mem_cons_self ..)).2
 | L :: M :: r, h =>
  exfalso
  have h1 : q * (L :: M :: r).length = q * r.length + q + q := by rw [List.length_cons, List.length_cons]; rw [Nat.mul_succ, Nat.mul_succ]
  omega
def KyR (F : Heap) : List Vf → List (List UInt8 × Value) → Prop
 | [], [] => True
 | r :: l, p :: q => (∃ kv b, p.2 = .agg ⟨[kv, .map (some b)]⟩ ∧ TrS F 4 VhR kv r) ∧ KyR F l q
 | _, _ => False
theorem KyR.of {F : Heap} : ∀ {x : GA} {gv : Gv}, GvR F x gv → KyR F (x.map (·.2.key)) (gvM gv)
 | [], [], _ => trivial
 | (_, _) :: _, (_, _) :: _, ⟨_, h2, _, h4⟩ => ⟨⟨_, _, rfl, h2⟩, KyR.of h4⟩
theorem KyR.split {F : Heap} {p : List UInt8 × Value} {l2 : List (List UInt8 × Value)} : ∀ {l1 : List (List UInt8 × Value)} {x : List Vf}, KyR F x (l1 ++ p :: l2) → ∃ m1 r m2, x = m1 ++ r :: m2 ∧ KyR F (m1 ++ m2) (l1 ++ l2) ∧ ∃ kv b, p.2 = .agg ⟨[kv, .map (some b)]⟩ ∧ TrS F 4 VhR kv r
 | [], r :: x, ⟨h1, h2⟩ => ⟨[], r, x, rfl, h2, h1⟩
 | q :: l1, r :: x, ⟨h1, h2⟩ => by
  obtain ⟨m1, r', m2, rfl, h3, h4⟩ := KyR.split h2
  exact ⟨r :: m1, r', m2, rfl, ⟨h1, h3⟩, h4⟩
theorem KyR.nil {F : Heap} : ∀ {x : List Vf}, KyR F x [] → x = []
 | [], _ => rfl
structure OkH (h : VH) (n : Nat) : Prop where
  f : formH h n = true
  i : i64 h.n
  b : h.k = 3 → checkS h.s = 0
structure OpD where
  k : Nat
  key : Vf
  way : Vf
  args : Vf
def OpR (F : Heap) (x : OpD) (cs : List Value) : Prop := ∃ v1 v2 v3, cs = [.int .u8 (x.k : Int), v1, v2, v3] ∧ TrS F 4 VhR v1 x.key ∧ TrS F 4 VhR v2 x.way ∧ TrS F 4 VhR v3 x.args
theorem OpR.mono {F F' : Heap} (hF : ∀ b o, F b = some o → F' b = some o) {x : OpD} {cs : List Value} (h : OpR F x cs) : OpR F' x cs := by
 obtain ⟨v1, v2, v3, h0, h1, h2, h3⟩ := h
 exact ⟨v1, v2, v3, h0, h1.mono hF, h2.mono hF, h3.mono hF⟩
end Go.Proofs.YtbhipiepfclneaaGreatDoor
namespace Go.Wk
open Go
set_option linter.unusedSimpArgs false
set_option linter.unusedVariables false
end Go.Wk
namespace Go.Proofs.YtbhipiepfclneaaGreatDoor
open Go Go.Wk Go.Un Go.De Go.Num
set_option linter.unusedSimpArgs false
set_option linter.unusedVariables false
instance : Mon OpR := ⟨fun hF h => OpR.mono hF h⟩
instance : Mon IntR := ⟨fun _ h => h⟩
structure OrW (aggs : List (List UInt8)) (l : List OpD) (ps : List Int) (v1 v2 va vb : Value) (F : Heap) : Prop where
  T : TabF F
  E : ErrF F
  L : LiM F 4 OpR v1 l
  P : LiM F 1 IntR v2 ps
  A : LiM F 1 StR va aggs
  B : LiM F 1 StR vb aggs
theorem OrW.mono {aggs : List (List UInt8)} {l : List OpD} {ps : List Int} {v1 v2 va vb : Value} {F F' : Heap} (hF : ∀ b o, F b = some o → F' b = some o) (h : OrW aggs l ps v1 v2 va vb F) : OrW aggs l ps v1 v2 va vb F' := ⟨h.T.mono hF, h.E.mono hF, h.L.mono hF, h.P.mono hF, h.A.mono hF, h.B.mono hF⟩
end Go.Proofs.YtbhipiepfclneaaGreatDoor
