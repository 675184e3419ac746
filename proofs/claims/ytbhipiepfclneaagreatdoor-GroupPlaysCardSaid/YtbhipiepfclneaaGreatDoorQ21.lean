/- Walks. -/
import Derived.Test.YtbhipiepfclneaaGreatDoorQ20
set_option maxHeartbeats 64000000
set_option maxRecDepth 20000
namespace Go.Proofs.YtbhipiepfclneaaGreatDoor
open Go Go.Wk Go.Un Go.De Go.Num
set_option linter.unusedSimpArgs false
set_option linter.unusedVariables false
attribute [local irreducible] Go.wpList Go.Code.wp Go.wpStill Go.Wk.q26 Go.bodyPost Go.Calls Go.Wk.Ct Go.Wk.q0u Go.Wk.wpG Go.Wk.wpM
theorem bkA : q2r kA := q7l (l := [hT [107]]) rfl (by decide)
theorem boA : q2r oA := q7l (l := [hN 1]) rfl (by decide)
theorem btA : q2r tA := q7l (l := [hN 2]) rfl (by decide)
theorem b1A : q2r a1A := q7l (l := [hN 1, hN 5, hT [97]]) rfl (by decide)
theorem b2A : q2r a2A := q7l (l := [hN 1, hN (-2), hT [98]]) rfl (by decide)
theorem i1A : GInv agA x1A := by have h := qc0 (way := oA) (q9a agA) bkA b1A; rwa [eA2] at h
theorem i2A : GInv agA x2A := by have h := qc0 (way := tA) i1A bkA b2A; rwa [eA4] at h
theorem l1A : ∀ p ∈ x1A, p.2.ways.length ≤ 1000000000 := by
 intro p hp
 obtain rfl := List.mem_singleton.1 hp
 exact Nat.le_of_ble_eq_true rfl
theorem l2A : ∀ p ∈ x2A, p.2.ways.length ≤ 1000000000 := by
 intro p hp
 obtain rfl := List.mem_singleton.1 hp
 exact Nat.le_of_ble_eq_true rfl
theorem k2A : alG x2A k9A = some ⟨kA, [(w1A, a1A), (w2A, a2A)]⟩ := by kernel_rfl
theorem k1A : alG x1A k9A = some ⟨kA, [(w1A, a1A)]⟩ := by kernel_rfl
theorem z2A : ∀ i, i < agA.length → (q43 agA [(w1A, a1A), (w2A, a2A)] i).1 = 0 := fun i hi => by
 match i, hi with
 | 0, _ => rw [eB1]
 | 1, _ => rw [eB2]
 | 2, _ => rw [eB3]
theorem z1A : ∀ i, i < agA.length → (q43 agA [(w1A, a1A)] i).1 = 0 := fun i hi => by
 match i, hi with
 | 0, _ => rw [eC1]
 | 1, _ => rw [eC2]
 | 2, _ => rw [eC3]
theorem q2A : q1s ((List.range agA.length).map fun i => (q43 agA [(w1A, a1A), (w2A, a2A)] i).2) = r2A := by
 show q1s ([0, 1, 2].map fun i => (q43 agA [(w1A, a1A), (w2A, a2A)] i).2) = r2A
 simp only [List.map_cons, List.map_nil, eB1, eB2, eB3]
 rfl
theorem q1A : q1s ((List.range agA.length).map fun i => (q43 agA [(w1A, a1A)] i).2) = r1A := by
 show q1s ([0, 1, 2].map fun i => (q43 agA [(w1A, a1A)] i).2) = r1A
 simp only [List.map_cons, List.map_nil, eC1, eC2, eC3]
 rfl
theorem s2A : q15 r2A r2A = true := by kernel_rfl
theorem s1A : q15 r1A r1A = true := by kernel_rfl
structure AwG (F : q01) (av v3 v4 v5 : Value) (b : Nat) : Prop where
  T : q50 F
  E : qf6 F
  A : LiM F 1 StR av agA
  k : TrS F 4 VhR v3 kA
  o : TrS F 4 VhR v4 oA
  t : TrS F 4 VhR v5 tA
  c : q2v F b 0 (vcl (hN 1))
theorem AwG.mono {F F' : q01} {av v3 v4 v5 : Value} {b : Nat} (hF : ∀ b o, F b = some o → F' b = some o) (h : AwG F av v3 v4 v5 b) : AwG F' av v3 v4 v5 b := ⟨h.T.mono hF, h.E.mono hF, h.A.mono hF, h.k.mono hF, h.o.mono hF, h.t.mono hF, fun j v hj => (h.c j v hj).mono hF⟩
theorem q5w (F : q01) (hq : q50 F) (he : qf6 F) : Ct Tryz.prog 8 [] F [] (fun _ _ u => u = .bool true) := by
 refine Ct.enter Tryz.func8 rfl Tryz.ntmps8 rfl fun w0 a S => ?_
 revert a; refine go 5 ?_; intro Z hZ a S
 (refine q0d S rfl rfl rfl rfl rfl rfl (by rfl) (by simp [Value.cells, splice, splice]) rfl (by rfl) (by rfl) ?_; clear S a; intro b17 a w hown S)
 (have S' := qfp S; clear S; obtain ⟨F17, hF17, hb17, S⟩ := S'; refine qrx S rfl rfl rfl rfl rfl rfl (qo2 F17 _ agA (qi1 hb17 (q5r F17 agA) (by decide)) (by decide)) eA0 rfl ?_; clear S a; intro bg av gg F1 a w hO hA hF1 S; replace hq := (hq.mono hF17).mono hF1; replace he := (he.mono hF17).mono hF1)
 revert a; revert Z; refine go 10 ?_; intro Z hZ Z hZ a S
 (refine wv S (q0j (c := false) (q09 S rfl) (by rfl)) ?_; clear S a; intro a S)
 revert a; refine go 4 ?_; intro a S
 (refine wv S (q0j (c := false) (q1b S rfl rfl rfl) (by rfl)) ?_; clear S a; intro a S)
 (refine wv S (q0j (c := false) (q09 S rfl) (by rfl)) ?_; clear S a; intro a S)
 revert a; revert Z; refine go 2 ?_; intro a S
 refine q03 S rfl ?_
 revert a; revert Z; refine go 4 ?_; intro Z hZ a S
 (refine q0d S rfl rfl rfl rfl rfl rfl (by rfl) (by simp [Value.cells, splice, splice]) rfl (by rfl) (by rfl) ?_; clear S a; intro b28 a w hown S)
 revert a; refine go 1 ?_; intro a S
 (refine q0d S rfl rfl rfl rfl rfl rfl (by rfl) (by simp [Value.cells, splice, splice]) rfl (by rfl) (by rfl) ?_; clear S a; intro b30 a w hown S)
 revert a; refine go 1 ?_; intro a S
 (refine q0d S rfl rfl rfl rfl rfl rfl (by rfl) (by simp [Value.cells, splice, splice]) rfl (by rfl) (by rfl) ?_; clear S a; intro b32 a w hown S)
 revert a; revert Z; refine go 5 ?_; intro a S
 (refine wp_seq_k ?_; intro Z hZ)
 (have S' := qfp S; clear S; obtain ⟨F2, hF2, hb32, S⟩ := S'; have S' := qfp S; clear S; obtain ⟨F3, hF3, hb30, S⟩ := S'; have S' := qfp S; clear S; obtain ⟨F4, hF4, hb28, S⟩ := S'; replace hb32 := hF4 _ _ (hF3 _ _ hb32); replace hb30 := hF4 _ _ hb30; have hm4 : ∀ b o, F1 b = some o → F4 b = some o := (fun b o h => hF4 _ _ (hF3 _ _ (hF2 _ _ h))); have W : AwG F4 av _ _ _ b30 := ⟨hq.mono hm4, he.mono hm4, hA.mono hm4, q69 (l := [hT [107]]) hb28 rfl (by decide) (by decide), q69 (l := [hN 1]) hb30 rfl (by decide) (by decide), q69 (l := [hN 2]) hb32 rfl (by decide) (by decide), qyh hb30⟩; replace hO := hO.mono hm4; clear hq he hA hb28 hb30 hb32)
 revert a; refine go 6 ?_; intro a S
 (refine wv S (q18 S rfl rfl (vs := vcl (hN 1)) W.c rfl) ?_; clear S a; intro a S)
 revert a; refine go 2 ?_; intro a S
 (refine q0d S rfl rfl rfl rfl rfl rfl (by rfl) (by simp [Value.cells, splice, splice]) rfl (by rfl) (by rfl) ?_; clear S a; intro b41 a w hown S)
 (have S' := qfp S; clear S; obtain ⟨F41, hF41, hb41, S⟩ := S'; replace W := W.mono hF41; replace hO := hO.mono hF41; have hr := q69 (l := [hN 1, hN 5, hT [97]]) hb41 rfl (by decide) (by decide); refine qhv S rfl rfl rfl rfl rfl rfl hO (fun gv h1 h2 => (qpc F41 W.T bg av gv gg agA [] h1 W.A h2 (q9a _) kA oA a1A _ _ _ W.k W.o hr bkA boA b1A).mono (fun _ _ _ h => ⟨by rw [h.1, eA1], by have h9 := h.2; rw [eA2] at h9; exact h9⟩)) rfl (by exact List.Perm.refl _) ?_; clear S a hO hr hb41 gg; intro gg F42 a w hO hF42 S; replace W := W.mono hF42)
 revert a; revert Z; refine go 9 ?_; intro Z hZ a S
 (refine wv S (q18 S rfl rfl (vs := vcl (hN 1)) W.c rfl) ?_; clear S a; intro a S)
 revert a; refine go 2 ?_; intro a S
 (refine q0d S rfl rfl rfl rfl rfl rfl (by rfl) (by simp [Value.cells, splice, splice]) rfl (by rfl) (by rfl) ?_; clear S a; intro b51 a w hown S)
 (have S' := qfp S; clear S; obtain ⟨F51, hF51, hb51, S⟩ := S'; replace W := W.mono hF51; replace hO := hO.mono hF51; have hr := q69 (l := [hN 1, hN (-2), hT [98]]) hb51 rfl (by decide) (by decide); refine qhv S rfl rfl rfl rfl rfl rfl hO (fun gv h1 h2 => (qpc F51 W.T bg av gv gg agA x1A h1 W.A h2 i1A kA tA a2A _ _ _ W.k W.t hr bkA btA b2A).mono (fun _ _ _ h => ⟨by rw [h.1, eA3], by have h9 := h.2; rw [eA4] at h9; exact h9⟩)) rfl (by exact List.Perm.refl _) ?_; clear S a hO hr hb51 gg; intro gg F52 a w hO hF52 S; replace W := W.mono hF52)
 revert a; revert Z; refine go 6 ?_; intro Z hZ a S
 (refine qie (r := r2A) S rfl rfl rfl rfl rfl rfl hO (fun gv h1 h2 => qid F52 W.T W.E bg av gv gg agA x2A h1 W.A (by decide) (by decide) h2 i2A l2A kA _ W.k bkA) rfl (by exact List.Perm.refl _) eA9 k2A z2A q2A ?_; clear S a; intro v56 F56 a w hr56 hF56 S; replace W := W.mono hF56; replace hO := hO.mono hF56)
 revert a; revert Z; refine go 11 ?_; intro Z hZ a S
 (have hav : av.oneCell' = true := (by obtain ⟨_, _, e9, -, -⟩ := id W.A; rw [e9]; rfl); refine qhv S rfl rfl rfl rfl rfl rfl hO (fun gv h1 h2 => (qlo F56 W.T bg av gv gg x2A h1 hav h2 kA tA _ _ W.k W.t bkA btA).mono (fun _ _ _ h => ⟨by rw [h.1, eA5], by have h9 := h.2; rw [eA6] at h9; exact h9⟩)) rfl (by exact List.Perm.refl _) ?_; clear S a hO gg; intro gg F62 a w hO hF62 S; replace W := W.mono hF62; replace hr56 := hr56.mono hF62)
 revert a; revert Z; refine go 6 ?_; intro Z hZ a S
 (refine qie (r := r1A) S rfl rfl rfl rfl rfl rfl hO (fun gv h1 h2 => qid F62 W.T W.E bg av gv gg agA x1A h1 W.A (by decide) (by decide) h2 i1A l1A kA _ W.k bkA) rfl (by exact List.Perm.refl _) eA9 k1A z1A q1A ?_; clear S a; intro v66 F66 a w hr66 hF66 S; replace W := W.mono hF66; replace hO := hO.mono hF66; replace hr56 := hr56.mono hF66)
 revert a; revert Z; refine go 11 ?_; intro Z hZ a S
 (have hav : av.oneCell' = true := (by obtain ⟨_, _, e9, -, -⟩ := id W.A; rw [e9]; rfl); refine qhv S rfl rfl rfl rfl rfl rfl hO (fun gv h1 h2 => (qlo F66 W.T bg av gv gg x1A h1 hav h2 kA oA _ _ W.k W.o bkA boA).mono (fun _ _ _ h => ⟨by rw [h.1, eA7], by have h9 := h.2; rw [eA8] at h9; exact h9⟩)) rfl (by exact List.Perm.refl _) ?_; clear S a hO gg; intro gg F72 a w hO hF72 S; replace W := W.mono hF72; replace hr56 := hr56.mono hF72; replace hr66 := hr66.mono hF72)
 revert a; revert Z; refine go 6 ?_; intro Z hZ a S
 (refine qqj S rfl rfl rfl rfl rfl rfl hO (fun gv h1 h2 => qid F72 W.T W.E bg av gv gg agA [] h1 W.A (by decide) (by decide) h2 (q9a _) (fun _ h => by cases h) kA _ W.k bkA) rfl (by exact List.Perm.refl _) eA9 rfl ?_; clear S a; intro a w S)
 revert a; revert Z; refine go 9 ?_; intro Z hZ a S
 (refine wv S (q0j (c := true) (q09 S rfl) (by rfl)) ?_; clear S a; intro a S)
 revert a; refine go 4 ?_; intro a S
 iterate 2 (refine wv S (q0j (c := true) (q09 S rfl) (by rfl)) ?_; clear S a; intro a S)
 revert a; refine go 4 ?_; intro a S
 iterate 2 (refine wv S (q0j (c := true) (q09 S rfl) (by rfl)) ?_; clear S a; intro a S)
 revert a; refine go 10 ?_; intro a S
 (refine q0d S rfl rfl rfl rfl rfl rfl (by rfl) (by simp [Value.cells, splice, splice]) rfl (by rfl) (by rfl) ?_; clear S a; intro b94 a w hown S)
 refine q1j S rfl rfl rfl ?_
 (have S' := qfp S; clear S; obtain ⟨F94, hF94, hb94, S⟩ := S'; replace W := W.mono hF94; replace hO := hO.mono hF94; replace hr56 := hr56.mono hF94; replace hr66 := hr66.mono hF94; refine wc0 S (q25 (q4z 1000) F94 r2A r2A _ _ (by decide) hr56 (q69 (l := [hN 2, hN 3, hT [98]]) hb94 rfl (by decide) (by decide))) ?_; clear S a; intro v95 a w hv S; subst hv; rw [s2A] at S)
 (refine wv S (q0j (c := true) (q09 S rfl) (by rfl)) ?_; clear S a; intro a S)
 revert a; refine go 4 ?_; intro a S
 iterate 2 (refine wv S (q0j (c := true) (q09 S rfl) (by rfl)) ?_; clear S a; intro a S)
 revert a; refine go 4 ?_; intro a S
 iterate 2 (refine wv S (q0j (c := true) (q09 S rfl) (by rfl)) ?_; clear S a; intro a S)
 revert a; refine go 10 ?_; intro a S
 (refine q0d S rfl rfl rfl rfl rfl rfl (by rfl) (by simp [Value.cells, splice, splice]) rfl (by rfl) (by rfl) ?_; clear S a; intro b110 a w hown S)
 refine q1j S rfl rfl rfl ?_
 (have S' := qfp S; clear S; obtain ⟨F110, hF110, hb110, S⟩ := S'; replace W := W.mono hF110; replace hO := hO.mono hF110; replace hr56 := hr56.mono hF110; replace hr66 := hr66.mono hF110; refine wc0 S (q25 (q4z 1000) F110 r1A r1A _ _ (by decide) hr66 (q69 (l := [hN 1, hN 5, hT [97]]) hb110 rfl (by decide) (by decide))) ?_; clear S a; intro v111 a w hv S; subst hv; rw [s1A] at S)
 (refine wv S (q0j (c := true) (q09 S rfl) (by rfl)) ?_; clear S a; intro a S)
 revert a; refine go 4 ?_; intro a S
 iterate 2 (refine wv S (q0j (c := true) (q09 S rfl) (by rfl)) ?_; clear S a; intro a S)
 revert a; refine go 4 ?_; intro a S
 iterate 2 (refine wv S (q0j (c := true) (q09 S rfl) (by rfl)) ?_; clear S a; intro a S)
 revert a; refine go 4 ?_; intro a S
 (obtain ⟨gv, hG, hX⟩ := hO; obtain rfl : gv = [] := (by cases gv with | nil => rfl | cons _ _ => exact hX.elim); refine q02 (Gs := [gg]) (Gr := []) S rfl rfl rfl rfl rfl rfl (qfe _ bg av gg hG) rfl (by simp) ?_; clear S a; intro v123 G9 a w hv S; obtain ⟨rfl, rfl⟩ := hv)
 revert a; refine go 3 ?_; intro a S
 iterate 2 (refine wv S (q0j (c := true) (q09 S rfl) (by rfl)) ?_; clear S a; intro a S)
 revert a; revert Z; refine go 3 ?_; intro a S
 refine wp_ret (fr1 S Tryz.results8 ?_)
 rfl
section
variable {α : Type}
structure Lt (lt : α → α → Bool) : Prop where
  tr : ∀ {x y z}, lt y x = false → lt z y = false → lt z x = false
  asy : ∀ {x y}, lt x y = true → lt y x = false
def Srt (lt : α → α → Bool) (l : List α) : Prop := l.Pairwise fun x y => lt y x = false
variable {lt : α → α → Bool}
theorem Srt.app {A B : List α} (hA : Srt lt A) (hB : Srt lt B) (h : ∀ x ∈ A, ∀ y ∈ B, lt y x = false) : Srt lt (A ++ B) := List.pairwise_append.2 ⟨hA, hB, h⟩
theorem Srt.left {A B : List α} (h : Srt lt (A ++ B)) : Srt lt A := (List.pairwise_append.1 h).1
theorem Srt.right {A B : List α} (h : Srt lt (A ++ B)) : Srt lt B := (List.pairwise_append.1 h).2.1
theorem Srt.cross {A B : List α} (h : Srt lt (A ++ B)) : ∀ x ∈ A, ∀ y ∈ B, lt y x = false := (List.pairwise_append.1 h).2.2
theorem Srt.one (x : α) : Srt lt [x] := List.pairwise_singleton ..
theorem refl_lt (h : Lt lt) (x : α) : lt x x = false := by
 cases e : lt x x with
 | false => rfl
 | true => exact absurd e (by rw [h.asy e]; decide)
theorem Srt.first (h : Lt lt) {A : List α} {z : α} (hA : Srt lt A) (hz : A.head? = some z) : ∀ x ∈ A, lt x z = false := fun x hx => by
 obtain ⟨B, rfl⟩ := List.head?_eq_some_iff.1 hz
 rcases List.mem_cons.1 hx with rfl | hx
 ·exact refl_lt h _
 ·exact (List.pairwise_cons.1 hA).1 x hx
end
def OneC (l : List Value) : Prop := ∀ v ∈ l, v.oneCell' = true
theorem OneC.left {A B : List Value} (h : OneC (A ++ B)) : OneC A := fun v hv => h v (List.mem_append.2 (.inl hv))
theorem OneC.right {A B : List Value} (h : OneC (A ++ B)) : OneC B := fun v hv => h v (List.mem_append.2 (.inr hv))
theorem OneC.app {A B : List Value} (h : OneC A) (h2 : OneC B) : OneC (A ++ B) := fun v hv => (List.mem_append.1 hv).elim (h v) (h2 v)
structure qun (m n : Nat) (G : List Value) (L A B R : List Value) : Prop where
  m : L.length + A.length = m
  a : 0 < A.length
  b : 0 < B.length
  oa : OneC A
  ob : OneC B
  l1 : L.length + A.length + B.length ≤ n
  l2 : n ≤ L.length + A.length + B.length + R.length
  g : L ++ (B ++ (A ++ R)) = G
theorem qun.lt {m n : Nat} {G L A B R : List Value} (h : qun m n G L A B R) (hg : A.length < B.length) : ∃ X Y, B = X ++ Y ∧ Y.length = A.length ∧ X.length = B.length - A.length ∧ qun m n G L Y X (A ++ R) := by
 have e : B = B.take (B.length - A.length) ++ B.drop (B.length - A.length) := (List.take_append_drop _ _).symm
 have e1 : (B.take (B.length - A.length)).length = B.length - A.length := by rw [qaI]; omega
 have e2 : (B.drop (B.length - A.length)).length = A.length := by rw [qaJ]; omega
 have ho := h.ob
 rw [e] at ho
 have h1 := h.l1
 have h2 := h.l2
 have h3 := h.m
 have h4 := h.a
 refine ⟨_, _, e, e2, e1, ⟨?_, ?_, ?_, ho.right, ho.left, ?_, ?_, ?_⟩⟩
 ·omega
 ·omega
 ·omega
 ·omega
 ·rw [qaA, e1, e2]; omega
 ·rw [← h.g]
  conv => rhs; rw [e]
  simp only [qaB]
abbrev Vr := Value × Vf
structure qqp (F : q01) (fid : FuncId) (fi ca : List Value) (Q : Vr → Prop) (c : Vr → Vr → Int) : Prop where
  ct : ∀ x y, Q x → Q y → Ct Tryz.prog fid (fi ++ [x.1, y.1] ++ ca) F [] (fun _ _ u => u = .int .i64 (c x y))
  one : ∀ x, Q x → x.1.oneCell' = true
  ord : Lt fun x y => decide (c x y < 0)
def ltC (c : Vr → Vr → Int) (x y : Vr) : Bool := decide (c x y < 0)
structure q6n (X : List Vr) (yes : Vr → Bool) (u v : Nat) : Prop where
  uv : u ≤ v
  hv : v ≤ X.length
  lo : 0 < u → ∃ z, X[u - 1]? = some z ∧ yes z = true
  hi : v < X.length → ∃ z, X[v]? = some z ∧ yes z = false
theorem q6n.zero (X : List Vr) (yes : Vr → Bool) : q6n X yes 0 X.length := ⟨Nat.zero_le _, Nat.le_refl _, fun h => absurd h (Nat.lt_irrefl 0), fun h => absurd h (Nat.lt_irrefl _)⟩
theorem q6n.up {X : List Vr} {yes : Vr → Bool} {u v k : Nat} {z : Vr} (h : q6n X yes u v) (hk : u ≤ k ∧ k < v) (hz : X[k]? = some z) (hy : yes z = true) : q6n X yes (k + 1) v := ⟨by omega, h.hv, fun _ => ⟨z, hz, hy⟩, h.hi⟩
theorem q6n.take {X : List Vr} {yes : Vr → Bool} {u : Nat} (h : q6n X yes u u) : (∀ z, (X.take u).getLast? = some z → yes z = true) ∧ ∀ z, (X.drop u).head? = some z → yes z = false := by
 have hv := h.hv
 refine ⟨fun z hz => ?_, fun z hz => ?_⟩
 ·have hu : 0 < u := Nat.pos_of_ne_zero fun e => by subst e; rw [List.take_zero] at hz; cases hz
  obtain ⟨y, h1, h2⟩ := h.lo hu
  rw [List.getLast?_eq_getElem?, qaI, Nat.min_eq_left hv, List.getElem?_take, if_pos (by omega), h1] at hz
  cases hz; exact h2
 ·rw [List.head?_drop] at hz
  obtain ⟨y, h1, h2⟩ := h.hi (List.getElem?_eq_some_iff.1 hz).1
  rw [hz] at h1
  cases h1; exact h2
structure u2b (A B : List Vr) (c : Vr → Vr → Int) (pa mid s0 r0 s r : Nat) : Prop where
  ha : s0 ≤ s
  hb : s ≤ r
  hc : r ≤ r0
  lo : s0 < s → ∃ y z, B[mid - s]? = some y ∧ A[s - 1 - pa]? = some z ∧ ltC c y z = false
  hi : r < r0 → ∃ y z, B[mid - 1 - r]? = some y ∧ A[r - pa]? = some z ∧ ltC c y z = true
structure Blk (c : Vr → Vr → Int) (q : Nat) (X : List Vr) (Ls : List (List Vr)) (R : List Vr) : Prop where
  all : ∀ L ∈ Ls, L.length = q ∧ Srt (ltC c) L
  r : Srt (ltC c) R
  rl : R.length < q
  p : (Ls.flatten ++ R).Perm X
theorem qj0 {q : Nat} : ∀ {Ls : List (List Vr)}, (∀ L ∈ Ls, L.length = q) → Ls.flatten.length = q * Ls.length
 | [], _ => rfl
 | L :: r, h => by
  rw [qaF, qaA, h L (qaH ..), qj0 fun x hx => h x (List.mem_cons_of_mem _ hx), qaC, Nat.mul_succ]; omega
theorem Blk.fin {c : Vr → Vr → Int} {q : Nat} {X : List Vr} {Ls : List (List Vr)} {R : List Vr} (h : Blk c q X Ls R) (hq : X.length ≤ q) : Srt (ltC c) (Ls.flatten ++ R) := by
 have hl := h.p.length_eq
 rw [qaA, qj0 fun L hL => (h.all L hL).1] at hl
 have h0 := h.rl
 match Ls, h with
 | [], h => exact h.r
 | [L], h =>
  have h1 : q * [L].length = q := Nat.mul_one q
  have hR : R = [] := List.length_eq_zero_iff.1 (by omega)
  subst hR
  rw [qaE, qaF, List.flatten_nil, qaE]
  exact (h.all L (qaH ..)).2
 | L :: M :: r, h =>
  exfalso
  have h1 : q * (L :: M :: r).length = q * r.length + q + q := by rw [qaC, qaC]; rw [Nat.mul_succ, Nat.mul_succ]
  omega
def KyR (F : q01) : List Vf → List (List UInt8 × Value) → Prop
 | [], [] => True
 | r :: l, p :: q => (∃ kv b, p.2 = .agg ⟨[kv, .map (some b)]⟩ ∧ TrS F 4 VhR kv r) ∧ KyR F l q
 | _, _ => False
theorem KyR.of {F : q01} : ∀ {x : GA} {gv : Gv}, GvR F x gv → KyR F (x.map (·.2.key)) (gvM gv)
 | [], [], _ => trivial
 | (_, _) :: _, (_, _) :: _, ⟨_, h2, _, h4⟩ => ⟨⟨_, _, rfl, h2⟩, KyR.of h4⟩
theorem KyR.split {F : q01} {p : List UInt8 × Value} {l2 : List (List UInt8 × Value)} : ∀ {l1 : List (List UInt8 × Value)} {x : List Vf}, KyR F x (l1 ++ p :: l2) → ∃ m1 r m2, x = m1 ++ r :: m2 ∧ KyR F (m1 ++ m2) (l1 ++ l2) ∧ ∃ kv b, p.2 = .agg ⟨[kv, .map (some b)]⟩ ∧ TrS F 4 VhR kv r
 | [], r :: x, ⟨h1, h2⟩ => ⟨[], r, x, rfl, h2, h1⟩
 | q :: l1, r :: x, ⟨h1, h2⟩ => by
  obtain ⟨m1, r', m2, rfl, h3, h4⟩ := KyR.split h2
  exact ⟨r :: m1, r', m2, rfl, ⟨h1, h3⟩, h4⟩
theorem KyR.nil {F : q01} : ∀ {x : List Vf}, KyR F x [] → x = []
 | [], _ => rfl
def u00 (c : UInt8) : Nat := if c.toNat ≤ 57 then c.toNat - 48 else c.toNat - 87
theorem qvm : ∀ n, n < 16 → u00 (qkd n) = n := by decide
def u7y : List UInt8 → Option (UInt8 × List UInt8)
 | [] => none
 | c :: r => if c = 92 then (match r with
   | [] => none
   | x :: r2 => if x = 110 then some (10, r2) else if x = 116 then some (9, r2) else if x = 120 then (match r2 with | h :: l :: r3 => some (UInt8.ofNat (u00 h * 16 + u00 l), r3) | _ => none) else some (x, r2))
  else some (c, r)
theorem qsk {c : UInt8} {n : Nat} (h : c.toNat = n) (hn : n < 256) : c = UInt8.ofNat n := by
 apply UInt8.toNat_inj.1
 rw [h, UInt8.toNat_ofNat', Nat.mod_eq_of_lt hn]
theorem qlh (c : UInt8) (r : List UInt8) : u7y (qal c ++ r) = some (c, r) := by
 by_cases h1 : c.toNat = 34 ∨ c.toNat = 92
 ·rw [u5x h1]
  rcases h1 with h | h
  ·have : c = 34 := qsk h (by decide)
   subst this; rfl
  ·have : c = 92 := qsk h (by decide)
   subst this; rfl
 ·by_cases h2 : c.toNat = 10
  ·rw [u5n h2]
   have : c = 10 := qsk h2 (by decide)
   subst this; rfl
  ·by_cases h3 : c.toNat = 9
   ·rw [u54 h3]
    have : c = 9 := qsk h3 (by decide)
    subst this; rfl
   ·by_cases h4 : 32 ≤ c.toNat ∧ c.toNat ≤ 126
    ·rw [u4y ⟨h4.1, h4.2, by omega, by omega⟩]
     have hc : ¬ c = 92 := fun e => by subst e; exact h1 (.inr rfl)
     show (if c = 92 then _ else some (c, r)) = _
     rw [if_neg hc]
    ·rw [u4e ⟨h4, by omega, by omega⟩]
     have hl := c.toNat_lt
     show some (UInt8.ofNat (u00 (qkd (c.toNat / 16)) * 16 + u00 (qkd (c.toNat % 16))), r) = _
     rw [qvm _ (by omega), qvm _ (by omega), show c.toNat / 16 * 16 + c.toNat % 16 = c.toNat by omega, UInt8.ofNat_toNat]
theorem qhw (c : UInt8) : ∃ x q, qal c = x :: q ∧ x ≠ 34 := by
 by_cases h1 : c.toNat = 34 ∨ c.toNat = 92
 ·exact ⟨92, _, u5x h1, by decide⟩
 ·by_cases h2 : c.toNat = 10
  ·exact ⟨92, _, u5n h2, by decide⟩
  ·by_cases h3 : c.toNat = 9
   ·exact ⟨92, _, u54 h3, by decide⟩
   ·by_cases h4 : 32 ≤ c.toNat ∧ c.toNat ≤ 126
    ·exact ⟨c, [], u4y ⟨h4.1, h4.2, by omega, by omega⟩, fun e => by subst e; exact h1 (.inl rfl)⟩
    ·exact ⟨92, _, u4e ⟨h4, by omega, by omega⟩, by decide⟩
theorem qj7 : ∀ {s t : List UInt8} {r q : List UInt8}, s.flatMap qal ++ 34 :: r = t.flatMap qal ++ 34 :: q → s = t ∧ r = q
 | [], [], r, q, h => ⟨rfl, (List.cons.inj h).2⟩
 | [], d :: t, r, q, h => by
  obtain ⟨x, y, e, hx⟩ := qhw d
  rw [List.flatMap_cons, e] at h
  exact absurd (List.cons.inj h).1.symm hx
 | c :: s, [], r, q, h => by
  obtain ⟨x, y, e, hx⟩ := qhw c
  rw [List.flatMap_cons, e] at h
  exact absurd (List.cons.inj h).1 hx
 | c :: s, d :: t, r, q, h => by
  rw [List.flatMap_cons, List.flatMap_cons, qaB, qaB] at h
  have h1 := congrArg u7y h
  rw [qlh, qlh] at h1
  obtain ⟨e1, e2⟩ := Prod.mk.inj (Option.some.inj h1)
  obtain ⟨e3, e4⟩ := qj7 e2
  exact ⟨by rw [e1, e3], e4⟩
theorem qlq {s t r q : List UInt8} (h : q7s s ++ r = q7s t ++ q) : s = t ∧ r = q := by
 unfold q7s at h
 simp only [qaB, List.singleton_append, List.cons_append, qaG] at h
 exact qj7 (List.cons.inj h).2
def ql3 (c : UInt8) : Bool := decide (c.toNat = 44 ∨ c.toNat = 41 ∨ c.toNat = 59 ∨ c.toNat = 40)
theorem qa1 : ∀ {s t r q : List UInt8} {d e : UInt8}, (∀ c ∈ s, ql3 c = false) → (∀ c ∈ t, ql3 c = false) → ql3 d = true → ql3 e = true → s ++ d :: r = t ++ e :: q → s = t ∧ d :: r = e :: q
 | [], [], r, q, d, e, _, _, _, _, h => ⟨rfl, h⟩
 | [], y :: t, r, q, d, e, _, ht, hd, _, h => by
  have := ht y (qaH ..)
  rw [← (List.cons.inj h).1, hd] at this
  cases this
 | x :: s, [], r, q, d, e, hs, _, _, he, h => by
  have := hs x (qaH ..)
  rw [(List.cons.inj h).1, he] at this
  cases this
 | x :: s, y :: t, r, q, d, e, hs, ht, hd, he, h => by
  obtain ⟨h1, h2⟩ := List.cons.inj h
  obtain ⟨h3, h4⟩ := qa1 (fun c hc => hs c (List.mem_cons_of_mem _ hc)) (fun c hc => ht c (List.mem_cons_of_mem _ hc)) hd he h2
  exact ⟨by rw [h1, h3], h4⟩
theorem qah {s : List UInt8} (h : q0p s = 0) : ∀ c ∈ s, c.toNat = 45 ∨ (48 ≤ c.toNat ∧ c.toNat ≤ 57) := fun c hc => by
 obtain ⟨h1, -, -⟩ := q1h h
 have key : ∀ c ∈ q0m s, 48 ≤ c.toNat ∧ c.toNat ≤ 57 := fun c hc => by
  have := List.all_eq_true.1 h1 c hc
  unfold isD at this
  rwa [Bool.and_eq_true, decide_eq_true_eq, decide_eq_true_eq] at this
 unfold q0m at key
 by_cases h45 : s.head? = some 45
 ·rw [if_pos h45] at key
  obtain ⟨r, rfl⟩ := List.head?_eq_some_iff.1 h45
  rcases List.mem_cons.1 hc with rfl | hc
  ·exact .inl rfl
  ·exact .inr (key c hc)
 ·rw [if_neg h45] at key
  exact .inr (key c hc)
theorem qp3 {s : List UInt8} (h : q0p s = 0) : ∀ c ∈ s, ql3 c = false := fun c hc => by
 have := qah h c hc
 exact decide_eq_false (by omega)
theorem qrr {n : Int} (h : i64 n) : ∀ c ∈ Lib.itoa n, ql3 c = false := by
 rw [q2y h.1 h.2]
 exact qp3 (q42 (q3a h)).1
theorem qqz {n m : Int} (hn : i64 n) (hm : i64 m) (h : Lib.itoa n = Lib.itoa m) : n = m := by
 rw [q2y hn.1 hn.2, q2y hm.1 hm.2] at h
 have h2 := (q42 (q3a hn)).2
 have h3 := (q42 (q3a hm)).2
 rw [h, h3] at h2
 exact h2.symm
theorem qtt (c : Bool) : ∀ x ∈ q6c c, ql3 x = false := by cases c <;> decide
theorem q9f {c : UInt8} (h : qew c.toNat = true) : ql3 c = false := by
 unfold qew at h
 exact decide_eq_false (by have := of_decide_eq_true h; omega)
theorem q7u {s : List UInt8} (h : q3y s = true) : (∀ c ∈ s, qew c.toNat = true) ∧ 97 ≤ (s.getD 0 0).toNat ∧ (s.getD 0 0).toNat ≤ 122 ∧ s ≠ [] := by
 unfold q3y at h
 rw [Bool.and_eq_true, decide_eq_true_eq, List.all_eq_true] at h
 exact ⟨h.2, h.1.2.2.1, h.1.2.2.2, h.1.1⟩
theorem qi2 {s : List UInt8} (h : q0p s = 0) : ∃ c, s.getLast? = some c ∧ 48 ≤ c.toNat ∧ c.toNat ≤ 57 := by
 obtain ⟨h1, -, h3⟩ := q1h h
 have key : ∀ c ∈ q0m s, 48 ≤ c.toNat ∧ c.toNat ≤ 57 := fun c hc => by
  have := List.all_eq_true.1 h1 c hc
  unfold isD at this
  rwa [Bool.and_eq_true, decide_eq_true_eq, decide_eq_true_eq] at this
 cases hb : (q0m s).getLast? with
 | none => rw [List.getLast?_eq_none_iff] at hb; exact absurd hb h3
 | some c =>
  refine ⟨c, ?_, key c (List.mem_of_getLast? hb)⟩
  unfold q0m at hb
  by_cases h45 : s.head? = some 45
  ·rw [if_pos h45] at hb
   obtain ⟨r, rfl⟩ := List.head?_eq_some_iff.1 h45
   rw [List.drop_one, List.tail_cons] at hb
   cases r with
   | nil => cases hb
   | cons x r => rw [List.getLast?_cons_cons]; exact hb
  ·rw [if_neg h45] at hb; exact hb
theorem qcc {s : List UInt8} (h : q0p s = 0) : ∃ c, s.head? = some c ∧ c.toNat ≤ 57 := by
 obtain ⟨c, hc, -⟩ := qi2 h
 cases s with
 | nil => cases hc
 | cons x r =>
  refine ⟨x, rfl, ?_⟩
  have := qah h x (qaH ..)
  omega
theorem qo0 {s t : List UInt8} (h : q0p s = 0) : s ≠ t ++ [98] := fun e => by
 obtain ⟨c, hc, h1, h2⟩ := qi2 h
 rw [e, List.getLast?_append] at hc
 cases hc
 revert h2; decide
def tkH (h : VH) : List UInt8 := if h.k = 1 then q6c (decide (h.n = 1)) else if h.k = 2 then Lib.itoa h.n else if h.k = 3 then h.s ++ [98] else h.s
structure OkH (h : VH) (n : Nat) : Prop where
  f : q16 h n = true
  i : i64 h.n
  b : h.k = 3 → q0p h.s = 0
theorem qee (c : Bool) : ∃ x, (q6c c).head? = some x ∧ 97 ≤ x.toNat := by cases c <;> exact ⟨_, rfl, by decide⟩
theorem qf1 {h : VH} {n : Nat} (hk : h.k = 6) (f : q16 h n = true) : ∃ x, h.s.head? = some x ∧ 97 ≤ x.toNat := by
 unfold q16 at f
 rw [if_neg (by omega), if_neg (by omega), if_neg (by omega), if_neg (by omega), if_neg (by omega), if_pos hk, Bool.and_eq_true, Bool.and_eq_true] at f
 obtain ⟨-, h1, -, h4⟩ := q7u f.2.1
 have h2 := (q7u f.2.1).2.1
 cases hs : h.s with
 | nil => rw [hs] at h4; exact absurd (by unfold De.cutA; simp) h4
 | cons x r =>
  refine ⟨x, rfl, ?_⟩
  rw [hs] at h2 h4
  unfold De.cutA at h2 h4
  split at h2
  ·rename_i h9
   rw [if_pos h9] at h4
   cases ht : (q8w (x :: r)).toNat with
   | zero => rw [ht] at h4; exact absurd rfl h4
   | succ m => rw [ht] at h2; exact h2
  ·exact h2
theorem qml {n : Int} (h : i64 n) : ∃ c, (Lib.itoa n).head? = some c ∧ c.toNat ≤ 57 := by
 rw [q2y h.1 h.2]
 exact qcc (q42 (q3a h)).1
theorem qr7 {s : List UInt8} (h : q0p s = 0) : ∃ c, (s ++ [98]).head? = some c ∧ c.toNat ≤ 57 := by
 obtain ⟨c, hc, h1⟩ := qcc h
 cases s with
 | nil => cases hc
 | cons x r => exact ⟨c, hc, h1⟩
theorem qu0 {s t : List UInt8} {x y : UInt8} (hx : s.head? = some x) (hy : t.head? = some y) (h : x.toNat ≤ 57) (h2 : 97 ≤ y.toNat) : s ≠ t := fun e => by
 rw [e, hy] at hx
 cases hx
 omega
theorem u32 {h : VH} {n : Nat} (hk : h.k = 3) (f : q16 h n = true) : h.n = 0 := by
 unfold q16 at f
 rw [if_neg (by omega), if_neg (by omega), if_pos hk, Bool.and_eq_true, decide_eq_true_eq] at f
 exact f.2.1
theorem u2p {h : VH} {n : Nat} (hk : h.k = 2) (f : q16 h n = true) : h.s = [] := by
 unfold q16 at f
 rw [if_neg (by omega), if_pos hk, decide_eq_true_eq] at f
 exact f.1
theorem qvi {h : VH} {n : Nat} (hk : h.k = 1) (f : q16 h n = true) : (h.n = 0 ∨ h.n = 1) ∧ h.s = [] := by
 unfold q16 at f
 rw [if_pos hk, decide_eq_true_eq] at f
 exact ⟨f.1, f.2.1⟩
theorem qnn {h : VH} {n : Nat} (hk : h.k = 6) (f : q16 h n = true) : h.n = 0 ∧ h.s ≠ q2d ∧ h.s ≠ q1f := by
 unfold q16 at f
 rw [if_neg (by omega), if_neg (by omega), if_neg (by omega), if_neg (by omega), if_neg (by omega), if_pos hk, Bool.and_eq_true, Bool.and_eq_true, decide_eq_true_eq] at f
 refine ⟨f.1, fun e => ?_, fun e => ?_⟩
 ·have := f.2.2
  rw [e] at this
  revert this; decide
 ·have := f.2.2
  rw [e] at this
  revert this; decide
theorem qsv {c d : Bool} (h : q6c c = q6c d) : c = d := by cases c <;> cases d <;> first | rfl | (revert h; decide)
theorem qex {h : VH} {n : Nat} (hk : h.k = 6) (f : q16 h n = true) (c : Bool) : h.s ≠ q6c c := fun e => by
 obtain ⟨-, h1, h2⟩ := qnn hk f
 cases c
 ·exact h2 e
 ·exact h1 e
theorem qbq {h g : VH} (h1 : h.k = g.k) (h2 : h.n = g.n) (h3 : h.s = g.s) : h = g := by
 cases h; cases g; simp only at *; subst h1; subst h2; subst h3; rfl
def q57 (k : Nat) : Prop := k = 1 ∨ k = 2 ∨ k = 3 ∨ k = 6
theorem qul {h g : VH} {n m : Nat} (oh : OkH h n) (og : OkH g m) (ph : q57 h.k) (pg : q57 g.k) (e : tkH h = tkH g) : h = g := by
 have low : ∀ {v : VH} {n : Nat}, OkH v n → (v.k = 2 ∨ v.k = 3) → ∃ c, (tkH v).head? = some c ∧ c.toNat ≤ 57 := by
  intro v n o hk
  unfold tkH
  rcases hk with hk | hk
  ·rw [if_neg (by omega), if_pos hk]; exact qml o.i
  ·rw [if_neg (by omega), if_neg (by omega), if_pos hk]; exact qr7 (o.b hk)
 have high : ∀ {v : VH} {n : Nat}, OkH v n → (v.k = 1 ∨ v.k = 6) → ∃ c, (tkH v).head? = some c ∧ 97 ≤ c.toNat := by
  intro v n o hk
  unfold tkH
  rcases hk with hk | hk
  ·rw [if_pos hk]; exact qee _
  ·rw [if_neg (by omega), if_neg (by omega), if_neg (by omega)]; exact qf1 hk o.f
 have t1 : ∀ {v : VH}, v.k = 1 → tkH v = q6c (decide (v.n = 1)) := fun hk => by unfold tkH; rw [if_pos hk]
 have t2 : ∀ {v : VH}, v.k = 2 → tkH v = Lib.itoa v.n := fun hk => by unfold tkH; rw [if_neg (by omega), if_pos hk]
 have t3 : ∀ {v : VH}, v.k = 3 → tkH v = v.s ++ [98] := fun hk => by unfold tkH; rw [if_neg (by omega), if_neg (by omega), if_pos hk]
 have t6 : ∀ {v : VH}, v.k = 6 → tkH v = v.s := fun hk => by unfold tkH; rw [if_neg (by omega), if_neg (by omega), if_neg (by omega)]
 have cross : ∀ {v w : VH} {n m : Nat}, OkH v n → OkH w m → (v.k = 2 ∨ v.k = 3) → (w.k = 1 ∨ w.k = 6) → tkH v ≠ tkH w := by
  intro v w n m ov ow hv hw
  obtain ⟨x, hx, hx2⟩ := low ov hv
  obtain ⟨y, hy, hy2⟩ := high ow hw
  exact qu0 hx hy hx2 hy2
 rcases ph with hk | hk | hk | hk <;> rcases pg with gk | gk | gk | gk
 ·rw [t1 hk, t1 gk] at e
  have e2 := qsv e
  obtain ⟨b1, s1⟩ := qvi hk oh.f
  obtain ⟨b2, s2⟩ := qvi gk og.f
  refine qbq (by omega) ?_ (by rw [s1, s2])
  by_cases h1 : h.n = 1
  ·rw [decide_eq_true h1] at e2
   rw [h1, of_decide_eq_true e2.symm]
  ·rw [decide_eq_false h1] at e2
   have := of_decide_eq_false e2.symm
   omega
 ·exact absurd e.symm (cross og oh (.inl gk) (.inl hk))
 ·exact absurd e.symm (cross og oh (.inr gk) (.inl hk))
 ·rw [t1 hk, t6 gk] at e; exact absurd e.symm (qex gk og.f _)
 ·exact absurd e (cross oh og (.inl hk) (.inl gk))
 ·rw [t2 hk, t2 gk] at e
  exact qbq (by omega) (qqz oh.i og.i e) (by rw [u2p hk oh.f, u2p gk og.f])
 ·rw [t2 hk, t3 gk, q2y oh.i.1 oh.i.2] at e
  exact absurd e (qo0 (q42 (q3a oh.i)).1)
 ·exact absurd e (cross oh og (.inl hk) (.inr gk))
 ·exact absurd e (cross oh og (.inr hk) (.inl gk))
 ·rw [t3 hk, t2 gk, q2y og.i.1 og.i.2] at e
  exact absurd e.symm (qo0 (q42 (q3a og.i)).1)
 ·rw [t3 hk, t3 gk] at e
  exact qbq (by omega) (by rw [u32 hk oh.f, u32 gk og.f]) (List.append_cancel_right e)
 ·exact absurd e (cross oh og (.inr hk) (.inr gk))
 ·rw [t6 hk, t1 gk] at e; exact absurd e (qex hk oh.f _)
 ·exact absurd e.symm (cross og oh (.inl gk) (.inr hk))
 ·exact absurd e.symm (cross og oh (.inr gk) (.inr hk))
 ·rw [t6 hk, t6 gk] at e
  exact qbq (by omega) (by rw [(qnn hk oh.f).1, (qnn gk og.f).1]) e
theorem qvh : ∀ {s : List UInt8} {c : UInt8}, 0 ≤ Lib.indexByte s c → ∀ x ∈ s, x ∈ s.take (Lib.indexByte s c).toNat ∨ x = c ∨ x ∈ s.drop ((Lib.indexByte s c).toNat + 1)
 | [], c, _, x, hx => by cases hx
 | b :: l, c, h, x, hx => by
  by_cases hb : b = c
  ·subst hb
   have e : Lib.indexByte (b :: l) b = 0 := by unfold Lib.indexByte; simp
   rw [e]
   rcases List.mem_cons.1 hx with h1 | h1
   ·exact .inr (.inl h1)
   ·exact .inr (.inr h1)
  ·have hb2 : (b == c) = false := by simp [hb]
   by_cases hn : Lib.indexByte l c = -1
   ·exfalso
    have e : Lib.indexByte (b :: l) c = -1 := by unfold Lib.indexByte; rw [hb2, hn]; rfl
    omega
   ·have hge := Lib.indexByte_ge l c
    have e : Lib.indexByte (b :: l) c = Lib.indexByte l c + 1 := by
     conv => lhs; unfold Lib.indexByte
     rw [hb2, if_neg (by decide), if_neg (by simpa using hn)]
    rw [e, show (Lib.indexByte l c + 1).toNat = (Lib.indexByte l c).toNat + 1 by omega, List.take_succ_cons, List.drop_succ_cons]
    rcases List.mem_cons.1 hx with h1 | h1
    ·exact .inl (List.mem_cons.2 (.inl h1))
    ·rcases qvh (s := l) (c := c) (by omega) x h1 with h2 | h2 | h2
     ·exact .inl (List.mem_cons_of_mem _ h2)
     ·exact .inr (.inl h2)
     ·exact .inr (.inr h2)
theorem qrp {h : VH} {n : Nat} (hk : h.k = 6) (f : q16 h n = true) : ∀ c ∈ h.s, ql3 c = false := fun c hc => by
 unfold q16 at f
 rw [if_neg (by omega), if_neg (by omega), if_neg (by omega), if_neg (by omega), if_neg (by omega), if_pos hk, Bool.and_eq_true, Bool.and_eq_true] at f
 have h1 := (q7u f.2.1).1
 by_cases hi : 0 ≤ q8w h.s
 ·have h2 := f.2.2
  rw [show De.cutC h.s = true from decide_eq_true hi] at h2
  have h3 : q3y (De.cutB h.s) = true := by simpa using h2
  have h4 := (q7u h3).1
  unfold De.cutA at h1
  unfold De.cutB at h4
  rw [if_pos hi] at h1 h4
  unfold q8w at hi h1 h4
  rcases qvh hi c hc with h5 | h5 | h5
  ·exact q9f (h1 c h5)
  ·rw [h5]; rfl
  ·exact q9f (h4 c h5)
 ·unfold De.cutA at h1
  rw [if_neg hi] at h1
  exact q9f (h1 c hc)
theorem q6u {h : VH} {n : Nat} (o : OkH h n) (p : q57 h.k) : ∀ c ∈ tkH h, ql3 c = false := by
 unfold tkH
 rcases p with hk | hk | hk | hk
 ·rw [if_pos hk]; exact qtt _
 ·rw [if_neg (by omega), if_pos hk]; exact qrr o.i
 ·rw [if_neg (by omega), if_neg (by omega), if_pos hk]
  intro c hc
  rcases List.mem_append.1 hc with hc | hc
  ·exact qp3 (o.b hk) c hc
  ·obtain rfl := List.mem_singleton.1 hc; rfl
 ·rw [if_neg (by omega), if_neg (by omega), if_neg (by omega)]
  exact qrp hk o.f
def OkR : Vf → Prop
 | .nil => True
 | .cons h L r => (OkH h L.len ∧ OkR L) ∧ OkR r
def u3f (d : UInt8) : Prop := d = 44 ∨ d = 41 ∨ d = 59
theorem qcp {d : UInt8} (h : u3f d) : ql3 d = true := by rcases h with rfl | rfl | rfl <;> rfl
theorem kinds {h : VH} {n : Nat} (f : q16 h n = true) : q57 h.k ∨ h.k = 4 ∨ h.k = 5 := by
 unfold q57
 unfold q16 at f
 by_cases h1 : h.k = 1
 ·exact .inl (.inl h1)
 ·by_cases h2 : h.k = 2
  ·exact .inl (.inr (.inl h2))
  ·by_cases h3 : h.k = 3
   ·exact .inl (.inr (.inr (.inl h3)))
   ·by_cases h4 : h.k = 4
    ·exact .inr (.inl h4)
    ·by_cases h5 : h.k = 5
     ·exact .inr (.inr h5)
     ·by_cases h6 : h.k = 6
      ·exact .inl (.inr (.inr (.inr h6)))
      ·rw [if_neg h1, if_neg h2, if_neg h3, if_neg h4, if_neg h5, if_neg h6] at f; cases f
theorem u59 {h : VH} {n : Nat} (o : OkH h n) (p : q57 h.k) : ∃ x q, tkH h = x :: q ∧ x ≠ 34 ∧ x ≠ 40 ∧ x ≠ 41 := by
 have key : ∀ {t : List UInt8}, t ≠ [] → (∀ c ∈ t, ql3 c = false) → (∀ x q, t = x :: q → x ≠ 34) → ∃ x q, t = x :: q ∧ x ≠ 34 ∧ x ≠ 40 ∧ x ≠ 41 := by
  intro t h0 h1 h2
  cases t with
  | nil => exact absurd rfl h0
  | cons x q =>
   have := h1 x (qaH ..)
   exact ⟨x, q, rfl, h2 x q rfl, fun e => (by subst e; cases this), fun e => (by subst e; cases this)⟩
 have hd := q6u o p
 have nm : ∀ {s : List UInt8}, q0p s = 0 → s ≠ [] ∧ ∀ x q, s = x :: q → x ≠ 34 := by
  intro s hs
  obtain ⟨c, hc, -⟩ := qcc hs
  refine ⟨fun e => (by rw [e] at hc; cases hc), fun x q e e2 => ?_⟩
  have := qah hs x (by rw [e]; exact qaH ..)
  subst e2
  revert this; decide
 unfold tkH at hd ⊢
 rcases p with hk | hk | hk | hk
 ·rw [if_pos hk] at hd ⊢
  obtain ⟨x, hx, h97⟩ := qee (decide (h.n = 1))
  exact key (fun e => by rw [e] at hx; cases hx) hd fun y q e e2 => by rw [e] at hx; cases hx; subst e2; revert h97; decide
 ·rw [if_neg (by omega), if_pos hk] at hd ⊢
  rw [q2y o.i.1 o.i.2] at hd ⊢
  obtain ⟨a, b⟩ := nm (q42 (q3a o.i)).1
  exact key a hd b
 ·rw [if_neg (by omega), if_neg (by omega), if_pos hk] at hd ⊢
  obtain ⟨a, b⟩ := nm (o.b hk)
  refine key (by simp) hd fun y q e => ?_
  cases hs : h.s with
  | nil => exact absurd hs a
  | cons z w => rw [hs] at e; cases e; exact b _ _ hs
 ·rw [if_neg (by omega), if_neg (by omega), if_neg (by omega)] at hd ⊢
  obtain ⟨x, hx, h97⟩ := qf1 hk o.f
  exact key (fun e => by rw [e] at hx; cases hx) hd fun y q e e2 => by rw [e] at hx; cases hx; subst e2; revert h97; decide
theorem q9v {h : VH} {L : Vf} {d : UInt8} {r : List UInt8} (o : OkH h L.len) (p : q57 h.k) (hd : u3f d) :
  (L.len = 0 ∧ q6h h L ++ d :: r = tkH h ++ d :: r) ∨ (0 < L.len ∧ q6h h L ++ d :: r = tkH h ++ 40 :: (qc1 false L ++ 41 :: d :: r)) := by
 have f := o.f
 unfold q6h qg6 tkH
 unfold q16 at f
 rcases p with hk | hk | hk | hk
 ·rw [if_pos hk] at f
  have := of_decide_eq_true f
  exact .inl ⟨this.2.2, by rw [if_pos hk, if_pos hk]⟩
 ·rw [if_neg (by omega), if_pos hk] at f
  have := of_decide_eq_true f
  exact .inl ⟨this.2, by rw [if_neg (by omega), if_pos hk, if_neg (by omega), if_pos hk]⟩
 ·rw [if_neg (by omega), if_neg (by omega), if_pos hk, Bool.and_eq_true] at f
  have := of_decide_eq_true f.2
  exact .inl ⟨this.2, by rw [if_neg (by omega), if_neg (by omega), if_pos hk, if_neg (by omega), if_neg (by omega), if_pos hk]⟩
 ·by_cases h0 : L.len = 0
  ·exact .inl ⟨h0, by simp [hk, h0]⟩
  ·exact .inr ⟨by omega, by simp [hk, h0]⟩
theorem qc8 {h : VH} {L : Vf} (hk : h.k = 4) : q6h h L = q7s h.s := by
 unfold q6h qg6
 rw [if_neg (by omega), if_neg (by omega), if_neg (by omega), if_pos hk]
theorem qdh {h : VH} {L : Vf} (hk : h.k = 5) : q6h h L = [40] ++ qc1 false L ++ [41] := by
 unfold q6h qg6
 rw [if_neg (by omega), if_neg (by omega), if_neg (by omega), if_neg (by omega), if_pos hk]
theorem quj {h : VH} {n : Nat} (hk : h.k = 4) (f : q16 h n = true) : h.n = 0 ∧ n = 0 := by
 unfold q16 at f
 rw [if_neg (by omega), if_neg (by omega), if_neg (by omega), if_pos hk] at f
 exact of_decide_eq_true f
theorem qv7 {h : VH} {n : Nat} (hk : h.k = 5) (f : q16 h n = true) : h.n = 0 ∧ h.s = [] := by
 unfold q16 at f
 rw [if_neg (by omega), if_neg (by omega), if_neg (by omega), if_neg (by omega), if_pos hk] at f
 have := of_decide_eq_true f
 exact ⟨this.1, this.2.1⟩
theorem qpp {h : VH} {L : Vf} (o : OkH h L.len) : ∃ x q, q6h h L = x :: q ∧ x ≠ 41 ∧ (h.k = 4 → x = 34) ∧ (h.k = 5 → x = 40) ∧ (q57 h.k → x ≠ 34 ∧ x ≠ 40) := by
 rcases kinds o.f with p | hk | hk
 ·obtain ⟨x, q, e, h1, h2, h3⟩ := u59 o p
  have np : ¬ h.k = 4 ∧ ¬ h.k = 5 := by unfold q57 at p; omega
  have e2 : ∃ q', q6h h L = x :: q' := by
   rcases q9v (d := 59) (r := []) o p (.inr (.inr rfl)) with ⟨-, e9⟩ | ⟨-, e9⟩
   ·rw [List.append_cancel_right e9]; exact ⟨_, e⟩
   ·cases hs : q6h h L with
    | nil => rw [hs, e] at e9; simp at e9
    | cons y w => rw [hs, e] at e9; exact ⟨w, by rw [(List.cons.inj e9).1]⟩
  obtain ⟨q', e3⟩ := e2
  exact ⟨x, q', e3, h3, fun h => absurd h np.1, fun h => absurd h np.2, fun _ => ⟨h1, h2⟩⟩
 ·exact ⟨34, _, by rw [qc8 hk]; rfl, by decide, fun _ => rfl, fun h => by omega, fun h => by unfold q57 at h; omega⟩
 ·exact ⟨40, _, by rw [qdh hk]; rfl, by decide, fun h => by omega, fun _ => rfl, fun h => by unfold q57 at h; omega⟩
def u5v (N : Nat) : Prop := ∀ (h : VH) (L : Vf) (g : VH) (M : Vf) (d e : UInt8) (r q : List UInt8), L.size + M.size < N → OkH h L.len → OkH g M.len → OkR L → OkR M → u3f d → u3f e → q6h h L ++ d :: r = q6h g M ++ e :: q → h = g ∧ L = M ∧ d :: r = e :: q
def u38 (N : Nat) : Prop := ∀ (c : Bool) (l m : Vf) (r q : List UInt8), l.size + m.size < N → OkR l → OkR m → qc1 c l ++ 41 :: r = qc1 c m ++ 41 :: q → l = m ∧ r = q
theorem qzp {L : Vf} (h : L.len = 0) : L = .nil := q9c h
theorem qay {N : Nat} (ih : u38 N) : u5v N := by
 intro h L g M d e r q hN oh og oL oM hd he hh
 obtain ⟨x, w, ex, -, x4, x5, xp⟩ := qpp oh
 obtain ⟨y, z, ey, -, y4, y5, yp⟩ := qpp og
 have hxy : x = y := by rw [ex, ey] at hh; exact (List.cons.inj hh).1
 subst hxy
 rcases kinds oh.f with ph | hk | hk <;> rcases kinds og.f with pg | gk | gk
 ·rcases q9v (r := r) oh ph hd with ⟨l0, e1⟩ | ⟨l0, e1⟩ <;> rcases q9v (r := q) og pg he with ⟨m0, e2⟩ | ⟨m0, e2⟩ <;> rw [e1, e2] at hh
  ·obtain ⟨t1, t2⟩ := qa1 (q6u oh ph) (q6u og pg) (qcp hd) (qcp he) hh
   exact ⟨qul oh og ph pg t1, by rw [qzp l0, qzp m0], t2⟩
  ·obtain ⟨t1, t2⟩ := qa1 (q6u oh ph) (q6u og pg) (qcp hd) rfl hh
   have := (List.cons.inj t2).1
   subst this; rcases hd with h9 | h9 | h9 <;> cases h9
  ·obtain ⟨t1, t2⟩ := qa1 (q6u oh ph) (q6u og pg) rfl (qcp he) hh
   have := (List.cons.inj t2).1
   subst this; rcases he with h9 | h9 | h9 <;> cases h9
  ·obtain ⟨t1, t2⟩ := qa1 (q6u oh ph) (q6u og pg) rfl rfl hh
   obtain ⟨u1, u2⟩ := ih false L M _ _ hN oL oM (List.cons.inj t2).2
   exact ⟨qul oh og ph pg t1, u1, u2⟩
 ·exact absurd (y4 gk) (xp ph).1
 ·exact absurd (y5 gk) (xp ph).2
 ·exact absurd (x4 hk) (yp pg).1
 ·rw [qc8 hk, qc8 gk] at hh
  obtain ⟨u1, u2⟩ := qlq hh
  obtain ⟨a1, a2⟩ := quj hk oh.f
  obtain ⟨b1, b2⟩ := quj gk og.f
  exact ⟨qbq (by omega) (by omega) u1, by rw [qzp a2, qzp b2], u2⟩
 ·exact absurd ((x4 hk).symm.trans (y5 gk)) (by decide)
 ·exact absurd (x5 hk) (yp pg).2
 ·exact absurd ((x5 hk).symm.trans (y4 gk)) (by decide)
 ·rw [qdh hk, qdh gk] at hh
  simp only [qaB, List.singleton_append, List.cons_append, qaG] at hh
  obtain ⟨u1, u2⟩ := ih false L M _ _ hN oL oM (List.cons.inj hh).2
  obtain ⟨a1, a2⟩ := qv7 hk oh.f
  obtain ⟨b1, b2⟩ := qv7 gk og.f
  exact ⟨qbq (by omega) (by omega) (by rw [a2, b2]), u1, u2⟩
theorem qpi (l : Vf) (r : List UInt8) : ∃ d R, qc1 true l ++ 41 :: r = d :: R ∧ u3f d := by
 cases l with
 | nil => exact ⟨41, r, rfl, .inr (.inl rfl)⟩
 | cons h L l => exact ⟨44, _, rfl, .inl rfl⟩
theorem qmb (c : Bool) (h : VH) (L l : Vf) (o : OkH h L.len) : ∃ x R, qc1 c (.cons h L l) = x :: R ∧ x ≠ 41 := by
 obtain ⟨x, w, e, hx, -⟩ := qpp o
 rw [q7p, e]
 cases c
 ·exact ⟨x, _, rfl, hx⟩
 ·exact ⟨44, _, rfl, by decide⟩
theorem qxs : ∀ N, u38 N
 | 0 => fun _ _ _ _ _ h => absurd h (Nat.not_lt_zero _)
 | N + 1 => fun c l m r q hN ol om hh => by
  match l, m, ol, om, hN, hh with
  | .nil, .nil, _, _, _, hh => exact ⟨rfl, (List.cons.inj hh).2⟩
  | .nil, .cons g M m, _, om, _, hh =>
   obtain ⟨x, R, e, hx⟩ := qmb c g M m om.1.1
   rw [e] at hh
   exact absurd (List.cons.inj hh).1.symm hx
  | .cons h L l, .nil, ol, _, _, hh =>
   obtain ⟨x, R, e, hx⟩ := qmb c h L l ol.1.1
   rw [e] at hh
   exact absurd (List.cons.inj hh).1 hx
  | .cons h L l, .cons g M m, ol, om, hN, hh =>
   have hN2 : (L.size + l.size + 1) + (M.size + m.size + 1) < N + 1 := hN
   rw [q7p, q7p, qaB, qaB, qaB, qaB] at hh
   have h1 := List.append_cancel_left hh
   obtain ⟨d, R, e1, hd⟩ := qpi l r
   obtain ⟨e, R2, e2, he⟩ := qpi m q
   rw [e1, e2] at h1
   obtain ⟨u1, u2, u3⟩ := qay (qxs N) h L g M d e R R2 (by omega) ol.1.1 om.1.1 ol.1.2 om.1.2 hd he h1
   rw [← e1, ← e2] at u3
   obtain ⟨u4, u5⟩ := qxs N true l m r q (by omega) ol.2 om.2 u3
   exact ⟨by rw [u1, u2, u4], u5⟩
theorem qoq : ∀ {l m : Vf} {t : List UInt8}, OkR l → OkR m → q13 l = some t → q13 m = some t → l = m
 | .nil, .nil, _, _, _, _, _ => rfl
 | .nil, .cons g M m, t, _, om, h1, h2 => by
  cases h1
  unfold q13 at h2
  split at h2
  ·obtain ⟨y, hy, e⟩ := Option.map_eq_some_iff.1 h2; simp at e
  ·cases h2
 | .cons g M m, .nil, t, _, om, h2, h1 => by
  cases h1
  unfold q13 at h2
  split at h2
  ·obtain ⟨y, hy, e⟩ := Option.map_eq_some_iff.1 h2; simp at e
  ·cases h2
 | .cons h L l, .cons g M m, t, ol, om, h1, h2 => by
  unfold q13 at h1 h2
  split at h1
  ·split at h2
   ·obtain ⟨y, hy, e⟩ := Option.map_eq_some_iff.1 h1
    obtain ⟨z, hz, e2⟩ := Option.map_eq_some_iff.1 h2
    rw [← e2] at e
    simp only [qaB, List.singleton_append] at e
    obtain ⟨u1, u2, u3⟩ := qay (qxs (L.size + M.size + 1)) h L g M 59 59 y z (by omega) ol.1.1 om.1.1 ol.1.2 om.1.2 (.inr (.inr rfl)) (.inr (.inr rfl)) e
    have hyz := (List.cons.inj u3).2
    subst hyz
    rw [u1, u2, qoq ol.2 om.2 hy hz]
   ·cases h2
  ·cases h1
theorem qlx : ∀ {l : Vf}, RgF l → q29 l = true → q60 l = true → OkR l
 | .nil, _, _, _ => trivial
 | .cons h L r, ⟨h1, h2, h3⟩, hf, hx => by
  rw [q24, Bool.and_eq_true, Bool.and_eq_true] at hf
  rw [q48, Bool.and_eq_true, Bool.and_eq_true] at hx
  refine ⟨⟨⟨hf.1.1, h1, fun hk => ?_⟩, qlx h2 hf.1.2 hx.1.2⟩, qlx h3 hf.2 hx.2⟩
  have f := hf.1.1
  have x := hx.1.1
  unfold q16 at f
  unfold q53 at x
  rw [if_neg (by omega), if_neg (by omega), if_pos hk, Bool.and_eq_true] at f
  rw [if_pos hk] at x
  exact qec f.1 (of_decide_eq_true x)
theorem qkk {h : VH} {L : Vf} (e : q2e h L = 0) : (q16 h L.len = true ∧ q29 L = true) ∧ q53 h L.len = true ∧ q60 L = true := by
 refine ⟨q38 e, ?_⟩
 unfold q2e at e
 split at e
 ·cases e
 ·split at e
  ·cases e
  ·split at e
   ·cases e
   ·rename_i h3
    rw [Bool.not_eq_false, Bool.and_eq_true] at h3
    exact h3
theorem qhf : ∀ {l : Vf}, RgF l → (q13 l).isSome = true → OkR l
 | .nil, _, _ => trivial
 | .cons h L r, ⟨h1, h2, h3⟩, hs => by
  unfold q13 at hs
  by_cases hc : q2e h L = 0
  ·rw [if_pos hc] at hs
   have hs2 : (q13 r).isSome = true := by cases hr : q13 r with | none => rw [hr] at hs; cases hs | some _ => rfl
   obtain ⟨⟨a, b⟩, c, d⟩ := qkk hc
   have := qlx (l := .cons h L .nil) ⟨h1, h2, trivial⟩ (by rw [q24, a, b]; rfl) (by rw [q48, c, d]; rfl)
   exact ⟨this.1, qhf h3 hs2⟩
  ·rw [if_neg hc] at hs; cases hs
theorem qbx {l m : Vf} {t : List UInt8} (hl : RgF l) (hm : RgF m) (h1 : q13 l = some t) (h2 : q13 m = some t) : l = m :=
 qoq (qhf hl (by rw [h1]; rfl)) (qhf hm (by rw [h2]; rfl)) h1 h2
