/- Walks. -/
import Derived.Test.YtbhipiepfclneaaGreatDoorQTy
import Derived.Lib.Builder
import Derived.Lib.UnsafeStr
import Derived.Laws.Externs
set_option maxHeartbeats 1000000
set_option linter.unusedVariables false
set_option linter.unusedSimpArgs false
namespace Go.Proofs.YtbhipiepfclneaaGreatDoor
open Go Go.Wk Go.Num
attribute [local irreducible] Go.wpList Go.Code.wp Go.wpStill Go.Wk.q26 Go.bodyPost Go.Calls Go.Wk.Ct Go.Wk.q0u Go.wpListIn Go.Code.wpIn Go.CallsIn Go.bodyPostM Go.Wk.q9q
theorem mixed : Tryz.prog.follows .mixedOrders = true := by kernel_rfl
theorem b2 : 2 ≤ 1000000000 := by decide
def Mag (F : q01) (v : Value) (N : Nat) : Prop := SlC F v (nd 1000000000 N) (cel (nd 1000000000 N) (dig 1000000000 N))
theorem Mag.mono {F F' : q01} {v N} (hF : ∀ b o, F b = some o → F' b = some o) (h : Mag F v N) : Mag F' v N := SlC.mono hF h
theorem qp8 {F : q01} {b off k j : Nat} {f : Nat → Nat} (h : q2v F b off (cel k f)) (hj : j < k) : Cel F b (off + j * 1) (.int .i64 ((f j : Nat) : Int)) := by
 rw [Nat.mul_one]; exact h.cel (qmc hj)
theorem SlC.cut {F : q01} {ao : Option Addr} {k cap i : Nat} {f : Nat → Nat} (h : SlC F (.slice ao k cap) k (cel k f)) (hi : i ≤ k) (j : Nat) (hj : i ≤ j) : SlC F (.slice ao i j) i (cel i f) := by
 obtain ⟨ao', cap', e, h1, h2⟩ := h
 cases e
 refine ⟨ao, j, rfl, hj, fun h0 => ?_⟩
 obtain ⟨b, off, rfl, hc⟩ := h2 (by omega)
 exact ⟨b, off, rfl, by rw [← qr1 hi]; exact hc.take i⟩
theorem qiy {b S i : Nat} (h : 0 < i) (hd : dig b S (i - 1) = 0) : ndf b S (i - 1) = ndf b S i := by
 cases i with
 | zero => omega
 | succ i => rw [ndf, if_pos (by simpa using hd)]; rfl
theorem qjq {b S i : Nat} (h : i = 0 ∨ dig b S (i - 1) ≠ 0) : ndf b S i = i := by
 cases i with
 | zero => rfl
 | succ i => rw [ndf, if_neg (by rcases h with h | h; omega; simpa using h)]
theorem ql9 {p : Prop} (h : p := by (have e : nd 1000000000 N = m := (by rw [← hn]; exact qjq (by omega)); unfold Mag; rw [e]; exact SlC.cut hv0 (by omega) m (Nat.le_refl _))) : p := h
theorem qp7 (N k : Nat) (v : Value) (F : q01) (hS : N < 1000000000 ^ k) (hk : k ≤ 1000000000) (hv : SlC F v k (cel k (dig 1000000000 N))) : Ct Tryz.prog 96 [v] F [] (fun _ _ u => Mag F u N) := by
 have hv0 := hv
 obtain ⟨ao, cap, rfl, hcap, hpos⟩ := hv
 have hnd := qmh hS b2
 refine Ct.enter Tryz.func96 rfl Tryz.ntmps96 rfl fun w0 a S => ?_
 revert a; refine go 12 ?_; intro Z hZ a S
 refine q04 (fun m a w' => ∃ (i : Nat), m = i ∧ i ≤ k ∧ ndf 1000000000 N i = nd 1000000000 N ∧ St 22 [(0, .slice ao k cap), (3, .int .i64 i)] w0 F [] F [] a w') ?_ ?_
 ·(refine ⟨k, k, rfl, Nat.le_refl _, hnd, ?_⟩; refine S.keep ?_; exact zk)
 (clear S; rintro m a w ⟨i, rfl, hi, hn, S⟩)
 revert a; refine go 5 ?_; intro Z hZ Z hZ a S
 refine wgd S ?_ ?_
 ·(clear S; intro h S)
  revert a; refine go 4 ?_; intro a S
  first | (refine wv S (q12 (q := 1) S rfl rfl rfl (by omega)) ?_; clear S a; intro a S) | (refine wv S (q1a S rfl rfl rfl (by omega)) ?_; clear S a; intro a S)
  refine q1j S rfl rfl rfl ?_
  (obtain ⟨b, off, rfl, hcs⟩ := hpos (by omega); have hce := qp8 hcs (j := m - 1) (by omega); have hdl := q2z b2 N (m - 1)); (refine wv S (q28 S rfl rfl rfl (by omega)) ?_; clear S a; intro a S)
  revert a; revert Z; refine go 7 ?_; intro a S
  refine q00 S rfl ?_ ?_ <;> intro h
  ·revert a; revert Z; refine go 5 ?_; intro a S
   first | (refine wv S (q12 (q := 1) S rfl rfl rfl (by omega)) ?_; clear S a; intro a S) | (refine wv S (q1a S rfl rfl rfl (by omega)) ?_; clear S a; intro a S)
   revert a; refine go 2 ?_; intro a S
   change ∃ m', _ ∧ _
   (refine ⟨m - 1, by omega, m - 1, rfl, by omega, ?_, ?_⟩; rotate_left 1; (refine S.keep ?_; exact zk); rw [← hn]; exact qiy (by omega) (by omega))
  (refine wp_exit ?_; conv => whnf)
  clear hZ Z
  revert a; revert Z; refine go 5 ?_; intro Z hZ a S
  (refine wv S (q79 S rfl rfl rfl rfl (by omega) (by omega)) ?_; clear S a; intro a S)
  revert a; revert Z; refine go 3 ?_; intro a S
  refine wp_ret (fr1 S Tryz.results96 ?_)
  exact ql9
 (clear S a; intro h a S)
 revert a; revert Z; refine go 8 ?_; intro a S
 refine q03 S rfl ?_
 (refine wp_exit ?_; conv => whnf)
 clear hZ Z
 revert a; revert Z; refine go 5 ?_; intro Z hZ a S
 (refine wv S (q79 S rfl rfl rfl rfl (by omega) (by omega)) ?_; clear S a; intro a S)
 revert a; revert Z; refine go 3 ?_; intro a S
 refine wp_ret (fr1 S Tryz.results96 ?_)
 exact ql9
theorem qb5 {b A C la lc : Nat} (hb : 2 ≤ b) (h1 : A < b ^ la) (h2 : C < b ^ lc) : A + C < b ^ (max la lc + 1) := by
 have e1 : b ^ la ≤ b ^ max la lc := Nat.pow_le_pow_right (by omega) (Nat.le_max_left _ _)
 have e2 : b ^ lc ≤ b ^ max la lc := Nat.pow_le_pow_right (by omega) (Nat.le_max_right _ _)
 have e3 : 2 * b ^ max la lc ≤ b ^ (max la lc + 1) := by rw [Nat.pow_succ, Nat.mul_comm]; exact Nat.mul_le_mul_left _ hb
 omega
theorem reg {k : IntKind} {x y : Int} (h : x = y) : some (Value.int k x) = some (Value.int k y) := by rw [h]
theorem qj3 {e : TypeId} {v : Value} {K i : Nat} {f g : Nat → Nat} {gr : Grp} (h : q0u e 1 v K (qfv K i f g) gr) (hi : i = K) : q0u e 1 v K (cel K f) gr := by
 subst hi; rw [qmy] at h; exact h
theorem qpb {e : TypeId} {v x : Value} {K i : Nat} {f g : Nat → Nat} {gr : Grp} (h : q0u e 1 v K ((qfv K i f g).set i x) gr) (hx : x = .int .i64 ((f i : Nat) : Int)) : q0u e 1 v K (qfv K (i + 1) f g) gr := by
 rw [qrf hx] at h; exact h
theorem qdf {p : Prop} (h : p := by (refine ⟨K - (i + 1), by omega, i + 1, g, rfl, by omega, qpb hown (congrArg _ (by rw [← qm1 b2]; rfl)), ?_⟩; rw [qng b2]; refine S.keep ?_; exact zk)) : p := h
theorem u1r (A C : Nat) (v u : Value) (F : q01) (hlA : nd 1000000000 A ≤ 1000000) (hlC : nd 1000000000 C ≤ 1000000) (hv : Mag F v A) (hu : Mag F u C) : Ct Tryz.prog 66 [v, u] F [] (fun F' _ r => Mag F' r (A + C)) := by
 obtain ⟨ao, ca, rfl, hca, hpa⟩ := hv
 obtain ⟨co, cc, rfl, hcc, hpc⟩ := hu
 have hlt := qb5 b2 (q33 b2 A) (q33 b2 C)
 refine Ct.enter Tryz.func66 rfl Tryz.ntmps66 rfl fun w0 a S => ?_
 revert a; refine go 9 ?_; intro Z hZ a S
 first | (refine wv S (qo9 S rfl rfl rfl) ?_; clear S a; intro a S) | (refine wv S (qmu S rfl rfl rfl) ?_; clear S a; intro a S)
 revert a; refine go 1 ?_; intro a S
 (refine qco (q := max (nd 1000000000 A) (nd 1000000000 C) + 1) S rfl rfl rfl rfl rfl rfl rfl (by omega) (by omega) ?_; clear S a; intro b a w hown S; generalize hK : max (nd 1000000000 A) (nd 1000000000 C) + 1 = K at S hown hlt)
 revert a; revert Z; refine go 15 ?_; intro Z hZ a S
 refine q04 (fun m a w' => ∃ (i : Nat) (g : Grp), m = K - i ∧ i ≤ K ∧ q0u 2 1 (.slice (some ⟨b, 0, none⟩) K K) K (qfv K i (dig 1000000000 (A + C)) fun _ => 0) g ∧ St 52 [(0, .slice ao (nd 1000000000 A) ca), (1, .slice co (nd 1000000000 C) cc), (5, .slice (some ⟨b, 0, none⟩) K K), (6, .int .i64 ((cy 1000000000 A C i : Nat) : Int)), (17, .int .i64 K), (18, .int .i64 i)] w0 F [] F [g] a w') ?_ ?_
 ·(refine ⟨K, 0, _, rfl, Nat.zero_le _, (by rw [qfj, ← qci]; exact hown), ?_⟩; rw [qqa]; refine S.keep ?_; exact zk)
 (clear hown S; rintro m a w ⟨i, g, rfl, hi, hown, S⟩; have hcy := u2l b2 (A := A) (B := C) (k := i); have hdA := q2z b2 A i; have hdC := q2z b2 C i; have hzA : nd 1000000000 A ≤ i → dig 1000000000 A i = 0 := fun h => q3u (q33 b2 A) h b2; have hzC : nd 1000000000 C ≤ i → dig 1000000000 C i = 0 := fun h => q3u (q33 b2 C) h b2)
 revert a; refine go 5 ?_; intro Z hZ a S
 refine q00 S rfl ?_ ?_ <;> intro h
 ·revert a; revert Z; refine go 15 ?_; intro Z hZ Z hZ a S
  revert a; refine go 7 ?_; intro a S
  refine q00 S rfl ?_ ?_ <;> intro h
  ·(obtain ⟨ba, offa, rfl, hcsa⟩ := hpa (by omega); have hce := qp8 hcsa h)
   revert a; revert Z; refine go 18 ?_; intro Z hZ a S
   refine q00 S rfl ?_ ?_ <;> intro h
   ·(obtain ⟨bc, offc, rfl, hcsc⟩ := hpc (by omega); have hcf := qp8 hcsc h)
    revert a; revert Z; refine go 10 ?_; intro a S
    (replace S := S.keep (L' := [(0, .slice _ (nd 1000000000 A) ca), (1, .slice _ (nd 1000000000 C) cc), (5, .slice (some ⟨b, 0, none⟩) K K), (17, .int .i64 K), (18, .int .i64 i), (7, .int .i64 i), (8, .int .i64 ((cy 1000000000 A C i + dig 1000000000 A i + dig 1000000000 C i : Nat) : Int))]) ⟨rfl, rfl, rfl, rfl, rfl, rfl, reg (by omega), trivial⟩)
    revert a; refine go 4 ?_; intro a S
    (refine wv S (q8j S rfl rfl rfl (by first | omega | (simp only [qaA, qaC, qaD]; omega))) ?_; clear S a; intro a S)
    revert a; refine go 1 ?_; intro a S
    (refine wv S (q5n S rfl rfl rfl (by first | omega | (simp only [qaA, qaC, qaD]; omega))) ?_; clear S a; intro a S)
    revert a; refine go 1 ?_; intro a S
    (refine q1o S rfl rfl rfl rfl rfl hown rfl (by omega) ?_; clear hown S; intro g w hown S)
    revert a; revert Z; refine go 7 ?_; intro a S
    change ∃ m', _ ∧ _
    exact qdf
   revert a; revert Z; refine go 2 ?_; intro a S
   (replace S := S.keep (L' := [(0, .slice _ (nd 1000000000 A) ca), (1, .slice _ (nd 1000000000 C) cc), (5, .slice (some ⟨b, 0, none⟩) K K), (17, .int .i64 K), (18, .int .i64 i), (7, .int .i64 i), (8, .int .i64 ((cy 1000000000 A C i + dig 1000000000 A i + dig 1000000000 C i : Nat) : Int))]) ⟨rfl, rfl, rfl, rfl, rfl, rfl, reg (by omega), trivial⟩)
   revert a; refine go 4 ?_; intro a S
   (refine wv S (q8j S rfl rfl rfl (by first | omega | (simp only [qaA, qaC, qaD]; omega))) ?_; clear S a; intro a S)
   revert a; refine go 1 ?_; intro a S
   (refine wv S (q5n S rfl rfl rfl (by first | omega | (simp only [qaA, qaC, qaD]; omega))) ?_; clear S a; intro a S)
   revert a; refine go 1 ?_; intro a S
   (refine q1o S rfl rfl rfl rfl rfl hown rfl (by omega) ?_; clear hown S; intro g w hown S)
   revert a; revert Z; refine go 7 ?_; intro a S
   change ∃ m', _ ∧ _
   exact qdf
  revert a; revert Z; refine go 10 ?_; intro Z hZ a S
  refine q00 S rfl ?_ ?_ <;> intro h
  ·(obtain ⟨bc, offc, rfl, hcsc⟩ := hpc (by omega); have hcf := qp8 hcsc h)
   revert a; revert Z; refine go 10 ?_; intro a S
   (replace S := S.keep (L' := [(0, .slice _ (nd 1000000000 A) ca), (1, .slice _ (nd 1000000000 C) cc), (5, .slice (some ⟨b, 0, none⟩) K K), (17, .int .i64 K), (18, .int .i64 i), (7, .int .i64 i), (8, .int .i64 ((cy 1000000000 A C i + dig 1000000000 A i + dig 1000000000 C i : Nat) : Int))]) ⟨rfl, rfl, rfl, rfl, rfl, rfl, reg (by omega), trivial⟩)
   revert a; refine go 4 ?_; intro a S
   (refine wv S (q8j S rfl rfl rfl (by first | omega | (simp only [qaA, qaC, qaD]; omega))) ?_; clear S a; intro a S)
   revert a; refine go 1 ?_; intro a S
   (refine wv S (q5n S rfl rfl rfl (by first | omega | (simp only [qaA, qaC, qaD]; omega))) ?_; clear S a; intro a S)
   revert a; refine go 1 ?_; intro a S
   (refine q1o S rfl rfl rfl rfl rfl hown rfl (by omega) ?_; clear hown S; intro g w hown S)
   revert a; revert Z; refine go 7 ?_; intro a S
   change ∃ m', _ ∧ _
   exact qdf
  refine wp_skip ?_
  (refine hZ _ _ ?_; clear hZ Z)
  (replace S := S.keep (L' := [(0, .slice _ (nd 1000000000 A) ca), (1, .slice _ (nd 1000000000 C) cc), (5, .slice (some ⟨b, 0, none⟩) K K), (17, .int .i64 K), (18, .int .i64 i), (7, .int .i64 i), (8, .int .i64 ((cy 1000000000 A C i + dig 1000000000 A i + dig 1000000000 C i : Nat) : Int))]) ⟨rfl, rfl, rfl, rfl, rfl, rfl, reg (by omega), trivial⟩)
  revert a; refine go 4 ?_; intro a S
  (refine wv S (q8j S rfl rfl rfl (by first | omega | (simp only [qaA, qaC, qaD]; omega))) ?_; clear S a; intro a S)
  revert a; refine go 1 ?_; intro a S
  (refine wv S (q5n S rfl rfl rfl (by first | omega | (simp only [qaA, qaC, qaD]; omega))) ?_; clear S a; intro a S)
  revert a; refine go 1 ?_; intro a S
  (refine q1o S rfl rfl rfl rfl rfl hown rfl (by omega) ?_; clear hown S; intro g w hown S)
  revert a; revert Z; refine go 7 ?_; intro a S
  change ∃ m', _ ∧ _
  exact qdf
 (refine wp_exit ?_; conv => whnf)
 clear hZ Z
 (refine hZ _ _ ?_; clear hZ Z)
 (refine wp_seq_k ?_; intro Z hZ)
 (replace S := St.freeze (G1 := []) S; have hsl := (qj3 hown (by omega)).slC F)
 revert a; refine go 2 ?_; intro a S
 (refine wc0 S (qp7 (A + C) K _ _ hlt (by omega) hsl) ?_; clear S a; intro u a w hu S)
 revert a; revert Z; refine go 3 ?_; intro a S
 refine wp_ret (fr1 S Tryz.results66 ?_)
 exact hu
theorem qoi {p : Prop} (h : p := by (first | (refine ⟨_, rfl, ?_⟩; rw [Nat.zero_add, List.flatMap_nil, qaG] at hown; exact hown) | (refine ⟨[], rfl, ?_⟩; have h0 : k = 0 := (by rcases Nat.eq_zero_or_pos k with e | e; exact e; obtain ⟨b, off, rfl, _⟩ := hpos e; simp at h); subst h0; have h2 : cells = [] := List.eq_nil_of_length_eq_zero hl; subst h2; exact q0u.nil _ _))) : p := h
theorem qxv (k : Nat) (cells : List Value) (v : Value) (F : q01) (hk : k ≤ 1000000000) (hl : cells.length = k) (h1 : ∀ u ∈ cells, u.oneCell' = true) (hv : SlC F v k cells) : Ct Tryz.prog 104 [v] F [] (fun _ G' r => ∃ g, G' = [g] ∧ q0u 2 1 r k cells g) := by
 obtain ⟨ao, cap, rfl, hcap, hpos⟩ := hv
 refine Ct.enter Tryz.func104 rfl Tryz.ntmps104 rfl fun w0 a S => ?_
 revert a; refine go 10 ?_; intro Z hZ a S
 refine q00 S rfl ?_ ?_ <;> intro h
 ·revert a; refine go 4 ?_; intro a S
  refine wp_ret ?_
  skip
  (first | (have h9 := hown; clear h9) | (replace S := S.nilg))
  refine q08 S (q0c Tryz.results104 (RV.tmp S rfl)) ?_
  exact qoi
 revert a; revert Z; refine go 3 ?_; intro Z hZ a S
 (refine q0d S rfl rfl rfl rfl rfl rfl (by rfl) (by simp [Value.cells, splice]) rfl (by rfl) (by rfl) ?_; clear S a; intro b a w hown S)
 revert a; refine go 1 ?_; intro a S
 (refine q1u S rfl rfl rfl rfl rfl rfl hown (by rfl) (by rw [hl, Nat.mul_one]) hpos h1 (by omega) (by omega) ?_; clear hown S a; intro v g a w hown S)
 revert a; revert Z; refine go 3 ?_; intro a S
 refine wp_ret ?_
 skip
 (first | (have h9 := hown; clear h9) | (replace S := S.nilg))
 refine q08 S (q0c Tryz.results104 (RV.tmp S rfl)) ?_
 exact qoi
theorem qcy {p : Prop} (h : p := by (have hds := qoj (k := i) b2 hCA; have hbs := qm2 (A := A) (B := C) (k := i) b2; (first | (rw [if_pos h] at hds hbs) | (rw [if_neg (by omega)] at hds hbs)); refine ⟨K - (i + 1), by omega, i + 1, g, rfl, by omega, qpb hown (congrArg _ hds.symm), ?_⟩; rw [hbs]; refine S.keep ?_; exact zk)) : p := h
theorem qdi (A C : Nat) (v u : Value) (F : q01) (hCA : C ≤ A) (hlA : nd 1000000000 A ≤ 1000000) (hlC : nd 1000000000 C ≤ 1000000) (hv : Mag F v A) (hu : Mag F u C) : Ct Tryz.prog 68 [v, u] F [] (fun F' _ r => Mag F' r (A - C)) := by
 have hv0 := hv
 obtain ⟨co, cc, rfl, hcc, hpc0⟩ := hu
 have hlt : A - C < 1000000000 ^ nd 1000000000 A := Nat.lt_of_le_of_lt (Nat.sub_le _ _) (q33 b2 A)
 have hlt2 : C < 1000000000 ^ nd 1000000000 A := Nat.lt_of_le_of_lt hCA (q33 b2 A)
 generalize hK : nd 1000000000 A = K at *
 refine Ct.enter Tryz.func68 rfl Tryz.ntmps68 rfl fun w0 a S => ?_
 revert a; refine go 6 ?_; intro Z hZ a S
 (refine q2p (Gs := []) (Gr := []) S rfl rfl rfl rfl rfl rfl (qxv K (cel K (dig 1000000000 A)) _ _ (by omega) (qq8 _ _) qx0 (by have h9 := hv0; unfold Mag at h9; rw [hK] at h9; exact h9)) rfl (List.Perm.refl _) ?_; clear S a; intro v1 F1 G1 a w hv1 hF1 S; obtain ⟨g, rfl, hown⟩ := hv1; obtain ⟨bo, cb, rfl, hcb, hcb2, hbo⟩ := hown.at)
 revert a; revert Z; refine go 15 ?_; intro Z hZ a S
 refine q04 (fun m a w' => ∃ (i : Nat) (g : Grp), m = K - i ∧ i ≤ K ∧ q0u 2 1 (.slice bo K cb) K (qfv K i (dig 1000000000 (A - C)) (dig 1000000000 A)) g ∧ St 43 [(1, .slice co (nd 1000000000 C) cc), (5, .slice bo K cb), (6, .int .i64 ((bw 1000000000 A C i : Nat) : Int)), (12, .int .i64 K), (13, .int .i64 i)] w0 F [] F1 [g] a w') ?_ ?_
 ·(refine ⟨K, 0, _, rfl, Nat.zero_le _, (by rw [qfj]; exact hown), ?_⟩; rw [qld]; refine S.keep ?_; exact zk)
 (clear hown S; rintro m a w ⟨i, g, rfl, hi, hown, S⟩; have hcy : bw 1000000000 A C i ≤ 1 := (by unfold bw; split <;> omega); have hdA := q2z b2 A i; have hdC := q2z b2 C i; have hzC : nd 1000000000 C ≤ i → dig 1000000000 C i = 0 := fun h => q3u (q33 b2 C) h b2)
 revert a; refine go 5 ?_; intro Z hZ a S
 refine q00 S rfl ?_ ?_ <;> intro h
 ·revert a; revert Z; refine go 9 ?_; intro Z hZ a S
  (refine wp_seq_k ?_; intro Z hZ)
  (obtain ⟨b, rfl⟩ := hbo (by omega))
  revert a; refine go 4 ?_; intro a S
  first | (refine wv S (q0f S rfl rfl (by rfl)) ?_; clear S a; intro a S) | (refine wv S (q05 S rfl rfl (by assumption)) ?_; clear S a; intro a S) | (refine wv S (qbn S rfl rfl hown (qlu (by omega))) ?_; clear S a; intro a S)
  revert a; revert Z; refine go 13 ?_; intro Z hZ a S
  refine q00 S rfl ?_ ?_ <;> intro h
  ·(obtain ⟨bc, offc, rfl, hcsc⟩ := hpc0 (by omega); have hcf := (qp8 hcsc h).mono hF1)
   revert a; refine go 5 ?_; intro a S
   first | (refine wv S (q0f S rfl rfl (by rfl)) ?_; clear S a; intro a S) | (refine wv S (q05 S rfl rfl (by assumption)) ?_; clear S a; intro a S) | (refine wv S (qbn S rfl rfl hown (qlu (by omega))) ?_; clear S a; intro a S)
   revert a; revert Z; refine go 4 ?_; intro a S
   (refine wp_seq_k ?_; intro Z hZ)
   (replace S := S.keep (L' := [(1, .slice _ (nd 1000000000 C) cc), (5, .slice (some ⟨b, 0, none⟩) K cb), (12, .int .i64 K), (13, .int .i64 i), (7, .int .i64 i), (8, .int .i64 ((dig 1000000000 A i : Int) - (bw 1000000000 A C i : Int) - (dig 1000000000 C i : Int)))]) ⟨rfl, rfl, rfl, rfl, rfl, reg (by omega), trivial⟩)
   revert a; revert Z; refine go 10 ?_; intro Z hZ a S
   refine q00 S rfl ?_ ?_ <;> intro h
   ·revert a; revert Z; refine go 15 ?_; intro a S
    (refine q1o S rfl rfl rfl rfl rfl hown rfl (by omega) ?_; clear hown S; intro g w hown S)
    revert a; revert Z; refine go 6 ?_; intro a S
    change ∃ m', _ ∧ _
    exact qcy
   revert a; revert Z; refine go 7 ?_; intro a S
   (refine q1o S rfl rfl rfl rfl rfl hown rfl (by omega) ?_; clear hown S; intro g w hown S)
   revert a; revert Z; refine go 6 ?_; intro a S
   change ∃ m', _ ∧ _
   exact qcy
  refine wp_skip ?_
  (refine hZ _ _ ?_; clear hZ Z)
  (refine wp_seq_k ?_; intro Z hZ)
  (replace S := S.keep (L' := [(1, .slice _ (nd 1000000000 C) cc), (5, .slice (some ⟨b, 0, none⟩) K cb), (12, .int .i64 K), (13, .int .i64 i), (7, .int .i64 i), (8, .int .i64 ((dig 1000000000 A i : Int) - (bw 1000000000 A C i : Int) - (dig 1000000000 C i : Int)))]) ⟨rfl, rfl, rfl, rfl, rfl, reg (by omega), trivial⟩)
  revert a; revert Z; refine go 10 ?_; intro Z hZ a S
  refine q00 S rfl ?_ ?_ <;> intro h
  ·revert a; revert Z; refine go 15 ?_; intro a S
   (refine q1o S rfl rfl rfl rfl rfl hown rfl (by omega) ?_; clear hown S; intro g w hown S)
   revert a; revert Z; refine go 6 ?_; intro a S
   change ∃ m', _ ∧ _
   exact qcy
  revert a; revert Z; refine go 7 ?_; intro a S
  (refine q1o S rfl rfl rfl rfl rfl hown rfl (by omega) ?_; clear hown S; intro g w hown S)
  revert a; revert Z; refine go 6 ?_; intro a S
  change ∃ m', _ ∧ _
  exact qcy
 (refine wp_exit ?_; conv => whnf)
 clear hZ Z
 (refine hZ _ _ ?_; clear hZ Z)
 (refine wp_seq_k ?_; intro Z hZ)
 (replace S := St.freeze (G1 := []) S; have hsl := (qj3 hown (by omega)).slC F1)
 revert a; refine go 2 ?_; intro a S
 (refine wc0 S (qp7 (A - C) K _ _ hlt (by omega) hsl) ?_; clear S a; intro u a w hu S)
 revert a; revert Z; refine go 3 ?_; intro a S
 refine wp_ret (fr1 S Tryz.results68 ?_)
 exact hu
theorem qix (bx k : Nat) (f : Nat → Nat) (F : q01) (ao : Option Addr) (cap : Nat) (hk : k ≤ 1000000000) (hbox : Cel F bx 0 (.slice ao k cap)) (hpos : 0 < k → ∃ b off, ao = some ⟨b, off, none⟩ ∧ q2v F b off (cel k f)) :
  qir Tryz.prog 97 bx k f F := by
 intro l J Jx W hat hJk hy
 refine CallsIn.enter0 Tryz.func97 rfl Tryz.ntmps97 rfl (hat k W hJk) fun a S => ?_
 (refine wpIn_seq_k ?_; intro Z hZ)
 refine q0o rfl ?_
 revert a; revert Z; refine go 6 ?_; intro a S
 refine wpIn_block ?_
 refine qsi (fun m a w' => ∃ (j : Nat), m = j ∧ j ≤ k ∧ J j w' ∧ St 19 [(0, .func (.yield l) ⟨[]⟩ ⟨[]⟩), (1, .pointer (some ⟨bx, 0, none⟩)), (3, .int .i64 ((j : Int) - 1))] w' F [] F [] a w') ?_ ?_
 ·(refine ⟨k, k, rfl, Nat.le_refl _, hJk, ?_⟩; refine S.keep ?_; exact zk)
 (clear S hJk; rintro m a w ⟨j, rfl, hjk, hJ, S⟩)
 iterate 2 (refine wpIn_seq_k ?_; intro Z hZ)
 refine q0o rfl ?_
 revert a; revert Z; refine go 4 ?_; intro a S
 refine q3c S rfl (fun h => ?_) (fun h => ?_)
 ·(try simp only [tq] at h)
  refine wpIn_skip ?_
  (refine hZ _ _ ?_; clear hZ Z)
  (refine wpIn_seq_k ?_; intro Z hZ)
  refine wpIn_block ?_
  (refine wpIn_seq_k ?_; intro Z hZ)
  (obtain ⟨i, rfl⟩ : ∃ i, m = i + 1 := ⟨m - 1, by omega⟩; replace S := S.keep (L' := [(0, .func (.yield l) ⟨[]⟩ ⟨[]⟩), (1, .pointer (some ⟨bx, 0, none⟩)), (3, .int .i64 (i : Int))]) ⟨rfl, rfl, reg (by omega), trivial⟩; obtain ⟨b, off, rfl, hcs⟩ := hpos (by omega); have hce := qp8 hcs (j := i) (by omega))
  refine wpIn_region_lit ?_
  iterate 2 (refine q8i S rfl rfl rfl rfl (q09 S rfl) ?_; clear S a; intro a S)
  first | (refine q8i S rfl rfl rfl rfl (q0f S rfl rfl (by rfl)) ?_; clear S a; intro a S) | (refine q8i S rfl rfl rfl rfl (q05 S rfl rfl (by assumption)) ?_; clear S a; intro a S)
  (refine q8i S rfl rfl rfl rfl (q09 S rfl) ?_; clear S a; intro a S)
  (refine q8i S rfl rfl rfl rfl (q28 S rfl rfl rfl (by first | omega | (simp only [qaA, qaC, qaD]; omega))) ?_; clear S a; intro a S)
  first | (refine q8i S rfl rfl rfl rfl (q0f S rfl rfl (by rfl)) ?_; clear S a; intro a S) | (refine q8i S rfl rfl rfl rfl (q05 S rfl rfl (by assumption)) ?_; clear S a; intro a S)
  (obtain ⟨fn, tmps, asg, bd, hyr, hrd⟩ := hy i w (by omega) hJ; refine qkx S rfl rfl rfl rfl rfl rfl hyr hrd ?_; have hr9 : ∀ (e : Ending) (w' : World), ((e = .returned (.bool true) ∧ J i w') ∨ (e = .returned (.bool false) ∧ Jx w')) → ∃ bv : Bool, e = .returned (.bool bv) ∧ (bv = true → J i w') ∧ (bv = false → Jx w') := (fun e w' h9 => h9.elim (fun h9 => ⟨true, h9.1, fun _ => h9.2, fun h8 => (by cases h8)⟩) (fun h9 => ⟨false, h9.1, fun h8 => (by cases h8), fun _ => h9.2⟩)); clear S a; intro e w' h9; obtain ⟨bv, rfl, hb1, hb2⟩ := hr9 e w' h9; clear hJ h9 hyr hrd; refine ⟨_, rfl, fun a S => ?_⟩)
  (refine q8i S rfl rfl rfl rfl (q09 S rfl) ?_; clear S a; intro a S)
  refine wpListIn_nil ?_
  (refine hZ _ _ ?_; clear hZ Z)
  refine q3c S rfl (fun h => ?_) (fun h => ?_)
  ·(try simp only [tq] at h)
   refine wpIn_ret ?_
   (first | exact qiq S (q0x Tryz.results97) ⟨⟨_, rfl⟩, .inr (hb2 h)⟩ | exact qjp S (q0x Tryz.results97) ⟨⟨_, rfl⟩, .inl (by have h0 : m = 0 := (by omega); subst h0; exact hJ)⟩)
  (try simp only [tq] at h)
  refine wpIn_skip ?_
  (refine hZ _ _ ?_; clear hZ Z)
  refine q0o rfl ?_
  revert a; refine go 4 ?_; intro a S
  change ∃ m', _ ∧ _
  (refine ⟨i, by omega, i, rfl, by omega, hb1 h, ⟨?_, (hat i _ (hb1 h)).tr⟩⟩; refine S.fr.keep ?_; repeat (first | exact trivial | refine ⟨rfl, ?_⟩))
 (try simp only [tq] at h)
 (refine wpIn_exit ?_; conv => whnf)
 (first | exact qiq S (q0x Tryz.results97) ⟨⟨_, rfl⟩, .inr (hb2 h)⟩ | exact qjp S (q0x Tryz.results97) ⟨⟨_, rfl⟩, .inl (by have h0 : m = 0 := (by omega); subst h0; exact hJ)⟩)
end Go.Proofs.YtbhipiepfclneaaGreatDoor
namespace Go.Wk
open Go
section
variable {P : Program} {n : Sz} {L : List (Nat × Value)} {w0 : World} {F0 : q01} {K0 : List Nat} {F : q01} {G : List Grp} {a : Act} {w : World} {o : Oper} {ops : Array Oper} {rest : List Oper} {Q : Exit → Act → World → Prop}
theorem q02 {d : Nat} {x : Operand} {xs : Array Operand} {ts : Array TypeId} {f : FuncId} {fi ca vs args : List Value} {Gs Gr : List Grp} {Post : List Grp → Value → Prop} [hf : q0b P f] (S : St n L w0 F0 K0 F G a w) (hg : o.guard = none) (hd : o.dst = some d) (hn : Nat.blt d n.sz = true)
  (ho : o.op = .call { callee := .value x, args := xs, argTypes := ts }) (hx : ev L x = some (.func (.func f) ⟨fi⟩ ⟨ca⟩)) (hxs : evs L xs.toList = some vs) (C : Ct P f args F Gs (fun _ G' u => Post G' u)) (ha : fi ++ vs ++ ca = args) (hp : G.flatten.Perm (Gs.flatten ++ Gr.flatten))
  (k : ∀ v G' a' w', Post G' v → St n ((d, v) :: L) w0 F0 K0 F (G' ++ Gr) a' w' → wpList P ops Q rest a' w') : wpList P ops Q (o :: rest) a w :=
 q2p S hg hd hn ho hx hxs C ha hp fun v F' G' a' w' hv hF S' => k v G' a' w' hv ⟨S'.fr, Tr.shrink S'.tr hF S.tr.ext⟩
theorem q9o {x y : Operand} {t yt e : TypeId} [ht : Und P t (.pointer e)] (S : St n L w0 F0 K0 F G a w) (ho : o.op = .binOp .eql t x y yt) (hx : ev L x = some (.pointer none)) (hy : ev L y = some (.pointer none)) : SV P o a w (.bool true) := by
 unfold SV execOp
 rw [ho]
 have h1 : (eqGuard .eql t x y (.pointer none) (.pointer none)).run P w = .ok () w := rfl
 have hp : P.pointee t = e := by simp [Program.pointee, ht.h]
 have h2 := run_eql_pointer_nil (P := P) w t none (by rw [hp]; exact ht.h)
 simp only [S.fr.eval hx, S.fr.eval hy, Sem.run_bind, h1, Result.andThen_ok, h2, Sem.run_pure]
 rfl
theorem q1b {x y : Operand} {t yt e : TypeId} {ad : Addr} [ht : Und P t (.pointer e)] (S : St n L w0 F0 K0 F G a w) (ho : o.op = .binOp .eql t x y yt) (hx : ev L x = some (.pointer (some ad))) (hy : ev L y = some (.pointer none)) : SV P o a w (.bool false) := by
 unfold SV execOp
 rw [ho]
 have h1 : (eqGuard .eql t x y (.pointer (some ad)) (.pointer none)).run P w = .ok () w := rfl
 have hp : P.pointee t = e := by simp [Program.pointee, ht.h]
 have h2 := run_eql_pointer_nil (P := P) w t (some ad) (by rw [hp]; exact ht.h)
 simp only [S.fr.eval hx, S.fr.eval hy, Sem.run_bind, h1, Result.andThen_ok, h2, Sem.run_pure]
 rfl
theorem qek {x y : Operand} {t yt e : TypeId} {ad : Addr} {z : Value} {sz by_ : Nat} [ht : Und P t (.pointer e)] [hi : Inf P e z sz by_] (S : St n L w0 F0 K0 F G a w) (ho : o.op = .binOp .neq t x y yt) (hx : ev L x = some (.pointer (some ad))) (hy : ev L y = some (.pointer (some ad))) : SV P o a w (.bool false) := by
 obtain ⟨i, h1, _⟩ := hi.h
 unfold SV execOp
 rw [ho]
 have h2 : (eqGuard .neq t x y (.pointer (some ad)) (.pointer (some ad))).run P w = .ok () w := rfl
 simp [S.fr.eval hx, S.fr.eval hy, h2, Lib.run_neq_ptr_same w ad ht.h h1]
theorem qe9 {b : Nat} {c : List Value} {e : TypeId} {R} (S : St n L w0 F0 K0 F G a w) (hh : Has G b (.cells ⟨c⟩ e (0, 0)) R) : w.shape? b = some (e, c.length) := by
 have := S.has hh
 simp [World.shape?, this]
theorem qh4 {x : Operand} {s t e1 : TypeId} {b : Nat} {c : List Value} {e : TypeId} {R} {z : Value} {sz by_ : Nat} [hs : Und P s (.pointer e1)] [ht : Und P t .unsafePointer] [hi : Inf P e1 z sz by_] [hh : Has G b (.cells ⟨c⟩ e (0, 0)) R] (S : St n L w0 F0 K0 F G a w) (ho : o.op = .convert s t x) (hx : ev L x = some (.pointer (some ⟨b, 0, none⟩)))
  (hsz : Nat.beq sz 0 = false) (hc : 0 < c.length) : SV P o a w (.pointer (some ⟨b, 0, none⟩)) := by
 obtain ⟨i, h1, h2, h3, h4⟩ := hi.h
 have hne : i.size ≠ 0 := fun h => by rw [h3] at h; subst h; simp at hsz
 unfold SV execOp
 rw [ho]
 simp [S.fr.eval hx, Lib.run_to_unsafe w ⟨b, 0, none⟩ hs.h ht.h h1 hne (qe9 S hh) hc]
theorem qc9 {x : Operand} {s t u : TypeId} {b : Nat} {c : List Value} {e : TypeId} {R} {z : Value} {sz by_ : Nat} [hs : Und P s .unsafePointer] [ht : Und P t (.pointer u)] [hi : Inf P u z sz by_] [hh : Has G b (.cells ⟨c⟩ e (0, 0)) R] (S : St n L w0 F0 K0 F G a w) (ho : o.op = .convert s t x) (hx : ev L x = some (.pointer (some ⟨b, 0, none⟩)))
  (hl : liesAt P P.depth e (c.length / P.cellsOf e) 0 u 1 = true) : SV P o a w (.pointer (some ⟨b, 0, none⟩)) := by
 obtain ⟨i, h1, _⟩ := hi.h
 unfold SV execOp
 rw [ho]
 simp [S.fr.eval hx, Lib.run_from_unsafe w ⟨b, 0, none⟩ hs.h ht.h h1 (qe9 S hh) hl]
class u2j (P : Program) (f : FuncId) : Prop where
  h : ∀ (x : Value) (w : World), (callFunc f #[x]).run P w = .ok (.value x) w
theorem qsd {x y : Operand} {ts : Array TypeId} {f : FuncId} {v : Value} [hf : u2j P f] (S : St n L w0 F0 K0 F G a w) (ho : o.op = .call { callee := .value x, args := #[y], argTypes := ts }) (hx : ev L x = some (.func (.func f) ⟨[]⟩ ⟨[]⟩)) (hy : ev L y = some v) : SV P o a w v := by
 unfold SV execOp
 rw [ho]
 simp [resolve, S.fr.eval hx, S.fr.eval hy, Deferred.ofValue, invoke, hf.h]
theorem q8o {x : Operand} {ts : Array TypeId} {ad : Addr} {q c : Nat} (S : St n L w0 F0 K0 F G a w) (ho : o.op = .call { callee := .builtin .unsafeSliceData, args := #[x], argTypes := ts }) (hx : ev L x = some (.slice (some ad) q c)) (hc : 0 < c) : SV P o a w (.pointer (some ad)) := by
 unfold SV execOp
 rw [ho]
 simp [resolve, invoke, builtin, S.fr.eval hx, Lib.run_unsafeSliceData_row w ts o.type ad q c (by omega)]
theorem qhh (w : World) (b m : Nat) (c : Array Value) (e : TypeId) (hm : m ≠ 0) (h : w.heap[b]? = some (.cells c e (0, 0))) : (w.freeze ⟨b, 0, none⟩ m).heap[b]? = some (.cells c e (0, m)) := by
 obtain ⟨hlt, hk⟩ := Array.getElem?_eq_some_iff.1 h
 unfold World.freeze
 rw [if_neg hm]
 show (w.heap.modify b _)[b]? = _
 rw [Array.getElem?_eq_getElem (by rw [Array.size_modify]; exact hlt), Array.getElem_modify_self, hk]
 simp
theorem qfb (w : World) (b m k : Nat) (hk : k ≠ b) : (w.freeze ⟨b, 0, none⟩ m).heap[k]? = w.heap[k]? := by
 unfold World.freeze
 split
 ·rfl
 ·show (w.heap.modify b _)[k]? = _
  rw [Array.getElem?_modify, if_neg (fun e => hk e.symm)]
theorem qg3 (w : World) (b m : Nat) : (w.freeze ⟨b, 0, none⟩ m).heap.size = w.heap.size ∧ (w.freeze ⟨b, 0, none⟩ m).os = w.os ∧ (w.freeze ⟨b, 0, none⟩ m).tape = w.tape ∧ (w.freeze ⟨b, 0, none⟩ m).output = w.output := by
 unfold World.freeze
 split
 ·exact ⟨rfl, rfl, rfl, rfl⟩
 ·exact ⟨Array.size_modify, rfl, rfl, rfl⟩
theorem q4x {d : Nat} {x y : Operand} {pt it e : TypeId} {b cap q : Nat} {l : List UInt8} {g : Grp} {R} [hp : Und P pt (.pointer e)] (S : St n L w0 F0 K0 F G a w) (hg : o.guard = none) (hd : o.dst = some d) (hn : Nat.blt d n.sz = true)
  (ho : o.op = .call { callee := .builtin .unsafeString, args := #[x, y], argTypes := #[pt, it] }) (hx : ev L x = some (.pointer (some ⟨b, 0, none⟩))) (hy : ev L y = some (.int .i64 (Int.ofNat q)))
  (hown : q0u e 1 (.slice (some ⟨b, 0, none⟩) q cap) q (l.map fun c => Value.int .u8 c.toNat) g) [hN : Nth G g R] (hc : P.cellsOf e = 1) (h0 : 0 < q) (h63 : q ≤ 9223372036854775807)
  (k : ∀ a' w', St n ((d, .string (bs l)) :: L) w0 F0 K0 F (R []) a' w' → wpList P ops Q rest a' w') : wpList P ops Q (o :: rest) a w := by
 obtain ⟨ex, rfl, h1, h2, h3, h4⟩ := hown.block
 obtain ⟨G1, G2, e1, hR⟩ := hN.h
 rw [List.length_map] at h3
 have ht := S.tr
 rw [e1] at ht
 have hb := (ht.own (b, _) (by simp only [List.flatten_append, qaF]; exact List.mem_append_right _ (List.mem_append_left _ (List.mem_singleton.2 rfl)))).1
 have hlne : l ≠ [] := fun e => by rw [e] at h3; simp at h3; omega
 have hr := Lib.run_unsafeString_row (P := P) w pt it o.type e hp.h hc b (((l.map fun c => Value.int .u8 c.toNat) ++ ex).length) (by simp only [World.shape?, hb]; rfl) l hlne (by simp) (by omega) (fun j u hj => by
  rw [addr_add, Nat.zero_add]
  refine cell_of_heap hb ?_
  simp only [List.getElem?_toArray]
  rw [List.getElem?_append_left (by rw [List.length_map]; exact (List.getElem?_eq_some_iff.1 hj).1), List.getElem?_map, hj]; rfl)
 have hq : ((l.length : Nat) : Int) = Int.ofNat q := by rw [h3]; rfl
 rw [hq] at hr
 refine wpList_plain hg fun K hK => ?_
 unfold Oper.wp execOp
 rw [ho]
 simp [resolve, invoke, builtin, S.fr.eval hx, S.fr.eval hy]
 simp only [Int.ofNat_eq_natCast] at hr
 rw [hr, Result.andThen_ok, Oper.upon_value, hd]
 have hz := qg3 w b l.length
 have ht2 := ht.write (w' := w.freeze ⟨b, 0, none⟩ l.length) hz.2.1 hz.2.2.1 hz.2.2.2 hz.1 (qhh w b l.length _ e (by simpa using hlne) hb) (fun k hk => qfb w b _ k hk)
 refine hK _ _ (k _ _ ⟨S.fr.put _ hn, ?_⟩)
 rw [hR]
 exact ht2.sub (by simp only [List.flatten_append, qaF, qaG]; exact List.Sublist.append_left (List.sublist_append_right _ _) _)
end
end Go.Wk
namespace Go.Proofs.YtbhipiepfclneaaGreatDoor
open Go Go.Wk
attribute [local irreducible] Go.wpList Go.Code.wp Go.wpStill Go.Wk.q26 Go.bodyPost Go.Calls Go.Wk.Ct Go.Wk.q0u Go.Wk.wpG Go.Wk.wpM
instance : u2j Tryz.prog 139 := ⟨fun x w => by
 rw [run_callFunc_extern Tryz.func139 (by kernel_rfl) (by kernel_rfl) (by kernel_rfl) (e := Extern.AbiNoEscape.same) (by kernel_rfl), Lib.run_noEscape]
 rfl⟩
def q1x (b : Nat) (p v : Value) : Grp := [(b, .cells ⟨[p, v]⟩ 109 (0, 0))]
def qzm (b : Nat) (p : Value) : Prop := p = .pointer none ∨ p = .pointer (some ⟨b, 0, none⟩)
theorem qk8 (b : Nat) (v : Value) (F : q01) : Ct Tryz.prog 101 [.pointer (some ⟨b, 0, none⟩)] F [[(b, .cells ⟨[.pointer none, v]⟩ 109 (0, 0))]] (fun _ G' _ => G' = [[(b, .cells ⟨[.pointer (some ⟨b, 0, none⟩), v]⟩ 109 (0, 0))]]) := by
 refine Ct.enter Tryz.func101 rfl Tryz.ntmps101 rfl fun w0 a S => ?_
 revert a; refine go 5 ?_; intro Z hZ a S
 (refine wv S (q9o S rfl rfl rfl) ?_; clear S a; intro a S)
 revert a; revert Z; refine go 2 ?_; intro a S
 refine q0l S rfl (fun h => ?_) (fun h => ?_)
 ·(try simp only [tq] at h)
  revert a; refine go 3 ?_; intro a S
  (refine wv S (qh4 S rfl rfl rfl (by simp)) ?_; clear S a; intro a S)
  (refine wv S (qsd S rfl rfl rfl) ?_; clear S a; intro a S)
  (refine wv S (qc9 S rfl rfl (by kernel_rfl)) ?_; clear S a; intro a S)
  revert a; refine go 2 ?_; intro a S
  (refine q0e S rfl rfl rfl rfl rfl rfl (by first | (simp; done) | (simp [Value.cells]; done) | exact Nat.le_of_ble_eq_true rfl) ?_; clear S; intro w S)
  refine wpList_nil ?_
  refine q1m S (q0x Tryz.results101) ?_
  rfl
 (skip; (try simp only [tq] at h); cases h)
theorem qku (b : Nat) (v : Value) (F : q01) : Ct Tryz.prog 101 [.pointer (some ⟨b, 0, none⟩)] F [[(b, .cells ⟨[.pointer (some ⟨b, 0, none⟩), v]⟩ 109 (0, 0))]] (fun _ G' _ => G' = [[(b, .cells ⟨[.pointer (some ⟨b, 0, none⟩), v]⟩ 109 (0, 0))]]) := by
 refine Ct.enter Tryz.func101 rfl Tryz.ntmps101 rfl fun w0 a S => ?_
 revert a; refine go 5 ?_; intro Z hZ a S
 (refine wv S (q1b S rfl rfl rfl) ?_; clear S a; intro a S)
 revert a; revert Z; refine go 2 ?_; intro a S
 refine q0l S rfl (fun h => ?_) (fun h => ?_)
 ·(skip; (try simp only [tq] at h); cases h)
 (try simp only [tq] at h)
 revert a; refine go 6 ?_; intro Z hZ a S
 (refine wv S (qek S rfl rfl rfl) ?_; clear S a; intro a S)
 revert a; revert Z; refine go 2 ?_; intro a S
 refine q0l S rfl (fun h => ?_) (fun h => ?_)
 ·(skip; (try simp only [tq] at h); cases h)
 (try simp only [tq] at h)
 refine wp_skip ?_
 refine q1m S (q0x Tryz.results101) ?_
 rfl
theorem q6i (b : Nat) (p v : Value) (F : q01) (hp : qzm b p) : Ct Tryz.prog 101 [.pointer (some ⟨b, 0, none⟩)] F [q1x b p v] (fun _ G' _ => G' = [q1x b (.pointer (some ⟨b, 0, none⟩)) v]) := by
 rcases hp with rfl | rfl
 ·exact qk8 b v F
 ·exact qku b v F
def u8c (l : List UInt8) : List Value := l.map fun c => Value.int .u8 c.toNat
theorem qa2 {P : Program} {n : Sz} {L : List (Nat × Value)} {w0 : World} {F0 : q01} {K0 : List Nat} {F : q01} {G : List Grp} {a : Act} {w : World} {o : Oper} {x : Operand} {ts : Array TypeId} {q c : Nat} (S : St n L w0 F0 K0 F G a w) (ho : o.op = .call { callee := .builtin .unsafeSliceData, args := #[x], argTypes := ts }) (hx : ev L x = some (.slice none q c)) : SV P o a w (.pointer none) := by
 unfold SV execOp
 rw [ho]
 simp [resolve, invoke, builtin, S.fr.eval hx, Lib.run_unsafeSliceData_nil w ts o.type q c]
theorem q6r {P : Program} {n : Sz} {L : List (Nat × Value)} {w0 : World} {F0 : q01} {K0 : List Nat} {F : q01} {G : List Grp} {a : Act} {w : World} {o : Oper} {x y : Operand} {pt it : TypeId} (S : St n L w0 F0 K0 F G a w) (ho : o.op = .call { callee := .builtin .unsafeString, args := #[x, y], argTypes := #[pt, it] }) (hx : ev L x = some (.pointer none)) (hy : ev L y = some (.int .i64 0)) : SV P o a w (.string (bs [])) := by
 unfold SV execOp
 rw [ho]
 simp [resolve, invoke, builtin, S.fr.eval hx, S.fr.eval hy, Lib.run_unsafeString_none w pt it o.type none]
 rfl
theorem qh7 (b : Nat) (p v : Value) (k : Nat) (l : List UInt8) (c : UInt8) (g : Grp) (F : q01) (hp : qzm b p) (hown : q0u 5 1 v k (u8c l) g) (hk : k ≤ 1000000000) :
  Ct Tryz.prog 87 [.pointer (some ⟨b, 0, none⟩), .int .u8 c.toNat] F [g, q1x b p v] (fun _ G' _ => ∃ v' g', G' = [g', q1x b (.pointer (some ⟨b, 0, none⟩)) v'] ∧ q0u 5 1 v' (k + 1) (u8c (l ++ [c])) g') := by
 refine Ct.enter Tryz.func87 rfl Tryz.ntmps87 rfl fun w0 a S => ?_
 revert a; refine go 6 ?_; intro Z hZ a S
 (refine q02 (Gs := [q1x b p v]) (Gr := [g]) S rfl rfl rfl rfl rfl rfl (q6i b p v F hp) rfl (by simp only [qaF, List.flatten_nil, qaE]; exact List.perm_append_comm) ?_; clear S a; intro u G1 a w hv1 S; subst hv1; replace S : St _ _ _ _ _ _ [[(b, .cells ⟨[.pointer (some ⟨b, 0, none⟩), v]⟩ 109 (0, 0))], g] _ _ := S)
 revert a; revert Z; refine go 9 ?_; intro Z hZ a S
 (refine q0s S rfl rfl rfl rfl rfl rfl rfl rfl rfl rfl rfl (fun _ => rfl) hown (by rfl) (by simp [Value.cells, splice]) (by simp [Value.cells, Value.oneCell', splice]) rfl (by rfl) (by rfl) rfl (by omega) (by omega) ?_; clear hown S a; intro v u g a w hown S)
 revert a; refine go 2 ?_; intro a S
 (refine q0e S rfl rfl rfl rfl rfl hown.oneCell (by simp) ?_; clear S; intro w S)
 revert a; revert Z; refine go 6 ?_; intro a S
 refine wp_ret ?_
 replace S : St _ _ _ _ _ _ [g, q1x b (.pointer (some ⟨b, 0, none⟩)) v] _ _ := ⟨S.fr, S.tr.perm (by simp only [qaF, List.flatten_nil, qaE]; exact List.perm_append_comm)⟩
 refine q08 S (q0c Tryz.results87 (RV.tmp S rfl)) ?_
 (refine ⟨_, _, rfl, ?_⟩; unfold u8c; rw [List.map_append]; exact hown)
theorem qk0 (b : Nat) (p v : Value) (k : Nat) (l : List UInt8) (g : Grp) (F : q01) (hk : k ≤ 1000000000) (h0 : 0 < k) (hown : q0u 5 1 v k (u8c l) g) :
  Ct Tryz.prog 65 [.pointer (some ⟨b, 0, none⟩)] F [g, q1x b p v] (fun _ _ u => u = .string (bs l)) := by
 obtain ⟨ao, cap, rfl, hcap, -, hpos⟩ := hown.at
 obtain ⟨br, rfl⟩ := hpos h0
 (refine Ct.enter Tryz.func65 rfl Tryz.ntmps65 rfl fun w0 a S => ?_); replace S : St _ _ _ _ _ _ [g, [(b, .cells ⟨[p, .slice (some ⟨br, 0, none⟩) k cap]⟩ 109 (0, 0))]] _ _ := S
 revert a; refine go 4 ?_; intro a S
 (refine wp_seq_k ?_; intro Z hZ)
 (refine q5v [0, 1, 2, 3, 4, 5, 6, 7, 8, 9] [3, 4, 8, 9] [b] S mixed (by kernel_rfl) ?_; clear S; intro w S)
 refine q0r rfl rfl ?_
 (refine q2t S rfl rfl rfl rfl (fun _ S => q09 S rfl) ?_; clear S a; intro a S)
 refine q0y ?_
 refine q0r rfl rfl ?_
 (refine q2t S rfl rfl rfl rfl (fun _ S => q2i S rfl rfl) ?_; clear S a; intro a S)
 refine q0y ?_
 refine q0r rfl rfl ?_
 (refine q2t S rfl rfl rfl rfl (fun _ S => q0w S rfl rfl rfl inferInstance rfl) ?_; clear S a; intro a S)
 refine q0y ?_
 first | (refine q0q S rfl rfl rfl rfl rfl (fun w' hw => hw.1) (fun w' S => q0f S rfl rfl (by rfl)) ?_; clear S a; intro a S) | (refine q0q S rfl rfl rfl rfl rfl (fun w' hw => hw.1) (fun w' S => q1v S rfl rfl (by rfl)) ?_; clear S a; intro a S)
 (refine q0q S rfl rfl rfl rfl rfl (fun w' hw => hw.1) (fun w' S => q8o S rfl rfl (by omega)) ?_; clear S a; intro a S)
 refine q0r rfl rfl ?_
 (refine q2t S rfl rfl rfl rfl (fun _ S => q09 S rfl) ?_; clear S a; intro a S)
 refine q0y ?_
 refine q0r rfl rfl ?_
 (refine q2t S rfl rfl rfl rfl (fun _ S => q2i S rfl rfl) ?_; clear S a; intro a S)
 refine q0y ?_
 refine q0r rfl rfl ?_
 (refine q2t S rfl rfl rfl rfl (fun _ S => q0w S rfl rfl rfl inferInstance rfl) ?_; clear S a; intro a S)
 refine q0y ?_
 first | (refine q0q S rfl rfl rfl rfl rfl (fun w' hw => hw.1) (fun w' S => q0f S rfl rfl (by rfl)) ?_; clear S a; intro a S) | (refine q0q S rfl rfl rfl rfl rfl (fun w' hw => hw.1) (fun w' S => q1v S rfl rfl (by rfl)) ?_; clear S a; intro a S)
 (refine q0q S rfl rfl rfl rfl rfl (fun w' hw => hw.1) (fun w' S => q7n S rfl rfl) ?_; clear S a; intro a S)
 refine q2q rfl ⟨S.has inferInstance, trivial⟩ ?_
 (refine q4x S rfl rfl rfl rfl rfl rfl hown (by kernel_rfl) h0 (by omega) ?_; clear S a; intro a w S)
 refine wpList_nil ?_
 refine q2q rfl ⟨S.has inferInstance, trivial⟩ ?_
 revert a; refine go 2 ?_; intro a S
 refine q5s ⟨S.has inferInstance, trivial⟩ ?_
 (refine hZ _ _ ?_; clear hZ Z)
 refine wp_ret (fr1 S Tryz.results65 ?_)
 rfl
theorem qk3 (b : Nat) (p : Value) (g : Grp) (F : q01) :
  Ct Tryz.prog 65 [.pointer (some ⟨b, 0, none⟩)] F [g, q1x b p (.slice none 0 0)] (fun _ _ u => u = .string (bs [])) := by
 (refine Ct.enter Tryz.func65 rfl Tryz.ntmps65 rfl fun w0 a S => ?_); replace S : St _ _ _ _ _ _ [g, [(b, .cells ⟨[p, .slice none 0 0]⟩ 109 (0, 0))]] _ _ := S
 revert a; refine go 4 ?_; intro a S
 (refine wp_seq_k ?_; intro Z hZ)
 (refine q5v [0, 1, 2, 3, 4, 5, 6, 7, 8, 9] [3, 4, 8, 9] [b] S mixed (by kernel_rfl) ?_; clear S; intro w S)
 refine q0r rfl rfl ?_
 (refine q2t S rfl rfl rfl rfl (fun _ S => q09 S rfl) ?_; clear S a; intro a S)
 refine q0y ?_
 refine q0r rfl rfl ?_
 (refine q2t S rfl rfl rfl rfl (fun _ S => q2i S rfl rfl) ?_; clear S a; intro a S)
 refine q0y ?_
 refine q0r rfl rfl ?_
 (refine q2t S rfl rfl rfl rfl (fun _ S => q0w S rfl rfl rfl inferInstance rfl) ?_; clear S a; intro a S)
 refine q0y ?_
 first | (refine q0q S rfl rfl rfl rfl rfl (fun w' hw => hw.1) (fun w' S => q0f S rfl rfl (by rfl)) ?_; clear S a; intro a S) | (refine q0q S rfl rfl rfl rfl rfl (fun w' hw => hw.1) (fun w' S => q1v S rfl rfl (by rfl)) ?_; clear S a; intro a S)
 (refine q0q S rfl rfl rfl rfl rfl (fun w' hw => hw.1) (fun w' S => qa2 S rfl rfl) ?_; clear S a; intro a S)
 refine q0r rfl rfl ?_
 (refine q2t S rfl rfl rfl rfl (fun _ S => q09 S rfl) ?_; clear S a; intro a S)
 refine q0y ?_
 refine q0r rfl rfl ?_
 (refine q2t S rfl rfl rfl rfl (fun _ S => q2i S rfl rfl) ?_; clear S a; intro a S)
 refine q0y ?_
 refine q0r rfl rfl ?_
 (refine q2t S rfl rfl rfl rfl (fun _ S => q0w S rfl rfl rfl inferInstance rfl) ?_; clear S a; intro a S)
 refine q0y ?_
 first | (refine q0q S rfl rfl rfl rfl rfl (fun w' hw => hw.1) (fun w' S => q0f S rfl rfl (by rfl)) ?_; clear S a; intro a S) | (refine q0q S rfl rfl rfl rfl rfl (fun w' hw => hw.1) (fun w' S => q1v S rfl rfl (by rfl)) ?_; clear S a; intro a S)
 (refine q0q S rfl rfl rfl rfl rfl (fun w' hw => hw.1) (fun w' S => q7n S rfl rfl) ?_; clear S a; intro a S)
 refine q2q rfl ⟨S.has inferInstance, trivial⟩ ?_
 (refine wv S (q6r S rfl rfl rfl) ?_; clear S a; intro a S)
 refine wpList_nil ?_
 refine q2q rfl ⟨S.has inferInstance, trivial⟩ ?_
 revert a; refine go 2 ?_; intro a S
 refine q5s ⟨S.has inferInstance, trivial⟩ ?_
 (refine hZ _ _ ?_; clear hZ Z)
 refine wp_ret (fr1 S Tryz.results65 ?_)
 rfl
theorem qhg (b : Nat) (p v : Value) (l : List UInt8) (g : Grp) (F : q01) (hk : l.length ≤ 1000000000) (h0 : l = [] → v = .slice none 0 0) (hown : q0u 5 1 v l.length (u8c l) g) :
  Ct Tryz.prog 65 [.pointer (some ⟨b, 0, none⟩)] F [g, q1x b p v] (fun _ _ u => u = .string (bs l)) := by
 rcases Nat.eq_zero_or_pos l.length with h | h
 ·have : l = [] := List.eq_nil_of_length_eq_zero h
  subst this
  rw [h0 rfl]
  exact qk3 b p g F
 ·exact qk0 b p v l.length l g F hk h hown
theorem qcr (b : Nat) (p v : Value) (k : Nat) (l s : List UInt8) (g : Grp) (F : q01) (hp : qzm b p) (hown : q0u 5 1 v k (u8c l) g) (hk : k ≤ 140737000000000) (hs : s.length ≤ 100000000) (h0 : 0 < s.length) :
  Ct Tryz.prog 63 [.pointer (some ⟨b, 0, none⟩), .string (bs s)] F [g, q1x b p v] (fun _ G' _ => ∃ v' g', G' = [g', q1x b (.pointer (some ⟨b, 0, none⟩)) v'] ∧ q0u 5 1 v' (k + s.length) (u8c (l ++ s)) g') := by
 refine Ct.enter Tryz.func63 rfl Tryz.ntmps63 rfl fun w0 a S => ?_
 revert a; refine go 7 ?_; intro Z hZ a S
 (refine q02 (Gs := [q1x b p v]) (Gr := [g]) S rfl rfl rfl rfl rfl rfl (q6i b p v F hp) rfl (by simp only [qaF, List.flatten_nil, qaE]; exact List.perm_append_comm) ?_; clear S a; intro u G1 a w hv1 S; subst hv1; replace S : St _ _ _ _ _ _ [[(b, .cells ⟨[.pointer (some ⟨b, 0, none⟩), v]⟩ 109 (0, 0))], g] _ _ := S)
 revert a; revert Z; refine go 9 ?_; intro Z hZ a S
 (refine q71 S rfl rfl rfl rfl rfl rfl hown (by rfl) h0 (by omega) (by omega) ?_; clear hown S a; intro v g a w hown S)
 revert a; refine go 2 ?_; intro a S
 (refine q0e S rfl rfl rfl rfl rfl hown.oneCell (by simp) ?_; clear S; intro w S)
 revert a; revert Z; refine go 9 ?_; intro a S
 refine wp_ret ?_
 replace S : St _ _ _ _ _ _ [g, q1x b (.pointer (some ⟨b, 0, none⟩)) v] _ _ := ⟨S.fr, S.tr.perm (by simp only [qaF, List.flatten_nil, qaE]; exact List.perm_append_comm)⟩
 refine q08 S (q0v Tryz.results63 (RV.tmp S rfl) (RV.tmp S rfl)) ?_
 (refine ⟨_, _, rfl, ?_⟩; unfold u8c; rw [List.map_append]; exact hown)
end Go.Proofs.YtbhipiepfclneaaGreatDoor
namespace Go.Num
open Go
def dv (c : UInt8) : Nat := c.toNat - 48
def isD (c : UInt8) : Bool := decide (48 ≤ c.toNat) && decide (c.toNat ≤ 57)
def q14 (l : List UInt8) : Nat := l.foldl (fun n c => 10 * n + dv c) 0
theorem qh8 {c : UInt8} (h : isD c = true) : dv c < 10 := by
 unfold isD at h; unfold dv; simp only [Bool.and_eq_true, decide_eq_true_eq] at h; omega
theorem qd0 : q14 [] = 0 := rfl
theorem u5u (m : List UInt8) : ∀ a : Nat, m.foldl (fun n c => 10 * n + dv c) a = a * 10 ^ m.length + q14 m := by
 induction m with
 | nil => intro a; simp [q14]
 | cons c m ih =>
  intro a
  have h1 := ih (10 * a + dv c)
  have h2 := ih (10 * 0 + dv c)
  simp only [q14, List.foldl_cons, qaC] at *
  rw [h1, h2, Nat.pow_succ, Nat.add_mul, Nat.add_mul]
  have : 10 * a * 10 ^ m.length = a * (10 ^ m.length * 10) := by rw [Nat.mul_comm 10 a, Nat.mul_assoc, Nat.mul_comm 10]
  omega
theorem q4r (l m : List UInt8) : q14 (l ++ m) = q14 l * 10 ^ m.length + q14 m := by
 have := u5u m (q14 l)
 unfold q14 at *
 rw [List.foldl_append]; exact this
theorem qa5 (l : List UInt8) (c : UInt8) : q14 (l ++ [c]) = 10 * q14 l + dv c := by simp [q14]
theorem q65 {l : List UInt8} {k : Nat} (h : k < l.length) : q14 (l.take (k + 1)) = 10 * q14 (l.take k) + dv (l.getD k 0) := by
 rw [List.take_succ_eq_append_getElem h, qa5, List.getD_eq_getElem?_getD, List.getElem?_eq_getElem h]; rfl
theorem q4v {l : List UInt8} (h : l.all isD = true) {k : Nat} (hk : k < l.length) : isD (l.getD k 0) = true := by
 rw [List.getD_eq_getElem?_getD, List.getElem?_eq_getElem hk]
 exact List.all_eq_true.1 h _ (List.getElem_mem hk)
theorem q2o : ∀ (l : List UInt8), l.all isD = true → q14 l < 10 ^ l.length
 | [], _ => by simp [q14]
 | c :: m, h => by
  simp only [List.all_cons, Bool.and_eq_true] at h
  have h1 := qh8 h.1
  have h2 := q2o m h.2
  have : q14 (c :: m) = q14 [c] * 10 ^ m.length + q14 m := q4r [c] m
  have h3 : q14 [c] = dv c := by simp [q14]
  rw [this, h3, qaC, Nat.pow_succ]
  have h4 : (dv c + 1) * 10 ^ m.length ≤ 10 * 10 ^ m.length := Nat.mul_le_mul_right _ h1
  rw [Nat.add_mul, Nat.one_mul] at h4
  rw [Nat.mul_comm (10 ^ m.length)]; omega
theorem qta {l : List UInt8} (h : l.all isD = true) (k : Nat) : (l.drop k).all isD = true := by
 rw [List.all_eq_true] at *; exact fun x hx => h x (List.mem_of_mem_drop hx)
theorem qit {l : List UInt8} (h : l.all isD = true) {e : Nat} (he : e ≤ l.length) : q14 l / 10 ^ (l.length - e) = q14 (l.take e) := by
 conv => lhs; rw [← List.take_append_drop e l, q4r]
 have hl := q2o _ (qta h e)
 rw [qaJ] at hl
 rw [qaA, qaI, qaJ, Nat.min_eq_left he, show e + (l.length - e) - e = l.length - e by omega]
 rw [Nat.add_comm, Nat.add_mul_div_right _ _ (Nat.pow_pos (by decide)), Nat.div_eq_of_lt hl, Nat.zero_add]
theorem qp0 {l : List UInt8} (h : l.all isD = true) {e c : Nat} (he : e + 9 * c = l.length) : dig 1000000000 (q14 l) c = q14 (l.take e) % 1000000000 := by
 unfold dig
 have e1 : 1000000000 ^ c = 10 ^ (l.length - e) := by
  rw [show (1000000000 : Nat) = 10 ^ 9 by decide, ← Nat.pow_mul]; congr 1; omega
 rw [e1, qit h (by omega)]
theorem u50 {l : List UInt8} {e f n : Nat} (hf : f = e - 9) (hn : q14 (l.take e) = q14 (l.take f) * 10 ^ (e - f) + n) (hl : n < 10 ^ (e - f)) : q14 (l.take e) % 1000000000 = n := by
 by_cases h9 : 9 ≤ e
 ·have : e - f = 9 := by omega
  rw [this] at hn hl
  rw [hn, show (10 : Nat) ^ 9 = 1000000000 by decide, Nat.mul_comm, Nat.mul_add_mod, Nat.mod_eq_of_lt (by simpa using hl)]
 ·have h0 : f = 0 := by omega
  subst h0
  rw [List.take_zero, qd0, Nat.zero_mul, Nat.zero_add] at hn
  rw [hn]
  refine Nat.mod_eq_of_lt (Nat.lt_of_lt_of_le hl ?_)
  rw [show (1000000000 : Nat) = 10 ^ 9 by decide]
  exact Nat.pow_le_pow_right (by decide) (by omega)
theorem qqy {X Y p n z : Nat} (h : X = Y * p + n) : 10 * X + z = Y * (p * 10) + (10 * n + z) := by
 subst h
 rw [Nat.mul_add, ← Nat.mul_assoc Y, Nat.mul_comm 10 (Y * p), Nat.add_assoc]
def q0m (s : List UInt8) : List UInt8 := if s.head? = some 45 then s.drop 1 else s
def q34 (s : List UInt8) : Bool := decide (s.head? = some 45)
def q0p (s : List UInt8) : Int :=
 if q0m s = [] ∨ ((q0m s).head? = some 48 ∧ s ≠ [48]) then 4 else if (q0m s).all isD = true then (if 200 < (q0m s).length then 80 else 0) else 4
theorem q7w (s : List UInt8) : (q0m s).length ≤ s.length := by unfold q0m; split <;> simp
theorem qsq {s : List UInt8} : ((q0m s).length < s.length) ↔ s.head? = some 45 := by
 unfold q0m
 cases s with
 | nil => simp
 | cons c r => by_cases h : c = 45 <;> simp [h]
theorem q1h {s : List UInt8} (h : q0p s = 0) : (q0m s).all isD = true ∧ (q0m s).length ≤ 200 ∧ q0m s ≠ [] := by
 unfold q0p at h
 split at h
 ·cases h
 ·rename_i h1
  split at h
  ·rename_i h2
   split at h
   ·cases h
   ·exact ⟨h2, by omega, fun e => h1 (Or.inl e)⟩
  ·cases h
