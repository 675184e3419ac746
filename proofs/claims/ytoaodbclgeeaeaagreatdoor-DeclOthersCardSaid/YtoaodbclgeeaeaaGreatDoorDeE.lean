/- Walks: how much there is of types, fields, expressions, bodies, values, as far as a bound. -/
import Derived.Test.YtoaodbclgeeaeaaGreatDoorDeB
namespace Go.Proofs.YtoaodbclgeeaeaaGreatDoor
open Go Go.Wk Go.Un Go.De
set_option linter.unusedSimpArgs false
set_option linter.unusedVariables false
attribute [local irreducible] Go.wpList Go.Code.wp Go.wpStill Go.Wk.wpPre Go.bodyPost Go.Calls Go.Wk.Ct Go.Wk.OwnS
attribute [local irreducible] Go.Wk.wpG Go.Wk.wpM

/-- A count as far as a bound. -/
def Cnt (p S most : Nat) : Prop := p ≤ most ∧ p ≤ S ∧ (p = S ∨ p = most)
theorem drop_at {α : Type} {l : List α} {k : Nat} {x : α} (h : l[k]? = some x) : l.drop k = x :: l.drop (k + 1) := by
  obtain ⟨h1, h2⟩ := List.getElem?_eq_some_iff.1 h
  rw [List.drop_eq_getElem_cons h1, h2]
def fdsN : List FD → Nat
  | [] => 0
  | x :: r => x.ta.size + 1 + fdsN r
def bodyN : List LT → Nat
  | [] => 0
  | x :: r => x.args.size + 1 + bodyN r
set_option maxHeartbeats 4000000 in
theorem typesCt (F : Heap) : ∀ (n : Nat) (l : Fo) (v : Value) (most : Nat), l.size ≤ n → most ≤ 1000000 → SlF F v l → Ct Tryz.prog 7 [v, .int .i64 (most : Int)] F [] (fun _ _ u => ∃ p : Nat, u = .int .i64 (p : Int) ∧ Cnt p l.size most) := by
  intro n
  induction n using Nat.strongRecOn with
  | _ n ih =>
  intro l v most hn hmost h
  obtain ⟨ao, cap, rfl, hcap, hpos⟩ := h
  refine Ct.enter Tryz.func7 rfl Tryz.ntmps7 rfl fun w0 a S => ?_
  refine wp_sr fun Kq1 hKq1 => ?_
  (refine wpl_p S ?_; clear S a; intro a S)
  (refine wpList_nil (hKq1 _ _ (wp_sr fun Kq2 hKq2 => ?_)); try clear hKq1 Kq1)
  (refine wpl_p S ?_; clear S a; intro a S)
  (refine wpList_nil (hKq2 _ _ (wp_seq_k fun Kq3 hKq3 => ?_)); try clear hKq2 Kq2)
  refine wp_sr fun Kq4 hKq4 => ?_
  (refine wpl_p S ?_; clear S a; intro a S)
  (refine wpList_nil (hKq4 _ _ ?_); try clear hKq4 Kq4)
  refine wp_block ?_
  refine wpc_loop (fun m a w' => ∃ (k p s : Nat), m = l.len - k ∧ k ≤ l.len ∧ s + (l.drop k).size = l.size ∧ Cnt p s most ∧ St 32 [(0, .slice ao l.len cap), (1, .int .i64 (most : Int)), (5, .int .i64 (p : Int)), (6, .int .i64 k)] w0 F [] F [] a w') ?_ ?_
  · (refine ⟨l.len, 0, 0, 0, by omega, Nat.zero_le _, by rw [Nat.zero_add]; rfl, ⟨Nat.zero_le _, Nat.le_refl _, .inl rfl⟩, ?_⟩; refine S.keep ?_; repeat (first | exact trivial | refine ⟨rfl, ?_⟩))
  (clear S; rintro m a w ⟨k, p, s, rfl, hkl, hs, hp, S⟩; unfold Cnt at hp)
  (refine wp_seq_k ?_; intro Kq5 hKq5)
  refine wp_sr fun Kq6 hKq6 => ?_
  iterate 2 (refine wpl_p S ?_; clear S a; intro a S)
  (refine wpl_n S ?_; clear S a; intro a S)
  iterate 2 (refine wpl_p S ?_; clear S a; intro a S)
  refine wpl_guard S rfl rfl rfl rfl rfl ?_ ?_
  · (intro h S'; clear S; have S := S'; clear S'; (try simp only [tq] at h))
    (refine wpl_p S ?_; clear S a; intro a S)
    refine wpl_take S rfl rfl rfl ?_
    (refine wpl_p S ?_; clear S a; intro a S)
    refine wpl_take S rfl rfl rfl ?_
    iterate 2 (refine wpl_p S ?_; clear S a; intro a S)
    (refine wpList_nil (hKq6 _ _ ?_); try clear hKq6 Kq6)
    refine wpc_split S rfl (fun h => ?_) (fun h => ?_)
    · (skip; (try simp only [tq] at h))
      refine wp_skip ?_
      (refine hKq5 _ _ ?_; try (clear hKq5 Kq5))
      (refine wp_seq_k ?_; intro Kq7 hKq7)
      refine wp_block ?_
      refine wp_sr fun Kq8 hKq8 => ?_
      (refine wpl_p S ?_; clear S a; intro a S)
      (refine wpl_a S ?_; clear S a; intro a S)
      (refine wpl_p S ?_; clear S a; intro a S)
      (refine wpList_nil (hKq8 _ _ ?_); try clear hKq8 Kq8)
      (obtain ⟨b8, o8, hao, x, v1, hx, hc1, hT1⟩ := FoM.pos hpos (k := k) (by omega); rw [hao] at S; have hxs := Fo.size_get hx; have hdz : (l.drop k).size = x.2.size + (l.drop (k + 1)).size + 1 := (by rw [Fo.drop_get hx]; simp only [Fo.size]); have hc2 : Cel F b8 (o8 + k * 2 + 1) v1 := hc1 1 _ rfl)
      refine wp_region_lit ?_
      iterate 3 (refine wpl_p S ?_; clear S a; intro a S)
      (refine wpl_i S ?_; clear S a; intro a S)
      (refine wpl_f S ?_; clear S a; intro a S)
      (refine wpl_v S rfl rfl rfl (sv_loadF S rfl rfl hc2) ?_; clear S a; intro a S)
      iterate 2 (refine wpl_p S ?_; clear S a; intro a S)
      (refine wpl_s S ?_; clear S a; intro a S)
      (rw [show ((most : Int) - ((p : Int) + 1)) = ((most - (p + 1) : Nat) : Int) by omega] at S)
      (refine wpl_c0 S (ih x.2.size (by omega) x.2 _ (most - (p + 1)) (Nat.le_refl _) (by omega) hT1) ?_; clear S a; intro v a w hv S; obtain ⟨p9, rfl, hp9⟩ := hv; unfold Cnt at hp9)
      (refine wpl_a S ?_; clear S a; intro a S)
      (refine wpl_p S ?_; clear S a; intro a S)
      (refine wpList_nil (hKq7 _ _ ?_); try clear hKq7 Kq7)
      refine wp_region_lit ?_
      (refine wpl_p S ?_; clear S a; intro a S)
      (refine wpl_a S ?_; clear S a; intro a S)
      (refine wpl_p S ?_; clear S a; intro a S)
      refine wpList_nil ?_
      change ∃ m', _ ∧ _
      (rw [← hao] at S; refine ⟨l.len - (k + 1), by omega, k + 1, p + 1 + p9, s + 1 + x.2.size, rfl, by omega, by omega, by unfold Cnt; omega, ?_⟩; refine S.keep ?_; repeat (first | exact trivial | refine ⟨rfl, ?_⟩))
    (skip; (try simp only [tq] at h))
    refine wp_exit ?_
    (refine hKq3 _ _ ?_; try (clear hKq3 Kq3))
    refine wp_sr fun Kq7 hKq7 => ?_
    iterate 2 (refine wpl_p S ?_; clear S a; intro a S)
    (refine wpList_nil (hKq7 _ _ ?_); try clear hKq7 Kq7)
    refine wp_ret (fin_ret S (results1 Tryz.results7 (RV.tmp S rfl)) ?_)
    (first | (have hz : (l.drop k).size = 0 := (by rw [Fo.drop_len (by omega)]; rfl); exact ⟨p, rfl, by unfold Cnt; omega⟩) | (exact ⟨p, rfl, by unfold Cnt; omega⟩))
  (intro h; clear S a; intro a S; (try simp only [tq] at h))
  iterate 2 (refine wpl_k S ?_; clear S a; intro a S)
  (refine wpl_p S ?_; clear S a; intro a S)
  (refine wpList_nil (hKq6 _ _ ?_); try clear hKq6 Kq6)
  refine wpc_false S rfl ?_
  refine wp_exit ?_
  (refine hKq3 _ _ ?_; try (clear hKq3 Kq3))
  refine wp_sr fun Kq7 hKq7 => ?_
  iterate 2 (refine wpl_p S ?_; clear S a; intro a S)
  (refine wpList_nil (hKq7 _ _ ?_); try clear hKq7 Kq7)
  refine wp_ret (fin_ret S (results1 Tryz.results7 (RV.tmp S rfl)) ?_)
  (first | (have hz : (l.drop k).size = 0 := (by rw [Fo.drop_len (by omega)]; rfl); exact ⟨p, rfl, by unfold Cnt; omega⟩) | (exact ⟨p, rfl, by unfold Cnt; omega⟩))
set_option maxHeartbeats 4000000 in
theorem exprsNCt (F : Heap) : ∀ (n : Nat) (l : Ef) (v : Value) (most : Nat), l.size ≤ n → most ≤ 1000000 → TrS F 9 EhR v l → Ct Tryz.prog 32 [v, .int .i64 (most : Int)] F [] (fun _ _ u => ∃ p : Nat, u = .int .i64 (p : Int) ∧ Cnt p l.size most) := by
  intro n
  induction n using Nat.strongRecOn with
  | _ n ih =>
  intro l v most hn hmost h
  obtain ⟨ao, cap, rfl, hcap, hpos⟩ := h
  refine Ct.enter Tryz.func32 rfl Tryz.ntmps32 rfl fun w0 a S => ?_
  refine wp_sr fun Kq1 hKq1 => ?_
  (refine wpl_p S ?_; clear S a; intro a S)
  (refine wpList_nil (hKq1 _ _ (wp_sr fun Kq2 hKq2 => ?_)); try clear hKq1 Kq1)
  (refine wpl_p S ?_; clear S a; intro a S)
  (refine wpList_nil (hKq2 _ _ (wp_seq_k fun Kq3 hKq3 => ?_)); try clear hKq2 Kq2)
  refine wp_sr fun Kq4 hKq4 => ?_
  (refine wpl_p S ?_; clear S a; intro a S)
  (refine wpList_nil (hKq4 _ _ ?_); try clear hKq4 Kq4)
  refine wp_block ?_
  refine wpc_loop (fun m a w' => ∃ (k p s : Nat), m = l.len - k ∧ k ≤ l.len ∧ s + (l.drop k).size = l.size ∧ Cnt p s most ∧ St 32 [(0, .slice ao l.len cap), (1, .int .i64 (most : Int)), (5, .int .i64 (p : Int)), (6, .int .i64 k)] w0 F [] F [] a w') ?_ ?_
  · (refine ⟨l.len, 0, 0, 0, by omega, Nat.zero_le _, by rw [Nat.zero_add]; rfl, ⟨Nat.zero_le _, Nat.le_refl _, .inl rfl⟩, ?_⟩; refine S.keep ?_; repeat (first | exact trivial | refine ⟨rfl, ?_⟩))
  (clear S; rintro m a w ⟨k, p, s, rfl, hkl, hs, hp, S⟩; unfold Cnt at hp)
  (refine wp_seq_k ?_; intro Kq5 hKq5)
  refine wp_sr fun Kq6 hKq6 => ?_
  iterate 2 (refine wpl_p S ?_; clear S a; intro a S)
  (refine wpl_n S ?_; clear S a; intro a S)
  iterate 2 (refine wpl_p S ?_; clear S a; intro a S)
  refine wpl_guard S rfl rfl rfl rfl rfl ?_ ?_
  · (intro h S'; clear S; have S := S'; clear S'; (try simp only [tq] at h))
    (refine wpl_p S ?_; clear S a; intro a S)
    refine wpl_take S rfl rfl rfl ?_
    (refine wpl_p S ?_; clear S a; intro a S)
    refine wpl_take S rfl rfl rfl ?_
    iterate 2 (refine wpl_p S ?_; clear S a; intro a S)
    (refine wpList_nil (hKq6 _ _ ?_); try clear hKq6 Kq6)
    refine wpc_split S rfl (fun h => ?_) (fun h => ?_)
    · (skip; (try simp only [tq] at h))
      refine wp_skip ?_
      (refine hKq5 _ _ ?_; try (clear hKq5 Kq5))
      (refine wp_seq_k ?_; intro Kq7 hKq7)
      refine wp_block ?_
      refine wp_sr fun Kq8 hKq8 => ?_
      (refine wpl_p S ?_; clear S a; intro a S)
      (refine wpl_a S ?_; clear S a; intro a S)
      (refine wpl_p S ?_; clear S a; intro a S)
      (refine wpList_nil (hKq8 _ _ ?_); try clear hKq8 Kq8)
      (obtain ⟨b8, o8, hao, x, cs1, v1, hx, hc1, ⟨w9, rfl, -⟩, hT1⟩ := TrM.pos hpos (k := k) (by omega); rw [hao] at S; have hxs := Rose.size_get hx; have hdz : (l.drop k).size = x.2.size + (l.drop (k + 1)).size + 1 := (by rw [Rose.drop_get hx]; simp only [Rose.size]); have hc2 : Cel F b8 (o8 + k * 9 + 8) v1 := hc1 8 _ rfl)
      refine wp_region_lit ?_
      iterate 3 (refine wpl_p S ?_; clear S a; intro a S)
      (refine wpl_i S ?_; clear S a; intro a S)
      (refine wpl_f S ?_; clear S a; intro a S)
      (refine wpl_v S rfl rfl rfl (sv_loadF S rfl rfl hc2) ?_; clear S a; intro a S)
      iterate 2 (refine wpl_p S ?_; clear S a; intro a S)
      (refine wpl_s S ?_; clear S a; intro a S)
      (rw [show ((most : Int) - ((p : Int) + 1)) = ((most - (p + 1) : Nat) : Int) by omega] at S)
      (refine wpl_c0 S (ih x.2.size (by omega) x.2 _ (most - (p + 1)) (Nat.le_refl _) (by omega) hT1) ?_; clear S a; intro v a w hv S; obtain ⟨p9, rfl, hp9⟩ := hv; unfold Cnt at hp9)
      (refine wpl_a S ?_; clear S a; intro a S)
      (refine wpl_p S ?_; clear S a; intro a S)
      (refine wpList_nil (hKq7 _ _ ?_); try clear hKq7 Kq7)
      refine wp_region_lit ?_
      (refine wpl_p S ?_; clear S a; intro a S)
      (refine wpl_a S ?_; clear S a; intro a S)
      (refine wpl_p S ?_; clear S a; intro a S)
      refine wpList_nil ?_
      change ∃ m', _ ∧ _
      (rw [← hao] at S; refine ⟨l.len - (k + 1), by omega, k + 1, p + 1 + p9, s + 1 + x.2.size, rfl, by omega, by omega, by unfold Cnt; omega, ?_⟩; refine S.keep ?_; repeat (first | exact trivial | refine ⟨rfl, ?_⟩))
    (skip; (try simp only [tq] at h))
    refine wp_exit ?_
    (refine hKq3 _ _ ?_; try (clear hKq3 Kq3))
    refine wp_sr fun Kq7 hKq7 => ?_
    iterate 2 (refine wpl_p S ?_; clear S a; intro a S)
    (refine wpList_nil (hKq7 _ _ ?_); try clear hKq7 Kq7)
    refine wp_ret (fin_ret S (results1 Tryz.results32 (RV.tmp S rfl)) ?_)
    (first | (have hz : (l.drop k).size = 0 := (by rw [Rose.drop_len (by omega)]; rfl); exact ⟨p, rfl, by unfold Cnt; omega⟩) | (exact ⟨p, rfl, by unfold Cnt; omega⟩))
  (intro h; clear S a; intro a S; (try simp only [tq] at h))
  iterate 2 (refine wpl_k S ?_; clear S a; intro a S)
  (refine wpl_p S ?_; clear S a; intro a S)
  (refine wpList_nil (hKq6 _ _ ?_); try clear hKq6 Kq6)
  refine wpc_false S rfl ?_
  refine wp_exit ?_
  (refine hKq3 _ _ ?_; try (clear hKq3 Kq3))
  refine wp_sr fun Kq7 hKq7 => ?_
  iterate 2 (refine wpl_p S ?_; clear S a; intro a S)
  (refine wpList_nil (hKq7 _ _ ?_); try clear hKq7 Kq7)
  refine wp_ret (fin_ret S (results1 Tryz.results32 (RV.tmp S rfl)) ?_)
  (first | (have hz : (l.drop k).size = 0 := (by rw [Rose.drop_len (by omega)]; rfl); exact ⟨p, rfl, by unfold Cnt; omega⟩) | (exact ⟨p, rfl, by unfold Cnt; omega⟩))
set_option maxHeartbeats 4000000 in
theorem bodyNCt (F : Heap) (l : List LT) (v : Value) (most : Nat) (hmost : most ≤ 1000000) (h : LiM F 5 LtR v l) : Ct Tryz.prog 33 [v, .int .i64 (most : Int)] F [] (fun _ _ u => ∃ p : Nat, u = .int .i64 (p : Int) ∧ Cnt p (bodyN l) most) := by
  obtain ⟨ao, cap, rfl, hcap, hpos⟩ := h
  refine Ct.enter Tryz.func33 rfl Tryz.ntmps33 rfl fun w0 a S => ?_
  refine wp_sr fun Kq1 hKq1 => ?_
  (refine wpl_p S ?_; clear S a; intro a S)
  (refine wpList_nil (hKq1 _ _ (wp_sr fun Kq2 hKq2 => ?_)); try clear hKq1 Kq1)
  (refine wpl_p S ?_; clear S a; intro a S)
  (refine wpList_nil (hKq2 _ _ (wp_seq_k fun Kq3 hKq3 => ?_)); try clear hKq2 Kq2)
  refine wp_sr fun Kq4 hKq4 => ?_
  (refine wpl_p S ?_; clear S a; intro a S)
  (refine wpList_nil (hKq4 _ _ ?_); try clear hKq4 Kq4)
  refine wp_block ?_
  refine wpc_loop (fun m a w' => ∃ (k p s : Nat), m = l.length - k ∧ k ≤ l.length ∧ s + bodyN (l.drop k) = bodyN l ∧ Cnt p s most ∧ St 32 [(0, .slice ao l.length cap), (1, .int .i64 (most : Int)), (5, .int .i64 (p : Int)), (6, .int .i64 k)] w0 F [] F [] a w') ?_ ?_
  · (refine ⟨l.length, 0, 0, 0, by omega, Nat.zero_le _, by rw [Nat.zero_add]; rfl, ⟨Nat.zero_le _, Nat.le_refl _, .inl rfl⟩, ?_⟩; refine S.keep ?_; repeat (first | exact trivial | refine ⟨rfl, ?_⟩))
  (clear S; rintro m a w ⟨k, p, s, rfl, hkl, hs, hp, S⟩; unfold Cnt at hp)
  (refine wp_seq_k ?_; intro Kq5 hKq5)
  refine wp_sr fun Kq6 hKq6 => ?_
  iterate 2 (refine wpl_p S ?_; clear S a; intro a S)
  (refine wpl_n S ?_; clear S a; intro a S)
  iterate 2 (refine wpl_p S ?_; clear S a; intro a S)
  refine wpl_guard S rfl rfl rfl rfl rfl ?_ ?_
  · (intro h S'; clear S; have S := S'; clear S'; (try simp only [tq] at h))
    (refine wpl_p S ?_; clear S a; intro a S)
    refine wpl_take S rfl rfl rfl ?_
    (refine wpl_p S ?_; clear S a; intro a S)
    refine wpl_take S rfl rfl rfl ?_
    iterate 2 (refine wpl_p S ?_; clear S a; intro a S)
    (refine wpList_nil (hKq6 _ _ ?_); try clear hKq6 Kq6)
    refine wpc_split S rfl (fun h => ?_) (fun h => ?_)
    · (skip; (try simp only [tq] at h))
      refine wp_skip ?_
      (refine hKq5 _ _ ?_; try (clear hKq5 Kq5))
      (refine wp_seq_k ?_; intro Kq7 hKq7)
      refine wp_block ?_
      refine wp_sr fun Kq8 hKq8 => ?_
      (refine wpl_p S ?_; clear S a; intro a S)
      (refine wpl_a S ?_; clear S a; intro a S)
      (refine wpl_p S ?_; clear S a; intro a S)
      (refine wpList_nil (hKq8 _ _ ?_); try clear hKq8 Kq8)
      (obtain ⟨b8, o8, hao, x, cs1, hx, hc1, ⟨v1, rfl, hT1⟩⟩ := LiM.pos hpos (k := k) (by omega); rw [hao] at S; have hdz : bodyN (l.drop k) = x.args.size + 1 + bodyN (l.drop (k + 1)) := (by rw [drop_at hx]; rfl); have hc2 : Cel F b8 (o8 + k * 5 + 4) v1 := hc1 4 _ rfl)
      refine wp_region_lit ?_
      iterate 3 (refine wpl_p S ?_; clear S a; intro a S)
      (refine wpl_i S ?_; clear S a; intro a S)
      (refine wpl_f S ?_; clear S a; intro a S)
      (refine wpl_v S rfl rfl rfl (sv_loadF S rfl rfl hc2) ?_; clear S a; intro a S)
      iterate 2 (refine wpl_p S ?_; clear S a; intro a S)
      (refine wpl_s S ?_; clear S a; intro a S)
      (rw [show ((most : Int) - ((p : Int) + 1)) = ((most - (p + 1) : Nat) : Int) by omega] at S)
      (refine wpl_c0 S (exprsNCt F x.args.size x.args _ (most - (p + 1)) (Nat.le_refl _) (by omega) hT1) ?_; clear S a; intro v a w hv S; obtain ⟨p9, rfl, hp9⟩ := hv; unfold Cnt at hp9)
      (refine wpl_a S ?_; clear S a; intro a S)
      (refine wpl_p S ?_; clear S a; intro a S)
      (refine wpList_nil (hKq7 _ _ ?_); try clear hKq7 Kq7)
      refine wp_region_lit ?_
      (refine wpl_p S ?_; clear S a; intro a S)
      (refine wpl_a S ?_; clear S a; intro a S)
      (refine wpl_p S ?_; clear S a; intro a S)
      refine wpList_nil ?_
      change ∃ m', _ ∧ _
      (rw [← hao] at S; refine ⟨l.length - (k + 1), by omega, k + 1, p + 1 + p9, s + 1 + x.args.size, rfl, by omega, by omega, by unfold Cnt; omega, ?_⟩; refine S.keep ?_; repeat (first | exact trivial | refine ⟨rfl, ?_⟩))
    (skip; (try simp only [tq] at h))
    refine wp_exit ?_
    (refine hKq3 _ _ ?_; try (clear hKq3 Kq3))
    refine wp_sr fun Kq7 hKq7 => ?_
    iterate 2 (refine wpl_p S ?_; clear S a; intro a S)
    (refine wpList_nil (hKq7 _ _ ?_); try clear hKq7 Kq7)
    refine wp_ret (fin_ret S (results1 Tryz.results33 (RV.tmp S rfl)) ?_)
    (first | (have hz : bodyN (l.drop k) = 0 := (by rw [List.drop_eq_nil_of_le (by omega)]; rfl); exact ⟨p, rfl, by unfold Cnt; omega⟩) | (exact ⟨p, rfl, by unfold Cnt; omega⟩))
  (intro h; clear S a; intro a S; (try simp only [tq] at h))
  iterate 2 (refine wpl_k S ?_; clear S a; intro a S)
  (refine wpl_p S ?_; clear S a; intro a S)
  (refine wpList_nil (hKq6 _ _ ?_); try clear hKq6 Kq6)
  refine wpc_false S rfl ?_
  refine wp_exit ?_
  (refine hKq3 _ _ ?_; try (clear hKq3 Kq3))
  refine wp_sr fun Kq7 hKq7 => ?_
  iterate 2 (refine wpl_p S ?_; clear S a; intro a S)
  (refine wpList_nil (hKq7 _ _ ?_); try clear hKq7 Kq7)
  refine wp_ret (fin_ret S (results1 Tryz.results33 (RV.tmp S rfl)) ?_)
  (first | (have hz : bodyN (l.drop k) = 0 := (by rw [List.drop_eq_nil_of_le (by omega)]; rfl); exact ⟨p, rfl, by unfold Cnt; omega⟩) | (exact ⟨p, rfl, by unfold Cnt; omega⟩))
set_option maxHeartbeats 4000000 in
theorem fieldsNCt (F : Heap) (l : List FD) (v : Value) (most : Nat) (hmost : most ≤ 1000000) (h : LiM F 3 FdR v l) : Ct Tryz.prog 31 [v, .int .i64 (most : Int)] F [] (fun _ _ u => ∃ p : Nat, u = .int .i64 (p : Int) ∧ Cnt p (fdsN l) most) := by
  obtain ⟨ao, cap, rfl, hcap, hpos⟩ := h
  refine Ct.enter Tryz.func31 rfl Tryz.ntmps31 rfl fun w0 a S => ?_
  refine wp_sr fun Kq1 hKq1 => ?_
  (refine wpl_p S ?_; clear S a; intro a S)
  (refine wpList_nil (hKq1 _ _ (wp_sr fun Kq2 hKq2 => ?_)); try clear hKq1 Kq1)
  (refine wpl_p S ?_; clear S a; intro a S)
  (refine wpList_nil (hKq2 _ _ (wp_seq_k fun Kq3 hKq3 => ?_)); try clear hKq2 Kq2)
  refine wp_sr fun Kq4 hKq4 => ?_
  (refine wpl_p S ?_; clear S a; intro a S)
  (refine wpList_nil (hKq4 _ _ ?_); try clear hKq4 Kq4)
  refine wp_block ?_
  refine wpc_loop (fun m a w' => ∃ (k p s : Nat) (F1 : Heap), m = l.length - k ∧ k ≤ l.length ∧ (∀ b o, F b = some o → F1 b = some o) ∧ s + fdsN (l.drop k) = fdsN l ∧ Cnt p s most ∧ St 31 [(0, .slice ao l.length cap), (1, .int .i64 (most : Int)), (5, .int .i64 (p : Int)), (6, .int .i64 k)] w0 F [] F1 [] a w') ?_ ?_
  · (refine ⟨l.length, 0, 0, 0, F, by omega, Nat.zero_le _, fun _ _ h => h, by rw [Nat.zero_add]; rfl, ⟨Nat.zero_le _, Nat.le_refl _, .inl rfl⟩, ?_⟩; refine S.keep ?_; repeat (first | exact trivial | refine ⟨rfl, ?_⟩))
  (clear S; rintro m a w ⟨k, p, s, F1, rfl, hkl, hF1, hs, hp, S⟩; unfold Cnt at hp)
  (refine wp_seq_k ?_; intro Kq5 hKq5)
  refine wp_sr fun Kq6 hKq6 => ?_
  iterate 2 (refine wpl_p S ?_; clear S a; intro a S)
  (refine wpl_n S ?_; clear S a; intro a S)
  iterate 2 (refine wpl_p S ?_; clear S a; intro a S)
  refine wpl_guard S rfl rfl rfl rfl rfl ?_ ?_
  · (intro h S'; clear S; have S := S'; clear S'; (try simp only [tq] at h))
    (refine wpl_p S ?_; clear S a; intro a S)
    refine wpl_take S rfl rfl rfl ?_
    (refine wpl_p S ?_; clear S a; intro a S)
    refine wpl_take S rfl rfl rfl ?_
    iterate 2 (refine wpl_p S ?_; clear S a; intro a S)
    (refine wpList_nil (hKq6 _ _ ?_); try clear hKq6 Kq6)
    refine wpc_split S rfl (fun h => ?_) (fun h => ?_)
    · (skip; (try simp only [tq] at h))
      refine wp_skip ?_
      (refine hKq5 _ _ ?_; try (clear hKq5 Kq5))
      (refine wp_seq_k ?_; intro Kq7 hKq7)
      refine wp_block ?_
      (obtain ⟨b8, o8, hao, x, cs1, hx, hc1, ⟨v1, rfl, hT1⟩⟩ := LiM.pos hpos (k := k) (by omega); rw [hao] at S; have hdz : fdsN (l.drop k) = x.ta.size + 1 + fdsN (l.drop (k + 1)) := (by rw [drop_at hx]; rfl); replace hc1 := Cels.mono hF1 hc1; replace hT1 := hT1.mono hF1; have hT1c := hT1; obtain ⟨a91, c91, rfl, -⟩ := hT1c; have hc2 : Cels F1 b8 (o8 + k * 3 + 1) [.string (bs x.tn), .slice a91 x.ta.len c91] := hc1.drop 1)
      refine wp_region_lit ?_
      iterate 3 (refine wpl_p S ?_; clear S a; intro a S)
      (refine wpl_i S ?_; clear S a; intro a S)
      (refine wpl_f S ?_; clear S a; intro a S)
      (refine wpl_v S rfl rfl rfl (sv_loadAF S rfl rfl hc2 (by rfl)) ?_; clear S a; intro a S)
      (refine wpl_buildSlice S rfl rfl rfl rfl rfl rfl (by rfl) (by simp [Value.cells, splice, splice]) rfl (by rfl) (by rfl) ?_; clear S a; intro b24 a w hown S)
      (have hown : OwnS 24 2 (.slice (some ⟨b24, 0, none⟩) 1 1) 1 [.string (bs x.tn), .slice a91 x.ta.len c91] [(b24, .cells ⟨[.string (bs x.tn), .slice a91 x.ta.len c91]⟩ 24 (0, 0))] := hown; have hle : ∀ b o, F1 b = some o → (F1.add [(b24, .cells ⟨[.string (bs x.tn), .slice a91 x.ta.len c91]⟩ 24 (0, 0))]) b = some o := add_le (G1 := []) S; replace S := St.freeze (G1 := []) S; (simp only [List.nil_append] at S); replace S : St _ _ _ _ _ (F1.add [(b24, .cells ⟨[.string (bs x.tn), .slice a91 x.ta.len c91]⟩ 24 (0, 0))]) _ _ _ := S; have hs24 : SlF (F1.add [(b24, .cells ⟨[.string (bs x.tn), .slice a91 x.ta.len c91]⟩ 24 (0, 0))]) (.slice (some ⟨b24, 0, none⟩) 1 1) (.cons x.tn x.ta .nil) := FoC.slf hown (FoC.one hT1) rfl hle (by decide); clear hown; generalize (F1.add [(b24, .cells ⟨[.string (bs x.tn), .slice a91 x.ta.len c91]⟩ 24 (0, 0))]) = F2 at S hle hs24)
      iterate 2 (refine wpl_p S ?_; clear S a; intro a S)
      (refine wpl_s S ?_; clear S a; intro a S)
      (rw [show ((most : Int) - (p : Int)) = ((most - p : Nat) : Int) by omega] at S)
      (refine wpl_c0 S (typesCt F2 (x.ta.size + 1) (.cons x.tn x.ta .nil) _ (most - p) (by simp only [Fo.size]; omega) (by omega) hs24) ?_; clear S a; intro v a w hv S; obtain ⟨p9, rfl, hp9⟩ := hv; (unfold Cnt at hp9; simp only [Fo.size] at hp9))
      (refine wpl_a S ?_; clear S a; intro a S)
      (refine wpl_p S ?_; clear S a; intro a S)
      (refine wpList_nil (hKq7 _ _ ?_); try clear hKq7 Kq7)
      refine wp_region_lit ?_
      (refine wpl_p S ?_; clear S a; intro a S)
      (refine wpl_a S ?_; clear S a; intro a S)
      (refine wpl_p S ?_; clear S a; intro a S)
      refine wpList_nil ?_
      change ∃ m', _ ∧ _
      (rw [← hao] at S; refine ⟨l.length - (k + 1), by omega, k + 1, p + p9, s + 1 + x.ta.size, F2, rfl, by omega, fun b o h => hle _ _ (hF1 _ _ h), by omega, by unfold Cnt; omega, ?_⟩; refine S.keep ?_; repeat (first | exact trivial | refine ⟨rfl, ?_⟩))
    (skip; (try simp only [tq] at h))
    refine wp_exit ?_
    (refine hKq3 _ _ ?_; try (clear hKq3 Kq3))
    refine wp_sr fun Kq7 hKq7 => ?_
    iterate 2 (refine wpl_p S ?_; clear S a; intro a S)
    (refine wpList_nil (hKq7 _ _ ?_); try clear hKq7 Kq7)
    refine wp_ret (fin_ret S (results1 Tryz.results31 (RV.tmp S rfl)) ?_)
    (first | (have hz : fdsN (l.drop k) = 0 := (by rw [List.drop_eq_nil_of_le (by omega)]; rfl); exact ⟨p, rfl, by unfold Cnt; omega⟩) | (exact ⟨p, rfl, by unfold Cnt; omega⟩))
  (intro h; clear S a; intro a S; (try simp only [tq] at h))
  iterate 2 (refine wpl_k S ?_; clear S a; intro a S)
  (refine wpl_p S ?_; clear S a; intro a S)
  (refine wpList_nil (hKq6 _ _ ?_); try clear hKq6 Kq6)
  refine wpc_false S rfl ?_
  refine wp_exit ?_
  (refine hKq3 _ _ ?_; try (clear hKq3 Kq3))
  refine wp_sr fun Kq7 hKq7 => ?_
  iterate 2 (refine wpl_p S ?_; clear S a; intro a S)
  (refine wpList_nil (hKq7 _ _ ?_); try clear hKq7 Kq7)
  refine wp_ret (fin_ret S (results1 Tryz.results31 (RV.tmp S rfl)) ?_)
  (first | (have hz : fdsN (l.drop k) = 0 := (by rw [List.drop_eq_nil_of_le (by omega)]; rfl); exact ⟨p, rfl, by unfold Cnt; omega⟩) | (exact ⟨p, rfl, by unfold Cnt; omega⟩))
/-- How much values are. -/
def wtL : Vf → Nat
  | .nil => 0
  | .cons h L r => 1 + h.s.length / 50 + wtL L + wtL r
def wtV (h : VH) (L : Vf) : Nat := 1 + h.s.length / 50 + wtL L
set_option maxHeartbeats 4000000 in
theorem weightCt (F : Heap) : ∀ (n : Nat) (h : VH) (L : Vf) (v : Value) (most : Nat), L.size ≤ n → most ≤ 1000000 → h.s.length ≤ 140737488355328 → TrS F 4 VhR v L → Ct Tryz.prog 13 [.agg ⟨[.int .u8 (h.k : Int), .int .i64 h.n, .string (bs h.s), v]⟩, .int .i64 (most : Int)] F [] (fun _ _ u => ∃ p : Nat, u = .int .i64 (p : Int) ∧ (p < most → p = wtV h L) ∧ p ≤ most + 4398046511104) := by
  intro n
  induction n using Nat.strongRecOn with
  | _ n ih =>
  intro h L v most hn hmost hlen hT
  obtain ⟨ao, cap, rfl, hcap, hpos⟩ := hT
  have hq : h.s.length / 50 ≤ 2814749767107 := by omega
  refine Ct.enter Tryz.func13 rfl Tryz.ntmps13 rfl fun w0 a S => ?_
  refine wp_sr fun Kq1 hKq1 => ?_
  (refine wpl_bx S ?_; clear S a; intro b2 a w S)
  (refine wpl_p S ?_; clear S a; intro a S)
  (refine wpList_nil (hKq1 _ _ (wp_sr fun Kq2 hKq2 => ?_)); try clear hKq1 Kq1)
  (refine wpl_f S ?_; clear S a; intro a S)
  (refine wpl_l S ?_; clear S a; intro a S)
  (refine wpl_s S ?_; clear S a; intro a S)
  (refine wpl_v S rfl rfl rfl (sv_quo S rfl rfl rfl (by first | omega | (simp only [List.length_append, List.length_cons, List.length_nil]; omega))) ?_; clear S a; intro a S)
  (refine wpl_a S ?_; clear S a; intro a S)
  (rw [show ((1 : Int) + (h.s.length : Int) / 50) = ((1 + h.s.length / 50 : Nat) : Int) by omega] at S)
  (refine wpl_p S ?_; clear S a; intro a S)
  (refine wpList_nil (hKq2 _ _ (wp_seq_k fun Kq3 hKq3 => ?_)); try clear hKq2 Kq2)
  refine wp_sr fun Kq4 hKq4 => ?_
  (refine wpl_p S ?_; clear S a; intro a S)
  (refine wpList_nil (hKq4 _ _ ?_); try clear hKq4 Kq4)
  refine wp_block ?_
  refine wpc_loop (fun m a w' => ∃ (k p s : Nat), m = L.len - k ∧ k ≤ L.len ∧ s + wtL (L.drop k) = wtV h L ∧ (p < most → p = s) ∧ p ≤ most + 4398046511104 ∧ St 36 [(1, .int .i64 (most : Int)), (2, ptr b2), (5, .int .i64 (p : Int)), (6, .int .i64 k)] w0 F [] F [[(b2, .cells ⟨[.int .u8 (h.k : Int), .int .i64 h.n, .string (bs h.s), .slice ao L.len cap]⟩ 40 (0, 0))]] a w') ?_ ?_
  · (refine ⟨L.len, 0, 1 + h.s.length / 50, 1 + h.s.length / 50, by omega, Nat.zero_le _, rfl, fun _ => rfl, by omega, ?_⟩; refine S.keep ?_; repeat (first | exact trivial | refine ⟨rfl, ?_⟩))
  (clear S; rintro m a w ⟨k, p, s, rfl, hkl, hs, hp, hpb, S⟩)
  (refine wp_seq_k ?_; intro Kq5 hKq5)
  refine wp_sr fun Kq6 hKq6 => ?_
  (refine wpl_p S ?_; clear S a; intro a S)
  (refine wpl_f S ?_; clear S a; intro a S)
  (refine wpl_l S ?_; clear S a; intro a S)
  (refine wpl_n S ?_; clear S a; intro a S)
  iterate 2 (refine wpl_p S ?_; clear S a; intro a S)
  refine wpl_guard S rfl rfl rfl rfl rfl ?_ ?_
  · (intro h S'; clear S; have S := S'; clear S'; (try simp only [tq] at h))
    (refine wpl_p S ?_; clear S a; intro a S)
    refine wpl_take S rfl rfl rfl ?_
    (refine wpl_p S ?_; clear S a; intro a S)
    refine wpl_take S rfl rfl rfl ?_
    iterate 2 (refine wpl_p S ?_; clear S a; intro a S)
    (refine wpList_nil (hKq6 _ _ ?_); try clear hKq6 Kq6)
    refine wpc_split S rfl (fun h => ?_) (fun h => ?_)
    · (skip; (try simp only [tq] at h))
      refine wp_skip ?_
      (refine hKq5 _ _ ?_; try (clear hKq5 Kq5))
      (refine wp_seq_k ?_; intro Kq7 hKq7)
      refine wp_block ?_
      (obtain ⟨b8, o8, hao, x, cs1, v1, hx, hc1, ⟨rfl, hsl⟩, hT1⟩ := TrM.pos hpos (k := k) (by omega); rw [hao] at S; have hxs := Rose.size_get hx; have hdz : wtL (L.drop k) = wtV x.1 x.2 + wtL (L.drop (k + 1)) := (by rw [Rose.drop_get hx]; rfl))
      refine wp_region_lit ?_
      (refine wpl_p S ?_; clear S a; intro a S)
      (refine wpl_f S ?_; clear S a; intro a S)
      (refine wpl_l S ?_; clear S a; intro a S)
      (refine wpl_p S ?_; clear S a; intro a S)
      (refine wpl_i S ?_; clear S a; intro a S)
      (refine wpl_v S rfl rfl rfl (sv_loadAF S rfl rfl hc1 (by rfl)) ?_; clear S a; intro a S)
      iterate 2 (refine wpl_p S ?_; clear S a; intro a S)
      (refine wpl_s S ?_; clear S a; intro a S)
      (rw [show ((most : Int) - (p : Int)) = ((most - p : Nat) : Int) by omega] at S)
      (refine wpl_c0 S (ih x.2.size (by omega) x.1 x.2 _ (most - p) (Nat.le_refl _) (by omega) hsl hT1) ?_; clear S a; intro v a w hv S; obtain ⟨p9, rfl, hp9, hp9b⟩ := hv)
      (refine wpl_a S ?_; clear S a; intro a S)
      (refine wpl_p S ?_; clear S a; intro a S)
      (refine wpList_nil (hKq7 _ _ ?_); try clear hKq7 Kq7)
      refine wp_region_lit ?_
      (refine wpl_p S ?_; clear S a; intro a S)
      (refine wpl_a S ?_; clear S a; intro a S)
      (refine wpl_p S ?_; clear S a; intro a S)
      refine wpList_nil ?_
      change ∃ m', _ ∧ _
      (rw [← hao] at S; refine ⟨L.len - (k + 1), by omega, k + 1, p + p9, s + wtV x.1 x.2, rfl, by omega, by omega, by omega, by omega, ?_⟩; refine S.keep ?_; repeat (first | exact trivial | refine ⟨rfl, ?_⟩))
    (skip; (try simp only [tq] at h))
    refine wp_exit ?_
    (refine hKq3 _ _ ?_; try (clear hKq3 Kq3))
    refine wp_sr fun Kq7 hKq7 => ?_
    iterate 2 (refine wpl_p S ?_; clear S a; intro a S)
    (refine wpList_nil (hKq7 _ _ ?_); try clear hKq7 Kq7)
    refine wp_ret (fin_ret S (results1 Tryz.results13 (RV.tmp S rfl)) ?_)
    (first | (have hz : wtL (L.drop k) = 0 := (by rw [Rose.drop_len (by omega)]; rfl); exact ⟨p, rfl, by omega, hpb⟩) | (exact ⟨p, rfl, by omega, hpb⟩))
  (intro h; clear S a; intro a S; (try simp only [tq] at h))
  iterate 2 (refine wpl_k S ?_; clear S a; intro a S)
  (refine wpl_p S ?_; clear S a; intro a S)
  (refine wpList_nil (hKq6 _ _ ?_); try clear hKq6 Kq6)
  refine wpc_false S rfl ?_
  refine wp_exit ?_
  (refine hKq3 _ _ ?_; try (clear hKq3 Kq3))
  refine wp_sr fun Kq7 hKq7 => ?_
  iterate 2 (refine wpl_p S ?_; clear S a; intro a S)
  (refine wpList_nil (hKq7 _ _ ?_); try clear hKq7 Kq7)
  refine wp_ret (fin_ret S (results1 Tryz.results13 (RV.tmp S rfl)) ?_)
  (first | (have hz : wtL (L.drop k) = 0 := (by rw [Rose.drop_len (by omega)]; rfl); exact ⟨p, rfl, by omega, hpb⟩) | (exact ⟨p, rfl, by omega, hpb⟩))
end Go.Proofs.YtoaodbclgeeaeaaGreatDoor
