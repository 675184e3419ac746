/- Walks: how two values stand. -/
import Derived.Test.YtigblodhdfnleaaGreatDoorFz
import Derived.Test.YtigblodhdfnleaaGreatDoorWk16
import Derived.Test.YtigblodhdfnleaaGreatDoorOps
namespace Go.Proofs.YtigblodhdfnleaaGreatDoor
open Go Go.Wk Go.Un Go.De Go.Num
set_option linter.unusedSimpArgs false
set_option linter.unusedVariables false
attribute [local irreducible] Go.wpList Go.Code.wp Go.wpStill Go.Wk.wpPre Go.bodyPost Go.Calls Go.Wk.Ct Go.Wk.OwnS
attribute [local irreducible] Go.Wk.wpG Go.Wk.wpM

theorem isNaN3 (x : Int) (F : Heap) : Ct Tryz.prog 187 [.int .u8 x] F [] (fun _ _ u => u = .bool false) := by
  refine Ct.enter Tryz.func187 rfl Tryz.ntmps187 rfl fun w0 a S => ?_
  refine wp_sr fun Kq1 hKq1 => ?_
  (refine wpl_p S rfl rfl rfl ?_; clear S a; intro a S)
  (refine wpList_nil (hKq1 _ _ (wp_sr fun Kq2 hKq2 => ?_)); try clear hKq1 Kq1)
  iterate 4 (refine wpl_p S rfl rfl rfl ?_; clear S a; intro a S)
  (refine wpList_nil (hKq2 _ _ ?_); try clear hKq2 Kq2)
  refine wp_ret (fin_ret S (results1 Tryz.results187 (RV.tmp S rfl)) ?_)
  (simp)
theorem isNaN4 (s : List UInt8) (F : Heap) : Ct Tryz.prog 188 [.string (bs s)] F [] (fun _ _ u => u = .bool false) := by
  refine Ct.enter Tryz.func188 rfl Tryz.ntmps188 rfl fun w0 a S => ?_
  refine wp_sr fun Kq1 hKq1 => ?_
  (refine wpl_p S rfl rfl rfl ?_; clear S a; intro a S)
  (refine wpList_nil (hKq1 _ _ (wp_sr fun Kq2 hKq2 => ?_)); try clear hKq1 Kq1)
  iterate 4 (refine wpl_p S rfl rfl rfl ?_; clear S a; intro a S)
  (refine wpList_nil (hKq2 _ _ ?_); try clear hKq2 Kq2)
  refine wp_ret (fin_ret S (results1 Tryz.results188 (RV.tmp S rfl)) ?_)
  (simp)
theorem compare3 (x y : Int) (F : Heap) : Ct Tryz.prog 171 [.int .u8 x, .int .u8 y] F [] (fun _ _ u => u = .int .i64 (cmpI x y)) := by
  refine Ct.enter Tryz.func171 rfl Tryz.ntmps171 rfl fun w0 a S => ?_
  refine wp_sr fun Kq1 hKq1 => ?_
  (refine wpl_p S rfl rfl rfl ?_; clear S a; intro a S)
  (refine wpList_nil (hKq1 _ _ (wp_sr fun Kq2 hKq2 => ?_)); try clear hKq1 Kq1)
  (refine wpl_p S rfl rfl rfl ?_; clear S a; intro a S)
  (refine wpl_call0 S rfl rfl rfl rfl rfl rfl (isNaN3 _ F) rfl ?_; clear S a; intro v a w hv S; subst hv)
  (refine wpl_p S rfl rfl rfl ?_; clear S a; intro a S)
  (refine wpList_nil (hKq2 _ _ (wp_sr fun Kq3 hKq3 => ?_)); try clear hKq2 Kq2)
  (refine wpl_p S rfl rfl rfl ?_; clear S a; intro a S)
  (refine wpl_call0 S rfl rfl rfl rfl rfl rfl (isNaN3 _ F) rfl ?_; clear S a; intro v a w hv S; subst hv)
  (refine wpl_p S rfl rfl rfl ?_; clear S a; intro a S)
  (refine wpList_nil (hKq3 _ _ (wp_seq_k fun Kq4 hKq4 => ?_)); try clear hKq3 Kq3)
  refine wp_sr fun Kq5 hKq5 => ?_
  (refine wpl_p S rfl rfl rfl ?_; clear S a; intro a S)
  (refine wpList_nil (hKq5 _ _ ?_); try clear hKq5 Kq5)
  refine wpc_split S rfl (fun h => ?_) (fun h => ?_)
  · (skip; (try simp only [tq] at h); cases h)
  (skip; (try simp only [tq] at h))
  refine wp_skip ?_
  (refine hKq4 _ _ ?_; try (clear hKq4 Kq4))
  (refine wp_seq_k ?_; intro Kq6 hKq6)
  refine wp_sr fun Kq7 hKq7 => ?_
  (refine wpl_p S rfl rfl rfl ?_; clear S a; intro a S)
  (refine wpList_nil (hKq7 _ _ ?_); try clear hKq7 Kq7)
  refine wpc_split S rfl (fun h => ?_) (fun h => ?_)
  · (skip; (try simp only [tq] at h); cases h)
  (skip; (try simp only [tq] at h))
  refine wp_skip ?_
  (refine hKq6 _ _ ?_; try (clear hKq6 Kq6))
  (refine wp_seq_k ?_; intro Kq8 hKq8)
  refine wp_sr fun Kq9 hKq9 => ?_
  iterate 3 (refine wpl_p S rfl rfl rfl ?_; clear S a; intro a S)
  (refine wpList_nil (hKq9 _ _ ?_); try clear hKq9 Kq9)
  refine wpc_split S rfl (fun h => ?_) (fun h => ?_)
  · (skip; (try simp only [tq] at h))
    refine wp_sr fun Kq10 hKq10 => ?_
    (refine wpl_p S rfl rfl rfl ?_; clear S a; intro a S)
    (refine wpList_nil (hKq10 _ _ ?_); try clear hKq10 Kq10)
    refine wp_ret (fin_ret S (results1 Tryz.results171 (RV.tmp S rfl)) ?_)
    (unfold cmpI; (repeat (first | rw [if_pos (by assumption)] | rw [if_neg (by omega)])))
  (skip; (try simp only [tq] at h))
  refine wp_skip ?_
  (refine hKq8 _ _ ?_; try (clear hKq8 Kq8))
  (refine wp_seq_k ?_; intro Kq10 hKq10)
  refine wp_sr fun Kq11 hKq11 => ?_
  iterate 3 (refine wpl_p S rfl rfl rfl ?_; clear S a; intro a S)
  (refine wpList_nil (hKq11 _ _ ?_); try clear hKq11 Kq11)
  refine wpc_split S rfl (fun h => ?_) (fun h => ?_)
  · (skip; (try simp only [tq] at h))
    refine wp_sr fun Kq12 hKq12 => ?_
    (refine wpl_p S rfl rfl rfl ?_; clear S a; intro a S)
    (refine wpList_nil (hKq12 _ _ ?_); try clear hKq12 Kq12)
    refine wp_ret (fin_ret S (results1 Tryz.results171 (RV.tmp S rfl)) ?_)
    (unfold cmpI; (repeat (first | rw [if_pos (by assumption)] | rw [if_neg (by omega)])))
  (skip; (try simp only [tq] at h))
  refine wp_skip ?_
  (refine hKq10 _ _ ?_; try (clear hKq10 Kq10))
  refine wp_sr fun Kq12 hKq12 => ?_
  (refine wpl_p S rfl rfl rfl ?_; clear S a; intro a S)
  (refine wpList_nil (hKq12 _ _ ?_); try clear hKq12 Kq12)
  refine wp_ret (fin_ret S (results1 Tryz.results171 (RV.tmp S rfl)) ?_)
  (unfold cmpI; (repeat (first | rw [if_pos (by assumption)] | rw [if_neg (by omega)])))
theorem compare4 (s t : List UInt8) (F : Heap) : Ct Tryz.prog 173 [.string (bs s), .string (bs t)] F [] (fun _ _ u => u = .int .i64 (cS s t)) := by
  refine Ct.enter Tryz.func173 rfl Tryz.ntmps173 rfl fun w0 a S => ?_
  refine wp_sr fun Kq1 hKq1 => ?_
  (refine wpl_p S rfl rfl rfl ?_; clear S a; intro a S)
  (refine wpList_nil (hKq1 _ _ (wp_sr fun Kq2 hKq2 => ?_)); try clear hKq1 Kq1)
  (refine wpl_p S rfl rfl rfl ?_; clear S a; intro a S)
  (refine wpl_call0 S rfl rfl rfl rfl rfl rfl (isNaN4 _ F) rfl ?_; clear S a; intro v a w hv S; subst hv)
  (refine wpl_p S rfl rfl rfl ?_; clear S a; intro a S)
  (refine wpList_nil (hKq2 _ _ (wp_sr fun Kq3 hKq3 => ?_)); try clear hKq2 Kq2)
  (refine wpl_p S rfl rfl rfl ?_; clear S a; intro a S)
  (refine wpl_call0 S rfl rfl rfl rfl rfl rfl (isNaN4 _ F) rfl ?_; clear S a; intro v a w hv S; subst hv)
  (refine wpl_p S rfl rfl rfl ?_; clear S a; intro a S)
  (refine wpList_nil (hKq3 _ _ (wp_seq_k fun Kq4 hKq4 => ?_)); try clear hKq3 Kq3)
  refine wp_sr fun Kq5 hKq5 => ?_
  (refine wpl_p S rfl rfl rfl ?_; clear S a; intro a S)
  (refine wpList_nil (hKq5 _ _ ?_); try clear hKq5 Kq5)
  refine wpc_split S rfl (fun h => ?_) (fun h => ?_)
  · (skip; (try simp only [tq] at h); cases h)
  (skip; (try simp only [tq] at h))
  refine wp_skip ?_
  (refine hKq4 _ _ ?_; try (clear hKq4 Kq4))
  (refine wp_seq_k ?_; intro Kq6 hKq6)
  refine wp_sr fun Kq7 hKq7 => ?_
  (refine wpl_p S rfl rfl rfl ?_; clear S a; intro a S)
  (refine wpList_nil (hKq7 _ _ ?_); try clear hKq7 Kq7)
  refine wpc_split S rfl (fun h => ?_) (fun h => ?_)
  · (skip; (try simp only [tq] at h); cases h)
  (skip; (try simp only [tq] at h))
  refine wp_skip ?_
  (refine hKq6 _ _ ?_; try (clear hKq6 Kq6))
  (refine wp_seq_k ?_; intro Kq8 hKq8)
  refine wp_sr fun Kq9 hKq9 => ?_
  iterate 3 (refine wpl_p S rfl rfl rfl ?_; clear S a; intro a S)
  (refine wpList_nil (hKq9 _ _ ?_); try clear hKq9 Kq9)
  refine wpc_split S rfl (fun h => ?_) (fun h => ?_)
  · (skip; (try simp only [tq] at h))
    refine wp_sr fun Kq10 hKq10 => ?_
    (refine wpl_p S rfl rfl rfl ?_; clear S a; intro a S)
    (refine wpList_nil (hKq10 _ _ ?_); try clear hKq10 Kq10)
    refine wp_ret (fin_ret S (results1 Tryz.results173 (RV.tmp S rfl)) ?_)
    (unfold cS; congr 1; simp_all)
  (skip; (try simp only [tq] at h))
  refine wp_skip ?_
  (refine hKq8 _ _ ?_; try (clear hKq8 Kq8))
  (refine wp_seq_k ?_; intro Kq10 hKq10)
  refine wp_sr fun Kq11 hKq11 => ?_
  iterate 2 (refine wpl_p S rfl rfl rfl ?_; clear S a; intro a S)
  (refine wpl_v S rfl rfl rfl (sv_gtrS S rfl rfl rfl) ?_; clear S a; intro a S)
  (refine wpList_nil (hKq11 _ _ ?_); try clear hKq11 Kq11)
  refine wpc_split S rfl (fun h => ?_) (fun h => ?_)
  · (skip; (try simp only [tq] at h))
    refine wp_sr fun Kq12 hKq12 => ?_
    (refine wpl_p S rfl rfl rfl ?_; clear S a; intro a S)
    (refine wpList_nil (hKq12 _ _ ?_); try clear hKq12 Kq12)
    refine wp_ret (fin_ret S (results1 Tryz.results173 (RV.tmp S rfl)) ?_)
    (unfold cS; congr 1; simp_all)
  (skip; (try simp only [tq] at h))
  refine wp_skip ?_
  (refine hKq10 _ _ ?_; try (clear hKq10 Kq10))
  refine wp_sr fun Kq12 hKq12 => ?_
  (refine wpl_p S rfl rfl rfl ?_; clear S a; intro a S)
  (refine wpList_nil (hKq12 _ _ ?_); try clear hKq12 Kq12)
  refine wp_ret (fin_ret S (results1 Tryz.results173 (RV.tmp S rfl)) ?_)
  (unfold cS; congr 1; simp_all)
def IntR (_ : Heap) (x : Int) (cs : List Value) : Prop := cs = [.int .i64 x]
theorem orN (F : Heap) (v : Value) (l : List Int) (hl : l.length ≤ 10) (h : LiM F 1 IntR v l) : Ct Tryz.prog 174 [v] F [] (fun _ _ u => u = .int .i64 (l.foldr or2 0)) := by
  obtain ⟨ao, cap, rfl, hcap, hpos⟩ := h
  refine Ct.enter Tryz.func174 rfl Tryz.ntmps174 rfl fun w0 a S => ?_
  refine wp_sr fun Kq1 hKq1 => ?_
  (refine wpl_p S rfl rfl rfl ?_; clear S a; intro a S)
  (refine wpList_nil (hKq1 _ _ (wp_sr fun Kq2 hKq2 => ?_)); try clear hKq1 Kq1)
  (refine wpl_p S rfl rfl rfl ?_; clear S a; intro a S)
  (refine wpList_nil (hKq2 _ _ (wp_seq_k fun Kq3 hKq3 => ?_)); try clear hKq2 Kq2)
  refine wp_sr fun Kq4 hKq4 => ?_
  (refine wpl_p S rfl rfl rfl ?_; clear S a; intro a S)
  (refine wpl_n S rfl rfl rfl ?_; clear S a; intro a S)
  (refine wpl_p S rfl rfl rfl ?_; clear S a; intro a S)
  (refine wpList_nil (hKq4 _ _ ?_); try clear hKq4 Kq4)
  refine wp_block ?_
  refine wpc_loop (fun m a w' => ∃ (k : Nat), m = l.length - k ∧ k ≤ l.length ∧ (l.drop k).foldr or2 0 = l.foldr or2 0 ∧ St 18 [(3, .int .i64 0), (6, .slice ao l.length cap), (7, .int .i64 l.length), (8, .int .i64 k)] w0 F [] F [] a w') ?_ ?_
  · (refine ⟨l.length, 0, by omega, Nat.zero_le _, rfl, ?_⟩; refine S.keep ?_; repeat (first | exact trivial | refine ⟨rfl, ?_⟩))
  (clear S; rintro m a w ⟨k, rfl, hkl, hfp, S⟩)
  refine wp_sr fun Kq5 hKq5 => ?_
  (refine wpl_p S rfl rfl rfl ?_; clear S a; intro a S)
  (refine wpList_nil (hKq5 _ _ (wp_seq_k fun Kq6 hKq6 => ?_)); try clear hKq5 Kq5)
  refine wpc_split S rfl (fun h => ?_) (fun h => ?_)
  · (skip; (try simp only [tq] at h))
    refine wp_skip ?_
    (refine hKq6 _ _ ?_; try (clear hKq6 Kq6))
    (refine wp_seq_k ?_; intro Kq7 hKq7)
    refine wp_block ?_
    (refine wp_seq_k ?_; intro Kq8 hKq8)
    (obtain ⟨b8, o8, rfl, x, cs1, hx, hc1, rfl⟩ := LiM.pos hpos (k := k) (by omega))
    refine wp_region_lit ?_
    (refine wpl_i S rfl rfl rfl ?_; clear S a; intro a S)
    (refine wpl_v S rfl rfl rfl (sv_loadF S rfl rfl (hc1 0 _ rfl)) ?_; clear S a; intro a S)
    (refine wpl_p S rfl rfl rfl ?_; clear S a; intro a S)
    (refine wpList_nil (hKq8 _ _ (wp_sr fun Kq9 hKq9 => ?_)); try clear hKq8 Kq8)
    iterate 3 (refine wpl_p S rfl rfl rfl ?_; clear S a; intro a S)
    (refine wpList_nil (hKq9 _ _ ?_); try clear hKq9 Kq9)
    refine wpc_split S rfl (fun h => ?_) (fun h => ?_)
    · (skip; (try simp only [tq] at h))
      refine wp_sr fun Kq10 hKq10 => ?_
      iterate 2 (refine wpl_p S rfl rfl rfl ?_; clear S a; intro a S)
      (refine wpList_nil (hKq10 _ _ ?_); try clear hKq10 Kq10)
      refine wp_ret (fin_ret S (results1 Tryz.results174 (RV.tmp S rfl)) ?_)
      (congr 1; rw [← hfp]; first | (rw [drop_at hx]; show _ = or2 x _; unfold or2; rw [if_pos (by omega)]; done) | (rw [List.drop_eq_nil_of_le (by omega)]; rfl) | trace_state)
    (skip; (try simp only [tq] at h))
    refine wp_skip ?_
    (refine hKq7 _ _ ?_; try (clear hKq7 Kq7))
    refine wp_region_lit ?_
    (refine wpl_a S rfl rfl rfl ?_; clear S a; intro a S)
    (refine wpl_p S rfl rfl rfl ?_; clear S a; intro a S)
    refine wpList_nil ?_
    change ∃ m', _ ∧ _
    (refine ⟨l.length - (k + 1), by omega, k + 1, rfl, by omega, ?_, ?_⟩; rotate_left 1; (refine S.keep ?_; repeat (first | exact trivial | refine ⟨rfl, ?_⟩)); rw [← hfp, drop_at hx]; show _ = or2 x _; unfold or2; rw [if_neg (by omega)])
  (skip; (try simp only [tq] at h))
  refine wp_exit ?_
  (refine hKq3 _ _ ?_; try (clear hKq3 Kq3))
  refine wp_sr fun Kq7 hKq7 => ?_
  iterate 2 (refine wpl_p S rfl rfl rfl ?_; clear S a; intro a S)
  (refine wpList_nil (hKq7 _ _ ?_); try clear hKq7 Kq7)
  refine wp_ret (fin_ret S (results1 Tryz.results174 (RV.tmp S rfl)) ?_)
  (congr 1; rw [← hfp]; first | (rw [drop_at hx]; show _ = or2 x _; unfold or2; rw [if_pos (by omega)]; done) | (rw [List.drop_eq_nil_of_le (by omega)]; rfl) | trace_state)
theorem hasP_dash (s : List UInt8) : hasP s [45] = decide (s.take 1 = [45]) := by
  unfold hasP
  cases s with
  | nil => rfl
  | cons c r => simp; rfl
theorem prefCt (F : Heap) (s : List UInt8) (hs : s.length ≤ 140737488355328) : Ct Tryz.prog 118 [.string (bs s), .string (bs [45])] F [] (fun _ _ u => u = .bool (decide (s.take 1 = [45]))) := by
  rw [← hasP_dash]
  refine Ct.enter Tryz.func118 rfl Tryz.ntmps118 rfl fun w0 a S => ?_
  refine wp_sr fun Kq1 hKq1 => ?_
  (refine wpl_p S rfl rfl rfl ?_; clear S a; intro a S)
  (refine wpList_nil (hKq1 _ _ (wp_sr fun Kq2 hKq2 => ?_)); try clear hKq1 Kq1)
  iterate 2 (refine wpl_p S rfl rfl rfl ?_; clear S a; intro a S)
  (refine wpl_call0 S rfl rfl rfl rfl rfl rfl (hasPrefixCt s [45] F hs (by decide)) rfl ?_; clear S a; intro v a w hv S; subst hv)
  (refine wpl_p S rfl rfl rfl ?_; clear S a; intro a S)
  (refine wpList_nil (hKq2 _ _ ?_); try clear hKq2 Kq2)
  exact wp_ret (fin_ret S (results1 Tryz.results118 (RV.tmp S rfl)) rfl)
theorem take1_len {s : List UInt8} (h : s.take 1 = [45]) : 1 ≤ s.length := by
  cases s with
  | nil => cases h
  | cons c r => simp
theorem lim2 {F : Heap} {b : Nat} {x y : Int} {e : TypeId} {R} (h : F b = some (.cells ⟨[.int .i64 x, .int .i64 y]⟩ e R)) : LiM F 1 IntR (.slice (some ⟨b, 0, none⟩) 2 2) [x, y] := by
  refine ⟨_, _, rfl, ⟨Nat.le_refl 2, show 2 ≤ _ by decide⟩, fun _ => ⟨b, 0, rfl, fun k z hz => ?_⟩⟩
  match k, hz with
  | 0, hz => cases hz; exact ⟨_, fun j u hj => ⟨_, _, _, h, by match j, hj with | 0, hj => exact hj⟩, rfl, rfl⟩
  | 1, hz => cases hz; exact ⟨_, fun j u hj => ⟨_, _, _, h, by match j, hj with | 0, hj => exact hj⟩, rfl, rfl⟩
theorem lim3 {F : Heap} {b : Nat} {x y z : Int} {e : TypeId} {R} (h : F b = some (.cells ⟨[.int .i64 x, .int .i64 y, .int .i64 z]⟩ e R)) : LiM F 1 IntR (.slice (some ⟨b, 0, none⟩) 3 3) [x, y, z] := by
  refine ⟨_, _, rfl, ⟨Nat.le_refl 3, show 3 ≤ _ by decide⟩, fun _ => ⟨b, 0, rfl, fun k z hz => ?_⟩⟩
  match k, hz with
  | 0, hz => cases hz; exact ⟨_, fun j u hj => ⟨_, _, _, h, by match j, hj with | 0, hj => exact hj⟩, rfl, rfl⟩
  | 1, hz => cases hz; exact ⟨_, fun j u hj => ⟨_, _, _, h, by match j, hj with | 0, hj => exact hj⟩, rfl, rfl⟩
  | 2, hz => cases hz; exact ⟨_, fun j u hj => ⟨_, _, _, h, by match j, hj with | 0, hj => exact hj⟩, rfl, rfl⟩
theorem or2_z (x : Int) : or2 x 0 = x := by unfold or2; split <;> omega
set_option maxHeartbeats 4000000 in
theorem bigsCt : ∀ (n : Nat) (F : Heap) (s t : List UInt8), s.length + t.length < n → s.length ≤ 140737488355328 → t.length ≤ 140737488355328 → Ct Tryz.prog 172 [.string (bs s), .string (bs t)] F [] (fun _ _ u => u = .int .i64 (bigC n s t)) := by
  intro n
  induction n with
  | zero => intro F s t h; omega
  | succ n ih =>
  intro F s t hn hs ht
  have hps := prefCt F s hs
  have hpt := prefCt F t ht
  refine Ct.enter Tryz.func172 rfl Tryz.ntmps172 rfl fun w0 a S => ?_
  refine wp_sr fun Kq1 hKq1 => ?_
  (refine wpl_p S rfl rfl rfl ?_; clear S a; intro a S)
  (refine wpList_nil (hKq1 _ _ (wp_sr fun Kq2 hKq2 => ?_)); try clear hKq1 Kq1)
  (refine wpl_p S rfl rfl rfl ?_; clear S a; intro a S)
  (refine wpl_call0 S rfl rfl rfl rfl rfl rfl hps rfl ?_; clear S a; intro v a w hv S; subst hv)
  (refine wpl_p S rfl rfl rfl ?_; clear S a; intro a S)
  (refine wpl_call0 S rfl rfl rfl rfl rfl rfl hpt rfl ?_; clear S a; intro v a w hv S; subst hv)
  iterate 2 (refine wpl_p S rfl rfl rfl ?_; clear S a; intro a S)
  (refine wpList_nil (hKq2 _ _ (wp_seq_k fun Kq3 hKq3 => ?_)); try clear hKq2 Kq2)
  refine wp_block ?_
  refine wp_sr fun Kq4 hKq4 => ?_
  iterate 2 (refine wpl_p S rfl rfl rfl ?_; clear S a; intro a S)
  refine wpl_guard S rfl rfl rfl rfl rfl ?_ ?_
  · (intro h S'; clear S; have S := S'; clear S'; (try simp only [tq] at h))
    iterate 3 (refine wpl_p S rfl rfl rfl ?_; clear S a; intro a S)
    (refine wpList_nil (hKq4 _ _ ?_); try clear hKq4 Kq4)
    refine wpc_split S rfl (fun h => ?_) (fun h => ?_)
    · (skip; (try simp only [tq] at h))
      (refine wp_seq_k ?_; intro Kq5 hKq5)
      (have l1 := take1_len (by assumption : s.take 1 = [45]); have l2 := take1_len (by assumption : t.take 1 = [45]))
      (refine wpc_mixM [0, 1, 2, 3] [] [] (.one 0 (.one 1 (.one 2 (.one 3 (.one 4 (.one 5 .nil)))))) [] S mixed (by kernel_rfl) ?_; clear S; intro w S)
      (refine wpm_p S rfl rfl rfl (want_none _ rfl) rfl rfl ?_; clear S a; intro a S)
      (refine wpm_v S rfl rfl rfl (want_none _ rfl) rfl rfl (fun w' S => sv_sliceS_lo S rfl rfl rfl (by first | omega | (simp only [List.length_append, List.length_cons, List.length_nil]; omega))) ?_; clear S a; intro a S)
      (refine wpm_p S rfl rfl rfl (want_none _ rfl) rfl rfl ?_; clear S a; intro a S)
      (refine wpm_v S rfl rfl rfl (want_none _ rfl) rfl rfl (fun w' S => sv_sliceS_lo S rfl rfl rfl (by first | omega | (simp only [List.length_append, List.length_cons, List.length_nil]; omega))) ?_; clear S a; intro a S)
      refine wpm_eff rfl rfl (kwa S) ?_
      (refine wpl_call0 S rfl rfl rfl rfl rfl rfl (ih F (t.drop 1) (s.drop 1) (by simp; omega) (by simp; omega) (by simp; omega)) rfl ?_; clear S a; intro v a w hv S; subst hv)
      refine wpList_nil ?_
      refine wpm_eff rfl rfl (kwa S) ?_
      (refine wpl_p S rfl rfl rfl ?_; clear S a; intro a S)
      refine wpList_nil ?_
      (refine wpm_nil (kwa S) (hKq5 _ _ ?_); try clear hKq5 Kq5)
      refine wp_ret (fin_ret S (results1 Tryz.results172 (RV.tmp S rfl)) ?_)
      (congr 1; show _ = (if s.take 1 = [45] ∧ t.take 1 = [45] then bigC n (t.drop 1) (s.drop 1) else if s.take 1 = [45] then -1 else if t.take 1 = [45] then 1 else or2 (cI s.length t.length) (cS s t)); first | (rw [if_pos (show s.take 1 = [45] ∧ t.take 1 = [45] from ⟨by assumption, by assumption⟩)]; done) | (rw [if_neg (by simp_all), if_pos (by assumption)]; done) | (rw [if_neg (by simp_all), if_neg (by simp_all), if_pos (by assumption)]; done) | (rw [if_neg (by simp_all), if_neg (by simp_all), if_neg (by simp_all)]; show or2 _ (or2 _ 0) = _; rw [or2_z]; rfl) | trace_state)
    (skip; (try simp only [tq] at h))
    refine wp_sr fun Kq5 hKq5 => ?_
    iterate 2 (refine wpl_p S rfl rfl rfl ?_; clear S a; intro a S)
    (refine wpList_nil (hKq5 _ _ ?_); try clear hKq5 Kq5)
    refine wpc_split S rfl (fun h => ?_) (fun h => ?_)
    · (skip; (try simp only [tq] at h))
      refine wp_sr fun Kq6 hKq6 => ?_
      (refine wpl_p S rfl rfl rfl ?_; clear S a; intro a S)
      (refine wpList_nil (hKq6 _ _ ?_); try clear hKq6 Kq6)
      refine wp_ret (fin_ret S (results1 Tryz.results172 (RV.tmp S rfl)) ?_)
      (congr 1; show _ = (if s.take 1 = [45] ∧ t.take 1 = [45] then bigC n (t.drop 1) (s.drop 1) else if s.take 1 = [45] then -1 else if t.take 1 = [45] then 1 else or2 (cI s.length t.length) (cS s t)); first | (rw [if_pos (show s.take 1 = [45] ∧ t.take 1 = [45] from ⟨by assumption, by assumption⟩)]; done) | (rw [if_neg (by simp_all), if_pos (by assumption)]; done) | (rw [if_neg (by simp_all), if_neg (by simp_all), if_pos (by assumption)]; done) | (rw [if_neg (by simp_all), if_neg (by simp_all), if_neg (by simp_all)]; show or2 _ (or2 _ 0) = _; rw [or2_z]; rfl) | trace_state)
    (skip; (try simp only [tq] at h))
    refine wp_sr fun Kq6 hKq6 => ?_
    iterate 2 (refine wpl_p S rfl rfl rfl ?_; clear S a; intro a S)
    (refine wpList_nil (hKq6 _ _ ?_); try clear hKq6 Kq6)
    refine wpc_split S rfl (fun h => ?_) (fun h => ?_)
    · (skip; (try simp only [tq] at h))
      refine wp_sr fun Kq7 hKq7 => ?_
      (refine wpl_p S rfl rfl rfl ?_; clear S a; intro a S)
      (refine wpList_nil (hKq7 _ _ ?_); try clear hKq7 Kq7)
      refine wp_ret (fin_ret S (results1 Tryz.results172 (RV.tmp S rfl)) ?_)
      (congr 1; show _ = (if s.take 1 = [45] ∧ t.take 1 = [45] then bigC n (t.drop 1) (s.drop 1) else if s.take 1 = [45] then -1 else if t.take 1 = [45] then 1 else or2 (cI s.length t.length) (cS s t)); first | (rw [if_pos (show s.take 1 = [45] ∧ t.take 1 = [45] from ⟨by assumption, by assumption⟩)]; done) | (rw [if_neg (by simp_all), if_pos (by assumption)]; done) | (rw [if_neg (by simp_all), if_neg (by simp_all), if_pos (by assumption)]; done) | (rw [if_neg (by simp_all), if_neg (by simp_all), if_neg (by simp_all)]; show or2 _ (or2 _ 0) = _; rw [or2_z]; rfl) | trace_state)
    (skip; (try simp only [tq] at h))
    refine wp_skip ?_
    (refine hKq3 _ _ ?_; try (clear hKq3 Kq3))
    refine wp_sr fun Kq7 hKq7 => ?_
    (refine wpl_p S rfl rfl rfl ?_; clear S a; intro a S)
    (refine wpl_s S rfl rfl rfl ?_; clear S a; intro a S)
    (refine wpl_p S rfl rfl rfl ?_; clear S a; intro a S)
    (refine wpl_s S rfl rfl rfl ?_; clear S a; intro a S)
    (refine wpl_call0 S rfl rfl rfl rfl rfl rfl (compare1 _ _ F) rfl ?_; clear S a; intro v a w hv S; subst hv)
    iterate 2 (refine wpl_p S rfl rfl rfl ?_; clear S a; intro a S)
    (refine wpl_call0 S rfl rfl rfl rfl rfl rfl (compare4 s t F) rfl ?_; clear S a; intro v a w hv S; subst hv)
    (refine wpl_buildSlice S rfl rfl rfl rfl rfl rfl (by rfl) (by simp [Value.cells, splice, splice]) rfl (by rfl) (by rfl) ?_; clear S a; intro b33 a w hown S)
    (replace S := St.pullB b33 S; have S' := frz1 S; clear S; obtain ⟨F5, hle5, hb33, S⟩ := S'; refine wpl_call0 S rfl rfl rfl rfl rfl rfl (orN F5 _ [cmpI s.length t.length, cS s t] (show 2 ≤ 10 by decide) (lim2 hb33)) rfl ?_; clear S a; intro v a w hv S; subst hv)
    (refine wpl_p S rfl rfl rfl ?_; clear S a; intro a S)
    (refine wpList_nil (hKq7 _ _ ?_); try clear hKq7 Kq7)
    refine wp_ret (fin_ret S (results1 Tryz.results172 (RV.tmp S rfl)) ?_)
    (congr 1; show _ = (if s.take 1 = [45] ∧ t.take 1 = [45] then bigC n (t.drop 1) (s.drop 1) else if s.take 1 = [45] then -1 else if t.take 1 = [45] then 1 else or2 (cI s.length t.length) (cS s t)); first | (rw [if_pos (show s.take 1 = [45] ∧ t.take 1 = [45] from ⟨by assumption, by assumption⟩)]; done) | (rw [if_neg (by simp_all), if_pos (by assumption)]; done) | (rw [if_neg (by simp_all), if_neg (by simp_all), if_pos (by assumption)]; done) | (rw [if_neg (by simp_all), if_neg (by simp_all), if_neg (by simp_all)]; show or2 _ (or2 _ 0) = _; rw [or2_z]; rfl) | trace_state)
  (intro h; clear S a; intro a S; (try simp only [tq] at h))
  iterate 2 (refine wpl_p S rfl rfl rfl ?_; clear S a; intro a S)
  (refine wpList_nil (hKq4 _ _ ?_); try clear hKq4 Kq4)
  refine wpc_false S rfl ?_
  refine wp_sr fun Kq5 hKq5 => ?_
  iterate 2 (refine wpl_p S rfl rfl rfl ?_; clear S a; intro a S)
  (refine wpList_nil (hKq5 _ _ ?_); try clear hKq5 Kq5)
  refine wpc_split S rfl (fun h => ?_) (fun h => ?_)
  · (skip; (try simp only [tq] at h))
    refine wp_sr fun Kq6 hKq6 => ?_
    (refine wpl_p S rfl rfl rfl ?_; clear S a; intro a S)
    (refine wpList_nil (hKq6 _ _ ?_); try clear hKq6 Kq6)
    refine wp_ret (fin_ret S (results1 Tryz.results172 (RV.tmp S rfl)) ?_)
    (congr 1; show _ = (if s.take 1 = [45] ∧ t.take 1 = [45] then bigC n (t.drop 1) (s.drop 1) else if s.take 1 = [45] then -1 else if t.take 1 = [45] then 1 else or2 (cI s.length t.length) (cS s t)); first | (rw [if_pos (show s.take 1 = [45] ∧ t.take 1 = [45] from ⟨by assumption, by assumption⟩)]; done) | (rw [if_neg (by simp_all), if_pos (by assumption)]; done) | (rw [if_neg (by simp_all), if_neg (by simp_all), if_pos (by assumption)]; done) | (rw [if_neg (by simp_all), if_neg (by simp_all), if_neg (by simp_all)]; show or2 _ (or2 _ 0) = _; rw [or2_z]; rfl) | trace_state)
  (skip; (try simp only [tq] at h))
  refine wp_sr fun Kq6 hKq6 => ?_
  iterate 2 (refine wpl_p S rfl rfl rfl ?_; clear S a; intro a S)
  (refine wpList_nil (hKq6 _ _ ?_); try clear hKq6 Kq6)
  refine wpc_split S rfl (fun h => ?_) (fun h => ?_)
  · (skip; (try simp only [tq] at h))
    refine wp_sr fun Kq7 hKq7 => ?_
    (refine wpl_p S rfl rfl rfl ?_; clear S a; intro a S)
    (refine wpList_nil (hKq7 _ _ ?_); try clear hKq7 Kq7)
    refine wp_ret (fin_ret S (results1 Tryz.results172 (RV.tmp S rfl)) ?_)
    (congr 1; show _ = (if s.take 1 = [45] ∧ t.take 1 = [45] then bigC n (t.drop 1) (s.drop 1) else if s.take 1 = [45] then -1 else if t.take 1 = [45] then 1 else or2 (cI s.length t.length) (cS s t)); first | (rw [if_pos (show s.take 1 = [45] ∧ t.take 1 = [45] from ⟨by assumption, by assumption⟩)]; done) | (rw [if_neg (by simp_all), if_pos (by assumption)]; done) | (rw [if_neg (by simp_all), if_neg (by simp_all), if_pos (by assumption)]; done) | (rw [if_neg (by simp_all), if_neg (by simp_all), if_neg (by simp_all)]; show or2 _ (or2 _ 0) = _; rw [or2_z]; rfl) | trace_state)
  (skip; (try simp only [tq] at h))
  refine wp_skip ?_
  (refine hKq3 _ _ ?_; try (clear hKq3 Kq3))
  refine wp_sr fun Kq7 hKq7 => ?_
  (refine wpl_p S rfl rfl rfl ?_; clear S a; intro a S)
  (refine wpl_s S rfl rfl rfl ?_; clear S a; intro a S)
  (refine wpl_p S rfl rfl rfl ?_; clear S a; intro a S)
  (refine wpl_s S rfl rfl rfl ?_; clear S a; intro a S)
  (refine wpl_call0 S rfl rfl rfl rfl rfl rfl (compare1 _ _ F) rfl ?_; clear S a; intro v a w hv S; subst hv)
  iterate 2 (refine wpl_p S rfl rfl rfl ?_; clear S a; intro a S)
  (refine wpl_call0 S rfl rfl rfl rfl rfl rfl (compare4 s t F) rfl ?_; clear S a; intro v a w hv S; subst hv)
  (refine wpl_buildSlice S rfl rfl rfl rfl rfl rfl (by rfl) (by simp [Value.cells, splice, splice]) rfl (by rfl) (by rfl) ?_; clear S a; intro b33 a w hown S)
  (replace S := St.pullB b33 S; have S' := frz1 S; clear S; obtain ⟨F5, hle5, hb33, S⟩ := S'; refine wpl_call0 S rfl rfl rfl rfl rfl rfl (orN F5 _ [cmpI s.length t.length, cS s t] (show 2 ≤ 10 by decide) (lim2 hb33)) rfl ?_; clear S a; intro v a w hv S; subst hv)
  (refine wpl_p S rfl rfl rfl ?_; clear S a; intro a S)
  (refine wpList_nil (hKq7 _ _ ?_); try clear hKq7 Kq7)
  refine wp_ret (fin_ret S (results1 Tryz.results172 (RV.tmp S rfl)) ?_)
  (congr 1; show _ = (if s.take 1 = [45] ∧ t.take 1 = [45] then bigC n (t.drop 1) (s.drop 1) else if s.take 1 = [45] then -1 else if t.take 1 = [45] then 1 else or2 (cI s.length t.length) (cS s t)); first | (rw [if_pos (show s.take 1 = [45] ∧ t.take 1 = [45] from ⟨by assumption, by assumption⟩)]; done) | (rw [if_neg (by simp_all), if_pos (by assumption)]; done) | (rw [if_neg (by simp_all), if_neg (by simp_all), if_pos (by assumption)]; done) | (rw [if_neg (by simp_all), if_neg (by simp_all), if_neg (by simp_all)]; show or2 _ (or2 _ 0) = _; rw [or2_z]; rfl) | trace_state)
/-! ### rows -/
def CmpC (n : Nat) : Prop := ∀ (F : Heap) (h : VH) (L : Vf) (h2 : VH) (L2 : Vf) (cs cs2 : List Value), L.size < n → VaC F cs h L → VaC F cs2 h2 L2 → Ct Tryz.prog 153 [.agg ⟨cs⟩, .agg ⟨cs2⟩] F [] (fun _ _ u => u = .int .i64 (cmpH h L h2 L2))
theorem rows1Ct {n : Nat} (hC : CmpC n) (F : Heap) (h : VH) (L : Vf) (h2 : VH) (L2 : Vf) (cs cs2 : List Value) (hn : L.size < n) (hV : VaC F cs h L) (hV2 : VaC F cs2 h2 L2) : Ct Tryz.prog 152 [.agg ⟨cs⟩, .agg ⟨cs2⟩] F [] (fun _ _ u => u = .int .i64 (cmpH h L h2 L2)) := by
  have hc := hC F h L h2 L2 cs cs2 hn hV hV2
  obtain ⟨v1, rfl, ⟨a1, c1, rfl, -⟩, -⟩ := hV
  obtain ⟨v2, rfl, ⟨a2, c2, rfl, -⟩, -⟩ := hV2
  refine Ct.enter Tryz.func152 rfl Tryz.ntmps152 rfl fun w0 a S => ?_
  refine wp_sr fun Kq1 hKq1 => ?_
  (refine wpl_box S rfl rfl rfl rfl rfl ?_; clear S a; intro b2 a w S)
  (refine wpl_box S rfl rfl rfl rfl rfl ?_; clear S a; intro b3 a w S)
  (refine wpl_p S rfl rfl rfl ?_; clear S a; intro a S)
  (refine wpList_nil (hKq1 _ _ (wp_sr fun Kq2 hKq2 => ?_)); try clear hKq1 Kq1)
  iterate 2 (refine wpl_l S rfl rfl rfl ?_; clear S a; intro a S)
  (refine wpl_call0 S rfl rfl rfl rfl rfl rfl (hc) rfl ?_; clear S a; intro v a w hv S; subst hv)
  (refine wpl_p S rfl rfl rfl ?_; clear S a; intro a S)
  (refine wpList_nil (hKq2 _ _ ?_); try clear hKq2 Kq2)
  exact wp_ret (fin_ret S (results1 Tryz.results152 (RV.tmp S rfl)) rfl)
theorem cmpL_drop {l m : Vf} {k : Nat} {x y : VH × Vf} (hx : l.get? k = some x) (hy : m.get? k = some y) : cmpL (l.drop k) (m.drop k) = or2 (cmpH x.1 x.2 y.1 y.2) (cmpL (l.drop (k + 1)) (m.drop (k + 1))) := by
  rw [Rose.drop_get hx, Rose.drop_get hy]; rfl
theorem cmpL_lend {l m : Vf} {k : Nat} {x : VH × Vf} (hx : l.get? k = some x) (hm : m.len ≤ k) : cmpL (l.drop k) (m.drop k) = 1 := by
  rw [Rose.drop_get hx, Rose.drop_len hm]; rfl
theorem cmpL_end {l m : Vf} {k : Nat} (hl : l.len ≤ k) : cmpL (l.drop k) (m.drop k) = if k < m.len then -1 else 0 := by
  rw [Rose.drop_len hl]
  by_cases hm : k < m.len
  · obtain ⟨y, hy⟩ := Rose.get_lt hm
    rw [Rose.drop_get hy, if_pos hm]; rfl
  · rw [Rose.drop_len (by omega), if_neg hm]; rfl
set_option maxHeartbeats 8000000 in
theorem cfCt {n : Nat} (hC : CmpC n) (F : Heap) (l m : Vf) (v u : Value) (hn : l.size ≤ n) (hv : TrS F 4 VhR v l) (hu : TrS F 4 VhR u m) : Ct Tryz.prog 151 [v, u, .func (.func 152) ⟨[]⟩ ⟨[]⟩] F [] (fun _ _ u => u = .int .i64 (cmpL l m)) := by
  obtain ⟨ao, cap, rfl, hcap, hpos⟩ := hv
  obtain ⟨ao2, cap2, rfl, hcap2, hpos2⟩ := hu
  refine Ct.enter Tryz.func151 rfl Tryz.ntmps151 rfl fun w0 a S => ?_
  refine wp_sr fun Kq1 hKq1 => ?_
  (refine wpl_p S rfl rfl rfl ?_; clear S a; intro a S)
  (refine wpList_nil (hKq1 _ _ (wp_seq_k fun Kq2 hKq2 => ?_)); try clear hKq1 Kq1)
  refine wp_sr fun Kq3 hKq3 => ?_
  (refine wpl_p S rfl rfl rfl ?_; clear S a; intro a S)
  (refine wpl_n S rfl rfl rfl ?_; clear S a; intro a S)
  (refine wpl_p S rfl rfl rfl ?_; clear S a; intro a S)
  (refine wpList_nil (hKq3 _ _ ?_); try clear hKq3 Kq3)
  refine wp_block ?_
  refine wpc_loop (fun q a w' => ∃ (k : Nat), q = l.len - k ∧ k ≤ l.len ∧ cmpL (l.drop k) (m.drop k) = cmpL l m ∧ St 39 [(0, .slice ao l.len cap), (1, .slice ao2 m.len cap2), (2, .func (.func 152) ⟨[]⟩ ⟨[]⟩), (11, .slice ao l.len cap), (12, .int .i64 l.len), (13, .int .i64 k)] w0 F [] F [] a w') ?_ ?_
  · (refine ⟨l.len, 0, by omega, Nat.zero_le _, rfl, ?_⟩; refine S.keep ?_; repeat (first | exact trivial | refine ⟨rfl, ?_⟩))
  (clear S; rintro q a w ⟨k, rfl, hkl, hfp, S⟩)
  refine wp_sr fun Kq4 hKq4 => ?_
  (refine wpl_p S rfl rfl rfl ?_; clear S a; intro a S)
  (refine wpList_nil (hKq4 _ _ (wp_seq_k fun Kq5 hKq5 => ?_)); try clear hKq4 Kq4)
  refine wpc_split S rfl (fun h => ?_) (fun h => ?_)
  · (skip; (try simp only [tq] at h))
    refine wp_skip ?_
    (refine hKq5 _ _ ?_; try (clear hKq5 Kq5))
    (refine wp_seq_k ?_; intro Kq6 hKq6)
    refine wp_block ?_
    (refine wp_seq_k ?_; intro Kq7 hKq7)
    (obtain ⟨b8, o8, hao, x, cs1, v1, hx, hc1, hw9, hT1⟩ := TrM.pos hpos (k := k) (by omega); rw [hao] at S; have hxs := Rose.size_get hx; have hT1c := hT1; obtain ⟨a91, c91, rfl, -⟩ := hT1c; have hw9c := hw9.1; subst hw9c; (simp only [List.cons_append, List.nil_append] at hc1))
    refine wp_region_lit ?_
    (refine wpl_p S rfl rfl rfl ?_; clear S a; intro a S)
    (refine wpl_i S rfl rfl rfl ?_; clear S a; intro a S)
    (refine wpl_l S rfl rfl rfl ?_; clear S a; intro a S)
    (refine wpl_alloc S rfl rfl rfl rfl ?_; clear S a; intro b8 a w S)
    (refine wpl_p S rfl rfl rfl ?_; clear S a; intro a S)
    (refine wpl_storeO S rfl rfl rfl rfl rfl (by rfl) (by simp [Value.cells, Value.oneCell', splice]) (by rfl) ?_; clear S; intro w S)
    (refine wpList_nil (hKq7 _ _ (wp_seq_k fun Kq8 hKq8 => ?_)); try clear hKq7 Kq7)
    refine wp_sr fun Kq9 hKq9 => ?_
    iterate 2 (refine wpl_p S rfl rfl rfl ?_; clear S a; intro a S)
    (refine wpl_n S rfl rfl rfl ?_; clear S a; intro a S)
    (refine wpl_p S rfl rfl rfl ?_; clear S a; intro a S)
    (refine wpList_nil (hKq9 _ _ ?_); try clear hKq9 Kq9)
    refine wpc_split S rfl (fun h => ?_) (fun h => ?_)
    · (skip; (try simp only [tq] at h))
      refine wp_sr fun Kq10 hKq10 => ?_
      (refine wpl_p S rfl rfl rfl ?_; clear S a; intro a S)
      (refine wpList_nil (hKq10 _ _ ?_); try clear hKq10 Kq10)
      refine wp_ret (fin_ret S (results1 Tryz.results151 (RV.tmp S rfl)) ?_)
      (congr 1; rw [← hfp]; first | (rw [cmpL_lend hx (by omega)]; done) | (rw [cmpL_drop hx hy]; unfold or2; rw [if_pos (by omega)]; done) | (rw [cmpL_end (by omega), if_pos (by omega)]; done) | (rw [cmpL_end (by omega), if_neg (by omega)]; done) | trace_state)
    (skip; (try simp only [tq] at h))
    refine wp_skip ?_
    (refine hKq8 _ _ ?_; try (clear hKq8 Kq8))
    (refine wp_seq_k ?_; intro Kq10 hKq10)
    (obtain ⟨b9, o9, hao2, y, cs2, v2, hy, hc2, hw8, hT2⟩ := TrM.pos hpos2 (k := k) (by omega); rw [hao2] at S; have hT2c := hT2; obtain ⟨a92, c92, rfl, -⟩ := hT2c; have hw8c := hw8.1; subst hw8c; (simp only [List.cons_append, List.nil_append] at hc2))
    refine wp_region_lit ?_
    iterate 2 (refine wpl_p S rfl rfl rfl ?_; clear S a; intro a S)
    (refine wpl_i S rfl rfl rfl ?_; clear S a; intro a S)
    (refine wpl_l S rfl rfl rfl ?_; clear S a; intro a S)
    (refine wpl_alloc S rfl rfl rfl rfl ?_; clear S a; intro b9 a w S)
    (refine wpl_storeO S rfl rfl rfl rfl rfl (by rfl) (by simp [Value.cells, Value.oneCell', splice]) (by rfl) ?_; clear S; intro w S)
    (refine wpList_nil (hKq10 _ _ (wp_sr fun Kq11 hKq11 => ?_)); try clear hKq10 Kq10)
    (refine wpl_p S rfl rfl rfl ?_; clear S a; intro a S)
    iterate 2 (refine wpl_l S rfl rfl rfl ?_; clear S a; intro a S)
    (refine wpl_call0 S rfl rfl rfl rfl rfl rfl (rows1Ct hC F x.1 x.2 y.1 y.2 _ _ (by omega) ⟨_, rfl, hT1, hw9.2⟩ ⟨_, rfl, hT2, hw8.2⟩) rfl ?_; clear S a; intro v a w hv S; subst hv)
    (refine wpl_p S rfl rfl rfl ?_; clear S a; intro a S)
    (refine wpList_nil (hKq11 _ _ (wp_sr fun Kq12 hKq12 => ?_)); try clear hKq11 Kq11)
    iterate 2 (refine wpl_p S rfl rfl rfl ?_; clear S a; intro a S)
    (refine wpList_nil (hKq12 _ _ ?_); try clear hKq12 Kq12)
    refine wpc_split S rfl (fun h => ?_) (fun h => ?_)
    · (skip; (try simp only [tq] at h))
      refine wp_sr fun Kq13 hKq13 => ?_
      iterate 2 (refine wpl_p S rfl rfl rfl ?_; clear S a; intro a S)
      (refine wpList_nil (hKq13 _ _ ?_); try clear hKq13 Kq13)
      refine wp_ret (fin_ret S (results1 Tryz.results151 (RV.tmp S rfl)) ?_)
      (congr 1; rw [← hfp]; first | (rw [cmpL_lend hx (by omega)]; done) | (rw [cmpL_drop hx hy]; unfold or2; rw [if_pos (by omega)]; done) | (rw [cmpL_end (by omega), if_pos (by omega)]; done) | (rw [cmpL_end (by omega), if_neg (by omega)]; done) | trace_state)
    (skip; (try simp only [tq] at h))
    refine wp_skip ?_
    (refine hKq6 _ _ ?_; try (clear hKq6 Kq6))
    refine wp_region_lit ?_
    (refine wpl_a S rfl rfl rfl ?_; clear S a; intro a S)
    (refine wpl_p S rfl rfl rfl ?_; clear S a; intro a S)
    refine wpList_nil ?_
    change ∃ m', _ ∧ _
    (rw [← hao, ← hao2] at S; replace S := S.drop1.drop1; refine ⟨l.len - (k + 1), by omega, k + 1, rfl, by omega, ?_, ?_⟩; rotate_left 1; (refine S.keep ?_; repeat (first | exact trivial | refine ⟨rfl, ?_⟩)); rw [← hfp, cmpL_drop hx hy]; unfold or2; rw [if_neg (by omega)])
  (skip; (try simp only [tq] at h))
  refine wp_exit ?_
  (refine hKq2 _ _ ?_; try (clear hKq2 Kq2))
  (refine wp_seq_k ?_; intro Kq6 hKq6)
  refine wp_sr fun Kq7 hKq7 => ?_
  (refine wpl_p S rfl rfl rfl ?_; clear S a; intro a S)
  (refine wpl_n S rfl rfl rfl ?_; clear S a; intro a S)
  (refine wpl_p S rfl rfl rfl ?_; clear S a; intro a S)
  (refine wpl_n S rfl rfl rfl ?_; clear S a; intro a S)
  (refine wpl_p S rfl rfl rfl ?_; clear S a; intro a S)
  (refine wpList_nil (hKq7 _ _ ?_); try clear hKq7 Kq7)
  refine wpc_split S rfl (fun h => ?_) (fun h => ?_)
  · (skip; (try simp only [tq] at h))
    refine wp_sr fun Kq8 hKq8 => ?_
    (refine wpl_p S rfl rfl rfl ?_; clear S a; intro a S)
    (refine wpList_nil (hKq8 _ _ ?_); try clear hKq8 Kq8)
    refine wp_ret (fin_ret S (results1 Tryz.results151 (RV.tmp S rfl)) ?_)
    (congr 1; rw [← hfp]; first | (rw [cmpL_lend hx (by omega)]; done) | (rw [cmpL_drop hx hy]; unfold or2; rw [if_pos (by omega)]; done) | (rw [cmpL_end (by omega), if_pos (by omega)]; done) | (rw [cmpL_end (by omega), if_neg (by omega)]; done) | trace_state)
  (skip; (try simp only [tq] at h))
  refine wp_skip ?_
  (refine hKq6 _ _ ?_; try (clear hKq6 Kq6))
  refine wp_sr fun Kq8 hKq8 => ?_
  (refine wpl_p S rfl rfl rfl ?_; clear S a; intro a S)
  (refine wpList_nil (hKq8 _ _ ?_); try clear hKq8 Kq8)
  refine wp_ret (fin_ret S (results1 Tryz.results151 (RV.tmp S rfl)) ?_)
  (congr 1; rw [← hfp]; first | (rw [cmpL_lend hx (by omega)]; done) | (rw [cmpL_drop hx hy]; unfold or2; rw [if_pos (by omega)]; done) | (rw [cmpL_end (by omega), if_pos (by omega)]; done) | (rw [cmpL_end (by omega), if_neg (by omega)]; done) | trace_state)
theorem rowsCt {n : Nat} (hC : CmpC n) (F : Heap) (l m : Vf) (v u : Value) (hn : l.size ≤ n) (hv : TrS F 4 VhR v l) (hu : TrS F 4 VhR u m) : Ct Tryz.prog 127 [v, u] F [] (fun _ _ u => u = .int .i64 (cmpL l m)) := by
  have hc := cfCt hC F l m v u hn hv hu
  obtain ⟨ao, cap, rfl, hcap, hpos⟩ := hv
  obtain ⟨ao2, cap2, rfl, hcap2, hpos2⟩ := hu
  refine Ct.enter Tryz.func127 rfl Tryz.ntmps127 rfl fun w0 a S => ?_
  refine wp_sr fun Kq1 hKq1 => ?_
  (refine wpl_p S rfl rfl rfl ?_; clear S a; intro a S)
  (refine wpList_nil (hKq1 _ _ (wp_sr fun Kq2 hKq2 => ?_)); try clear hKq1 Kq1)
  iterate 2 (refine wpl_p S rfl rfl rfl ?_; clear S a; intro a S)
  (refine wpl_call0 S rfl rfl rfl rfl rfl rfl (hc) rfl ?_; clear S a; intro v a w hv S; subst hv)
  (refine wpl_p S rfl rfl rfl ?_; clear S a; intro a S)
  (refine wpList_nil (hKq2 _ _ ?_); try clear hKq2 Kq2)
  exact wp_ret (fin_ret S (results1 Tryz.results127 (RV.tmp S rfl)) rfl)
theorem cmpI_ne {a b : Nat} : cmpI (a : Int) (b : Int) ≠ 0 ↔ a ≠ b := by unfold cmpI; split <;> (try split) <;> omega
set_option maxHeartbeats 8000000 in
theorem cmpCt : ∀ n, CmpC n := by
  intro n
  induction n with
  | zero => intro F h L h2 L2 cs cs2 hn; omega
  | succ n ih =>
  intro F vh L vh2 L2 cs cs2 hn hV hV2
  obtain ⟨v1, rfl, hT1, hs1⟩ := hV
  obtain ⟨v2, rfl, hT2, hs2⟩ := hV2
  have hr := rowsCt ih F L L2 v1 v2 (by omega) hT1 hT2
  obtain ⟨a1, c1, rfl, -⟩ := hT1
  obtain ⟨a2, c2, rfl, -⟩ := hT2
  refine Ct.enter Tryz.func153 rfl Tryz.ntmps153 rfl fun w0 a S => ?_
  refine wp_sr fun Kq1 hKq1 => ?_
  (refine wpl_box S rfl rfl rfl rfl rfl ?_; clear S a; intro b2 a w S)
  (refine wpl_box S rfl rfl rfl rfl rfl ?_; clear S a; intro b3 a w S)
  (refine wpl_p S rfl rfl rfl ?_; clear S a; intro a S)
  (refine wpList_nil (hKq1 _ _ (wp_seq_k fun Kq2 hKq2 => ?_)); try clear hKq1 Kq1)
  refine wp_sr fun Kq3 hKq3 => ?_
  (refine wpl_f S rfl rfl rfl ?_; clear S a; intro a S)
  (refine wpl_l S rfl rfl rfl ?_; clear S a; intro a S)
  (refine wpl_f S rfl rfl rfl ?_; clear S a; intro a S)
  (refine wpl_l S rfl rfl rfl ?_; clear S a; intro a S)
  (refine wpl_call0 S rfl rfl rfl rfl rfl rfl (compare3 _ _ F) rfl ?_; clear S a; intro v a w hv S; subst hv)
  (refine wpl_p S rfl rfl rfl ?_; clear S a; intro a S)
  (refine wpList_nil (hKq3 _ _ (wp_sr fun Kq4 hKq4 => ?_)); try clear hKq3 Kq3)
  iterate 2 (refine wpl_p S rfl rfl rfl ?_; clear S a; intro a S)
  (refine wpList_nil (hKq4 _ _ ?_); try clear hKq4 Kq4)
  refine wpc_split S rfl (fun h => ?_) (fun h => ?_)
  · (skip; (try simp only [tq] at h))
    refine wp_sr fun Kq5 hKq5 => ?_
    iterate 2 (refine wpl_p S rfl rfl rfl ?_; clear S a; intro a S)
    (refine wpList_nil (hKq5 _ _ ?_); try clear hKq5 Kq5)
    refine wp_ret (fin_ret S (results1 Tryz.results153 (RV.tmp S rfl)) ?_)
    (congr 1; unfold cmpH; first | (rw [if_pos (cmpI_ne.1 (by assumption))]; rfl) | (have hk : ¬ vh.k ≠ vh2.k := (fun h9 => absurd (cmpI_ne.2 h9) (by omega)); rw [if_neg hk]; first | (rw [if_pos (by omega)]; rfl) | (rw [if_neg (by omega), if_pos (by omega)]; done) | (rw [if_neg (by omega), if_neg (by omega)]; show or2 _ (or2 _ (or2 _ 0)) = _; rw [or2_z]; rfl)) | trace_state)
  (skip; (try simp only [tq] at h))
  refine wp_skip ?_
  (refine hKq2 _ _ ?_; try (clear hKq2 Kq2))
  (refine wp_seq_k ?_; intro Kq5 hKq5)
  refine wp_sr fun Kq6 hKq6 => ?_
  (refine wpl_f S rfl rfl rfl ?_; clear S a; intro a S)
  (refine wpl_l S rfl rfl rfl ?_; clear S a; intro a S)
  (refine wpList_nil (hKq6 _ _ ?_); try clear hKq6 Kq6)
  refine wp_block ?_
  refine wp_sr fun Kq7 hKq7 => ?_
  iterate 2 (refine wpl_p S rfl rfl rfl ?_; clear S a; intro a S)
  (refine wpList_nil (hKq7 _ _ ?_); try clear hKq7 Kq7)
  refine wpc_split S rfl (fun h => ?_) (fun h => ?_)
  · (skip; (try simp only [tq] at h))
    refine wp_sr fun Kq8 hKq8 => ?_
    (refine wpl_f S rfl rfl rfl ?_; clear S a; intro a S)
    (refine wpl_l S rfl rfl rfl ?_; clear S a; intro a S)
    (refine wpl_f S rfl rfl rfl ?_; clear S a; intro a S)
    (refine wpl_l S rfl rfl rfl ?_; clear S a; intro a S)
    (refine wpl_call0 S rfl rfl rfl rfl rfl rfl (bigsCt (vh.s.length + vh2.s.length + 1) F vh.s vh2.s (by omega) hs1 hs2) rfl ?_; clear S a; intro v a w hv S; subst hv)
    (refine wpl_p S rfl rfl rfl ?_; clear S a; intro a S)
    (refine wpList_nil (hKq8 _ _ ?_); try clear hKq8 Kq8)
    refine wp_ret (fin_ret S (results1 Tryz.results153 (RV.tmp S rfl)) ?_)
    (congr 1; unfold cmpH; first | (rw [if_pos (cmpI_ne.1 (by assumption))]; rfl) | (have hk : ¬ vh.k ≠ vh2.k := (fun h9 => absurd (cmpI_ne.2 h9) (by omega)); rw [if_neg hk]; first | (rw [if_pos (by omega)]; rfl) | (rw [if_neg (by omega), if_pos (by omega)]; done) | (rw [if_neg (by omega), if_neg (by omega)]; show or2 _ (or2 _ (or2 _ 0)) = _; rw [or2_z]; rfl)) | trace_state)
  (skip; (try simp only [tq] at h))
  refine wp_sr fun Kq8 hKq8 => ?_
  iterate 2 (refine wpl_p S rfl rfl rfl ?_; clear S a; intro a S)
  (refine wpList_nil (hKq8 _ _ ?_); try clear hKq8 Kq8)
  refine wpc_split S rfl (fun h => ?_) (fun h => ?_)
  · (skip; (try simp only [tq] at h))
    refine wp_sr fun Kq9 hKq9 => ?_
    (refine wpl_f S rfl rfl rfl ?_; clear S a; intro a S)
    (refine wpl_l S rfl rfl rfl ?_; clear S a; intro a S)
    (refine wpl_f S rfl rfl rfl ?_; clear S a; intro a S)
    (refine wpl_l S rfl rfl rfl ?_; clear S a; intro a S)
    (refine wpl_call0 S rfl rfl rfl rfl rfl rfl (compare4 vh.s vh2.s F) rfl ?_; clear S a; intro v a w hv S; subst hv)
    (refine wpl_p S rfl rfl rfl ?_; clear S a; intro a S)
    (refine wpList_nil (hKq9 _ _ ?_); try clear hKq9 Kq9)
    refine wp_ret (fin_ret S (results1 Tryz.results153 (RV.tmp S rfl)) ?_)
    (congr 1; unfold cmpH; first | (rw [if_pos (cmpI_ne.1 (by assumption))]; rfl) | (have hk : ¬ vh.k ≠ vh2.k := (fun h9 => absurd (cmpI_ne.2 h9) (by omega)); rw [if_neg hk]; first | (rw [if_pos (by omega)]; rfl) | (rw [if_neg (by omega), if_pos (by omega)]; done) | (rw [if_neg (by omega), if_neg (by omega)]; show or2 _ (or2 _ (or2 _ 0)) = _; rw [or2_z]; rfl)) | trace_state)
  (skip; (try simp only [tq] at h))
  refine wp_skip ?_
  (refine hKq5 _ _ ?_; try (clear hKq5 Kq5))
  (refine wp_seq_k ?_; intro Kq9 hKq9)
  (refine wpc_mixM [0, 1, 2, 3, 5, 6, 7, 8, 10, 11, 12, 13] [1, 3, 6, 8, 11, 13] [] (.one 0 (.one 1 (.one 2 (.one 3 (.one 5 (.one 6 (.one 7 (.one 8 (.one 10 (.one 11 (.one 12 (.one 13 (.one 4 (.one 9 (.one 14 (.one 15 (.one 16 (.one 17 .nil)))))))))))))))))) [b2, b3] S mixed (by kernel_rfl) ?_; clear S; intro w S)
  (refine wpm_f S rfl rfl rfl (want_none _ rfl) rfl rfl ?_; clear S a; intro a S)
  (refine wpm_o b2 S rfl rfl rfl (want_none _ rfl) rfl rfl ?_; clear S a; intro a S)
  (refine wpm_f S rfl rfl rfl (want_none _ rfl) rfl rfl ?_; clear S a; intro a S)
  (refine wpm_o b3 S rfl rfl rfl (want_none _ rfl) rfl rfl ?_; clear S a; intro a S)
  (refine wpm_f S rfl rfl rfl (want_none _ rfl) rfl rfl ?_; clear S a; intro a S)
  (refine wpm_o b2 S rfl rfl rfl (want_none _ rfl) rfl rfl ?_; clear S a; intro a S)
  (refine wpm_f S rfl rfl rfl (want_none _ rfl) rfl rfl ?_; clear S a; intro a S)
  (refine wpm_o b3 S rfl rfl rfl (want_none _ rfl) rfl rfl ?_; clear S a; intro a S)
  (refine wpm_f S rfl rfl rfl (want_none _ rfl) rfl rfl ?_; clear S a; intro a S)
  (refine wpm_o b2 S rfl rfl rfl (want_none _ rfl) rfl rfl ?_; clear S a; intro a S)
  (refine wpm_f S rfl rfl rfl (want_none _ rfl) rfl rfl ?_; clear S a; intro a S)
  (refine wpm_o b3 S rfl rfl rfl (want_none _ rfl) rfl rfl ?_; clear S a; intro a S)
  refine wpm_eff rfl rfl (kwa S) ?_
  (refine wpl_call0 S rfl rfl rfl rfl rfl rfl (compare2 _ _ F) rfl ?_; clear S a; intro v a w hv S; subst hv)
  refine wpList_nil ?_
  refine wpm_eff rfl rfl (kwa S) ?_
  (refine wpl_call0 S rfl rfl rfl rfl rfl rfl (compare4 vh.s vh2.s F) rfl ?_; clear S a; intro v a w hv S; subst hv)
  refine wpList_nil ?_
  refine wpm_eff rfl rfl (kwa S) ?_
  (refine wpl_call0 S rfl rfl rfl rfl rfl rfl (hr) rfl ?_; clear S a; intro v a w hv S; subst hv)
  refine wpList_nil ?_
  refine wpm_eff rfl rfl (kwa S) ?_
  (refine wpl_buildSlice S rfl rfl rfl rfl rfl rfl (by rfl) (by simp [Value.cells, splice, splice]) rfl (by rfl) (by rfl) ?_; clear S a; intro b45 a w hown S)
  refine wpList_nil ?_
  refine wpm_eff rfl rfl (kwa S) ?_
  (replace S := St.pullB b45 S; have S' := frz1 S; clear S; obtain ⟨F5, hle5, hb45, S⟩ := S'; refine wpl_call0 S rfl rfl rfl rfl rfl rfl (orN F5 _ [cmpI vh.n vh2.n, cS vh.s vh2.s, cmpL L L2] (show 3 ≤ 10 by decide) (lim3 hb45)) rfl ?_; clear S a; intro v a w hv S; subst hv)
  refine wpList_nil ?_
  refine wpm_eff rfl rfl (kwa S) ?_
  (refine wpl_p S rfl rfl rfl ?_; clear S a; intro a S)
  refine wpList_nil ?_
  (refine wpm_nil (kwa S) (hKq9 _ _ ?_); try clear hKq9 Kq9)
  refine wp_ret (fin_ret S (results1 Tryz.results153 (RV.tmp S rfl)) ?_)
  (congr 1; unfold cmpH; first | (rw [if_pos (cmpI_ne.1 (by assumption))]; rfl) | (have hk : ¬ vh.k ≠ vh2.k := (fun h9 => absurd (cmpI_ne.2 h9) (by omega)); rw [if_neg hk]; first | (rw [if_pos (by omega)]; rfl) | (rw [if_neg (by omega), if_pos (by omega)]; done) | (rw [if_neg (by omega), if_neg (by omega)]; show or2 _ (or2 _ (or2 _ 0)) = _; rw [or2_z]; rfl)) | trace_state)
/-! ### any values -/
theorem may1Ct (F : Heap) (h : VH) (L : Vf) (cs : List Value) (hb : L.size ≤ 1000000000) (hV : VaC F cs h L) : Ct Tryz.prog 150 [.agg ⟨cs⟩] F [] (fun _ _ u => u = .bool (!mayV (h, L))) := by
  have hc := checkVCt F h L cs hb hV
  obtain ⟨v1, rfl, ⟨a1, c1, rfl, -⟩, -⟩ := hV
  refine Ct.enter Tryz.func150 rfl Tryz.ntmps150 rfl fun w0 a S => ?_
  refine wp_sr fun Kq1 hKq1 => ?_
  (refine wpl_box S rfl rfl rfl rfl rfl ?_; clear S a; intro b1 a w S)
  (refine wpl_p S rfl rfl rfl ?_; clear S a; intro a S)
  (refine wpList_nil (hKq1 _ _ (wp_sr fun Kq2 hKq2 => ?_)); try clear hKq1 Kq1)
  (refine wpl_l S rfl rfl rfl ?_; clear S a; intro a S)
  (refine wpl_call0 S rfl rfl rfl rfl rfl rfl (hc) rfl ?_; clear S a; intro v a w hv S; subst hv)
  iterate 2 (refine wpl_p S rfl rfl rfl ?_; clear S a; intro a S)
  (refine wpList_nil (hKq2 _ _ ?_); try clear hKq2 Kq2)
  exact wp_ret (fin_ret S (results1 Tryz.results150 (RV.tmp S rfl)) rfl)
def mayL (l : Vf) : Bool := !anyR (fun h L => !mayV (h, L)) l
theorem mayLCt (F : Heap) (l : Vf) (v : Value) (hb : l.size ≤ 1000000000) (h : TrS F 4 VhR v l) : Ct Tryz.prog 125 [v] F [] (fun _ _ u => u = .bool (mayL l)) := by
  have hc := cfVCt F v l.len _ h.sq 150 [] [] (fun k => match l.get? k with | some x => !mayV x | none => false) (fun k cs hk ⟨x, c1, u, hx, hcs, hR, hT⟩ => by
    have hsz := Rose.size_get hx
    rw [hx]
    exact may1Ct F x.1 x.2 cs (by omega) (ror_vac ⟨c1, u, hcs, by rw [hR.1]; rfl, hR, hT⟩))
  rw [anyN_rose (q := fun h L => !mayV (h, L)) (fun k x hx => by rw [hx])] at hc
  obtain ⟨a1, c1, rfl, -⟩ := h
  refine Ct.enter Tryz.func125 rfl Tryz.ntmps125 rfl fun w0 a S => ?_
  refine wp_sr fun Kq1 hKq1 => ?_
  (refine wpl_p S rfl rfl rfl ?_; clear S a; intro a S)
  (refine wpList_nil (hKq1 _ _ (wp_sr fun Kq2 hKq2 => ?_)); try clear hKq1 Kq1)
  (refine wpl_p S rfl rfl rfl ?_; clear S a; intro a S)
  (refine wpl_call0 S rfl rfl rfl rfl rfl rfl (hc) rfl ?_; clear S a; intro v a w hv S; subst hv)
  iterate 2 (refine wpl_p S rfl rfl rfl ?_; clear S a; intro a S)
  (refine wpList_nil (hKq2 _ _ ?_); try clear hKq2 Kq2)
  exact wp_ret (fin_ret S (results1 Tryz.results125 (RV.tmp S rfl)) rfl)
theorem lastCt (F : Heap) (p q : Bool) : Ct Tryz.prog 126 [.bool p, .bool q] F [] (fun _ _ u => u = .int .i64 (if p = q then 0 else if p = true then -1 else 1)) := by
  refine Ct.enter Tryz.func126 rfl Tryz.ntmps126 rfl fun w0 a S => ?_
  refine wp_sr fun Kq1 hKq1 => ?_
  (refine wpl_p S rfl rfl rfl ?_; clear S a; intro a S)
  (refine wpList_nil (hKq1 _ _ (wp_seq_k fun Kq2 hKq2 => ?_)); try clear hKq1 Kq1)
  refine wp_block ?_
  refine wp_sr fun Kq3 hKq3 => ?_
  iterate 2 (refine wpl_p S rfl rfl rfl ?_; clear S a; intro a S)
  (refine wpl_s S rfl rfl rfl ?_; clear S a; intro a S)
  (refine wpl_p S rfl rfl rfl ?_; clear S a; intro a S)
  (refine wpList_nil (hKq3 _ _ ?_); try clear hKq3 Kq3)
  refine wpc_split S rfl (fun h => ?_) (fun h => ?_)
  · (skip; (try simp only [tq] at h))
    refine wp_sr fun Kq4 hKq4 => ?_
    (refine wpl_p S rfl rfl rfl ?_; clear S a; intro a S)
    (refine wpList_nil (hKq4 _ _ ?_); try clear hKq4 Kq4)
    refine wp_ret (fin_ret S (results1 Tryz.results126 (RV.tmp S rfl)) ?_)
    (first | (rw [if_pos (by assumption)]; done) | (rw [if_neg (by assumption), if_pos (by assumption)]; done) | (rw [if_neg (by assumption), if_neg (by simp_all)]; done) | trace_state)
  (skip; (try simp only [tq] at h))
  refine wp_sr fun Kq4 hKq4 => ?_
  iterate 2 (refine wpl_p S rfl rfl rfl ?_; clear S a; intro a S)
  (refine wpList_nil (hKq4 _ _ ?_); try clear hKq4 Kq4)
  refine wpc_split S rfl (fun h => ?_) (fun h => ?_)
  · (skip; (try simp only [tq] at h))
    refine wp_sr fun Kq5 hKq5 => ?_
    (refine wpl_p S rfl rfl rfl ?_; clear S a; intro a S)
    (refine wpList_nil (hKq5 _ _ ?_); try clear hKq5 Kq5)
    refine wp_ret (fin_ret S (results1 Tryz.results126 (RV.tmp S rfl)) ?_)
    (first | (rw [if_pos (by assumption)]; done) | (rw [if_neg (by assumption), if_pos (by assumption)]; done) | (rw [if_neg (by assumption), if_neg (by simp_all)]; done) | trace_state)
  (skip; (try simp only [tq] at h))
  refine wp_skip ?_
  (refine hKq2 _ _ ?_; try (clear hKq2 Kq2))
  refine wp_sr fun Kq5 hKq5 => ?_
  (refine wpl_p S rfl rfl rfl ?_; clear S a; intro a S)
  (refine wpList_nil (hKq5 _ _ ?_); try clear hKq5 Kq5)
  refine wp_ret (fin_ret S (results1 Tryz.results126 (RV.tmp S rfl)) ?_)
  (first | (rw [if_pos (by assumption)]; done) | (rw [if_neg (by assumption), if_pos (by assumption)]; done) | (rw [if_neg (by assumption), if_neg (by simp_all)]; done) | trace_state)
theorem cmpRowsCt (F : Heap) (l m : Vf) (v u : Value) (hb : l.size ≤ 1000000000) (hb2 : m.size ≤ 1000000000) (hv : TrS F 4 VhR v l) (hu : TrS F 4 VhR u m) : Ct Tryz.prog 105 [v, u] F [] (fun _ _ u => u = .int .i64 (if mayL l = true ∧ mayL m = true then cmpL l m else if mayL l = mayL m then 0 else if mayL l = true then -1 else 1)) := by
  have h1 := mayLCt F l v hb hv
  have h2 := mayLCt F m u hb2 hu
  have h3 := rowsCt (cmpCt l.size) F l m v u (Nat.le_refl _) hv hu
  obtain ⟨a1, c1, rfl, -⟩ := hv
  obtain ⟨a2, c2, rfl, -⟩ := hu
  refine Ct.enter Tryz.func105 rfl Tryz.ntmps105 rfl fun w0 a S => ?_
  refine wp_sr fun Kq1 hKq1 => ?_
  (refine wpl_p S rfl rfl rfl ?_; clear S a; intro a S)
  (refine wpList_nil (hKq1 _ _ (wp_seq_k fun Kq2 hKq2 => ?_)); try clear hKq1 Kq1)
  refine wp_sr fun Kq3 hKq3 => ?_
  (refine wpl_p S rfl rfl rfl ?_; clear S a; intro a S)
  (refine wpl_call0 S rfl rfl rfl rfl rfl rfl h1 rfl ?_; clear S a; intro v a w hv S; subst hv)
  (refine wpl_p S rfl rfl rfl ?_; clear S a; intro a S)
  (refine wpl_call0 S rfl rfl rfl rfl rfl rfl h2 rfl ?_; clear S a; intro v a w hv S; subst hv)
  iterate 2 (refine wpl_p S rfl rfl rfl ?_; clear S a; intro a S)
  (refine wpList_nil (hKq3 _ _ (wp_sr fun Kq4 hKq4 => ?_)); try clear hKq3 Kq3)
  iterate 3 (refine wpl_p S rfl rfl rfl ?_; clear S a; intro a S)
  refine wpl_guard S rfl rfl rfl rfl rfl ?_ ?_
  · (intro h S'; clear S; have S := S'; clear S'; (try simp only [tq] at h))
    (refine wpl_p S rfl rfl rfl ?_; clear S a; intro a S)
    refine wpl_take S rfl rfl rfl ?_
    iterate 2 (refine wpl_p S rfl rfl rfl ?_; clear S a; intro a S)
    (refine wpList_nil (hKq4 _ _ ?_); try clear hKq4 Kq4)
    refine wpc_split S rfl (fun h => ?_) (fun h => ?_)
    · (skip; (try simp only [tq] at h))
      refine wp_sr fun Kq5 hKq5 => ?_
      iterate 2 (refine wpl_p S rfl rfl rfl ?_; clear S a; intro a S)
      (refine wpl_call0 S rfl rfl rfl rfl rfl rfl (lastCt F _ _) rfl ?_; clear S a; intro v a w hv S; subst hv)
      (refine wpl_p S rfl rfl rfl ?_; clear S a; intro a S)
      (refine wpList_nil (hKq5 _ _ ?_); try clear hKq5 Kq5)
      refine wp_ret (fin_ret S (results1 Tryz.results105 (RV.tmp S rfl)) ?_)
      (congr 1; first | (rw [if_pos (show mayL l = true ∧ mayL m = true by simp_all)]; done) | (rw [if_neg (show ¬ (mayL l = true ∧ mayL m = true) by simp_all)]; done) | trace_state)
    (skip; (try simp only [tq] at h))
    refine wp_skip ?_
    (refine hKq2 _ _ ?_; try (clear hKq2 Kq2))
    refine wp_sr fun Kq5 hKq5 => ?_
    iterate 2 (refine wpl_p S rfl rfl rfl ?_; clear S a; intro a S)
    (refine wpl_call0 S rfl rfl rfl rfl rfl rfl (h3) rfl ?_; clear S a; intro v a w hv S; subst hv)
    (refine wpl_p S rfl rfl rfl ?_; clear S a; intro a S)
    (refine wpList_nil (hKq5 _ _ ?_); try clear hKq5 Kq5)
    refine wp_ret (fin_ret S (results1 Tryz.results105 (RV.tmp S rfl)) ?_)
    (congr 1; first | (rw [if_pos (show mayL l = true ∧ mayL m = true by simp_all)]; done) | (rw [if_neg (show ¬ (mayL l = true ∧ mayL m = true) by simp_all)]; done) | trace_state)
  (intro h; clear S a; intro a S; (try simp only [tq] at h))
  (refine wpl_skip S rfl rfl rfl rfl rfl ?_; clear S a; intro a S)
  (refine wpl_p S rfl rfl rfl ?_; clear S a; intro a S)
  (refine wpList_nil (hKq4 _ _ ?_); try clear hKq4 Kq4)
  refine wpc_true S rfl ?_
  refine wp_sr fun Kq5 hKq5 => ?_
  iterate 2 (refine wpl_p S rfl rfl rfl ?_; clear S a; intro a S)
  (refine wpl_call0 S rfl rfl rfl rfl rfl rfl (lastCt F _ _) rfl ?_; clear S a; intro v a w hv S; subst hv)
  (refine wpl_p S rfl rfl rfl ?_; clear S a; intro a S)
  (refine wpList_nil (hKq5 _ _ ?_); try clear hKq5 Kq5)
  refine wp_ret (fin_ret S (results1 Tryz.results105 (RV.tmp S rfl)) ?_)
  (congr 1; first | (rw [if_pos (show mayL l = true ∧ mayL m = true by simp_all)]; done) | (rw [if_neg (show ¬ (mayL l = true ∧ mayL m = true) by simp_all)]; done) | trace_state)
theorem mayL1 (h : VH) (L : Vf) : mayL (.cons h L .nil) = mayV (h, L) := by
  unfold mayL anyR anyR
  rw [Bool.or_false, Bool.not_not]
theorem cmpVCt (F : Heap) (x y : Vv) (cx cy : List Value) (hb : x.2.size ≤ 100000000) (hb2 : y.2.size ≤ 100000000) (hx : VaC F cx x.1 x.2) (hy : VaC F cy y.1 y.2) : Ct Tryz.prog 80 [.agg ⟨cx⟩, .agg ⟨cy⟩] F [] (fun _ _ u => u = .int .i64 (cmpV2 x y)) := by
  have ex := vac_ror hx
  have ey := vac_ror hy
  obtain ⟨v1, rfl, ⟨a1, c1, rfl, -⟩, -⟩ := hx
  obtain ⟨v2, rfl, ⟨a2, c2, rfl, -⟩, -⟩ := hy
  refine Ct.enter Tryz.func80 rfl Tryz.ntmps80 rfl fun w0 a S => ?_
  refine wp_sr fun Kq1 hKq1 => ?_
  (refine wpl_box S rfl rfl rfl rfl rfl ?_; clear S a; intro b2 a w S)
  (refine wpl_box S rfl rfl rfl rfl rfl ?_; clear S a; intro b3 a w S)
  (refine wpl_p S rfl rfl rfl ?_; clear S a; intro a S)
  (refine wpList_nil (hKq1 _ _ (wp_sr fun Kq2 hKq2 => ?_)); try clear hKq1 Kq1)
  (refine wpl_l S rfl rfl rfl ?_; clear S a; intro a S)
  (refine wpl_buildSlice S rfl rfl rfl rfl rfl rfl (by rfl) (by simp [Value.cells, splice, splice]) rfl (by rfl) (by rfl) ?_; clear S a; intro b6 a w hown S)
  (refine wpl_l S rfl rfl rfl ?_; clear S a; intro a S)
  (refine wpl_buildSlice S rfl rfl rfl rfl rfl rfl (by rfl) (by simp [Value.cells, splice, splice]) rfl (by rfl) (by rfl) ?_; clear S a; intro b8 a w hown S)
  (replace S := St.pullB b6 S; replace S := St.pullB b8 S; have S' := frzAll [(b8, _), (b6, _)] S; clear S; obtain ⟨F5, hle5, hbl, S⟩ := S'; have h6 := hbl _ (List.mem_cons_of_mem _ (List.mem_cons_self ..)); have h8 := hbl _ (List.mem_cons_self ..); have t6 : TrS F5 4 VhR (.slice (some ⟨b6, 0, none⟩) 1 1) (.cons x.1 x.2 .nil) := trs_lim (l := [x]) (lim_of (l := [x]) h6 (LiC.one rfl (Mon.h hle5 ex)) (show 1 ≤ _ by decide)); have t8 : TrS F5 4 VhR (.slice (some ⟨b8, 0, none⟩) 1 1) (.cons y.1 y.2 .nil) := trs_lim (l := [y]) (lim_of (l := [y]) h8 (LiC.one rfl (Mon.h hle5 ey)) (show 1 ≤ _ by decide)); refine wpl_call0 S rfl rfl rfl rfl rfl rfl (cmpRowsCt F5 _ _ _ _ (by simp only [Rose.size]; omega) (by simp only [Rose.size]; omega) t6 t8) rfl ?_; clear S a; intro v a w hv S; subst hv)
  (refine wpl_p S rfl rfl rfl ?_; clear S a; intro a S)
  (refine wpList_nil (hKq2 _ _ ?_); try clear hKq2 Kq2)
  refine wp_ret (fin_ret S (results1 Tryz.results80 (RV.tmp S rfl)) ?_)
  (congr 1; rw [mayL1, mayL1]; unfold cmpV2; rw [show cmpL (.cons x.1 x.2 .nil) (.cons y.1 y.2 .nil) = cmpH x.1 x.2 y.1 y.2 from or2_z _])
end Go.Proofs.YtigblodhdfnleaaGreatDoor
