/- Walks: within, open, depth, the functions of use, use. -/
import Derived.Test.YtoaodbclgeeaeaaGreatDoorDeB
namespace Go.Proofs.YtoaodbclgeeaeaaGreatDoor
open Go Go.Wk Go.Un Go.De
set_option linter.unusedSimpArgs false
set_option linter.unusedVariables false
attribute [local irreducible] Go.wpList Go.Code.wp Go.wpStill Go.Wk.wpPre Go.bodyPost Go.Calls Go.Wk.Ct Go.Wk.OwnS
attribute [local irreducible] Go.Wk.wpG Go.Wk.wpM

set_option maxHeartbeats 2000000 in
theorem indexTCt (F : Heap) (l : Fo) (v : Value) (h : SlF F v l) (fid : FuncId) (fi ca : List Value) [hfn : HasFn Tryz.prog fid] (p : Ty → Bool)
    (hcl : ∀ k x v1, l.get? k = some x → SlF F v1 x.2 → Ct Tryz.prog fid (fi ++ [.agg ⟨[.string (bs x.1), v1]⟩] ++ ca) F [] (fun _ _ u => u = .bool (p x))) :
    Ct Tryz.prog 86 [v, .func (.func fid) ⟨fi⟩ ⟨ca⟩] F [] (fun _ _ u => ∃ i : Int, u = .int .i64 i ∧ decide (0 ≤ i) = anyF p l) := by
  obtain ⟨ao, cap, rfl, hcap, hpos⟩ := h
  refine Ct.enter Tryz.func86 rfl Tryz.ntmps86 rfl fun w0 a S => ?_
  refine wp_sr fun Kq1 hKq1 => ?_
  (refine wpl_p S ?_; clear S a; intro a S)
  (refine wpList_nil (hKq1 _ _ (wp_seq_k fun Kq2 hKq2 => ?_)); try clear hKq1 Kq1)
  refine wp_sr fun Kq3 hKq3 => ?_
  (refine wpl_p S ?_; clear S a; intro a S)
  (refine wpl_n S ?_; clear S a; intro a S)
  (refine wpl_p S ?_; clear S a; intro a S)
  (refine wpList_nil (hKq3 _ _ ?_); try clear hKq3 Kq3)
  refine wp_block ?_
  refine wpc_loop (fun m a w' => ∃ (k : Nat), m = l.len - k ∧ k ≤ l.len ∧ anyF p l = anyF p (l.drop k) ∧ St 19 [(0, .slice ao l.len cap), (1, .func (.func fid) ⟨fi⟩ ⟨ca⟩), (7, .int .i64 l.len), (8, .int .i64 k)] w0 F [] F [] a w') ?_ ?_
  · (refine ⟨l.len, 0, by omega, Nat.zero_le _, rfl, ?_⟩; refine S.keep ?_; repeat (first | exact trivial | refine ⟨rfl, ?_⟩))
  (clear S; rintro m a w ⟨k, rfl, hkl, hfp, S⟩)
  refine wp_sr fun Kq4 hKq4 => ?_
  (refine wpl_p S ?_; clear S a; intro a S)
  (refine wpList_nil (hKq4 _ _ (wp_seq_k fun Kq5 hKq5 => ?_)); try clear hKq4 Kq4)
  refine wpc_split S rfl (fun h => ?_) (fun h => ?_)
  · (skip; (try simp only [tq] at h))
    refine wp_skip ?_
    (refine hKq5 _ _ ?_; try (clear hKq5 Kq5))
    (refine wp_seq_k ?_; intro Kq6 hKq6)
    refine wp_block ?_
    refine wp_sr fun Kq7 hKq7 => ?_
    iterate 2 (refine wpl_p S ?_; clear S a; intro a S)
    (refine wpList_nil (hKq7 _ _ (wp_seq_k fun Kq8 hKq8 => ?_)); try clear hKq7 Kq7)
    (obtain ⟨b8, o8, rfl, x, v1, hx, hc1, hT1⟩ := FoM.pos hpos (k := k) (by omega))
    refine wp_region_lit ?_
    iterate 3 (refine wpl_p S ?_; clear S a; intro a S)
    (refine wpl_i S ?_; clear S a; intro a S)
    (refine wpl_l S ?_; clear S a; intro a S)
    (refine wpl_c0 S (hcl k x v1 hx hT1) ?_; clear S a; intro v a w hv S; subst hv)
    (refine wpList_nil (hKq8 _ _ ?_); try clear hKq8 Kq8)
    refine wpc_split S rfl (fun h => ?_) (fun h => ?_)
    · (skip; (try simp only [tq] at h))
      refine wp_sr fun Kq9 hKq9 => ?_
      iterate 2 (refine wpl_p S ?_; clear S a; intro a S)
      (refine wpList_nil (hKq9 _ _ ?_); try clear hKq9 Kq9)
      refine wp_ret (fin_ret S (results1 Tryz.results86 (RV.tmp S rfl)) ?_)
      (first | (have hpf : p x = true := (by assumption); have e9 : anyF p l = true := (by rw [hfp, Fo.drop_get hx]; rw [anyF_cons]; rw [show p (x.1, x.2) = true from hpf, Bool.true_or]); rw [e9]; exact ⟨_, rfl, by simp⟩) | (have e9 : anyF p l = false := (by rw [hfp, Fo.drop_len (by omega)]; rfl); rw [e9]; exact ⟨_, rfl, by simp⟩) | trace_state)
    (skip; (try simp only [tq] at h))
    refine wp_skip ?_
    (refine hKq6 _ _ ?_; try (clear hKq6 Kq6))
    refine wp_region_lit ?_
    (refine wpl_a S ?_; clear S a; intro a S)
    (refine wpl_p S ?_; clear S a; intro a S)
    refine wpList_nil ?_
    change ∃ m', _ ∧ _
    (refine ⟨l.len - (k + 1), by omega, k + 1, rfl, by omega, ?_, ?_⟩; rotate_left 1; (refine S.keep ?_; repeat (first | exact trivial | refine ⟨rfl, ?_⟩)); rw [hfp, Fo.drop_get hx]; rw [anyF_cons, (by assumption : p x = false), Bool.false_or])
  (skip; (try simp only [tq] at h))
  refine wp_exit ?_
  (refine hKq2 _ _ ?_; try (clear hKq2 Kq2))
  refine wp_sr fun Kq6 hKq6 => ?_
  (refine wpl_p S ?_; clear S a; intro a S)
  (refine wpList_nil (hKq6 _ _ ?_); try clear hKq6 Kq6)
  refine wp_ret (fin_ret S (results1 Tryz.results86 (RV.tmp S rfl)) ?_)
  (first | (have hpf : p x = true := (by assumption); have e9 : anyF p l = true := (by rw [hfp, Fo.drop_get hx]; rw [anyF_cons]; rw [show p (x.1, x.2) = true from hpf, Bool.true_or]); rw [e9]; exact ⟨_, rfl, by simp⟩) | (have e9 : anyF p l = false := (by rw [hfp, Fo.drop_len (by omega)]; rfl); rw [e9]; exact ⟨_, rfl, by simp⟩) | trace_state)
theorem containsTCt (F : Heap) (l : Fo) (v : Value) (h : SlF F v l) (fid : FuncId) (fi ca : List Value) [hfn : HasFn Tryz.prog fid] (p : Ty → Bool)
    (hcl : ∀ k x v1, l.get? k = some x → SlF F v1 x.2 → Ct Tryz.prog fid (fi ++ [.agg ⟨[.string (bs x.1), v1]⟩] ++ ca) F [] (fun _ _ u => u = .bool (p x))) :
    Ct Tryz.prog 68 [v, .func (.func fid) ⟨fi⟩ ⟨ca⟩] F [] (fun _ _ u => u = .bool (anyF p l)) := by
  have hc := indexTCt F l v h fid fi ca p hcl
  obtain ⟨ao, cap, rfl, hcap, hpos⟩ := h
  refine Ct.enter Tryz.func68 rfl Tryz.ntmps68 rfl fun w0 a S => ?_
  refine wp_sr fun Kq1 hKq1 => ?_
  (refine wpl_p S ?_; clear S a; intro a S)
  (refine wpList_nil (hKq1 _ _ (wp_sr fun Kq2 hKq2 => ?_)); try clear hKq1 Kq1)
  iterate 2 (refine wpl_p S ?_; clear S a; intro a S)
  (refine wpl_call0 S rfl rfl rfl rfl rfl rfl hc rfl ?_; clear S a; intro v a w hv S; obtain ⟨i9, rfl, hi9⟩ := hv)
  iterate 2 (refine wpl_p S ?_; clear S a; intro a S)
  (refine wpList_nil (hKq2 _ _ ?_); try clear hKq2 Kq2)
  refine wp_ret (fin_ret S (results1 Tryz.results68 (RV.tmp S rfl)) ?_)
  (rw [← hi9])
/-- A function that tells something of a type, and turns nothing. -/
def CbT (F : Heap) (fid : FuncId) (fi ca : List Value) (p : Ty → Bool) : Prop := ∀ (F' : Heap) (x : Ty) (cs : List Value), (∀ b o, F b = some o → F' b = some o) → TyC F' cs x.1 x.2 → Ct Tryz.prog fid (fi ++ [.agg ⟨cs⟩] ++ ca) F' [] (fun _ _ u => u = .bool (p x))
theorem CbT.mono {F F' : Heap} {fid : FuncId} {fi ca : List Value} {p : Ty → Bool} (h : CbT F fid fi ca p) (hF : ∀ b o, F b = some o → F' b = some o) : CbT F' fid fi ca p := fun F2 x cs h2 => h F2 x cs fun b o hb => h2 _ _ (hF _ _ hb)
def WithinD (F : Heap) (fid : FuncId) (fi ca : List Value) (p : Ty → Bool) (m : Nat) : Prop := ∀ (F' : Heap) (nm : List UInt8) (ar : Fo) (cs : List Value), ar.size < m → (∀ b o, F b = some o → F' b = some o) → TyC F' cs nm ar →
  Ct Tryz.prog 64 [.agg ⟨cs⟩, .func (.func fid) ⟨fi⟩ ⟨ca⟩] F' [] (fun _ _ u => u = .bool (wiT p (nm, ar)))
theorem within1Ct (F : Heap) (fid : FuncId) [hfn : HasFn Tryz.prog fid] (fi ca : List Value) (p : Ty → Bool) (m : Nat) (ih : WithinD F fid fi ca p m) (F' : Heap) (hF : ∀ b o, F b = some o → F' b = some o) (bc : Nat) (hbc : Cel F' bc 0 (.func (.func fid) ⟨fi⟩ ⟨ca⟩)) (nm : List UInt8) (ar : Fo) (v1 : Value) (hm : ar.size < m) (hs : SlF F' v1 ar) :
    Ct Tryz.prog 85 ([] ++ [.agg ⟨[.string (bs nm), v1]⟩] ++ [.pointer (some ⟨bc, 0, none⟩)]) F' [] (fun _ _ u => u = .bool (wiT p (nm, ar))) := by
  have hs0 := hs
  obtain ⟨ao, cap, rfl, -, -⟩ := hs
  refine Ct.enter Tryz.func85 rfl Tryz.ntmps85 rfl fun w0 a S => ?_
  refine wp_sr fun Kq1 hKq1 => ?_
  (refine wpl_bx S ?_; clear S a; intro b2 a w S)
  (refine wpl_p S ?_; clear S a; intro a S)
  (refine wpList_nil (hKq1 _ _ (wp_sr fun Kq2 hKq2 => ?_)); try clear hKq1 Kq1)
  (refine wpl_l S ?_; clear S a; intro a S)
  (refine wpl_v S rfl rfl rfl (sv_loadF S rfl rfl hbc) ?_; clear S a; intro a S)
  (refine wpl_c0 S (ih F' nm ar _ hm hF ⟨_, rfl, hs0⟩) ?_; clear S a; intro v a w hv S; subst hv)
  (refine wpl_p S ?_; clear S a; intro a S)
  (refine wpList_nil (hKq2 _ _ ?_); try clear hKq2 Kq2)
  exact wp_ret (fin_ret S (results1 Tryz.results85 (RV.tmp S rfl)) rfl)
set_option maxHeartbeats 4000000 in
theorem withinCt (F : Heap) (fid : FuncId) [hfn : HasFn Tryz.prog fid] (fi ca : List Value) (p : Ty → Bool) (hcb : CbT F fid fi ca p) : ∀ m, WithinD F fid fi ca p m := by
  intro m
  induction m with
  | zero => intro F' nm ar cs hm; omega
  | succ m ih =>
  intro F' nm ar cs hm hF hT
  have hT0 := hT
  obtain ⟨v, rfl, hs⟩ := hT
  have hs0 := hs
  obtain ⟨ao, cap, rfl, -, -⟩ := hs
  refine Ct.enter Tryz.func64 rfl Tryz.ntmps64 rfl fun w0 a S => ?_
  refine wp_sr fun Kq1 hKq1 => ?_
  (refine wpl_bx S ?_; clear S a; intro b2 a w S)
  (refine wpl_bx S ?_; clear S a; intro b3 a w S)
  (refine wpl_p S ?_; clear S a; intro a S)
  (refine wpList_nil (hKq1 _ _ (wp_sr fun Kq2 hKq2 => ?_)); try clear hKq1 Kq1)
  iterate 2 (refine wpl_l S ?_; clear S a; intro a S)
  (refine wpl_c0 S (hcb F' (nm, ar) _ hF hT0) ?_; clear S a; intro v a w hv S; subst hv)
  (refine wpl_p S ?_; clear S a; intro a S)
  refine wpl_guard S rfl rfl rfl rfl rfl ?_ ?_
  · (intro h S'; clear S; have S := S'; clear S'; (try simp only [tq] at h))
    (refine wpl_f S ?_; clear S a; intro a S)
    refine wpl_take S rfl rfl rfl ?_
    (refine wpl_l S ?_; clear S a; intro a S)
    refine wpl_take S rfl rfl rfl ?_
    (refine wpl_p S ?_; clear S a; intro a S)
    refine wpl_take S rfl rfl rfl ?_
    (have hle := add_le (G1 := []) S; replace S := St.freeze (G1 := []) S; (simp only [List.nil_append] at S hle); have hb3 : Cel (F'.add [(b3, .cells ⟨[.func (.func fid) ⟨fi⟩ ⟨ca⟩]⟩ 83 (0, 0))]) b3 0 (.func (.func fid) ⟨fi⟩ ⟨ca⟩) := ⟨_, _, _, Heap.add_new (p := (b3, _)) (List.mem_singleton.2 rfl) (by simp), rfl⟩; replace S : St _ _ _ _ _ (F'.add [(b3, .cells ⟨[.func (.func fid) ⟨fi⟩ ⟨ca⟩]⟩ 83 (0, 0))]) _ _ _ := S; replace hle : ∀ b o, F' b = some o → (F'.add [(b3, .cells ⟨[.func (.func fid) ⟨fi⟩ ⟨ca⟩]⟩ 83 (0, 0))]) b = some o := hle; generalize (F'.add [(b3, .cells ⟨[.func (.func fid) ⟨fi⟩ ⟨ca⟩]⟩ 83 (0, 0))]) = F2 at S hle hb3; refine wpl_c0 S (containsTCt F2 ar _ (hs0.mono hle) 85 [] [.pointer (some ⟨b3, 0, none⟩)] (wiT p) (fun k x v1 hx hs1 => within1Ct F fid fi ca p m ih F2 (fun b o h => hle _ _ (hF _ _ h)) b3 hb3 x.1 x.2 v1 (by have := Fo.size_get hx; omega) hs1)) ?_; clear S a; intro v a w hv S; subst hv)
    iterate 2 (refine wpl_p S ?_; clear S a; intro a S)
    (refine wpList_nil (hKq2 _ _ ?_); try clear hKq2 Kq2)
    refine wp_ret (fin_ret S (results1 Tryz.results64 (RV.tmp S rfl)) ?_)
    (congr 1; show _ = (p (nm, ar) || wiL p ar); rw [← anyF_wi]; first | (rw [(by assumption : p (nm, ar) = false), Bool.false_or]) | (rw [(by assumption : p (nm, ar) = true), Bool.true_or]) | trace_state)
  (intro h; clear S a; intro a S; (try simp only [tq] at h))
  iterate 3 (refine wpl_k S ?_; clear S a; intro a S)
  iterate 2 (refine wpl_p S ?_; clear S a; intro a S)
  (refine wpList_nil (hKq2 _ _ ?_); try clear hKq2 Kq2)
  refine wp_ret (fin_ret S (results1 Tryz.results64 (RV.tmp S rfl)) ?_)
  (congr 1; show _ = (p (nm, ar) || wiL p ar); rw [← anyF_wi]; first | (rw [(by assumption : p (nm, ar) = false), Bool.false_or]) | (rw [(by assumption : p (nm, ar) = true), Bool.true_or]) | trace_state)
theorem open1Ct (F : Heap) : CbT F 70 [] [] (fun y => parS y.1) := by
  unfold CbT
  intro F' x cs hF hT
  obtain ⟨v, rfl, hs⟩ := hT
  obtain ⟨ao, cap, rfl, -, -⟩ := hs
  refine Ct.enter Tryz.func70 rfl Tryz.ntmps70 rfl fun w0 a S => ?_
  refine wp_sr fun Kq1 hKq1 => ?_
  (refine wpl_bx S ?_; clear S a; intro b1 a w S)
  (refine wpl_p S ?_; clear S a; intro a S)
  (refine wpList_nil (hKq1 _ _ (wp_sr fun Kq2 hKq2 => ?_)); try clear hKq1 Kq1)
  (refine wpl_f S ?_; clear S a; intro a S)
  (refine wpl_l S ?_; clear S a; intro a S)
  (refine wpl_c0 S (paramCt F' x.1) ?_; clear S a; intro v a w hv S; subst hv)
  (refine wpl_p S ?_; clear S a; intro a S)
  (refine wpList_nil (hKq2 _ _ ?_); try clear hKq2 Kq2)
  exact wp_ret (fin_ret S (results1 Tryz.results70 (RV.tmp S rfl)) rfl)
theorem openCt (F : Heap) (nm : List UInt8) (ar : Fo) (cs : List Value) (h : TyC F cs nm ar) : Ct Tryz.prog 44 [.agg ⟨cs⟩] F [] (fun _ _ u => u = .bool (openT (nm, ar))) := by
  have h0 := h
  obtain ⟨v, rfl, hs⟩ := h
  obtain ⟨ao, cap, rfl, -, -⟩ := hs
  refine Ct.enter Tryz.func44 rfl Tryz.ntmps44 rfl fun w0 a S => ?_
  refine wp_sr fun Kq1 hKq1 => ?_
  (refine wpl_bx S ?_; clear S a; intro b1 a w S)
  (refine wpl_p S ?_; clear S a; intro a S)
  (refine wpList_nil (hKq1 _ _ (wp_sr fun Kq2 hKq2 => ?_)); try clear hKq1 Kq1)
  (refine wpl_l S ?_; clear S a; intro a S)
  (refine wpl_c0 S (withinCt F 70 [] [] _ (open1Ct F) (ar.size + 1) F nm ar _ (Nat.lt_succ_self _) (fun _ _ h => h) h0) ?_; clear S a; intro v a w hv S; subst hv)
  (refine wpl_p S ?_; clear S a; intro a S)
  (refine wpList_nil (hKq2 _ _ ?_); try clear hKq2 Kq2)
  exact wp_ret (fin_ret S (results1 Tryz.results44 (RV.tmp S rfl)) rfl)
set_option maxHeartbeats 4000000 in
theorem depthCt (F : Heap) : ∀ (n : Nat) (nm : List UInt8) (ar : Fo) (cs : List Value), ar.size ≤ n → ar.size ≤ 1000000000 → TyC F cs nm ar → Ct Tryz.prog 63 [.agg ⟨cs⟩] F [] (fun _ _ u => u = .int .i64 (depthT (nm, ar) : Nat)) := by
  intro n
  induction n using Nat.strongRecOn with
  | _ n ih =>
  intro nm ar cs hn hb h
  obtain ⟨v, rfl, ao, cap, rfl, hcap, hpos⟩ := h
  refine Ct.enter Tryz.func63 rfl Tryz.ntmps63 rfl fun w0 a S => ?_
  refine wp_sr fun Kq1 hKq1 => ?_
  (refine wpl_bx S ?_; clear S a; intro b1 a w S)
  (refine wpl_p S ?_; clear S a; intro a S)
  (refine wpList_nil (hKq1 _ _ (wp_sr fun Kq2 hKq2 => ?_)); try clear hKq1 Kq1)
  (refine wpl_p S ?_; clear S a; intro a S)
  (refine wpList_nil (hKq2 _ _ (wp_seq_k fun Kq3 hKq3 => ?_)); try clear hKq2 Kq2)
  refine wp_sr fun Kq4 hKq4 => ?_
  (refine wpl_f S ?_; clear S a; intro a S)
  (refine wpl_l S ?_; clear S a; intro a S)
  (refine wpl_n S ?_; clear S a; intro a S)
  (refine wpl_p S ?_; clear S a; intro a S)
  (refine wpList_nil (hKq4 _ _ ?_); try clear hKq4 Kq4)
  refine wp_block ?_
  refine wpc_loop (fun m a w' => ∃ (k p : Nat), m = ar.len - k ∧ k ≤ ar.len ∧ max p (depthL (ar.drop k)) = depthL ar ∧ p ≤ ar.size ∧ St 20 [(1, ptr b1), (3, .int .i64 (p : Int)), (7, .slice ao ar.len cap), (8, .int .i64 ar.len), (9, .int .i64 k)] w0 F [] F [[(b1, .cells ⟨[.string (bs nm), .slice ao ar.len cap]⟩ 24 (0, 0))]] a w') ?_ ?_
  · (refine ⟨ar.len, 0, 0, by omega, Nat.zero_le _, by rw [Nat.zero_max]; rfl, Nat.zero_le _, ?_⟩; refine S.keep ?_; repeat (first | exact trivial | refine ⟨rfl, ?_⟩))
  (clear S; rintro m a w ⟨k, p, rfl, hkl, hs, hp, S⟩)
  refine wp_sr fun Kq5 hKq5 => ?_
  (refine wpl_p S ?_; clear S a; intro a S)
  (refine wpList_nil (hKq5 _ _ (wp_seq_k fun Kq6 hKq6 => ?_)); try clear hKq5 Kq5)
  refine wpc_split S rfl (fun h => ?_) (fun h => ?_)
  · (skip; (try simp only [tq] at h))
    refine wp_skip ?_
    (refine hKq6 _ _ ?_; try (clear hKq6 Kq6))
    (refine wp_seq_k ?_; intro Kq7 hKq7)
    refine wp_block ?_
    (refine wp_seq_k ?_; intro Kq8 hKq8)
    (obtain ⟨b8, o8, hao, x, v1, hx, hc1, hT1⟩ := FoM.pos hpos (k := k) (by omega); rw [hao] at S; have hxs := Fo.size_get hx; have hdr := Fo.drop_get hx; have hT1c := hT1; obtain ⟨a91, c91, rfl, -⟩ := hT1c)
    refine wp_region_lit ?_
    (refine wpl_i S ?_; clear S a; intro a S)
    (refine wpl_l S ?_; clear S a; intro a S)
    (refine wpl_al S ?_; clear S a; intro b5 a w S)
    (refine wpl_storeO S rfl rfl rfl rfl rfl (by rfl) (by simp [Value.cells, Value.oneCell', splice]) (by rfl) ?_; clear S; intro w S)
    (refine wpList_nil (hKq8 _ _ ?_); try clear hKq8 Kq8)
    refine wp_region_lit ?_
    (refine wpl_p S ?_; clear S a; intro a S)
    (refine wpl_l S ?_; clear S a; intro a S)
    (refine wpl_c0 S (ih x.2.size (by omega) x.1 x.2 _ (Nat.le_refl _) (by omega) ⟨_, rfl, hT1⟩) ?_; clear S a; intro v a w hv S; subst hv)
    first | (refine wpl_v S rfl rfl rfl (sv_maxN S rfl rfl rfl) ?_; clear S a; intro a S) | (refine wpl_v S rfl rfl rfl (sv_max0 S rfl rfl rfl) ?_; clear S a; intro a S)
    (refine wpl_p S ?_; clear S a; intro a S)
    (refine wpList_nil (hKq7 _ _ ?_); try clear hKq7 Kq7)
    refine wp_region_lit ?_
    (refine wpl_a S ?_; clear S a; intro a S)
    (refine wpl_p S ?_; clear S a; intro a S)
    refine wpList_nil ?_
    change ∃ m', _ ∧ _
    (rw [← hao] at S; replace S := S.drop1; refine ⟨ar.len - (k + 1), by omega, k + 1, max p (depthT x), rfl, by omega, ?_, ?_, ?_⟩; rotate_left 2; (refine S.keep ?_; repeat (first | exact trivial | refine ⟨rfl, ?_⟩)); (rw [← hs, hdr]; unfold depthT; simp only [depthL]; omega); (have := depthL_le x.2; unfold depthT; omega))
  (skip; (try simp only [tq] at h))
  refine wp_exit ?_
  (refine hKq3 _ _ ?_; try (clear hKq3 Kq3))
  refine wp_sr fun Kq7 hKq7 => ?_
  (refine wpl_p S ?_; clear S a; intro a S)
  (refine wpl_a S ?_; clear S a; intro a S)
  (refine wpl_p S ?_; clear S a; intro a S)
  (refine wpList_nil (hKq7 _ _ ?_); try clear hKq7 Kq7)
  refine wp_ret (fin_ret S (results1 Tryz.results63 (RV.tmp S rfl)) ?_)
  (have hz : depthL (ar.drop k) = 0 := (by rw [Fo.drop_len (by omega)]; rfl); congr 1; unfold depthT; show (p : Int) + 1 = ((depthL ar + 1 : Nat) : Int); omega)
end Go.Proofs.YtoaodbclgeeaeaaGreatDoor
