/- Walks: clones, fields in memory of their own, whether two fields have one name. -/
import Derived.Test.YtoaodbclgeeaeaaGreatDoorDeH
import Derived.Test.YtoaodbclgeeaeaaGreatDoorDeE
import Derived.Test.YtoaodbclgeeaeaaGreatDoorDeS
namespace Go.Proofs.YtoaodbclgeeaeaaGreatDoor
open Go Go.Wk Go.Un Go.De
set_option linter.unusedSimpArgs false
set_option linter.unusedVariables false
attribute [local irreducible] Go.wpList Go.Code.wp Go.wpStill Go.Wk.wpPre Go.bodyPost Go.Calls Go.Wk.Ct Go.Wk.OwnS
attribute [local irreducible] Go.Wk.wpG Go.Wk.wpM

theorem cloneSCt (F : Heap) (v : Value) (l : List (List UInt8)) (h : LiM F 1 StR v l) (hl : l.length ≤ 1000000) : Ct Tryz.prog 36 [v] F [] (fun _ G' u => ∃ g xs, G' = [g] ∧ OwnS 9 1 u l.length xs g ∧ LiC F 1 StR xs l) := by
  obtain ⟨ao, cap, xs, rfl, hxc, hxp⟩ := h.flat
  have hxl := hxc.len
  have hx1 := hxc.one'
  refine Ct.enter Tryz.func36 rfl Tryz.ntmps36 rfl fun w0 a S => ?_
  refine wp_sr fun Kq1 hKq1 => ?_
  (refine wpl_p S ?_; clear S a; intro a S)
  (refine wpList_nil (hKq1 _ _ (wp_seq_k fun Kq2 hKq2 => ?_)); try clear hKq1 Kq1)
  refine wp_sr fun Kq3 hKq3 => ?_
  (refine wpl_p S ?_; clear S a; intro a S)
  (refine wpl_s S ?_; clear S a; intro a S)
  (refine wpList_nil (hKq3 _ _ ?_); try clear hKq3 Kq3)
  refine wpc_split S rfl (fun h => ?_) (fun h => ?_)
  · (skip; (try simp only [tq] at h))
    refine wp_sr fun Kq4 hKq4 => ?_
    (refine wpl_p S ?_; clear S a; intro a S)
    (refine wpList_nil (hKq4 _ _ ?_); try clear hKq4 Kq4)
    refine wp_ret ?_
    (first | (have h9 := hown; skip) | (replace S := S.nilg))
    refine fin_ret S (results1 Tryz.results36 (RV.tmp S rfl)) ?_
    (first | (have h9 := hown; rw [List.flatMap_nil, List.nil_append, Nat.zero_add] at hown; exact ⟨_, _, rfl, hown, hxc⟩) | (have hz : l = [] := (by cases l with | nil => rfl | cons x r => (exfalso; obtain ⟨b, o, e, -⟩ := hxp (by simp); have hno : ao.isNone = true := (by assumption); rw [e] at hno; cases hno)); subst hz; exact ⟨[], [], rfl, OwnS.nil _ _, rfl⟩) | trace_state)
  (skip; (try simp only [tq] at h))
  refine wp_skip ?_
  (refine hKq2 _ _ ?_; try (clear hKq2 Kq2))
  refine wp_sr fun Kq4 hKq4 => ?_
  (refine wpl_buildSlice S rfl rfl rfl rfl rfl rfl (by rfl) (by simp [Value.cells, splice, splice]) rfl (by rfl) (by rfl) ?_; clear S a; intro b5 a w hown S)
  (refine wpl_p S ?_; clear S a; intro a S)
  (refine wpl_appendSl S rfl rfl rfl rfl rfl rfl hown (by rfl) hxl hxp hx1 (by omega) (by omega) ?_; clear hown S a; intro v g a w hown S)
  (refine wpl_p S ?_; clear S a; intro a S)
  (refine wpList_nil (hKq4 _ _ ?_); try clear hKq4 Kq4)
  refine wp_ret ?_
  (first | (have h9 := hown; skip) | (replace S := S.nilg))
  refine fin_ret S (results1 Tryz.results36 (RV.tmp S rfl)) ?_
  (first | (have h9 := hown; rw [List.flatMap_nil, List.nil_append, Nat.zero_add] at hown; exact ⟨_, _, rfl, hown, hxc⟩) | (have hz : l = [] := (by cases l with | nil => rfl | cons x r => (exfalso; obtain ⟨b, o, e, -⟩ := hxp (by simp); have hno : ao.isNone = true := (by assumption); rw [e] at hno; cases hno)); subst hz; exact ⟨[], [], rfl, OwnS.nil _ _, rfl⟩) | trace_state)
theorem cloneTCt (F : Heap) (v : Value) (l : List TD) (h : LiM F 6 TdR v l) (hl : l.length ≤ 1000000) : Ct Tryz.prog 34 [v] F [] (fun _ G' u => ∃ g xs, G' = [g] ∧ OwnS 57 6 u l.length xs g ∧ LiC F 6 TdR xs l) := by
  obtain ⟨ao, cap, xs, rfl, hxc, hxp⟩ := h.flat
  have hxl := hxc.len
  have hx1 := hxc.one'
  refine Ct.enter Tryz.func34 rfl Tryz.ntmps34 rfl fun w0 a S => ?_
  refine wp_sr fun Kq1 hKq1 => ?_
  (refine wpl_p S ?_; clear S a; intro a S)
  (refine wpList_nil (hKq1 _ _ (wp_seq_k fun Kq2 hKq2 => ?_)); try clear hKq1 Kq1)
  refine wp_sr fun Kq3 hKq3 => ?_
  (refine wpl_p S ?_; clear S a; intro a S)
  (refine wpl_s S ?_; clear S a; intro a S)
  (refine wpList_nil (hKq3 _ _ ?_); try clear hKq3 Kq3)
  refine wpc_split S rfl (fun h => ?_) (fun h => ?_)
  · (skip; (try simp only [tq] at h))
    refine wp_sr fun Kq4 hKq4 => ?_
    (refine wpl_p S ?_; clear S a; intro a S)
    (refine wpList_nil (hKq4 _ _ ?_); try clear hKq4 Kq4)
    refine wp_ret ?_
    (first | (have h9 := hown; skip) | (replace S := S.nilg))
    refine fin_ret S (results1 Tryz.results34 (RV.tmp S rfl)) ?_
    (first | (have h9 := hown; rw [List.flatMap_nil, List.nil_append, Nat.zero_add] at hown; exact ⟨_, _, rfl, hown, hxc⟩) | (have hz : l = [] := (by cases l with | nil => rfl | cons x r => (exfalso; obtain ⟨b, o, e, -⟩ := hxp (by simp); have hno : ao.isNone = true := (by assumption); rw [e] at hno; cases hno)); subst hz; exact ⟨[], [], rfl, OwnS.nil _ _, rfl⟩) | trace_state)
  (skip; (try simp only [tq] at h))
  refine wp_skip ?_
  (refine hKq2 _ _ ?_; try (clear hKq2 Kq2))
  refine wp_sr fun Kq4 hKq4 => ?_
  (refine wpl_buildSlice S rfl rfl rfl rfl rfl rfl (by rfl) (by simp [Value.cells, splice, splice]) rfl (by rfl) (by rfl) ?_; clear S a; intro b5 a w hown S)
  (refine wpl_p S ?_; clear S a; intro a S)
  (refine wpl_appendSl S rfl rfl rfl rfl rfl rfl hown (by rfl) hxl hxp hx1 (by omega) (by omega) ?_; clear hown S a; intro v g a w hown S)
  (refine wpl_p S ?_; clear S a; intro a S)
  (refine wpList_nil (hKq4 _ _ ?_); try clear hKq4 Kq4)
  refine wp_ret ?_
  (first | (have h9 := hown; skip) | (replace S := S.nilg))
  refine fin_ret S (results1 Tryz.results34 (RV.tmp S rfl)) ?_
  (first | (have h9 := hown; rw [List.flatMap_nil, List.nil_append, Nat.zero_add] at hown; exact ⟨_, _, rfl, hown, hxc⟩) | (have hz : l = [] := (by cases l with | nil => rfl | cons x r => (exfalso; obtain ⟨b, o, e, -⟩ := hxp (by simp); have hno : ao.isNone = true := (by assumption); rw [e] at hno; cases hno)); subst hz; exact ⟨[], [], rfl, OwnS.nil _ _, rfl⟩) | trace_state)
theorem cloneRCt (F : Heap) (v : Value) (l : List RD) (h : LiM F 6 RdR v l) (hl : l.length ≤ 1000000) : Ct Tryz.prog 35 [v] F [] (fun _ G' u => ∃ g xs, G' = [g] ∧ OwnS 60 6 u l.length xs g ∧ LiC F 6 RdR xs l) := by
  obtain ⟨ao, cap, xs, rfl, hxc, hxp⟩ := h.flat
  have hxl := hxc.len
  have hx1 := hxc.one'
  refine Ct.enter Tryz.func35 rfl Tryz.ntmps35 rfl fun w0 a S => ?_
  refine wp_sr fun Kq1 hKq1 => ?_
  (refine wpl_p S ?_; clear S a; intro a S)
  (refine wpList_nil (hKq1 _ _ (wp_seq_k fun Kq2 hKq2 => ?_)); try clear hKq1 Kq1)
  refine wp_sr fun Kq3 hKq3 => ?_
  (refine wpl_p S ?_; clear S a; intro a S)
  (refine wpl_s S ?_; clear S a; intro a S)
  (refine wpList_nil (hKq3 _ _ ?_); try clear hKq3 Kq3)
  refine wpc_split S rfl (fun h => ?_) (fun h => ?_)
  · (skip; (try simp only [tq] at h))
    refine wp_sr fun Kq4 hKq4 => ?_
    (refine wpl_p S ?_; clear S a; intro a S)
    (refine wpList_nil (hKq4 _ _ ?_); try clear hKq4 Kq4)
    refine wp_ret ?_
    (first | (have h9 := hown; skip) | (replace S := S.nilg))
    refine fin_ret S (results1 Tryz.results35 (RV.tmp S rfl)) ?_
    (first | (have h9 := hown; rw [List.flatMap_nil, List.nil_append, Nat.zero_add] at hown; exact ⟨_, _, rfl, hown, hxc⟩) | (have hz : l = [] := (by cases l with | nil => rfl | cons x r => (exfalso; obtain ⟨b, o, e, -⟩ := hxp (by simp); have hno : ao.isNone = true := (by assumption); rw [e] at hno; cases hno)); subst hz; exact ⟨[], [], rfl, OwnS.nil _ _, rfl⟩) | trace_state)
  (skip; (try simp only [tq] at h))
  refine wp_skip ?_
  (refine hKq2 _ _ ?_; try (clear hKq2 Kq2))
  refine wp_sr fun Kq4 hKq4 => ?_
  (refine wpl_buildSlice S rfl rfl rfl rfl rfl rfl (by rfl) (by simp [Value.cells, splice, splice]) rfl (by rfl) (by rfl) ?_; clear S a; intro b5 a w hown S)
  (refine wpl_p S ?_; clear S a; intro a S)
  (refine wpl_appendSl S rfl rfl rfl rfl rfl rfl hown (by rfl) hxl hxp hx1 (by omega) (by omega) ?_; clear hown S a; intro v g a w hown S)
  (refine wpl_p S ?_; clear S a; intro a S)
  (refine wpList_nil (hKq4 _ _ ?_); try clear hKq4 Kq4)
  refine wp_ret ?_
  (first | (have h9 := hown; skip) | (replace S := S.nilg))
  refine fin_ret S (results1 Tryz.results35 (RV.tmp S rfl)) ?_
  (first | (have h9 := hown; rw [List.flatMap_nil, List.nil_append, Nat.zero_add] at hown; exact ⟨_, _, rfl, hown, hxc⟩) | (have hz : l = [] := (by cases l with | nil => rfl | cons x r => (exfalso; obtain ⟨b, o, e, -⟩ := hxp (by simp); have hno : ao.isNone = true := (by assumption); rw [e] at hno; cases hno)); subst hz; exact ⟨[], [], rfl, OwnS.nil _ _, rfl⟩) | trace_state)
theorem cloneCCt (F : Heap) (v : Value) (l : List CD) (h : LiM F 2 CdR v l) (hl : l.length ≤ 1000000) : Ct Tryz.prog 37 [v] F [] (fun _ G' u => ∃ g xs, G' = [g] ∧ OwnS 65 2 u l.length xs g ∧ LiC F 2 CdR xs l) := by
  obtain ⟨ao, cap, xs, rfl, hxc, hxp⟩ := h.flat
  have hxl := hxc.len
  have hx1 := hxc.one'
  refine Ct.enter Tryz.func37 rfl Tryz.ntmps37 rfl fun w0 a S => ?_
  refine wp_sr fun Kq1 hKq1 => ?_
  (refine wpl_p S ?_; clear S a; intro a S)
  (refine wpList_nil (hKq1 _ _ (wp_seq_k fun Kq2 hKq2 => ?_)); try clear hKq1 Kq1)
  refine wp_sr fun Kq3 hKq3 => ?_
  (refine wpl_p S ?_; clear S a; intro a S)
  (refine wpl_s S ?_; clear S a; intro a S)
  (refine wpList_nil (hKq3 _ _ ?_); try clear hKq3 Kq3)
  refine wpc_split S rfl (fun h => ?_) (fun h => ?_)
  · (skip; (try simp only [tq] at h))
    refine wp_sr fun Kq4 hKq4 => ?_
    (refine wpl_p S ?_; clear S a; intro a S)
    (refine wpList_nil (hKq4 _ _ ?_); try clear hKq4 Kq4)
    refine wp_ret ?_
    (first | (have h9 := hown; skip) | (replace S := S.nilg))
    refine fin_ret S (results1 Tryz.results37 (RV.tmp S rfl)) ?_
    (first | (have h9 := hown; rw [List.flatMap_nil, List.nil_append, Nat.zero_add] at hown; exact ⟨_, _, rfl, hown, hxc⟩) | (have hz : l = [] := (by cases l with | nil => rfl | cons x r => (exfalso; obtain ⟨b, o, e, -⟩ := hxp (by simp); have hno : ao.isNone = true := (by assumption); rw [e] at hno; cases hno)); subst hz; exact ⟨[], [], rfl, OwnS.nil _ _, rfl⟩) | trace_state)
  (skip; (try simp only [tq] at h))
  refine wp_skip ?_
  (refine hKq2 _ _ ?_; try (clear hKq2 Kq2))
  refine wp_sr fun Kq4 hKq4 => ?_
  (refine wpl_buildSlice S rfl rfl rfl rfl rfl rfl (by rfl) (by simp [Value.cells, splice, splice]) rfl (by rfl) (by rfl) ?_; clear S a; intro b5 a w hown S)
  (refine wpl_p S ?_; clear S a; intro a S)
  (refine wpl_appendSl S rfl rfl rfl rfl rfl rfl hown (by rfl) hxl hxp hx1 (by omega) (by omega) ?_; clear hown S a; intro v g a w hown S)
  (refine wpl_p S ?_; clear S a; intro a S)
  (refine wpList_nil (hKq4 _ _ ?_); try clear hKq4 Kq4)
  refine wp_ret ?_
  (first | (have h9 := hown; skip) | (replace S := S.nilg))
  refine fin_ret S (results1 Tryz.results37 (RV.tmp S rfl)) ?_
  (first | (have h9 := hown; rw [List.flatMap_nil, List.nil_append, Nat.zero_add] at hown; exact ⟨_, _, rfl, hown, hxc⟩) | (have hz : l = [] := (by cases l with | nil => rfl | cons x r => (exfalso; obtain ⟨b, o, e, -⟩ := hxp (by simp); have hno : ao.isNone = true := (by assumption); rw [e] at hno; cases hno)); subst hz; exact ⟨[], [], rfl, OwnS.nil _ _, rfl⟩) | trace_state)
/-- Fields whose types are small enough for memory. -/
def FThin (l : List FD) : Prop := ∀ x ∈ l, x.ta.len * 40 ≤ 140737488355328 ∧ Thin x.ta
set_option maxRecDepth 20000 in
set_option maxHeartbeats 8000000 in
theorem ownedCt (F : Heap) (l : List FD) (v : Value) (h : LiM F 3 FdR v l) (hl : l.length ≤ 1000000) (hth : FThin l) : Ct Tryz.prog 38 [v] F [] (fun F' _ u => LiM F' 3 FdR u l) := by
  obtain ⟨ao, cap, rfl, hcap, hpos⟩ := h
  refine Ct.enter Tryz.func38 rfl Tryz.ntmps38 rfl fun w0 a S => ?_
  refine wp_sr fun Kq1 hKq1 => ?_
  (refine wpl_p S ?_; clear S a; intro a S)
  (refine wpList_nil (hKq1 _ _ (wp_sr fun Kq2 hKq2 => ?_)); try clear hKq1 Kq1)
  (refine wpl_p S ?_; clear S a; intro a S)
  (refine wpList_nil (hKq2 _ _ (wp_seq_k fun Kq3 hKq3 => ?_)); try clear hKq2 Kq2)
  refine wp_sr fun Kq4 hKq4 => ?_
  (refine wpl_p S ?_; clear S a; intro a S)
  (refine wpl_n S ?_; clear S a; intro a S)
  (refine wpl_p S ?_; clear S a; intro a S)
  (refine wpList_nil (hKq4 _ _ ?_); try clear hKq4 Kq4)
  refine wp_block ?_
  refine wpc_loop (fun m a w' => ∃ (i : Nat) (v : Value) (g : Grp) (xs : List Value) (F3 : Heap), m = l.length - i ∧ i ≤ l.length ∧ (∀ b o, F b = some o → F3 b = some o) ∧ OwnS 53 3 v i xs g ∧ LiC F3 3 FdR xs (l.take i) ∧ St 23 [(3, v), (6, .slice ao l.length cap), (7, .int .i64 l.length), (8, .int .i64 i)] w0 F [] F3 [g] a w') ?_ ?_
  · (replace S := S.nilg; refine ⟨l.length, 0, .slice none 0 0, [], [], F, by omega, Nat.zero_le _, fun _ _ h => h, OwnS.nil _ _, rfl, ?_⟩; refine S.keep ?_; repeat (first | exact trivial | refine ⟨rfl, ?_⟩))
  (clear S; rintro m a w ⟨i, v, g, xs, F3, rfl, hil, hF3, hown, hfc, S⟩)
  refine wp_sr fun Kq5 hKq5 => ?_
  (refine wpl_p S ?_; clear S a; intro a S)
  (refine wpList_nil (hKq5 _ _ (wp_seq_k fun Kq6 hKq6 => ?_)); try clear hKq5 Kq5)
  refine wpc_split S rfl (fun h => ?_) (fun h => ?_)
  · (skip; (try simp only [tq] at h))
    refine wp_skip ?_
    (refine hKq6 _ _ ?_; try (clear hKq6 Kq6))
    (refine wp_seq_k ?_; intro Kq7 hKq7)
    refine wp_block ?_
    (refine wp_seq_k ?_; intro Kq8 hKq8)
    (obtain ⟨b8, o8, hao, x, cs1, hx, hc1, ⟨v1, rfl, hT1⟩⟩ := LiM.pos hpos (k := i) (by omega); rw [hao] at S; replace hc1 := Cels.mono hF3 hc1; replace hT1 := hT1.mono hF3; have hT1c := hT1; obtain ⟨a91, c91, rfl, -⟩ := hT1c; obtain ⟨hx40, hxth⟩ := hth x (List.mem_of_getElem? hx))
    refine wp_region_lit ?_
    (refine wpl_i S ?_; clear S a; intro a S)
    (refine wpl_l S ?_; clear S a; intro a S)
    (refine wpl_al S ?_; clear S a; intro b5 a w S)
    (refine wpl_storeO S rfl rfl rfl rfl rfl (by rfl) (by simp [Value.cells, Value.oneCell', splice]) (by rfl) ?_; clear S; intro w S)
    (refine wpList_nil (hKq8 _ _ ?_); try clear hKq8 Kq8)
    (refine wpc_mixM [0, 1, 2, 3, 4, 6] [2, 4] [] (.one 0 (.one 1 (.one 2 (.one 3 (.one 4 (.one 5 (.one 6 (.one 7 (.one 8 (.one 9 .nil)))))))))) [b5] S mixed (by kernel_rfl) ?_; clear S; intro w S)
    (refine wpm_p S ?_; clear S a; intro a S)
    (refine wpm_f S ?_; clear S a; intro a S)
    (refine wpm_o b5 S ?_; clear S a; intro a S)
    (refine wpm_f S ?_; clear S a; intro a S)
    (refine wpm_o b5 S ?_; clear S a; intro a S)
    refine wpm_eff rfl rfl (kwa S) ?_
    (refine wpl_call (Gs := []) (Gr := [[(b5, _)], g]) S rfl rfl rfl rfl rfl rfl (ownDCt (x.ta.size + 1) F3 x.tn x.ta _ (Nat.lt_succ_self _) ⟨_, rfl, hT1⟩ hx40 hxth) rfl (by exact List.Perm.refl _) ?_; clear S a; intro u9 F4 G4 a w hv hF4 S; obtain ⟨a4, q4, c4, rfl, hs4⟩ := hv; replace S : St _ _ _ _ _ F4 ([(b5, _)] :: g :: []) _ _ := ⟨S.fr, S.tr.sub (by rw [List.flatten_append]; exact List.sublist_append_right _ _)⟩)
    refine wpList_nil ?_
    (refine wpm_b S ?_; clear S a; intro a S)
    refine wpm_eff rfl rfl (kwa S) ?_
    (refine wpl_buildSlice S rfl rfl rfl rfl rfl rfl (by rfl) (by simp [Value.cells, splice, splice]) rfl (by rfl) (by rfl) ?_; clear S a; intro b19 a w hown2 S)
    refine wpList_nil ?_
    refine wpm_eff rfl rfl (kwa S) ?_
    (refine wpl_appendOwn S rfl rfl rfl rfl rfl rfl hown hown2 (by rfl) (by simp [Value.cells, Value.oneCell', splice, splice]) (by omega) (by omega) ?_; clear hown S a; intro v g a w hown S)
    refine wpList_nil ?_
    refine wpm_eff rfl rfl (kwa S) ?_
    (refine wpl_p S ?_; clear S a; intro a S)
    refine wpList_nil ?_
    (refine wpm_nil (kwa S) (hKq7 _ _ ?_); try clear hKq7 Kq7)
    refine wp_region_lit ?_
    (refine wpl_a S ?_; clear S a; intro a S)
    (refine wpl_p S ?_; clear S a; intro a S)
    refine wpList_nil ?_
    change ∃ m', _ ∧ _
    (rw [← hao] at S; replace S := S.drop1; refine ⟨l.length - (i + 1), by omega, i + 1, _, _, _, F4, rfl, by omega, fun b o h => hF4 _ _ (hF3 _ _ h), hown, ?_, ?_⟩; rotate_left 1; (refine S.keep ?_; repeat (first | exact trivial | refine ⟨rfl, ?_⟩)); (rw [List.take_add_one, hx]; exact LiC.app (hfc.mono hF4) (LiC.one rfl ⟨_, rfl, hs4⟩)))
  (skip; (try simp only [tq] at h))
  refine wp_exit ?_
  (refine hKq3 _ _ ?_; try (clear hKq3 Kq3))
  refine wp_sr fun Kq7 hKq7 => ?_
  iterate 2 (refine wpl_p S ?_; clear S a; intro a S)
  (refine wpList_nil (hKq7 _ _ ?_); try clear hKq7 Kq7)
  refine wp_ret ?_
  (have hii : i = l.length := (by omega); have h9 := hown; have hle := add_le (G1 := []) S; replace S := St.freeze (G1 := []) S; (simp only [List.nil_append] at S hle))
  refine fin_ret S (results1 Tryz.results38 (RV.tmp S rfl)) ?_
  (rw [List.take_of_length_le (by omega)] at hfc; exact LiC.lim hown hfc (by omega) hle (by omega))
/-! ### over fields -/
set_option maxHeartbeats 4000000 in
theorem indexDCt (F : Heap) (l : List FD) (v : Value) (h : LiM F 3 FdR v l) (fid : FuncId) (fi ca : List Value) [hfn : HasFn Tryz.prog fid] (p : List FD → FD → Bool) (Iv : List FD → List Grp → Prop) (G0 : List Grp) (h0 : Iv [] G0)
    (hcl : ∀ (k : Nat) (x : FD) (cs : List Value) (G : List Grp), l[k]? = some x → FdR F x cs → Iv (l.take k) G → Ct Tryz.prog fid (fi ++ [.agg ⟨cs⟩] ++ ca) F G (fun _ G' u => u = .bool (p (l.take k) x) ∧ Iv (l.take k ++ [x]) G')) :
    Ct Tryz.prog 96 [v, .func (.func fid) ⟨fi⟩ ⟨ca⟩] F G0 (fun _ G' u => ∃ i : Int, u = .int .i64 i ∧ decide (0 ≤ i) = anyP p [] l) := by
  obtain ⟨ao, cap, rfl, hcap, hpos⟩ := h
  refine Ct.enter Tryz.func96 rfl Tryz.ntmps96 rfl fun w0 a S => ?_
  refine wp_sr fun Kq1 hKq1 => ?_
  (refine wpl_p S ?_; clear S a; intro a S)
  (refine wpList_nil (hKq1 _ _ (wp_seq_k fun Kq2 hKq2 => ?_)); try clear hKq1 Kq1)
  refine wp_sr fun Kq3 hKq3 => ?_
  (refine wpl_p S ?_; clear S a; intro a S)
  (refine wpl_n S ?_; clear S a; intro a S)
  (refine wpl_p S ?_; clear S a; intro a S)
  (refine wpList_nil (hKq3 _ _ ?_); try clear hKq3 Kq3)
  refine wp_block ?_
  refine wpc_loop (fun m a w' => ∃ (k : Nat) (GG : List Grp), m = l.length - k ∧ k ≤ l.length ∧ anyP p [] l = anyP p (l.take k) (l.drop k) ∧ Iv (l.take k) GG ∧ St 19 [(0, .slice ao l.length cap), (1, .func (.func fid) ⟨fi⟩ ⟨ca⟩), (7, .int .i64 l.length), (8, .int .i64 k)] w0 F (keys G0) F GG a w') ?_ ?_
  · (refine ⟨l.length, 0, G0, by omega, Nat.zero_le _, rfl, h0, ?_⟩; refine S.keep ?_; repeat (first | exact trivial | refine ⟨rfl, ?_⟩))
  (clear S; rintro m a w ⟨k, GG, rfl, hkl, hfp, hI, S⟩)
  refine wp_sr fun Kq4 hKq4 => ?_
  (refine wpl_p S ?_; clear S a; intro a S)
  (refine wpList_nil (hKq4 _ _ (wp_seq_k fun Kq5 hKq5 => ?_)); try clear hKq4 Kq4)
  refine wpc_split S rfl (fun h => ?_) (fun h => ?_)
  · (skip; (try simp only [tq] at h))
    refine wp_skip ?_
    (refine hKq5 _ _ ?_; try (clear hKq5 Kq5))
    (refine wp_seq_k ?_; intro Kq6 hKq6)
    refine wp_block ?_
    refine wp_sr fun Kq7 hKq7 => ?_
    iterate 2 (refine wpl_p S ?_; clear S a; intro a S)
    (refine wpList_nil (hKq7 _ _ (wp_seq_k fun Kq8 hKq8 => ?_)); try clear hKq7 Kq7)
    (obtain ⟨b8, o8, hao, x, cs1, hx, hc1, ⟨v1, rfl, hT1⟩⟩ := LiM.pos hpos (k := k) (by omega); rw [hao] at S)
    refine wp_region_lit ?_
    iterate 3 (refine wpl_p S ?_; clear S a; intro a S)
    (refine wpl_i S ?_; clear S a; intro a S)
    (refine wpl_l S ?_; clear S a; intro a S)
    (refine wpl_callOwn (Gs := GG) (Gr := []) S rfl rfl rfl rfl rfl rfl (hcl k x _ GG hx ⟨_, rfl, hT1⟩ hI) rfl (by simp) ?_; clear S a; intro u9 G9 a w hv S; obtain ⟨rfl, hI9⟩ := hv; rw [List.append_nil] at S)
    (refine wpList_nil (hKq8 _ _ ?_); try clear hKq8 Kq8)
    refine wpc_split S rfl (fun h => ?_) (fun h => ?_)
    · (skip; (try simp only [tq] at h))
      refine wp_sr fun Kq9 hKq9 => ?_
      iterate 2 (refine wpl_p S ?_; clear S a; intro a S)
      (refine wpList_nil (hKq9 _ _ ?_); try clear hKq9 Kq9)
      refine wp_ret (fin_ret S (results1 Tryz.results96 (RV.tmp S rfl)) ?_)
      (first | (have hpf : p (l.take k) x = true := (by assumption); have e9 : anyP p [] l = true := (by rw [hfp, drop_at hx]; show (p (l.take k) x || _) = true; rw [hpf, Bool.true_or]); rw [e9]; exact ⟨_, rfl, by simp⟩) | (have e9 : anyP p [] l = false := (by rw [hfp, List.drop_eq_nil_of_le (by omega)]; rfl); rw [e9]; exact ⟨_, rfl, by simp⟩) | trace_state)
    (skip; (try simp only [tq] at h))
    refine wp_skip ?_
    (refine hKq6 _ _ ?_; try (clear hKq6 Kq6))
    refine wp_region_lit ?_
    (refine wpl_a S ?_; clear S a; intro a S)
    (refine wpl_p S ?_; clear S a; intro a S)
    refine wpList_nil ?_
    change ∃ m', _ ∧ _
    (rw [← hao] at S; have hpf : p (l.take k) x = false := (by assumption); refine ⟨l.length - (k + 1), by omega, k + 1, G9, rfl, by omega, ?_, ?_, ?_⟩; rotate_left 2; (refine S.keep ?_; repeat (first | exact trivial | refine ⟨rfl, ?_⟩)); (rw [hfp, drop_at hx]; rw [show l.take (k + 1) = l.take k ++ [x] by rw [List.take_add_one, hx]; rfl]; show (p (l.take k) x || _) = _; rw [hpf, Bool.false_or]); (rw [show l.take (k + 1) = l.take k ++ [x] by rw [List.take_add_one, hx]; rfl]; exact hI9))
  (skip; (try simp only [tq] at h))
  refine wp_exit ?_
  (refine hKq2 _ _ ?_; try (clear hKq2 Kq2))
  refine wp_sr fun Kq6 hKq6 => ?_
  (refine wpl_p S ?_; clear S a; intro a S)
  (refine wpList_nil (hKq6 _ _ ?_); try clear hKq6 Kq6)
  refine wp_ret (fin_ret S (results1 Tryz.results96 (RV.tmp S rfl)) ?_)
  (first | (have hpf : p (l.take k) x = true := (by assumption); have e9 : anyP p [] l = true := (by rw [hfp, drop_at hx]; show (p (l.take k) x || _) = true; rw [hpf, Bool.true_or]); rw [e9]; exact ⟨_, rfl, by simp⟩) | (have e9 : anyP p [] l = false := (by rw [hfp, List.drop_eq_nil_of_le (by omega)]; rfl); rw [e9]; exact ⟨_, rfl, by simp⟩) | trace_state)
theorem containsDCt (F : Heap) (l : List FD) (v : Value) (h : LiM F 3 FdR v l) (fid : FuncId) (fi ca : List Value) [hfn : HasFn Tryz.prog fid] (p : List FD → FD → Bool) (Iv : List FD → List Grp → Prop) (G0 : List Grp) (h0 : Iv [] G0)
    (hcl : ∀ (k : Nat) (x : FD) (cs : List Value) (G : List Grp), l[k]? = some x → FdR F x cs → Iv (l.take k) G → Ct Tryz.prog fid (fi ++ [.agg ⟨cs⟩] ++ ca) F G (fun _ G' u => u = .bool (p (l.take k) x) ∧ Iv (l.take k ++ [x]) G')) :
    Ct Tryz.prog 87 [v, .func (.func fid) ⟨fi⟩ ⟨ca⟩] F G0 (fun _ _ u => u = .bool (anyP p [] l)) := by
  have hc := indexDCt F l v h fid fi ca p Iv G0 h0 hcl
  obtain ⟨ao, cap, rfl, hcap, hpos⟩ := h
  refine Ct.enter Tryz.func87 rfl Tryz.ntmps87 rfl fun w0 a S => ?_
  refine wp_sr fun Kq1 hKq1 => ?_
  (refine wpl_p S ?_; clear S a; intro a S)
  (refine wpList_nil (hKq1 _ _ (wp_sr fun Kq2 hKq2 => ?_)); try clear hKq1 Kq1)
  iterate 2 (refine wpl_p S ?_; clear S a; intro a S)
  (refine wpl_callOwn (Gs := G0) (Gr := []) S rfl rfl rfl rfl rfl rfl hc rfl (by simp) ?_; clear S a; intro u9 G9 a w hv S; obtain ⟨i9, rfl, hi9⟩ := hv; rw [List.append_nil] at S)
  iterate 2 (refine wpl_p S ?_; clear S a; intro a S)
  (refine wpList_nil (hKq2 _ _ ?_); try clear hKq2 Kq2)
  refine wp_ret (fin_ret S (results1 Tryz.results87 (RV.tmp S rfl)) ?_)
  (rw [← hi9])
/-- The map counts what was met. -/
def CntE (es : List (List UInt8 × Value)) (k : List (List UInt8)) : Prop := ∀ nm, (mGet es nm).getD (.int .i64 0) = .int .i64 ((k.count nm : Nat) : Int)
theorem CntE.set {es : List (List UInt8 × Value)} {k : List (List UInt8)} (h : CntE es k) (nm : List UInt8) : CntE (mSet es nm (.int .i64 ((k.count nm + 1 : Nat) : Int))) (k ++ [nm]) := fun x => by
  rw [List.count_append, List.count_singleton]
  by_cases e : nm = x
  · subst e
    rw [mGet_set, if_pos rfl]
    simp
  · rw [mGet_set, if_neg (fun h2 => e h2.symm), h x]
    have : (nm == x) = false := by simpa using e
    rw [this]; simp
def TwI (bm mb : Nat) (pre : List FD) (G : List Grp) : Prop := ∃ es, G = [[(bm, .cells ⟨[.map (some mb)]⟩ 163 (0, 0))], [(mb, mObj kS es)]] ∧ CntE es (pre.map FD.nm)
set_option maxHeartbeats 4000000 in
theorem twice1Ct (F : Heap) (bm mb : Nat) (pre : List FD) (x : FD) (cs : List Value) (G : List Grp) (hR : FdR F x cs) (hpl : pre.length ≤ 1000000) (hI : TwI bm mb pre G) : Ct Tryz.prog 88 ([] ++ [.agg ⟨cs⟩] ++ [.pointer (some ⟨bm, 0, none⟩)]) F G (fun _ G' u => u = .bool (twP pre x) ∧ TwI bm mb (pre ++ [x]) G') := by
  obtain ⟨es, rfl, hE⟩ := hI
  obtain ⟨v, rfl, hs⟩ := hR
  obtain ⟨ao, cap, rfl, -, -⟩ := hs
  have hct : (pre.map FD.nm).count x.nm ≤ pre.length := by have := List.count_le_length (a := x.nm) (l := pre.map FD.nm); rw [List.length_map] at this; exact this
  refine Ct.enter Tryz.func88 rfl Tryz.ntmps88 rfl fun w0 a S => ?_
  refine wp_sr fun Kq1 hKq1 => ?_
  (refine wpl_bx S ?_; clear S a; intro b2 a w S)
  (refine wpl_p S ?_; clear S a; intro a S)
  (refine wpList_nil (hKq1 _ _ (wp_sr fun Kq2 hKq2 => ?_)); try clear hKq1 Kq1)
  (refine wpl_l S ?_; clear S a; intro a S)
  (refine wpl_f S ?_; clear S a; intro a S)
  (refine wpl_l S ?_; clear S a; intro a S)
  first | (refine wpl_v S rfl rfl rfl (sv_lookupO (enc := kS) S rfl rfl rfl) ?_; clear S a; intro a S) | (refine wpl_v S rfl rfl rfl (sv_lookupF (enc := kS) S rfl rfl rfl (by assumption)) ?_; clear S a; intro a S)
  (rw [if_neg (by decide), hE x.nm] at S)
  (refine wpl_a S ?_; clear S a; intro a S)
  (rw [show ((((pre.map FD.nm).count x.nm : Nat) : Int) + 1) = (((pre.map FD.nm).count x.nm + 1 : Nat) : Int) from rfl] at S)
  (refine wpl_mapSet (enc := kS) S rfl rfl rfl rfl rfl rfl ?_; clear S; intro w S)
  (refine wpList_nil (hKq2 _ _ (wp_sr fun Kq3 hKq3 => ?_)); try clear hKq2 Kq2)
  (refine wpl_f S ?_; clear S a; intro a S)
  (refine wpl_l S ?_; clear S a; intro a S)
  iterate 2 (refine wpl_p S ?_; clear S a; intro a S)
  refine wpl_guard S rfl rfl rfl rfl rfl ?_ ?_
  · (intro h S'; clear S; have S := S'; clear S'; (try simp only [tq] at h))
    (refine wpl_l S ?_; clear S a; intro a S)
    refine wpl_take S rfl rfl rfl ?_
    (refine wpl_f S ?_; clear S a; intro a S)
    refine wpl_take S rfl rfl rfl ?_
    (refine wpl_l S ?_; clear S a; intro a S)
    refine wpl_take S rfl rfl rfl ?_
    first | (refine wpl_v S rfl rfl rfl (sv_lookupO (enc := kS) S rfl rfl rfl) ?_; clear S a; intro a S) | (refine wpl_v S rfl rfl rfl (sv_lookupF (enc := kS) S rfl rfl rfl (by assumption)) ?_; clear S a; intro a S)
    (have hE2 := hE.set x.nm; rw [if_neg (by decide), hE2 x.nm] at S)
    refine wpl_take S rfl rfl rfl ?_
    iterate 3 (refine wpl_p S ?_; clear S a; intro a S)
    (refine wpList_nil (hKq3 _ _ ?_); try clear hKq3 Kq3)
    refine wp_ret ?_
    (replace S := S.drop1)
    refine fin_ret S (results1 Tryz.results88 (RV.tmp S rfl)) ?_
    (have hE9 := hE.set x.nm; refine ⟨?_, _, rfl, (by rw [List.map_append]; exact hE9)⟩; congr 1; unfold twP; first | (have hne : ¬ x.nm = [] := (by assumption); rw [show decide (x.nm ≠ []) = true from decide_eq_true hne, Bool.true_and]; rw [Bool.eq_iff_iff, decide_eq_true_eq, decide_eq_true_eq, List.count_append, List.count_singleton]; simp only [BEq.rfl, if_true]; rw [← List.count_pos_iff]; omega) | (have hne : x.nm = [] := (by assumption); rw [show decide (x.nm ≠ []) = false from decide_eq_false (fun h9 => h9 hne), Bool.false_and]) | trace_state)
  (intro h; clear S a; intro a S; (try simp only [tq] at h))
  iterate 4 (refine wpl_k S ?_; clear S a; intro a S)
  iterate 2 (refine wpl_p S ?_; clear S a; intro a S)
  (refine wpList_nil (hKq3 _ _ ?_); try clear hKq3 Kq3)
  refine wp_ret ?_
  (replace S := S.drop1)
  refine fin_ret S (results1 Tryz.results88 (RV.tmp S rfl)) ?_
  (have hE9 := hE.set x.nm; refine ⟨?_, _, rfl, (by rw [List.map_append]; exact hE9)⟩; congr 1; unfold twP; first | (have hne : ¬ x.nm = [] := (by assumption); rw [show decide (x.nm ≠ []) = true from decide_eq_true hne, Bool.true_and]; rw [Bool.eq_iff_iff, decide_eq_true_eq, decide_eq_true_eq, List.count_append, List.count_singleton]; simp only [BEq.rfl, if_true]; rw [← List.count_pos_iff]; omega) | (have hne : x.nm = [] := (by assumption); rw [show decide (x.nm ≠ []) = false from decide_eq_false (fun h9 => h9 hne), Bool.false_and]) | trace_state)
theorem twiceCt (F : Heap) (l : List FD) (v : Value) (h : LiM F 3 FdR v l) (hl : l.length ≤ 1000000) : Ct Tryz.prog 75 [v] F [] (fun _ _ u => u = .bool (twiceD l)) := by
  have h0 := h
  obtain ⟨ao, cap, rfl, hcap, hpos⟩ := h
  refine Ct.enter Tryz.func75 rfl Tryz.ntmps75 rfl fun w0 a S => ?_
  refine wp_sr fun Kq1 hKq1 => ?_
  (refine wpl_p S ?_; clear S a; intro a S)
  (refine wpList_nil (hKq1 _ _ (wp_sr fun Kq2 hKq2 => ?_)); try clear hKq1 Kq1)
  (refine wpl_makeMap kS S rfl rfl rfl rfl ?_; clear S a; intro b4 a w S)
  (refine wpl_al S ?_; clear S a; intro b3 a w S)
  (refine wpl_store1 S rfl rfl rfl rfl rfl rfl (by first | (simp; done) | (simp [Value.cells]; done) | exact Nat.le_of_ble_eq_true rfl) ?_; clear S; intro w S)
  (refine wpList_nil (hKq2 _ _ (wp_sr fun Kq3 hKq3 => ?_)); try clear hKq2 Kq2)
  iterate 2 (refine wpl_p S ?_; clear S a; intro a S)
  (refine wpl_callOwn (Gs := [[(b3, _)], [(b4, _)]]) (Gr := []) S rfl rfl rfl rfl rfl rfl (containsDCt F l _ h0 88 [] [.pointer (some ⟨b3, 0, none⟩)] twP (TwI b3 b4) _ ⟨[], rfl, fun nm => rfl⟩ (fun k x cs G hx hR hI => twice1Ct F b3 b4 (l.take k) x cs G hR (by rw [List.length_take]; omega) hI)) rfl (by exact List.Perm.refl _) ?_; clear S a; intro u9 G9 a w hv S; subst hv)
  (refine wpl_p S ?_; clear S a; intro a S)
  (refine wpList_nil (hKq3 _ _ ?_); try clear hKq3 Kq3)
  exact wp_ret (fin_ret S (results1 Tryz.results75 (RV.tmp S rfl)) rfl)
end Go.Proofs.YtoaodbclgeeaeaaGreatDoor
