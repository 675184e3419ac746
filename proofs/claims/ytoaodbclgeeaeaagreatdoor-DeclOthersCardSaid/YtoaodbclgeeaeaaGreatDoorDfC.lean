/- Walks: Cons, Rel, Type of a table. -/
import Derived.Test.YtoaodbclgeeaeaaGreatDoorDfB
namespace Go.Proofs.YtoaodbclgeeaeaaGreatDoor
open Go Go.Wk Go.Un Go.De
set_option linter.unusedSimpArgs false
set_option linter.unusedVariables false
attribute [local irreducible] Go.wpList Go.Code.wp Go.wpStill Go.Wk.wpPre Go.bodyPost Go.Calls Go.Wk.Ct Go.Wk.OwnS
attribute [local irreducible] Go.Wk.wpG Go.Wk.wpM

def SlN (n : Nat) (u : Value) : Prop := ∃ ao c, u = .slice ao n c
theorem cloneS0 (F : Heap) (v : Value) (l : List (List UInt8)) (h : LiM F 1 StR v l) (hl : l.length ≤ 1000000) : Ct Tryz.prog 36 [v] F [] (fun _ _ u => SlN l.length u) :=
  Ct.mono (cloneSCt F v l h hl) fun F' G' u ⟨g, xs, _, h1, _⟩ => by obtain ⟨a, c, h2, _⟩ := h1.at; exact ⟨a, c, h2⟩
theorem owned0 (F : Heap) (l : List FD) (v : Value) (h : LiM F 3 FdR v l) (hl : l.length ≤ 1000000) (hth : FThin l) : Ct Tryz.prog 38 [v] F [] (fun _ _ u => SlN l.length u) :=
  Ct.mono (ownedCt F l v h hl hth) fun F' G' u h => by obtain ⟨a, c, h2, _⟩ := h; exact ⟨a, c, h2⟩
def KSz (css : List KC) : Prop := ∀ c ∈ css, c.ps.length ≤ 1000000 ∧ c.fs.length ≤ 1000000 ∧ FThin c.fs
theorem KSz.of {css : List KC} {s : List UInt8} {x : KC} (hK : KSz css) (h : findC css s = some x ∨ findC css s = none ∧ x = zKC) : x.ps.length ≤ 1000000 ∧ x.fs.length ≤ 1000000 ∧ FThin x.fs := by
  rcases h with h | ⟨-, rfl⟩
  · exact hK x (findC_mem h)
  · exact ⟨Nat.zero_le _, Nat.zero_le _, fun y hy => by cases hy⟩
set_option maxHeartbeats 4000000 in
theorem consCt (F : Heap) (tb m1 m2 m3 : Nat) (ts : List TD) (css : List KC) (rs : List RD) (hT : TabS F tb m1 m2 m3 ts css rs) (hK : KSz css) (s : List UInt8) :
    Ct Tryz.prog 18 [.pointer (some ⟨tb, 0, none⟩), .string (bs s)] F [] (fun _ _ u => ∃ x a1 n1 c1 a4 c4, u = .tuple ⟨[.agg ⟨[.string (bs x.ty), .slice a1 n1 c1, .int .i64 x.pl, .slice a4 x.fs.length c4]⟩, .bool (findC css s).isSome]⟩ ∧ (findC css s = some x ∨ findC css s = none ∧ x = zKC)) := by
  have hcc : Cel F tb 1 (.map (some m2)) := hT.c 1 _ rfl
  obtain ⟨es, hes, hmm⟩ := hT.k
  refine Ct.enter Tryz.func18 rfl Tryz.ntmps18 rfl fun w0 a S => ?_
  refine wp_sr fun Kq1 hKq1 => ?_
  (refine wpl_al S ?_; clear S a; intro b4 a w S)
  (refine wpl_p S ?_; clear S a; intro a S)
  (refine wpList_nil (hKq1 _ _ (wp_seq_k fun Kq2 hKq2 => ?_)); try clear hKq1 Kq1)
  refine wp_sr fun Kq3 hKq3 => ?_
  (refine wpl_p S ?_; clear S a; intro a S)
  (refine wpl_v S rfl rfl rfl (sv_lit (c := false) (sv_eqPtrSome S rfl rfl rfl) (by rfl)) ?_; clear S a; intro a S)
  (refine wpList_nil (hKq3 _ _ ?_); try clear hKq3 Kq3)
  refine wpc_false S rfl ?_
  refine wp_skip ?_
  (refine hKq2 _ _ ?_; try (clear hKq2 Kq2))
  refine wp_sr fun Kq4 hKq4 => ?_
  (refine wpl_p S ?_; clear S a; intro a S)
  (refine wpl_s S ?_; clear S a; intro a S)
  (refine wpl_f S ?_; clear S a; intro a S)
  (refine wpl_v S rfl rfl rfl (sv_loadF S rfl rfl hcc) ?_; clear S a; intro a S)
  (refine wpl_p S ?_; clear S a; intro a S)
  (refine wpl_v S rfl rfl rfl (sv_lookupF (enc := kS) S rfl rfl rfl hes) ?_; clear S a; intro a S)
  (obtain ⟨y, ap, cp, ac, cc, hgd, hps, hfs, hy, his⟩ := get_kc hmm s; obtain ⟨hy1, hy2, hy3⟩ := hK.of hy; rw [if_pos rfl, hgd, his] at S)
  iterate 3 (refine wpl_p S ?_; clear S a; intro a S)
  (refine wpl_al S ?_; clear S a; intro b6 a w S)
  (refine wpl_storeO S rfl rfl rfl rfl rfl (by rfl) (by simp [Value.cells, Value.oneCell', splice]) (by rfl) ?_; clear S; intro w S)
  (refine wpl_p S ?_; clear S a; intro a S)
  (refine wpList_nil (hKq4 _ _ (wp_seq_k fun Kq5 hKq5 => ?_)); try clear hKq4 Kq4)
  (refine wpc_mixM [0, 1, 3, 4, 6, 8] [1, 4] [7, 9] (.one 0 (.one 1 (.one 3 (.one 4 (.one 2 (.one 6 (.one 5 (.one 7 (.one 8 (.one 9 .nil)))))))))) [b6] S mixed (by kernel_rfl) ?_; clear S; intro w S)
  (refine wpm_f S ?_; clear S a; intro a S)
  (refine wpm_o b6 S ?_; clear S a; intro a S)
  (refine wpm_f S ?_; clear S a; intro a S)
  (refine wpm_o b6 S ?_; clear S a; intro a S)
  refine wpm_eff rfl rfl (kwa S) ?_
  (refine wpl_c0 S (cloneS0 F _ y.ps hps hy1) ?_; clear S a; intro v a w hv S; obtain ⟨a22, c22, rfl⟩ := hv)
  refine wpList_nil ?_
  (refine wpm_f S ?_; clear S a; intro a S)
  refine wpm_eff rfl rfl (kwa S) ?_
  (refine wpl_c0 S (owned0 F y.fs _ hfs hy2 hy3) ?_; clear S a; intro v a w hv S; obtain ⟨a25, c25, rfl⟩ := hv)
  refine wpList_nil ?_
  refine wpm_eff rfl rfl (kwa S) ?_
  (refine wpl_store1 S rfl rfl rfl rfl rfl rfl (by first | (simp; done) | (simp [Value.cells]; done) | exact Nat.le_of_ble_eq_true rfl) ?_; clear S; intro w S)
  refine wpList_nil ?_
  (refine wpm_f S ?_; clear S a; intro a S)
  refine wpm_eff rfl rfl (fun h => absurd h (by decide)) ?_
  (refine wpl_store1 S rfl rfl rfl rfl rfl rfl (by first | (simp; done) | (simp [Value.cells]; done) | exact Nat.le_of_ble_eq_true rfl) ?_; clear S; intro w S)
  refine wpList_nil ?_
  (refine wpm_nil (fun h => absurd h (by decide)) (hKq5 _ _ (wp_sr fun Kq6 hKq6 => ?_)); try clear hKq5 Kq5)
  (refine wpl_l S ?_; clear S a; intro a S)
  (refine wpl_p S ?_; clear S a; intro a S)
  (refine wpl_storeO S rfl rfl rfl rfl rfl (by rfl) (by simp [Value.cells, Value.oneCell', splice]) (by rfl) ?_; clear S; intro w S)
  (refine wpl_p S ?_; clear S a; intro a S)
  (refine wpList_nil (hKq6 _ _ ?_); try clear hKq6 Kq6)
  refine wp_ret (fin_ret S (results2 Tryz.results18 (RV.cellO S rfl (by rfl)) (RV.tmp S rfl)) ?_)
  exact ⟨y, _, _, _, _, _, rfl, hy⟩
theorem cons0Ct (F : Heap) (s : List UInt8) : Ct Tryz.prog 18 [.pointer none, .string (bs s)] F [] (fun _ _ u => ∃ x, u = .tuple ⟨[.agg x, .bool false]⟩) := by
  refine Ct.enter Tryz.func18 rfl Tryz.ntmps18 rfl fun w0 a S => ?_
  refine wp_sr fun Kq1 hKq1 => ?_
  (refine wpl_al S ?_; clear S a; intro b4 a w S)
  (refine wpl_p S ?_; clear S a; intro a S)
  (refine wpList_nil (hKq1 _ _ (wp_seq_k fun Kq2 hKq2 => ?_)); try clear hKq1 Kq1)
  refine wp_sr fun Kq3 hKq3 => ?_
  (refine wpl_p S ?_; clear S a; intro a S)
  (refine wpl_v S rfl rfl rfl (sv_lit (c := true) (sv_eqPtrNil S rfl rfl rfl) (by rfl)) ?_; clear S a; intro a S)
  (refine wpList_nil (hKq3 _ _ ?_); try clear hKq3 Kq3)
  refine wpc_true S rfl ?_
  refine wp_sr fun Kq4 hKq4 => ?_
  (refine wpl_b S ?_; clear S a; intro a S)
  (refine wpl_storeO S rfl rfl rfl rfl rfl (by rfl) (by simp [Value.cells, Value.oneCell', splice]) (by rfl) ?_; clear S; intro w S)
  (refine wpl_p S ?_; clear S a; intro a S)
  (refine wpList_nil (hKq4 _ _ ?_); try clear hKq4 Kq4)
  refine wp_ret (fin_ret S (results2 Tryz.results18 (RV.cellO S rfl (by rfl)) (RV.tmp S rfl)) ?_)
  exact ⟨_, rfl⟩
theorem rel0Ct (F : Heap) (s : List UInt8) : Ct Tryz.prog 20 [.pointer none, .string (bs s)] F [] (fun _ _ u => ∃ x, u = .tuple ⟨[.agg x, .bool false]⟩) := by
  refine Ct.enter Tryz.func20 rfl Tryz.ntmps20 rfl fun w0 a S => ?_
  refine wp_sr fun Kq1 hKq1 => ?_
  (refine wpl_al S ?_; clear S a; intro b4 a w S)
  (refine wpl_p S ?_; clear S a; intro a S)
  (refine wpList_nil (hKq1 _ _ (wp_seq_k fun Kq2 hKq2 => ?_)); try clear hKq1 Kq1)
  refine wp_sr fun Kq3 hKq3 => ?_
  (refine wpl_p S ?_; clear S a; intro a S)
  (refine wpl_v S rfl rfl rfl (sv_lit (c := true) (sv_eqPtrNil S rfl rfl rfl) (by rfl)) ?_; clear S a; intro a S)
  (refine wpList_nil (hKq3 _ _ ?_); try clear hKq3 Kq3)
  refine wpc_true S rfl ?_
  refine wp_sr fun Kq4 hKq4 => ?_
  (refine wpl_b S ?_; clear S a; intro a S)
  (refine wpl_storeO S rfl rfl rfl rfl rfl (by rfl) (by simp [Value.cells, Value.oneCell', splice]) (by rfl) ?_; clear S; intro w S)
  (refine wpl_p S ?_; clear S a; intro a S)
  (refine wpList_nil (hKq4 _ _ ?_); try clear hKq4 Kq4)
  refine wp_ret (fin_ret S (results2 Tryz.results20 (RV.cellO S rfl (by rfl)) (RV.tmp S rfl)) ?_)
  exact ⟨_, rfl⟩
theorem type0Ct (F : Heap) (s : List UInt8) : Ct Tryz.prog 19 [.pointer none, .string (bs s)] F [] (fun _ _ u => ∃ x, u = .tuple ⟨[.agg x, .bool false]⟩) := by
  refine Ct.enter Tryz.func19 rfl Tryz.ntmps19 rfl fun w0 a S => ?_
  refine wp_sr fun Kq1 hKq1 => ?_
  (refine wpl_al S ?_; clear S a; intro b4 a w S)
  (refine wpl_p S ?_; clear S a; intro a S)
  (refine wpList_nil (hKq1 _ _ (wp_seq_k fun Kq2 hKq2 => ?_)); try clear hKq1 Kq1)
  refine wp_sr fun Kq3 hKq3 => ?_
  (refine wpl_p S ?_; clear S a; intro a S)
  (refine wpl_v S rfl rfl rfl (sv_lit (c := true) (sv_eqPtrNil S rfl rfl rfl) (by rfl)) ?_; clear S a; intro a S)
  (refine wpList_nil (hKq3 _ _ ?_); try clear hKq3 Kq3)
  refine wpc_true S rfl ?_
  refine wp_sr fun Kq4 hKq4 => ?_
  (refine wpl_b S ?_; clear S a; intro a S)
  (refine wpl_storeO S rfl rfl rfl rfl rfl (by rfl) (by simp [Value.cells, Value.oneCell', splice]) (by rfl) ?_; clear S; intro w S)
  (refine wpl_p S ?_; clear S a; intro a S)
  (refine wpList_nil (hKq4 _ _ ?_); try clear hKq4 Kq4)
  refine wp_ret (fin_ret S (results2 Tryz.results19 (RV.cellO S rfl (by rfl)) (RV.tmp S rfl)) ?_)
  exact ⟨_, rfl⟩
def RSz0 (rs : List RD) : Prop := ∀ c ∈ rs, c.fs.length ≤ 1000000 ∧ FThin c.fs
theorem RSz0.of {rs : List RD} {s : List UInt8} {x : RD} (hK : RSz0 rs) (h : findR rs s = some x ∨ findR rs s = none ∧ x = zRD) : x.fs.length ≤ 1000000 ∧ FThin x.fs := by
  rcases h with h | ⟨-, rfl⟩
  · exact hK x (List.mem_of_find?_eq_some h)
  · exact ⟨Nat.zero_le _, fun y hy => by cases hy⟩
set_option maxHeartbeats 4000000 in
theorem relCt (F : Heap) (tb m1 m2 m3 : Nat) (ts : List TD) (css : List KC) (rs : List RD) (hT : TabS F tb m1 m2 m3 ts css rs) (hK : RSz0 rs) (s : List UInt8) :
    Ct Tryz.prog 20 [.pointer (some ⟨tb, 0, none⟩), .string (bs s)] F [] (fun _ _ u => ∃ x, u = .tuple ⟨[.agg x, .bool (findR rs s).isSome]⟩) := by
  have hcc : Cel F tb 2 (.map (some m3)) := hT.c 2 _ rfl
  obtain ⟨es, hes, hmm⟩ := hT.r
  refine Ct.enter Tryz.func20 rfl Tryz.ntmps20 rfl fun w0 a S => ?_
  refine wp_sr fun Kq1 hKq1 => ?_
  (refine wpl_al S ?_; clear S a; intro b4 a w S)
  (refine wpl_p S ?_; clear S a; intro a S)
  (refine wpList_nil (hKq1 _ _ (wp_seq_k fun Kq2 hKq2 => ?_)); try clear hKq1 Kq1)
  refine wp_sr fun Kq3 hKq3 => ?_
  (refine wpl_p S ?_; clear S a; intro a S)
  (refine wpl_v S rfl rfl rfl (sv_lit (c := false) (sv_eqPtrSome S rfl rfl rfl) (by rfl)) ?_; clear S a; intro a S)
  (refine wpList_nil (hKq3 _ _ ?_); try clear hKq3 Kq3)
  refine wpc_false S rfl ?_
  refine wp_skip ?_
  (refine hKq2 _ _ ?_; try (clear hKq2 Kq2))
  refine wp_sr fun Kq4 hKq4 => ?_
  (refine wpl_p S ?_; clear S a; intro a S)
  (refine wpl_s S ?_; clear S a; intro a S)
  (refine wpl_f S ?_; clear S a; intro a S)
  (refine wpl_v S rfl rfl rfl (sv_loadF S rfl rfl hcc) ?_; clear S a; intro a S)
  (refine wpl_p S ?_; clear S a; intro a S)
  (refine wpl_v S rfl rfl rfl (sv_lookupF (enc := kS) S rfl rfl rfl hes) ?_; clear S a; intro a S)
  (obtain ⟨y, ac, cc, hgd, hfs, hy, his⟩ := get_rd hmm s; obtain ⟨hy2, hy3⟩ := hK.of hy; rw [if_pos rfl, hgd, his] at S)
  iterate 3 (refine wpl_p S ?_; clear S a; intro a S)
  (refine wpl_al S ?_; clear S a; intro b6 a w S)
  (refine wpl_storeO S rfl rfl rfl rfl rfl (by rfl) (by simp [Value.cells, Value.oneCell', splice]) (by rfl) ?_; clear S; intro w S)
  (refine wpl_p S ?_; clear S a; intro a S)
  (refine wpList_nil (hKq4 _ _ (wp_sr fun Kq5 hKq5 => ?_)); try clear hKq4 Kq4)
  (refine wpl_f S ?_; clear S a; intro a S)
  (refine wpl_l S ?_; clear S a; intro a S)
  (refine wpl_c0 S (owned0 F y.fs _ hfs hy2 hy3) ?_; clear S a; intro v a w hv S; obtain ⟨a25, c25, rfl⟩ := hv)
  (refine wpl_f S ?_; clear S a; intro a S)
  (refine wpl_store1 S rfl rfl rfl rfl rfl rfl (by first | (simp; done) | (simp [Value.cells]; done) | exact Nat.le_of_ble_eq_true rfl) ?_; clear S; intro w S)
  (refine wpList_nil (hKq5 _ _ (wp_sr fun Kq6 hKq6 => ?_)); try clear hKq5 Kq5)
  (refine wpl_l S ?_; clear S a; intro a S)
  (refine wpl_p S ?_; clear S a; intro a S)
  (refine wpl_storeO S rfl rfl rfl rfl rfl (by rfl) (by simp [Value.cells, Value.oneCell', splice]) (by rfl) ?_; clear S; intro w S)
  (refine wpl_p S ?_; clear S a; intro a S)
  (refine wpList_nil (hKq6 _ _ ?_); try clear hKq6 Kq6)
  refine wp_ret (fin_ret S (results2 Tryz.results20 (RV.cellO S rfl (by rfl)) (RV.tmp S rfl)) ?_)
  exact ⟨_, rfl⟩
theorem TSz.of {ts : List TD} {s : List UInt8} {x : TD} (hK : TSz ts) (h : findT ts s = some x ∨ findT ts s = none ∧ x = zTD) : x.cs.length ≤ 1000000 ∧ x.ps.length ≤ 1000000 ∧ ∀ c ∈ x.cs, FSz c.fs ∧ c.fs.length ≤ 1000000 := by
  rcases h with h | ⟨-, rfl⟩
  · exact hK x (List.mem_of_find?_eq_some h)
  · exact ⟨Nat.zero_le _, Nat.zero_le _, fun y hy => by cases hy⟩
set_option maxRecDepth 20000 in
set_option maxHeartbeats 8000000 in
theorem typeCt (F : Heap) (tb m1 m2 m3 : Nat) (ts : List TD) (css : List KC) (rs : List RD) (hT : TabS F tb m1 m2 m3 ts css rs) (hK : TSz ts) (s : List UInt8) :
    Ct Tryz.prog 19 [.pointer (some ⟨tb, 0, none⟩), .string (bs s)] F [] (fun _ _ u => ∃ x, u = .tuple ⟨[.agg x, .bool (declS ts s)]⟩) := by
  have hcc : Cel F tb 0 (.map (some m1)) := hT.c 0 _ rfl
  obtain ⟨es, hes, hmm⟩ := hT.t
  refine Ct.enter Tryz.func19 rfl Tryz.ntmps19 rfl fun w0 a S => ?_
  refine wp_sr fun Kq1 hKq1 => ?_
  (refine wpl_al S ?_; clear S a; intro b4 a w S)
  (refine wpl_p S ?_; clear S a; intro a S)
  (refine wpList_nil (hKq1 _ _ (wp_seq_k fun Kq2 hKq2 => ?_)); try clear hKq1 Kq1)
  refine wp_sr fun Kq3 hKq3 => ?_
  (refine wpl_p S ?_; clear S a; intro a S)
  (refine wpl_v S rfl rfl rfl (sv_lit (c := false) (sv_eqPtrSome S rfl rfl rfl) (by rfl)) ?_; clear S a; intro a S)
  (refine wpList_nil (hKq3 _ _ ?_); try clear hKq3 Kq3)
  refine wpc_false S rfl ?_
  refine wp_skip ?_
  (refine hKq2 _ _ ?_; try (clear hKq2 Kq2))
  refine wp_sr fun Kq4 hKq4 => ?_
  (refine wpl_p S ?_; clear S a; intro a S)
  (refine wpl_s S ?_; clear S a; intro a S)
  (refine wpl_f S ?_; clear S a; intro a S)
  (refine wpl_v S rfl rfl rfl (sv_loadF S rfl rfl hcc) ?_; clear S a; intro a S)
  (refine wpl_p S ?_; clear S a; intro a S)
  (refine wpl_v S rfl rfl rfl (sv_lookupF (enc := kS) S rfl rfl rfl hes) ?_; clear S a; intro a S)
  (obtain ⟨y, ap, cp, ac, cc, hgd, hps, hcs, hy, his⟩ := get_td hmm s; obtain ⟨hy1, hy2, hy3⟩ := hK.of hy; rw [if_pos rfl, hgd, his] at S)
  iterate 3 (refine wpl_p S ?_; clear S a; intro a S)
  (refine wpl_al S ?_; clear S a; intro b6 a w S)
  (refine wpl_storeO S rfl rfl rfl rfl rfl (by rfl) (by simp [Value.cells, Value.oneCell', splice]) (by rfl) ?_; clear S; intro w S)
  (refine wpl_p S ?_; clear S a; intro a S)
  (refine wpList_nil (hKq4 _ _ (wp_sr fun Kq5 hKq5 => ?_)); try clear hKq4 Kq4)
  (refine wpl_f S ?_; clear S a; intro a S)
  (refine wpl_l S ?_; clear S a; intro a S)
  (refine wpl_c0 S (cloneS0 F _ y.ps hps hy2) ?_; clear S a; intro v a w hv S; obtain ⟨a23, c23, rfl⟩ := hv)
  (refine wpl_f S ?_; clear S a; intro a S)
  (refine wpl_store1 S rfl rfl rfl rfl rfl rfl (by first | (simp; done) | (simp [Value.cells]; done) | exact Nat.le_of_ble_eq_true rfl) ?_; clear S; intro w S)
  (refine wpList_nil (hKq5 _ _ (wp_sr fun Kq6 hKq6 => ?_)); try clear hKq5 Kq5)
  (refine wpl_f S ?_; clear S a; intro a S)
  (refine wpl_l S ?_; clear S a; intro a S)
  (refine wpl_callNew S rfl rfl rfl rfl rfl rfl (cloneCCt F _ y.cs hcs hy1) rfl ?_; clear S a; intro vC G9 a w hv S; obtain ⟨gC, xC, rfl, hownC, hxC⟩ := hv; (simp only [List.singleton_append] at S))
  (refine wpl_f S ?_; clear S a; intro a S)
  (refine wpl_store1 S rfl rfl rfl rfl rfl hownC.oneCell (by first | (simp; done) | (simp [Value.cells]; done) | exact Nat.le_of_ble_eq_true rfl) ?_; clear S; intro w S)
  (refine wpList_nil (hKq6 _ _ (wp_seq_k fun Kq7 hKq7 => ?_)); try clear hKq6 Kq6)
  (refine wp_seq_k ?_; intro Kq8 hKq8)
  (have h9 := hownC.at; obtain ⟨aC0, cC0, rfl, -, -, -⟩ := h9)
  refine wp_region_lit ?_
  (refine wpl_f S ?_; clear S a; intro a S)
  (refine wpl_l S ?_; clear S a; intro a S)
  (refine wpl_n S ?_; clear S a; intro a S)
  (refine wpl_p S ?_; clear S a; intro a S)
  (refine wpList_nil (hKq8 _ _ ?_); try clear hKq8 Kq8)
  refine wp_block ?_
  refine wpc_loop (fun m a w' => ∃ (k : Nat) (vC : Value) (gC : Grp) (xC : List Value) (F5 : Heap), m = y.cs.length - k ∧ k ≤ y.cs.length ∧ (∀ b o, F b = some o → F5 b = some o) ∧ OwnS 65 2 vC y.cs.length xC gC ∧ LiC F5 2 CdR xC y.cs ∧ St 50 [(4, ptr b4), (6, ptr b6), (7, .bool (declS ts s)), (31, .int .i64 y.cs.length), (32, .int .i64 k)] w0 F [] F5 [gC, [(b6, .cells ⟨[.int .i64 y.l, .int .i64 y.c, .bool y.pub, .string (bs y.nm), .slice a23 y.ps.length c23, vC]⟩ 57 (0, 0))], [(b4, .cells ⟨[.int .i64 0, .int .i64 0, .bool false, .string (bs []), .slice none 0 0, .slice none 0 0]⟩ 57 (0, 0))]] a w') ?_ ?_
  · (refine ⟨y.cs.length, 0, _, gC, xC, F, by omega, Nat.zero_le _, fun _ _ h => h, hownC, hxC, ?_⟩; refine S.keep ?_; repeat (first | exact trivial | refine ⟨rfl, ?_⟩))
  (clear S hownC hxC; rintro m a w ⟨k, vC, gC, xC, F5, rfl, hkl, hF5, hownC, hxC, S⟩)
  refine wp_sr fun Kq9 hKq9 => ?_
  (refine wpl_p S ?_; clear S a; intro a S)
  (refine wpList_nil (hKq9 _ _ (wp_seq_k fun Kq10 hKq10 => ?_)); try clear hKq9 Kq9)
  refine wpc_split S rfl (fun h => ?_) (fun h => ?_)
  · (skip; (try simp only [tq] at h))
    refine wp_skip ?_
    (refine hKq10 _ _ ?_; try (clear hKq10 Kq10))
    (refine wp_seq_k ?_; intro Kq11 hKq11)
    refine wp_block ?_
    refine wp_sr fun Kq12 hKq12 => ?_
    iterate 2 (refine wpl_p S ?_; clear S a; intro a S)
    (refine wpList_nil (hKq12 _ _ ?_); try clear hKq12 Kq12)
    (obtain ⟨bC, capC, exC, rfl, rfl, hcq2, hcm2, hyl, hye⟩ := ownS_blkN hownC (by omega); obtain ⟨z, hz⟩ : ∃ z, y.cs[k]? = some z := ⟨_, List.getElem?_eq_getElem (by omega)⟩; obtain ⟨ya, cs3, yb, rfl, hyal, -, ⟨w4, rfl, hfs4⟩, hya, hyb⟩ := hxC.split hz; have hfsc := hfs4; obtain ⟨af, cf, rfl, -, -⟩ := hfsc; have hzsz := hy3 z (List.mem_of_getElem? hz))
    (refine wpc_mixM [0, 1, 2, 3, 4, 5, 6, 7, 8, 10, 11] [1, 4, 8] [12] (.one 0 (.one 1 (.one 2 (.one 3 (.one 4 (.one 5 (.one 6 (.one 7 (.one 8 (.one 9 (.one 10 (.one 11 (.one 12 .nil))))))))))))) [b6, bC] S mixed (by kernel_rfl) ?_; clear S; intro w S)
    (refine wpm_f S ?_; clear S a; intro a S)
    (refine wpm_o b6 S ?_; clear S a; intro a S)
    (refine wpm_p S ?_; clear S a; intro a S)
    (refine wpm_f S ?_; clear S a; intro a S)
    (refine wpm_o b6 S ?_; clear S a; intro a S)
    (refine wpm_p S ?_; clear S a; intro a S)
    (refine wpm_i S ?_; clear S a; intro a S)
    (refine wpm_f S ?_; clear S a; intro a S)
    (refine wpm_lateO bC S rfl rfl rfl (want_none _ rfl) rfl rfl (fun w' S => sv_loadO S rfl rfl (get_mid (j := 1) (cs := [.string (bs z.nm), .slice af z.fs.length cf]) hyal rfl)) ?_; clear S a; intro a S)
    refine wpm_eff rfl rfl (kwa S) ?_
    (refine wpl_cF S (ownedCt F5 z.fs _ hfs4 hzsz.2 hzsz.1.thin) ?_; clear S a; intro vf6 F6 a w hvf6 hF6 S)
    refine wpList_nil ?_
    (refine wpm_i S ?_; clear S a; intro a S)
    (refine wpm_f S ?_; clear S a; intro a S)
    refine wpm_eff rfl rfl (kwa S) ?_
    (refine wpl_store1 S rfl rfl rfl rfl rfl (lim_one hvf6) (by simp only [List.length_append, List.length_cons, List.length_nil]; omega) ?_; clear S; intro w S; rw [set_mid _ hyal (by simp)] at S)
    refine wpList_nil ?_
    (refine wpm_nil (fun h => absurd h (by decide)) (hKq11 _ _ ?_); try clear hKq11 Kq11)
    refine wp_region_lit ?_
    (refine wpl_a S ?_; clear S a; intro a S)
    (refine wpl_p S ?_; clear S a; intro a S)
    refine wpList_nil ?_
    change ∃ m', _ ∧ _
    (refine ⟨y.cs.length - (k + 1), by omega, k + 1, .slice (some ⟨bC, 0, none⟩) y.cs.length capC, _, _, F6, rfl, by omega, fun b o h => hF6 _ _ (hF5 _ _ h), ownS_mkN (b := bC) (cap := capC) (xs := ya ++ [.string (bs z.nm), vf6] ++ yb) (ex := exC) (by simp only [List.length_append, List.length_cons, List.length_nil] at hyl ⊢; omega) hcq2 hcm2 (by simp only [List.length_append, List.length_cons, List.length_nil] at hye ⊢; omega), LiC.join hz (hya.mono hF6) rfl ⟨_, rfl, hvf6⟩ (hyb.mono hF6), ?_⟩; refine S.keep ?_; repeat (first | exact trivial | refine ⟨rfl, ?_⟩))
  (skip; (try simp only [tq] at h))
  refine wp_exit ?_
  (refine hKq7 _ _ ?_; try (clear hKq7 Kq7))
  (refine wp_seq_k ?_; intro Kq11 hKq11)
  (have h9 := hownC.at; obtain ⟨aC9, cC9, rfl, -, -, -⟩ := h9)
  refine wp_region_lit ?_
  (refine wpl_l S ?_; clear S a; intro a S)
  (refine wpl_p S ?_; clear S a; intro a S)
  (refine wpl_storeO S rfl rfl rfl rfl rfl (by rfl) (by simp [Value.cells, Value.oneCell', splice]) (by rfl) ?_; clear S; intro w S)
  (refine wpl_p S ?_; clear S a; intro a S)
  (refine wpList_nil (hKq11 _ _ ?_); try clear hKq11 Kq11)
  refine wp_ret (fin_ret S (results2 Tryz.results19 (RV.cellO S rfl (by rfl)) (RV.tmp S rfl)) ?_)
  exact ⟨_, rfl⟩
end Go.Proofs.YtoaodbclgeeaeaaGreatDoor
