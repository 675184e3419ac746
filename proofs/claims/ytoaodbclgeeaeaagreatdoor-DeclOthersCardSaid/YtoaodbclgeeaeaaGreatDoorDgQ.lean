/- Walks: Cons, Rel, Type of a table, again: what they tell is a record of so many cells. The walk of DeclOthers. -/
import Derived.Test.YtoaodbclgeeaeaaGreatDoorDfC
import Derived.Test.YtoaodbclgeeaeaaGreatDoorDgM
namespace Go.Proofs.YtoaodbclgeeaeaaGreatDoor
open Go Go.Wk Go.Un Go.De
set_option linter.unusedSimpArgs false
set_option linter.unusedVariables false
attribute [local irreducible] Go.wpList Go.Code.wp Go.wpStill Go.Wk.wpPre Go.bodyPost Go.Calls Go.Wk.Ct Go.Wk.OwnS
attribute [local irreducible] Go.Wk.wpG Go.Wk.wpM

/-- Cells that a record of n cells may hold. -/
def Ags (n : Nat) (x : Array Value) : Prop := x.toList.length = n ∧ ∀ u ∈ x.toList, u.oneCell' = true
theorem ags {n : Nat} {l : List Value} (h : l.length = n) (h1 : l.all (fun u => u.oneCell') = true) : Ags n ⟨l⟩ := ⟨h, fun u hu => List.all_eq_true.1 h1 u hu⟩
theorem cons0ACt (F : Heap) (s : List UInt8) : Ct Tryz.prog 18 [.pointer none, .string (bs s)] F [] (fun _ _ u => ∃ x, u = .tuple ⟨[.agg x, .bool false]⟩ ∧ Ags 4 x) := by
  refine Ct.enter Tryz.func18 rfl Tryz.ntmps18 rfl fun w0 a S => ?_
  refine wp_sr fun Kq1 hKq1 => ?_
  (refine wpl_al S ?_; clear S a; intro b4 a w S)
  (refine wpl_p S ?_; clear S a; intro a S)
  (refine wpList_nil (hKq1 _ _ (wp_seq_k fun Kq2 hKq2 => ?_)); try clear hKq1 Kq1)
  refine wp_sr fun Kq3 hKq3 => ?_
  (refine wpl_p S ?_; clear S a; intro a S)
  (refine wpl_v S rfl rfl rfl (sv_lit (c := true) (sv_eqPtrNil S rfl rfl rfl) (by rfl)) ?_; clear S a; intro a S)
  (refine wpList_nil (hKq3 _ _ ?_); try clear hKq3 Kq3)
  refine wpc_true S rfl ?_
  refine wp_sr fun Kq4 hKq4 => ?_
  (refine wpl_b S ?_; clear S a; intro a S)
  (refine wpl_storeO S rfl rfl rfl rfl rfl (by rfl) (by simp [Value.cells, Value.oneCell', splice]) (by rfl) ?_; clear S; intro w S)
  (refine wpl_p S ?_; clear S a; intro a S)
  (refine wpList_nil (hKq4 _ _ ?_); try clear hKq4 Kq4)
  refine wp_ret (fin_ret S (results2 Tryz.results18 (RV.cellO S rfl (by rfl)) (RV.tmp S rfl)) ?_)
  exact ⟨_, rfl, ags rfl rfl⟩
theorem rel0ACt (F : Heap) (s : List UInt8) : Ct Tryz.prog 20 [.pointer none, .string (bs s)] F [] (fun _ _ u => ∃ x, u = .tuple ⟨[.agg x, .bool false]⟩ ∧ Ags 6 x) := by
  refine Ct.enter Tryz.func20 rfl Tryz.ntmps20 rfl fun w0 a S => ?_
  refine wp_sr fun Kq1 hKq1 => ?_
  (refine wpl_al S ?_; clear S a; intro b4 a w S)
  (refine wpl_p S ?_; clear S a; intro a S)
  (refine wpList_nil (hKq1 _ _ (wp_seq_k fun Kq2 hKq2 => ?_)); try clear hKq1 Kq1)
  refine wp_sr fun Kq3 hKq3 => ?_
  (refine wpl_p S ?_; clear S a; intro a S)
  (refine wpl_v S rfl rfl rfl (sv_lit (c := true) (sv_eqPtrNil S rfl rfl rfl) (by rfl)) ?_; clear S a; intro a S)
  (refine wpList_nil (hKq3 _ _ ?_); try clear hKq3 Kq3)
  refine wpc_true S rfl ?_
  refine wp_sr fun Kq4 hKq4 => ?_
  (refine wpl_b S ?_; clear S a; intro a S)
  (refine wpl_storeO S rfl rfl rfl rfl rfl (by rfl) (by simp [Value.cells, Value.oneCell', splice]) (by rfl) ?_; clear S; intro w S)
  (refine wpl_p S ?_; clear S a; intro a S)
  (refine wpList_nil (hKq4 _ _ ?_); try clear hKq4 Kq4)
  refine wp_ret (fin_ret S (results2 Tryz.results20 (RV.cellO S rfl (by rfl)) (RV.tmp S rfl)) ?_)
  exact ⟨_, rfl, ags rfl rfl⟩
theorem type0ACt (F : Heap) (s : List UInt8) : Ct Tryz.prog 19 [.pointer none, .string (bs s)] F [] (fun _ _ u => ∃ x, u = .tuple ⟨[.agg x, .bool false]⟩ ∧ Ags 6 x) := by
  refine Ct.enter Tryz.func19 rfl Tryz.ntmps19 rfl fun w0 a S => ?_
  refine wp_sr fun Kq1 hKq1 => ?_
  (refine wpl_al S ?_; clear S a; intro b4 a w S)
  (refine wpl_p S ?_; clear S a; intro a S)
  (refine wpList_nil (hKq1 _ _ (wp_seq_k fun Kq2 hKq2 => ?_)); try clear hKq1 Kq1)
  refine wp_sr fun Kq3 hKq3 => ?_
  (refine wpl_p S ?_; clear S a; intro a S)
  (refine wpl_v S rfl rfl rfl (sv_lit (c := true) (sv_eqPtrNil S rfl rfl rfl) (by rfl)) ?_; clear S a; intro a S)
  (refine wpList_nil (hKq3 _ _ ?_); try clear hKq3 Kq3)
  refine wpc_true S rfl ?_
  refine wp_sr fun Kq4 hKq4 => ?_
  (refine wpl_b S ?_; clear S a; intro a S)
  (refine wpl_storeO S rfl rfl rfl rfl rfl (by rfl) (by simp [Value.cells, Value.oneCell', splice]) (by rfl) ?_; clear S; intro w S)
  (refine wpl_p S ?_; clear S a; intro a S)
  (refine wpList_nil (hKq4 _ _ ?_); try clear hKq4 Kq4)
  refine wp_ret (fin_ret S (results2 Tryz.results19 (RV.cellO S rfl (by rfl)) (RV.tmp S rfl)) ?_)
  exact ⟨_, rfl, ags rfl rfl⟩
set_option maxHeartbeats 4000000 in
theorem relACt (F : Heap) (tb m1 m2 m3 : Nat) (ts : List TD) (css : List KC) (rs : List RD) (hT : TabS F tb m1 m2 m3 ts css rs) (hK : RSz0 rs) (s : List UInt8) :
    Ct Tryz.prog 20 [.pointer (some ⟨tb, 0, none⟩), .string (bs s)] F [] (fun _ _ u => ∃ x, u = .tuple ⟨[.agg x, .bool (findR rs s).isSome]⟩ ∧ Ags 6 x) := by
  have hcc : Cel F tb 2 (.map (some m3)) := hT.c 2 _ rfl
  obtain ⟨es, hes, hmm⟩ := hT.r
  refine Ct.enter Tryz.func20 rfl Tryz.ntmps20 rfl fun w0 a S => ?_
  refine wp_sr fun Kq1 hKq1 => ?_
  (refine wpl_al S ?_; clear S a; intro b4 a w S)
  (refine wpl_p S ?_; clear S a; intro a S)
  (refine wpList_nil (hKq1 _ _ (wp_seq_k fun Kq2 hKq2 => ?_)); try clear hKq1 Kq1)
  refine wp_sr fun Kq3 hKq3 => ?_
  (refine wpl_p S ?_; clear S a; intro a S)
  (refine wpl_v S rfl rfl rfl (sv_lit (c := false) (sv_eqPtrSome S rfl rfl rfl) (by rfl)) ?_; clear S a; intro a S)
  (refine wpList_nil (hKq3 _ _ ?_); try clear hKq3 Kq3)
  refine wpc_false S rfl ?_
  refine wp_skip ?_
  (refine hKq2 _ _ ?_; try (clear hKq2 Kq2))
  refine wp_sr fun Kq4 hKq4 => ?_
  (refine wpl_p S ?_; clear S a; intro a S)
  (refine wpl_s S ?_; clear S a; intro a S)
  (refine wpl_f S ?_; clear S a; intro a S)
  (refine wpl_v S rfl rfl rfl (sv_loadF S rfl rfl hcc) ?_; clear S a; intro a S)
  (refine wpl_p S ?_; clear S a; intro a S)
  (refine wpl_v S rfl rfl rfl (sv_lookupF (enc := kS) S rfl rfl rfl hes) ?_; clear S a; intro a S)
  (obtain ⟨y, ac, cc, hgd, hfs, hy, his⟩ := get_rd hmm s; obtain ⟨hy2, hy3⟩ := hK.of hy; rw [if_pos rfl, hgd, his] at S)
  iterate 3 (refine wpl_p S ?_; clear S a; intro a S)
  (refine wpl_al S ?_; clear S a; intro b6 a w S)
  (refine wpl_storeO S rfl rfl rfl rfl rfl (by rfl) (by simp [Value.cells, Value.oneCell', splice]) (by rfl) ?_; clear S; intro w S)
  (refine wpl_p S ?_; clear S a; intro a S)
  (refine wpList_nil (hKq4 _ _ (wp_sr fun Kq5 hKq5 => ?_)); try clear hKq4 Kq4)
  (refine wpl_f S ?_; clear S a; intro a S)
  (refine wpl_l S ?_; clear S a; intro a S)
  (refine wpl_c0 S (owned0 F y.fs _ hfs hy2 hy3) ?_; clear S a; intro v a w hv S; obtain ⟨a25, c25, rfl⟩ := hv)
  (refine wpl_f S ?_; clear S a; intro a S)
  (refine wpl_store1 S rfl rfl rfl rfl rfl rfl (by first | (simp; done) | (simp [Value.cells]; done) | exact Nat.le_of_ble_eq_true rfl) ?_; clear S; intro w S)
  (refine wpList_nil (hKq5 _ _ (wp_sr fun Kq6 hKq6 => ?_)); try clear hKq5 Kq5)
  (refine wpl_l S ?_; clear S a; intro a S)
  (refine wpl_p S ?_; clear S a; intro a S)
  (refine wpl_storeO S rfl rfl rfl rfl rfl (by rfl) (by simp [Value.cells, Value.oneCell', splice]) (by rfl) ?_; clear S; intro w S)
  (refine wpl_p S ?_; clear S a; intro a S)
  (refine wpList_nil (hKq6 _ _ ?_); try clear hKq6 Kq6)
  refine wp_ret (fin_ret S (results2 Tryz.results20 (RV.cellO S rfl (by rfl)) (RV.tmp S rfl)) ?_)
  exact ⟨_, rfl, ags rfl rfl⟩
set_option maxRecDepth 20000 in
set_option maxHeartbeats 8000000 in
theorem typeACt (F : Heap) (tb m1 m2 m3 : Nat) (ts : List TD) (css : List KC) (rs : List RD) (hT : TabS F tb m1 m2 m3 ts css rs) (hK : TSz ts) (s : List UInt8) :
    Ct Tryz.prog 19 [.pointer (some ⟨tb, 0, none⟩), .string (bs s)] F [] (fun _ _ u => ∃ x, u = .tuple ⟨[.agg x, .bool (declS ts s)]⟩ ∧ Ags 6 x) := by
  have hcc : Cel F tb 0 (.map (some m1)) := hT.c 0 _ rfl
  obtain ⟨es, hes, hmm⟩ := hT.t
  refine Ct.enter Tryz.func19 rfl Tryz.ntmps19 rfl fun w0 a S => ?_
  refine wp_sr fun Kq1 hKq1 => ?_
  (refine wpl_al S ?_; clear S a; intro b4 a w S)
  (refine wpl_p S ?_; clear S a; intro a S)
  (refine wpList_nil (hKq1 _ _ (wp_seq_k fun Kq2 hKq2 => ?_)); try clear hKq1 Kq1)
  refine wp_sr fun Kq3 hKq3 => ?_
  (refine wpl_p S ?_; clear S a; intro a S)
  (refine wpl_v S rfl rfl rfl (sv_lit (c := false) (sv_eqPtrSome S rfl rfl rfl) (by rfl)) ?_; clear S a; intro a S)
  (refine wpList_nil (hKq3 _ _ ?_); try clear hKq3 Kq3)
  refine wpc_false S rfl ?_
  refine wp_skip ?_
  (refine hKq2 _ _ ?_; try (clear hKq2 Kq2))
  refine wp_sr fun Kq4 hKq4 => ?_
  (refine wpl_p S ?_; clear S a; intro a S)
  (refine wpl_s S ?_; clear S a; intro a S)
  (refine wpl_f S ?_; clear S a; intro a S)
  (refine wpl_v S rfl rfl rfl (sv_loadF S rfl rfl hcc) ?_; clear S a; intro a S)
  (refine wpl_p S ?_; clear S a; intro a S)
  (refine wpl_v S rfl rfl rfl (sv_lookupF (enc := kS) S rfl rfl rfl hes) ?_; clear S a; intro a S)
  (obtain ⟨y, ap, cp, ac, cc, hgd, hps, hcs, hy, his⟩ := get_td hmm s; obtain ⟨hy1, hy2, hy3⟩ := hK.of hy; rw [if_pos rfl, hgd, his] at S)
  iterate 3 (refine wpl_p S ?_; clear S a; intro a S)
  (refine wpl_al S ?_; clear S a; intro b6 a w S)
  (refine wpl_storeO S rfl rfl rfl rfl rfl (by rfl) (by simp [Value.cells, Value.oneCell', splice]) (by rfl) ?_; clear S; intro w S)
  (refine wpl_p S ?_; clear S a; intro a S)
  (refine wpList_nil (hKq4 _ _ (wp_sr fun Kq5 hKq5 => ?_)); try clear hKq4 Kq4)
  (refine wpl_f S ?_; clear S a; intro a S)
  (refine wpl_l S ?_; clear S a; intro a S)
  (refine wpl_c0 S (cloneS0 F _ y.ps hps hy2) ?_; clear S a; intro v a w hv S; obtain ⟨a23, c23, rfl⟩ := hv)
  (refine wpl_f S ?_; clear S a; intro a S)
  (refine wpl_store1 S rfl rfl rfl rfl rfl rfl (by first | (simp; done) | (simp [Value.cells]; done) | exact Nat.le_of_ble_eq_true rfl) ?_; clear S; intro w S)
  (refine wpList_nil (hKq5 _ _ (wp_sr fun Kq6 hKq6 => ?_)); try clear hKq5 Kq5)
  (refine wpl_f S ?_; clear S a; intro a S)
  (refine wpl_l S ?_; clear S a; intro a S)
  (refine wpl_callNew S rfl rfl rfl rfl rfl rfl (cloneCCt F _ y.cs hcs hy1) rfl ?_; clear S a; intro vC G9 a w hv S; obtain ⟨gC, xC, rfl, hownC, hxC⟩ := hv; (simp only [List.singleton_append] at S))
  (refine wpl_f S ?_; clear S a; intro a S)
  (refine wpl_store1 S rfl rfl rfl rfl rfl hownC.oneCell (by first | (simp; done) | (simp [Value.cells]; done) | exact Nat.le_of_ble_eq_true rfl) ?_; clear S; intro w S)
  (refine wpList_nil (hKq6 _ _ (wp_seq_k fun Kq7 hKq7 => ?_)); try clear hKq6 Kq6)
  (refine wp_seq_k ?_; intro Kq8 hKq8)
  (have h9 := hownC.at; obtain ⟨aC0, cC0, rfl, -, -, -⟩ := h9)
  refine wp_region_lit ?_
  (refine wpl_f S ?_; clear S a; intro a S)
  (refine wpl_l S ?_; clear S a; intro a S)
  (refine wpl_n S ?_; clear S a; intro a S)
  (refine wpl_p S ?_; clear S a; intro a S)
  (refine wpList_nil (hKq8 _ _ ?_); try clear hKq8 Kq8)
  refine wp_block ?_
  refine wpc_loop (fun m a w' => ∃ (k : Nat) (vC : Value) (gC : Grp) (xC : List Value) (F5 : Heap), m = y.cs.length - k ∧ k ≤ y.cs.length ∧ (∀ b o, F b = some o → F5 b = some o) ∧ OwnS 65 2 vC y.cs.length xC gC ∧ LiC F5 2 CdR xC y.cs ∧ St 50 [(4, ptr b4), (6, ptr b6), (7, .bool (declS ts s)), (31, .int .i64 y.cs.length), (32, .int .i64 k)] w0 F [] F5 [gC, [(b6, .cells ⟨[.int .i64 y.l, .int .i64 y.c, .bool y.pub, .string (bs y.nm), .slice a23 y.ps.length c23, vC]⟩ 57 (0, 0))], [(b4, .cells ⟨[.int .i64 0, .int .i64 0, .bool false, .string (bs []), .slice none 0 0, .slice none 0 0]⟩ 57 (0, 0))]] a w') ?_ ?_
  · (refine ⟨y.cs.length, 0, _, gC, xC, F, by omega, Nat.zero_le _, fun _ _ h => h, hownC, hxC, ?_⟩; refine S.keep ?_; repeat (first | exact trivial | refine ⟨rfl, ?_⟩))
  (clear S hownC hxC; rintro m a w ⟨k, vC, gC, xC, F5, rfl, hkl, hF5, hownC, hxC, S⟩)
  refine wp_sr fun Kq9 hKq9 => ?_
  (refine wpl_p S ?_; clear S a; intro a S)
  (refine wpList_nil (hKq9 _ _ (wp_seq_k fun Kq10 hKq10 => ?_)); try clear hKq9 Kq9)
  refine wpc_split S rfl (fun h => ?_) (fun h => ?_)
  · (skip; (try simp only [tq] at h))
    refine wp_skip ?_
    (refine hKq10 _ _ ?_; try (clear hKq10 Kq10))
    (refine wp_seq_k ?_; intro Kq11 hKq11)
    refine wp_block ?_
    refine wp_sr fun Kq12 hKq12 => ?_
    iterate 2 (refine wpl_p S ?_; clear S a; intro a S)
    (refine wpList_nil (hKq12 _ _ ?_); try clear hKq12 Kq12)
    (obtain ⟨bC, capC, exC, rfl, rfl, hcq2, hcm2, hyl, hye⟩ := ownS_blkN hownC (by omega); obtain ⟨z, hz⟩ : ∃ z, y.cs[k]? = some z := ⟨_, List.getElem?_eq_getElem (by omega)⟩; obtain ⟨ya, cs3, yb, rfl, hyal, -, ⟨w4, rfl, hfs4⟩, hya, hyb⟩ := hxC.split hz; have hfsc := hfs4; obtain ⟨af, cf, rfl, -, -⟩ := hfsc; have hzsz := hy3 z (List.mem_of_getElem? hz))
    (refine wpc_mixM [0, 1, 2, 3, 4, 5, 6, 7, 8, 10, 11] [1, 4, 8] [12] (.one 0 (.one 1 (.one 2 (.one 3 (.one 4 (.one 5 (.one 6 (.one 7 (.one 8 (.one 9 (.one 10 (.one 11 (.one 12 .nil))))))))))))) [b6, bC] S mixed (by kernel_rfl) ?_; clear S; intro w S)
    (refine wpm_f S ?_; clear S a; intro a S)
    (refine wpm_o b6 S ?_; clear S a; intro a S)
    (refine wpm_p S ?_; clear S a; intro a S)
    (refine wpm_f S ?_; clear S a; intro a S)
    (refine wpm_o b6 S ?_; clear S a; intro a S)
    (refine wpm_p S ?_; clear S a; intro a S)
    (refine wpm_i S ?_; clear S a; intro a S)
    (refine wpm_f S ?_; clear S a; intro a S)
    (refine wpm_lateO bC S rfl rfl rfl (want_none _ rfl) rfl rfl (fun w' S => sv_loadO S rfl rfl (get_mid (j := 1) (cs := [.string (bs z.nm), .slice af z.fs.length cf]) hyal rfl)) ?_; clear S a; intro a S)
    refine wpm_eff rfl rfl (kwa S) ?_
    (refine wpl_cF S (ownedCt F5 z.fs _ hfs4 hzsz.2 hzsz.1.thin) ?_; clear S a; intro vf6 F6 a w hvf6 hF6 S)
    refine wpList_nil ?_
    (refine wpm_i S ?_; clear S a; intro a S)
    (refine wpm_f S ?_; clear S a; intro a S)
    refine wpm_eff rfl rfl (kwa S) ?_
    (refine wpl_store1 S rfl rfl rfl rfl rfl (lim_one hvf6) (by simp only [List.length_append, List.length_cons, List.length_nil]; omega) ?_; clear S; intro w S; rw [set_mid _ hyal (by simp)] at S)
    refine wpList_nil ?_
    (refine wpm_nil (fun h => absurd h (by decide)) (hKq11 _ _ ?_); try clear hKq11 Kq11)
    refine wp_region_lit ?_
    (refine wpl_a S ?_; clear S a; intro a S)
    (refine wpl_p S ?_; clear S a; intro a S)
    refine wpList_nil ?_
    change ∃ m', _ ∧ _
    (refine ⟨y.cs.length - (k + 1), by omega, k + 1, .slice (some ⟨bC, 0, none⟩) y.cs.length capC, _, _, F6, rfl, by omega, fun b o h => hF6 _ _ (hF5 _ _ h), ownS_mkN (b := bC) (cap := capC) (xs := ya ++ [.string (bs z.nm), vf6] ++ yb) (ex := exC) (by simp only [List.length_append, List.length_cons, List.length_nil] at hyl ⊢; omega) hcq2 hcm2 (by simp only [List.length_append, List.length_cons, List.length_nil] at hye ⊢; omega), LiC.join hz (hya.mono hF6) rfl ⟨_, rfl, hvf6⟩ (hyb.mono hF6), ?_⟩; refine S.keep ?_; repeat (first | exact trivial | refine ⟨rfl, ?_⟩))
  (skip; (try simp only [tq] at h))
  refine wp_exit ?_
  (refine hKq7 _ _ ?_; try (clear hKq7 Kq7))
  (refine wp_seq_k ?_; intro Kq11 hKq11)
  (have h9 := hownC.at; obtain ⟨aC9, cC9, rfl, -, -, -⟩ := h9)
  refine wp_region_lit ?_
  (refine wpl_l S ?_; clear S a; intro a S)
  (refine wpl_p S ?_; clear S a; intro a S)
  (refine wpl_storeO S rfl rfl rfl rfl rfl (by rfl) (by simp [Value.cells, Value.oneCell', splice]) (by rfl) ?_; clear S; intro w S)
  (refine wpl_p S ?_; clear S a; intro a S)
  (refine wpList_nil (hKq11 _ _ ?_); try clear hKq11 Kq11)
  refine wp_ret (fin_ret S (results2 Tryz.results19 (RV.cellO S rfl (by rfl)) (RV.tmp S rfl)) ?_)
  exact ⟨_, rfl, ags rfl rfl⟩
end Go.Proofs.YtoaodbclgeeaeaaGreatDoor
namespace Go.Proofs.YtoaodbclgeeaeaaGreatDoor
open Go Go.Wk Go.Un Go.De
set_option linter.unusedSimpArgs false
set_option linter.unusedVariables false
attribute [local irreducible] Go.wpList Go.Code.wp Go.wpStill Go.Wk.wpPre Go.bodyPost Go.Calls Go.Wk.Ct Go.Wk.OwnS
attribute [local irreducible] Go.Wk.wpG Go.Wk.wpM

theorem strange_of {s : List UInt8} (h0 : ¬ s = []) (h1 : ¬ (((s.getD 0 0).toNat : Nat) : Int) = 39) (h2 : ¬ s = sBool) (h3 : ¬ s = sInt) (h4 : ¬ s = sBig) (h5 : ¬ s = sText) (h6 : ¬ s = sTuple) : Strange s :=
  ⟨by unfold plainS; rw [decide_eq_false h2, decide_eq_false h3, decide_eq_false h4, decide_eq_false h5]; rfl, by rw [parS_ref, decide_eq_false (p := (s.getD 0 0).toNat = 39) (by omega), Bool.and_false], h6⟩
theorem others_tsN (s : List UInt8) (M : MD) : mdN (others s M) = mdN M + 3 := by
  show tsN (xT s :: M.ts) + rsN (xR s :: M.rs) + ruN M.ru + nvN M.nv = tsN M.ts + rsN M.rs + ruN M.ru + nvN M.nv + 3
  show 1 + 0 + (1 + 0 + 0) + tsN M.ts + (1 + 0 + rsN M.rs) + ruN M.ru + nvN M.nv = _
  omega
theorem holds_of {ts : List TD} {css : List KC} {h : VH} {L : Vf} {t : Ty} {s : List UInt8} (hm : menT s t = false) (hne : ¬ isF ts css h L t = isF (xT s :: ts) (xC s :: css) h L t) : hldV s h L = true := by
  cases hh : hldV s h L with
  | true => rfl
  | false => exact absurd (isF_x hm hh).symm hne
set_option maxRecDepth 20000 in
set_option maxHeartbeats 64000000 in
theorem declOthersCt (F : Heap) (hE : ErrT F) (M : MD) (cm : List Value) (hM : MdR F M cm) (vh : VH) (L : Vf) (cv : List Value) (hV : VaC F cv vh L) (nx : List UInt8) (ax : Fo) (cx : List Value) (hx : TyC F cx nx ax) (s : List UInt8) (hsl : s.length ≤ 140737488355328) :
    Ct Tryz.prog 6 [.agg ⟨cm⟩, .agg ⟨cv⟩, .agg ⟨cx⟩, .string (bs s)] F [] (fun _ _ u => u = .bool true) := by
  have hM0 := hM
  obtain ⟨i1, i2, i3, v1, v2, v3, v4, rfl, hm1, hm2, hm3, hm4⟩ := hM
  have hm1c := hm1
  obtain ⟨ao1, cap1, rfl, -, -⟩ := hm1c
  have hm2c := hm2
  obtain ⟨ao2, cap2, rfl, -, -⟩ := hm2c
  have hm3c := hm3
  obtain ⟨ao3, cap3, rfl, -, -⟩ := hm3c
  have hm4c := hm4
  obtain ⟨ao4, cap4, rfl, -, -⟩ := hm4c
  have hV0 := hV
  obtain ⟨vv, rfl, hL, hsb⟩ := hV
  have hLc := hL
  obtain ⟨aL, cL, rfl, -, -⟩ := hLc
  have hx0 := hx
  obtain ⟨vx, rfl, hxs⟩ := hx
  have hxc := hxs
  obtain ⟨aX, cX, rfl, -, -⟩ := hxc
  refine Ct.enter Tryz.func6 rfl Tryz.ntmps6 rfl fun w0 a S => ?_
  refine wp_sr fun Kq1 hKq1 => ?_
  (refine wpl_bx S ?_; clear S a; intro b4 a w S)
  (refine wpl_bx S ?_; clear S a; intro b5 a w S)
  (refine wpl_bx S ?_; clear S a; intro b6 a w S)
  (refine wpl_p S ?_; clear S a; intro a S)
  (refine wpList_nil (hKq1 _ _ (wp_seq_k fun Kq2 hKq2 => ?_)); try clear hKq1 Kq1)
  refine wp_sr fun Kq3 hKq3 => ?_
  (refine wpl_l S ?_; clear S a; intro a S)
  (refine wpl_c0 S (largeCt F M _ hM0) ?_; clear S a; intro v a w hv S; obtain ⟨bl, rfl, hbl⟩ := hv)
  (refine wpl_p S ?_; clear S a; intro a S)
  refine wpl_guard S rfl rfl rfl rfl rfl ?_ ?_
  · (intro h S'; clear S; have S := S'; clear S'; (try simp only [tq] at h))
    (refine wpl_l S ?_; clear S a; intro a S)
    refine wpl_take S rfl rfl rfl ?_
    (refine wpl_c0 S (weightCt F L.size vh L _ 300 (Nat.le_refl _) (by decide) hsb hL) ?_; clear S a; intro v a w hv S; obtain ⟨p1, rfl, hp1, hp1b⟩ := hv)
    refine wpl_take S rfl rfl rfl ?_
    iterate 3 (refine wpl_p S ?_; clear S a; intro a S)
    refine wpl_guard S rfl rfl rfl rfl rfl ?_ ?_
    · (intro h S'; clear S; have S := S'; clear S'; (try simp only [tq] at h))
      (refine wpl_l S ?_; clear S a; intro a S)
      refine wpl_take S rfl rfl rfl ?_
      (refine wpl_buildSlice S rfl rfl rfl rfl rfl rfl (by rfl) (by simp [Value.cells, splice, splice]) rfl (by rfl) (by rfl) ?_; clear S a; intro b30 a w hown S)
      refine wpl_take S rfl rfl rfl ?_
      (have S' := frz1 (p := (b30, .cells ⟨[.string (bs nx), .slice aX ax.len cX]⟩ 24 (0, 0))) S; clear S; obtain ⟨F1, hle1, h22, S⟩ := S'; refine wpl_c0 S (typesCt F1 (Fo.size (.cons nx ax .nil)) (.cons nx ax .nil) _ 300 (Nat.le_refl _) (by decide) (slf_of (l := .cons nx ax .nil) h22 (FoC.one (hxs.mono hle1)) (by show 1 ≤ _; decide))) ?_; clear S a; intro v a w hv S; obtain ⟨p2, rfl, hp2⟩ := hv)
      refine wpl_take S rfl rfl rfl ?_
      iterate 3 (refine wpl_p S ?_; clear S a; intro a S)
      refine wpl_guard S rfl rfl rfl rfl rfl ?_ ?_
      · (intro h S'; clear S; have S := S'; clear S'; (try simp only [tq] at h))
        (refine wpl_c0 S (awakeCt F1 (hE.mono hle1)) ?_; clear S a; intro v a w hv S; subst hv)
        refine wpl_take S rfl rfl rfl ?_
        iterate 2 (refine wpl_p S ?_; clear S a; intro a S)
        (refine wpList_nil (hKq3 _ _ ?_); try clear hKq3 Kq3)
        refine wpc_false S rfl ?_
        refine wp_skip ?_
        (refine hKq2 _ _ ?_; try (clear hKq2 Kq2))
        (refine wp_seq_k ?_; intro Kq4 hKq4)
        (have hbl2 : mdN M < 1000 := hbl (by assumption); have hp1c : p1 < 300 := (by omega); have hp1d := hp1 hp1c; have hwz := wt_size L; unfold wtV at hp1d; have hp2c := hp2; unfold Cnt at hp2c; (simp only [Fo.size] at hp2c); have hMz := hbl2; unfold mdN at hMz; have hlt := (tsN_le (l := M.ts)).1; have hlr := (rsN_le (l := M.rs)).1)
        refine wp_region_lit ?_
        (refine wpl_l S ?_; clear S a; intro a S)
        (refine wpl_cF S (newCt F1 (hE.mono hle1) M _ (mdR_mono hle1 hM0) (msz_small (by omega))) ?_; clear S a; intro u9 F3 a w hv hF3 S; obtain ⟨pp, l9, c9, rfl, hpz, -⟩ := new_shape hv; have hle3 : ∀ b o, F b = some o → F3 b = some o := (fun b o h => hF3 _ _ (hle1 _ _ h)))
        iterate 4 (refine wpl_p S ?_; clear S a; intro a S)
        (refine wpl_al S ?_; clear S a; intro b10 a w S)
        (refine wpl_p S ?_; clear S a; intro a S)
        (refine wpl_storeO S rfl rfl rfl rfl rfl (by rfl) (by simp [Value.cells, Value.oneCell', splice]) (by rfl) ?_; clear S; intro w S)
        (refine wpl_p S ?_; clear S a; intro a S)
        (refine wpList_nil (hKq4 _ _ (wp_seq_k fun Kq5 hKq5 => ?_)); try clear hKq4 Kq4)
        refine wp_sr fun Kq6 hKq6 => ?_
        iterate 2 (refine wpl_p S ?_; clear S a; intro a S)
        (refine wpList_nil (hKq6 _ _ ?_); try clear hKq6 Kq6)
        refine wpc_split S rfl (fun h => ?_) (fun h => ?_)
        · (skip; (try simp only [tq] at h))
          refine wp_sr fun Kq7 hKq7 => ?_
          (refine wpl_p S ?_; clear S a; intro a S)
          (refine wpList_nil (hKq7 _ _ ?_); try clear hKq7 Kq7)
          refine wp_ret (fin_ret S (results1 Tryz.results6 (RV.tmp S rfl)) ?_)
          (first | rfl | (congr 1; exact holds_of (t := (nx, ax)) (by assumption) (by assumption)) | trace_state)
        (skip; (try simp only [tq] at h))
        refine wp_skip ?_
        (refine hKq5 _ _ ?_; try (clear hKq5 Kq5))
        (refine wp_seq_k ?_; intro Kq7 hKq7)
        (have htk : takeE M = 0 := (by assumption); obtain ⟨tb, m1, m2, m3, rfl, hT⟩ := hpz htk)
        refine wp_region_lit ?_
        iterate 2 (refine wpl_p S ?_; clear S a; intro a S)
        (refine wpl_c0 S (typeACt F3 tb m1 m2 m3 _ _ _ hT (tsz_small (by omega)) s) ?_; clear S a; intro v a w hv S; obtain ⟨xt, rfl, hxt⟩ := hv)
        iterate 3 (refine wpl_p S ?_; clear S a; intro a S)
        (refine wpl_al S ?_; clear S a; intro b12 a w S)
        (refine wpl_storeO S rfl rfl rfl rfl rfl hxt.1 hxt.2 (by rfl) ?_; clear S; intro w S; replace S := S.drop1)
        (refine wpl_p S ?_; clear S a; intro a S)
        (refine wpList_nil (hKq7 _ _ (wp_seq_k fun Kq8 hKq8 => ?_)); try clear hKq7 Kq7)
        skip
        refine wp_region_lit ?_
        iterate 2 (refine wpl_p S ?_; clear S a; intro a S)
        (refine wpl_c0 S (consCt F3 tb m1 m2 m3 _ _ _ hT (ksz_small (by omega)) s) ?_; clear S a; intro v a w hv S; obtain ⟨yc, a1, n1, c1, a4, c4, rfl, -⟩ := hv)
        iterate 3 (refine wpl_p S ?_; clear S a; intro a S)
        (refine wpl_al S ?_; clear S a; intro b14 a w S)
        (refine wpl_storeO S rfl rfl rfl rfl rfl (by rfl) (by simp [Value.cells, Value.oneCell', splice]) (by rfl) ?_; clear S; intro w S)
        (refine wpl_p S ?_; clear S a; intro a S)
        (refine wpList_nil (hKq8 _ _ (wp_sr fun Kq9 hKq9 => ?_)); try clear hKq8 Kq8)
        iterate 2 (refine wpl_p S ?_; clear S a; intro a S)
        (refine wpl_c0 S (relACt F3 tb m1 m2 m3 _ _ _ hT (rsz0_small (by omega)) s) ?_; clear S a; intro v a w hv S; obtain ⟨xr, rfl, hxr⟩ := hv)
        iterate 3 (refine wpl_p S ?_; clear S a; intro a S)
        (refine wpl_al S ?_; clear S a; intro b16 a w S)
        (refine wpl_storeO S rfl rfl rfl rfl rfl hxr.1 hxr.2 (by rfl) ?_; clear S; intro w S; replace S := S.drop1)
        (refine wpl_p S ?_; clear S a; intro a S)
        (refine wpList_nil (hKq9 _ _ (wp_seq_k fun Kq10 hKq10 => ?_)); try clear hKq9 Kq9)
        refine wp_sr fun Kq11 hKq11 => ?_
        iterate 2 (refine wpl_p S ?_; clear S a; intro a S)
        refine wpl_guard S rfl rfl rfl rfl rfl ?_ ?_
        · (intro h S'; clear S; have S := S'; clear S'; (try simp only [tq] at h))
          iterate 3 (refine wpl_p S ?_; clear S a; intro a S)
          refine wpl_guard S rfl rfl rfl rfl rfl ?_ ?_
          · (intro h S'; clear S; have S := S'; clear S'; (try simp only [tq] at h))
            iterate 3 (refine wpl_p S ?_; clear S a; intro a S)
            refine wpl_guard S rfl rfl rfl rfl rfl ?_ ?_
            · (intro h S'; clear S; have S := S'; clear S'; (try simp only [tq] at h))
              (refine wpl_p S ?_; clear S a; intro a S)
              refine wpl_take S rfl rfl rfl ?_
              iterate 3 (refine wpl_p S ?_; clear S a; intro a S)
              refine wpl_guard S rfl rfl rfl rfl rfl ?_ ?_
              · (intro h S'; clear S; have S := S'; clear S'; (try simp only [tq] at h))
                (refine wpl_p S ?_; clear S a; intro a S)
                refine wpl_take S rfl rfl rfl ?_
                (refine wpl_v S rfl rfl rfl (sv_indexSN (i := 0) S rfl rfl rfl (by first | omega | (have h9 : 0 < s.length := List.length_pos_iff.2 (by assumption); omega))) ?_; clear S a; intro a S)
                refine wpl_take S rfl rfl rfl ?_
                iterate 3 (refine wpl_p S ?_; clear S a; intro a S)
                refine wpl_guard S rfl rfl rfl rfl rfl ?_ ?_
                · (intro h S'; clear S; have S := S'; clear S'; (try simp only [tq] at h))
                  (refine wpl_p S ?_; clear S a; intro a S)
                  refine wpl_take S rfl rfl rfl ?_
                  iterate 3 (refine wpl_p S ?_; clear S a; intro a S)
                  refine wpl_guard S rfl rfl rfl rfl rfl ?_ ?_
                  · (intro h S'; clear S; have S := S'; clear S'; (try simp only [tq] at h))
                    (refine wpl_p S ?_; clear S a; intro a S)
                    refine wpl_take S rfl rfl rfl ?_
                    iterate 3 (refine wpl_p S ?_; clear S a; intro a S)
                    refine wpl_guard S rfl rfl rfl rfl rfl ?_ ?_
                    · (intro h S'; clear S; have S := S'; clear S'; (try simp only [tq] at h))
                      (refine wpl_p S ?_; clear S a; intro a S)
                      refine wpl_take S rfl rfl rfl ?_
                      iterate 3 (refine wpl_p S ?_; clear S a; intro a S)
                      refine wpl_guard S rfl rfl rfl rfl rfl ?_ ?_
                      · (intro h S'; clear S; have S := S'; clear S'; (try simp only [tq] at h))
                        (refine wpl_p S ?_; clear S a; intro a S)
                        refine wpl_take S rfl rfl rfl ?_
                        iterate 3 (refine wpl_p S ?_; clear S a; intro a S)
                        refine wpl_guard S rfl rfl rfl rfl rfl ?_ ?_
                        · (intro h S'; clear S; have S := S'; clear S'; (try simp only [tq] at h))
                          (refine wpl_p S ?_; clear S a; intro a S)
                          refine wpl_take S rfl rfl rfl ?_
                          iterate 2 (refine wpl_p S ?_; clear S a; intro a S)
                          (refine wpList_nil (hKq11 _ _ ?_); try clear hKq11 Kq11)
                          refine wpc_split S rfl (fun h => ?_) (fun h => ?_)
                          · (skip; (try simp only [tq] at h))
                            refine wp_sr fun Kq12 hKq12 => ?_
                            (refine wpl_p S ?_; clear S a; intro a S)
                            (refine wpList_nil (hKq12 _ _ ?_); try clear hKq12 Kq12)
                            refine wp_ret (fin_ret S (results1 Tryz.results6 (RV.tmp S rfl)) ?_)
                            (first | rfl | (congr 1; exact holds_of (t := (nx, ax)) (by assumption) (by assumption)) | trace_state)
                          (skip; (try simp only [tq] at h))
                          refine wp_skip ?_
                          (refine hKq10 _ _ ?_; try (clear hKq10 Kq10))
                          (refine wp_seq_k ?_; intro Kq12 hKq12)
                          (have hst : Strange s := strange_of (by assumption) (by assumption) (by assumption) (by assumption) (by assumption) (by assumption) (by assumption); have hd9 : declS M.ts s = false := (by assumption); have hc9 : findC (consOf M.ts) s = none := none_of (by assumption); have hr9 : findR M.rs s = none := none_of (by assumption); have htk2 := takeE_x hst hd9 hc9 hr9 htk)
                          refine wp_region_lit ?_
                          iterate 2 (refine wpl_p S ?_; clear S a; intro a S)
                          (refine wpl_b S ?_; clear S a; intro a S)
                          (refine wpl_buildSlice S rfl rfl rfl rfl rfl rfl (by rfl) (by simp [Value.cells, splice, splice]) rfl (by rfl) (by rfl) ?_; clear S a; intro b104 a w hown S)
                          (refine wpl_b S ?_; clear S a; intro a S)
                          (have S' := frz1 S; clear S; obtain ⟨F4, hle4, h104, S⟩ := S'; (refine wpl_buildSlice S rfl rfl rfl rfl rfl rfl (by rfl) (by simp [Value.cells, splice]) rfl (by rfl) (by rfl) ?_; clear S a; intro b106 a w hown S))
                          (refine wpl_f S ?_; clear S a; intro a S)
                          (refine wpl_l S ?_; clear S a; intro a S)
                          (obtain ⟨aoT, capT, xT9, eT, hxT9, hpT9⟩ := (hm1.mono (fun b o h => hle4 _ _ (hle3 _ _ h))).flat; cases eT; refine wpl_appendSl S rfl rfl rfl rfl rfl rfl hown (by rfl) hxT9.len hpT9 hxT9.one' (by omega) (by omega) ?_; clear S a; intro vT gT a w hownT S)
                          (refine wpl_f S ?_; clear S a; intro a S)
                          (refine wpl_store1 S rfl rfl rfl rfl rfl hownT.oneCell (by first | (simp; done) | (simp [Value.cells]; done) | exact Nat.le_of_ble_eq_true rfl) ?_; clear S; intro w S)
                          (refine wpList_nil (hKq12 _ _ (wp_sr fun Kq13 hKq13 => ?_)); try clear hKq12 Kq12)
                          (refine wpl_p S ?_; clear S a; intro a S)
                          (refine wpl_b S ?_; clear S a; intro a S)
                          (refine wpl_buildSlice S rfl rfl rfl rfl rfl rfl (by rfl) (by simp [Value.cells, splice, splice]) rfl (by rfl) (by rfl) ?_; clear S a; intro b113 a w hown2 S)
                          (refine wpl_f S ?_; clear S a; intro a S)
                          (refine wpl_l S ?_; clear S a; intro a S)
                          (obtain ⟨aoR, capR, xR9, eR, hxR9, hpR9⟩ := (hm2.mono (fun b o h => hle4 _ _ (hle3 _ _ h))).flat; cases eR; refine wpl_appendSl S rfl rfl rfl rfl rfl rfl hown2 (by rfl) hxR9.len hpR9 hxR9.one' (by omega) (by omega) ?_; clear S a; intro vR gR a w hownR S)
                          (refine wpl_f S ?_; clear S a; intro a S)
                          (refine wpl_store1 S rfl rfl rfl rfl rfl hownR.oneCell (by first | (simp; done) | (simp [Value.cells]; done) | exact Nat.le_of_ble_eq_true rfl) ?_; clear S; intro w S)
                          (refine wpList_nil (hKq13 _ _ (wp_sr fun Kq14 hKq14 => ?_)); try clear hKq13 Kq13)
                          (refine wpl_l S ?_; clear S a; intro a S)
                          (have k104 : LiM F4 2 CdR (.slice (some ⟨b104, 0, none⟩) 1 1) [⟨s, []⟩] := lim_of (l := ([⟨s, []⟩] : List CD)) h104 (LiC.one rfl ⟨_, rfl, LiM.nil _ _ _⟩) (by show 1 ≤ _; decide); replace hownT : OwnS 57 6 vT (1 + M.ts.length) ([.int .i64 0, .int .i64 0, .bool false, .string (bs s), .slice none 0 0, .slice (some ⟨b104, 0, none⟩) 1 1] ++ xT9) gT := hownT; replace hownR : OwnS 60 6 vR (1 + M.rs.length) ([.int .i64 0, .int .i64 0, .bool false, .bool false, .string (bs s), .slice none 0 0] ++ xR9) gR := hownR; have hle5 := add_le (G1 := []) S; replace S := St.freeze (G1 := []) S; (try simp only [List.nil_append] at S hle5); have hvR : LiM (F4.add gR) 6 RdR vR (xR s :: M.rs) := LiC.lim hownR (LiC.app (l := [xR s]) (LiC.one rfl ⟨_, rfl, LiM.nil _ _ _⟩) hxR9) (by show 1 + _ = _ + 1; omega) hle5 (by omega); generalize F4.add gR = F5 at S hle5 hvR; have hle6 := add_le (G1 := []) S; replace S := St.freeze (G1 := []) S; (try simp only [List.nil_append] at S hle6); have hvT : LiM (F5.add gT) 6 TdR vT (xT s :: M.ts) := LiC.lim hownT (LiC.app (l := [xT s]) (LiC.one rfl ⟨_, _, rfl, LiM.nil _ _ _, k104.mono hle5⟩) (hxT9.mono hle5)) (by show 1 + _ = _ + 1; omega) hle6 (by omega); generalize F5.add gT = F6 at S hle6 hvT; have hF6 : ∀ b o, F b = some o → F6 b = some o := (fun b o h => hle6 _ _ (hle5 _ _ (hle4 _ _ (hle3 _ _ h)))); have hF36 : ∀ b o, F3 b = some o → F6 b = some o := (fun b o h => hle6 _ _ (hle5 _ _ (hle4 _ _ h))); refine wpl_cF S (newCt F6 (hE.mono hF6) (others s M) [.string (bs M.nm), .slice i1 i2 i3, vT, vR, .slice ao3 M.ru.length cap3, .slice ao4 M.nv.length cap4] ⟨i1, i2, i3, vT, vR, _, _, rfl, hvT, hvR.mono hle6, hm3.mono hF6, hm4.mono hF6⟩ (msz_small (by rw [others_tsN]; omega))) ?_; clear S a; intro u8 F7 a w hv2 hF7 S; obtain ⟨pp2, l8, c8, rfl, hpz2, -⟩ := new_shape hv2; obtain ⟨tb2, n1, n2, n3, rfl, hT2⟩ := hpz2 htk2; rw [htk2] at S; have hT3 : TabS F7 tb2 n1 n2 n3 (xT s :: M.ts) (xC s :: consOf M.ts) (xR s :: M.rs) := hT2; replace hT := hT.mono (fun b o h => hF7 _ _ (hF36 _ _ h)); have hF07 : ∀ b o, F b = some o → F7 b = some o := (fun b o h => hF7 _ _ (hF6 _ _ h)); have hK3 : KThin (xC s :: consOf M.ts) := kthin_small (l := xT s :: M.ts) (by show 1 + 0 + (1 + 0 + 0) + tsN M.ts ≤ _; omega))
                          iterate 4 (refine wpl_p S ?_; clear S a; intro a S)
                          (refine wpl_al S ?_; clear S a; intro b19 a w S)
                          (refine wpl_p S ?_; clear S a; intro a S)
                          (refine wpl_storeO S rfl rfl rfl rfl rfl (by rfl) (by simp [Value.cells, Value.oneCell', splice]) (by rfl) ?_; clear S; intro w S)
                          (refine wpl_p S ?_; clear S a; intro a S)
                          (refine wpList_nil (hKq14 _ _ (wp_seq_k fun Kq15 hKq15 => ?_)); try clear hKq14 Kq14)
                          (refine wpc_mixM [0, 1, 2, 3, 4, 5, 6, 7, 8, 9, 10, 11, 12, 13, 14, 15, 16, 18, 19, 20, 22, 23, 24, 25, 26, 28, 29, 30, 31, 33, 34] [4, 9, 15, 16, 19, 20, 25, 30] [] (.one 0 (.one 1 (.one 2 (.one 3 (.one 4 (.one 5 (.one 6 (.one 7 (.one 8 (.one 9 (.one 10 (.one 11 (.one 12 (.one 13 (.one 14 (.one 15 (.one 16 (.one 18 (.one 19 (.one 20 (.one 17 (.one 21 (.one 22 (.one 23 (.one 24 (.one 25 (.one 26 (.one 27 (.one 28 (.one 29 (.one 30 (.one 31 (.one 32 (.one 33 (.one 34 (.one 35 .nil)))))))))))))))))))))))))))))))))))) [b6, b5] S mixed (by kernel_rfl) ?_; clear S; intro w S)
                          (refine wpm_p S ?_; clear S a; intro a S)
                          (refine wpm_v S rfl rfl rfl (want_none _ rfl) rfl rfl (fun w' S => sv_lit (c := true) (sv_pure S rfl) (by rfl)) ?_; clear S a; intro a S)
                          (refine wpm_p S ?_; clear S a; intro a S)
                          (refine wpm_f S ?_; clear S a; intro a S)
                          (refine wpm_o b6 S ?_; clear S a; intro a S)
                          iterate 3 (refine wpm_p S ?_; clear S a; intro a S)
                          refine St.part (dj := 131) (want := false) S rfl ?_ ?_
                          · (intro h S'; clear S; have S := S'; clear S'; (try simp only [tq] at h))
                            (refine wpm_f S ?_; clear S a; intro a S)
                            (refine wpm_o b5 S ?_; clear S a; intro a S)
                            iterate 4 (refine wpm_p S ?_; clear S a; intro a S)
                            refine St.part (dj := 137) (want := false) S rfl ?_ ?_
                            · (intro h S'; clear S; have S := S'; clear S'; (try simp only [tq] at h))
                              (refine wpm_p S ?_; clear S a; intro a S)
                              (refine wpm_o b5 S ?_; clear S a; intro a S)
                              (refine wpm_o b6 S ?_; clear S a; intro a S)
                              (refine wpm_p S ?_; clear S a; intro a S)
                              (refine wpm_o b5 S ?_; clear S a; intro a S)
                              (refine wpm_o b6 S ?_; clear S a; intro a S)
                              refine wpm_eff rfl rfl (kwa S) ?_
                              refine wpl_take S rfl rfl rfl ?_
                              (refine wpl_c0 S (isCt F7 tb m1 m2 m3 _ _ _ hT (kthin_small (by omega)) vh L (by omega) _ (hV0.mono hF07) (nx, ax) _ (by show ax.size ≤ _; omega) (hx0.mono hF07)) ?_; clear S a; intro v a w hv S; subst hv)
                              refine wpList_nil ?_
                              refine wpm_eff rfl rfl (kwa S) ?_
                              refine wpl_take S rfl rfl rfl ?_
                              (refine wpl_c0 S (isCt F7 tb2 n1 n2 n3 _ _ _ hT3 hK3 vh L (by omega) _ (hV0.mono hF07) (nx, ax) _ (by show ax.size ≤ _; omega) (hx0.mono hF07)) ?_; clear S a; intro v a w hv S; subst hv)
                              refine wpList_nil ?_
                              (refine wpm_s S ?_; clear S a; intro a S)
                              iterate 2 (refine wpm_p S ?_; clear S a; intro a S)
                              refine St.part (dj := 148) (want := false) S rfl ?_ ?_
                              · (intro h S'; clear S; have S := S'; clear S'; (try simp only [tq] at h))
                                (refine wpm_o b6 S ?_; clear S a; intro a S)
                                (refine wpm_p S ?_; clear S a; intro a S)
                                refine wpm_eff rfl rfl (kwa S) ?_
                                refine wpl_take S rfl rfl rfl ?_
                                (refine wpl_c0 S (mentionsCt F7 s ax.size nx ax _ (Nat.le_refl _) (hx0.mono hF07)) ?_; clear S a; intro v a w hv S; subst hv)
                                refine wpList_nil ?_
                                iterate 2 (refine wpm_p S ?_; clear S a; intro a S)
                                refine St.part (dj := 153) (want := false) S rfl ?_ ?_
                                · (intro h S'; clear S; have S := S'; clear S'; (try simp only [tq] at h))
                                  (refine wpm_o b5 S ?_; clear S a; intro a S)
                                  (refine wpm_p S ?_; clear S a; intro a S)
                                  refine wpm_eff rfl rfl (kwa S) ?_
                                  refine wpl_take S rfl rfl rfl ?_
                                  (refine wpl_c0 S (holdsCt F7 s L.size vh L _ (Nat.le_refl _) (hV0.mono hF07)) ?_; clear S a; intro v a w hv S; subst hv)
                                  refine wpList_nil ?_
                                  iterate 2 (refine wpm_p S ?_; clear S a; intro a S)
                                  refine wpm_eff rfl rfl (kwa S) ?_
                                  (refine wpl_p S ?_; clear S a; intro a S)
                                  refine wpList_nil ?_
                                  (refine wpm_nil (kwa S) (hKq15 _ _ ?_); try clear hKq15 Kq15)
                                  refine wp_ret (fin_ret S (results1 Tryz.results6 (RV.tmp S rfl)) ?_)
                                  (first | rfl | (congr 1; exact holds_of (t := (nx, ax)) (by assumption) (by assumption)) | trace_state)
                                (intro h S'; clear S; have S := S'; clear S'; (try simp only [tq] at h))
                                iterate 2 (refine wpm_k S ?_; clear S a; intro a S)
                                (refine wpm_skipE S rfl rfl (want_no S rfl rfl rfl) (kwa S) rfl rfl ?_; clear S a; intro a S)
                                iterate 2 (refine wpm_p S ?_; clear S a; intro a S)
                                refine wpm_eff rfl rfl (kwa S) ?_
                                (refine wpl_p S ?_; clear S a; intro a S)
                                refine wpList_nil ?_
                                (refine wpm_nil (kwa S) (hKq15 _ _ ?_); try clear hKq15 Kq15)
                                refine wp_ret (fin_ret S (results1 Tryz.results6 (RV.tmp S rfl)) ?_)
                                (first | rfl | (congr 1; exact holds_of (t := (nx, ax)) (by assumption) (by assumption)) | trace_state)
                              (intro h S'; clear S; have S := S'; clear S'; (try simp only [tq] at h))
                              iterate 2 (refine wpm_k S ?_; clear S a; intro a S)
                              (refine wpm_skipE S rfl rfl (want_no S rfl rfl rfl) (kwa S) rfl rfl ?_; clear S a; intro a S)
                              iterate 2 (refine wpm_p S ?_; clear S a; intro a S)
                              iterate 2 (refine wpm_k S ?_; clear S a; intro a S)
                              (refine wpm_skipE S rfl rfl (want_no S rfl rfl rfl) (kwa S) rfl rfl ?_; clear S a; intro a S)
                              iterate 2 (refine wpm_p S ?_; clear S a; intro a S)
                              refine wpm_eff rfl rfl (kwa S) ?_
                              (refine wpl_p S ?_; clear S a; intro a S)
                              refine wpList_nil ?_
                              (refine wpm_nil (kwa S) (hKq15 _ _ ?_); try clear hKq15 Kq15)
                              refine wp_ret (fin_ret S (results1 Tryz.results6 (RV.tmp S rfl)) ?_)
                              (first | rfl | (congr 1; exact holds_of (t := (nx, ax)) (by assumption) (by assumption)) | trace_state)
                            (intro h S'; clear S; have S := S'; clear S'; (try simp only [tq] at h))
                            iterate 6 (refine wpm_k S ?_; clear S a; intro a S)
                            iterate 2 (refine wpm_skipE S rfl rfl (want_no S rfl rfl rfl) (kwa S) rfl rfl ?_; clear S a; intro a S)
                            (refine wpm_k S ?_; clear S a; intro a S)
                            iterate 2 (refine wpm_p S ?_; clear S a; intro a S)
                            iterate 2 (refine wpm_k S ?_; clear S a; intro a S)
                            (refine wpm_skipE S rfl rfl (want_no S rfl rfl rfl) (kwa S) rfl rfl ?_; clear S a; intro a S)
                            iterate 2 (refine wpm_p S ?_; clear S a; intro a S)
                            iterate 2 (refine wpm_k S ?_; clear S a; intro a S)
                            (refine wpm_skipE S rfl rfl (want_no S rfl rfl rfl) (kwa S) rfl rfl ?_; clear S a; intro a S)
                            iterate 2 (refine wpm_p S ?_; clear S a; intro a S)
                            refine wpm_eff rfl rfl (kwa S) ?_
                            (refine wpl_p S ?_; clear S a; intro a S)
                            refine wpList_nil ?_
                            (refine wpm_nil (kwa S) (hKq15 _ _ ?_); try clear hKq15 Kq15)
                            refine wp_ret (fin_ret S (results1 Tryz.results6 (RV.tmp S rfl)) ?_)
                            (first | rfl | (congr 1; exact holds_of (t := (nx, ax)) (by assumption) (by assumption)) | trace_state)
                          (intro h S'; clear S; have S := S'; clear S'; (try simp only [tq] at h))
                          iterate 4 (refine wpm_k S ?_; clear S a; intro a S)
                          iterate 2 (refine wpm_p S ?_; clear S a; intro a S)
                          iterate 6 (refine wpm_k S ?_; clear S a; intro a S)
                          iterate 2 (refine wpm_skipE S rfl rfl (want_no S rfl rfl rfl) (kwa S) rfl rfl ?_; clear S a; intro a S)
                          (refine wpm_k S ?_; clear S a; intro a S)
                          iterate 2 (refine wpm_p S ?_; clear S a; intro a S)
                          iterate 2 (refine wpm_k S ?_; clear S a; intro a S)
                          (refine wpm_skipE S rfl rfl (want_no S rfl rfl rfl) (kwa S) rfl rfl ?_; clear S a; intro a S)
                          iterate 2 (refine wpm_p S ?_; clear S a; intro a S)
                          iterate 2 (refine wpm_k S ?_; clear S a; intro a S)
                          (refine wpm_skipE S rfl rfl (want_no S rfl rfl rfl) (kwa S) rfl rfl ?_; clear S a; intro a S)
                          iterate 2 (refine wpm_p S ?_; clear S a; intro a S)
                          refine wpm_eff rfl rfl (kwa S) ?_
                          (refine wpl_p S ?_; clear S a; intro a S)
                          refine wpList_nil ?_
                          (refine wpm_nil (kwa S) (hKq15 _ _ ?_); try clear hKq15 Kq15)
                          refine wp_ret (fin_ret S (results1 Tryz.results6 (RV.tmp S rfl)) ?_)
                          (first | rfl | (congr 1; exact holds_of (t := (nx, ax)) (by assumption) (by assumption)) | trace_state)
                        (intro h; clear S a; intro a S; (try simp only [tq] at h))
                        (refine wpl_k S ?_; clear S a; intro a S)
                        (refine wpl_p S ?_; clear S a; intro a S)
                        (refine wpList_nil (hKq11 _ _ ?_); try clear hKq11 Kq11)
                        refine wpc_true S rfl ?_
                        refine wp_sr fun Kq12 hKq12 => ?_
                        (refine wpl_p S ?_; clear S a; intro a S)
                        (refine wpList_nil (hKq12 _ _ ?_); try clear hKq12 Kq12)
                        refine wp_ret (fin_ret S (results1 Tryz.results6 (RV.tmp S rfl)) ?_)
                        (first | rfl | (congr 1; exact holds_of (t := (nx, ax)) (by assumption) (by assumption)) | trace_state)
                      (intro h; clear S a; intro a S; (try simp only [tq] at h))
                      (refine wpl_k S ?_; clear S a; intro a S)
                      iterate 2 (refine wpl_p S ?_; clear S a; intro a S)
                      iterate 2 (refine wpl_k S ?_; clear S a; intro a S)
                      (refine wpl_p S ?_; clear S a; intro a S)
                      (refine wpList_nil (hKq11 _ _ ?_); try clear hKq11 Kq11)
                      refine wpc_true S rfl ?_
                      refine wp_sr fun Kq12 hKq12 => ?_
                      (refine wpl_p S ?_; clear S a; intro a S)
                      (refine wpList_nil (hKq12 _ _ ?_); try clear hKq12 Kq12)
                      refine wp_ret (fin_ret S (results1 Tryz.results6 (RV.tmp S rfl)) ?_)
                      (first | rfl | (congr 1; exact holds_of (t := (nx, ax)) (by assumption) (by assumption)) | trace_state)
                    (intro h; clear S a; intro a S; (try simp only [tq] at h))
                    (refine wpl_k S ?_; clear S a; intro a S)
                    iterate 2 (refine wpl_p S ?_; clear S a; intro a S)
                    iterate 2 (refine wpl_k S ?_; clear S a; intro a S)
                    iterate 2 (refine wpl_p S ?_; clear S a; intro a S)
                    iterate 2 (refine wpl_k S ?_; clear S a; intro a S)
                    (refine wpl_p S ?_; clear S a; intro a S)
                    (refine wpList_nil (hKq11 _ _ ?_); try clear hKq11 Kq11)
                    refine wpc_true S rfl ?_
                    refine wp_sr fun Kq12 hKq12 => ?_
                    (refine wpl_p S ?_; clear S a; intro a S)
                    (refine wpList_nil (hKq12 _ _ ?_); try clear hKq12 Kq12)
                    refine wp_ret (fin_ret S (results1 Tryz.results6 (RV.tmp S rfl)) ?_)
                    (first | rfl | (congr 1; exact holds_of (t := (nx, ax)) (by assumption) (by assumption)) | trace_state)
                  (intro h; clear S a; intro a S; (try simp only [tq] at h))
                  (refine wpl_k S ?_; clear S a; intro a S)
                  iterate 2 (refine wpl_p S ?_; clear S a; intro a S)
                  iterate 2 (refine wpl_k S ?_; clear S a; intro a S)
                  iterate 2 (refine wpl_p S ?_; clear S a; intro a S)
                  iterate 2 (refine wpl_k S ?_; clear S a; intro a S)
                  iterate 2 (refine wpl_p S ?_; clear S a; intro a S)
                  iterate 2 (refine wpl_k S ?_; clear S a; intro a S)
                  (refine wpl_p S ?_; clear S a; intro a S)
                  (refine wpList_nil (hKq11 _ _ ?_); try clear hKq11 Kq11)
                  refine wpc_true S rfl ?_
                  refine wp_sr fun Kq12 hKq12 => ?_
                  (refine wpl_p S ?_; clear S a; intro a S)
                  (refine wpList_nil (hKq12 _ _ ?_); try clear hKq12 Kq12)
                  refine wp_ret (fin_ret S (results1 Tryz.results6 (RV.tmp S rfl)) ?_)
                  (first | rfl | (congr 1; exact holds_of (t := (nx, ax)) (by assumption) (by assumption)) | trace_state)
                (intro h; clear S a; intro a S; (try simp only [tq] at h))
                (refine wpl_k S ?_; clear S a; intro a S)
                iterate 2 (refine wpl_p S ?_; clear S a; intro a S)
                iterate 2 (refine wpl_k S ?_; clear S a; intro a S)
                iterate 2 (refine wpl_p S ?_; clear S a; intro a S)
                iterate 2 (refine wpl_k S ?_; clear S a; intro a S)
                iterate 2 (refine wpl_p S ?_; clear S a; intro a S)
                iterate 2 (refine wpl_k S ?_; clear S a; intro a S)
                iterate 2 (refine wpl_p S ?_; clear S a; intro a S)
                iterate 2 (refine wpl_k S ?_; clear S a; intro a S)
                (refine wpl_p S ?_; clear S a; intro a S)
                (refine wpList_nil (hKq11 _ _ ?_); try clear hKq11 Kq11)
                refine wpc_true S rfl ?_
                refine wp_sr fun Kq12 hKq12 => ?_
                (refine wpl_p S ?_; clear S a; intro a S)
                (refine wpList_nil (hKq12 _ _ ?_); try clear hKq12 Kq12)
                refine wp_ret (fin_ret S (results1 Tryz.results6 (RV.tmp S rfl)) ?_)
                (first | rfl | (congr 1; exact holds_of (t := (nx, ax)) (by assumption) (by assumption)) | trace_state)
              (intro h; clear S a; intro a S; (try simp only [tq] at h))
              iterate 2 (refine wpl_k S ?_; clear S a; intro a S)
              iterate 2 (refine wpl_p S ?_; clear S a; intro a S)
              iterate 2 (refine wpl_k S ?_; clear S a; intro a S)
              iterate 2 (refine wpl_p S ?_; clear S a; intro a S)
              iterate 2 (refine wpl_k S ?_; clear S a; intro a S)
              iterate 2 (refine wpl_p S ?_; clear S a; intro a S)
              iterate 2 (refine wpl_k S ?_; clear S a; intro a S)
              iterate 2 (refine wpl_p S ?_; clear S a; intro a S)
              iterate 2 (refine wpl_k S ?_; clear S a; intro a S)
              iterate 2 (refine wpl_p S ?_; clear S a; intro a S)
              iterate 2 (refine wpl_k S ?_; clear S a; intro a S)
              (refine wpl_p S ?_; clear S a; intro a S)
              (refine wpList_nil (hKq11 _ _ ?_); try clear hKq11 Kq11)
              refine wpc_true S rfl ?_
              refine wp_sr fun Kq12 hKq12 => ?_
              (refine wpl_p S ?_; clear S a; intro a S)
              (refine wpList_nil (hKq12 _ _ ?_); try clear hKq12 Kq12)
              refine wp_ret (fin_ret S (results1 Tryz.results6 (RV.tmp S rfl)) ?_)
              (first | rfl | (congr 1; exact holds_of (t := (nx, ax)) (by assumption) (by assumption)) | trace_state)
            (intro h; clear S a; intro a S; (try simp only [tq] at h))
            (refine wpl_k S ?_; clear S a; intro a S)
            iterate 2 (refine wpl_p S ?_; clear S a; intro a S)
            iterate 3 (refine wpl_k S ?_; clear S a; intro a S)
            iterate 2 (refine wpl_p S ?_; clear S a; intro a S)
            iterate 2 (refine wpl_k S ?_; clear S a; intro a S)
            iterate 2 (refine wpl_p S ?_; clear S a; intro a S)
            iterate 2 (refine wpl_k S ?_; clear S a; intro a S)
            iterate 2 (refine wpl_p S ?_; clear S a; intro a S)
            iterate 2 (refine wpl_k S ?_; clear S a; intro a S)
            iterate 2 (refine wpl_p S ?_; clear S a; intro a S)
            iterate 2 (refine wpl_k S ?_; clear S a; intro a S)
            iterate 2 (refine wpl_p S ?_; clear S a; intro a S)
            iterate 2 (refine wpl_k S ?_; clear S a; intro a S)
            (refine wpl_p S ?_; clear S a; intro a S)
            (refine wpList_nil (hKq11 _ _ ?_); try clear hKq11 Kq11)
            refine wpc_true S rfl ?_
            refine wp_sr fun Kq12 hKq12 => ?_
            (refine wpl_p S ?_; clear S a; intro a S)
            (refine wpList_nil (hKq12 _ _ ?_); try clear hKq12 Kq12)
            refine wp_ret (fin_ret S (results1 Tryz.results6 (RV.tmp S rfl)) ?_)
            (first | rfl | (congr 1; exact holds_of (t := (nx, ax)) (by assumption) (by assumption)) | trace_state)
          (intro h; clear S a; intro a S; (try simp only [tq] at h))
          iterate 2 (refine wpl_p S ?_; clear S a; intro a S)
          iterate 2 (refine wpl_k S ?_; clear S a; intro a S)
          iterate 2 (refine wpl_p S ?_; clear S a; intro a S)
          iterate 3 (refine wpl_k S ?_; clear S a; intro a S)
          iterate 2 (refine wpl_p S ?_; clear S a; intro a S)
          iterate 2 (refine wpl_k S ?_; clear S a; intro a S)
          iterate 2 (refine wpl_p S ?_; clear S a; intro a S)
          iterate 2 (refine wpl_k S ?_; clear S a; intro a S)
          iterate 2 (refine wpl_p S ?_; clear S a; intro a S)
          iterate 2 (refine wpl_k S ?_; clear S a; intro a S)
          iterate 2 (refine wpl_p S ?_; clear S a; intro a S)
          iterate 2 (refine wpl_k S ?_; clear S a; intro a S)
          iterate 2 (refine wpl_p S ?_; clear S a; intro a S)
          iterate 2 (refine wpl_k S ?_; clear S a; intro a S)
          (refine wpl_p S ?_; clear S a; intro a S)
          (refine wpList_nil (hKq11 _ _ ?_); try clear hKq11 Kq11)
          refine wpc_true S rfl ?_
          refine wp_sr fun Kq12 hKq12 => ?_
          (refine wpl_p S ?_; clear S a; intro a S)
          (refine wpList_nil (hKq12 _ _ ?_); try clear hKq12 Kq12)
          refine wp_ret (fin_ret S (results1 Tryz.results6 (RV.tmp S rfl)) ?_)
          (first | rfl | (congr 1; exact holds_of (t := (nx, ax)) (by assumption) (by assumption)) | trace_state)
        (intro h; clear S a; intro a S; (try simp only [tq] at h))
        iterate 2 (refine wpl_p S ?_; clear S a; intro a S)
        (refine wpl_k S ?_; clear S a; intro a S)
        iterate 2 (refine wpl_p S ?_; clear S a; intro a S)
        iterate 2 (refine wpl_k S ?_; clear S a; intro a S)
        iterate 2 (refine wpl_p S ?_; clear S a; intro a S)
        iterate 3 (refine wpl_k S ?_; clear S a; intro a S)
        iterate 2 (refine wpl_p S ?_; clear S a; intro a S)
        iterate 2 (refine wpl_k S ?_; clear S a; intro a S)
        iterate 2 (refine wpl_p S ?_; clear S a; intro a S)
        iterate 2 (refine wpl_k S ?_; clear S a; intro a S)
        iterate 2 (refine wpl_p S ?_; clear S a; intro a S)
        iterate 2 (refine wpl_k S ?_; clear S a; intro a S)
        iterate 2 (refine wpl_p S ?_; clear S a; intro a S)
        iterate 2 (refine wpl_k S ?_; clear S a; intro a S)
        iterate 2 (refine wpl_p S ?_; clear S a; intro a S)
        iterate 2 (refine wpl_k S ?_; clear S a; intro a S)
        (refine wpl_p S ?_; clear S a; intro a S)
        (refine wpList_nil (hKq11 _ _ ?_); try clear hKq11 Kq11)
        refine wpc_true S rfl ?_
        refine wp_sr fun Kq12 hKq12 => ?_
        (refine wpl_p S ?_; clear S a; intro a S)
        (refine wpList_nil (hKq12 _ _ ?_); try clear hKq12 Kq12)
        refine wp_ret (fin_ret S (results1 Tryz.results6 (RV.tmp S rfl)) ?_)
        (first | rfl | (congr 1; exact holds_of (t := (nx, ax)) (by assumption) (by assumption)) | trace_state)
      (intro h; clear S a; intro a S; (try simp only [tq] at h))
      (refine wpl_k S ?_; clear S a; intro a S)
      (refine wpl_p S ?_; clear S a; intro a S)
      (refine wpList_nil (hKq3 _ _ ?_); try clear hKq3 Kq3)
      refine wpc_true S rfl ?_
      refine wp_sr fun Kq4 hKq4 => ?_
      (first | (refine wpl_c0 S (awakeCt _ hE) ?_; clear S a; intro v a w hv S; subst hv) | (refine wpl_c0 S (awakeCt _ (hE.mono hle1)) ?_; clear S a; intro v a w hv S; subst hv))
      (refine wpl_p S ?_; clear S a; intro a S)
      (refine wpList_nil (hKq4 _ _ ?_); try clear hKq4 Kq4)
      refine wp_ret (fin_ret S (results1 Tryz.results6 (RV.tmp S rfl)) ?_)
      (first | rfl | (congr 1; exact holds_of (t := (nx, ax)) (by assumption) (by assumption)) | trace_state)
    (intro h; clear S a; intro a S; (try simp only [tq] at h))
    iterate 3 (refine wpl_k S ?_; clear S a; intro a S)
    iterate 2 (refine wpl_p S ?_; clear S a; intro a S)
    iterate 2 (refine wpl_k S ?_; clear S a; intro a S)
    (refine wpl_p S ?_; clear S a; intro a S)
    (refine wpList_nil (hKq3 _ _ ?_); try clear hKq3 Kq3)
    refine wpc_true S rfl ?_
    refine wp_sr fun Kq4 hKq4 => ?_
    (first | (refine wpl_c0 S (awakeCt _ hE) ?_; clear S a; intro v a w hv S; subst hv) | (refine wpl_c0 S (awakeCt _ (hE.mono hle1)) ?_; clear S a; intro v a w hv S; subst hv))
    (refine wpl_p S ?_; clear S a; intro a S)
    (refine wpList_nil (hKq4 _ _ ?_); try clear hKq4 Kq4)
    refine wp_ret (fin_ret S (results1 Tryz.results6 (RV.tmp S rfl)) ?_)
    (first | rfl | (congr 1; exact holds_of (t := (nx, ax)) (by assumption) (by assumption)) | trace_state)
  (intro h; clear S a; intro a S; (try simp only [tq] at h))
  iterate 2 (refine wpl_k S ?_; clear S a; intro a S)
  iterate 2 (refine wpl_p S ?_; clear S a; intro a S)
  iterate 4 (refine wpl_k S ?_; clear S a; intro a S)
  iterate 2 (refine wpl_p S ?_; clear S a; intro a S)
  iterate 2 (refine wpl_k S ?_; clear S a; intro a S)
  (refine wpl_p S ?_; clear S a; intro a S)
  (refine wpList_nil (hKq3 _ _ ?_); try clear hKq3 Kq3)
  refine wpc_true S rfl ?_
  refine wp_sr fun Kq4 hKq4 => ?_
  (first | (refine wpl_c0 S (awakeCt _ hE) ?_; clear S a; intro v a w hv S; subst hv) | (refine wpl_c0 S (awakeCt _ (hE.mono hle1)) ?_; clear S a; intro v a w hv S; subst hv))
  (refine wpl_p S ?_; clear S a; intro a S)
  (refine wpList_nil (hKq4 _ _ ?_); try clear hKq4 Kq4)
  refine wp_ret (fin_ret S (results1 Tryz.results6 (RV.tmp S rfl)) ?_)
  (first | rfl | (congr 1; exact holds_of (t := (nx, ax)) (by assumption) (by assumption)) | trace_state)
end Go.Proofs.YtoaodbclgeeaeaaGreatDoor
