/- What is known of declared types' records that a region makes, for regions that draw their order. Walks: Cons, Rel, Type of a table, again: what they tell is a record of so many cells. How much a program is. What a small program's sizes are; what New tells, in one form. The walk of DeclNames: the examples, the errors, nobody's table. -/
import Derived.Test.YtoaodbclgeeaeaaGreatDoorWk15
import Derived.Test.YtoaodbclgeeaeaaGreatDoorOp2
import Derived.Test.YtoaodbclgeeaeaaGreatDoorDfD
import Derived.Test.YtoaodbclgeeaeaaGreatDoorDfC
import Derived.Test.YtoaodbclgeeaeaaGreatDoorDeE
import Derived.Test.YtoaodbclgeeaeaaGreatDoorDfE
namespace Go.Proofs.YtoaodbclgeeaeaaGreatDoor
open Go Go.Wk Go.Un Go.De
set_option linter.unusedSimpArgs false
set_option linter.unusedVariables false

instance : Mon TyR := ⟨fun hF h => TyC.mono hF h⟩
instance {α : Type} {sz : Nat} {R : Heap → α → List Value → Prop} [hR : Mon R] : Mon (RoR sz R) := ⟨fun hF ⟨cs, v, h1, h2, h3, h4⟩ => ⟨cs, v, h1, h2, hR.h hF h3, h4.mono hF⟩⟩
instance : Mon MdR := ⟨fun hF ⟨i1, i2, i3, v1, v2, v3, v4, e, h1, h2, h3, h4⟩ => ⟨i1, i2, i3, v1, v2, v3, v4, e, h1.mono hF, h2.mono hF, h3.mono hF, h4.mono hF⟩⟩
/-- A program, and a number behind it. -/
def ExR (F : Heap) (x : MD × Int) (cs : List Value) : Prop := ∃ cm, cs = cm ++ [.int .i64 x.2] ∧ MdR F x.1 cm
instance : Mon ExR := ⟨fun hF ⟨cm, e, h⟩ => ⟨cm, e, Mon.h hF h⟩⟩
def pRec {α : Type} (n : Nat) (R : Heap → α → List Value → Prop) [hR : Mon R] (x : α) : PM := ⟨fun v F => ∃ cs, v = .agg ⟨cs⟩ ∧ cs.length = n ∧ R F x cs, fun v F F' h ⟨cs, e, hn, hr⟩ => ⟨cs, e, hn, hR.h h hr⟩⟩
def pLim {α : Type} (sz : Nat) (R : Heap → α → List Value → Prop) [hR : Mon R] (l : List α) : PM := ⟨fun v F => LiM F sz R v l, fun v F F' h hv => hv.mono h⟩
def pTrs {α : Type} (sz : Nat) (R : Heap → α → List Value → Prop) [hR : Mon R] (l : Rose α) : PM := ⟨fun v F => TrS F sz R v l, fun v F F' h hv => hv.mono h⟩
def pSlf (l : Fo) : PM := ⟨fun v F => SlF F v l, fun v F F' h hv => hv.mono h⟩
theorem FoC.of {F : Heap} {x : List UInt8 × Fo} {cs : List Value} (h : TyR F x cs) : FoC F cs (.cons x.1 x.2 .nil) := by
  obtain ⟨v, rfl, h⟩ := h
  exact FoC.one h
theorem trs_ofC {α : Type} {F : Heap} {sz q : Nat} {R : Heap → α → List Value → Prop} {v : Value} {xs : List Value} {l : List (α × Rose α)} (h : SlC F v q xs) (hl : LiC F sz (RoR sz R) xs l) (hq : l.length = q) (hm : q ≤ 140737488355328) : TrS F sz R v (roseOf l) :=
  trs_lim (Go.De.lim_slc h hl hq hm)
theorem trs_of1 {α : Type} {F : Heap} {b sz : Nat} {cs : List Value} {e : TypeId} {R : Heap → α → List Value → Prop} {x : α × Rose α} (h : F b = some (.cells ⟨cs⟩ e (0, 0))) (hx : RoR sz R F x cs) : TrS F sz R (.slice (some ⟨b, 0, none⟩) 1 1) (.cons x.1 x.2 .nil) := by
  have hl : cs.length = sz := by obtain ⟨c, v, rfl, h2, _⟩ := hx; rw [List.length_append]; exact h2
  exact trs_lim (l := [x]) (lim_of (l := [x]) h (LiC.one hl hx) (by show 1 ≤ _; decide))
end Go.Proofs.YtoaodbclgeeaeaaGreatDoor
namespace Go.Proofs.YtoaodbclgeeaeaaGreatDoor
open Go Go.Wk Go.Un Go.De
set_option linter.unusedSimpArgs false
set_option linter.unusedVariables false
attribute [local irreducible] Go.wpList Go.Code.wp Go.wpStill Go.Wk.wpPre Go.bodyPost Go.Calls Go.Wk.Ct Go.Wk.OwnS
attribute [local irreducible] Go.Wk.wpG Go.Wk.wpM

/-- Cells that a record of n cells may hold. -/
def Ags (n : Nat) (x : Array Value) : Prop := x.toList.length = n ∧ ∀ u ∈ x.toList, u.oneCell' = true
theorem ags {n : Nat} {l : List Value} (h : l.length = n) (h1 : l.all (fun u => u.oneCell') = true) : Ags n ⟨l⟩ := ⟨h, fun u hu => List.all_eq_true.1 h1 u hu⟩
theorem cons0ACt (F : Heap) (s : List UInt8) : Ct Tryz.prog 18 [.pointer none, .string (bs s)] F [] (fun _ _ u => ∃ x, u = .tuple ⟨[.agg x, .bool false]⟩ ∧ Ags 4 x) := by
  refine Ct.enter Tryz.func18 rfl Tryz.ntmps18 rfl fun w0 a S => ?_
  refine wp_sr fun Kq1 hKq1 => ?_
  (refine wpl_al S ?_; clear S a; intro b4 a w S)
  (refine wpl_p S ?_; clear S a; intro a S)
  (refine wpList_nil (hKq1 _ _ (wp_seq_k fun Kq2 hKq2 => ?_)); try clear hKq1 Kq1)
  refine wp_sr fun Kq3 hKq3 => ?_
  (refine wpl_p S ?_; clear S a; intro a S)
  (refine wpl_v S rfl rfl rfl (sv_lit (c := true) (sv_eqPtrNil S rfl rfl rfl) (by rfl)) ?_; clear S a; intro a S)
  (refine wpList_nil (hKq3 _ _ ?_); try clear hKq3 Kq3)
  refine wpc_true S rfl ?_
  refine wp_sr fun Kq4 hKq4 => ?_
  (refine wpl_b S ?_; clear S a; intro a S)
  (refine wpl_storeO S rfl rfl rfl rfl rfl (by rfl) (by simp [Value.cells, Value.oneCell', splice]) (by rfl) ?_; clear S; intro w S)
  (refine wpl_p S ?_; clear S a; intro a S)
  (refine wpList_nil (hKq4 _ _ ?_); try clear hKq4 Kq4)
  refine wp_ret (fin_ret S (results2 Tryz.results18 (RV.cellO S rfl (by rfl)) (RV.tmp S rfl)) ?_)
  exact ⟨_, rfl, ags rfl rfl⟩
theorem rel0ACt (F : Heap) (s : List UInt8) : Ct Tryz.prog 20 [.pointer none, .string (bs s)] F [] (fun _ _ u => ∃ x, u = .tuple ⟨[.agg x, .bool false]⟩ ∧ Ags 6 x) := by
  refine Ct.enter Tryz.func20 rfl Tryz.ntmps20 rfl fun w0 a S => ?_
  refine wp_sr fun Kq1 hKq1 => ?_
  (refine wpl_al S ?_; clear S a; intro b4 a w S)
  (refine wpl_p S ?_; clear S a; intro a S)
  (refine wpList_nil (hKq1 _ _ (wp_seq_k fun Kq2 hKq2 => ?_)); try clear hKq1 Kq1)
  refine wp_sr fun Kq3 hKq3 => ?_
  (refine wpl_p S ?_; clear S a; intro a S)
  (refine wpl_v S rfl rfl rfl (sv_lit (c := true) (sv_eqPtrNil S rfl rfl rfl) (by rfl)) ?_; clear S a; intro a S)
  (refine wpList_nil (hKq3 _ _ ?_); try clear hKq3 Kq3)
  refine wpc_true S rfl ?_
  refine wp_sr fun Kq4 hKq4 => ?_
  (refine wpl_b S ?_; clear S a; intro a S)
  (refine wpl_storeO S rfl rfl rfl rfl rfl (by rfl) (by simp [Value.cells, Value.oneCell', splice]) (by rfl) ?_; clear S; intro w S)
  (refine wpl_p S ?_; clear S a; intro a S)
  (refine wpList_nil (hKq4 _ _ ?_); try clear hKq4 Kq4)
  refine wp_ret (fin_ret S (results2 Tryz.results20 (RV.cellO S rfl (by rfl)) (RV.tmp S rfl)) ?_)
  exact ⟨_, rfl, ags rfl rfl⟩
theorem type0ACt (F : Heap) (s : List UInt8) : Ct Tryz.prog 19 [.pointer none, .string (bs s)] F [] (fun _ _ u => ∃ x, u = .tuple ⟨[.agg x, .bool false]⟩ ∧ Ags 6 x) := by
  refine Ct.enter Tryz.func19 rfl Tryz.ntmps19 rfl fun w0 a S => ?_
  refine wp_sr fun Kq1 hKq1 => ?_
  (refine wpl_al S ?_; clear S a; intro b4 a w S)
  (refine wpl_p S ?_; clear S a; intro a S)
  (refine wpList_nil (hKq1 _ _ (wp_seq_k fun Kq2 hKq2 => ?_)); try clear hKq1 Kq1)
  refine wp_sr fun Kq3 hKq3 => ?_
  (refine wpl_p S ?_; clear S a; intro a S)
  (refine wpl_v S rfl rfl rfl (sv_lit (c := true) (sv_eqPtrNil S rfl rfl rfl) (by rfl)) ?_; clear S a; intro a S)
  (refine wpList_nil (hKq3 _ _ ?_); try clear hKq3 Kq3)
  refine wpc_true S rfl ?_
  refine wp_sr fun Kq4 hKq4 => ?_
  (refine wpl_b S ?_; clear S a; intro a S)
  (refine wpl_storeO S rfl rfl rfl rfl rfl (by rfl) (by simp [Value.cells, Value.oneCell', splice]) (by rfl) ?_; clear S; intro w S)
  (refine wpl_p S ?_; clear S a; intro a S)
  (refine wpList_nil (hKq4 _ _ ?_); try clear hKq4 Kq4)
  refine wp_ret (fin_ret S (results2 Tryz.results19 (RV.cellO S rfl (by rfl)) (RV.tmp S rfl)) ?_)
  exact ⟨_, rfl, ags rfl rfl⟩
set_option maxHeartbeats 4000000 in
theorem relACt (F : Heap) (tb m1 m2 m3 : Nat) (ts : List TD) (css : List KC) (rs : List RD) (hT : TabS F tb m1 m2 m3 ts css rs) (hK : RSz0 rs) (s : List UInt8) :
    Ct Tryz.prog 20 [.pointer (some ⟨tb, 0, none⟩), .string (bs s)] F [] (fun _ _ u => ∃ x, u = .tuple ⟨[.agg x, .bool (findR rs s).isSome]⟩ ∧ Ags 6 x) := by
  have hcc : Cel F tb 2 (.map (some m3)) := hT.c 2 _ rfl
  obtain ⟨es, hes, hmm⟩ := hT.r
  refine Ct.enter Tryz.func20 rfl Tryz.ntmps20 rfl fun w0 a S => ?_
  refine wp_sr fun Kq1 hKq1 => ?_
  (refine wpl_al S ?_; clear S a; intro b4 a w S)
  (refine wpl_p S ?_; clear S a; intro a S)
  (refine wpList_nil (hKq1 _ _ (wp_seq_k fun Kq2 hKq2 => ?_)); try clear hKq1 Kq1)
  refine wp_sr fun Kq3 hKq3 => ?_
  (refine wpl_p S ?_; clear S a; intro a S)
  (refine wpl_v S rfl rfl rfl (sv_lit (c := false) (sv_eqPtrSome S rfl rfl rfl) (by rfl)) ?_; clear S a; intro a S)
  (refine wpList_nil (hKq3 _ _ ?_); try clear hKq3 Kq3)
  refine wpc_false S rfl ?_
  refine wp_skip ?_
  (refine hKq2 _ _ ?_; try (clear hKq2 Kq2))
  refine wp_sr fun Kq4 hKq4 => ?_
  (refine wpl_p S ?_; clear S a; intro a S)
  (refine wpl_s S ?_; clear S a; intro a S)
  (refine wpl_f S ?_; clear S a; intro a S)
  (refine wpl_v S rfl rfl rfl (sv_loadF S rfl rfl hcc) ?_; clear S a; intro a S)
  (refine wpl_p S ?_; clear S a; intro a S)
  (refine wpl_v S rfl rfl rfl (sv_lookupF (enc := kS) S rfl rfl rfl hes) ?_; clear S a; intro a S)
  (obtain ⟨y, ac, cc, hgd, hfs, hy, his⟩ := get_rd hmm s; obtain ⟨hy2, hy3⟩ := hK.of hy; rw [if_pos rfl, hgd, his] at S)
  iterate 3 (refine wpl_p S ?_; clear S a; intro a S)
  (refine wpl_al S ?_; clear S a; intro b6 a w S)
  (refine wpl_storeO S rfl rfl rfl rfl rfl (by rfl) (by simp [Value.cells, Value.oneCell', splice]) (by rfl) ?_; clear S; intro w S)
  (refine wpl_p S ?_; clear S a; intro a S)
  (refine wpList_nil (hKq4 _ _ (wp_sr fun Kq5 hKq5 => ?_)); try clear hKq4 Kq4)
  (refine wpl_f S ?_; clear S a; intro a S)
  (refine wpl_l S ?_; clear S a; intro a S)
  (refine wpl_c0 S (owned0 F y.fs _ hfs hy2 hy3) ?_; clear S a; intro v a w hv S; obtain ⟨a25, c25, rfl⟩ := hv)
  (refine wpl_f S ?_; clear S a; intro a S)
  (refine wpl_store1 S rfl rfl rfl rfl rfl rfl (by first | (simp; done) | (simp [Value.cells]; done) | exact Nat.le_of_ble_eq_true rfl) ?_; clear S; intro w S)
  (refine wpList_nil (hKq5 _ _ (wp_sr fun Kq6 hKq6 => ?_)); try clear hKq5 Kq5)
  (refine wpl_l S ?_; clear S a; intro a S)
  (refine wpl_p S ?_; clear S a; intro a S)
  (refine wpl_storeO S rfl rfl rfl rfl rfl (by rfl) (by simp [Value.cells, Value.oneCell', splice]) (by rfl) ?_; clear S; intro w S)
  (refine wpl_p S ?_; clear S a; intro a S)
  (refine wpList_nil (hKq6 _ _ ?_); try clear hKq6 Kq6)
  refine wp_ret (fin_ret S (results2 Tryz.results20 (RV.cellO S rfl (by rfl)) (RV.tmp S rfl)) ?_)
  exact ⟨_, rfl, ags rfl rfl⟩
set_option maxRecDepth 20000 in
set_option maxHeartbeats 8000000 in
theorem typeACt (F : Heap) (tb m1 m2 m3 : Nat) (ts : List TD) (css : List KC) (rs : List RD) (hT : TabS F tb m1 m2 m3 ts css rs) (hK : TSz ts) (s : List UInt8) :
    Ct Tryz.prog 19 [.pointer (some ⟨tb, 0, none⟩), .string (bs s)] F [] (fun _ _ u => ∃ x, u = .tuple ⟨[.agg x, .bool (declS ts s)]⟩ ∧ Ags 6 x) := by
  have hcc : Cel F tb 0 (.map (some m1)) := hT.c 0 _ rfl
  obtain ⟨es, hes, hmm⟩ := hT.t
  refine Ct.enter Tryz.func19 rfl Tryz.ntmps19 rfl fun w0 a S => ?_
  refine wp_sr fun Kq1 hKq1 => ?_
  (refine wpl_al S ?_; clear S a; intro b4 a w S)
  (refine wpl_p S ?_; clear S a; intro a S)
  (refine wpList_nil (hKq1 _ _ (wp_seq_k fun Kq2 hKq2 => ?_)); try clear hKq1 Kq1)
  refine wp_sr fun Kq3 hKq3 => ?_
  (refine wpl_p S ?_; clear S a; intro a S)
  (refine wpl_v S rfl rfl rfl (sv_lit (c := false) (sv_eqPtrSome S rfl rfl rfl) (by rfl)) ?_; clear S a; intro a S)
  (refine wpList_nil (hKq3 _ _ ?_); try clear hKq3 Kq3)
  refine wpc_false S rfl ?_
  refine wp_skip ?_
  (refine hKq2 _ _ ?_; try (clear hKq2 Kq2))
  refine wp_sr fun Kq4 hKq4 => ?_
  (refine wpl_p S ?_; clear S a; intro a S)
  (refine wpl_s S ?_; clear S a; intro a S)
  (refine wpl_f S ?_; clear S a; intro a S)
  (refine wpl_v S rfl rfl rfl (sv_loadF S rfl rfl hcc) ?_; clear S a; intro a S)
  (refine wpl_p S ?_; clear S a; intro a S)
  (refine wpl_v S rfl rfl rfl (sv_lookupF (enc := kS) S rfl rfl rfl hes) ?_; clear S a; intro a S)
  (obtain ⟨y, ap, cp, ac, cc, hgd, hps, hcs, hy, his⟩ := get_td hmm s; obtain ⟨hy1, hy2, hy3⟩ := hK.of hy; rw [if_pos rfl, hgd, his] at S)
  iterate 3 (refine wpl_p S ?_; clear S a; intro a S)
  (refine wpl_al S ?_; clear S a; intro b6 a w S)
  (refine wpl_storeO S rfl rfl rfl rfl rfl (by rfl) (by simp [Value.cells, Value.oneCell', splice]) (by rfl) ?_; clear S; intro w S)
  (refine wpl_p S ?_; clear S a; intro a S)
  (refine wpList_nil (hKq4 _ _ (wp_sr fun Kq5 hKq5 => ?_)); try clear hKq4 Kq4)
  (refine wpl_f S ?_; clear S a; intro a S)
  (refine wpl_l S ?_; clear S a; intro a S)
  (refine wpl_c0 S (cloneS0 F _ y.ps hps hy2) ?_; clear S a; intro v a w hv S; obtain ⟨a23, c23, rfl⟩ := hv)
  (refine wpl_f S ?_; clear S a; intro a S)
  (refine wpl_store1 S rfl rfl rfl rfl rfl rfl (by first | (simp; done) | (simp [Value.cells]; done) | exact Nat.le_of_ble_eq_true rfl) ?_; clear S; intro w S)
  (refine wpList_nil (hKq5 _ _ (wp_sr fun Kq6 hKq6 => ?_)); try clear hKq5 Kq5)
  (refine wpl_f S ?_; clear S a; intro a S)
  (refine wpl_l S ?_; clear S a; intro a S)
  (refine wpl_callNew S rfl rfl rfl rfl rfl rfl (cloneCCt F _ y.cs hcs hy1) rfl ?_; clear S a; intro vC G9 a w hv S; obtain ⟨gC, xC, rfl, hownC, hxC⟩ := hv; (simp only [List.singleton_append] at S))
  (refine wpl_f S ?_; clear S a; intro a S)
  (refine wpl_store1 S rfl rfl rfl rfl rfl hownC.oneCell (by first | (simp; done) | (simp [Value.cells]; done) | exact Nat.le_of_ble_eq_true rfl) ?_; clear S; intro w S)
  (refine wpList_nil (hKq6 _ _ (wp_seq_k fun Kq7 hKq7 => ?_)); try clear hKq6 Kq6)
  (refine wp_seq_k ?_; intro Kq8 hKq8)
  (have h9 := hownC.at; obtain ⟨aC0, cC0, rfl, -, -, -⟩ := h9)
  refine wp_region_lit ?_
  (refine wpl_f S ?_; clear S a; intro a S)
  (refine wpl_l S ?_; clear S a; intro a S)
  (refine wpl_n S ?_; clear S a; intro a S)
  (refine wpl_p S ?_; clear S a; intro a S)
  (refine wpList_nil (hKq8 _ _ ?_); try clear hKq8 Kq8)
  refine wp_block ?_
  refine wpc_loop (fun m a w' => ∃ (k : Nat) (vC : Value) (gC : Grp) (xC : List Value) (F5 : Heap), m = y.cs.length - k ∧ k ≤ y.cs.length ∧ (∀ b o, F b = some o → F5 b = some o) ∧ OwnS 65 2 vC y.cs.length xC gC ∧ LiC F5 2 CdR xC y.cs ∧ St 50 [(4, ptr b4), (6, ptr b6), (7, .bool (declS ts s)), (31, .int .i64 y.cs.length), (32, .int .i64 k)] w0 F [] F5 [gC, [(b6, .cells ⟨[.int .i64 y.l, .int .i64 y.c, .bool y.pub, .string (bs y.nm), .slice a23 y.ps.length c23, vC]⟩ 57 (0, 0))], [(b4, .cells ⟨[.int .i64 0, .int .i64 0, .bool false, .string (bs []), .slice none 0 0, .slice none 0 0]⟩ 57 (0, 0))]] a w') ?_ ?_
  · (refine ⟨y.cs.length, 0, _, gC, xC, F, by omega, Nat.zero_le _, fun _ _ h => h, hownC, hxC, ?_⟩; refine S.keep ?_; repeat (first | exact trivial | refine ⟨rfl, ?_⟩))
  (clear S hownC hxC; rintro m a w ⟨k, vC, gC, xC, F5, rfl, hkl, hF5, hownC, hxC, S⟩)
  refine wp_sr fun Kq9 hKq9 => ?_
  (refine wpl_p S ?_; clear S a; intro a S)
  (refine wpList_nil (hKq9 _ _ (wp_seq_k fun Kq10 hKq10 => ?_)); try clear hKq9 Kq9)
  refine wpc_split S rfl (fun h => ?_) (fun h => ?_)
  · (skip; (try simp only [tq] at h))
    refine wp_skip ?_
    (refine hKq10 _ _ ?_; try (clear hKq10 Kq10))
    (refine wp_seq_k ?_; intro Kq11 hKq11)
    refine wp_block ?_
    refine wp_sr fun Kq12 hKq12 => ?_
    iterate 2 (refine wpl_p S ?_; clear S a; intro a S)
    (refine wpList_nil (hKq12 _ _ ?_); try clear hKq12 Kq12)
    (obtain ⟨bC, capC, exC, rfl, rfl, hcq2, hcm2, hyl, hye⟩ := ownS_blkN hownC (by omega); obtain ⟨z, hz⟩ : ∃ z, y.cs[k]? = some z := ⟨_, List.getElem?_eq_getElem (by omega)⟩; obtain ⟨ya, cs3, yb, rfl, hyal, -, ⟨w4, rfl, hfs4⟩, hya, hyb⟩ := hxC.split hz; have hfsc := hfs4; obtain ⟨af, cf, rfl, -, -⟩ := hfsc; have hzsz := hy3 z (List.mem_of_getElem? hz))
    (refine wpc_mixM [0, 1, 2, 3, 4, 5, 6, 7, 8, 10, 11] [1, 4, 8] [12] (.one 0 (.one 1 (.one 2 (.one 3 (.one 4 (.one 5 (.one 6 (.one 7 (.one 8 (.one 9 (.one 10 (.one 11 (.one 12 .nil))))))))))))) [b6, bC] S mixed (by kernel_rfl) ?_; clear S; intro w S)
    (refine wpm_f S ?_; clear S a; intro a S)
    (refine wpm_o b6 S ?_; clear S a; intro a S)
    (refine wpm_p S ?_; clear S a; intro a S)
    (refine wpm_f S ?_; clear S a; intro a S)
    (refine wpm_o b6 S ?_; clear S a; intro a S)
    (refine wpm_p S ?_; clear S a; intro a S)
    (refine wpm_i S ?_; clear S a; intro a S)
    (refine wpm_f S ?_; clear S a; intro a S)
    (refine wpm_lateO bC S rfl rfl rfl (want_none _ rfl) rfl rfl (fun w' S => sv_loadO S rfl rfl (get_mid (j := 1) (cs := [.string (bs z.nm), .slice af z.fs.length cf]) hyal rfl)) ?_; clear S a; intro a S)
    refine wpm_eff rfl rfl (kwa S) ?_
    (refine wpl_cF S (ownedCt F5 z.fs _ hfs4 hzsz.2 hzsz.1.thin) ?_; clear S a; intro vf6 F6 a w hvf6 hF6 S)
    refine wpList_nil ?_
    (refine wpm_i S ?_; clear S a; intro a S)
    (refine wpm_f S ?_; clear S a; intro a S)
    refine wpm_eff rfl rfl (kwa S) ?_
    (refine wpl_store1 S rfl rfl rfl rfl rfl (lim_one hvf6) (by simp only [List.length_append, List.length_cons, List.length_nil]; omega) ?_; clear S; intro w S; rw [set_mid _ hyal (by simp)] at S)
    refine wpList_nil ?_
    (refine wpm_nil (fun h => absurd h (by decide)) (hKq11 _ _ ?_); try clear hKq11 Kq11)
    refine wp_region_lit ?_
    (refine wpl_a S ?_; clear S a; intro a S)
    (refine wpl_p S ?_; clear S a; intro a S)
    refine wpList_nil ?_
    change ∃ m', _ ∧ _
    (refine ⟨y.cs.length - (k + 1), by omega, k + 1, .slice (some ⟨bC, 0, none⟩) y.cs.length capC, _, _, F6, rfl, by omega, fun b o h => hF6 _ _ (hF5 _ _ h), ownS_mkN (b := bC) (cap := capC) (xs := ya ++ [.string (bs z.nm), vf6] ++ yb) (ex := exC) (by simp only [List.length_append, List.length_cons, List.length_nil] at hyl ⊢; omega) hcq2 hcm2 (by simp only [List.length_append, List.length_cons, List.length_nil] at hye ⊢; omega), LiC.join hz (hya.mono hF6) rfl ⟨_, rfl, hvf6⟩ (hyb.mono hF6), ?_⟩; refine S.keep ?_; repeat (first | exact trivial | refine ⟨rfl, ?_⟩))
  (skip; (try simp only [tq] at h))
  refine wp_exit ?_
  (refine hKq7 _ _ ?_; try (clear hKq7 Kq7))
  (refine wp_seq_k ?_; intro Kq11 hKq11)
  (have h9 := hownC.at; obtain ⟨aC9, cC9, rfl, -, -, -⟩ := h9)
  refine wp_region_lit ?_
  (refine wpl_l S ?_; clear S a; intro a S)
  (refine wpl_p S ?_; clear S a; intro a S)
  (refine wpl_storeO S rfl rfl rfl rfl rfl (by rfl) (by simp [Value.cells, Value.oneCell', splice]) (by rfl) ?_; clear S; intro w S)
  (refine wpl_p S ?_; clear S a; intro a S)
  (refine wpList_nil (hKq11 _ _ ?_); try clear hKq11 Kq11)
  refine wp_ret (fin_ret S (results2 Tryz.results19 (RV.cellO S rfl (by rfl)) (RV.tmp S rfl)) ?_)
  exact ⟨_, rfl, ags rfl rfl⟩
end Go.Proofs.YtoaodbclgeeaeaaGreatDoor
namespace Go.Proofs.YtoaodbclgeeaeaaGreatDoor
open Go Go.Wk Go.Un Go.De
set_option linter.unusedSimpArgs false
set_option linter.unusedVariables false

def consN : List CD → Nat
  | [] => 0
  | x :: r => 1 + fdsN x.fs + consN r
def tsN : List TD → Nat
  | [] => 0
  | x :: r => 1 + x.ps.length + consN x.cs + tsN r
def rsN : List RD → Nat
  | [] => 0
  | x :: r => 1 + fdsN x.fs + rsN r
def ruN : List RU → Nat
  | [] => 0
  | x :: r => 1 + x.args.size + bodyN x.body + ruN r
def nvN : List NV → Nat
  | [] => 0
  | x :: r => 1 + bodyN x.body + nvN r
def mdN (m : MD) : Nat := tsN m.ts + rsN m.rs + ruN m.ru + nvN m.nv
end Go.Proofs.YtoaodbclgeeaeaaGreatDoor
namespace Go.Proofs.YtoaodbclgeeaeaaGreatDoor
open Go Go.Wk Go.Un Go.De
set_option linter.unusedSimpArgs false
set_option linter.unusedVariables false

theorem mdR_mono {F F' : Heap} (hF : ∀ b o, F b = some o → F' b = some o) {M : MD} {cs : List Value} (h : MdR F M cs) : MdR F' M cs := by
  obtain ⟨i1, i2, i3, v1, v2, v3, v4, e, h1, h2, h3, h4⟩ := h
  exact ⟨i1, i2, i3, v1, v2, v3, v4, e, h1.mono hF, h2.mono hF, h3.mono hF, h4.mono hF⟩
theorem fdsN_le : ∀ {l : List FD}, l.length ≤ fdsN l ∧ ∀ x ∈ l, x.ta.size ≤ fdsN l
  | [] => ⟨Nat.le_refl _, fun x hx => by cases hx⟩
  | y :: r => by
    obtain ⟨h1, h2⟩ := fdsN_le (l := r)
    refine ⟨by simp only [fdsN, List.length_cons]; omega, fun x hx => ?_⟩
    rcases List.mem_cons.1 hx with rfl | hx
    · simp only [fdsN]; omega
    · have := h2 x hx; simp only [fdsN]; omega
theorem consN_le : ∀ {l : List CD}, l.length ≤ consN l ∧ ∀ x ∈ l, fdsN x.fs ≤ consN l
  | [] => ⟨Nat.le_refl _, fun x hx => by cases hx⟩
  | y :: r => by
    obtain ⟨h1, h2⟩ := consN_le (l := r)
    refine ⟨by simp only [consN, List.length_cons]; omega, fun x hx => ?_⟩
    rcases List.mem_cons.1 hx with rfl | hx
    · simp only [consN]; omega
    · have := h2 x hx; simp only [consN]; omega
theorem tsN_le : ∀ {l : List TD}, l.length ≤ tsN l ∧ ∀ x ∈ l, x.ps.length + consN x.cs ≤ tsN l
  | [] => ⟨Nat.le_refl _, fun x hx => by cases hx⟩
  | y :: r => by
    obtain ⟨h1, h2⟩ := tsN_le (l := r)
    refine ⟨by simp only [tsN, List.length_cons]; omega, fun x hx => ?_⟩
    rcases List.mem_cons.1 hx with rfl | hx
    · simp only [tsN]; omega
    · have := h2 x hx; simp only [tsN]; omega
theorem rsN_le : ∀ {l : List RD}, l.length ≤ rsN l ∧ ∀ x ∈ l, fdsN x.fs ≤ rsN l
  | [] => ⟨Nat.le_refl _, fun x hx => by cases hx⟩
  | y :: r => by
    obtain ⟨h1, h2⟩ := rsN_le (l := r)
    refine ⟨by simp only [rsN, List.length_cons]; omega, fun x hx => ?_⟩
    rcases List.mem_cons.1 hx with rfl | hx
    · simp only [rsN]; omega
    · have := h2 x hx; simp only [rsN]; omega
theorem consFrom_mem {x : TD} : ∀ {i : Nat} {l : List CD} {c : KC}, c ∈ consFrom x i l → ∃ d ∈ l, c.ps = x.ps ∧ c.fs = d.fs
  | _, [], c, h => by cases h
  | i, d :: r, c, h => by
    rcases List.mem_cons.1 h with rfl | h
    · exact ⟨d, List.mem_cons_self .., rfl, rfl⟩
    · obtain ⟨e, he, h2⟩ := consFrom_mem h
      exact ⟨e, List.mem_cons_of_mem _ he, h2⟩
theorem consOf_mem {ts : List TD} {c : KC} (h : c ∈ consOf ts) : ∃ x ∈ ts, ∃ d ∈ x.cs, c.ps = x.ps ∧ c.fs = d.fs := by
  obtain ⟨x, hx, h1⟩ := List.mem_flatMap.1 h
  exact ⟨x, hx, consFrom_mem h1⟩
theorem fsz_small {l : List FD} (h : fdsN l ≤ 1000000) : FSz l := fun x hx => by have := (fdsN_le (l := l)).2 x hx; omega
theorem tsz_small {l : List TD} (h : tsN l ≤ 1000000) : TSz l := fun x hx => by
  have h1 := (tsN_le (l := l)).2 x hx
  have h2 := consN_le (l := x.cs)
  refine ⟨by omega, by omega, fun c hc => ?_⟩
  have h3 := h2.2 c hc
  have h4 := (fdsN_le (l := c.fs)).1
  exact ⟨fsz_small (by omega), by omega⟩
theorem rsz_small {l : List RD} (h : rsN l ≤ 1000000) : RSz l := fun x hx => by
  have h3 := (rsN_le (l := l)).2 x hx
  have h4 := (fdsN_le (l := x.fs)).1
  exact ⟨fsz_small (by omega), by omega⟩
theorem rsz0_small {l : List RD} (h : rsN l ≤ 1000000) : RSz0 l := fun x hx => ⟨(rsz_small h x hx).2, (rsz_small h x hx).1.thin⟩
theorem ksz_small {l : List TD} (h : tsN l ≤ 1000000) : KSz (consOf l) := fun c hc => by
  obtain ⟨x, hx, d, hd, e1, e2⟩ := consOf_mem hc
  have h1 := tsz_small h x hx
  rw [e1, e2]
  exact ⟨h1.2.1, (h1.2.2 d hd).2, (h1.2.2 d hd).1.thin⟩
theorem kthin_small {l : List TD} (h : tsN l ≤ 1000000) : KThin (consOf l) := fun c hc => (ksz_small h c hc).2.2
theorem msz_small {M : MD} (h : mdN M ≤ 1000000) : MSz M := by
  unfold mdN at h
  exact ⟨tsz_small (by omega), rsz_small (by omega), by have := (tsN_le (l := M.ts)).1; omega, by have := (rsN_le (l := M.rs)).1; omega⟩
theorem wt_size : ∀ L : Vf, L.size ≤ wtL L
  | .nil => Nat.le_refl _
  | .cons h L r => by have := wt_size L; have := wt_size r; simp only [wtL, Rose.size]; omega
/-- What New tells, in one form. -/
theorem new_shape {F' : Heap} {M : MD} {u : Value} (h : (takeE M = 0 → ∃ tb m1 m2 m3, u = .tuple ⟨[.pointer (some ⟨tb, 0, none⟩), .agg ⟨[.int .i64 0, .int .i64 0]⟩, .int .i64 0]⟩ ∧ TabS F' tb m1 m2 m3 M.ts (consOf M.ts) M.rs) ∧ (takeE M ≠ 0 → ∃ l c : Int, u = .tuple ⟨[.pointer none, .agg ⟨[.int .i64 l, .int .i64 c]⟩, .int .i64 (takeE M)]⟩)) :
    ∃ (pp : Option Addr) (l c : Int), u = .tuple ⟨[.pointer pp, .agg ⟨[.int .i64 l, .int .i64 c]⟩, .int .i64 (takeE M)]⟩ ∧ (takeE M = 0 → ∃ tb m1 m2 m3, pp = some ⟨tb, 0, none⟩ ∧ TabS F' tb m1 m2 m3 M.ts (consOf M.ts) M.rs) ∧ (takeE M ≠ 0 → pp = none) := by
  by_cases hz : takeE M = 0
  · obtain ⟨tb, m1, m2, m3, e, hT⟩ := h.1 hz
    exact ⟨_, _, _, by rw [hz]; exact e, fun _ => ⟨tb, m1, m2, m3, rfl, hT⟩, fun h9 => absurd hz h9⟩
  · obtain ⟨l, c, e⟩ := h.2 hz
    exact ⟨none, l, c, e, fun h9 => absurd h9 hz, fun _ => rfl⟩
end Go.Proofs.YtoaodbclgeeaeaaGreatDoor
namespace Go.Proofs.YtoaodbclgeeaeaaGreatDoor
open Go Go.Wk Go.Un Go.De
set_option linter.unusedSimpArgs false
set_option linter.unusedVariables false
attribute [local irreducible] Go.wpList Go.Code.wp Go.wpStill Go.Wk.wpPre Go.bodyPost Go.Calls Go.Wk.Ct Go.Wk.OwnS
attribute [local irreducible] Go.Wk.wpG Go.Wk.wpM

theorem dnFieldCt (F : Heap) (x : Ty) (cs : List Value) (hx : TyR F x cs) : Ct Tryz.prog 16 [.agg ⟨cs⟩] F [] (fun F' _ u => LiM F' 3 FdR u [⟨[], x.1, x.2⟩]) := by
  obtain ⟨v, rfl, hs⟩ := hx
  have hsc := hs
  obtain ⟨ao, cap, rfl, -, -⟩ := hsc
  refine Ct.enter Tryz.func16 rfl Tryz.ntmps16 rfl fun w0 a S => ?_
  refine wp_sr fun Kq1 hKq1 => ?_
  (refine wpl_bx S ?_; clear S a; intro b1 a w S)
  (refine wpl_p S ?_; clear S a; intro a S)
  (refine wpList_nil (hKq1 _ _ (wp_sr fun Kq2 hKq2 => ?_)); try clear hKq1 Kq1)
  (refine wpl_l S ?_; clear S a; intro a S)
  (refine wpl_b S ?_; clear S a; intro a S)
  (refine wpl_buildSlice S rfl rfl rfl rfl rfl rfl (by rfl) (by simp [Value.cells, splice, splice]) rfl (by rfl) (by rfl) ?_; clear S a; intro b5 a w hown S)
  (refine wpl_p S ?_; clear S a; intro a S)
  (refine wpList_nil (hKq2 _ _ ?_); try clear hKq2 Kq2)
  refine wp_ret ?_
  (replace S : St _ _ _ _ _ F [[(b5, .cells ⟨[.string (bs []), .string (bs x.1), .slice ao x.2.len cap]⟩ 53 (0, 0))], _] _ _ := S)
  (have S' := frz1 S)
  (clear S)
  (obtain ⟨F1, hle1, h5, S⟩ := S')
  refine fin_ret S (results1 Tryz.results16 (RV.tmp S rfl)) ?_
  exact lim_of (l := ([⟨[], x.1, x.2⟩] : List FD)) h5 (LiC.one rfl ⟨_, rfl, hs.mono hle1⟩) (by show 1 ≤ _; decide)
theorem dnOneCt (F : Heap) (x : TD) (cs : List Value) (hx : TdR F x cs) : Ct Tryz.prog 17 [.agg ⟨cs⟩] F [] (fun F' _ u => ∃ cs', u = .agg ⟨cs'⟩ ∧ cs'.length = 6 ∧ MdR F' (MD.mk [] [x] [] [] []) cs') := by
  obtain ⟨v, u, rfl, hp, hs⟩ := hx
  have hpc := hp
  obtain ⟨ap, cp, rfl, -, -⟩ := hpc
  have hsc := hs
  obtain ⟨ao, cap, rfl, -, -⟩ := hsc
  refine Ct.enter Tryz.func17 rfl Tryz.ntmps17 rfl fun w0 a S => ?_
  refine wp_sr fun Kq1 hKq1 => ?_
  (refine wpl_bx S ?_; clear S a; intro b1 a w S)
  (refine wpl_al S ?_; clear S a; intro b2 a w S)
  (refine wpList_nil (hKq1 _ _ (wp_sr fun Kq2 hKq2 => ?_)); try clear hKq1 Kq1)
  (refine wpl_l S ?_; clear S a; intro a S)
  (refine wpl_buildSlice S rfl rfl rfl rfl rfl rfl (by rfl) (by simp [Value.cells, splice, splice]) rfl (by rfl) (by rfl) ?_; clear S a; intro b4 a w hown S)
  (refine wpl_b S ?_; clear S a; intro a S)
  (refine wpl_storeO S rfl rfl rfl rfl rfl (by rfl) (by simp [Value.cells, Value.oneCell', splice]) (by rfl) ?_; clear S; intro w S)
  (refine wpList_nil (hKq2 _ _ ?_); try clear hKq2 Kq2)
  refine wp_ret ?_
  (replace S : St _ _ _ _ _ F [[(b4, .cells ⟨[.int .i64 x.l, .int .i64 x.c, .bool x.pub, .string (bs x.nm), .slice ap x.ps.length cp, .slice ao x.cs.length cap]⟩ 57 (0, 0))], [(b2, .cells ⟨[.string (bs []), .slice none 0 0, .slice (some ⟨b4, 0, none⟩) 1 1, .slice none 0 0, .slice none 0 0, .slice none 0 0]⟩ 37 (0, 0))], _] _ _ := S)
  (have S' := frz1 S)
  (clear S)
  (obtain ⟨F1, hle1, h4, S⟩ := S')
  refine fin_ret S (results1 Tryz.results17 (RV.cellO S rfl (by rfl))) ?_
  exact ⟨_, rfl, rfl, _, _, _, _, _, _, _, rfl, lim_of (l := ([x] : List TD)) h4 (LiC.one rfl ⟨_, _, rfl, hp.mono hle1, hs.mono hle1⟩) (by show 1 ≤ _; decide), LiM.nil _ _ _, LiM.nil _ _ _, LiM.nil _ _ _⟩
section
variable {P : Program} {n : Sz} {L : List (Nat × Value)} {w0 : World} {F0 : Heap} {K0 : List Nat} {F : Heap} {G : List Grp} {a : Act} {w : World} {o : Oper}
theorem sv_eqPtr {x y : Operand} {t yt e : TypeId} {ad : Option Addr} [ht : Und P t (.pointer e)] (S : St n L w0 F0 K0 F G a w) (ho : o.op = .binOp .eql t x y yt) (hx : ev L x = some (.pointer ad)) (hy : ev L y = some (.pointer none)) : SV P o a w (.bool ad.isNone) := by
  cases ad with
  | none => exact sv_eqPtrNil S ho hx hy
  | some p => exact sv_eqPtrSome S ho hx hy
end
theorem dn_eq {pp : Option Addr} {e : Int} {C : Addr → Prop} (h1 : e = 0 → ∃ q, pp = some q) (h2 : e ≠ 0 → pp = none) : (pp.isNone != (e != 0)) = false := by
  by_cases he : e = 0
  · obtain ⟨q, rfl⟩ := h1 he; subst he; rfl
  · rw [h2 he]; simpa using he
theorem dn_ok {l : List (MD × Int)} {x : MD × Int} {k : Nat} (hl : (l.all fun x => decide (takeE x.1 = x.2) && decide (mdN x.1 ≤ 1000)) = true) (hx : l[k]? = some x) : takeE x.1 = x.2 ∧ mdN x.1 ≤ 1000 := by
  have := List.all_eq_true.1 hl x (List.mem_of_getElem? hx)
  simpa using this
def dnX : EH := EH.mk 2 0 0 [88] ⟨0, 0, []⟩ .nil
def dnR : RD := RD.mk 0 0 false false [114] [FD.mk [120] sInt .nil]
def dnD : List Nat := [27, 28, 29, 30, 31, 32, 33, 34, 35, 36, 37, 38, 39, 40, 41, 42, 43, 44, 45, 46, 47, 48, 49, 50, 51, 52, 53, 54, 55, 56, 57, 58, 59, 60, 61, 62, 63, 64, 65, 66, 67, 68, 69, 70, 71, 72, 73, 74, 75, 76, 77, 78, 79, 80, 81, 82, 83, 84, 85, 86, 87, 88, 89, 90, 91, 92, 93, 94, 95, 96, 97, 98, 99, 100, 101, 102, 103, 104, 105, 106, 107, 108, 109, 110, 111, 112, 113, 114, 115, 116, 117, 118, 119, 120, 121, 122, 123, 124, 125, 126, 127, 128, 129, 130, 131, 132, 133, 134, 135, 136, 137, 138, 139, 140, 141, 142, 143, 144, 145, 146, 147, 148, 149, 150, 151, 152, 153, 154, 155, 156, 157, 158, 159, 160, 161, 162, 163, 164, 165, 166, 167, 168, 169, 170, 171, 172, 173]
def dnP (b26 : Nat) : List PM := [PM.is (.func (.func 17) ⟨[]⟩ ⟨[]⟩),
PM.is (.func (.func 16) ⟨[]⟩ ⟨[]⟩),
pRec 2 TyR ([116], .nil),
pLim 3 FdR ([FD.mk [] [116] .nil] : List FD),
pRec 2 CdR (CD.mk [99] [FD.mk [] [116] .nil]),
pLim 2 CdR ([(CD.mk [99] [FD.mk [] [116] .nil])] : List CD),
pRec 6 TdR (TD.mk 0 0 false [116] [] [(CD.mk [99] [FD.mk [] [116] .nil])]),
pRec 6 MdR (MD.mk [] [(TD.mk 0 0 false [116] [] [(CD.mk [99] [FD.mk [] [116] .nil])])] [] [] []),
pRec 7 ExR ((MD.mk [] [(TD.mk 0 0 false [116] [] [(CD.mk [99] [FD.mk [] [116] .nil])])] [] [] []), 5),
PM.is (.func (.func 17) ⟨[]⟩ ⟨[]⟩),
pRec 2 CdR (CD.mk [99] []),
pRec 2 CdR (CD.mk [99] []),
pLim 2 CdR ([(CD.mk [99] []), (CD.mk [99] [])] : List CD),
pRec 6 TdR (TD.mk 0 0 false [116] [] [(CD.mk [99] []), (CD.mk [99] [])]),
pRec 6 MdR (MD.mk [] [(TD.mk 0 0 false [116] [] [(CD.mk [99] []), (CD.mk [99] [])])] [] [] []),
pRec 7 ExR ((MD.mk [] [(TD.mk 0 0 false [116] [] [(CD.mk [99] []), (CD.mk [99] [])])] [] [] []), 6),
PM.is (.func (.func 17) ⟨[]⟩ ⟨[]⟩),
pRec 2 TyR (sInt, .nil),
pRec 3 FdR (FD.mk [120] sInt .nil),
pRec 2 TyR (sInt, .nil),
pRec 3 FdR (FD.mk [120] sInt .nil),
pLim 3 FdR ([(FD.mk [120] sInt .nil), (FD.mk [120] sInt .nil)] : List FD),
pRec 2 CdR (CD.mk [99] [(FD.mk [120] sInt .nil), (FD.mk [120] sInt .nil)]),
pLim 2 CdR ([(CD.mk [99] [(FD.mk [120] sInt .nil), (FD.mk [120] sInt .nil)])] : List CD),
pRec 6 TdR (TD.mk 0 0 false [116] [] [(CD.mk [99] [(FD.mk [120] sInt .nil), (FD.mk [120] sInt .nil)])]),
pRec 6 MdR (MD.mk [] [(TD.mk 0 0 false [116] [] [(CD.mk [99] [(FD.mk [120] sInt .nil), (FD.mk [120] sInt .nil)])])] [] [] []),
pRec 7 ExR ((MD.mk [] [(TD.mk 0 0 false [116] [] [(CD.mk [99] [(FD.mk [120] sInt .nil), (FD.mk [120] sInt .nil)])])] [] [] []), 6),
PM.is (.func (.func 17) ⟨[]⟩ ⟨[]⟩),
pRec 2 TyR (sInt, .nil),
pRec 3 FdR (FD.mk [] sInt .nil),
pRec 2 TyR (sInt, .nil),
pRec 3 FdR (FD.mk [] sInt .nil),
pLim 3 FdR ([(FD.mk [] sInt .nil), (FD.mk [] sInt .nil)] : List FD),
pRec 2 CdR (CD.mk [99] [(FD.mk [] sInt .nil), (FD.mk [] sInt .nil)]),
pLim 2 CdR ([(CD.mk [99] [(FD.mk [] sInt .nil), (FD.mk [] sInt .nil)])] : List CD),
pRec 6 TdR (TD.mk 0 0 false [116] [] [(CD.mk [99] [(FD.mk [] sInt .nil), (FD.mk [] sInt .nil)])]),
pRec 6 MdR (MD.mk [] [(TD.mk 0 0 false [116] [] [(CD.mk [99] [(FD.mk [] sInt .nil), (FD.mk [] sInt .nil)])])] [] [] []),
pRec 7 ExR ((MD.mk [] [(TD.mk 0 0 false [116] [] [(CD.mk [99] [(FD.mk [] sInt .nil), (FD.mk [] sInt .nil)])])] [] [] []), 0),
PM.is (.func (.func 17) ⟨[]⟩ ⟨[]⟩),
PM.is (.func (.func 16) ⟨[]⟩ ⟨[]⟩),
pRec 2 TyR ([110, 111, 110, 101], .nil),
pLim 3 FdR ([FD.mk [] [110, 111, 110, 101] .nil] : List FD),
pRec 2 CdR (CD.mk [99] [FD.mk [] [110, 111, 110, 101] .nil]),
pLim 2 CdR ([(CD.mk [99] [FD.mk [] [110, 111, 110, 101] .nil])] : List CD),
pRec 6 TdR (TD.mk 0 0 false [116] [] [(CD.mk [99] [FD.mk [] [110, 111, 110, 101] .nil])]),
pRec 6 MdR (MD.mk [] [(TD.mk 0 0 false [116] [] [(CD.mk [99] [FD.mk [] [110, 111, 110, 101] .nil])])] [] [] []),
pRec 7 ExR ((MD.mk [] [(TD.mk 0 0 false [116] [] [(CD.mk [99] [FD.mk [] [110, 111, 110, 101] .nil])])] [] [] []), 63),
PM.is (.func (.func 17) ⟨[]⟩ ⟨[]⟩),
PM.is (.func (.func 16) ⟨[]⟩ ⟨[]⟩),
pRec 2 TyR (sInt, .nil),
pSlf (.cons sInt .nil .nil),
pRec 2 TyR ([105, 110, 116], (.cons sInt .nil .nil)),
pLim 3 FdR ([FD.mk [] [105, 110, 116] (.cons sInt .nil .nil)] : List FD),
pRec 2 CdR (CD.mk [99] [FD.mk [] [105, 110, 116] (.cons sInt .nil .nil)]),
pLim 2 CdR ([(CD.mk [99] [FD.mk [] [105, 110, 116] (.cons sInt .nil .nil)])] : List CD),
pRec 6 TdR (TD.mk 0 0 false [116] [] [(CD.mk [99] [FD.mk [] [105, 110, 116] (.cons sInt .nil .nil)])]),
pRec 6 MdR (MD.mk [] [(TD.mk 0 0 false [116] [] [(CD.mk [99] [FD.mk [] [105, 110, 116] (.cons sInt .nil .nil)])])] [] [] []),
pRec 7 ExR ((MD.mk [] [(TD.mk 0 0 false [116] [] [(CD.mk [99] [FD.mk [] [105, 110, 116] (.cons sInt .nil .nil)])])] [] [] []), 70),
PM.is (.func (.func 17) ⟨[]⟩ ⟨[]⟩),
pLim 1 StR ([[39, 97]] : List (List UInt8)),
pRec 2 CdR (CD.mk [99] []),
PM.is (.func (.func 16) ⟨[]⟩ ⟨[]⟩),
pRec 2 TyR (sA, .nil),
pRec 2 TyR (sA, .nil),
pSlf (.cons sA .nil (.cons sA .nil .nil)),
pRec 2 TyR ([116, 117, 112, 108, 101], (.cons sA .nil (.cons sA .nil .nil))),
pSlf (.cons [116, 117, 112, 108, 101] (.cons sA .nil (.cons sA .nil .nil)) .nil),
pRec 2 TyR ([116], (.cons [116, 117, 112, 108, 101] (.cons sA .nil (.cons sA .nil .nil)) .nil)),
pLim 3 FdR ([FD.mk [] [116] (.cons [116, 117, 112, 108, 101] (.cons sA .nil (.cons sA .nil .nil)) .nil)] : List FD),
pRec 2 CdR (CD.mk [100] [FD.mk [] [116] (.cons [116, 117, 112, 108, 101] (.cons sA .nil (.cons sA .nil .nil)) .nil)]),
pLim 2 CdR ([(CD.mk [99] []), (CD.mk [100] [FD.mk [] [116] (.cons [116, 117, 112, 108, 101] (.cons sA .nil (.cons sA .nil .nil)) .nil)])] : List CD),
pRec 6 TdR (TD.mk 0 0 false [116] [[39, 97]] [(CD.mk [99] []), (CD.mk [100] [FD.mk [] [116] (.cons [116, 117, 112, 108, 101] (.cons sA .nil (.cons sA .nil .nil)) .nil)])]),
pRec 6 MdR (MD.mk [] [(TD.mk 0 0 false [116] [[39, 97]] [(CD.mk [99] []), (CD.mk [100] [FD.mk [] [116] (.cons [116, 117, 112, 108, 101] (.cons sA .nil (.cons sA .nil .nil)) .nil)])])] [] [] []),
pRec 7 ExR ((MD.mk [] [(TD.mk 0 0 false [116] [[39, 97]] [(CD.mk [99] []), (CD.mk [100] [FD.mk [] [116] (.cons [116, 117, 112, 108, 101] (.cons sA .nil (.cons sA .nil .nil)) .nil)])])] [] [] []), 72),
PM.is (.func (.func 17) ⟨[]⟩ ⟨[]⟩),
pLim 1 StR ([[39, 97]] : List (List UInt8)),
pRec 2 CdR (CD.mk [99] []),
PM.is (.func (.func 16) ⟨[]⟩ ⟨[]⟩),
pRec 2 TyR (sA, .nil),
pSlf (.cons sA .nil .nil),
pRec 2 TyR ([116], (.cons sA .nil .nil)),
pLim 3 FdR ([FD.mk [] [116] (.cons sA .nil .nil)] : List FD),
pRec 2 CdR (CD.mk [100] [FD.mk [] [116] (.cons sA .nil .nil)]),
pLim 2 CdR ([(CD.mk [99] []), (CD.mk [100] [FD.mk [] [116] (.cons sA .nil .nil)])] : List CD),
pRec 6 TdR (TD.mk 0 0 false [116] [[39, 97]] [(CD.mk [99] []), (CD.mk [100] [FD.mk [] [116] (.cons sA .nil .nil)])]),
pRec 6 MdR (MD.mk [] [(TD.mk 0 0 false [116] [[39, 97]] [(CD.mk [99] []), (CD.mk [100] [FD.mk [] [116] (.cons sA .nil .nil)])])] [] [] []),
pRec 7 ExR ((MD.mk [] [(TD.mk 0 0 false [116] [[39, 97]] [(CD.mk [99] []), (CD.mk [100] [FD.mk [] [116] (.cons sA .nil .nil)])])] [] [] []), 0),
PM.is (.func (.func 17) ⟨[]⟩ ⟨[]⟩),
pRec 6 TdR (TD.mk 0 0 false [116] [] []),
pRec 6 MdR (MD.mk [] [(TD.mk 0 0 false [116] [] [])] [] [] []),
pRec 7 ExR ((MD.mk [] [(TD.mk 0 0 false [116] [] [])] [] [] []), 5),
pRec 6 RdR dnR,
pRec 6 RdR dnR,
pLim 6 RdR ([dnR, dnR] : List RD),
pRec 6 MdR (MD.mk [] [] [dnR, dnR] [] []),
pRec 7 ExR ((MD.mk [] [] [dnR, dnR] [] []), 6),
pRec 6 RdR dnR,
pLim 6 RdR ([dnR] : List RD),
PM.is (.slice (some ⟨b26, 0, none⟩) 1 1),
PM.is (.slice (some ⟨b26, 0, none⟩) 1 1),
pTrs 9 EhR (.cons dnX .nil (.cons dnX .nil .nil)),
pLim 1 StR ([[], []] : List (List UInt8)),
pRec 6 RuR (RU.mk 0 0 [114] (.cons dnX .nil (.cons dnX .nil .nil)) [[], []] []),
pLim 6 RuR ([(RU.mk 0 0 [114] (.cons dnX .nil (.cons dnX .nil .nil)) [[], []] [])] : List RU),
pRec 6 MdR (MD.mk [] [] [dnR] [(RU.mk 0 0 [114] (.cons dnX .nil (.cons dnX .nil .nil)) [[], []] [])] []),
pRec 7 ExR ((MD.mk [] [] [dnR] [(RU.mk 0 0 [114] (.cons dnX .nil (.cons dnX .nil .nil)) [[], []] [])] []), 70),
pRec 6 RdR dnR,
pLim 6 RdR ([dnR] : List RD),
pTrs 9 EhR (.cons dnX .nil .nil),
pRec 6 RuR (RU.mk 0 0 [114] (.cons dnX .nil .nil) [] []),
pLim 6 RuR ([(RU.mk 0 0 [114] (.cons dnX .nil .nil) [] [])] : List RU),
pRec 6 MdR (MD.mk [] [] [dnR] [(RU.mk 0 0 [114] (.cons dnX .nil .nil) [] [])] []),
pRec 7 ExR ((MD.mk [] [] [dnR] [(RU.mk 0 0 [114] (.cons dnX .nil .nil) [] [])] []), 4),
pRec 6 RuR (RU.mk 0 0 [114] .nil [] []),
pLim 6 RuR ([(RU.mk 0 0 [114] .nil [] [])] : List RU),
pRec 6 MdR (MD.mk [] [] [] [(RU.mk 0 0 [114] .nil [] [])] []),
pRec 7 ExR ((MD.mk [] [] [] [(RU.mk 0 0 [114] .nil [] [])] []), 63),
pRec 6 RdR (RD.mk 0 0 false true [114] []),
pLim 6 RdR ([(RD.mk 0 0 false true [114] [])] : List RD),
pTrs 9 EhR (.cons dnX .nil .nil),
pRec 6 RuR (RU.mk 0 0 [114] (.cons dnX .nil .nil) [] []),
pLim 6 RuR ([(RU.mk 0 0 [114] (.cons dnX .nil .nil) [] [])] : List RU),
pRec 6 MdR (MD.mk [] [] [(RD.mk 0 0 false true [114] [])] [(RU.mk 0 0 [114] (.cons dnX .nil .nil) [] [])] []),
pRec 7 ExR ((MD.mk [] [] [(RD.mk 0 0 false true [114] [])] [(RU.mk 0 0 [114] (.cons dnX .nil .nil) [] [])] []), 50),
pRec 6 RdR dnR,
pLim 6 RdR ([dnR] : List RD),
pRec 5 LtR (Go.De.LT.mk 2 0 0 [114] .nil),
pLim 5 LtR ([(Go.De.LT.mk 2 0 0 [114] .nil)] : List Go.De.LT),
pRec 4 NvR (NV.mk 0 0 [] [(Go.De.LT.mk 2 0 0 [114] .nil)]),
pLim 4 NvR ([(NV.mk 0 0 [] [(Go.De.LT.mk 2 0 0 [114] .nil)])] : List NV),
pRec 6 MdR (MD.mk [] [] [dnR] [] [(NV.mk 0 0 [] [(Go.De.LT.mk 2 0 0 [114] .nil)])]),
pRec 7 ExR ((MD.mk [] [] [dnR] [] [(NV.mk 0 0 [] [(Go.De.LT.mk 2 0 0 [114] .nil)])]), 70),
pRec 6 RdR dnR,
pLim 6 RdR ([dnR] : List RD),
pRec 9 (RoR 9 EhR) (EH.mk 5 0 0 [99] (VH.mk 0 0 []) .nil, .nil),
pTrs 9 EhR (.cons (EH.mk 5 0 0 [99] (VH.mk 0 0 []) .nil) .nil .nil),
pRec 9 (RoR 9 EhR) (EH.mk 6 0 0 [] (VH.mk 0 0 []) .nil, (.cons (EH.mk 5 0 0 [99] (VH.mk 0 0 []) .nil) .nil .nil)),
pTrs 9 EhR (.cons (EH.mk 6 0 0 [] (VH.mk 0 0 []) .nil) (.cons (EH.mk 5 0 0 [99] (VH.mk 0 0 []) .nil) .nil .nil) .nil),
pRec 5 LtR (Go.De.LT.mk 3 0 0 [] (.cons (EH.mk 6 0 0 [] (VH.mk 0 0 []) .nil) (.cons (EH.mk 5 0 0 [99] (VH.mk 0 0 []) .nil) .nil .nil) .nil)),
pLim 5 LtR ([(Go.De.LT.mk 3 0 0 [] (.cons (EH.mk 6 0 0 [] (VH.mk 0 0 []) .nil) (.cons (EH.mk 5 0 0 [99] (VH.mk 0 0 []) .nil) .nil .nil) .nil))] : List Go.De.LT),
pRec 4 NvR (NV.mk 0 0 [] [(Go.De.LT.mk 3 0 0 [] (.cons (EH.mk 6 0 0 [] (VH.mk 0 0 []) .nil) (.cons (EH.mk 5 0 0 [99] (VH.mk 0 0 []) .nil) .nil .nil) .nil))]),
pLim 4 NvR ([(NV.mk 0 0 [] [(Go.De.LT.mk 3 0 0 [] (.cons (EH.mk 6 0 0 [] (VH.mk 0 0 []) .nil) (.cons (EH.mk 5 0 0 [99] (VH.mk 0 0 []) .nil) .nil .nil) .nil))])] : List NV),
pRec 6 MdR (MD.mk [] [] [dnR] [] [(NV.mk 0 0 [] [(Go.De.LT.mk 3 0 0 [] (.cons (EH.mk 6 0 0 [] (VH.mk 0 0 []) .nil) (.cons (EH.mk 5 0 0 [99] (VH.mk 0 0 []) .nil) .nil .nil) .nil))])]),
pRec 7 ExR ((MD.mk [] [] [dnR] [] [(NV.mk 0 0 [] [(Go.De.LT.mk 3 0 0 [] (.cons (EH.mk 6 0 0 [] (VH.mk 0 0 []) .nil) (.cons (EH.mk 5 0 0 [99] (VH.mk 0 0 []) .nil) .nil .nil) .nil))])]), 63),
pLim 7 ExR ([((MD.mk [] [(TD.mk 0 0 false [116] [] [(CD.mk [99] [FD.mk [] [116] .nil])])] [] [] []), 5), ((MD.mk [] [(TD.mk 0 0 false [116] [] [(CD.mk [99] []), (CD.mk [99] [])])] [] [] []), 6), ((MD.mk [] [(TD.mk 0 0 false [116] [] [(CD.mk [99] [(FD.mk [120] sInt .nil), (FD.mk [120] sInt .nil)])])] [] [] []), 6), ((MD.mk [] [(TD.mk 0 0 false [116] [] [(CD.mk [99] [(FD.mk [] sInt .nil), (FD.mk [] sInt .nil)])])] [] [] []), 0), ((MD.mk [] [(TD.mk 0 0 false [116] [] [(CD.mk [99] [FD.mk [] [110, 111, 110, 101] .nil])])] [] [] []), 63), ((MD.mk [] [(TD.mk 0 0 false [116] [] [(CD.mk [99] [FD.mk [] [105, 110, 116] (.cons sInt .nil .nil)])])] [] [] []), 70), ((MD.mk [] [(TD.mk 0 0 false [116] [[39, 97]] [(CD.mk [99] []), (CD.mk [100] [FD.mk [] [116] (.cons [116, 117, 112, 108, 101] (.cons sA .nil (.cons sA .nil .nil)) .nil)])])] [] [] []), 72), ((MD.mk [] [(TD.mk 0 0 false [116] [[39, 97]] [(CD.mk [99] []), (CD.mk [100] [FD.mk [] [116] (.cons sA .nil .nil)])])] [] [] []), 0), ((MD.mk [] [(TD.mk 0 0 false [116] [] [])] [] [] []), 5), ((MD.mk [] [] [dnR, dnR] [] []), 6), ((MD.mk [] [] [dnR] [(RU.mk 0 0 [114] (.cons dnX .nil (.cons dnX .nil .nil)) [[], []] [])] []), 70), ((MD.mk [] [] [dnR] [(RU.mk 0 0 [114] (.cons dnX .nil .nil) [] [])] []), 4), ((MD.mk [] [] [] [(RU.mk 0 0 [114] .nil [] [])] []), 63), ((MD.mk [] [] [(RD.mk 0 0 false true [114] [])] [(RU.mk 0 0 [114] (.cons dnX .nil .nil) [] [])] []), 50), ((MD.mk [] [] [dnR] [] [(NV.mk 0 0 [] [(Go.De.LT.mk 2 0 0 [114] .nil)])]), 70), ((MD.mk [] [] [dnR] [] [(NV.mk 0 0 [] [(Go.De.LT.mk 3 0 0 [] (.cons (EH.mk 6 0 0 [] (VH.mk 0 0 []) .nil) (.cons (EH.mk 5 0 0 [99] (VH.mk 0 0 []) .nil) .nil .nil) .nil))])]), 63)] : List (MD × Int)),
PM.is (.int .i64 16),
PM.is (.int .i64 0)]
set_option maxRecDepth 20000 in
set_option maxHeartbeats 64000000 in
theorem declNamesCt (F : Heap) (hE : ErrT F) : Ct Tryz.prog 5 [] F [] (fun _ _ u => u = .bool true) := by
  refine Ct.enter Tryz.func5 rfl Tryz.ntmps5 rfl fun w0 a S => ?_
  refine wp_sr fun Kq1 hKq1 => ?_
  (refine wpl_p S ?_; clear S a; intro a S)
  (refine wpList_nil (hKq1 _ _ (wp_sr fun Kq2 hKq2 => ?_)); try clear hKq1 Kq1)
  (refine wpl_b S ?_; clear S a; intro a S)
  (refine wpl_al S ?_; clear S a; intro b1 a w S)
  (refine wpl_storeO S rfl rfl rfl rfl rfl (by rfl) (by simp [Value.cells, Value.oneCell', splice]) (by rfl) ?_; clear S; intro w S)
  (refine wpList_nil (hKq2 _ _ (wp_sr fun Kq3 hKq3 => ?_)); try clear hKq2 Kq2)
  (refine wpl_p S ?_; clear S a; intro a S)
  (refine wpList_nil (hKq3 _ _ (wp_sr fun Kq4 hKq4 => ?_)); try clear hKq3 Kq3)
  (refine wpl_p S ?_; clear S a; intro a S)
  (refine wpList_nil (hKq4 _ _ (wp_sr fun Kq5 hKq5 => ?_)); try clear hKq4 Kq4)
  (refine wpl_b S ?_; clear S a; intro a S)
  (refine wpl_al S ?_; clear S a; intro b4 a w S)
  (refine wpl_storeO S rfl rfl rfl rfl rfl (by rfl) (by simp [Value.cells, Value.oneCell', splice]) (by rfl) ?_; clear S; intro w S)
  (refine wpList_nil (hKq5 _ _ (wp_sr fun Kq6 hKq6 => ?_)); try clear hKq5 Kq5)
  (refine wpl_l S ?_; clear S a; intro a S)
  (refine wpl_b S ?_; clear S a; intro a S)
  (refine wpl_buildSlice S rfl rfl rfl rfl rfl rfl (by rfl) (by simp [Value.cells, splice, splice]) rfl (by rfl) (by rfl) ?_; clear S a; intro b23 a w hown S)
  (refine wpl_b S ?_; clear S a; intro a S)
  (refine wpl_al S ?_; clear S a; intro b5 a w S)
  (refine wpl_storeO S rfl rfl rfl rfl rfl (by rfl) (by simp [Value.cells, Value.oneCell', splice]) (by rfl) ?_; clear S; intro w S)
  (refine wpList_nil (hKq6 _ _ (wp_sr fun Kq7 hKq7 => ?_)); try clear hKq6 Kq6)
  (refine wpl_b S ?_; clear S a; intro a S)
  (refine wpl_buildSlice S rfl rfl rfl rfl rfl rfl (by rfl) (by simp [Value.cells, splice, splice]) rfl (by rfl) (by rfl) ?_; clear S a; intro b26 a w hown S)
  (refine wpl_p S ?_; clear S a; intro a S)
  (refine wpList_nil (hKq7 _ _ (wp_seq_k fun Kq8 hKq8 => ?_)); try clear hKq7 Kq7)
  (refine wp_seq_k ?_; intro Kq9 hKq9)
  (replace S := St.pullB b1 S; replace S := St.pullB b4 S; replace S := St.pullB b5 S; replace S := St.pullB b23 S; replace S := St.pullB b26 S; replace S : St _ _ _ _ _ F ((([(b26, .cells ⟨[.int .u8 2, .int .i64 0, .int .i64 0, .string (bs [88]), .int .u8 0, .int .i64 0, .string (bs []), .slice none 0 0, .slice none 0 0]⟩ 63 (0, 0)), (b23, .cells ⟨[.string (bs [120]), .string (bs sInt), .slice none 0 0]⟩ 53 (0, 0)), (b5, .cells ⟨[.int .i64 0, .int .i64 0, .bool false, .bool false, .string (bs [114]), .slice (some ⟨b23, 0, none⟩) 1 1]⟩ 60 (0, 0)), (b4, .cells ⟨[.string (bs sA), .slice none 0 0]⟩ 24 (0, 0)), (b1, .cells ⟨[.string (bs sInt), .slice none 0 0]⟩ 24 (0, 0))] : List (Nat × Obj)).map fun p => [p]) ++ []) _ _ := S; have S' := frzAll _ S; clear S; obtain ⟨F1, hle1, hall1, S⟩ := S'; have h26 := hall1 _ (List.mem_cons_self ..); have h23 := hall1 _ (List.mem_cons_of_mem _ (List.mem_cons_self ..)); have h5 := hall1 _ (List.mem_cons_of_mem _ (List.mem_cons_of_mem _ (List.mem_cons_self ..))); have h4 := hall1 _ (List.mem_cons_of_mem _ (List.mem_cons_of_mem _ (List.mem_cons_of_mem _ (List.mem_cons_self ..)))); have h1 := hall1 _ (List.mem_cons_of_mem _ (List.mem_cons_of_mem _ (List.mem_cons_of_mem _ (List.mem_cons_of_mem _ (List.mem_cons_self ..))))); have k23 : LiM F1 3 FdR (.slice (some ⟨b23, 0, none⟩) 1 1) [FD.mk [120] sInt .nil] := lim_of (l := ([FD.mk [120] sInt .nil] : List FD)) h23 (LiC.one rfl ⟨_, rfl, slf_nil _⟩) (by decide); have r26 : RoR 9 EhR F1 (dnX, .nil) [.int .u8 2, .int .i64 0, .int .i64 0, .string (bs [88]), .int .u8 0, .int .i64 0, .string (bs []), .slice none 0 0, .slice none 0 0] := ⟨[_, _, _, _, _, _, _, _], _, rfl, rfl, ⟨_, rfl, TrS.nil _ _ _⟩, TrS.nil _ _ _⟩; have k26 : TrS F1 9 EhR (.slice (some ⟨b26, 0, none⟩) 1 1) (.cons dnX .nil .nil) := trs_of1 h26 r26)
  refine wpc_facts (L0 := [(0, .bool false), (1, ptr b1), (2, .func (.func 16) ⟨[]⟩ ⟨[]⟩), (3, .func (.func 17) ⟨[]⟩ ⟨[]⟩), (4, ptr b4), (5, ptr b5), (6, .slice (some ⟨b26, 0, none⟩) 1 1)]) dnD (dnP b26) (S.keep ⟨rfl, rfl, rfl, rfl, rfl, rfl, rfl, trivial⟩) mixed (by kernel_rfl) ?_ ?_
  · (clear S)
    refine ⟨?_, ?_⟩
    · rintro L F a w hF hL S -
      replace S := S.keep (kp (hL 3 _ rfl) kp0)
      refine stepM_of rfl ?_
      (refine wpl_p S ?_; clear S a; intro a S)
      exact wpList_nil ⟨_, _, fun _ _ h => h, S.keep ⟨rfl, trivial⟩, rfl⟩
    refine ⟨?_, ?_⟩
    · rintro L F a w hF hL S -
      replace S := S.keep (kp (hL 2 _ rfl) kp0)
      refine stepM_of rfl ?_
      (refine wpl_p S ?_; clear S a; intro a S)
      exact wpList_nil ⟨_, _, fun _ _ h => h, S.keep ⟨rfl, trivial⟩, rfl⟩
    refine ⟨?_, ?_⟩
    · rintro L F a w hF hL S -
      replace S := S.keep (kp0)
      refine stepM_of rfl ?_
      (refine wpl_b S ?_; clear S a; intro a S)
      exact wpList_nil ⟨_, _, fun _ _ h => h, S.keep ⟨rfl, trivial⟩, ⟨_, rfl, rfl, ⟨_, rfl, (slf_nil _)⟩⟩⟩
    refine ⟨?_, ?_⟩
    · rintro L F a w hF hL S ⟨h0, h1, -⟩
      obtain ⟨v28, e28, rfl⟩ := h0 rfl
      obtain ⟨v29, e29, cs29, rfl, hn29, hR29⟩ := h1 rfl
      replace S := S.keep (kp e28 (kp e29 kp0))
      refine stepM_of rfl ?_
      (refine wpl_cF S (dnFieldCt F ([116], .nil) _ hR29) ?_; clear S a; intro u F' a w hu hle S)
      exact wpList_nil ⟨_, _, hle, S.keep ⟨rfl, trivial⟩, hu⟩
    refine ⟨?_, ?_⟩
    · rintro L F a w hF hL S ⟨h0, -⟩
      obtain ⟨v30, e30, p30⟩ := h0 rfl
      have q30 := p30; obtain ⟨oa30, oc30, rfl, -⟩ := p30
      replace S := S.keep (kp e30 kp0)
      refine stepM_of rfl ?_
      (refine wpl_b S ?_; clear S a; intro a S)
      exact wpList_nil ⟨_, _, fun _ _ h => h, S.keep ⟨rfl, trivial⟩, ⟨_, rfl, rfl, ⟨_, rfl, q30⟩⟩⟩
    refine ⟨?_, ?_⟩
    · rintro L F a w hF hL S ⟨h0, -⟩
      obtain ⟨v31, e31, cs31, rfl, hn31, hR31⟩ := h0 rfl
      replace S := S.keep (kp e31 kp0)
      refine stepM_of rfl ?_
      (refine wpl_buildSlice S rfl rfl rfl rfl rfl rfl (by rfl) (by first | (simp [Value.cells]; done) | (simp only [List.mem_cons, List.not_mem_nil, or_false, forall_eq_or_imp, forall_eq, Value.cells]; repeat' constructor) <;> assumption) rfl (by rfl) (by rfl) ?_; clear S a; intro b a w hown S; (simp only [Value.cells, List.flatMap_cons, List.flatMap_nil, List.append_nil] at S); have S' := frz1 S; clear S; obtain ⟨F', hle, hb, S⟩ := S')
      exact wpList_nil ⟨_, _, hle, S.keep ⟨rfl, trivial⟩, lim_of (l := ([(CD.mk [99] [FD.mk [] [116] .nil])] : List CD)) hb ((LiC.one hn31 (Mon.h hle hR31))) (by decide)⟩
    refine ⟨?_, ?_⟩
    · rintro L F a w hF hL S ⟨h0, -⟩
      obtain ⟨v32, e32, p32⟩ := h0 rfl
      have q32 := p32; obtain ⟨oa32, oc32, rfl, -⟩ := p32
      replace S := S.keep (kp e32 kp0)
      refine stepM_of rfl ?_
      (refine wpl_b S ?_; clear S a; intro a S)
      exact wpList_nil ⟨_, _, fun _ _ h => h, S.keep ⟨rfl, trivial⟩, ⟨_, rfl, rfl, ⟨_, _, rfl, (LiM.nil _ _ _), q32⟩⟩⟩
    refine ⟨?_, ?_⟩
    · rintro L F a w hF hL S ⟨h0, h1, -, -⟩
      obtain ⟨v27, e27, rfl⟩ := h0 rfl
      obtain ⟨v33, e33, cs33, rfl, hn33, hR33⟩ := h1 rfl
      replace S := S.keep (kp e27 (kp e33 kp0))
      refine stepM_of rfl ?_
      (refine wpl_cF S (dnOneCt F (TD.mk 0 0 false [116] [] [(CD.mk [99] [FD.mk [] [116] .nil])]) _ hR33) ?_; clear S a; intro u F' a w hu hle S)
      exact wpList_nil ⟨_, _, hle, S.keep ⟨rfl, trivial⟩, hu⟩
    refine ⟨?_, ?_⟩
    · rintro L F a w hF hL S ⟨h0, -⟩
      obtain ⟨v34, e34, cs34, rfl, -, ia34, ib34, ic34, va34, vb34, vc34, vd34, rfl, ha34, hb34, hc34, hd34⟩ := h0 rfl
      have ha34c := ha34; obtain ⟨oaha34, ocha34, rfl, -⟩ := ha34c
      have hb34c := hb34; obtain ⟨oahb34, ochb34, rfl, -⟩ := hb34c
      have hc34c := hc34; obtain ⟨oahc34, ochc34, rfl, -⟩ := hc34c
      have hd34c := hd34; obtain ⟨oahd34, ochd34, rfl, -⟩ := hd34c
      replace S := S.keep (kp e34 kp0)
      refine stepM_of rfl ?_
      (refine wpl_b S ?_; clear S a; intro a S)
      exact wpList_nil ⟨_, _, fun _ _ h => h, S.keep ⟨rfl, trivial⟩, ⟨_, rfl, rfl, ⟨[_, _, _, _, _, _], rfl, ⟨_, _, _, _, _, _, _, rfl, ha34, hb34, hc34, hd34⟩⟩⟩⟩
    refine ⟨?_, ?_⟩
    · rintro L F a w hF hL S -
      replace S := S.keep (kp (hL 3 _ rfl) kp0)
      refine stepM_of rfl ?_
      (refine wpl_p S ?_; clear S a; intro a S)
      exact wpList_nil ⟨_, _, fun _ _ h => h, S.keep ⟨rfl, trivial⟩, rfl⟩
    refine ⟨?_, ?_⟩
    · rintro L F a w hF hL S -
      replace S := S.keep (kp0)
      refine stepM_of rfl ?_
      (refine wpl_b S ?_; clear S a; intro a S)
      exact wpList_nil ⟨_, _, fun _ _ h => h, S.keep ⟨rfl, trivial⟩, ⟨_, rfl, rfl, ⟨_, rfl, (LiM.nil _ _ _)⟩⟩⟩
    refine ⟨?_, ?_⟩
    · rintro L F a w hF hL S -
      replace S := S.keep (kp0)
      refine stepM_of rfl ?_
      (refine wpl_b S ?_; clear S a; intro a S)
      exact wpList_nil ⟨_, _, fun _ _ h => h, S.keep ⟨rfl, trivial⟩, ⟨_, rfl, rfl, ⟨_, rfl, (LiM.nil _ _ _)⟩⟩⟩
    refine ⟨?_, ?_⟩
    · rintro L F a w hF hL S ⟨h0, h1, -⟩
      obtain ⟨v37, e37, cs37, rfl, hn37, hR37⟩ := h0 rfl
      obtain ⟨v38, e38, cs38, rfl, hn38, hR38⟩ := h1 rfl
      replace S := S.keep (kp e37 (kp e38 kp0))
      refine stepM_of rfl ?_
      (refine wpl_buildSlice S rfl rfl rfl rfl rfl rfl (by rfl) (by first | (simp [Value.cells]; done) | (simp only [List.mem_cons, List.not_mem_nil, or_false, forall_eq_or_imp, forall_eq, Value.cells]; repeat' constructor) <;> assumption) rfl (by rfl) (by rfl) ?_; clear S a; intro b a w hown S; (simp only [Value.cells, List.flatMap_cons, List.flatMap_nil, List.append_nil] at S); have S' := frz1 S; clear S; obtain ⟨F', hle, hb, S⟩ := S')
      exact wpList_nil ⟨_, _, hle, S.keep ⟨rfl, trivial⟩, lim_of (l := ([(CD.mk [99] []), (CD.mk [99] [])] : List CD)) hb ((LiC.app (l := [(CD.mk [99] [])]) (LiC.one hn37 (Mon.h hle hR37)) (LiC.one hn38 (Mon.h hle hR38)))) (by decide)⟩
    refine ⟨?_, ?_⟩
    · rintro L F a w hF hL S ⟨h0, -⟩
      obtain ⟨v39, e39, p39⟩ := h0 rfl
      have q39 := p39; obtain ⟨oa39, oc39, rfl, -⟩ := p39
      replace S := S.keep (kp e39 kp0)
      refine stepM_of rfl ?_
      (refine wpl_b S ?_; clear S a; intro a S)
      exact wpList_nil ⟨_, _, fun _ _ h => h, S.keep ⟨rfl, trivial⟩, ⟨_, rfl, rfl, ⟨_, _, rfl, (LiM.nil _ _ _), q39⟩⟩⟩
    refine ⟨?_, ?_⟩
    · rintro L F a w hF hL S ⟨h0, h1, -, -⟩
      obtain ⟨v36, e36, rfl⟩ := h0 rfl
      obtain ⟨v40, e40, cs40, rfl, hn40, hR40⟩ := h1 rfl
      replace S := S.keep (kp e36 (kp e40 kp0))
      refine stepM_of rfl ?_
      (refine wpl_cF S (dnOneCt F (TD.mk 0 0 false [116] [] [(CD.mk [99] []), (CD.mk [99] [])]) _ hR40) ?_; clear S a; intro u F' a w hu hle S)
      exact wpList_nil ⟨_, _, hle, S.keep ⟨rfl, trivial⟩, hu⟩
    refine ⟨?_, ?_⟩
    · rintro L F a w hF hL S ⟨h0, -⟩
      obtain ⟨v41, e41, cs41, rfl, -, ia41, ib41, ic41, va41, vb41, vc41, vd41, rfl, ha41, hb41, hc41, hd41⟩ := h0 rfl
      have ha41c := ha41; obtain ⟨oaha41, ocha41, rfl, -⟩ := ha41c
      have hb41c := hb41; obtain ⟨oahb41, ochb41, rfl, -⟩ := hb41c
      have hc41c := hc41; obtain ⟨oahc41, ochc41, rfl, -⟩ := hc41c
      have hd41c := hd41; obtain ⟨oahd41, ochd41, rfl, -⟩ := hd41c
      replace S := S.keep (kp e41 kp0)
      refine stepM_of rfl ?_
      (refine wpl_b S ?_; clear S a; intro a S)
      exact wpList_nil ⟨_, _, fun _ _ h => h, S.keep ⟨rfl, trivial⟩, ⟨_, rfl, rfl, ⟨[_, _, _, _, _, _], rfl, ⟨_, _, _, _, _, _, _, rfl, ha41, hb41, hc41, hd41⟩⟩⟩⟩
    refine ⟨?_, ?_⟩
    · rintro L F a w hF hL S -
      replace S := S.keep (kp (hL 3 _ rfl) kp0)
      refine stepM_of rfl ?_
      (refine wpl_p S ?_; clear S a; intro a S)
      exact wpList_nil ⟨_, _, fun _ _ h => h, S.keep ⟨rfl, trivial⟩, rfl⟩
    refine ⟨?_, ?_⟩
    · rintro L F a w hF hL S -
      replace S := S.keep (kp (hL 1 _ rfl) kp0)
      refine stepM_of rfl ?_
      (refine wpl_v S rfl rfl rfl (sv_loadAF S rfl rfl (Cels.mono hF (cels_of h1)) (by rfl)) ?_; clear S a; intro a S)
      exact wpList_nil ⟨_, _, fun _ _ h => h, S.keep ⟨rfl, trivial⟩, ⟨_, rfl, rfl, _, rfl, slf_nil _⟩⟩
    refine ⟨?_, ?_⟩
    · rintro L F a w hF hL S ⟨h0, -⟩
      obtain ⟨v44, e44, cs44, rfl, -, vx44, rfl, hy44⟩ := h0 rfl
      have hy44c := hy44; obtain ⟨oahy44, ochy44, rfl, -⟩ := hy44c
      replace S := S.keep (kp e44 kp0)
      refine stepM_of rfl ?_
      (refine wpl_b S ?_; clear S a; intro a S)
      exact wpList_nil ⟨_, _, fun _ _ h => h, S.keep ⟨rfl, trivial⟩, ⟨_, rfl, rfl, ⟨_, rfl, hy44⟩⟩⟩
    refine ⟨?_, ?_⟩
    · rintro L F a w hF hL S -
      replace S := S.keep (kp (hL 1 _ rfl) kp0)
      refine stepM_of rfl ?_
      (refine wpl_v S rfl rfl rfl (sv_loadAF S rfl rfl (Cels.mono hF (cels_of h1)) (by rfl)) ?_; clear S a; intro a S)
      exact wpList_nil ⟨_, _, fun _ _ h => h, S.keep ⟨rfl, trivial⟩, ⟨_, rfl, rfl, _, rfl, slf_nil _⟩⟩
    refine ⟨?_, ?_⟩
    · rintro L F a w hF hL S ⟨h0, -⟩
      obtain ⟨v46, e46, cs46, rfl, -, vx46, rfl, hy46⟩ := h0 rfl
      have hy46c := hy46; obtain ⟨oahy46, ochy46, rfl, -⟩ := hy46c
      replace S := S.keep (kp e46 kp0)
      refine stepM_of rfl ?_
      (refine wpl_b S ?_; clear S a; intro a S)
      exact wpList_nil ⟨_, _, fun _ _ h => h, S.keep ⟨rfl, trivial⟩, ⟨_, rfl, rfl, ⟨_, rfl, hy46⟩⟩⟩
    refine ⟨?_, ?_⟩
    · rintro L F a w hF hL S ⟨h0, h1, -⟩
      obtain ⟨v45, e45, cs45, rfl, hn45, hR45⟩ := h0 rfl
      obtain ⟨v47, e47, cs47, rfl, hn47, hR47⟩ := h1 rfl
      replace S := S.keep (kp e45 (kp e47 kp0))
      refine stepM_of rfl ?_
      (refine wpl_buildSlice S rfl rfl rfl rfl rfl rfl (by rfl) (by first | (simp [Value.cells]; done) | (simp only [List.mem_cons, List.not_mem_nil, or_false, forall_eq_or_imp, forall_eq, Value.cells]; repeat' constructor) <;> assumption) rfl (by rfl) (by rfl) ?_; clear S a; intro b a w hown S; (simp only [Value.cells, List.flatMap_cons, List.flatMap_nil, List.append_nil] at S); have S' := frz1 S; clear S; obtain ⟨F', hle, hb, S⟩ := S')
      exact wpList_nil ⟨_, _, hle, S.keep ⟨rfl, trivial⟩, lim_of (l := ([(FD.mk [120] sInt .nil), (FD.mk [120] sInt .nil)] : List FD)) hb ((LiC.app (l := [(FD.mk [120] sInt .nil)]) (LiC.one hn45 (Mon.h hle hR45)) (LiC.one hn47 (Mon.h hle hR47)))) (by decide)⟩
    refine ⟨?_, ?_⟩
    · rintro L F a w hF hL S ⟨h0, -⟩
      obtain ⟨v48, e48, p48⟩ := h0 rfl
      have q48 := p48; obtain ⟨oa48, oc48, rfl, -⟩ := p48
      replace S := S.keep (kp e48 kp0)
      refine stepM_of rfl ?_
      (refine wpl_b S ?_; clear S a; intro a S)
      exact wpList_nil ⟨_, _, fun _ _ h => h, S.keep ⟨rfl, trivial⟩, ⟨_, rfl, rfl, ⟨_, rfl, q48⟩⟩⟩
    refine ⟨?_, ?_⟩
    · rintro L F a w hF hL S ⟨h0, -⟩
      obtain ⟨v49, e49, cs49, rfl, hn49, hR49⟩ := h0 rfl
      replace S := S.keep (kp e49 kp0)
      refine stepM_of rfl ?_
      (refine wpl_buildSlice S rfl rfl rfl rfl rfl rfl (by rfl) (by first | (simp [Value.cells]; done) | (simp only [List.mem_cons, List.not_mem_nil, or_false, forall_eq_or_imp, forall_eq, Value.cells]; repeat' constructor) <;> assumption) rfl (by rfl) (by rfl) ?_; clear S a; intro b a w hown S; (simp only [Value.cells, List.flatMap_cons, List.flatMap_nil, List.append_nil] at S); have S' := frz1 S; clear S; obtain ⟨F', hle, hb, S⟩ := S')
      exact wpList_nil ⟨_, _, hle, S.keep ⟨rfl, trivial⟩, lim_of (l := ([(CD.mk [99] [(FD.mk [120] sInt .nil), (FD.mk [120] sInt .nil)])] : List CD)) hb ((LiC.one hn49 (Mon.h hle hR49))) (by decide)⟩
    refine ⟨?_, ?_⟩
    · rintro L F a w hF hL S ⟨h0, -⟩
      obtain ⟨v50, e50, p50⟩ := h0 rfl
      have q50 := p50; obtain ⟨oa50, oc50, rfl, -⟩ := p50
      replace S := S.keep (kp e50 kp0)
      refine stepM_of rfl ?_
      (refine wpl_b S ?_; clear S a; intro a S)
      exact wpList_nil ⟨_, _, fun _ _ h => h, S.keep ⟨rfl, trivial⟩, ⟨_, rfl, rfl, ⟨_, _, rfl, (LiM.nil _ _ _), q50⟩⟩⟩
    refine ⟨?_, ?_⟩
    · rintro L F a w hF hL S ⟨h0, h1, -, -⟩
      obtain ⟨v43, e43, rfl⟩ := h0 rfl
      obtain ⟨v51, e51, cs51, rfl, hn51, hR51⟩ := h1 rfl
      replace S := S.keep (kp e43 (kp e51 kp0))
      refine stepM_of rfl ?_
      (refine wpl_cF S (dnOneCt F (TD.mk 0 0 false [116] [] [(CD.mk [99] [(FD.mk [120] sInt .nil), (FD.mk [120] sInt .nil)])]) _ hR51) ?_; clear S a; intro u F' a w hu hle S)
      exact wpList_nil ⟨_, _, hle, S.keep ⟨rfl, trivial⟩, hu⟩
    refine ⟨?_, ?_⟩
    · rintro L F a w hF hL S ⟨h0, -⟩
      obtain ⟨v52, e52, cs52, rfl, -, ia52, ib52, ic52, va52, vb52, vc52, vd52, rfl, ha52, hb52, hc52, hd52⟩ := h0 rfl
      have ha52c := ha52; obtain ⟨oaha52, ocha52, rfl, -⟩ := ha52c
      have hb52c := hb52; obtain ⟨oahb52, ochb52, rfl, -⟩ := hb52c
      have hc52c := hc52; obtain ⟨oahc52, ochc52, rfl, -⟩ := hc52c
      have hd52c := hd52; obtain ⟨oahd52, ochd52, rfl, -⟩ := hd52c
      replace S := S.keep (kp e52 kp0)
      refine stepM_of rfl ?_
      (refine wpl_b S ?_; clear S a; intro a S)
      exact wpList_nil ⟨_, _, fun _ _ h => h, S.keep ⟨rfl, trivial⟩, ⟨_, rfl, rfl, ⟨[_, _, _, _, _, _], rfl, ⟨_, _, _, _, _, _, _, rfl, ha52, hb52, hc52, hd52⟩⟩⟩⟩
    refine ⟨?_, ?_⟩
    · rintro L F a w hF hL S -
      replace S := S.keep (kp (hL 3 _ rfl) kp0)
      refine stepM_of rfl ?_
      (refine wpl_p S ?_; clear S a; intro a S)
      exact wpList_nil ⟨_, _, fun _ _ h => h, S.keep ⟨rfl, trivial⟩, rfl⟩
    refine ⟨?_, ?_⟩
    · rintro L F a w hF hL S -
      replace S := S.keep (kp (hL 1 _ rfl) kp0)
      refine stepM_of rfl ?_
      (refine wpl_v S rfl rfl rfl (sv_loadAF S rfl rfl (Cels.mono hF (cels_of h1)) (by rfl)) ?_; clear S a; intro a S)
      exact wpList_nil ⟨_, _, fun _ _ h => h, S.keep ⟨rfl, trivial⟩, ⟨_, rfl, rfl, _, rfl, slf_nil _⟩⟩
    refine ⟨?_, ?_⟩
    · rintro L F a w hF hL S ⟨h0, -⟩
      obtain ⟨v55, e55, cs55, rfl, -, vx55, rfl, hy55⟩ := h0 rfl
      have hy55c := hy55; obtain ⟨oahy55, ochy55, rfl, -⟩ := hy55c
      replace S := S.keep (kp e55 kp0)
      refine stepM_of rfl ?_
      (refine wpl_b S ?_; clear S a; intro a S)
      exact wpList_nil ⟨_, _, fun _ _ h => h, S.keep ⟨rfl, trivial⟩, ⟨_, rfl, rfl, ⟨_, rfl, hy55⟩⟩⟩
    refine ⟨?_, ?_⟩
    · rintro L F a w hF hL S -
      replace S := S.keep (kp (hL 1 _ rfl) kp0)
      refine stepM_of rfl ?_
      (refine wpl_v S rfl rfl rfl (sv_loadAF S rfl rfl (Cels.mono hF (cels_of h1)) (by rfl)) ?_; clear S a; intro a S)
      exact wpList_nil ⟨_, _, fun _ _ h => h, S.keep ⟨rfl, trivial⟩, ⟨_, rfl, rfl, _, rfl, slf_nil _⟩⟩
    refine ⟨?_, ?_⟩
    · rintro L F a w hF hL S ⟨h0, -⟩
      obtain ⟨v57, e57, cs57, rfl, -, vx57, rfl, hy57⟩ := h0 rfl
      have hy57c := hy57; obtain ⟨oahy57, ochy57, rfl, -⟩ := hy57c
      replace S := S.keep (kp e57 kp0)
      refine stepM_of rfl ?_
      (refine wpl_b S ?_; clear S a; intro a S)
      exact wpList_nil ⟨_, _, fun _ _ h => h, S.keep ⟨rfl, trivial⟩, ⟨_, rfl, rfl, ⟨_, rfl, hy57⟩⟩⟩
    refine ⟨?_, ?_⟩
    · rintro L F a w hF hL S ⟨h0, h1, -⟩
      obtain ⟨v56, e56, cs56, rfl, hn56, hR56⟩ := h0 rfl
      obtain ⟨v58, e58, cs58, rfl, hn58, hR58⟩ := h1 rfl
      replace S := S.keep (kp e56 (kp e58 kp0))
      refine stepM_of rfl ?_
      (refine wpl_buildSlice S rfl rfl rfl rfl rfl rfl (by rfl) (by first | (simp [Value.cells]; done) | (simp only [List.mem_cons, List.not_mem_nil, or_false, forall_eq_or_imp, forall_eq, Value.cells]; repeat' constructor) <;> assumption) rfl (by rfl) (by rfl) ?_; clear S a; intro b a w hown S; (simp only [Value.cells, List.flatMap_cons, List.flatMap_nil, List.append_nil] at S); have S' := frz1 S; clear S; obtain ⟨F', hle, hb, S⟩ := S')
      exact wpList_nil ⟨_, _, hle, S.keep ⟨rfl, trivial⟩, lim_of (l := ([(FD.mk [] sInt .nil), (FD.mk [] sInt .nil)] : List FD)) hb ((LiC.app (l := [(FD.mk [] sInt .nil)]) (LiC.one hn56 (Mon.h hle hR56)) (LiC.one hn58 (Mon.h hle hR58)))) (by decide)⟩
    refine ⟨?_, ?_⟩
    · rintro L F a w hF hL S ⟨h0, -⟩
      obtain ⟨v59, e59, p59⟩ := h0 rfl
      have q59 := p59; obtain ⟨oa59, oc59, rfl, -⟩ := p59
      replace S := S.keep (kp e59 kp0)
      refine stepM_of rfl ?_
      (refine wpl_b S ?_; clear S a; intro a S)
      exact wpList_nil ⟨_, _, fun _ _ h => h, S.keep ⟨rfl, trivial⟩, ⟨_, rfl, rfl, ⟨_, rfl, q59⟩⟩⟩
    refine ⟨?_, ?_⟩
    · rintro L F a w hF hL S ⟨h0, -⟩
      obtain ⟨v60, e60, cs60, rfl, hn60, hR60⟩ := h0 rfl
      replace S := S.keep (kp e60 kp0)
      refine stepM_of rfl ?_
      (refine wpl_buildSlice S rfl rfl rfl rfl rfl rfl (by rfl) (by first | (simp [Value.cells]; done) | (simp only [List.mem_cons, List.not_mem_nil, or_false, forall_eq_or_imp, forall_eq, Value.cells]; repeat' constructor) <;> assumption) rfl (by rfl) (by rfl) ?_; clear S a; intro b a w hown S; (simp only [Value.cells, List.flatMap_cons, List.flatMap_nil, List.append_nil] at S); have S' := frz1 S; clear S; obtain ⟨F', hle, hb, S⟩ := S')
      exact wpList_nil ⟨_, _, hle, S.keep ⟨rfl, trivial⟩, lim_of (l := ([(CD.mk [99] [(FD.mk [] sInt .nil), (FD.mk [] sInt .nil)])] : List CD)) hb ((LiC.one hn60 (Mon.h hle hR60))) (by decide)⟩
    refine ⟨?_, ?_⟩
    · rintro L F a w hF hL S ⟨h0, -⟩
      obtain ⟨v61, e61, p61⟩ := h0 rfl
      have q61 := p61; obtain ⟨oa61, oc61, rfl, -⟩ := p61
      replace S := S.keep (kp e61 kp0)
      refine stepM_of rfl ?_
      (refine wpl_b S ?_; clear S a; intro a S)
      exact wpList_nil ⟨_, _, fun _ _ h => h, S.keep ⟨rfl, trivial⟩, ⟨_, rfl, rfl, ⟨_, _, rfl, (LiM.nil _ _ _), q61⟩⟩⟩
    refine ⟨?_, ?_⟩
    · rintro L F a w hF hL S ⟨h0, h1, -, -⟩
      obtain ⟨v54, e54, rfl⟩ := h0 rfl
      obtain ⟨v62, e62, cs62, rfl, hn62, hR62⟩ := h1 rfl
      replace S := S.keep (kp e54 (kp e62 kp0))
      refine stepM_of rfl ?_
      (refine wpl_cF S (dnOneCt F (TD.mk 0 0 false [116] [] [(CD.mk [99] [(FD.mk [] sInt .nil), (FD.mk [] sInt .nil)])]) _ hR62) ?_; clear S a; intro u F' a w hu hle S)
      exact wpList_nil ⟨_, _, hle, S.keep ⟨rfl, trivial⟩, hu⟩
    refine ⟨?_, ?_⟩
    · rintro L F a w hF hL S ⟨h0, -⟩
      obtain ⟨v63, e63, cs63, rfl, -, ia63, ib63, ic63, va63, vb63, vc63, vd63, rfl, ha63, hb63, hc63, hd63⟩ := h0 rfl
      have ha63c := ha63; obtain ⟨oaha63, ocha63, rfl, -⟩ := ha63c
      have hb63c := hb63; obtain ⟨oahb63, ochb63, rfl, -⟩ := hb63c
      have hc63c := hc63; obtain ⟨oahc63, ochc63, rfl, -⟩ := hc63c
      have hd63c := hd63; obtain ⟨oahd63, ochd63, rfl, -⟩ := hd63c
      replace S := S.keep (kp e63 kp0)
      refine stepM_of rfl ?_
      (refine wpl_b S ?_; clear S a; intro a S)
      exact wpList_nil ⟨_, _, fun _ _ h => h, S.keep ⟨rfl, trivial⟩, ⟨_, rfl, rfl, ⟨[_, _, _, _, _, _], rfl, ⟨_, _, _, _, _, _, _, rfl, ha63, hb63, hc63, hd63⟩⟩⟩⟩
    refine ⟨?_, ?_⟩
    · rintro L F a w hF hL S -
      replace S := S.keep (kp (hL 3 _ rfl) kp0)
      refine stepM_of rfl ?_
      (refine wpl_p S ?_; clear S a; intro a S)
      exact wpList_nil ⟨_, _, fun _ _ h => h, S.keep ⟨rfl, trivial⟩, rfl⟩
    refine ⟨?_, ?_⟩
    · rintro L F a w hF hL S -
      replace S := S.keep (kp (hL 2 _ rfl) kp0)
      refine stepM_of rfl ?_
      (refine wpl_p S ?_; clear S a; intro a S)
      exact wpList_nil ⟨_, _, fun _ _ h => h, S.keep ⟨rfl, trivial⟩, rfl⟩
    refine ⟨?_, ?_⟩
    · rintro L F a w hF hL S -
      replace S := S.keep (kp0)
      refine stepM_of rfl ?_
      (refine wpl_b S ?_; clear S a; intro a S)
      exact wpList_nil ⟨_, _, fun _ _ h => h, S.keep ⟨rfl, trivial⟩, ⟨_, rfl, rfl, ⟨_, rfl, (slf_nil _)⟩⟩⟩
    refine ⟨?_, ?_⟩
    · rintro L F a w hF hL S ⟨h0, h1, -, -⟩
      obtain ⟨v66, e66, rfl⟩ := h0 rfl
      obtain ⟨v67, e67, cs67, rfl, hn67, hR67⟩ := h1 rfl
      replace S := S.keep (kp e66 (kp e67 kp0))
      refine stepM_of rfl ?_
      (refine wpl_cF S (dnFieldCt F ([110, 111, 110, 101], .nil) _ hR67) ?_; clear S a; intro u F' a w hu hle S)
      exact wpList_nil ⟨_, _, hle, S.keep ⟨rfl, trivial⟩, hu⟩
    refine ⟨?_, ?_⟩
    · rintro L F a w hF hL S ⟨h0, -⟩
      obtain ⟨v68, e68, p68⟩ := h0 rfl
      have q68 := p68; obtain ⟨oa68, oc68, rfl, -⟩ := p68
      replace S := S.keep (kp e68 kp0)
      refine stepM_of rfl ?_
      (refine wpl_b S ?_; clear S a; intro a S)
      exact wpList_nil ⟨_, _, fun _ _ h => h, S.keep ⟨rfl, trivial⟩, ⟨_, rfl, rfl, ⟨_, rfl, q68⟩⟩⟩
    refine ⟨?_, ?_⟩
    · rintro L F a w hF hL S ⟨h0, -⟩
      obtain ⟨v69, e69, cs69, rfl, hn69, hR69⟩ := h0 rfl
      replace S := S.keep (kp e69 kp0)
      refine stepM_of rfl ?_
      (refine wpl_buildSlice S rfl rfl rfl rfl rfl rfl (by rfl) (by first | (simp [Value.cells]; done) | (simp only [List.mem_cons, List.not_mem_nil, or_false, forall_eq_or_imp, forall_eq, Value.cells]; repeat' constructor) <;> assumption) rfl (by rfl) (by rfl) ?_; clear S a; intro b a w hown S; (simp only [Value.cells, List.flatMap_cons, List.flatMap_nil, List.append_nil] at S); have S' := frz1 S; clear S; obtain ⟨F', hle, hb, S⟩ := S')
      exact wpList_nil ⟨_, _, hle, S.keep ⟨rfl, trivial⟩, lim_of (l := ([(CD.mk [99] [FD.mk [] [110, 111, 110, 101] .nil])] : List CD)) hb ((LiC.one hn69 (Mon.h hle hR69))) (by decide)⟩
    refine ⟨?_, ?_⟩
    · rintro L F a w hF hL S ⟨h0, -⟩
      obtain ⟨v70, e70, p70⟩ := h0 rfl
      have q70 := p70; obtain ⟨oa70, oc70, rfl, -⟩ := p70
      replace S := S.keep (kp e70 kp0)
      refine stepM_of rfl ?_
      (refine wpl_b S ?_; clear S a; intro a S)
      exact wpList_nil ⟨_, _, fun _ _ h => h, S.keep ⟨rfl, trivial⟩, ⟨_, rfl, rfl, ⟨_, _, rfl, (LiM.nil _ _ _), q70⟩⟩⟩
    refine ⟨?_, ?_⟩
    · rintro L F a w hF hL S ⟨h0, h1, -, -⟩
      obtain ⟨v65, e65, rfl⟩ := h0 rfl
      obtain ⟨v71, e71, cs71, rfl, hn71, hR71⟩ := h1 rfl
      replace S := S.keep (kp e65 (kp e71 kp0))
      refine stepM_of rfl ?_
      (refine wpl_cF S (dnOneCt F (TD.mk 0 0 false [116] [] [(CD.mk [99] [FD.mk [] [110, 111, 110, 101] .nil])]) _ hR71) ?_; clear S a; intro u F' a w hu hle S)
      exact wpList_nil ⟨_, _, hle, S.keep ⟨rfl, trivial⟩, hu⟩
    refine ⟨?_, ?_⟩
    · rintro L F a w hF hL S ⟨h0, -⟩
      obtain ⟨v72, e72, cs72, rfl, -, ia72, ib72, ic72, va72, vb72, vc72, vd72, rfl, ha72, hb72, hc72, hd72⟩ := h0 rfl
      have ha72c := ha72; obtain ⟨oaha72, ocha72, rfl, -⟩ := ha72c
      have hb72c := hb72; obtain ⟨oahb72, ochb72, rfl, -⟩ := hb72c
      have hc72c := hc72; obtain ⟨oahc72, ochc72, rfl, -⟩ := hc72c
      have hd72c := hd72; obtain ⟨oahd72, ochd72, rfl, -⟩ := hd72c
      replace S := S.keep (kp e72 kp0)
      refine stepM_of rfl ?_
      (refine wpl_b S ?_; clear S a; intro a S)
      exact wpList_nil ⟨_, _, fun _ _ h => h, S.keep ⟨rfl, trivial⟩, ⟨_, rfl, rfl, ⟨[_, _, _, _, _, _], rfl, ⟨_, _, _, _, _, _, _, rfl, ha72, hb72, hc72, hd72⟩⟩⟩⟩
    refine ⟨?_, ?_⟩
    · rintro L F a w hF hL S -
      replace S := S.keep (kp (hL 3 _ rfl) kp0)
      refine stepM_of rfl ?_
      (refine wpl_p S ?_; clear S a; intro a S)
      exact wpList_nil ⟨_, _, fun _ _ h => h, S.keep ⟨rfl, trivial⟩, rfl⟩
    refine ⟨?_, ?_⟩
    · rintro L F a w hF hL S -
      replace S := S.keep (kp (hL 2 _ rfl) kp0)
      refine stepM_of rfl ?_
      (refine wpl_p S ?_; clear S a; intro a S)
      exact wpList_nil ⟨_, _, fun _ _ h => h, S.keep ⟨rfl, trivial⟩, rfl⟩
    refine ⟨?_, ?_⟩
    · rintro L F a w hF hL S -
      replace S := S.keep (kp (hL 1 _ rfl) kp0)
      refine stepM_of rfl ?_
      (refine wpl_v S rfl rfl rfl (sv_loadAF S rfl rfl (Cels.mono hF (cels_of h1)) (by rfl)) ?_; clear S a; intro a S)
      exact wpList_nil ⟨_, _, fun _ _ h => h, S.keep ⟨rfl, trivial⟩, ⟨_, rfl, rfl, _, rfl, slf_nil _⟩⟩
    refine ⟨?_, ?_⟩
    · rintro L F a w hF hL S ⟨h0, -⟩
      obtain ⟨v76, e76, cs76, rfl, hn76, hR76⟩ := h0 rfl
      replace S := S.keep (kp e76 kp0)
      refine stepM_of rfl ?_
      (refine wpl_buildSlice S rfl rfl rfl rfl rfl rfl (by rfl) (by first | (simp [Value.cells]; done) | (simp only [List.mem_cons, List.not_mem_nil, or_false, forall_eq_or_imp, forall_eq, Value.cells]; repeat' constructor) <;> assumption) rfl (by rfl) (by rfl) ?_; clear S a; intro b a w hown S; (simp only [Value.cells, List.flatMap_cons, List.flatMap_nil, List.append_nil] at S); have S' := frz1 S; clear S; obtain ⟨F', hle, hb, S⟩ := S')
      exact wpList_nil ⟨_, _, hle, S.keep ⟨rfl, trivial⟩, slf_of (l := (.cons sInt .nil .nil)) hb (FoC.of (Mon.h hle hR76)) (by decide)⟩
    refine ⟨?_, ?_⟩
    · rintro L F a w hF hL S ⟨h0, -⟩
      obtain ⟨v77, e77, p77⟩ := h0 rfl
      have q77 := p77; obtain ⟨oa77, oc77, rfl, -⟩ := p77
      replace S := S.keep (kp e77 kp0)
      refine stepM_of rfl ?_
      (refine wpl_b S ?_; clear S a; intro a S)
      exact wpList_nil ⟨_, _, fun _ _ h => h, S.keep ⟨rfl, trivial⟩, ⟨_, rfl, rfl, ⟨_, rfl, q77⟩⟩⟩
    refine ⟨?_, ?_⟩
    · rintro L F a w hF hL S ⟨h0, h1, -, -⟩
      obtain ⟨v75, e75, rfl⟩ := h0 rfl
      obtain ⟨v78, e78, cs78, rfl, hn78, hR78⟩ := h1 rfl
      replace S := S.keep (kp e75 (kp e78 kp0))
      refine stepM_of rfl ?_
      (refine wpl_cF S (dnFieldCt F ([105, 110, 116], (.cons sInt .nil .nil)) _ hR78) ?_; clear S a; intro u F' a w hu hle S)
      exact wpList_nil ⟨_, _, hle, S.keep ⟨rfl, trivial⟩, hu⟩
    refine ⟨?_, ?_⟩
    · rintro L F a w hF hL S ⟨h0, -⟩
      obtain ⟨v79, e79, p79⟩ := h0 rfl
      have q79 := p79; obtain ⟨oa79, oc79, rfl, -⟩ := p79
      replace S := S.keep (kp e79 kp0)
      refine stepM_of rfl ?_
      (refine wpl_b S ?_; clear S a; intro a S)
      exact wpList_nil ⟨_, _, fun _ _ h => h, S.keep ⟨rfl, trivial⟩, ⟨_, rfl, rfl, ⟨_, rfl, q79⟩⟩⟩
    refine ⟨?_, ?_⟩
    · rintro L F a w hF hL S ⟨h0, -⟩
      obtain ⟨v80, e80, cs80, rfl, hn80, hR80⟩ := h0 rfl
      replace S := S.keep (kp e80 kp0)
      refine stepM_of rfl ?_
      (refine wpl_buildSlice S rfl rfl rfl rfl rfl rfl (by rfl) (by first | (simp [Value.cells]; done) | (simp only [List.mem_cons, List.not_mem_nil, or_false, forall_eq_or_imp, forall_eq, Value.cells]; repeat' constructor) <;> assumption) rfl (by rfl) (by rfl) ?_; clear S a; intro b a w hown S; (simp only [Value.cells, List.flatMap_cons, List.flatMap_nil, List.append_nil] at S); have S' := frz1 S; clear S; obtain ⟨F', hle, hb, S⟩ := S')
      exact wpList_nil ⟨_, _, hle, S.keep ⟨rfl, trivial⟩, lim_of (l := ([(CD.mk [99] [FD.mk [] [105, 110, 116] (.cons sInt .nil .nil)])] : List CD)) hb ((LiC.one hn80 (Mon.h hle hR80))) (by decide)⟩
    refine ⟨?_, ?_⟩
    · rintro L F a w hF hL S ⟨h0, -⟩
      obtain ⟨v81, e81, p81⟩ := h0 rfl
      have q81 := p81; obtain ⟨oa81, oc81, rfl, -⟩ := p81
      replace S := S.keep (kp e81 kp0)
      refine stepM_of rfl ?_
      (refine wpl_b S ?_; clear S a; intro a S)
      exact wpList_nil ⟨_, _, fun _ _ h => h, S.keep ⟨rfl, trivial⟩, ⟨_, rfl, rfl, ⟨_, _, rfl, (LiM.nil _ _ _), q81⟩⟩⟩
    refine ⟨?_, ?_⟩
    · rintro L F a w hF hL S ⟨h0, h1, -, -⟩
      obtain ⟨v74, e74, rfl⟩ := h0 rfl
      obtain ⟨v82, e82, cs82, rfl, hn82, hR82⟩ := h1 rfl
      replace S := S.keep (kp e74 (kp e82 kp0))
      refine stepM_of rfl ?_
      (refine wpl_cF S (dnOneCt F (TD.mk 0 0 false [116] [] [(CD.mk [99] [FD.mk [] [105, 110, 116] (.cons sInt .nil .nil)])]) _ hR82) ?_; clear S a; intro u F' a w hu hle S)
      exact wpList_nil ⟨_, _, hle, S.keep ⟨rfl, trivial⟩, hu⟩
    refine ⟨?_, ?_⟩
    · rintro L F a w hF hL S ⟨h0, -⟩
      obtain ⟨v83, e83, cs83, rfl, -, ia83, ib83, ic83, va83, vb83, vc83, vd83, rfl, ha83, hb83, hc83, hd83⟩ := h0 rfl
      have ha83c := ha83; obtain ⟨oaha83, ocha83, rfl, -⟩ := ha83c
      have hb83c := hb83; obtain ⟨oahb83, ochb83, rfl, -⟩ := hb83c
      have hc83c := hc83; obtain ⟨oahc83, ochc83, rfl, -⟩ := hc83c
      have hd83c := hd83; obtain ⟨oahd83, ochd83, rfl, -⟩ := hd83c
      replace S := S.keep (kp e83 kp0)
      refine stepM_of rfl ?_
      (refine wpl_b S ?_; clear S a; intro a S)
      exact wpList_nil ⟨_, _, fun _ _ h => h, S.keep ⟨rfl, trivial⟩, ⟨_, rfl, rfl, ⟨[_, _, _, _, _, _], rfl, ⟨_, _, _, _, _, _, _, rfl, ha83, hb83, hc83, hd83⟩⟩⟩⟩
    refine ⟨?_, ?_⟩
    · rintro L F a w hF hL S -
      replace S := S.keep (kp (hL 3 _ rfl) kp0)
      refine stepM_of rfl ?_
      (refine wpl_p S ?_; clear S a; intro a S)
      exact wpList_nil ⟨_, _, fun _ _ h => h, S.keep ⟨rfl, trivial⟩, rfl⟩
    refine ⟨?_, ?_⟩
    · rintro L F a w hF hL S -
      replace S := S.keep (kp0)
      refine stepM_of rfl ?_
      (refine wpl_buildSlice S rfl rfl rfl rfl rfl rfl (by rfl) (by first | (simp [Value.cells]; done) | (simp only [List.mem_cons, List.not_mem_nil, or_false, forall_eq_or_imp, forall_eq, Value.cells]; repeat' constructor) <;> assumption) rfl (by rfl) (by rfl) ?_; clear S a; intro b a w hown S; (simp only [Value.cells, List.flatMap_cons, List.flatMap_nil, List.append_nil] at S); have S' := frz1 S; clear S; obtain ⟨F', hle, hb, S⟩ := S')
      exact wpList_nil ⟨_, _, hle, S.keep ⟨rfl, trivial⟩, lim_of (l := ([[39, 97]] : List (List UInt8))) hb (LiC.one rfl (rfl : StR _ [39, 97] [.string (bs [39, 97])])) (by decide)⟩
    refine ⟨?_, ?_⟩
    · rintro L F a w hF hL S -
      replace S := S.keep (kp0)
      refine stepM_of rfl ?_
      (refine wpl_b S ?_; clear S a; intro a S)
      exact wpList_nil ⟨_, _, fun _ _ h => h, S.keep ⟨rfl, trivial⟩, ⟨_, rfl, rfl, ⟨_, rfl, (LiM.nil _ _ _)⟩⟩⟩
    refine ⟨?_, ?_⟩
    · rintro L F a w hF hL S -
      replace S := S.keep (kp (hL 2 _ rfl) kp0)
      refine stepM_of rfl ?_
      (refine wpl_p S ?_; clear S a; intro a S)
      exact wpList_nil ⟨_, _, fun _ _ h => h, S.keep ⟨rfl, trivial⟩, rfl⟩
    refine ⟨?_, ?_⟩
    · rintro L F a w hF hL S -
      replace S := S.keep (kp (hL 4 _ rfl) kp0)
      refine stepM_of rfl ?_
      (refine wpl_v S rfl rfl rfl (sv_loadAF S rfl rfl (Cels.mono hF (cels_of h4)) (by rfl)) ?_; clear S a; intro a S)
      exact wpList_nil ⟨_, _, fun _ _ h => h, S.keep ⟨rfl, trivial⟩, ⟨_, rfl, rfl, _, rfl, slf_nil _⟩⟩
    refine ⟨?_, ?_⟩
    · rintro L F a w hF hL S -
      replace S := S.keep (kp (hL 4 _ rfl) kp0)
      refine stepM_of rfl ?_
      (refine wpl_v S rfl rfl rfl (sv_loadAF S rfl rfl (Cels.mono hF (cels_of h4)) (by rfl)) ?_; clear S a; intro a S)
      exact wpList_nil ⟨_, _, fun _ _ h => h, S.keep ⟨rfl, trivial⟩, ⟨_, rfl, rfl, _, rfl, slf_nil _⟩⟩
    refine ⟨?_, ?_⟩
    · rintro L F a w hF hL S ⟨h0, h1, -⟩
      obtain ⟨v89, e89, cs89, rfl, hn89, hR89⟩ := h0 rfl
      obtain ⟨v90, e90, cs90, rfl, hn90, hR90⟩ := h1 rfl
      replace S := S.keep (kp e89 (kp e90 kp0))
      refine stepM_of rfl ?_
      (refine wpl_buildSlice S rfl rfl rfl rfl rfl rfl (by rfl) (by first | (simp [Value.cells]; done) | (simp only [List.mem_cons, List.not_mem_nil, or_false, forall_eq_or_imp, forall_eq, Value.cells]; repeat' constructor) <;> assumption) rfl (by rfl) (by rfl) ?_; clear S a; intro b a w hown S; (simp only [Value.cells, List.flatMap_cons, List.flatMap_nil, List.append_nil] at S); have S' := frz1 S; clear S; obtain ⟨F', hle, hb, S⟩ := S')
      exact wpList_nil ⟨_, _, hle, S.keep ⟨rfl, trivial⟩, slf_of (l := (.cons sA .nil (.cons sA .nil .nil))) hb (FoC.app (FoC.of (Mon.h hle hR89)) (FoC.of (Mon.h hle hR90))) (by decide)⟩
    refine ⟨?_, ?_⟩
    · rintro L F a w hF hL S ⟨h0, -⟩
      obtain ⟨v91, e91, p91⟩ := h0 rfl
      have q91 := p91; obtain ⟨oa91, oc91, rfl, -⟩ := p91
      replace S := S.keep (kp e91 kp0)
      refine stepM_of rfl ?_
      (refine wpl_b S ?_; clear S a; intro a S)
      exact wpList_nil ⟨_, _, fun _ _ h => h, S.keep ⟨rfl, trivial⟩, ⟨_, rfl, rfl, ⟨_, rfl, q91⟩⟩⟩
    refine ⟨?_, ?_⟩
    · rintro L F a w hF hL S ⟨h0, -⟩
      obtain ⟨v92, e92, cs92, rfl, hn92, hR92⟩ := h0 rfl
      replace S := S.keep (kp e92 kp0)
      refine stepM_of rfl ?_
      (refine wpl_buildSlice S rfl rfl rfl rfl rfl rfl (by rfl) (by first | (simp [Value.cells]; done) | (simp only [List.mem_cons, List.not_mem_nil, or_false, forall_eq_or_imp, forall_eq, Value.cells]; repeat' constructor) <;> assumption) rfl (by rfl) (by rfl) ?_; clear S a; intro b a w hown S; (simp only [Value.cells, List.flatMap_cons, List.flatMap_nil, List.append_nil] at S); have S' := frz1 S; clear S; obtain ⟨F', hle, hb, S⟩ := S')
      exact wpList_nil ⟨_, _, hle, S.keep ⟨rfl, trivial⟩, slf_of (l := (.cons [116, 117, 112, 108, 101] (.cons sA .nil (.cons sA .nil .nil)) .nil)) hb (FoC.of (Mon.h hle hR92)) (by decide)⟩
    refine ⟨?_, ?_⟩
    · rintro L F a w hF hL S ⟨h0, -⟩
      obtain ⟨v93, e93, p93⟩ := h0 rfl
      have q93 := p93; obtain ⟨oa93, oc93, rfl, -⟩ := p93
      replace S := S.keep (kp e93 kp0)
      refine stepM_of rfl ?_
      (refine wpl_b S ?_; clear S a; intro a S)
      exact wpList_nil ⟨_, _, fun _ _ h => h, S.keep ⟨rfl, trivial⟩, ⟨_, rfl, rfl, ⟨_, rfl, q93⟩⟩⟩
    refine ⟨?_, ?_⟩
    · rintro L F a w hF hL S ⟨h0, h1, -, -⟩
      obtain ⟨v88, e88, rfl⟩ := h0 rfl
      obtain ⟨v94, e94, cs94, rfl, hn94, hR94⟩ := h1 rfl
      replace S := S.keep (kp e88 (kp e94 kp0))
      refine stepM_of rfl ?_
      (refine wpl_cF S (dnFieldCt F ([116], (.cons [116, 117, 112, 108, 101] (.cons sA .nil (.cons sA .nil .nil)) .nil)) _ hR94) ?_; clear S a; intro u F' a w hu hle S)
      exact wpList_nil ⟨_, _, hle, S.keep ⟨rfl, trivial⟩, hu⟩
    refine ⟨?_, ?_⟩
    · rintro L F a w hF hL S ⟨h0, -⟩
      obtain ⟨v95, e95, p95⟩ := h0 rfl
      have q95 := p95; obtain ⟨oa95, oc95, rfl, -⟩ := p95
      replace S := S.keep (kp e95 kp0)
      refine stepM_of rfl ?_
      (refine wpl_b S ?_; clear S a; intro a S)
      exact wpList_nil ⟨_, _, fun _ _ h => h, S.keep ⟨rfl, trivial⟩, ⟨_, rfl, rfl, ⟨_, rfl, q95⟩⟩⟩
    refine ⟨?_, ?_⟩
    · rintro L F a w hF hL S ⟨h0, h1, -⟩
      obtain ⟨v87, e87, cs87, rfl, hn87, hR87⟩ := h0 rfl
      obtain ⟨v96, e96, cs96, rfl, hn96, hR96⟩ := h1 rfl
      replace S := S.keep (kp e87 (kp e96 kp0))
      refine stepM_of rfl ?_
      (refine wpl_buildSlice S rfl rfl rfl rfl rfl rfl (by rfl) (by first | (simp [Value.cells]; done) | (simp only [List.mem_cons, List.not_mem_nil, or_false, forall_eq_or_imp, forall_eq, Value.cells]; repeat' constructor) <;> assumption) rfl (by rfl) (by rfl) ?_; clear S a; intro b a w hown S; (simp only [Value.cells, List.flatMap_cons, List.flatMap_nil, List.append_nil] at S); have S' := frz1 S; clear S; obtain ⟨F', hle, hb, S⟩ := S')
      exact wpList_nil ⟨_, _, hle, S.keep ⟨rfl, trivial⟩, lim_of (l := ([(CD.mk [99] []), (CD.mk [100] [FD.mk [] [116] (.cons [116, 117, 112, 108, 101] (.cons sA .nil (.cons sA .nil .nil)) .nil)])] : List CD)) hb ((LiC.app (l := [(CD.mk [99] [])]) (LiC.one hn87 (Mon.h hle hR87)) (LiC.one hn96 (Mon.h hle hR96)))) (by decide)⟩
    refine ⟨?_, ?_⟩
    · rintro L F a w hF hL S ⟨h0, h1, -⟩
      obtain ⟨v86, e86, p86⟩ := h0 rfl
      obtain ⟨v97, e97, p97⟩ := h1 rfl
      have q86 := p86; obtain ⟨oa86, oc86, rfl, -⟩ := p86
      have q97 := p97; obtain ⟨oa97, oc97, rfl, -⟩ := p97
      replace S := S.keep (kp e86 (kp e97 kp0))
      refine stepM_of rfl ?_
      (refine wpl_b S ?_; clear S a; intro a S)
      exact wpList_nil ⟨_, _, fun _ _ h => h, S.keep ⟨rfl, trivial⟩, ⟨_, rfl, rfl, ⟨_, _, rfl, q86, q97⟩⟩⟩
    refine ⟨?_, ?_⟩
    · rintro L F a w hF hL S ⟨h0, h1, -, -⟩
      obtain ⟨v85, e85, rfl⟩ := h0 rfl
      obtain ⟨v98, e98, cs98, rfl, hn98, hR98⟩ := h1 rfl
      replace S := S.keep (kp e85 (kp e98 kp0))
      refine stepM_of rfl ?_
      (refine wpl_cF S (dnOneCt F (TD.mk 0 0 false [116] [[39, 97]] [(CD.mk [99] []), (CD.mk [100] [FD.mk [] [116] (.cons [116, 117, 112, 108, 101] (.cons sA .nil (.cons sA .nil .nil)) .nil)])]) _ hR98) ?_; clear S a; intro u F' a w hu hle S)
      exact wpList_nil ⟨_, _, hle, S.keep ⟨rfl, trivial⟩, hu⟩
    refine ⟨?_, ?_⟩
    · rintro L F a w hF hL S ⟨h0, -⟩
      obtain ⟨v99, e99, cs99, rfl, -, ia99, ib99, ic99, va99, vb99, vc99, vd99, rfl, ha99, hb99, hc99, hd99⟩ := h0 rfl
      have ha99c := ha99; obtain ⟨oaha99, ocha99, rfl, -⟩ := ha99c
      have hb99c := hb99; obtain ⟨oahb99, ochb99, rfl, -⟩ := hb99c
      have hc99c := hc99; obtain ⟨oahc99, ochc99, rfl, -⟩ := hc99c
      have hd99c := hd99; obtain ⟨oahd99, ochd99, rfl, -⟩ := hd99c
      replace S := S.keep (kp e99 kp0)
      refine stepM_of rfl ?_
      (refine wpl_b S ?_; clear S a; intro a S)
      exact wpList_nil ⟨_, _, fun _ _ h => h, S.keep ⟨rfl, trivial⟩, ⟨_, rfl, rfl, ⟨[_, _, _, _, _, _], rfl, ⟨_, _, _, _, _, _, _, rfl, ha99, hb99, hc99, hd99⟩⟩⟩⟩
    refine ⟨?_, ?_⟩
    · rintro L F a w hF hL S -
      replace S := S.keep (kp (hL 3 _ rfl) kp0)
      refine stepM_of rfl ?_
      (refine wpl_p S ?_; clear S a; intro a S)
      exact wpList_nil ⟨_, _, fun _ _ h => h, S.keep ⟨rfl, trivial⟩, rfl⟩
    refine ⟨?_, ?_⟩
    · rintro L F a w hF hL S -
      replace S := S.keep (kp0)
      refine stepM_of rfl ?_
      (refine wpl_buildSlice S rfl rfl rfl rfl rfl rfl (by rfl) (by first | (simp [Value.cells]; done) | (simp only [List.mem_cons, List.not_mem_nil, or_false, forall_eq_or_imp, forall_eq, Value.cells]; repeat' constructor) <;> assumption) rfl (by rfl) (by rfl) ?_; clear S a; intro b a w hown S; (simp only [Value.cells, List.flatMap_cons, List.flatMap_nil, List.append_nil] at S); have S' := frz1 S; clear S; obtain ⟨F', hle, hb, S⟩ := S')
      exact wpList_nil ⟨_, _, hle, S.keep ⟨rfl, trivial⟩, lim_of (l := ([[39, 97]] : List (List UInt8))) hb (LiC.one rfl (rfl : StR _ [39, 97] [.string (bs [39, 97])])) (by decide)⟩
    refine ⟨?_, ?_⟩
    · rintro L F a w hF hL S -
      replace S := S.keep (kp0)
      refine stepM_of rfl ?_
      (refine wpl_b S ?_; clear S a; intro a S)
      exact wpList_nil ⟨_, _, fun _ _ h => h, S.keep ⟨rfl, trivial⟩, ⟨_, rfl, rfl, ⟨_, rfl, (LiM.nil _ _ _)⟩⟩⟩
    refine ⟨?_, ?_⟩
    · rintro L F a w hF hL S -
      replace S := S.keep (kp (hL 2 _ rfl) kp0)
      refine stepM_of rfl ?_
      (refine wpl_p S ?_; clear S a; intro a S)
      exact wpList_nil ⟨_, _, fun _ _ h => h, S.keep ⟨rfl, trivial⟩, rfl⟩
    refine ⟨?_, ?_⟩
    · rintro L F a w hF hL S -
      replace S := S.keep (kp (hL 4 _ rfl) kp0)
      refine stepM_of rfl ?_
      (refine wpl_v S rfl rfl rfl (sv_loadAF S rfl rfl (Cels.mono hF (cels_of h4)) (by rfl)) ?_; clear S a; intro a S)
      exact wpList_nil ⟨_, _, fun _ _ h => h, S.keep ⟨rfl, trivial⟩, ⟨_, rfl, rfl, _, rfl, slf_nil _⟩⟩
    refine ⟨?_, ?_⟩
    · rintro L F a w hF hL S ⟨h0, -⟩
      obtain ⟨v105, e105, cs105, rfl, hn105, hR105⟩ := h0 rfl
      replace S := S.keep (kp e105 kp0)
      refine stepM_of rfl ?_
      (refine wpl_buildSlice S rfl rfl rfl rfl rfl rfl (by rfl) (by first | (simp [Value.cells]; done) | (simp only [List.mem_cons, List.not_mem_nil, or_false, forall_eq_or_imp, forall_eq, Value.cells]; repeat' constructor) <;> assumption) rfl (by rfl) (by rfl) ?_; clear S a; intro b a w hown S; (simp only [Value.cells, List.flatMap_cons, List.flatMap_nil, List.append_nil] at S); have S' := frz1 S; clear S; obtain ⟨F', hle, hb, S⟩ := S')
      exact wpList_nil ⟨_, _, hle, S.keep ⟨rfl, trivial⟩, slf_of (l := (.cons sA .nil .nil)) hb (FoC.of (Mon.h hle hR105)) (by decide)⟩
    refine ⟨?_, ?_⟩
    · rintro L F a w hF hL S ⟨h0, -⟩
      obtain ⟨v106, e106, p106⟩ := h0 rfl
      have q106 := p106; obtain ⟨oa106, oc106, rfl, -⟩ := p106
      replace S := S.keep (kp e106 kp0)
      refine stepM_of rfl ?_
      (refine wpl_b S ?_; clear S a; intro a S)
      exact wpList_nil ⟨_, _, fun _ _ h => h, S.keep ⟨rfl, trivial⟩, ⟨_, rfl, rfl, ⟨_, rfl, q106⟩⟩⟩
    refine ⟨?_, ?_⟩
    · rintro L F a w hF hL S ⟨h0, h1, -, -⟩
      obtain ⟨v104, e104, rfl⟩ := h0 rfl
      obtain ⟨v107, e107, cs107, rfl, hn107, hR107⟩ := h1 rfl
      replace S := S.keep (kp e104 (kp e107 kp0))
      refine stepM_of rfl ?_
      (refine wpl_cF S (dnFieldCt F ([116], (.cons sA .nil .nil)) _ hR107) ?_; clear S a; intro u F' a w hu hle S)
      exact wpList_nil ⟨_, _, hle, S.keep ⟨rfl, trivial⟩, hu⟩
    refine ⟨?_, ?_⟩
    · rintro L F a w hF hL S ⟨h0, -⟩
      obtain ⟨v108, e108, p108⟩ := h0 rfl
      have q108 := p108; obtain ⟨oa108, oc108, rfl, -⟩ := p108
      replace S := S.keep (kp e108 kp0)
      refine stepM_of rfl ?_
      (refine wpl_b S ?_; clear S a; intro a S)
      exact wpList_nil ⟨_, _, fun _ _ h => h, S.keep ⟨rfl, trivial⟩, ⟨_, rfl, rfl, ⟨_, rfl, q108⟩⟩⟩
    refine ⟨?_, ?_⟩
    · rintro L F a w hF hL S ⟨h0, h1, -⟩
      obtain ⟨v103, e103, cs103, rfl, hn103, hR103⟩ := h0 rfl
      obtain ⟨v109, e109, cs109, rfl, hn109, hR109⟩ := h1 rfl
      replace S := S.keep (kp e103 (kp e109 kp0))
      refine stepM_of rfl ?_
      (refine wpl_buildSlice S rfl rfl rfl rfl rfl rfl (by rfl) (by first | (simp [Value.cells]; done) | (simp only [List.mem_cons, List.not_mem_nil, or_false, forall_eq_or_imp, forall_eq, Value.cells]; repeat' constructor) <;> assumption) rfl (by rfl) (by rfl) ?_; clear S a; intro b a w hown S; (simp only [Value.cells, List.flatMap_cons, List.flatMap_nil, List.append_nil] at S); have S' := frz1 S; clear S; obtain ⟨F', hle, hb, S⟩ := S')
      exact wpList_nil ⟨_, _, hle, S.keep ⟨rfl, trivial⟩, lim_of (l := ([(CD.mk [99] []), (CD.mk [100] [FD.mk [] [116] (.cons sA .nil .nil)])] : List CD)) hb ((LiC.app (l := [(CD.mk [99] [])]) (LiC.one hn103 (Mon.h hle hR103)) (LiC.one hn109 (Mon.h hle hR109)))) (by decide)⟩
    refine ⟨?_, ?_⟩
    · rintro L F a w hF hL S ⟨h0, h1, -⟩
      obtain ⟨v102, e102, p102⟩ := h0 rfl
      obtain ⟨v110, e110, p110⟩ := h1 rfl
      have q102 := p102; obtain ⟨oa102, oc102, rfl, -⟩ := p102
      have q110 := p110; obtain ⟨oa110, oc110, rfl, -⟩ := p110
      replace S := S.keep (kp e102 (kp e110 kp0))
      refine stepM_of rfl ?_
      (refine wpl_b S ?_; clear S a; intro a S)
      exact wpList_nil ⟨_, _, fun _ _ h => h, S.keep ⟨rfl, trivial⟩, ⟨_, rfl, rfl, ⟨_, _, rfl, q102, q110⟩⟩⟩
    refine ⟨?_, ?_⟩
    · rintro L F a w hF hL S ⟨h0, h1, -, -⟩
      obtain ⟨v101, e101, rfl⟩ := h0 rfl
      obtain ⟨v111, e111, cs111, rfl, hn111, hR111⟩ := h1 rfl
      replace S := S.keep (kp e101 (kp e111 kp0))
      refine stepM_of rfl ?_
      (refine wpl_cF S (dnOneCt F (TD.mk 0 0 false [116] [[39, 97]] [(CD.mk [99] []), (CD.mk [100] [FD.mk [] [116] (.cons sA .nil .nil)])]) _ hR111) ?_; clear S a; intro u F' a w hu hle S)
      exact wpList_nil ⟨_, _, hle, S.keep ⟨rfl, trivial⟩, hu⟩
    refine ⟨?_, ?_⟩
    · rintro L F a w hF hL S ⟨h0, -⟩
      obtain ⟨v112, e112, cs112, rfl, -, ia112, ib112, ic112, va112, vb112, vc112, vd112, rfl, ha112, hb112, hc112, hd112⟩ := h0 rfl
      have ha112c := ha112; obtain ⟨oaha112, ocha112, rfl, -⟩ := ha112c
      have hb112c := hb112; obtain ⟨oahb112, ochb112, rfl, -⟩ := hb112c
      have hc112c := hc112; obtain ⟨oahc112, ochc112, rfl, -⟩ := hc112c
      have hd112c := hd112; obtain ⟨oahd112, ochd112, rfl, -⟩ := hd112c
      replace S := S.keep (kp e112 kp0)
      refine stepM_of rfl ?_
      (refine wpl_b S ?_; clear S a; intro a S)
      exact wpList_nil ⟨_, _, fun _ _ h => h, S.keep ⟨rfl, trivial⟩, ⟨_, rfl, rfl, ⟨[_, _, _, _, _, _], rfl, ⟨_, _, _, _, _, _, _, rfl, ha112, hb112, hc112, hd112⟩⟩⟩⟩
    refine ⟨?_, ?_⟩
    · rintro L F a w hF hL S -
      replace S := S.keep (kp (hL 3 _ rfl) kp0)
      refine stepM_of rfl ?_
      (refine wpl_p S ?_; clear S a; intro a S)
      exact wpList_nil ⟨_, _, fun _ _ h => h, S.keep ⟨rfl, trivial⟩, rfl⟩
    refine ⟨?_, ?_⟩
    · rintro L F a w hF hL S -
      replace S := S.keep (kp0)
      refine stepM_of rfl ?_
      (refine wpl_b S ?_; clear S a; intro a S)
      exact wpList_nil ⟨_, _, fun _ _ h => h, S.keep ⟨rfl, trivial⟩, ⟨_, rfl, rfl, ⟨_, _, rfl, (LiM.nil _ _ _), (LiM.nil _ _ _)⟩⟩⟩
    refine ⟨?_, ?_⟩
    · rintro L F a w hF hL S ⟨h0, h1, -, -⟩
      obtain ⟨v114, e114, rfl⟩ := h0 rfl
      obtain ⟨v115, e115, cs115, rfl, hn115, hR115⟩ := h1 rfl
      replace S := S.keep (kp e114 (kp e115 kp0))
      refine stepM_of rfl ?_
      (refine wpl_cF S (dnOneCt F (TD.mk 0 0 false [116] [] []) _ hR115) ?_; clear S a; intro u F' a w hu hle S)
      exact wpList_nil ⟨_, _, hle, S.keep ⟨rfl, trivial⟩, hu⟩
    refine ⟨?_, ?_⟩
    · rintro L F a w hF hL S ⟨h0, -⟩
      obtain ⟨v116, e116, cs116, rfl, -, ia116, ib116, ic116, va116, vb116, vc116, vd116, rfl, ha116, hb116, hc116, hd116⟩ := h0 rfl
      have ha116c := ha116; obtain ⟨oaha116, ocha116, rfl, -⟩ := ha116c
      have hb116c := hb116; obtain ⟨oahb116, ochb116, rfl, -⟩ := hb116c
      have hc116c := hc116; obtain ⟨oahc116, ochc116, rfl, -⟩ := hc116c
      have hd116c := hd116; obtain ⟨oahd116, ochd116, rfl, -⟩ := hd116c
      replace S := S.keep (kp e116 kp0)
      refine stepM_of rfl ?_
      (refine wpl_b S ?_; clear S a; intro a S)
      exact wpList_nil ⟨_, _, fun _ _ h => h, S.keep ⟨rfl, trivial⟩, ⟨_, rfl, rfl, ⟨[_, _, _, _, _, _], rfl, ⟨_, _, _, _, _, _, _, rfl, ha116, hb116, hc116, hd116⟩⟩⟩⟩
    refine ⟨?_, ?_⟩
    · rintro L F a w hF hL S -
      replace S := S.keep (kp (hL 5 _ rfl) kp0)
      refine stepM_of rfl ?_
      (refine wpl_v S rfl rfl rfl (sv_loadAF S rfl rfl (Cels.mono hF (cels_of h5)) (by rfl)) ?_; clear S a; intro a S)
      exact wpList_nil ⟨_, _, fun _ _ h => h, S.keep ⟨rfl, trivial⟩, ⟨_, rfl, rfl, _, rfl, k23.mono hF⟩⟩
    refine ⟨?_, ?_⟩
    · rintro L F a w hF hL S -
      replace S := S.keep (kp (hL 5 _ rfl) kp0)
      refine stepM_of rfl ?_
      (refine wpl_v S rfl rfl rfl (sv_loadAF S rfl rfl (Cels.mono hF (cels_of h5)) (by rfl)) ?_; clear S a; intro a S)
      exact wpList_nil ⟨_, _, fun _ _ h => h, S.keep ⟨rfl, trivial⟩, ⟨_, rfl, rfl, _, rfl, k23.mono hF⟩⟩
    refine ⟨?_, ?_⟩
    · rintro L F a w hF hL S ⟨h0, h1, -⟩
      obtain ⟨v118, e118, cs118, rfl, hn118, hR118⟩ := h0 rfl
      obtain ⟨v119, e119, cs119, rfl, hn119, hR119⟩ := h1 rfl
      replace S := S.keep (kp e118 (kp e119 kp0))
      refine stepM_of rfl ?_
      (refine wpl_buildSlice S rfl rfl rfl rfl rfl rfl (by rfl) (by first | (simp [Value.cells]; done) | (simp only [List.mem_cons, List.not_mem_nil, or_false, forall_eq_or_imp, forall_eq, Value.cells]; repeat' constructor) <;> assumption) rfl (by rfl) (by rfl) ?_; clear S a; intro b a w hown S; (simp only [Value.cells, List.flatMap_cons, List.flatMap_nil, List.append_nil] at S); have S' := frz1 S; clear S; obtain ⟨F', hle, hb, S⟩ := S')
      exact wpList_nil ⟨_, _, hle, S.keep ⟨rfl, trivial⟩, lim_of (l := ([dnR, dnR] : List RD)) hb ((LiC.app (l := [dnR]) (LiC.one hn118 (Mon.h hle hR118)) (LiC.one hn119 (Mon.h hle hR119)))) (by decide)⟩
    refine ⟨?_, ?_⟩
    · rintro L F a w hF hL S ⟨h0, -⟩
      obtain ⟨v120, e120, p120⟩ := h0 rfl
      have q120 := p120; obtain ⟨oa120, oc120, rfl, -⟩ := p120
      replace S := S.keep (kp e120 kp0)
      refine stepM_of rfl ?_
      (refine wpl_b S ?_; clear S a; intro a S)
      exact wpList_nil ⟨_, _, fun _ _ h => h, S.keep ⟨rfl, trivial⟩, ⟨_, rfl, rfl, ⟨_, _, _, _, _, _, _, rfl, (LiM.nil _ _ _), q120, (LiM.nil _ _ _), (LiM.nil _ _ _)⟩⟩⟩
    refine ⟨?_, ?_⟩
    · rintro L F a w hF hL S ⟨h0, -⟩
      obtain ⟨v121, e121, cs121, rfl, -, ia121, ib121, ic121, va121, vb121, vc121, vd121, rfl, ha121, hb121, hc121, hd121⟩ := h0 rfl
      have ha121c := ha121; obtain ⟨oaha121, ocha121, rfl, -⟩ := ha121c
      have hb121c := hb121; obtain ⟨oahb121, ochb121, rfl, -⟩ := hb121c
      have hc121c := hc121; obtain ⟨oahc121, ochc121, rfl, -⟩ := hc121c
      have hd121c := hd121; obtain ⟨oahd121, ochd121, rfl, -⟩ := hd121c
      replace S := S.keep (kp e121 kp0)
      refine stepM_of rfl ?_
      (refine wpl_b S ?_; clear S a; intro a S)
      exact wpList_nil ⟨_, _, fun _ _ h => h, S.keep ⟨rfl, trivial⟩, ⟨_, rfl, rfl, ⟨[_, _, _, _, _, _], rfl, ⟨_, _, _, _, _, _, _, rfl, ha121, hb121, hc121, hd121⟩⟩⟩⟩
    refine ⟨?_, ?_⟩
    · rintro L F a w hF hL S -
      replace S := S.keep (kp (hL 5 _ rfl) kp0)
      refine stepM_of rfl ?_
      (refine wpl_v S rfl rfl rfl (sv_loadAF S rfl rfl (Cels.mono hF (cels_of h5)) (by rfl)) ?_; clear S a; intro a S)
      exact wpList_nil ⟨_, _, fun _ _ h => h, S.keep ⟨rfl, trivial⟩, ⟨_, rfl, rfl, _, rfl, k23.mono hF⟩⟩
    refine ⟨?_, ?_⟩
    · rintro L F a w hF hL S ⟨h0, -⟩
      obtain ⟨v123, e123, cs123, rfl, hn123, hR123⟩ := h0 rfl
      replace S := S.keep (kp e123 kp0)
      refine stepM_of rfl ?_
      (refine wpl_buildSlice S rfl rfl rfl rfl rfl rfl (by rfl) (by first | (simp [Value.cells]; done) | (simp only [List.mem_cons, List.not_mem_nil, or_false, forall_eq_or_imp, forall_eq, Value.cells]; repeat' constructor) <;> assumption) rfl (by rfl) (by rfl) ?_; clear S a; intro b a w hown S; (simp only [Value.cells, List.flatMap_cons, List.flatMap_nil, List.append_nil] at S); have S' := frz1 S; clear S; obtain ⟨F', hle, hb, S⟩ := S')
      exact wpList_nil ⟨_, _, hle, S.keep ⟨rfl, trivial⟩, lim_of (l := ([dnR] : List RD)) hb ((LiC.one hn123 (Mon.h hle hR123))) (by decide)⟩
    refine ⟨?_, ?_⟩
    · rintro L F a w hF hL S -
      replace S := S.keep (kp (hL 6 _ rfl) kp0)
      refine stepM_of rfl ?_
      (refine wpl_p S ?_; clear S a; intro a S)
      exact wpList_nil ⟨_, _, fun _ _ h => h, S.keep ⟨rfl, trivial⟩, rfl⟩
    refine ⟨?_, ?_⟩
    · rintro L F a w hF hL S -
      replace S := S.keep (kp (hL 6 _ rfl) kp0)
      refine stepM_of rfl ?_
      (refine wpl_p S ?_; clear S a; intro a S)
      exact wpList_nil ⟨_, _, fun _ _ h => h, S.keep ⟨rfl, trivial⟩, rfl⟩
    refine ⟨?_, ?_⟩
    · rintro L F a w hF hL S ⟨h0, h1, -, -⟩
      obtain ⟨v125, e125, rfl⟩ := h0 rfl
      obtain ⟨v126, e126, rfl⟩ := h1 rfl
      replace S := S.keep (kp e125 (kp e126 kp0))
      refine stepM_of rfl ?_
      (have c26 := Cels.mono hF (cels_of h26); refine wpl_appendGrow S rfl rfl rfl rfl rfl rfl (by rfl) rfl rfl c26 c26 (by decide) (by decide) (by decide) ?_; clear S a; intro v' g' a w hown S; have hle := add_le (G1 := []) S; replace S := St.freeze (G1 := []) S; (try simp only [List.nil_append] at S hle))
      exact wpList_nil ⟨_, _, hle, S.keep ⟨rfl, trivial⟩, trs_ofC (l := [(dnX, .nil), (dnX, .nil)]) (hown.slC _) (LiC.app (l := [(dnX, .nil)]) (LiC.one (sz := 9) rfl (Mon.h (fun b o h => hle _ _ (hF _ _ h)) r26)) (LiC.one (sz := 9) rfl (Mon.h (fun b o h => hle _ _ (hF _ _ h)) r26))) rfl (by decide)⟩
    refine ⟨?_, ?_⟩
    · rintro L F a w hF hL S -
      replace S := S.keep (kp0)
      refine stepM_of rfl ?_
      (refine wpl_makeSlice (q := 2) S rfl rfl rfl rfl rfl rfl rfl (by decide) (by decide) ?_; clear S a; intro b a w hown S; have S' := frz1 S; clear S; obtain ⟨F', hle, hb, S⟩ := S')
      exact wpList_nil ⟨_, _, hle, S.keep ⟨rfl, trivial⟩, lim_of (l := ([[], []] : List (List UInt8))) hb ⟨[_], [_], rfl, rfl, rfl, LiC.one rfl rfl⟩ (by decide)⟩
    refine ⟨?_, ?_⟩
    · rintro L F a w hF hL S ⟨h0, h1, -⟩
      obtain ⟨v127, e127, p127⟩ := h0 rfl
      obtain ⟨v128, e128, p128⟩ := h1 rfl
      have q127 := p127; obtain ⟨oa127, oc127, rfl, -⟩ := p127
      have q128 := p128; obtain ⟨oa128, oc128, rfl, -⟩ := p128
      replace S := S.keep (kp e127 (kp e128 kp0))
      refine stepM_of rfl ?_
      (refine wpl_b S ?_; clear S a; intro a S)
      exact wpList_nil ⟨_, _, fun _ _ h => h, S.keep ⟨rfl, trivial⟩, ⟨_, rfl, rfl, ⟨_, _, _, rfl, q127, q128, (LiM.nil _ _ _)⟩⟩⟩
    refine ⟨?_, ?_⟩
    · rintro L F a w hF hL S ⟨h0, -⟩
      obtain ⟨v129, e129, cs129, rfl, hn129, hR129⟩ := h0 rfl
      replace S := S.keep (kp e129 kp0)
      refine stepM_of rfl ?_
      (refine wpl_buildSlice S rfl rfl rfl rfl rfl rfl (by rfl) (by first | (simp [Value.cells]; done) | (simp only [List.mem_cons, List.not_mem_nil, or_false, forall_eq_or_imp, forall_eq, Value.cells]; repeat' constructor) <;> assumption) rfl (by rfl) (by rfl) ?_; clear S a; intro b a w hown S; (simp only [Value.cells, List.flatMap_cons, List.flatMap_nil, List.append_nil] at S); have S' := frz1 S; clear S; obtain ⟨F', hle, hb, S⟩ := S')
      exact wpList_nil ⟨_, _, hle, S.keep ⟨rfl, trivial⟩, lim_of (l := ([(RU.mk 0 0 [114] (.cons dnX .nil (.cons dnX .nil .nil)) [[], []] [])] : List RU)) hb ((LiC.one hn129 (Mon.h hle hR129))) (by decide)⟩
    refine ⟨?_, ?_⟩
    · rintro L F a w hF hL S ⟨h0, h1, -⟩
      obtain ⟨v124, e124, p124⟩ := h0 rfl
      obtain ⟨v130, e130, p130⟩ := h1 rfl
      have q124 := p124; obtain ⟨oa124, oc124, rfl, -⟩ := p124
      have q130 := p130; obtain ⟨oa130, oc130, rfl, -⟩ := p130
      replace S := S.keep (kp e124 (kp e130 kp0))
      refine stepM_of rfl ?_
      (refine wpl_b S ?_; clear S a; intro a S)
      exact wpList_nil ⟨_, _, fun _ _ h => h, S.keep ⟨rfl, trivial⟩, ⟨_, rfl, rfl, ⟨_, _, _, _, _, _, _, rfl, (LiM.nil _ _ _), q124, q130, (LiM.nil _ _ _)⟩⟩⟩
    refine ⟨?_, ?_⟩
    · rintro L F a w hF hL S ⟨h0, -⟩
      obtain ⟨v131, e131, cs131, rfl, -, ia131, ib131, ic131, va131, vb131, vc131, vd131, rfl, ha131, hb131, hc131, hd131⟩ := h0 rfl
      have ha131c := ha131; obtain ⟨oaha131, ocha131, rfl, -⟩ := ha131c
      have hb131c := hb131; obtain ⟨oahb131, ochb131, rfl, -⟩ := hb131c
      have hc131c := hc131; obtain ⟨oahc131, ochc131, rfl, -⟩ := hc131c
      have hd131c := hd131; obtain ⟨oahd131, ochd131, rfl, -⟩ := hd131c
      replace S := S.keep (kp e131 kp0)
      refine stepM_of rfl ?_
      (refine wpl_b S ?_; clear S a; intro a S)
      exact wpList_nil ⟨_, _, fun _ _ h => h, S.keep ⟨rfl, trivial⟩, ⟨_, rfl, rfl, ⟨[_, _, _, _, _, _], rfl, ⟨_, _, _, _, _, _, _, rfl, ha131, hb131, hc131, hd131⟩⟩⟩⟩
    refine ⟨?_, ?_⟩
    · rintro L F a w hF hL S -
      replace S := S.keep (kp (hL 5 _ rfl) kp0)
      refine stepM_of rfl ?_
      (refine wpl_v S rfl rfl rfl (sv_loadAF S rfl rfl (Cels.mono hF (cels_of h5)) (by rfl)) ?_; clear S a; intro a S)
      exact wpList_nil ⟨_, _, fun _ _ h => h, S.keep ⟨rfl, trivial⟩, ⟨_, rfl, rfl, _, rfl, k23.mono hF⟩⟩
    refine ⟨?_, ?_⟩
    · rintro L F a w hF hL S ⟨h0, -⟩
      obtain ⟨v133, e133, cs133, rfl, hn133, hR133⟩ := h0 rfl
      replace S := S.keep (kp e133 kp0)
      refine stepM_of rfl ?_
      (refine wpl_buildSlice S rfl rfl rfl rfl rfl rfl (by rfl) (by first | (simp [Value.cells]; done) | (simp only [List.mem_cons, List.not_mem_nil, or_false, forall_eq_or_imp, forall_eq, Value.cells]; repeat' constructor) <;> assumption) rfl (by rfl) (by rfl) ?_; clear S a; intro b a w hown S; (simp only [Value.cells, List.flatMap_cons, List.flatMap_nil, List.append_nil] at S); have S' := frz1 S; clear S; obtain ⟨F', hle, hb, S⟩ := S')
      exact wpList_nil ⟨_, _, hle, S.keep ⟨rfl, trivial⟩, lim_of (l := ([dnR] : List RD)) hb ((LiC.one hn133 (Mon.h hle hR133))) (by decide)⟩
    refine ⟨?_, ?_⟩
    · rintro L F a w hF hL S -
      replace S := S.keep (kp (hL 6 _ rfl) kp0)
      refine stepM_of rfl ?_
      (refine wpl_p S ?_; clear S a; intro a S)
      exact wpList_nil ⟨_, _, fun _ _ h => h, S.keep ⟨rfl, trivial⟩, k26.mono hF⟩
    refine ⟨?_, ?_⟩
    · rintro L F a w hF hL S ⟨h0, -⟩
      obtain ⟨v135, e135, p135⟩ := h0 rfl
      have q135 := p135; obtain ⟨oa135, oc135, rfl, -⟩ := p135
      replace S := S.keep (kp e135 kp0)
      refine stepM_of rfl ?_
      (refine wpl_b S ?_; clear S a; intro a S)
      exact wpList_nil ⟨_, _, fun _ _ h => h, S.keep ⟨rfl, trivial⟩, ⟨_, rfl, rfl, ⟨_, _, _, rfl, q135, (LiM.nil _ _ _), (LiM.nil _ _ _)⟩⟩⟩
    refine ⟨?_, ?_⟩
    · rintro L F a w hF hL S ⟨h0, -⟩
      obtain ⟨v136, e136, cs136, rfl, hn136, hR136⟩ := h0 rfl
      replace S := S.keep (kp e136 kp0)
      refine stepM_of rfl ?_
      (refine wpl_buildSlice S rfl rfl rfl rfl rfl rfl (by rfl) (by first | (simp [Value.cells]; done) | (simp only [List.mem_cons, List.not_mem_nil, or_false, forall_eq_or_imp, forall_eq, Value.cells]; repeat' constructor) <;> assumption) rfl (by rfl) (by rfl) ?_; clear S a; intro b a w hown S; (simp only [Value.cells, List.flatMap_cons, List.flatMap_nil, List.append_nil] at S); have S' := frz1 S; clear S; obtain ⟨F', hle, hb, S⟩ := S')
      exact wpList_nil ⟨_, _, hle, S.keep ⟨rfl, trivial⟩, lim_of (l := ([(RU.mk 0 0 [114] (.cons dnX .nil .nil) [] [])] : List RU)) hb ((LiC.one hn136 (Mon.h hle hR136))) (by decide)⟩
    refine ⟨?_, ?_⟩
    · rintro L F a w hF hL S ⟨h0, h1, -⟩
      obtain ⟨v134, e134, p134⟩ := h0 rfl
      obtain ⟨v137, e137, p137⟩ := h1 rfl
      have q134 := p134; obtain ⟨oa134, oc134, rfl, -⟩ := p134
      have q137 := p137; obtain ⟨oa137, oc137, rfl, -⟩ := p137
      replace S := S.keep (kp e134 (kp e137 kp0))
      refine stepM_of rfl ?_
      (refine wpl_b S ?_; clear S a; intro a S)
      exact wpList_nil ⟨_, _, fun _ _ h => h, S.keep ⟨rfl, trivial⟩, ⟨_, rfl, rfl, ⟨_, _, _, _, _, _, _, rfl, (LiM.nil _ _ _), q134, q137, (LiM.nil _ _ _)⟩⟩⟩
    refine ⟨?_, ?_⟩
    · rintro L F a w hF hL S ⟨h0, -⟩
      obtain ⟨v138, e138, cs138, rfl, -, ia138, ib138, ic138, va138, vb138, vc138, vd138, rfl, ha138, hb138, hc138, hd138⟩ := h0 rfl
      have ha138c := ha138; obtain ⟨oaha138, ocha138, rfl, -⟩ := ha138c
      have hb138c := hb138; obtain ⟨oahb138, ochb138, rfl, -⟩ := hb138c
      have hc138c := hc138; obtain ⟨oahc138, ochc138, rfl, -⟩ := hc138c
      have hd138c := hd138; obtain ⟨oahd138, ochd138, rfl, -⟩ := hd138c
      replace S := S.keep (kp e138 kp0)
      refine stepM_of rfl ?_
      (refine wpl_b S ?_; clear S a; intro a S)
      exact wpList_nil ⟨_, _, fun _ _ h => h, S.keep ⟨rfl, trivial⟩, ⟨_, rfl, rfl, ⟨[_, _, _, _, _, _], rfl, ⟨_, _, _, _, _, _, _, rfl, ha138, hb138, hc138, hd138⟩⟩⟩⟩
    refine ⟨?_, ?_⟩
    · rintro L F a w hF hL S -
      replace S := S.keep (kp0)
      refine stepM_of rfl ?_
      (refine wpl_b S ?_; clear S a; intro a S)
      exact wpList_nil ⟨_, _, fun _ _ h => h, S.keep ⟨rfl, trivial⟩, ⟨_, rfl, rfl, ⟨_, _, _, rfl, (TrS.nil _ _ _), (LiM.nil _ _ _), (LiM.nil _ _ _)⟩⟩⟩
    refine ⟨?_, ?_⟩
    · rintro L F a w hF hL S ⟨h0, -⟩
      obtain ⟨v140, e140, cs140, rfl, hn140, hR140⟩ := h0 rfl
      replace S := S.keep (kp e140 kp0)
      refine stepM_of rfl ?_
      (refine wpl_buildSlice S rfl rfl rfl rfl rfl rfl (by rfl) (by first | (simp [Value.cells]; done) | (simp only [List.mem_cons, List.not_mem_nil, or_false, forall_eq_or_imp, forall_eq, Value.cells]; repeat' constructor) <;> assumption) rfl (by rfl) (by rfl) ?_; clear S a; intro b a w hown S; (simp only [Value.cells, List.flatMap_cons, List.flatMap_nil, List.append_nil] at S); have S' := frz1 S; clear S; obtain ⟨F', hle, hb, S⟩ := S')
      exact wpList_nil ⟨_, _, hle, S.keep ⟨rfl, trivial⟩, lim_of (l := ([(RU.mk 0 0 [114] .nil [] [])] : List RU)) hb ((LiC.one hn140 (Mon.h hle hR140))) (by decide)⟩
    refine ⟨?_, ?_⟩
    · rintro L F a w hF hL S ⟨h0, -⟩
      obtain ⟨v141, e141, p141⟩ := h0 rfl
      have q141 := p141; obtain ⟨oa141, oc141, rfl, -⟩ := p141
      replace S := S.keep (kp e141 kp0)
      refine stepM_of rfl ?_
      (refine wpl_b S ?_; clear S a; intro a S)
      exact wpList_nil ⟨_, _, fun _ _ h => h, S.keep ⟨rfl, trivial⟩, ⟨_, rfl, rfl, ⟨_, _, _, _, _, _, _, rfl, (LiM.nil _ _ _), (LiM.nil _ _ _), q141, (LiM.nil _ _ _)⟩⟩⟩
    refine ⟨?_, ?_⟩
    · rintro L F a w hF hL S ⟨h0, -⟩
      obtain ⟨v142, e142, cs142, rfl, -, ia142, ib142, ic142, va142, vb142, vc142, vd142, rfl, ha142, hb142, hc142, hd142⟩ := h0 rfl
      have ha142c := ha142; obtain ⟨oaha142, ocha142, rfl, -⟩ := ha142c
      have hb142c := hb142; obtain ⟨oahb142, ochb142, rfl, -⟩ := hb142c
      have hc142c := hc142; obtain ⟨oahc142, ochc142, rfl, -⟩ := hc142c
      have hd142c := hd142; obtain ⟨oahd142, ochd142, rfl, -⟩ := hd142c
      replace S := S.keep (kp e142 kp0)
      refine stepM_of rfl ?_
      (refine wpl_b S ?_; clear S a; intro a S)
      exact wpList_nil ⟨_, _, fun _ _ h => h, S.keep ⟨rfl, trivial⟩, ⟨_, rfl, rfl, ⟨[_, _, _, _, _, _], rfl, ⟨_, _, _, _, _, _, _, rfl, ha142, hb142, hc142, hd142⟩⟩⟩⟩
    refine ⟨?_, ?_⟩
    · rintro L F a w hF hL S -
      replace S := S.keep (kp0)
      refine stepM_of rfl ?_
      (refine wpl_b S ?_; clear S a; intro a S)
      exact wpList_nil ⟨_, _, fun _ _ h => h, S.keep ⟨rfl, trivial⟩, ⟨_, rfl, rfl, ⟨_, rfl, (LiM.nil _ _ _)⟩⟩⟩
    refine ⟨?_, ?_⟩
    · rintro L F a w hF hL S ⟨h0, -⟩
      obtain ⟨v144, e144, cs144, rfl, hn144, hR144⟩ := h0 rfl
      replace S := S.keep (kp e144 kp0)
      refine stepM_of rfl ?_
      (refine wpl_buildSlice S rfl rfl rfl rfl rfl rfl (by rfl) (by first | (simp [Value.cells]; done) | (simp only [List.mem_cons, List.not_mem_nil, or_false, forall_eq_or_imp, forall_eq, Value.cells]; repeat' constructor) <;> assumption) rfl (by rfl) (by rfl) ?_; clear S a; intro b a w hown S; (simp only [Value.cells, List.flatMap_cons, List.flatMap_nil, List.append_nil] at S); have S' := frz1 S; clear S; obtain ⟨F', hle, hb, S⟩ := S')
      exact wpList_nil ⟨_, _, hle, S.keep ⟨rfl, trivial⟩, lim_of (l := ([(RD.mk 0 0 false true [114] [])] : List RD)) hb ((LiC.one hn144 (Mon.h hle hR144))) (by decide)⟩
    refine ⟨?_, ?_⟩
    · rintro L F a w hF hL S -
      replace S := S.keep (kp (hL 6 _ rfl) kp0)
      refine stepM_of rfl ?_
      (refine wpl_p S ?_; clear S a; intro a S)
      exact wpList_nil ⟨_, _, fun _ _ h => h, S.keep ⟨rfl, trivial⟩, k26.mono hF⟩
    refine ⟨?_, ?_⟩
    · rintro L F a w hF hL S ⟨h0, -⟩
      obtain ⟨v146, e146, p146⟩ := h0 rfl
      have q146 := p146; obtain ⟨oa146, oc146, rfl, -⟩ := p146
      replace S := S.keep (kp e146 kp0)
      refine stepM_of rfl ?_
      (refine wpl_b S ?_; clear S a; intro a S)
      exact wpList_nil ⟨_, _, fun _ _ h => h, S.keep ⟨rfl, trivial⟩, ⟨_, rfl, rfl, ⟨_, _, _, rfl, q146, (LiM.nil _ _ _), (LiM.nil _ _ _)⟩⟩⟩
    refine ⟨?_, ?_⟩
    · rintro L F a w hF hL S ⟨h0, -⟩
      obtain ⟨v147, e147, cs147, rfl, hn147, hR147⟩ := h0 rfl
      replace S := S.keep (kp e147 kp0)
      refine stepM_of rfl ?_
      (refine wpl_buildSlice S rfl rfl rfl rfl rfl rfl (by rfl) (by first | (simp [Value.cells]; done) | (simp only [List.mem_cons, List.not_mem_nil, or_false, forall_eq_or_imp, forall_eq, Value.cells]; repeat' constructor) <;> assumption) rfl (by rfl) (by rfl) ?_; clear S a; intro b a w hown S; (simp only [Value.cells, List.flatMap_cons, List.flatMap_nil, List.append_nil] at S); have S' := frz1 S; clear S; obtain ⟨F', hle, hb, S⟩ := S')
      exact wpList_nil ⟨_, _, hle, S.keep ⟨rfl, trivial⟩, lim_of (l := ([(RU.mk 0 0 [114] (.cons dnX .nil .nil) [] [])] : List RU)) hb ((LiC.one hn147 (Mon.h hle hR147))) (by decide)⟩
    refine ⟨?_, ?_⟩
    · rintro L F a w hF hL S ⟨h0, h1, -⟩
      obtain ⟨v145, e145, p145⟩ := h0 rfl
      obtain ⟨v148, e148, p148⟩ := h1 rfl
      have q145 := p145; obtain ⟨oa145, oc145, rfl, -⟩ := p145
      have q148 := p148; obtain ⟨oa148, oc148, rfl, -⟩ := p148
      replace S := S.keep (kp e145 (kp e148 kp0))
      refine stepM_of rfl ?_
      (refine wpl_b S ?_; clear S a; intro a S)
      exact wpList_nil ⟨_, _, fun _ _ h => h, S.keep ⟨rfl, trivial⟩, ⟨_, rfl, rfl, ⟨_, _, _, _, _, _, _, rfl, (LiM.nil _ _ _), q145, q148, (LiM.nil _ _ _)⟩⟩⟩
    refine ⟨?_, ?_⟩
    · rintro L F a w hF hL S ⟨h0, -⟩
      obtain ⟨v149, e149, cs149, rfl, -, ia149, ib149, ic149, va149, vb149, vc149, vd149, rfl, ha149, hb149, hc149, hd149⟩ := h0 rfl
      have ha149c := ha149; obtain ⟨oaha149, ocha149, rfl, -⟩ := ha149c
      have hb149c := hb149; obtain ⟨oahb149, ochb149, rfl, -⟩ := hb149c
      have hc149c := hc149; obtain ⟨oahc149, ochc149, rfl, -⟩ := hc149c
      have hd149c := hd149; obtain ⟨oahd149, ochd149, rfl, -⟩ := hd149c
      replace S := S.keep (kp e149 kp0)
      refine stepM_of rfl ?_
      (refine wpl_b S ?_; clear S a; intro a S)
      exact wpList_nil ⟨_, _, fun _ _ h => h, S.keep ⟨rfl, trivial⟩, ⟨_, rfl, rfl, ⟨[_, _, _, _, _, _], rfl, ⟨_, _, _, _, _, _, _, rfl, ha149, hb149, hc149, hd149⟩⟩⟩⟩
    refine ⟨?_, ?_⟩
    · rintro L F a w hF hL S -
      replace S := S.keep (kp (hL 5 _ rfl) kp0)
      refine stepM_of rfl ?_
      (refine wpl_v S rfl rfl rfl (sv_loadAF S rfl rfl (Cels.mono hF (cels_of h5)) (by rfl)) ?_; clear S a; intro a S)
      exact wpList_nil ⟨_, _, fun _ _ h => h, S.keep ⟨rfl, trivial⟩, ⟨_, rfl, rfl, _, rfl, k23.mono hF⟩⟩
    refine ⟨?_, ?_⟩
    · rintro L F a w hF hL S ⟨h0, -⟩
      obtain ⟨v151, e151, cs151, rfl, hn151, hR151⟩ := h0 rfl
      replace S := S.keep (kp e151 kp0)
      refine stepM_of rfl ?_
      (refine wpl_buildSlice S rfl rfl rfl rfl rfl rfl (by rfl) (by first | (simp [Value.cells]; done) | (simp only [List.mem_cons, List.not_mem_nil, or_false, forall_eq_or_imp, forall_eq, Value.cells]; repeat' constructor) <;> assumption) rfl (by rfl) (by rfl) ?_; clear S a; intro b a w hown S; (simp only [Value.cells, List.flatMap_cons, List.flatMap_nil, List.append_nil] at S); have S' := frz1 S; clear S; obtain ⟨F', hle, hb, S⟩ := S')
      exact wpList_nil ⟨_, _, hle, S.keep ⟨rfl, trivial⟩, lim_of (l := ([dnR] : List RD)) hb ((LiC.one hn151 (Mon.h hle hR151))) (by decide)⟩
    refine ⟨?_, ?_⟩
    · rintro L F a w hF hL S -
      replace S := S.keep (kp0)
      refine stepM_of rfl ?_
      (refine wpl_b S ?_; clear S a; intro a S)
      exact wpList_nil ⟨_, _, fun _ _ h => h, S.keep ⟨rfl, trivial⟩, ⟨_, rfl, rfl, ⟨_, rfl, (TrS.nil _ _ _)⟩⟩⟩
    refine ⟨?_, ?_⟩
    · rintro L F a w hF hL S ⟨h0, -⟩
      obtain ⟨v153, e153, cs153, rfl, hn153, hR153⟩ := h0 rfl
      replace S := S.keep (kp e153 kp0)
      refine stepM_of rfl ?_
      (refine wpl_buildSlice S rfl rfl rfl rfl rfl rfl (by rfl) (by first | (simp [Value.cells]; done) | (simp only [List.mem_cons, List.not_mem_nil, or_false, forall_eq_or_imp, forall_eq, Value.cells]; repeat' constructor) <;> assumption) rfl (by rfl) (by rfl) ?_; clear S a; intro b a w hown S; (simp only [Value.cells, List.flatMap_cons, List.flatMap_nil, List.append_nil] at S); have S' := frz1 S; clear S; obtain ⟨F', hle, hb, S⟩ := S')
      exact wpList_nil ⟨_, _, hle, S.keep ⟨rfl, trivial⟩, lim_of (l := ([(Go.De.LT.mk 2 0 0 [114] .nil)] : List Go.De.LT)) hb ((LiC.one hn153 (Mon.h hle hR153))) (by decide)⟩
    refine ⟨?_, ?_⟩
    · rintro L F a w hF hL S ⟨h0, -⟩
      obtain ⟨v154, e154, p154⟩ := h0 rfl
      have q154 := p154; obtain ⟨oa154, oc154, rfl, -⟩ := p154
      replace S := S.keep (kp e154 kp0)
      refine stepM_of rfl ?_
      (refine wpl_b S ?_; clear S a; intro a S)
      exact wpList_nil ⟨_, _, fun _ _ h => h, S.keep ⟨rfl, trivial⟩, ⟨_, rfl, rfl, ⟨_, rfl, q154⟩⟩⟩
    refine ⟨?_, ?_⟩
    · rintro L F a w hF hL S ⟨h0, -⟩
      obtain ⟨v155, e155, cs155, rfl, hn155, hR155⟩ := h0 rfl
      replace S := S.keep (kp e155 kp0)
      refine stepM_of rfl ?_
      (refine wpl_buildSlice S rfl rfl rfl rfl rfl rfl (by rfl) (by first | (simp [Value.cells]; done) | (simp only [List.mem_cons, List.not_mem_nil, or_false, forall_eq_or_imp, forall_eq, Value.cells]; repeat' constructor) <;> assumption) rfl (by rfl) (by rfl) ?_; clear S a; intro b a w hown S; (simp only [Value.cells, List.flatMap_cons, List.flatMap_nil, List.append_nil] at S); have S' := frz1 S; clear S; obtain ⟨F', hle, hb, S⟩ := S')
      exact wpList_nil ⟨_, _, hle, S.keep ⟨rfl, trivial⟩, lim_of (l := ([(NV.mk 0 0 [] [(Go.De.LT.mk 2 0 0 [114] .nil)])] : List NV)) hb ((LiC.one hn155 (Mon.h hle hR155))) (by decide)⟩
    refine ⟨?_, ?_⟩
    · rintro L F a w hF hL S ⟨h0, h1, -⟩
      obtain ⟨v152, e152, p152⟩ := h0 rfl
      obtain ⟨v156, e156, p156⟩ := h1 rfl
      have q152 := p152; obtain ⟨oa152, oc152, rfl, -⟩ := p152
      have q156 := p156; obtain ⟨oa156, oc156, rfl, -⟩ := p156
      replace S := S.keep (kp e152 (kp e156 kp0))
      refine stepM_of rfl ?_
      (refine wpl_b S ?_; clear S a; intro a S)
      exact wpList_nil ⟨_, _, fun _ _ h => h, S.keep ⟨rfl, trivial⟩, ⟨_, rfl, rfl, ⟨_, _, _, _, _, _, _, rfl, (LiM.nil _ _ _), q152, (LiM.nil _ _ _), q156⟩⟩⟩
    refine ⟨?_, ?_⟩
    · rintro L F a w hF hL S ⟨h0, -⟩
      obtain ⟨v157, e157, cs157, rfl, -, ia157, ib157, ic157, va157, vb157, vc157, vd157, rfl, ha157, hb157, hc157, hd157⟩ := h0 rfl
      have ha157c := ha157; obtain ⟨oaha157, ocha157, rfl, -⟩ := ha157c
      have hb157c := hb157; obtain ⟨oahb157, ochb157, rfl, -⟩ := hb157c
      have hc157c := hc157; obtain ⟨oahc157, ochc157, rfl, -⟩ := hc157c
      have hd157c := hd157; obtain ⟨oahd157, ochd157, rfl, -⟩ := hd157c
      replace S := S.keep (kp e157 kp0)
      refine stepM_of rfl ?_
      (refine wpl_b S ?_; clear S a; intro a S)
      exact wpList_nil ⟨_, _, fun _ _ h => h, S.keep ⟨rfl, trivial⟩, ⟨_, rfl, rfl, ⟨[_, _, _, _, _, _], rfl, ⟨_, _, _, _, _, _, _, rfl, ha157, hb157, hc157, hd157⟩⟩⟩⟩
    refine ⟨?_, ?_⟩
    · rintro L F a w hF hL S -
      replace S := S.keep (kp (hL 5 _ rfl) kp0)
      refine stepM_of rfl ?_
      (refine wpl_v S rfl rfl rfl (sv_loadAF S rfl rfl (Cels.mono hF (cels_of h5)) (by rfl)) ?_; clear S a; intro a S)
      exact wpList_nil ⟨_, _, fun _ _ h => h, S.keep ⟨rfl, trivial⟩, ⟨_, rfl, rfl, _, rfl, k23.mono hF⟩⟩
    refine ⟨?_, ?_⟩
    · rintro L F a w hF hL S ⟨h0, -⟩
      obtain ⟨v159, e159, cs159, rfl, hn159, hR159⟩ := h0 rfl
      replace S := S.keep (kp e159 kp0)
      refine stepM_of rfl ?_
      (refine wpl_buildSlice S rfl rfl rfl rfl rfl rfl (by rfl) (by first | (simp [Value.cells]; done) | (simp only [List.mem_cons, List.not_mem_nil, or_false, forall_eq_or_imp, forall_eq, Value.cells]; repeat' constructor) <;> assumption) rfl (by rfl) (by rfl) ?_; clear S a; intro b a w hown S; (simp only [Value.cells, List.flatMap_cons, List.flatMap_nil, List.append_nil] at S); have S' := frz1 S; clear S; obtain ⟨F', hle, hb, S⟩ := S')
      exact wpList_nil ⟨_, _, hle, S.keep ⟨rfl, trivial⟩, lim_of (l := ([dnR] : List RD)) hb ((LiC.one hn159 (Mon.h hle hR159))) (by decide)⟩
    refine ⟨?_, ?_⟩
    · rintro L F a w hF hL S -
      replace S := S.keep (kp0)
      refine stepM_of rfl ?_
      (refine wpl_b S ?_; clear S a; intro a S)
      exact wpList_nil ⟨_, _, fun _ _ h => h, S.keep ⟨rfl, trivial⟩, ⟨_, rfl, rfl, ⟨[_, _, _, _, _, _, _, _], _, rfl, rfl, ⟨_, rfl, (TrS.nil _ _ _)⟩, (TrS.nil _ _ _)⟩⟩⟩
    refine ⟨?_, ?_⟩
    · rintro L F a w hF hL S ⟨h0, -⟩
      obtain ⟨v161, e161, cs161, rfl, hn161, hR161⟩ := h0 rfl
      replace S := S.keep (kp e161 kp0)
      refine stepM_of rfl ?_
      (refine wpl_buildSlice S rfl rfl rfl rfl rfl rfl (by rfl) (by first | (simp [Value.cells]; done) | (simp only [List.mem_cons, List.not_mem_nil, or_false, forall_eq_or_imp, forall_eq, Value.cells]; repeat' constructor) <;> assumption) rfl (by rfl) (by rfl) ?_; clear S a; intro b a w hown S; (simp only [Value.cells, List.flatMap_cons, List.flatMap_nil, List.append_nil] at S); have S' := frz1 S; clear S; obtain ⟨F', hle, hb, S⟩ := S')
      exact wpList_nil ⟨_, _, hle, S.keep ⟨rfl, trivial⟩, trs_of1 hb (Mon.h hle hR161)⟩
    refine ⟨?_, ?_⟩
    · rintro L F a w hF hL S ⟨h0, -⟩
      obtain ⟨v162, e162, p162⟩ := h0 rfl
      have q162 := p162; obtain ⟨oa162, oc162, rfl, -⟩ := p162
      replace S := S.keep (kp e162 kp0)
      refine stepM_of rfl ?_
      (refine wpl_b S ?_; clear S a; intro a S)
      exact wpList_nil ⟨_, _, fun _ _ h => h, S.keep ⟨rfl, trivial⟩, ⟨_, rfl, rfl, ⟨[_, _, _, _, _, _, _, _], _, rfl, rfl, ⟨_, rfl, (TrS.nil _ _ _)⟩, q162⟩⟩⟩
    refine ⟨?_, ?_⟩
    · rintro L F a w hF hL S ⟨h0, -⟩
      obtain ⟨v163, e163, cs163, rfl, hn163, hR163⟩ := h0 rfl
      replace S := S.keep (kp e163 kp0)
      refine stepM_of rfl ?_
      (refine wpl_buildSlice S rfl rfl rfl rfl rfl rfl (by rfl) (by first | (simp [Value.cells]; done) | (simp only [List.mem_cons, List.not_mem_nil, or_false, forall_eq_or_imp, forall_eq, Value.cells]; repeat' constructor) <;> assumption) rfl (by rfl) (by rfl) ?_; clear S a; intro b a w hown S; (simp only [Value.cells, List.flatMap_cons, List.flatMap_nil, List.append_nil] at S); have S' := frz1 S; clear S; obtain ⟨F', hle, hb, S⟩ := S')
      exact wpList_nil ⟨_, _, hle, S.keep ⟨rfl, trivial⟩, trs_of1 hb (Mon.h hle hR163)⟩
    refine ⟨?_, ?_⟩
    · rintro L F a w hF hL S ⟨h0, -⟩
      obtain ⟨v164, e164, p164⟩ := h0 rfl
      have q164 := p164; obtain ⟨oa164, oc164, rfl, -⟩ := p164
      replace S := S.keep (kp e164 kp0)
      refine stepM_of rfl ?_
      (refine wpl_b S ?_; clear S a; intro a S)
      exact wpList_nil ⟨_, _, fun _ _ h => h, S.keep ⟨rfl, trivial⟩, ⟨_, rfl, rfl, ⟨_, rfl, q164⟩⟩⟩
    refine ⟨?_, ?_⟩
    · rintro L F a w hF hL S ⟨h0, -⟩
      obtain ⟨v165, e165, cs165, rfl, hn165, hR165⟩ := h0 rfl
      replace S := S.keep (kp e165 kp0)
      refine stepM_of rfl ?_
      (refine wpl_buildSlice S rfl rfl rfl rfl rfl rfl (by rfl) (by first | (simp [Value.cells]; done) | (simp only [List.mem_cons, List.not_mem_nil, or_false, forall_eq_or_imp, forall_eq, Value.cells]; repeat' constructor) <;> assumption) rfl (by rfl) (by rfl) ?_; clear S a; intro b a w hown S; (simp only [Value.cells, List.flatMap_cons, List.flatMap_nil, List.append_nil] at S); have S' := frz1 S; clear S; obtain ⟨F', hle, hb, S⟩ := S')
      exact wpList_nil ⟨_, _, hle, S.keep ⟨rfl, trivial⟩, lim_of (l := ([(Go.De.LT.mk 3 0 0 [] (.cons (EH.mk 6 0 0 [] (VH.mk 0 0 []) .nil) (.cons (EH.mk 5 0 0 [99] (VH.mk 0 0 []) .nil) .nil .nil) .nil))] : List Go.De.LT)) hb ((LiC.one hn165 (Mon.h hle hR165))) (by decide)⟩
    refine ⟨?_, ?_⟩
    · rintro L F a w hF hL S ⟨h0, -⟩
      obtain ⟨v166, e166, p166⟩ := h0 rfl
      have q166 := p166; obtain ⟨oa166, oc166, rfl, -⟩ := p166
      replace S := S.keep (kp e166 kp0)
      refine stepM_of rfl ?_
      (refine wpl_b S ?_; clear S a; intro a S)
      exact wpList_nil ⟨_, _, fun _ _ h => h, S.keep ⟨rfl, trivial⟩, ⟨_, rfl, rfl, ⟨_, rfl, q166⟩⟩⟩
    refine ⟨?_, ?_⟩
    · rintro L F a w hF hL S ⟨h0, -⟩
      obtain ⟨v167, e167, cs167, rfl, hn167, hR167⟩ := h0 rfl
      replace S := S.keep (kp e167 kp0)
      refine stepM_of rfl ?_
      (refine wpl_buildSlice S rfl rfl rfl rfl rfl rfl (by rfl) (by first | (simp [Value.cells]; done) | (simp only [List.mem_cons, List.not_mem_nil, or_false, forall_eq_or_imp, forall_eq, Value.cells]; repeat' constructor) <;> assumption) rfl (by rfl) (by rfl) ?_; clear S a; intro b a w hown S; (simp only [Value.cells, List.flatMap_cons, List.flatMap_nil, List.append_nil] at S); have S' := frz1 S; clear S; obtain ⟨F', hle, hb, S⟩ := S')
      exact wpList_nil ⟨_, _, hle, S.keep ⟨rfl, trivial⟩, lim_of (l := ([(NV.mk 0 0 [] [(Go.De.LT.mk 3 0 0 [] (.cons (EH.mk 6 0 0 [] (VH.mk 0 0 []) .nil) (.cons (EH.mk 5 0 0 [99] (VH.mk 0 0 []) .nil) .nil .nil) .nil))])] : List NV)) hb ((LiC.one hn167 (Mon.h hle hR167))) (by decide)⟩
    refine ⟨?_, ?_⟩
    · rintro L F a w hF hL S ⟨h0, h1, -⟩
      obtain ⟨v160, e160, p160⟩ := h0 rfl
      obtain ⟨v168, e168, p168⟩ := h1 rfl
      have q160 := p160; obtain ⟨oa160, oc160, rfl, -⟩ := p160
      have q168 := p168; obtain ⟨oa168, oc168, rfl, -⟩ := p168
      replace S := S.keep (kp e160 (kp e168 kp0))
      refine stepM_of rfl ?_
      (refine wpl_b S ?_; clear S a; intro a S)
      exact wpList_nil ⟨_, _, fun _ _ h => h, S.keep ⟨rfl, trivial⟩, ⟨_, rfl, rfl, ⟨_, _, _, _, _, _, _, rfl, (LiM.nil _ _ _), q160, (LiM.nil _ _ _), q168⟩⟩⟩
    refine ⟨?_, ?_⟩
    · rintro L F a w hF hL S ⟨h0, -⟩
      obtain ⟨v169, e169, cs169, rfl, -, ia169, ib169, ic169, va169, vb169, vc169, vd169, rfl, ha169, hb169, hc169, hd169⟩ := h0 rfl
      have ha169c := ha169; obtain ⟨oaha169, ocha169, rfl, -⟩ := ha169c
      have hb169c := hb169; obtain ⟨oahb169, ochb169, rfl, -⟩ := hb169c
      have hc169c := hc169; obtain ⟨oahc169, ochc169, rfl, -⟩ := hc169c
      have hd169c := hd169; obtain ⟨oahd169, ochd169, rfl, -⟩ := hd169c
      replace S := S.keep (kp e169 kp0)
      refine stepM_of rfl ?_
      (refine wpl_b S ?_; clear S a; intro a S)
      exact wpList_nil ⟨_, _, fun _ _ h => h, S.keep ⟨rfl, trivial⟩, ⟨_, rfl, rfl, ⟨[_, _, _, _, _, _], rfl, ⟨_, _, _, _, _, _, _, rfl, ha169, hb169, hc169, hd169⟩⟩⟩⟩
    refine ⟨?_, ?_⟩
    · rintro L F a w hF hL S ⟨h0, h1, h2, h3, h4, h5, h6, h7, h8, h9, h10, h11, h12, h13, h14, h15, -⟩
      obtain ⟨v35, e35, cs35, rfl, hn35, hR35⟩ := h0 rfl
      obtain ⟨v42, e42, cs42, rfl, hn42, hR42⟩ := h1 rfl
      obtain ⟨v53, e53, cs53, rfl, hn53, hR53⟩ := h2 rfl
      obtain ⟨v64, e64, cs64, rfl, hn64, hR64⟩ := h3 rfl
      obtain ⟨v73, e73, cs73, rfl, hn73, hR73⟩ := h4 rfl
      obtain ⟨v84, e84, cs84, rfl, hn84, hR84⟩ := h5 rfl
      obtain ⟨v100, e100, cs100, rfl, hn100, hR100⟩ := h6 rfl
      obtain ⟨v113, e113, cs113, rfl, hn113, hR113⟩ := h7 rfl
      obtain ⟨v117, e117, cs117, rfl, hn117, hR117⟩ := h8 rfl
      obtain ⟨v122, e122, cs122, rfl, hn122, hR122⟩ := h9 rfl
      obtain ⟨v132, e132, cs132, rfl, hn132, hR132⟩ := h10 rfl
      obtain ⟨v139, e139, cs139, rfl, hn139, hR139⟩ := h11 rfl
      obtain ⟨v143, e143, cs143, rfl, hn143, hR143⟩ := h12 rfl
      obtain ⟨v150, e150, cs150, rfl, hn150, hR150⟩ := h13 rfl
      obtain ⟨v158, e158, cs158, rfl, hn158, hR158⟩ := h14 rfl
      obtain ⟨v170, e170, cs170, rfl, hn170, hR170⟩ := h15 rfl
      replace S := S.keep (kp e35 (kp e42 (kp e53 (kp e64 (kp e73 (kp e84 (kp e100 (kp e113 (kp e117 (kp e122 (kp e132 (kp e139 (kp e143 (kp e150 (kp e158 (kp e170 kp0))))))))))))))))
      refine stepM_of rfl ?_
      (refine wpl_buildSlice S rfl rfl rfl rfl rfl rfl (by rfl) (by first | (simp [Value.cells]; done) | (simp only [List.mem_cons, List.not_mem_nil, or_false, forall_eq_or_imp, forall_eq, Value.cells]; repeat' constructor) <;> assumption) rfl (by rfl) (by rfl) ?_; clear S a; intro b a w hown S; (simp only [Value.cells, List.flatMap_cons, List.flatMap_nil, List.append_nil] at S); have S' := frz1 S; clear S; obtain ⟨F', hle, hb, S⟩ := S')
      exact wpList_nil ⟨_, _, hle, S.keep ⟨rfl, trivial⟩, lim_of (l := ([((MD.mk [] [(TD.mk 0 0 false [116] [] [(CD.mk [99] [FD.mk [] [116] .nil])])] [] [] []), 5), ((MD.mk [] [(TD.mk 0 0 false [116] [] [(CD.mk [99] []), (CD.mk [99] [])])] [] [] []), 6), ((MD.mk [] [(TD.mk 0 0 false [116] [] [(CD.mk [99] [(FD.mk [120] sInt .nil), (FD.mk [120] sInt .nil)])])] [] [] []), 6), ((MD.mk [] [(TD.mk 0 0 false [116] [] [(CD.mk [99] [(FD.mk [] sInt .nil), (FD.mk [] sInt .nil)])])] [] [] []), 0), ((MD.mk [] [(TD.mk 0 0 false [116] [] [(CD.mk [99] [FD.mk [] [110, 111, 110, 101] .nil])])] [] [] []), 63), ((MD.mk [] [(TD.mk 0 0 false [116] [] [(CD.mk [99] [FD.mk [] [105, 110, 116] (.cons sInt .nil .nil)])])] [] [] []), 70), ((MD.mk [] [(TD.mk 0 0 false [116] [[39, 97]] [(CD.mk [99] []), (CD.mk [100] [FD.mk [] [116] (.cons [116, 117, 112, 108, 101] (.cons sA .nil (.cons sA .nil .nil)) .nil)])])] [] [] []), 72), ((MD.mk [] [(TD.mk 0 0 false [116] [[39, 97]] [(CD.mk [99] []), (CD.mk [100] [FD.mk [] [116] (.cons sA .nil .nil)])])] [] [] []), 0), ((MD.mk [] [(TD.mk 0 0 false [116] [] [])] [] [] []), 5), ((MD.mk [] [] [dnR, dnR] [] []), 6), ((MD.mk [] [] [dnR] [(RU.mk 0 0 [114] (.cons dnX .nil (.cons dnX .nil .nil)) [[], []] [])] []), 70), ((MD.mk [] [] [dnR] [(RU.mk 0 0 [114] (.cons dnX .nil .nil) [] [])] []), 4), ((MD.mk [] [] [] [(RU.mk 0 0 [114] .nil [] [])] []), 63), ((MD.mk [] [] [(RD.mk 0 0 false true [114] [])] [(RU.mk 0 0 [114] (.cons dnX .nil .nil) [] [])] []), 50), ((MD.mk [] [] [dnR] [] [(NV.mk 0 0 [] [(Go.De.LT.mk 2 0 0 [114] .nil)])]), 70), ((MD.mk [] [] [dnR] [] [(NV.mk 0 0 [] [(Go.De.LT.mk 3 0 0 [] (.cons (EH.mk 6 0 0 [] (VH.mk 0 0 []) .nil) (.cons (EH.mk 5 0 0 [99] (VH.mk 0 0 []) .nil) .nil .nil) .nil))])]), 63)] : List (MD × Int))) hb ((LiC.app (l := [((MD.mk [] [(TD.mk 0 0 false [116] [] [(CD.mk [99] [FD.mk [] [116] .nil])])] [] [] []), 5)]) (LiC.one hn35 (Mon.h hle hR35)) (LiC.app (l := [((MD.mk [] [(TD.mk 0 0 false [116] [] [(CD.mk [99] []), (CD.mk [99] [])])] [] [] []), 6)]) (LiC.one hn42 (Mon.h hle hR42)) (LiC.app (l := [((MD.mk [] [(TD.mk 0 0 false [116] [] [(CD.mk [99] [(FD.mk [120] sInt .nil), (FD.mk [120] sInt .nil)])])] [] [] []), 6)]) (LiC.one hn53 (Mon.h hle hR53)) (LiC.app (l := [((MD.mk [] [(TD.mk 0 0 false [116] [] [(CD.mk [99] [(FD.mk [] sInt .nil), (FD.mk [] sInt .nil)])])] [] [] []), 0)]) (LiC.one hn64 (Mon.h hle hR64)) (LiC.app (l := [((MD.mk [] [(TD.mk 0 0 false [116] [] [(CD.mk [99] [FD.mk [] [110, 111, 110, 101] .nil])])] [] [] []), 63)]) (LiC.one hn73 (Mon.h hle hR73)) (LiC.app (l := [((MD.mk [] [(TD.mk 0 0 false [116] [] [(CD.mk [99] [FD.mk [] [105, 110, 116] (.cons sInt .nil .nil)])])] [] [] []), 70)]) (LiC.one hn84 (Mon.h hle hR84)) (LiC.app (l := [((MD.mk [] [(TD.mk 0 0 false [116] [[39, 97]] [(CD.mk [99] []), (CD.mk [100] [FD.mk [] [116] (.cons [116, 117, 112, 108, 101] (.cons sA .nil (.cons sA .nil .nil)) .nil)])])] [] [] []), 72)]) (LiC.one hn100 (Mon.h hle hR100)) (LiC.app (l := [((MD.mk [] [(TD.mk 0 0 false [116] [[39, 97]] [(CD.mk [99] []), (CD.mk [100] [FD.mk [] [116] (.cons sA .nil .nil)])])] [] [] []), 0)]) (LiC.one hn113 (Mon.h hle hR113)) (LiC.app (l := [((MD.mk [] [(TD.mk 0 0 false [116] [] [])] [] [] []), 5)]) (LiC.one hn117 (Mon.h hle hR117)) (LiC.app (l := [((MD.mk [] [] [dnR, dnR] [] []), 6)]) (LiC.one hn122 (Mon.h hle hR122)) (LiC.app (l := [((MD.mk [] [] [dnR] [(RU.mk 0 0 [114] (.cons dnX .nil (.cons dnX .nil .nil)) [[], []] [])] []), 70)]) (LiC.one hn132 (Mon.h hle hR132)) (LiC.app (l := [((MD.mk [] [] [dnR] [(RU.mk 0 0 [114] (.cons dnX .nil .nil) [] [])] []), 4)]) (LiC.one hn139 (Mon.h hle hR139)) (LiC.app (l := [((MD.mk [] [] [] [(RU.mk 0 0 [114] .nil [] [])] []), 63)]) (LiC.one hn143 (Mon.h hle hR143)) (LiC.app (l := [((MD.mk [] [] [(RD.mk 0 0 false true [114] [])] [(RU.mk 0 0 [114] (.cons dnX .nil .nil) [] [])] []), 50)]) (LiC.one hn150 (Mon.h hle hR150)) (LiC.app (l := [((MD.mk [] [] [dnR] [] [(NV.mk 0 0 [] [(Go.De.LT.mk 2 0 0 [114] .nil)])]), 70)]) (LiC.one hn158 (Mon.h hle hR158)) (LiC.one hn170 (Mon.h hle hR170)))))))))))))))))) (by decide)⟩
    refine ⟨?_, ?_⟩
    · rintro L F a w hF hL S ⟨h0, -⟩
      obtain ⟨v171, e171, p171⟩ := h0 rfl
      have q171 := p171; obtain ⟨oa171, oc171, rfl, -⟩ := p171
      replace S := S.keep (kp e171 kp0)
      refine stepM_of rfl ?_
      (refine wpl_n S ?_; clear S a; intro a S)
      exact wpList_nil ⟨_, _, fun _ _ h => h, S.keep ⟨rfl, trivial⟩, rfl⟩
    refine ⟨?_, ?_⟩
    · rintro L F a w hF hL S -
      replace S := S.keep (kp0)
      refine stepM_of rfl ?_
      (refine wpl_p S ?_; clear S a; intro a S)
      exact wpList_nil ⟨_, _, fun _ _ h => h, S.keep ⟨rfl, trivial⟩, rfl⟩
    exact trivial
  (clear S; intro L F2 a w hF hL S hall)
  obtain ⟨v171, e171, p171⟩ := hall 144 (by decide)
  obtain ⟨v172, e172, rfl⟩ := hall 145 (by decide)
  obtain ⟨v173, e173, rfl⟩ := hall 146 (by decide)
  replace S := S.keep (kp e171 (kp e172 (kp e173 (kp (hL 0 _ rfl) (kp (hL 1 _ rfl) (kp (hL 2 _ rfl) (kp (hL 3 _ rfl) (kp (hL 4 _ rfl) (kp (hL 5 _ rfl) (kp (hL 6 _ rfl) kp0))))))))))
  (have hF12 := hF; obtain ⟨l, hlen, hl, hz⟩ : ∃ l : List (MD × Int), l.length = 16 ∧ (l.all fun x => decide (takeE x.1 = x.2) && decide (mdN x.1 ≤ 1000)) = true ∧ LiM F2 7 ExR v171 l := ⟨_, rfl, by decide +kernel, p171⟩; obtain ⟨az, cz, rfl, -, hposz⟩ := hz; rw [hlen] at S)
  (refine hKq9 _ _ ?_; try (clear hKq9 Kq9))
  refine wp_block ?_
  refine wpc_loop (fun m a w' => ∃ (k : Nat) (F3 : Heap), m = 16 - k ∧ k ≤ 16 ∧ (∀ b o, F2 b = some o → F3 b = some o) ∧ St 242 [(0, .bool false), (1, ptr b1), (171, .slice az 16 cz), (172, .int .i64 16), (173, .int .i64 (k : Int))] w0 F [] F3 [] a w') ?_ ?_
  · (refine ⟨16, 0, F2, by omega, by omega, fun _ _ h => h, ?_⟩; refine S.keep ?_; repeat (first | exact trivial | refine ⟨rfl, ?_⟩))
  (clear S; rintro m a w ⟨k, F3, rfl, hkl, hF3, S⟩)
  refine wp_sr fun Kq10 hKq10 => ?_
  (refine wpl_p S ?_; clear S a; intro a S)
  (refine wpList_nil (hKq10 _ _ (wp_seq_k fun Kq11 hKq11 => ?_)); try clear hKq10 Kq10)
  refine wpc_split S rfl (fun h => ?_) (fun h => ?_)
  · (skip; (try simp only [tq] at h))
    refine wp_skip ?_
    (refine hKq11 _ _ ?_; try (clear hKq11 Kq11))
    (refine wp_seq_k ?_; intro Kq12 hKq12)
    refine wp_block ?_
    (refine wp_seq_k ?_; intro Kq13 hKq13)
    (obtain ⟨bz, oz, hao, x, cs1, hx, hc1, cm, rfl, hMd⟩ := LiM.pos hposz (k := k) (by omega); rw [hao] at S; have hxe := dn_ok hl hx; replace hc1 := Cels.mono hF3 hc1; replace hMd := mdR_mono hF3 hMd; have hMc := hMd; obtain ⟨i1, i2, i3, v1, v2, v3, v4, rfl, hm1, hm2, hm3, hm4⟩ := hMc; obtain ⟨ao1, cap1, rfl, -, -⟩ := hm1; obtain ⟨ao2, cap2, rfl, -, -⟩ := hm2; obtain ⟨ao3, cap3, rfl, -, -⟩ := hm3; obtain ⟨ao4, cap4, rfl, -, -⟩ := hm4; (simp only [List.cons_append, List.nil_append] at hc1))
    refine wp_region_lit ?_
    (refine wpl_i S ?_; clear S a; intro a S)
    (refine wpl_v S rfl rfl rfl (sv_loadAF S rfl rfl hc1 (by rfl)) ?_; clear S a; intro a S)
    (refine wpl_al S ?_; clear S a; intro b8 a w S)
    (refine wpl_storeO S rfl rfl rfl rfl rfl (by rfl) (by simp [Value.cells, Value.oneCell', splice]) (by rfl) ?_; clear S; intro w S)
    (refine wpList_nil (hKq13 _ _ (wp_sr fun Kq14 hKq14 => ?_)); try clear hKq13 Kq13)
    (refine wpl_f S ?_; clear S a; intro a S)
    (refine wpl_l S ?_; clear S a; intro a S)
    (refine wpl_cF S (newCt F3 (hE.mono (fun b o h => hF3 _ _ (hF12 _ _ (hle1 _ _ h)))) x.1 _ hMd (msz_small (by omega))) ?_; clear S a; intro u9 F4 a w hv hF4 S; obtain ⟨pp, l9, c9, rfl, hpz, hnz⟩ := new_shape hv; rw [hxe.1] at S)
    iterate 4 (refine wpl_p S ?_; clear S a; intro a S)
    (refine wpl_al S ?_; clear S a; intro b10 a w S)
    (refine wpl_p S ?_; clear S a; intro a S)
    (refine wpl_storeO S rfl rfl rfl rfl rfl (by rfl) (by simp [Value.cells, Value.oneCell', splice]) (by rfl) ?_; clear S; intro w S)
    (refine wpl_p S ?_; clear S a; intro a S)
    (refine wpList_nil (hKq14 _ _ (wp_sr fun Kq15 hKq15 => ?_)); try clear hKq14 Kq14)
    (refine wpl_p S ?_; clear S a; intro a S)
    (refine wpl_f S ?_; clear S a; intro a S)
    (refine wpl_l S ?_; clear S a; intro a S)
    (refine wpl_v S rfl rfl rfl (sv_lit (c := false) (sv_pure S rfl) (by simp)) ?_; clear S a; intro a S)
    (refine wpl_p S ?_; clear S a; intro a S)
    refine wpl_take S rfl rfl rfl ?_
    (refine wpl_p S ?_; clear S a; intro a S)
    refine wpl_take S rfl rfl rfl ?_
    (refine wpl_v S rfl rfl rfl (sv_eqPtr S rfl rfl rfl) ?_; clear S a; intro a S)
    refine wpl_take S rfl rfl rfl ?_
    (refine wpl_p S ?_; clear S a; intro a S)
    refine wpl_take S rfl rfl rfl ?_
    (refine wpl_p S ?_; clear S a; intro a S)
    refine wpl_take S rfl rfl rfl ?_
    (refine wpl_v S rfl rfl rfl (sv_lit (c := false) (sv_neB S rfl rfl rfl) (by exact dn_eq (C := fun _ => True) (fun h => by rw [← hxe.1] at h; obtain ⟨tb, _, _, _, e, _⟩ := hpz h; exact ⟨_, e⟩) (fun h => by rw [← hxe.1] at h; exact hnz h))) ?_; clear S a; intro a S)
    (refine wpl_p S ?_; clear S a; intro a S)
    (refine wpList_nil (hKq15 _ _ ?_); try clear hKq15 Kq15)
    refine wpc_false S rfl ?_
    refine wp_skip ?_
    (refine hKq12 _ _ ?_; try (clear hKq12 Kq12))
    refine wp_region_lit ?_
    (refine wpl_a S ?_; clear S a; intro a S)
    (refine wpl_p S ?_; clear S a; intro a S)
    refine wpList_nil ?_
    change ∃ m', _ ∧ _
    (rw [← hao] at S; replace S := S.drop1.drop1; refine ⟨16 - (k + 1), by omega, k + 1, F4, rfl, by omega, fun b o h => hF4 _ _ (hF3 _ _ h), ?_⟩; refine S.keep ?_; repeat (first | exact trivial | refine ⟨rfl, ?_⟩))
  (skip; (try simp only [tq] at h))
  refine wp_exit ?_
  (refine hKq8 _ _ ?_; try (clear hKq8 Kq8))
  (refine wp_seq_k ?_; intro Kq12 hKq12)
  (have hcb1 : Cels F3 b1 0 [.string (bs sInt), .slice none 0 0] := Cels.mono (fun b o h => hF3 _ _ (hF12 _ _ h)) (cels_of h1))
  refine wp_region_lit ?_
  (refine wpl_p S ?_; clear S a; intro a S)
  (refine wpList_nil (hKq12 _ _ (wp_sr fun Kq13 hKq13 => ?_)); try clear hKq12 Kq12)
  (refine wpl_p S ?_; clear S a; intro a S)
  (refine wpl_c0 S (cons0ACt F3 [99]) ?_; clear S a; intro v a w hv S; obtain ⟨xt, rfl, hxt⟩ := hv)
  iterate 2 (refine wpl_p S ?_; clear S a; intro a S)
  (refine wpl_v S rfl rfl rfl (sv_lit (c := false) (sv_pure S rfl) (by rfl)) ?_; clear S a; intro a S)
  (refine wpl_al S ?_; clear S a; intro b13 a w S)
  (refine wpl_storeO S rfl rfl rfl rfl rfl hxt.1 hxt.2 (by rfl) ?_; clear S; intro w S; replace S := S.drop1)
  (refine wpl_p S ?_; clear S a; intro a S)
  (refine wpList_nil (hKq13 _ _ (wp_sr fun Kq14 hKq14 => ?_)); try clear hKq13 Kq13)
  (refine wpl_p S ?_; clear S a; intro a S)
  (refine wpl_c0 S (type0ACt F3 [116]) ?_; clear S a; intro v a w hv S; obtain ⟨xt, rfl, hxt⟩ := hv)
  iterate 2 (refine wpl_p S ?_; clear S a; intro a S)
  (refine wpl_v S rfl rfl rfl (sv_lit (c := false) (sv_pure S rfl) (by rfl)) ?_; clear S a; intro a S)
  (refine wpl_al S ?_; clear S a; intro b15 a w S)
  (refine wpl_storeO S rfl rfl rfl rfl rfl hxt.1 hxt.2 (by rfl) ?_; clear S; intro w S; replace S := S.drop1)
  (refine wpl_p S ?_; clear S a; intro a S)
  (refine wpList_nil (hKq14 _ _ (wp_sr fun Kq15 hKq15 => ?_)); try clear hKq14 Kq14)
  (refine wpl_p S ?_; clear S a; intro a S)
  (refine wpl_c0 S (rel0ACt F3 [114]) ?_; clear S a; intro v a w hv S; obtain ⟨xt, rfl, hxt⟩ := hv)
  iterate 2 (refine wpl_p S ?_; clear S a; intro a S)
  (refine wpl_v S rfl rfl rfl (sv_lit (c := false) (sv_pure S rfl) (by rfl)) ?_; clear S a; intro a S)
  (refine wpl_al S ?_; clear S a; intro b17 a w S)
  (refine wpl_storeO S rfl rfl rfl rfl rfl hxt.1 hxt.2 (by rfl) ?_; clear S; intro w S; replace S := S.drop1)
  (refine wpl_p S ?_; clear S a; intro a S)
  (refine wpList_nil (hKq15 _ _ (wp_sr fun Kq16 hKq16 => ?_)); try clear hKq15 Kq15)
  iterate 3 (refine wpl_p S ?_; clear S a; intro a S)
  refine wpl_take S rfl rfl rfl ?_
  (refine wpl_p S ?_; clear S a; intro a S)
  refine wpl_take S rfl rfl rfl ?_
  iterate 3 (refine wpl_p S ?_; clear S a; intro a S)
  refine wpl_take S rfl rfl rfl ?_
  (refine wpl_p S ?_; clear S a; intro a S)
  refine wpl_take S rfl rfl rfl ?_
  iterate 3 (refine wpl_p S ?_; clear S a; intro a S)
  refine wpl_take S rfl rfl rfl ?_
  (refine wpl_p S ?_; clear S a; intro a S)
  refine wpl_take S rfl rfl rfl ?_
  (refine wpl_b S ?_; clear S a; intro a S)
  refine wpl_take S rfl rfl rfl ?_
  (refine wpl_l S ?_; clear S a; intro a S)
  refine wpl_take S rfl rfl rfl ?_
  (refine wpl_c0 S (is0Ct F3 (VH.mk 2 0 []) .nil _ ⟨_, rfl, TrS.nil _ _ _, by decide⟩ sInt .nil _ ⟨_, rfl, slf_nil _⟩) ?_; clear S a; intro v a w hv S; subst hv)
  refine wpl_take S rfl rfl rfl ?_
  iterate 3 (refine wpl_p S ?_; clear S a; intro a S)
  refine wpl_take S rfl rfl rfl ?_
  (refine wpl_p S ?_; clear S a; intro a S)
  refine wpl_take S rfl rfl rfl ?_
  (refine wpl_l S ?_; clear S a; intro a S)
  refine wpl_take S rfl rfl rfl ?_
  (refine wpl_c0 S (well0Ct F3 _ sInt .nil ⟨_, rfl, slf_nil _⟩) ?_; clear S a; intro v a w hv S; subst hv)
  refine wpl_take S rfl rfl rfl ?_
  iterate 3 (refine wpl_p S ?_; clear S a; intro a S)
  refine wpl_take S rfl rfl rfl ?_
  (refine wpl_p S ?_; clear S a; intro a S)
  refine wpl_take S rfl rfl rfl ?_
  (refine wpl_c0 S (row0Ct F3 [114] _ .nil (TrS.nil _ _ _)) ?_; clear S a; intro v a w hv S; subst hv)
  refine wpl_take S rfl rfl rfl ?_
  (refine wpl_v S rfl rfl rfl (sv_lit (c := true) (sv_pure S rfl) (by rfl)) ?_; clear S a; intro a S)
  iterate 2 (refine wpl_p S ?_; clear S a; intro a S)
  refine wpl_take S rfl rfl rfl ?_
  (refine wpl_c0 S (awakeCt F3 (hE.mono (fun b o h => hF3 _ _ (hF12 _ _ (hle1 _ _ h))))) ?_; clear S a; intro v a w hv S; subst hv)
  iterate 2 (refine wpl_p S ?_; clear S a; intro a S)
  (refine wpList_nil (hKq16 _ _ ?_); try clear hKq16 Kq16)
  exact wp_ret (fin_ret S (results1 Tryz.results5 (RV.tmp S rfl)) rfl)
end Go.Proofs.YtoaodbclgeeaeaaGreatDoor
