/- Walks. -/
import Derived.Test.YtgefmjghdijbfaaGreatDoorKEvalNames04
import Derived.Test.YtgefmjghdijbfaaGreatDoorKEvalNames02
import Derived.Test.YtgefmjghdijbfaaGreatDoorQ26
set_option maxHeartbeats 16000000
set_option maxRecDepth 20000
namespace Go.Proofs.YtgefmjghdijbfaaGreatDoor
open Go Go.Wk Go.Un Go.De
set_option linter.unusedSimpArgs false
set_option linter.unusedVariables false
attribute [local irreducible] Go.wpList Go.Code.wp Go.wpStill Go.Wk.wpPre Go.bodyPost Go.Calls Go.Wk.Ct Go.Wk.OwnS Go.Wk.wpG Go.Wk.wpM
theorem zzDeI0 {p : Prop} (h : p := by (first | (have h9 := hown; rw [List.flatMap_nil, List.nil_append, Nat.zero_add] at hown; exact ⟨_, _, rfl, hown, hxc⟩) | (have hz : l = [] := (by cases l with | nil => rfl | cons x r => (exfalso; obtain ⟨b, o, e, -⟩ := hxp (by simp); have hno : ao.isNone = true := (by assumption); rw [e] at hno; cases hno)); subst hz; exact ⟨[], [], rfl, OwnS.nil _ _, rfl⟩) | trace_state)) : p := h
theorem cloneSCt (F : Heap) (v : Value) (l : List (List UInt8)) (h : LiM F 1 StR v l) (hl : l.length ≤ 1000000) : Ct Tryz.prog 47 [v] F [] (fun _ G' u => ∃ g xs, G' = [g] ∧ OwnS 9 1 u l.length xs g ∧ LiC F 1 StR xs l) := by
 obtain ⟨ao, cap, xs, rfl, hxc, hxp⟩ := h.flat
 have hxl := hxc.len
 have hx1 := hxc.one'
 refine Ct.enter Tryz.func47 rfl Tryz.ntmps47 rfl fun w0 a S => ?_
 (revert S a; refine go 10 ?_; intro Z hZ a S)
 refine wpc_sp S rfl ?_ ?_ <;> intro h
 ·(revert S a; refine go 4 ?_; intro a S)
  refine wp_ret ?_
  (first | (have h9 := hown; skip) | (replace S := S.nilg))
  refine fin_ret S (results1 Tryz.results47 (RV.tmp S rfl)) ?_
  exact zzDeI0
 (revert S a; revert hZ Z; refine go 3 ?_; intro Z hZ a S)
 (refine wpl_buildSlice S rfl rfl rfl rfl rfl rfl (by rfl) (by simp [Value.cells, splice, splice]) rfl (by rfl) (by rfl) ?_; clear S a; intro b5 a w hown S)
 (revert S a; refine go 1 ?_; intro a S)
 (refine wpl_appendSl S rfl rfl rfl rfl rfl rfl hown (by rfl) hxl hxp hx1 (by omega) (by omega) ?_; clear hown S a; intro v g a w hown S)
 (revert S a; revert hZ Z; refine go 3 ?_; intro a S)
 refine wp_ret ?_
 (first | (have h9 := hown; skip) | (replace S := S.nilg))
 refine fin_ret S (results1 Tryz.results47 (RV.tmp S rfl)) ?_
 exact zzDeI0
theorem cloneTCt (F : Heap) (v : Value) (l : List TD) (h : LiM F 6 TdR v l) (hl : l.length ≤ 1000000) : Ct Tryz.prog 45 [v] F [] (fun _ G' u => ∃ g xs, G' = [g] ∧ OwnS 97 6 u l.length xs g ∧ LiC F 6 TdR xs l) := by
 obtain ⟨ao, cap, xs, rfl, hxc, hxp⟩ := h.flat
 have hxl := hxc.len
 have hx1 := hxc.one'
 refine Ct.enter Tryz.func45 rfl Tryz.ntmps45 rfl fun w0 a S => ?_
 (revert S a; refine go 10 ?_; intro Z hZ a S)
 refine wpc_sp S rfl ?_ ?_ <;> intro h
 ·(revert S a; refine go 4 ?_; intro a S)
  refine wp_ret ?_
  (first | (have h9 := hown; skip) | (replace S := S.nilg))
  refine fin_ret S (results1 Tryz.results45 (RV.tmp S rfl)) ?_
  exact zzDeI0
 (revert S a; revert hZ Z; refine go 3 ?_; intro Z hZ a S)
 (refine wpl_buildSlice S rfl rfl rfl rfl rfl rfl (by rfl) (by simp [Value.cells, splice, splice]) rfl (by rfl) (by rfl) ?_; clear S a; intro b5 a w hown S)
 (revert S a; refine go 1 ?_; intro a S)
 (refine wpl_appendSl S rfl rfl rfl rfl rfl rfl hown (by rfl) hxl hxp hx1 (by omega) (by omega) ?_; clear hown S a; intro v g a w hown S)
 (revert S a; revert hZ Z; refine go 3 ?_; intro a S)
 refine wp_ret ?_
 (first | (have h9 := hown; skip) | (replace S := S.nilg))
 refine fin_ret S (results1 Tryz.results45 (RV.tmp S rfl)) ?_
 exact zzDeI0
theorem cloneRCt (F : Heap) (v : Value) (l : List RD) (h : LiM F 6 RdR v l) (hl : l.length ≤ 1000000) : Ct Tryz.prog 46 [v] F [] (fun _ G' u => ∃ g xs, G' = [g] ∧ OwnS 111 6 u l.length xs g ∧ LiC F 6 RdR xs l) := by
 obtain ⟨ao, cap, xs, rfl, hxc, hxp⟩ := h.flat
 have hxl := hxc.len
 have hx1 := hxc.one'
 refine Ct.enter Tryz.func46 rfl Tryz.ntmps46 rfl fun w0 a S => ?_
 (revert S a; refine go 10 ?_; intro Z hZ a S)
 refine wpc_sp S rfl ?_ ?_ <;> intro h
 ·(revert S a; refine go 4 ?_; intro a S)
  refine wp_ret ?_
  (first | (have h9 := hown; skip) | (replace S := S.nilg))
  refine fin_ret S (results1 Tryz.results46 (RV.tmp S rfl)) ?_
  exact zzDeI0
 (revert S a; revert hZ Z; refine go 3 ?_; intro Z hZ a S)
 (refine wpl_buildSlice S rfl rfl rfl rfl rfl rfl (by rfl) (by simp [Value.cells, splice, splice]) rfl (by rfl) (by rfl) ?_; clear S a; intro b5 a w hown S)
 (revert S a; refine go 1 ?_; intro a S)
 (refine wpl_appendSl S rfl rfl rfl rfl rfl rfl hown (by rfl) hxl hxp hx1 (by omega) (by omega) ?_; clear hown S a; intro v g a w hown S)
 (revert S a; revert hZ Z; refine go 3 ?_; intro a S)
 refine wp_ret ?_
 (first | (have h9 := hown; skip) | (replace S := S.nilg))
 refine fin_ret S (results1 Tryz.results46 (RV.tmp S rfl)) ?_
 exact zzDeI0
theorem cloneCCt (F : Heap) (v : Value) (l : List CD) (h : LiM F 2 CdR v l) (hl : l.length ≤ 1000000) : Ct Tryz.prog 48 [v] F [] (fun _ G' u => ∃ g xs, G' = [g] ∧ OwnS 93 2 u l.length xs g ∧ LiC F 2 CdR xs l) := by
 obtain ⟨ao, cap, xs, rfl, hxc, hxp⟩ := h.flat
 have hxl := hxc.len
 have hx1 := hxc.one'
 refine Ct.enter Tryz.func48 rfl Tryz.ntmps48 rfl fun w0 a S => ?_
 (revert S a; refine go 10 ?_; intro Z hZ a S)
 refine wpc_sp S rfl ?_ ?_ <;> intro h
 ·(revert S a; refine go 4 ?_; intro a S)
  refine wp_ret ?_
  (first | (have h9 := hown; skip) | (replace S := S.nilg))
  refine fin_ret S (results1 Tryz.results48 (RV.tmp S rfl)) ?_
  exact zzDeI0
 (revert S a; revert hZ Z; refine go 3 ?_; intro Z hZ a S)
 (refine wpl_buildSlice S rfl rfl rfl rfl rfl rfl (by rfl) (by simp [Value.cells, splice, splice]) rfl (by rfl) (by rfl) ?_; clear S a; intro b5 a w hown S)
 (revert S a; refine go 1 ?_; intro a S)
 (refine wpl_appendSl S rfl rfl rfl rfl rfl rfl hown (by rfl) hxl hxp hx1 (by omega) (by omega) ?_; clear hown S a; intro v g a w hown S)
 (revert S a; revert hZ Z; refine go 3 ?_; intro a S)
 refine wp_ret ?_
 (first | (have h9 := hown; skip) | (replace S := S.nilg))
 refine fin_ret S (results1 Tryz.results48 (RV.tmp S rfl)) ?_
 exact zzDeI0
theorem ownedCt (F : Heap) (l : List FD) (v : Value) (h : LiM F 3 FdR v l) (hl : l.length ≤ 1000000) (hth : FThin l) : Ct Tryz.prog 49 [v] F [] (fun F' _ u => LiM F' 3 FdR u l) := by
 obtain ⟨ao, cap, rfl, hcap, hpos⟩ := h
 refine Ct.enter Tryz.func49 rfl Tryz.ntmps49 rfl fun w0 a S => ?_
 (revert S a; refine go 16 ?_; intro Z hZ a S)
 refine wpc_loop (fun m a w' => ∃ (i : Nat) (v : Value) (g : Grp) (xs : List Value) (F3 : Heap), m = l.length - i ∧ i ≤ l.length ∧ (∀ b o, F b = some o → F3 b = some o) ∧ OwnS 90 3 v i xs g ∧ LiC F3 3 FdR xs (l.take i) ∧ St 23 [(3, v), (6, .slice ao l.length cap), (7, .int .i64 l.length), (8, .int .i64 i)] w0 F [] F3 [g] a w') ?_ ?_
 ·(replace S := S.nilg; refine ⟨l.length, 0, .slice none 0 0, [], [], F, by omega, Nat.zero_le _, fun _ _ h => h, OwnS.nil _ _, rfl, ?_⟩; refine S.keep ?_; exact zk)
 (clear S; rintro m a w ⟨i, v, g, xs, F3, rfl, hil, hF3, hown, hfc, S⟩)
 (revert S a; refine go 5 ?_; intro Z hZ a S)
 refine wpc_sp S rfl ?_ ?_ <;> intro h
 ·(revert S a; revert hZ Z; refine go 4 ?_; intro Z hZ a S)
  (refine wp_seq_k ?_; intro Z hZ)
  (obtain ⟨b8, o8, hao, x, cs1, hx, hc1, ⟨v1, rfl, hT1⟩⟩ := LiM.pos hpos (k := i) (by omega); rw [hao] at S; replace hc1 := Cels.mono hF3 hc1; replace hT1 := hT1.mono hF3; have hT1c := hT1; obtain ⟨a91, c91, rfl, -⟩ := hT1c; obtain ⟨hx40, hxth⟩ := hth x (List.mem_of_getElem? hx))
  (revert S a; refine go 3 ?_; intro a S)
  (refine wpl_alloc S rfl rfl rfl rfl ?_; clear S a; intro b5 a w S)
  (refine wso S rfl rfl ?_; clear S; intro w S)
  (revert S a; revert hZ Z; refine go 2 ?_; intro a S)
  (refine wpc_mixM [0, 1, 2, 3, 4, 6] [2, 4] [] (.one 0 (.one 1 (.one 2 (.one 3 (.one 4 (.one 5 (.one 6 (.one 7 (.one 8 (.one 9 .nil)))))))))) [b5] S mixed (by kernel_rfl) ?_; clear S; intro w S)
  (revert S a; refine go 6 ?_; intro a S)
  (refine wpl_call (Gs := []) (Gr := [[(b5, _)], g]) S rfl rfl rfl rfl rfl rfl (ownDCt (x.ta.size + 1) F3 x.tn x.ta _ (Nat.lt_succ_self _) ⟨_, rfl, hT1⟩ hx40 hxth) rfl (by exact List.Perm.refl _) ?_; clear S a; intro u9 F4 G4 a w hv hF4 S; obtain ⟨a4, q4, c4, rfl, hs4⟩ := hv; replace S : St _ _ _ _ _ F4 ([(b5, _)] :: g :: []) _ _ := ⟨S.fr, S.tr.sub (by rw [List.flatten_append]; exact List.sublist_append_right _ _)⟩)
  (revert S a; refine go 3 ?_; intro a S)
  (refine wpl_buildSlice S rfl rfl rfl rfl rfl rfl (by rfl) (by simp [Value.cells, splice, splice]) rfl (by rfl) (by rfl) ?_; clear S a; intro b19 a w hown2 S)
  (revert S a; refine go 2 ?_; intro a S)
  (refine wpl_appendOwn S rfl rfl rfl rfl rfl rfl hown hown2 (by rfl) (by simp [Value.cells, Value.oneCell', splice, splice]) (by omega) (by omega) ?_; clear hown S a; intro v g a w hown S)
  (revert S a; revert hZ Z; refine go 10 ?_; intro a S)
  change ∃ m', _ ∧ _
  (rw [← hao] at S; replace S := S.drop1; refine ⟨l.length - (i + 1), by omega, i + 1, _, _, _, F4, rfl, by omega, fun b o h => hF4 _ _ (hF3 _ _ h), hown, ?_, ?_⟩; rotate_left 1; (refine S.keep ?_; exact zk); (rw [List.take_add_one, hx]; exact LiC.app (hfc.mono hF4) (LiC.one rfl ⟨_, rfl, hs4⟩)))
 (refine wp_exit ?_; conv => whnf)
 clear hZ Z
 (revert S a; revert hZ Z; refine go 6 ?_; intro a S)
 refine wp_ret ?_
 (have hii : i = l.length := (by omega); have h9 := hown; have hle := add_le (G1 := []) S; replace S := St.freeze (G1 := []) S; (simp only [List.nil_append] at S hle))
 refine fin_ret S (results1 Tryz.results49 (RV.tmp S rfl)) ?_
 (rw [List.take_of_length_le (by omega)] at hfc; exact LiC.lim hown hfc (by omega) hle (by omega))
theorem zzDeI1 {p : Prop} (h : p := by (first | (have hpf : p (l.take k) x = true := (by assumption); have e9 : anyP p [] l = true := (by rw [hfp, drop_at hx]; show (p (l.take k) x || _) = true; rw [hpf, Bool.true_or]); rw [e9]; exact ⟨_, rfl, by simp⟩) | (have e9 : anyP p [] l = false := (by rw [hfp, List.drop_eq_nil_of_le (by omega)]; rfl); rw [e9]; exact ⟨_, rfl, by simp⟩) | trace_state)) : p := h
theorem indexDCt (F : Heap) (l : List FD) (v : Value) (h : LiM F 3 FdR v l) (fid : FuncId) (fi ca : List Value) [hfn : HasFn Tryz.prog fid] (p : List FD → FD → Bool) (Iv : List FD → List Grp → Prop) (G0 : List Grp) (h0 : Iv [] G0)
  (hcl : ∀ (k : Nat) (x : FD) (cs : List Value) (G : List Grp), l[k]? = some x → FdR F x cs → Iv (l.take k) G → Ct Tryz.prog fid (fi ++ [.agg ⟨cs⟩] ++ ca) F G (fun _ G' u => u = .bool (p (l.take k) x) ∧ Iv (l.take k ++ [x]) G')) :
  Ct Tryz.prog 129 [v, .func (.func fid) ⟨fi⟩ ⟨ca⟩] F G0 (fun _ G' u => ∃ i : Int, u = .int .i64 i ∧ decide (0 ≤ i) = anyP p [] l) := by
 obtain ⟨ao, cap, rfl, hcap, hpos⟩ := h
 refine Ct.enter Tryz.func129 rfl Tryz.ntmps129 rfl fun w0 a S => ?_
 (revert S a; refine go 12 ?_; intro Z hZ a S)
 refine wpc_loop (fun m a w' => ∃ (k : Nat) (GG : List Grp), m = l.length - k ∧ k ≤ l.length ∧ anyP p [] l = anyP p (l.take k) (l.drop k) ∧ Iv (l.take k) GG ∧ St 19 [(0, .slice ao l.length cap), (1, .func (.func fid) ⟨fi⟩ ⟨ca⟩), (7, .int .i64 l.length), (8, .int .i64 k)] w0 F (keys G0) F GG a w') ?_ ?_
 ·(refine ⟨l.length, 0, G0, by omega, Nat.zero_le _, rfl, h0, ?_⟩; refine S.keep ?_; exact zk)
 (clear S; rintro m a w ⟨k, GG, rfl, hkl, hfp, hI, S⟩)
 (revert S a; refine go 5 ?_; intro Z hZ a S)
 refine wpc_sp S rfl ?_ ?_ <;> intro h
 ·(revert S a; revert hZ Z; refine go 9 ?_; intro Z hZ a S)
  (refine wp_seq_k ?_; intro Z hZ)
  (obtain ⟨b8, o8, hao, x, cs1, hx, hc1, ⟨v1, rfl, hT1⟩⟩ := LiM.pos hpos (k := k) (by omega); rw [hao] at S)
  (revert S a; refine go 6 ?_; intro a S)
  (refine wpl_callOwn (Gs := GG) (Gr := []) S rfl rfl rfl rfl rfl rfl (hcl k x _ GG hx ⟨_, rfl, hT1⟩ hI) rfl (by simp) ?_; clear S a; intro u9 G9 a w hv S; obtain ⟨rfl, hI9⟩ := hv; rw [List.append_nil] at S)
  (revert S a; revert hZ Z; refine go 2 ?_; intro a S)
  refine wpc_sp S rfl ?_ ?_ <;> intro h
  ·(revert S a; refine go 5 ?_; intro a S)
   refine wp_ret (fr1 S Tryz.results129 ?_)
   exact zzDeI1
  (revert S a; revert hZ Z; refine go 6 ?_; intro a S)
  change ∃ m', _ ∧ _
  (rw [← hao] at S; have hpf : p (l.take k) x = false := (by assumption); refine ⟨l.length - (k + 1), by omega, k + 1, G9, rfl, by omega, ?_, ?_, ?_⟩; rotate_left 2; (refine S.keep ?_; exact zk); (rw [hfp, drop_at hx]; rw [show l.take (k + 1) = l.take k ++ [x] by rw [List.take_add_one, hx]; rfl]; show (p (l.take k) x || _) = _; rw [hpf, Bool.false_or]); (rw [show l.take (k + 1) = l.take k ++ [x] by rw [List.take_add_one, hx]; rfl]; exact hI9))
 (refine wp_exit ?_; conv => whnf)
 clear hZ Z
 (revert S a; revert hZ Z; refine go 5 ?_; intro a S)
 refine wp_ret (fr1 S Tryz.results129 ?_)
 exact zzDeI1
theorem containsDCt (F : Heap) (l : List FD) (v : Value) (h : LiM F 3 FdR v l) (fid : FuncId) (fi ca : List Value) [hfn : HasFn Tryz.prog fid] (p : List FD → FD → Bool) (Iv : List FD → List Grp → Prop) (G0 : List Grp) (h0 : Iv [] G0)
  (hcl : ∀ (k : Nat) (x : FD) (cs : List Value) (G : List Grp), l[k]? = some x → FdR F x cs → Iv (l.take k) G → Ct Tryz.prog fid (fi ++ [.agg ⟨cs⟩] ++ ca) F G (fun _ G' u => u = .bool (p (l.take k) x) ∧ Iv (l.take k ++ [x]) G')) :
  Ct Tryz.prog 171 [v, .func (.func fid) ⟨fi⟩ ⟨ca⟩] F G0 (fun _ _ u => u = .bool (anyP p [] l)) := by
 have hc := indexDCt F l v h fid fi ca p Iv G0 h0 hcl
 obtain ⟨ao, cap, rfl, hcap, hpos⟩ := h
 refine Ct.enter Tryz.func171 rfl Tryz.ntmps171 rfl fun w0 a S => ?_
 (revert S a; refine go 7 ?_; intro Z hZ a S)
 (refine wpl_callOwn (Gs := G0) (Gr := []) S rfl rfl rfl rfl rfl rfl hc rfl (by simp) ?_; clear S a; intro u9 G9 a w hv S; obtain ⟨i9, rfl, hi9⟩ := hv; rw [List.append_nil] at S)
 (revert S a; revert hZ Z; refine go 4 ?_; intro a S)
 refine wp_ret (fr1 S Tryz.results171 ?_)
 (rw [← hi9])
def TwI (bm mb : Nat) (pre : List FD) (G : List Grp) : Prop := ∃ es, G = [[(bm, .cells ⟨[.map (some mb)]⟩ 256 (0, 0))], [(mb, mObj kS es)]] ∧ CntE es (pre.map FD.nm)
theorem zzDeI2 {p : Prop} (h : p := by (have hE9 := hE.set x.nm; refine ⟨?_, _, rfl, (by rw [List.map_append]; exact hE9)⟩; congr 1; unfold twP; first | (have hne : ¬ x.nm = [] := (by assumption); rw [show decide (x.nm ≠ []) = true from decide_eq_true hne, Bool.true_and]; rw [Bool.eq_iff_iff, decide_eq_true_eq, decide_eq_true_eq, List.count_append, List.count_singleton]; simp only [BEq.rfl, if_true]; rw [← List.count_pos_iff]; omega) | (have hne : x.nm = [] := (by assumption); rw [show decide (x.nm ≠ []) = false from decide_eq_false (fun h9 => h9 hne), Bool.false_and]) | trace_state)) : p := h
theorem twice1Ct (F : Heap) (bm mb : Nat) (pre : List FD) (x : FD) (cs : List Value) (G : List Grp) (hR : FdR F x cs) (hpl : pre.length ≤ 1000000) (hI : TwI bm mb pre G) : Ct Tryz.prog 172 ([] ++ [.agg ⟨cs⟩] ++ [.pointer (some ⟨bm, 0, none⟩)]) F G (fun _ G' u => u = .bool (twP pre x) ∧ TwI bm mb (pre ++ [x]) G') := by
 obtain ⟨es, rfl, hE⟩ := hI
 obtain ⟨v, rfl, hs⟩ := hR
 obtain ⟨ao, cap, rfl, -, -⟩ := hs
 have hct : (pre.map FD.nm).count x.nm ≤ pre.length := by have := List.count_le_length (a := x.nm) (l := pre.map FD.nm); rw [List.length_map] at this; exact this
 refine Ct.enter Tryz.func172 rfl Tryz.ntmps172 rfl fun w0 a S => ?_
 refine wp_sr fun Z hZ => ?_
 (refine wbx S ?_; clear S a; intro b2 a w S)
 (revert S a; revert hZ Z; refine go 7 ?_; intro Z hZ a S)
 first | (refine wv S (sv_lookupO (enc := kS) S rfl rfl rfl) ?_; clear S a; intro a S) | (refine wv S (sv_lookupF (enc := kS) S rfl rfl rfl (by assumption)) ?_; clear S a; intro a S)
 (rw [if_neg (by decide), hE x.nm] at S)
 (revert S a; refine go 1 ?_; intro a S)
 (rw [show ((((pre.map FD.nm).count x.nm : Nat) : Int) + 1) = (((pre.map FD.nm).count x.nm + 1 : Nat) : Int) from rfl] at S)
 (refine wpl_mapSet (enc := kS) S rfl rfl rfl rfl rfl rfl ?_; clear S; intro w S)
 (revert S a; revert hZ Z; refine go 7 ?_; intro Z hZ a S)
 refine wgd S ?_ ?_
 ·(clear S; intro h S)
  (revert S a; refine go 6 ?_; intro a S)
  first | (refine wv S (sv_lookupO (enc := kS) S rfl rfl rfl) ?_; clear S a; intro a S) | (refine wv S (sv_lookupF (enc := kS) S rfl rfl rfl (by assumption)) ?_; clear S a; intro a S)
  (have hE2 := hE.set x.nm; rw [if_neg (by decide), hE2 x.nm] at S)
  (revert S a; revert hZ Z; refine go 6 ?_; intro a S)
  refine wp_ret ?_
  (replace S := S.drop1)
  refine fin_ret S (results1 Tryz.results172 (RV.tmp S rfl)) ?_
  exact zzDeI2
 (clear S a; intro h a S)
 (revert S a; revert hZ Z; refine go 8 ?_; intro a S)
 refine wp_ret ?_
 (replace S := S.drop1)
 refine fin_ret S (results1 Tryz.results172 (RV.tmp S rfl)) ?_
 exact zzDeI2
theorem twiceCt (F : Heap) (l : List FD) (v : Value) (h : LiM F 3 FdR v l) (hl : l.length ≤ 1000000) : Ct Tryz.prog 138 [v] F [] (fun _ _ u => u = .bool (twiceD l)) := by
 have h0 := h
 obtain ⟨ao, cap, rfl, hcap, hpos⟩ := h
 refine Ct.enter Tryz.func138 rfl Tryz.ntmps138 rfl fun w0 a S => ?_
 (revert S a; refine go 5 ?_; intro Z hZ a S)
 (refine wpl_makeMap kS S rfl rfl rfl rfl ?_; clear S a; intro b4 a w S)
 (refine wpl_alloc S rfl rfl rfl rfl ?_; clear S a; intro b3 a w S)
 (refine wpl_store1 S rfl rfl rfl rfl rfl rfl (by first | (simp; done) | (simp [Value.cells]; done) | exact Nat.le_of_ble_eq_true rfl) ?_; clear S; intro w S)
 (revert S a; revert hZ Z; refine go 5 ?_; intro Z hZ a S)
 (refine wpl_callOwn (Gs := [[(b3, _)], [(b4, _)]]) (Gr := []) S rfl rfl rfl rfl rfl rfl (containsDCt F l _ h0 172 [] [.pointer (some ⟨b3, 0, none⟩)] twP (TwI b3 b4) _ ⟨[], rfl, fun nm => rfl⟩ (fun k x cs G hx hR hI => twice1Ct F b3 b4 (l.take k) x cs G hR (by rw [List.length_take]; omega) hI)) rfl (by exact List.Perm.refl _) ?_; clear S a; intro u9 G9 a w hv S; subst hv)
 (revert S a; revert hZ Z; refine go 3 ?_; intro a S)
 refine wp_ret (fr1 S Tryz.results138 ?_)
 rfl
def ErrV (e : Int) (u : Value) : Prop := if e = 0 then u = .nilIface else ∃ l c : Int, u = .iface 116 (.agg ⟨[.int .i64 l, .int .i64 c, .int .i64 e]⟩)
section
variable {n : Sz} {L : List (Nat × Value)} {w0 : World} {F0 : Heap} {K0 : List Nat} {F : Heap} {G : List Grp} {a : Act} {w : World} {o : Oper}
theorem sv_neErr {x : Operand} {t yt : TypeId} {u : Value} {e : Int} [ht : Ifc Tryz.prog t] (S : St n L w0 F0 K0 F G a w) (ho : o.op = .binOp .neq t x (.const .nilIface) yt) (hx : ev L x = some u) (he : ErrV e u) : SV Tryz.prog o a w (.bool (decide (e ≠ 0))) := by
 unfold ErrV at he
 split at he
 ·rename_i h
  subst he; subst h
  exact sv_neNil S ho hx
 ·rename_i h
  obtain ⟨l, c, rfl⟩ := he
  rw [decide_eq_true h]
  exact sv_neSome S ho hx
end
theorem errV_of {e l c : Int} (h : e ≠ 0) : ErrV e (.iface 116 (.agg ⟨[.int .i64 l, .int .i64 c, .int .i64 e]⟩)) := by
 unfold ErrV
 rw [if_neg h]
 exact ⟨l, c, rfl⟩
theorem errV_0 : ErrV 0 .nilIface := by unfold ErrV; rw [if_pos rfl]
theorem containsSCt (F : Heap) (l : List (List UInt8)) (s : List UInt8) (v : Value) (h : SlC F v l.length (strs l)) (hl : l.length ≤ 9223372036854775807) : Ct Tryz.prog 77 [v, .string (bs s)] F [] (fun _ _ u => u = .bool (decide (s ∈ l))) := by
 have h0 := h
 obtain ⟨ao, cap, rfl, hcap, hpos⟩ := h
 refine Ct.enter Tryz.func77 rfl Tryz.ntmps77 rfl fun w0 a S => ?_
 (revert S a; refine go 7 ?_; intro Z hZ a S)
 (refine wc0 S (indexSCt F l s _ h0 hl) ?_; clear S a; intro v a w hv S; subst hv)
 (revert S a; revert hZ Z; refine go 4 ?_; intro a S)
 refine wp_ret (fr1 S Tryz.results77 ?_)
 (congr 1; unfold idxOf; by_cases hm : s ∈ l; (rw [if_pos hm]; simp [hm]); (rw [if_neg hm]; simp [hm]))
theorem lim_slc {F : Heap} : ∀ {l : List (List UInt8)} {xs : List Value}, LiC F 1 StR xs l → xs = strs l
 | [], xs, h => h
 | x :: l, xs, ⟨cs, r, h1, h2, h3, h4⟩ => by
  rw [show cs = [Value.string (bs x)] from h3] at h1
  rw [h1, lim_slc h4]; rfl
theorem lim_sl {F : Heap} {v : Value} {l : List (List UInt8)} (h : LiM F 1 StR v l) : SlC F v l.length (strs l) := by
 have h0 := h
 obtain ⟨ao0, cap0, e0, hb, -⟩ := h0
 obtain ⟨ao, cap, xs, rfl, h2, h3⟩ := h.flat
 cases e0
 rw [← lim_slc h2]
 exact ⟨_, _, rfl, hb.1, h3⟩
theorem fields1Ct (F : Heap) (bm : Nat) (p : List UInt8 → Bool) (fid : FuncId) [hfn : HasFn Tryz.prog fid] (fi ca : List Value) (hp : CbS F fid fi ca p) (hbm : Cel F bm 0 (.func (.func fid) ⟨fi⟩ ⟨ca⟩)) : CbT F 175 [] [.pointer (some ⟨bm, 0, none⟩)] (fun y => parS y.1 && !p y.1) := by
 unfold CbT
 intro F' x cs hF hty
 obtain ⟨nm, ar⟩ := x
 obtain ⟨v, rfl, hs⟩ := hty
 obtain ⟨ao, cap, rfl, hcap, -⟩ := hs
 replace hbm := hbm.mono hF
 refine Ct.enter Tryz.func175 rfl Tryz.ntmps175 rfl fun w0 a S => ?_
 refine wp_sr fun Z hZ => ?_
 (refine wbx S ?_; clear S a; intro b2 a w S)
 (revert S a; revert hZ Z; refine go 6 ?_; intro Z hZ a S)
 (refine wc0 S (paramCt F' nm) ?_; clear S a; intro v a w hv S; subst hv)
 (revert S a; refine go 1 ?_; intro a S)
 refine wgd S ?_ ?_
 ·(clear S; intro h S)
  (refine wv S (sv_loadF S rfl rfl hbm) ?_; clear S a; intro a S)
  (revert S a; refine go 5 ?_; intro a S)
  (refine wc0 S (hp F' nm hF) ?_; clear S a; intro v a w hv S; subst hv)
  (revert S a; revert hZ Z; refine go 6 ?_; intro a S)
  refine wp_ret (fr1 S Tryz.results175 ?_)
  (congr 1; simp [*])
 (clear S a; intro h a S)
 (revert S a; revert hZ Z; refine go 8 ?_; intro a S)
 refine wp_ret (fr1 S Tryz.results175 ?_)
 (congr 1; simp [*])
def FSz (l : List FD) : Prop := ∀ x ∈ l, x.ta.size ≤ 1000000
theorem zzDeJ0 {p : Prop} (h : p := by (first | (have hz : fieldsE ts p l = 0 := (by rw [hfe, List.drop_eq_nil_of_le (by omega)]; rfl); rw [hz]; exact errV_0) | (have hz : fieldE ts p x = 63 := (by unfold fieldE; rw [if_pos ⟨by first | assumption | omega, by assumption⟩]); have hz2 : fieldsE ts p l = 63 := (by rw [hfe, drop_at hx]; show (if fieldE ts p x ≠ 0 then _ else _) = _; rw [hz]; rfl); rw [hz2]; exact errV_of (by decide)) | (have hz : fieldE ts p x = useT ts (x.tn, x.ta) := (by unfold fieldE; rw [if_neg (by rintro ⟨h1, h2⟩; simp_all)]); have hne : ¬ useT ts (x.tn, x.ta) = 0 := (by first | assumption | simpa using h); have hz2 : fieldsE ts p l = useT ts (x.tn, x.ta) := (by rw [hfe, drop_at hx]; show (if fieldE ts p x ≠ 0 then _ else _) = _; rw [hz, if_pos hne]); rw [hz2]; exact errV_of hne) | trace_state)) : p := h
theorem zzDeJ1 {p : Prop} (h : p := by (rw [← hao] at S; replace S := S.drop1; have hz : fieldE ts p x = 0 := (by have h9 := h; unfold fieldE; first | (exfalso; omega) | (rw [if_neg (by rintro ⟨h1, h2⟩; simp_all)]; first | assumption | omega)); refine ⟨l.length - (k + 1), by omega, k + 1, rfl, by omega, by rw [hfe, drop_at hx]; show (if fieldE ts p x ≠ 0 then _ else _) = _; rw [if_neg (fun h => h hz)], ?_⟩; refine S.keep ?_; exact zk)) : p := h
theorem fieldsCt (F : Heap) (tb m1 : Nat) (ts : List TD) (hT : TyS F tb m1 ts) (l : List FD) (v : Value) (h : LiM F 3 FdR v l) (hsz : FSz l) (al ac : Int) (p : List UInt8 → Bool) (fid : FuncId) [hfn : HasFn Tryz.prog fid] (fi ca : List Value) (hp : CbS F fid fi ca p) :
  Ct Tryz.prog 139 [.pointer (some ⟨tb, 0, none⟩), v, .agg ⟨[.int .i64 al, .int .i64 ac]⟩, .func (.func fid) ⟨fi⟩ ⟨ca⟩] F [] (fun _ _ u => ErrV (fieldsE ts p l) u) := by
 obtain ⟨ao, cap, rfl, hcap, hpos⟩ := h
 refine Ct.enter Tryz.func139 rfl Tryz.ntmps139 rfl fun w0 a S => ?_
 refine wp_sr fun Z hZ => ?_
 (refine wbx S ?_; clear S a; intro b6 a w S)
 (refine wbx S ?_; clear S a; intro b7 a w S)
 (revert S a; revert hZ Z; refine go 4 ?_; intro Z hZ a S)
 (refine wp_seq_k ?_; intro Z hZ)
 (have hle := add_le (G1 := []) S; replace S := St.freeze (G1 := []) S; (simp only [List.nil_append] at S hle); have hb7 : Cel (F.add [(b7, .cells ⟨[.func (.func fid) ⟨fi⟩ ⟨ca⟩]⟩ 148 (0, 0))]) b7 0 (.func (.func fid) ⟨fi⟩ ⟨ca⟩) := ⟨_, _, _, Heap.add_new (p := (b7, _)) (List.mem_singleton.2 rfl) (by simp), rfl⟩; replace S : St _ _ _ _ _ (F.add [(b7, .cells ⟨[.func (.func fid) ⟨fi⟩ ⟨ca⟩]⟩ 148 (0, 0))]) _ _ _ := S; replace hle : ∀ b o, F b = some o → (F.add [(b7, .cells ⟨[.func (.func fid) ⟨fi⟩ ⟨ca⟩]⟩ 148 (0, 0))]) b = some o := hle; generalize (F.add [(b7, .cells ⟨[.func (.func fid) ⟨fi⟩ ⟨ca⟩]⟩ 148 (0, 0))]) = F2 at S hle hb7; have hT2 := hT.mono hle; have hp2 : CbS F2 fid fi ca p := (fun F' s hF => hp F' s (fun b o h => hF _ _ (hle _ _ h))); have hf1 := fields1Ct F2 b7 p fid fi ca hp2 hb7)
 (revert S a; revert hZ Z; refine go 7 ?_; intro a S)
 refine wpc_loop (fun m a w' => ∃ (k : Nat), m = l.length - k ∧ k ≤ l.length ∧ fieldsE ts p l = fieldsE ts p (l.drop k) ∧ St 37 [(0, ptr tb), (6, ptr b6), (7, ptr b7), (12, .slice ao l.length cap), (13, .int .i64 l.length), (14, .int .i64 k)] w0 F [] F2 [[(b6, .cells ⟨[.int .i64 al, .int .i64 ac]⟩ 30 (0, 0))]] a w') ?_ ?_
 ·(refine ⟨l.length, 0, by omega, Nat.zero_le _, rfl, ?_⟩; refine S.keep ?_; exact zk)
 (clear S; rintro m a w ⟨k, rfl, hkl, hfe, S⟩)
 (revert S a; refine go 5 ?_; intro Z hZ a S)
 refine wpc_sp S rfl ?_ ?_ <;> intro h
 ·(revert S a; revert hZ Z; refine go 4 ?_; intro Z hZ a S)
  (refine wp_seq_k ?_; intro Z hZ)
  (obtain ⟨b8, o8, hao, x, cs1, hx, hc1, ⟨v1, rfl, hT1⟩⟩ := LiM.pos hpos (k := k) (by omega); rw [hao] at S; replace hc1 := Cels.mono hle hc1; replace hT1 := hT1.mono hle; have hT1c := hT1; obtain ⟨a91, c91, rfl, -⟩ := hT1c; have hxsz := hsz x (List.mem_of_getElem? hx))
  (revert S a; refine go 3 ?_; intro a S)
  (refine wpl_alloc S rfl rfl rfl rfl ?_; clear S a; intro b10 a w S)
  (refine wso S rfl rfl ?_; clear S; intro w S)
  (revert S a; revert hZ Z; refine go 6 ?_; intro Z hZ a S)
  (refine wc0 S (useCt F2 tb m1 ts hT2 x.tn x.ta _ (by have := depthL_le x.ta; omega) ⟨_, rfl, hT1⟩) ?_; clear S a; intro v a w hv S; subst hv)
  (revert S a; revert hZ Z; refine go 8 ?_; intro Z hZ Z hZ a S)
  refine wgd S ?_ ?_
  ·(clear S; intro h S)
   (revert S a; refine go 6 ?_; intro a S)
   (refine wc0 S (withinCt F2 175 [] [.pointer (some ⟨b7, 0, none⟩)] _ hf1 (x.ta.size + 1) F2 x.tn x.ta _ (Nat.lt_succ_self _) (fun _ _ h => h) ⟨_, rfl, hT1⟩) ?_; clear S a; intro v a w hv S; subst hv)
   (revert S a; revert hZ Z; refine go 3 ?_; intro a S)
   refine wpc_sp S rfl ?_ ?_ <;> intro h
   ·(revert S a; revert hZ Z; refine go 9 ?_; intro a S)
    refine wpc_sp S rfl ?_ ?_ <;> intro h
    ·(revert S a; refine go 8 ?_; intro a S)
     refine wp_ret (fr1 S Tryz.results139 ?_)
     exact zzDeJ0
    (revert S a; revert hZ Z; refine go 6 ?_; intro a S)
    change ∃ m', _ ∧ _
    exact zzDeJ1
   (revert S a; revert hZ Z; refine go 7 ?_; intro a S)
   refine wpc_sp S rfl ?_ ?_ <;> intro h
   ·(revert S a; refine go 8 ?_; intro a S)
    refine wp_ret (fr1 S Tryz.results139 ?_)
    exact zzDeJ0
   (revert S a; revert hZ Z; refine go 6 ?_; intro a S)
   change ∃ m', _ ∧ _
   exact zzDeJ1
  (clear S a; intro h a S)
  (revert S a; revert hZ Z; refine go 6 ?_; intro a S)
  refine wpc_false S rfl ?_
  (revert S a; revert hZ Z; refine go 7 ?_; intro a S)
  refine wpc_sp S rfl ?_ ?_ <;> intro h
  ·(revert S a; refine go 8 ?_; intro a S)
   refine wp_ret (fr1 S Tryz.results139 ?_)
   exact zzDeJ0
  (revert S a; revert hZ Z; refine go 6 ?_; intro a S)
  change ∃ m', _ ∧ _
  exact zzDeJ1
 (refine wp_exit ?_; conv => whnf)
 clear hZ Z
 (revert S a; revert hZ Z; refine go 5 ?_; intro a S)
 refine wp_ret (fr1 S Tryz.results139 ?_)
 exact zzDeJ0
theorem get_kc {F : Heap} {es : List (List UInt8 × Value)} {cl : List KC} (hm : MapM F KcR KC.nm es cl) (s : List UInt8) :
  ∃ (x : KC) (ap : Option Addr) (cp : Nat) (ac : Option Addr) (cc : Nat), (mGet es s).getD (.agg #[.string { data := #[] }, .slice none 0 0, .int .i64 0, .slice none 0 0]) = .agg ⟨[.string (bs x.ty), .slice ap x.ps.length cp, .int .i64 x.pl, .slice ac x.fs.length cc]⟩ ∧
   LiM F 1 StR (.slice ap x.ps.length cp) x.ps ∧ LiM F 3 FdR (.slice ac x.fs.length cc) x.fs ∧ (findC cl s = some x ∨ findC cl s = none ∧ x = zKC) ∧ (mGet es s).isSome = (findC cl s).isSome := by
 rcases hm.get s with ⟨x, cs, h1, h2, v, u, rfl, h3, h4⟩ | ⟨h1, h2⟩
 ·have h3c := h3
  have h4c := h4
  obtain ⟨ap, cp, rfl, -, -⟩ := h3c
  obtain ⟨ac, cc, rfl, -, -⟩ := h4c
  exact ⟨x, ap, cp, ac, cc, by rw [h2]; rfl, h3, h4, .inl h1, by rw [h2]; unfold findC; rw [h1]; rfl⟩
 ·exact ⟨zKC, none, 0, none, 0, by rw [h2]; rfl, LiM.nil _ _ _, LiM.nil _ _ _, .inr ⟨h1, rfl⟩, by rw [h2]; unfold findC; rw [h1]; rfl⟩
def zRD : RD := ⟨0, 0, false, false, [], []⟩
theorem get_rd {F : Heap} {es : List (List UInt8 × Value)} {rl : List RD} (hm : MapM F RdR RD.nm es rl) (s : List UInt8) :
  ∃ (x : RD) (ac : Option Addr) (cc : Nat), (mGet es s).getD (.agg #[.int .i64 0, .int .i64 0, .bool false, .bool false, .string { data := #[] }, .slice none 0 0]) = .agg ⟨[.int .i64 x.l, .int .i64 x.c, .bool x.pub, .bool x.inp, .string (bs x.nm), .slice ac x.fs.length cc]⟩ ∧
   LiM F 3 FdR (.slice ac x.fs.length cc) x.fs ∧ (findR rl s = some x ∨ findR rl s = none ∧ x = zRD) ∧ (mGet es s).isSome = (findR rl s).isSome := by
 rcases hm.get s with ⟨x, cs, h1, h2, u, rfl, h4⟩ | ⟨h1, h2⟩
 ·have h4c := h4
  obtain ⟨ac, cc, rfl, -, -⟩ := h4c
  exact ⟨x, ac, cc, by rw [h2]; rfl, h4, .inl h1, by rw [h2]; unfold findR; rw [h1]; rfl⟩
 ·exact ⟨zRD, none, 0, by rw [h2]; rfl, LiM.nil _ _ _, .inr ⟨h1, rfl⟩, by rw [h2]; unfold findR; rw [h1]; rfl⟩
theorem some_of {α : Type} {o : Option α} {x z : α} (h : o = some x ∨ o = none ∧ x = z) (hs : o.isSome = true) : o = some x := by
 rcases h with h | ⟨h, -⟩
 ·exact h
 ·rw [h] at hs; cases hs
theorem none_of {α : Type} {o : Option α} (hs : o.isSome = false) : o = none := by cases o with | none => rfl | some x => cases hs
theorem zzDeK0 {p : Prop} (h : p := by (first | (have hz : exprsE css l = 0 := (by rw [hfe, Rose.drop_len (by omega)]; rfl); rw [hz]; exact errV_0) | (have h9 := hz1; have hne : exprsE css x.2 ≠ 0 := (by first | assumption | simpa using h); have e9 : exprsE css l = exprsE css x.2 := (by rw [hfe, Rose.drop_get hx, exprsE_cons, if_neg (fun h => h hz1), if_pos hne]); rw [e9]; exact hv) | (have hz1 : exprE css x.1 x.2.len = 63 := exprE_none (by omega) (none_of (by assumption)); have e9 : exprsE css l = 63 := (by rw [hfe, Rose.drop_get hx, exprsE_cons, hz1]; rfl); rw [e9]; exact errV_of (by decide)) | (have hz1 : exprE css x.1 x.2.len = 70 := (by rw [exprE_some (by omega) (some_of hy (by assumption)), if_pos (by omega)]); have e9 : exprsE css l = 70 := (by rw [hfe, Rose.drop_get hx, exprsE_cons, hz1]; rfl); rw [e9]; exact errV_of (by decide)) | trace_state)) : p := h
theorem zzDeK1 {p : Prop} (h : p := by (rw [← hao] at S; (first | (replace S := S.drop1.drop1) | (replace S := S.drop1)); have hz2 : exprsE css x.2 = 0 := (by first | assumption | omega | (simp_all; done)); refine ⟨l.len - (k + 1), by omega, k + 1, rfl, by omega, by rw [hfe, Rose.drop_get hx, exprsE_cons, if_neg (fun h => h hz1), if_neg (fun h => h hz2)], ?_⟩; refine S.keep ?_; exact zk)) : p := h
theorem exprsCt (F : Heap) (tb m1 m2 m3 : Nat) (ts : List TD) (css : List KC) (rs : List RD) (hT : TabS F tb m1 m2 m3 ts css rs) : ∀ (n : Nat) (l : Ef) (v : Value), l.size ≤ n → TrS F 9 EhR v l →
  Ct Tryz.prog 143 [.pointer (some ⟨tb, 0, none⟩), v] F [] (fun _ _ u => ErrV (exprsE css l) u) := by
 intro n
 induction n using Nat.strongRecOn with
 | _ n ih =>
 intro l v hn h
 obtain ⟨ao, cap, rfl, hcap, hpos⟩ := h
 have hcc : Cel F tb 1 (.map (some m2)) := hT.c 1 _ rfl
 obtain ⟨es, hes, hm⟩ := hT.k
 refine Ct.enter Tryz.func143 rfl Tryz.ntmps143 rfl fun w0 a S => ?_
 (revert S a; refine go 12 ?_; intro Z hZ a S)
 refine wpc_loop (fun m a w' => ∃ (k : Nat), m = l.len - k ∧ k ≤ l.len ∧ exprsE css l = exprsE css (l.drop k) ∧ St 56 [(0, ptr tb), (10, .slice ao l.len cap), (11, .int .i64 l.len), (12, .int .i64 k)] w0 F [] F [] a w') ?_ ?_
 ·(refine ⟨l.len, 0, by omega, Nat.zero_le _, rfl, ?_⟩; refine S.keep ?_; exact zk)
 (clear S; rintro m a w ⟨k, rfl, hkl, hfe, S⟩)
 (revert S a; refine go 5 ?_; intro Z hZ a S)
 refine wpc_sp S rfl ?_ ?_ <;> intro h
 ·(revert S a; revert hZ Z; refine go 4 ?_; intro Z hZ a S)
  (refine wp_seq_k ?_; intro Z hZ)
  (obtain ⟨b8, o8, hao, x, cs1, v1, hx, hc1, ⟨w9, rfl, hw9⟩, hT1⟩ := TrM.pos hpos (k := k) (by omega); rw [hao] at S; have hxs := Rose.size_get hx; have hT1c := hT1; obtain ⟨a91, c91, rfl, -⟩ := hT1c; have hw9c := hw9; obtain ⟨a92, c92, rfl, -⟩ := hw9c; (simp only [List.cons_append, List.nil_append] at hc1))
  (revert S a; refine go 3 ?_; intro a S)
  (refine wpl_alloc S rfl rfl rfl rfl ?_; clear S a; intro b6 a w S)
  (refine wso S rfl rfl ?_; clear S; intro w S)
  (revert S a; revert hZ Z; refine go 9 ?_; intro Z hZ a S)
  refine wpc_sp S rfl ?_ ?_ <;> intro h
  ·(refine wp_seq_k ?_; intro Z hZ)
   (refine wpc_mixM [0, 1, 2, 3, 4, 5, 6, 7, 8, 9] [3, 5, 6] [] (.one 0 (.one 1 (.one 2 (.one 3 (.one 4 (.one 5 (.one 6 (.one 7 (.one 8 (.one 9 (.one 10 (.one 11 (.one 12 .nil))))))))))))) [b6] S mixed (by kernel_rfl) ?_; clear S; intro w S)
   (revert S a; refine go 3 ?_; intro a S)
   (refine wlF S rfl (fun w' S => sv_loadF S rfl rfl hcc) ?_; clear S a; intro a S)
   (revert S a; refine go 2 ?_; intro a S)
   (refine wlF S rfl (fun w' S => sv_lookupF (enc := kS) S rfl rfl rfl hes) ?_; clear S a; intro a S)
   (obtain ⟨y, ap, cp, ac, cc, hgd, hps, hfs, hy, his⟩ := get_kc hm x.1.nm; rw [if_pos rfl, hgd, his] at S)
   (revert S a; refine go 4 ?_; intro a S)
   (refine wpl_alloc S rfl rfl rfl rfl ?_; clear S a; intro b7 a w S)
   (revert S a; refine go 2 ?_; intro a S)
   (refine wso S rfl rfl ?_; clear S; intro w S)
   (revert S a; revert hZ Z; refine go 13 ?_; intro a S)
   refine wpc_sp S rfl ?_ ?_ <;> intro h
   ·(revert S a; refine go 8 ?_; intro a S)
    refine wp_ret (fr1 S Tryz.results143 ?_)
    exact zzDeK0
   (revert S a; refine go 11 ?_; intro a S)
   refine wpc_sp S rfl ?_ ?_ <;> intro h
   ·(revert S a; refine go 8 ?_; intro a S)
    refine wp_ret (fr1 S Tryz.results143 ?_)
    exact zzDeK0
   (revert S a; revert hZ Z; refine go 2 ?_; intro a S)
   (refine wp_seq_k ?_; intro Z hZ)
   (have hz1 : exprE css x.1 x.2.len = 0 := (by first | (exact exprE_no (by omega)) | (rw [exprE_some (by omega) (some_of hy (by assumption)), if_neg (by omega)])))
   (revert S a; refine go 4 ?_; intro a S)
   (refine wc0 S (ih x.2.size (by omega) x.2 _ (Nat.le_refl _) hT1) ?_; clear S a; intro v9 a w hv S)
   (revert S a; revert hZ Z; refine go 5 ?_; intro Z hZ a S)
   (refine wv S (sv_neErr S rfl rfl hv) ?_; clear S a; intro a S)
   (revert S a; revert hZ Z; refine go 2 ?_; intro a S)
   refine wpc_sp S rfl ?_ ?_ <;> intro h
   ·(revert S a; refine go 5 ?_; intro a S)
    refine wp_ret (fr1 S Tryz.results143 ?_)
    exact zzDeK0
   (revert S a; revert hZ Z; refine go 6 ?_; intro a S)
   change ∃ m', _ ∧ _
   exact zzDeK1
  refine wp_skip ?_
  (refine hZ _ _ ?_; clear hZ Z)
  (refine wp_seq_k ?_; intro Z hZ)
  (have hz1 : exprE css x.1 x.2.len = 0 := (by first | (exact exprE_no (by omega)) | (rw [exprE_some (by omega) (some_of hy (by assumption)), if_neg (by omega)])))
  (revert S a; refine go 4 ?_; intro a S)
  (refine wc0 S (ih x.2.size (by omega) x.2 _ (Nat.le_refl _) hT1) ?_; clear S a; intro v9 a w hv S)
  (revert S a; revert hZ Z; refine go 5 ?_; intro Z hZ a S)
  (refine wv S (sv_neErr S rfl rfl hv) ?_; clear S a; intro a S)
  (revert S a; revert hZ Z; refine go 2 ?_; intro a S)
  refine wpc_sp S rfl ?_ ?_ <;> intro h
  ·(revert S a; refine go 5 ?_; intro a S)
   refine wp_ret (fr1 S Tryz.results143 ?_)
   exact zzDeK0
  (revert S a; revert hZ Z; refine go 6 ?_; intro a S)
  change ∃ m', _ ∧ _
  exact zzDeK1
 (refine wp_exit ?_; conv => whnf)
 clear hZ Z
 (revert S a; revert hZ Z; refine go 5 ?_; intro a S)
 refine wp_ret (fr1 S Tryz.results143 ?_)
 exact zzDeK0
end Go.Proofs.YtgefmjghdijbfaaGreatDoor
