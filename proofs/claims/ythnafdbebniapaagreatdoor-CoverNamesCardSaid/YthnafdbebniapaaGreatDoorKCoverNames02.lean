/- Walks. -/
import Derived.Test.YthnafdbebniapaaGreatDoorKCoverNames01
import Derived.Test.YthnafdbebniapaaGreatDoorQ38
set_option maxHeartbeats 8000000
set_option maxRecDepth 20000
namespace Go.Proofs.YthnafdbebniapaaGreatDoor
open Go Go.Wk Go.Un Go.De Go.Cv
set_option linter.unusedSimpArgs false
set_option linter.unusedVariables false
attribute [local irreducible] Go.wpList Go.Code.wp Go.wpStill Go.Wk.wpPre Go.bodyPost Go.Calls Go.Wk.Ct Go.Wk.OwnS Go.Wk.wpG Go.Wk.wpM
theorem ct_fst {P : Program} {f : FuncId} {args : List Value} {F : Heap} {G : List Grp} {Q : Heap → List Grp → Value → Prop} (h : Ct P f args F G (fun F' G' u => ∃ A B, G' = A ++ B ∧ Q F' A u)) : Ct P f args F G Q := by
 unfold Ct at h ⊢
 exact fun w hw => (h w hw).mono fun _ _ ⟨v, F', _, h1, h2, A, B, e, h3⟩ => ⟨v, F', A, h1, h2.sub (by rw [e, List.flatten_append]; exact List.sublist_append_left _ _), h3⟩
theorem ct_keepF {P : Program} {f : FuncId} {args : List Value} {F : Heap} {Q : Value → Prop} {R : Heap → Value → Prop} (h : Ct P f args F [] (fun _ _ u => Q u)) (k : ∀ F', (∀ b o, F b = some o → F' b = some o) → ∀ u, Q u → R F' u) : Ct P f args F [] (fun F' _ u => R F' u) := by
 unfold Ct at h ⊢
 exact fun w hw => (h w hw).mono fun _ _ ⟨v, F', G', h1, h2, h3⟩ => ⟨v, F', G', h1, h2, k F' h2.ext v h3⟩
theorem cown1Ct (F : Heap) (h : VH) (L : Vf) (cs : List Value) (h0 : 0 < L.len) (hb : L.len * 56 ≤ 140737488355328) (hth : ThV L) (hV : VaC F cs h L) : Ct Tryz.prog 61 [.agg ⟨cs⟩] F [] (fun F' G' u => ∃ (v : Value) (g : Grp) (xs : List Value), u = .agg ⟨[.int .u8 (h.k : Int), .int .i64 h.n, .string (bs h.s), v]⟩ ∧ G' = [g] ∧ OwnS 26 4 v L.len xs g ∧ LiC F' 4 (RoR 4 VhR) xs (kids L)) := by
 refine ct_fst ?_
 obtain ⟨v0, rfl, hT0, hsb⟩ := hV
 have hK0 := kids_lim hT0
 obtain ⟨ao, cap, rfl, hcap, -⟩ := hT0
 have hkl : (kids L).length = L.len := kids_len L
 refine Ct.enter Tryz.func61 rfl Tryz.ntmps61 rfl fun w0 a S => ?_
 refine wp_sr fun Z hZ => ?_
 (refine wbx S ?_; clear S a; intro b1 a w S)
 (refine wpl_alloc S rfl rfl rfl rfl ?_; clear S a; intro b2 a w S)
 (revert S a; revert hZ Z; refine go 5 ?_; intro Z hZ a S)
 (refine wpl_call (Gs := []) (Gr := [[(b2, _)], [(b1, _)]]) S rfl rfl rfl rfl rfl rfl (cloneVCt F _ _ hK0 (by rw [hkl]; exact hb)) rfl (by exact List.Perm.refl _) ?_; clear S a; intro vT F4 G9 a w hv hF4 S; obtain ⟨gT, xT, rfl, hown, hxT⟩ := hv; rw [hkl] at hown; (simp only [List.singleton_append] at S))
 (revert S a; refine go 1 ?_; intro a S)
 (refine wpl_store1 S rfl rfl rfl rfl rfl hown.oneCell (by first | (simp; done) | (simp [Value.cells]; done) | exact Nat.le_of_ble_eq_true rfl) ?_; clear S; intro w S)
 (revert S a; revert hZ Z; refine go 3 ?_; intro Z hZ a S)
 (refine wp_seq_k ?_; intro Z hZ)
 (have vTat := hown.at; obtain ⟨aT0, cT0, rfl, -, -, -⟩ := vTat)
 (revert S a; revert hZ Z; refine go 8 ?_; intro a S)
 refine wpc_loop (fun m a w' => ∃ (i : Nat) (v : Value) (g : Grp) (xs : List Value) (F3 : Heap), m = L.len - i ∧ i ≤ L.len ∧ (∀ b o, F b = some o → F3 b = some o) ∧ OwnS 26 4 v L.len xs g ∧ LiC F3 4 (RoR 4 VhR) xs (kids L) ∧ St 26 [(1, ptr b1), (2, ptr b2), (10, .int .i64 L.len), (11, .int .i64 i)] w0 F [] F3 (g :: [(b2, .cells ⟨[.int .u8 0, .int .i64 0, .string (bs []), .slice none 0 0]⟩ 26 (0, 0))] :: [(b1, .cells ⟨[.int .u8 (h.k : Int), .int .i64 h.n, .string (bs h.s), v]⟩ 26 (0, 0))] :: []) a w') ?_ ?_
 ·(refine ⟨L.len, 0, _, gT, xT, F4, by omega, Nat.zero_le _, hF4, hown, hxT.mono hF4, ?_⟩; first | (refine S.keep ?_; exact zk) | (replace S : St _ _ _ _ _ F4 [gT, _, _] _ _ := St.permI S 3 rfl [1, 2, 0] (by decide); refine S.keep ?_; exact zk) | (replace S : St _ _ _ _ _ F4 [gT, _, _] _ _ := St.permI S 3 rfl [1, 0, 2] (by decide); refine S.keep ?_; exact zk))
 (clear S hown hxT; rintro m a w ⟨i, v, g, xs, F3, rfl, hil, hF3, hown, hfc, S⟩)
 (revert S a; refine go 5 ?_; intro Z hZ a S)
 refine wpc_sp S rfl ?_ ?_ <;> intro h
 ·(revert S a; revert hZ Z; refine go 4 ?_; intro Z hZ a S)
  (refine wp_seq_k ?_; intro Z hZ)
  (obtain ⟨bT, capT, exT, rfl, rfl, hcq, hcm, hxl, hxe⟩ := ownS_blkN hown (by omega); obtain ⟨x, hx⟩ : ∃ x, (kids L)[i]? = some x := ⟨_, List.getElem?_eq_getElem (by omega)⟩; obtain ⟨xa, cs1, xb, rfl, hxal, hl1, hR1, hla, hlb⟩ := hfc.split hx; have hVx := ror_vac hR1; have hxg := hx; rw [kids_get] at hxg; have hxs := Rose.size_get hxg; obtain ⟨hx56, hxth⟩ := hth.get hxg)
  (revert S a; revert hZ Z; refine go 5 ?_; intro a S)
  (refine wpc_mixM [0, 1, 2, 3, 4, 5, 6, 9] [1, 4] [] (.one 0 (.one 1 (.one 2 (.one 3 (.one 4 (.one 5 (.one 6 (.one 7 (.one 8 (.one 9 (.one 10 .nil))))))))))) [b1] S mixed (by kernel_rfl) ?_; clear S; intro w S)
  (revert S a; refine go 8 ?_; intro a S)
  (refine wv S (sv_loadMid S rfl rfl hxal hl1) ?_; clear S a; intro a S)
  (revert S a; refine go 2 ?_; intro a S)
  (refine wcF S (cownCt x.2.size F3 x.1 x.2 _ (Nat.le_refl _) hx56 hxth hVx) ?_; clear S a; intro u9 F5 a w hv hF5 S; obtain ⟨cs4, rfl, hV4⟩ := hv; have hl4 : cs4.length = 4 := (by obtain ⟨v4, rfl, -⟩ := hV4; rfl); have ho4 := OneC.h (vac_ror hV4); have e9 := cut_mid (cs := cs1) (cs' := cs4) (xb := xb) (ex := exT) hxal; rw [hl1] at e9)
  (revert S a; refine go 3 ?_; intro a S)
  (refine wpl_storeO S rfl rfl rfl rfl rfl (by exact hl4) (by exact ho4) (by rw [Nat.ble_eq]; simp only [List.length_append] at hxl hxe ⊢; omega) ?_; clear S; intro w S; rw [show (Value.agg ⟨cs4⟩).cells.toList = cs4 from rfl, e9] at S)
  (revert S a; revert hZ Z; refine go 7 ?_; intro a S)
  change ∃ m', _ ∧ _
  (refine ⟨L.len - (i + 1), by omega, i + 1, .slice (some ⟨bT, 0, none⟩) L.len capT, _, _, F5, rfl, by omega, fun b o h => hF5 _ _ (hF3 _ _ h), ownS_mkN (b := bT) (cap := capT) (xs := xa ++ cs4 ++ xb) (ex := exT) (by simp only [List.length_append] at hxl ⊢; omega) hcq hcm (by simp only [List.length_append] at hxe ⊢; omega), LiC.join hx (hla.mono hF5) hl4 (vac_ror hV4) (hlb.mono hF5), ?_⟩; refine S.keep ?_; exact zk)
 (refine wp_exit ?_; conv => whnf)
 clear hZ Z
 (revert S a; revert hZ Z; refine go 3 ?_; intro Z hZ a S)
 (refine wpl_storeO S rfl rfl rfl rfl rfl (by rfl) (by simp [Value.cells, Value.oneCell', splice]; exact hown.oneCell) (by rfl) ?_; clear S; intro w S)
 (revert S a; revert hZ Z; refine go 2 ?_; intro a S)
 refine wp_ret (fin_ret S (results1 Tryz.results61 (RV.cellO S rfl (by rfl))) ?_)
 exact ⟨[_], _, rfl, _, _, _, rfl, rfl, hown, hfc⟩
def M1Q (F' : Heap) (G' : List Grp) (u : Value) : Prop := ∃ (v : Value) (g : Grp) (vL : Value) (gL : Grp) (xL : List Value), u = .tuple ⟨[v, .bool true]⟩ ∧ G' = [g, gL] ∧ OwnS 44 5 v 1 [.string (bs [88]), .int .u8 5, .int .i64 0, .string (bs []), vL] g ∧ OwnS 26 4 vL 2 xL gL ∧ LiC F' 4 (RoR 4 VhR) xL (kids pairV)
theorem match1Ct (F : Heap) (v0 : Value) (g0 : Grp) (cs2 : List Value) (hown0 : OwnS 44 5 v0 0 [] g0) (hV : VaC F cs2 pairH pairV) : Ct Tryz.prog 36 [.agg ⟨cX⟩, .agg ⟨cs2⟩, v0] F [g0] M1Q := by
 have hown := hown0
 obtain ⟨av, cv, rfl, hTV, hsv⟩ := vac_sl hV
 obtain ⟨a0, c0, rfl, -⟩ := hown0.at
 refine Ct.enter Tryz.func36 rfl Tryz.ntmps36 rfl fun w0 a S => ?_
 refine wp_sr fun Z hZ => ?_
 (refine wbx S ?_; clear S a; intro b3 a w S)
 (refine wbx S ?_; clear S a; intro b4 a w S)
 (revert S a; revert hZ Z; refine go 12 ?_; intro Z hZ Z hZ a S)
 (refine wv S (sv_lit (c := false) (sv_pure S rfl) (by rfl)) ?_; clear S a; intro a S)
 (revert S a; revert hZ Z; refine go 3 ?_; intro a S)
 refine wpc_false S rfl ?_
 refine wp_sr fun Z hZ => ?_
 (refine wv S (sv_lit (c := false) (sv_pure S rfl) (by rfl)) ?_; clear S a; intro a S)
 (revert S a; revert hZ Z; refine go 3 ?_; intro a S)
 refine wpc_false S rfl ?_
 refine wp_sr fun Z hZ => ?_
 (refine wv S (sv_lit (c := true) (sv_pure S rfl) (by rfl)) ?_; clear S a; intro a S)
 (revert S a; revert hZ Z; refine go 3 ?_; intro a S)
 refine wpc_true S rfl ?_
 (revert S a; refine go 8 ?_; intro Z hZ a S)
 refine wpc_loop (fun m a w' => m = 0 ∧ St 111 [(2, .slice a0 0 c0), (3, ptr b3), (4, ptr b4), (28, .slice a0 0 c0), (29, .int .i64 0), (30, .int .i64 0)] w0 F (keys [g0]) F [[(b4, .cells ⟨[.int .u8 5, .int .i64 0, .string (bs []), .slice av 2 cv]⟩ 26 (0, 0))], [(b3, .cells ⟨cX⟩ 29 (0, 0))], g0] a w') ?_ ?_
 ·(refine ⟨0, rfl, ?_⟩; refine S.keep ?_; exact zk)
 (clear S; rintro m a w ⟨rfl, S⟩)
 refine wp_sr fun Z hZ => ?_
 (refine wv S (sv_lit (c := false) (sv_pure S rfl) (by rfl)) ?_; clear S a; intro a S)
 (revert S a; revert hZ Z; refine go 2 ?_; intro a S)
 (refine wp_seq_k ?_; intro Z hZ)
 refine wpc_false S rfl ?_
 (refine wp_exit ?_; conv => whnf)
 clear hZ Z
 (refine hZ _ _ ?_; clear hZ Z)
 (refine wp_seq_k ?_; intro Z hZ)
 (refine wpc_mixM [0, 1, 2, 3, 5] [2, 3] [] (.one 0 (.one 1 (.one 2 (.one 3 (.one 4 (.one 5 (.one 6 (.one 7 (.one 8 (.one 9 .nil)))))))))) [b3, b4] S mixed (by kernel_rfl) ?_; clear S; intro w S)
 (revert S a; refine go 5 ?_; intro a S)
 (refine wpl_call (Gs := []) (Gr := [[(b4, _)], [(b3, _)], g0]) S rfl rfl rfl rfl rfl rfl (cown1Ct F pairH pairV _ (by decide) (by decide) (by exact ⟨by decide, trivial, by decide, trivial, trivial⟩) hV) rfl (by exact List.Perm.refl _) ?_; clear S a; intro u9 F5 G9 a w hv hF5 S; obtain ⟨v4, g4, x4, rfl, rfl, hown4, hl4⟩ := hv; obtain ⟨a4, c4, rfl, -⟩ := hown4.at; (simp only [List.singleton_append] at S))
 (revert S a; refine go 3 ?_; intro a S)
 (refine wpl_buildSlice S rfl rfl rfl rfl rfl rfl (by rfl) (by simp [Value.cells, splice, splice]) rfl (by rfl) (by rfl) ?_; clear S a; intro b52 a w hown2 S)
 (revert S a; refine go 2 ?_; intro a S)
 (refine wpl_appendOwn S rfl rfl rfl rfl rfl rfl hown hown2 (by rfl) (by simp [Value.cells, Value.oneCell', splice, splice]) (by omega) (by omega) ?_; clear hown S a; intro v g a w hown S)
 (revert S a; revert hZ Z; refine go 9 ?_; intro a S)
 refine wp_ret ?_
 (replace S : St _ _ _ _ _ F5 [g, g4, _, _] _ _ := St.permI S 4 rfl [3, 0, 1, 2] (by decide); replace S := cDrop (A := [g, g4]) S)
 refine fin_ret S (results2 Tryz.results36 (RV.tmp S rfl) (RV.tmp S rfl)) ?_
 exact ⟨_, _, _, _, _, rfl, rfl, hown, hown4, hl4⟩
theorem ex_pz : patZ xE .nil = true := by kernel_rfl
theorem ex_cv : checkV pairH pairV = 0 := by kernel_rfl
theorem Match1Ct (F : Heap) (hM : MaxF F) (cs2 : List Value) (hV : VaC F cs2 pairH pairV) : Ct Tryz.prog 13 [.agg ⟨cX⟩, .agg ⟨cs2⟩, .slice none 0 0] F [] M1Q := by
 have h1 := (PatternCt F xE .nil cX hM bnd_x trivial (px_one (h := xE) rfl)).mono fun _ _ _ h => h.trans (congrArg Value.bool ex_pz)
 have h2 := (checkUCt F pairH pairV cs2 hV).mono fun _ _ _ h => h.trans (congrArg (Value.int .i64) ex_cv)
 have h3 := cloneBCt F (.slice none 0 0) [] (LiM.nil _ _ _) (Nat.zero_le _)
 obtain ⟨av, cv, rfl, -, -⟩ := vac_sl hV
 refine Ct.enter Tryz.func13 rfl Tryz.ntmps13 rfl fun w0 a S => ?_
 refine wp_sr fun Z hZ => ?_
 (refine wbx S ?_; clear S a; intro b3 a w S)
 (refine wbx S ?_; clear S a; intro b4 a w S)
 (revert S a; revert hZ Z; refine go 7 ?_; intro Z hZ Z hZ a S)
 (refine wc0 S (h1) ?_; clear S a; intro v a w hv S; subst hv)
 (refine wv S (sv_lit (c := false) (sv_pure S rfl) (by rfl)) ?_; clear S a; intro a S)
 (revert S a; refine go 4 ?_; intro a S)
 (refine wc0 S (h2) ?_; clear S a; intro v a w hv S; subst hv)
 refine wpl_take S rfl rfl rfl ?_
 iterate 2 (refine wv S (sv_lit (c := false) (sv_pure S rfl) (by rfl)) ?_; clear S a; intro a S)
 (revert S a; revert hZ Z; refine go 2 ?_; intro a S)
 refine wpc_false S rfl ?_
 refine wp_skip ?_
 (refine hZ _ _ ?_; clear hZ Z)
 (refine wp_seq_k ?_; intro Z hZ)
 (refine wpc_mixM [0, 1, 2, 5, 6, 7] [0, 1] [] (.one 0 (.one 1 (.one 2 (.one 3 (.one 4 (.one 5 (.one 6 (.one 7 (.one 8 (.one 9 .nil)))))))))) [b3, b4] S mixed (by kernel_rfl) ?_; clear S; intro w S)
 (revert S a; refine go 4 ?_; intro a S)
 (refine wpl_call (Gs := []) (Gr := [[(b4, _)], [(b3, _)]]) S rfl rfl rfl rfl rfl rfl h3 rfl (by exact List.Perm.refl _) ?_; clear S a; intro vT F4 G9 a w hv hF4 S; obtain ⟨gT, xT, rfl, hown, hxT⟩ := hv; obtain rfl : xT = [] := hxT; (simp only [List.singleton_append] at S))
 (revert S a; refine go 2 ?_; intro a S)
 (refine wpl_call (Gs := [gT]) (Gr := [[(b4, _)], [(b3, _)]]) S rfl rfl rfl rfl rfl rfl (match1Ct F4 _ gT _ hown (hV.mono hF4)) rfl permG1 ?_; clear S a; intro u9 F5 G5 a w hv hF5 S; obtain ⟨v9, g9, vL, gL, xL, rfl, rfl, hown9, hownL, hl9⟩ := hv; (simp only [List.cons_append, List.nil_append] at S))
 (revert S a; revert hZ Z; refine go 15 ?_; intro Z hZ Z hZ a S)
 (refine wv S (sv_lit (c := false) (sv_pure S rfl) (by rfl)) ?_; clear S a; intro a S)
 (revert S a; revert hZ Z; refine go 2 ?_; intro a S)
 refine wpc_false S rfl ?_
 (revert S a; revert hZ Z; refine go 8 ?_; intro a S)
 refine wp_ret ?_
 (replace S := cDrop (A := [g9, gL]) S)
 refine fin_ret S (results2 Tryz.results13 (RV.tmp S rfl) (RV.tmp S rfl)) ?_
 exact ⟨_, _, _, _, _, rfl, rfl, hown9, hownL, hl9⟩
def sNil : List UInt8 := [110, 105, 108]
abbrev gNil : Ef := E1 (mE sNil) .nil
def tInts : Fo := .cons [108, 105, 115, 116] (.cons sInt .nil .nil) .nil
def tInt2 : Fo := .cons sInt .nil (.cons sInt .nil .nil)
def tVar : Fo := .cons [39, 97] .nil .nil
def rows1 : List Ef := [gNil, gC (E2 anyE .nil anyE .nil)]
def rows2 : List Ef := [gNil, gC (E2 (nE 1) .nil anyE .nil)]
def rows3 : List Ef := [gNil, gC (E2 anyE .nil (mE sNil) .nil), gC (E2 (nE 1) .nil (mE sNil) .nil)]
def rows4 : List Ef := [E2 (nE 1) .nil anyE .nil, E2 anyE .nil (nE 1) .nil]
def rows9 : List Ef := [E1 (nE 1) .nil]
def rows11 : List Ef := [gC L2]
def rows12 : List Ef := [E2 anyE .nil anyE .nil]
def okE : Ef → Bool
 | .nil => true
 | .cons h L r => (decide (h.nm.length ≤ 1000) && decide (h.v.s.length ≤ 1000)) && (decide (-1000 ≤ h.v.n) && decide (h.v.n ≤ 1000)) && okE L && okE r
theorem okE_b : ∀ {l : Ef}, okE l = true → BndL l ∧ RgL l
 | .nil, _ => ⟨trivial, trivial⟩
 | .cons h L r, e => by
  simp only [okE, Bool.and_eq_true, decide_eq_true_eq] at e
  obtain ⟨⟨⟨⟨a, b⟩, c, d⟩, e1⟩, e2⟩ := e
  obtain ⟨p1, p2⟩ := okE_b e1
  obtain ⟨q1, q2⟩ := okE_b e2
  exact ⟨⟨⟨by omega, by omega⟩, p1, q1⟩, ⟨by omega, by omega⟩, p2, q2⟩
theorem rb_ok {rows : List Ef} (h : rows.all okE = true) : RowsB rows := fun r hr => okE_b (List.all_eq_true.1 h r hr)
theorem co_1 : chkE [listTD] (tysOf tInts) rows1 = 0 := by kernel_rfl
theorem cv_1 : covC [listTD] (tysOf tInts) rows1 = true := by kernel_rfl
theorem co_2 : chkE [listTD] (tysOf tInts) rows2 = 0 := by kernel_rfl
theorem cv_2 : covC [listTD] (tysOf tInts) rows2 = false := by kernel_rfl
theorem co_3 : chkE [listTD] (tysOf tInts) rows3 = 0 := by kernel_rfl
theorem us_3 : uslC [listTD] (tysOf tInts) rows3 = [2] := by kernel_rfl
theorem co_4 : chkE [listTD] (tysOf tInt2) rows4 = 0 := by kernel_rfl
theorem cv_4 : covC [listTD] (tysOf tInt2) rows4 = false := by kernel_rfl
theorem co_5 : chkE [listTD] (tysOf .nil) [.nil] = 0 := by kernel_rfl
theorem cv_5 : covC [listTD] (tysOf .nil) [.nil] = true := by kernel_rfl
theorem co_6 : chkE [listTD] (tysOf .nil) [] = 0 := by kernel_rfl
theorem cv_6 : covC [listTD] (tysOf .nil) [] = false := by kernel_rfl
theorem co_7 : chkE [listTD] (tysOf .nil) [.nil, .nil] = 0 := by kernel_rfl
theorem us_7 : uslC [listTD] (tysOf .nil) [.nil, .nil] = [1] := by kernel_rfl
theorem co_9 : chkE [listTD] (tysOf tInts) rows9 = 70 := by kernel_rfl
theorem co_10 : chkE [listTD] (tysOf tVar) [] = 70 := by kernel_rfl
theorem co_11 : chkE [listTD] (tysOf tInts) rows11 = 74 := by kernel_rfl
theorem co_12 : chkE [listTD] (tysOf tInts) rows12 = 70 := by kernel_rfl
end Go.Proofs.YthnafdbebniapaaGreatDoor
