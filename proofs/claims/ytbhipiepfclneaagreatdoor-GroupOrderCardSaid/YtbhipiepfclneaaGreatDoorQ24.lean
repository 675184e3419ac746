/- Walks. -/
import Derived.Test.YtbhipiepfclneaaGreatDoorQ23
import Derived.Test.YtbhipiepfclneaaGreatDoorQ15
set_option maxHeartbeats 4000000
namespace Go.Proofs.YtbhipiepfclneaaGreatDoor
open Go Go.Wk Go.Un Go.De Go.Num
set_option linter.unusedSimpArgs false
set_option linter.unusedVariables false
attribute [local irreducible] Go.wpList Go.Code.wp Go.wpStill Go.Wk.wpPre Go.bodyPost Go.Calls Go.Wk.Ct Go.Wk.OwnS Go.Wk.wpG Go.Wk.wpM
theorem cI_bd (a b : Int) : -1 ≤ cI a b ∧ cI a b ≤ 1 := by unfold cI; split <;> (try split) <;> omega
theorem cS_bd (a b : List UInt8) : -1 ≤ cS a b ∧ cS a b ≤ 1 := by unfold cS; split <;> (try split) <;> omega
theorem or2_bd {a b : Int} (h : -1 ≤ a ∧ a ≤ 1) (h2 : -1 ≤ b ∧ b ≤ 1) : -1 ≤ or2 a b ∧ or2 a b ≤ 1 := by unfold or2; split <;> omega
theorem bigC_bd : ∀ (n : Nat) (s t : List UInt8), -1 ≤ bigC n s t ∧ bigC n s t ≤ 1
 | 0, _, _ => (by decide : -1 ≤ (0 : Int) ∧ (0 : Int) ≤ 1)
 | n + 1, s, t => by
  unfold bigC
  split
  ·exact bigC_bd n _ _
  ·split
   ·decide
   ·split
    ·decide
    ·exact or2_bd (cI_bd _ _) (cS_bd _ _)
theorem cmpL_bd : ∀ l m : Vf, -1 ≤ cmpL l m ∧ cmpL l m ≤ 1
 | .nil, .nil => ⟨by decide, by decide⟩
 | .nil, .cons _ _ _ => (by decide : -1 ≤ (-1 : Int) ∧ (-1 : Int) ≤ 1)
 | .cons _ _ _, .nil => (by decide : -1 ≤ (1 : Int) ∧ (1 : Int) ≤ 1)
 | .cons h L r, .cons h2 L2 r2 => by
  rw [cmpL]
  refine or2_bd ?_ (cmpL_bd r r2)
  split
  ·exact cI_bd _ _
  ·split
   ·exact bigC_bd _ _ _
   ·split
    ·exact cS_bd _ _
    ·exact or2_bd (cI_bd _ _) (or2_bd (cS_bd _ _) (cmpL_bd L L2))
theorem cmpV2_bd (x y : Vv) : -1 ≤ cmpV2 x y ∧ cmpV2 x y ≤ 1 := by
 unfold cmpV2
 split
 ·unfold cmpH
  split
  ·exact cI_bd _ _
  ·split
   ·exact bigC_bd _ _ _
   ·split
    ·exact cS_bd _ _
    ·exact or2_bd (cI_bd _ _) (or2_bd (cS_bd _ _) (cmpL_bd _ _))
 ·split
  ·decide
  ·split <;> decide
def sgF (sg : Int) (x y : Vv) : Int := sg * cmpV2 x y
theorem sgF_bd {sg : Int} (h : sg = 1 ∨ sg = -1) (x y : Vv) : -1 ≤ sg * cmpV2 x y ∧ sg * cmpV2 x y ≤ 1 := by
 have := cmpV2_bd x y
 rcases h with rfl | rfl <;> omega
theorem bestCt (F : Heap) (c : Nat) (sg : Int) (hs : sg = 1 ∨ sg = -1) (hc : Cel F c 0 (.int .i64 sg)) (x y : Vv) (cs cs' : List Value) (hx : RoR 4 VhR F x cs) (hy : RoR 4 VhR F y cs') : Ct Tryz.prog 51 ([] ++ [.agg ⟨cs⟩, .agg ⟨cs'⟩] ++ [.pointer (some ⟨c, 0, none⟩)]) F [] (fun _ _ u => u = .int .i64 (sgF sg x y)) := by
 have hcm := cmpUCt F x y cs cs' (ror_vac hx) (ror_vac hy)
 obtain ⟨a1, c1, rfl⟩ := ror_cs hx
 obtain ⟨a2, c2, rfl⟩ := ror_cs hy
 have hbd := sgF_bd hs x y
 refine Ct.enter Tryz.func51 rfl Tryz.ntmps51 rfl fun w0 a S => ?_
 refine wp_sr fun Z hZ => ?_
 (refine wbx S ?_; clear S a; intro b3 a w S)
 (refine wbx S ?_; clear S a; intro b4 a w S)
 (revert S a; revert hZ Z; refine go 3 ?_; intro a S)
 (refine wp_seq_k ?_; intro Z hZ)
 (refine wpc_mixM [0, 1, 2, 4] [0, 1, 2] [] (.one 0 (.one 1 (.one 2 (.one 3 (.one 4 (.one 5 .nil)))))) [b3, b4] S mixed (by kernel_rfl) ?_; clear S; intro w S)
 (revert S a; refine go 4 ?_; intro a S)
 (refine wc0 S (hcm) ?_; clear S a; intro v a w hv S; subst hv)
 refine wpList_nil ?_
 (refine wpm_v S rfl rfl rfl (want_none _ rfl) rfl rfl (fun w' S => sv_mul S rfl rfl rfl (by first | omega | (simp only [List.length_append, List.length_cons, List.length_nil]; omega))) ?_; clear S a; intro a S)
 (revert S a; revert hZ Z; refine go 5 ?_; intro a S)
 refine wp_ret (fr1 S Tryz.results51 ?_)
 rfl
def bestV (c : Nat) : Value := .func (.func 49) ⟨[]⟩ ⟨[.pointer (some ⟨c, 0, none⟩)]⟩
theorem bestsCt (F : Heap) (c : Nat) (sg : Int) (hs : sg = 1 ∨ sg = -1) (hc : Cel F c 0 (.int .i64 sg)) (v : Value) (l : List Vv) (h : LiM F 4 (RoR 4 VhR) v l) (h0 : 0 < l.length) : Ct Tryz.prog 49 ([] ++ [v] ++ [.pointer (some ⟨c, 0, none⟩)]) F [] (fun _ _ u => AggQ F (0, maxF (sgF sg) (l.headD zV) (l.drop 1)) u) := by
 obtain ⟨x0, hx0⟩ : ∃ x, l[0]? = some x := ⟨_, List.getElem?_eq_getElem h0⟩
 have hhd : l.headD zV = x0 := by
  cases l with
  | nil => cases hx0
  | cons y r => cases hx0; rfl
 have hm := maxCt F v l h x0 hx0 51 [] [.pointer (some ⟨c, 0, none⟩)] (sgF sg) (fun x y cs cs' hx hy => bestCt F c sg hs hc x y cs cs' hx hy)
 obtain ⟨ao, cap, rfl, -, -⟩ := h
 rw [hhd]
 generalize maxF (sgF sg) x0 (l.drop 1) = y at hm ⊢
 refine Ct.enter Tryz.func49 rfl Tryz.ntmps49 rfl fun w0 a S => ?_
 refine wp_sr fun Z hZ => ?_
 (refine wpl_alloc S rfl rfl rfl rfl ?_; clear S a; intro b3 a w S)
 (revert S a; revert hZ Z; refine go 6 ?_; intro Z hZ a S)
 (refine wc0 S hm ?_; clear S a; intro v9 a w hv S; obtain ⟨ay, cy, rfl, hRy⟩ := hv)
 (refine wso S rfl rfl ?_; clear S; intro w S)
 (revert S a; revert hZ Z; refine go 3 ?_; intro a S)
 refine wp_ret (fin_ret S (results2 Tryz.results49 (RV.cellO S rfl (by rfl)) (RV.tmp S rfl)) ?_)
 exact ⟨_, _, rfl, hRy⟩
theorem countCt (F : Heap) (v : Value) (l : List Vv) (h : LiM F 4 (RoR 4 VhR) v l) : Ct Tryz.prog 52 [v] F [] (fun _ _ u => AggQ F (0, intV l.length) u) := by
 obtain ⟨ao, cap, rfl, -, -⟩ := h
 refine Ct.enter Tryz.func52 rfl Tryz.ntmps52 rfl fun w0 a S => ?_
 refine wp_sr fun Z hZ => ?_
 (refine wpl_alloc S rfl rfl rfl rfl ?_; clear S a; intro b2 a w S)
 (revert S a; revert hZ Z; refine go 7 ?_; intro Z hZ a S)
 (refine wso S rfl rfl ?_; clear S; intro w S)
 (revert S a; revert hZ Z; refine go 3 ?_; intro a S)
 refine wp_ret (fin_ret S (results2 Tryz.results52 (RV.cellO S rfl (by rfl)) (RV.tmp S rfl)) ?_)
 exact agg_leaf _ 0 2 _ [] (by decide)
theorem mkBestCt (F : Heap) (sg : Int) : Ct Tryz.prog 48 [.int .i64 sg] F [] (fun F' _ u => ∃ c, u = bestV c ∧ Cel F' c 0 (.int .i64 sg)) := by
 refine Ct.enter Tryz.func48 rfl Tryz.ntmps48 rfl fun w0 a S => ?_
 refine wp_sr fun Z hZ => ?_
 (refine wbx S ?_; clear S a; intro b1 a w S)
 (revert S a; revert hZ Z; refine go 8 ?_; intro a S)
 refine wp_ret ?_
 (have S' := frz1 S; clear S; obtain ⟨F1, hF1, hb1, S⟩ := S')
 refine fin_ret S (results1 Tryz.results48 (RV.tmp S rfl)) ?_
 exact ⟨b1, rfl, ⟨_, _, _, hb1, rfl⟩⟩
def sCount : List UInt8 := [99, 111, 117, 110, 116]
def sSum : List UInt8 := [115, 117, 109]
def sMin : List UInt8 := [109, 105, 110]
def sMax : List UInt8 := [109, 97, 120]
def comL (c1 c2 : Nat) : List (List UInt8 × Value) := [(sCount, .func (.func 52) ⟨[]⟩ ⟨[]⟩), (sSum, .func (.func 53) ⟨[]⟩ ⟨[]⟩), (sMin, bestV c1), (sMax, bestV c2)]
def ComM (F : Heap) (b : Nat) : Prop := ∃ c1 c2, F b = some (mObj kS (comL c1 c2)) ∧ Cel F c1 0 (.int .i64 (-1)) ∧ Cel F c2 0 (.int .i64 1)
theorem ComM.mono {F F' : Heap} (hF : ∀ b o, F b = some o → F' b = some o) {b : Nat} (h : ComM F b) : ComM F' b := by
 obtain ⟨c1, c2, h1, h2, h3⟩ := h
 exact ⟨c1, c2, hF _ _ h1, h2.mono hF, h3.mono hF⟩
theorem comesCt (F : Heap) : Ct Tryz.prog 30 [] F [] (fun F' _ u => ∃ b, u = .map (some b) ∧ ComM F' b) := by
 refine Ct.enter Tryz.func30 rfl Tryz.ntmps30 rfl fun w0 a S => ?_
 (revert S a; refine go 9 ?_; intro Z hZ a S)
 (refine wpl_makeMap kS S rfl rfl rfl rfl ?_; clear S a; intro b2 a w S)
 iterate 2 (refine wpl_mapIns (enc := kS) S rfl rfl rfl rfl rfl rfl ?_; clear S; intro w S)
 (revert S a; refine go 1 ?_; intro a S)
 (refine wcF S (mkBestCt _ _) ?_; clear S a; intro v4 F4 a w hv4 hF4 S; obtain ⟨p4, rfl, c4⟩ := hv4)
 (refine wpl_mapIns (enc := kS) S rfl rfl rfl rfl rfl rfl ?_; clear S; intro w S)
 (revert S a; refine go 1 ?_; intro a S)
 (refine wcF S (mkBestCt _ _) ?_; clear S a; intro v6 F6 a w hv6 hF6 S; obtain ⟨p6, rfl, c6⟩ := hv6)
 (refine wpl_mapIns (enc := kS) S rfl rfl rfl rfl rfl rfl ?_; clear S; intro w S)
 (revert S a; revert hZ Z; refine go 4 ?_; intro a S)
 refine wp_ret ?_
 (have S' := frz1 S; clear S; obtain ⟨F7, hF7, hb7, S⟩ := S')
 refine fin_ret S (results1 Tryz.results30 (RV.tmp S rfl)) ?_
 exact ⟨b2, rfl, p4, p6, hb7, (c4.mono hF6).mono hF7, c6.mono hF7⟩
theorem zzGd0 {p : Prop} (h : p := by (rw [hfp]; first | (rw [idxF_at (by omega), if_pos (by simp only [hxd]; assumption)]; done) | (rw [idxF_end (by omega)]; done) | trace_state)) : p := h
theorem ixSCt (F : Heap) (v : Value) (l : List (List UInt8)) (h : LiM F 1 StR v l) (fid : FuncId) (fi ca : List Value) [hfn : HasFn Tryz.prog fid] (p : List UInt8 → Bool)
  (hcl : ∀ s, Ct Tryz.prog fid (fi ++ [.string (bs s)] ++ ca) F [] (fun _ _ u => u = .bool (p s))) :
  Ct Tryz.prog 54 [v, .func (.func fid) ⟨fi⟩ ⟨ca⟩] F [] (fun _ _ u => u = .int .i64 (idxN (fun k => p (l.getD k [])) l.length)) := by
 obtain ⟨ao, cap, rfl, hcap, hpos⟩ := h
 refine Ct.enter Tryz.func54 rfl Tryz.ntmps54 rfl fun w0 a S => ?_
 (revert S a; refine go 12 ?_; intro Z hZ a S)
 refine wpc_loop (fun m a w' => ∃ (k : Nat), m = l.length - k ∧ k ≤ l.length ∧ idxN (fun k => p (l.getD k [])) l.length = idxF (fun k => p (l.getD k [])) k (l.length - k) ∧ St 19 [(0, .slice ao l.length cap), (1, .func (.func fid) ⟨fi⟩ ⟨ca⟩), (7, .int .i64 l.length), (8, .int .i64 k)] w0 F [] F [] a w') ?_ ?_
 ·(refine ⟨l.length, 0, by omega, Nat.zero_le _, rfl, ?_⟩; refine S.keep ?_; exact zk)
 (clear S; rintro m a w ⟨k, rfl, hkl, hfp, S⟩)
 (revert S a; refine go 5 ?_; intro Z hZ a S)
 refine wpc_sp S rfl ?_ ?_ <;> intro h
 ·(revert S a; revert hZ Z; refine go 9 ?_; intro Z hZ a S)
  (refine wp_seq_k ?_; intro Z hZ)
  (obtain ⟨b8, o8, rfl, x, cs1, hx, hcc, hR1⟩ := LiM.pos hpos (k := k) (by omega); obtain rfl : cs1 = _ := hR1; have hxd : l.getD k [] = x := (by rw [List.getD_eq_getElem?_getD, hx]; rfl); have hc1 : Cel F b8 (o8 + k * 1) (.string (bs x)) := hcc 0 _ rfl)
  (revert S a; refine go 5 ?_; intro a S)
  (refine wv S (sv_loadF S rfl rfl hc1) ?_; clear S a; intro a S)
  (refine wc0 S (hcl x) ?_; clear S a; intro v a w hv S; subst hv)
  (revert S a; revert hZ Z; refine go 2 ?_; intro a S)
  refine wpc_sp S rfl ?_ ?_ <;> intro h
  ·(revert S a; refine go 5 ?_; intro a S)
   refine wp_ret (fr1 S Tryz.results54 ?_)
   exact zzGd0
  (revert S a; revert hZ Z; refine go 6 ?_; intro a S)
  change ∃ m', _ ∧ _
  (refine ⟨l.length - (k + 1), by omega, k + 1, rfl, by omega, ?_, ?_⟩; rotate_left 1; (refine S.keep ?_; exact zk); rw [hfp, idxF_at (by omega), if_neg (by simp only [hxd]; rw [(by assumption : p x = false)]; decide)])
 (refine wp_exit ?_; conv => whnf)
 clear hZ Z
 (revert S a; revert hZ Z; refine go 5 ?_; intro a S)
 refine wp_ret (fr1 S Tryz.results54 ?_)
 exact zzGd0
theorem cfSCt (F : Heap) (v : Value) (l : List (List UInt8)) (h : LiM F 1 StR v l) (fid : FuncId) (fi ca : List Value) [hfn : HasFn Tryz.prog fid] (p : List UInt8 → Bool)
  (hcl : ∀ s, Ct Tryz.prog fid (fi ++ [.string (bs s)] ++ ca) F [] (fun _ _ u => u = .bool (p s))) :
  Ct Tryz.prog 31 [v, .func (.func fid) ⟨fi⟩ ⟨ca⟩] F [] (fun _ _ u => u = .bool (anyN (fun k => p (l.getD k [])) l.length)) := by
 have hc := ixSCt F v l h fid fi ca p hcl
 obtain ⟨ao, cap, rfl, hcap, hpos⟩ := h
 refine Ct.enter Tryz.func31 rfl Tryz.ntmps31 rfl fun w0 a S => ?_
 (revert S a; refine go 7 ?_; intro Z hZ a S)
 (refine wc0 S (hc) ?_; clear S a; intro v a w hv S; subst hv)
 (revert S a; revert hZ Z; refine go 4 ?_; intro a S)
 refine wp_ret (fr1 S Tryz.results31 ?_)
 rfl
theorem zzGd1 {p : Prop} (h : p := by (first | (have h9 := hown; rw [List.flatMap_nil, List.nil_append, Nat.zero_add] at hown; exact ⟨_, rfl, hown⟩) | (have hz : l = [] := (by cases l with | nil => rfl | cons x r => (exfalso; obtain ⟨b, o, e, -⟩ := hxp (by simp); have hno : ao.isNone = true := (by assumption); rw [e] at hno; cases hno)); subst hz; exact ⟨[], rfl, OwnS.nil _ _⟩) | trace_state)) : p := h
theorem cloneSCt (F : Heap) (v : Value) (l : List (List UInt8)) (h : LiM F 1 StR v l) (hl : l.length * 16 ≤ 140737488355328) : Ct Tryz.prog 33 [v] F [] (fun _ G' u => ∃ g, G' = [g] ∧ OwnS 9 1 u l.length (strs l) g) := by
 obtain ⟨ao, cap, xs, rfl, hxc, hxp⟩ := h.flat
 have hxe : xs = strs l := by
  clear hxp h
  induction l generalizing xs with
  | nil => exact hxc
  | cons s r ih =>
   obtain ⟨cs, q, rfl, h1, h2, h3⟩ := hxc
   rw [show cs = _ from h2, ih (by simp at hl; omega) _ h3]; rfl
 subst hxe
 have hxl := hxc.len
 have hx1 := hxc.one'
 refine Ct.enter Tryz.func33 rfl Tryz.ntmps33 rfl fun w0 a S => ?_
 (revert S a; refine go 10 ?_; intro Z hZ a S)
 refine wpc_sp S rfl ?_ ?_ <;> intro h
 ·(revert S a; refine go 4 ?_; intro a S)
  refine wp_ret ?_
  (first | (have h9 := hown; skip) | (replace S := S.nilg))
  refine fin_ret S (results1 Tryz.results33 (RV.tmp S rfl)) ?_
  exact zzGd1
 (revert S a; revert hZ Z; refine go 3 ?_; intro Z hZ a S)
 (refine wpl_buildSlice S rfl rfl rfl rfl rfl rfl (by rfl) (by simp [Value.cells, splice, splice]) rfl (by rfl) (by rfl) ?_; clear S a; intro b5 a w hown S)
 (revert S a; refine go 1 ?_; intro a S)
 (refine wpl_appendSl S rfl rfl rfl rfl rfl rfl hown (by rfl) hxl hxp hx1 (by omega) (by omega) ?_; clear hown S a; intro v g a w hown S)
 (revert S a; revert hZ Z; refine go 3 ?_; intro a S)
 refine wp_ret ?_
 (first | (have h9 := hown; skip) | (replace S := S.nilg))
 refine fin_ret S (results1 Tryz.results33 (RV.tmp S rfl)) ?_
 exact zzGd1
def knownS (s : List UInt8) : Bool := decide (s = sCount ∨ s = sSum ∨ s = sMin ∨ s = sMax)
theorem com_get (c1 c2 : Nat) (s : List UInt8) : isFn ((mGet (comL c1 c2) s).getD .nilFunc) = true ∧ isNilF ((mGet (comL c1 c2) s).getD .nilFunc) = !knownS s := by
 unfold mGet comL knownS
 simp only [List.find?_cons, List.find?_nil]
 by_cases h1 : s = sCount
 ·subst h1; exact ⟨rfl, rfl⟩
 ·by_cases h2 : s = sSum
  ·subst h2; exact ⟨rfl, rfl⟩
  ·by_cases h3 : s = sMin
   ·subst h3; exact ⟨rfl, rfl⟩
   ·by_cases h4 : s = sMax
    ·subst h4; exact ⟨rfl, rfl⟩
    ·simp [h1, h2, h3, h4, isFn, isNilF]
theorem new1Ct (F : Heap) (b bk : Nat) (hb : Cel F b 0 (.map (some bk))) (hk : ComM F bk) (s : List UInt8) : Ct Tryz.prog 32 ([] ++ [.string (bs s)] ++ [.pointer (some ⟨b, 0, none⟩)]) F [] (fun _ _ u => u = .bool (!knownS s)) := by
 obtain ⟨c1, c2, hm, -, -⟩ := hk
 obtain ⟨hg1, hg2⟩ := com_get c1 c2 s
 refine Ct.enter Tryz.func32 rfl Tryz.ntmps32 rfl fun w0 a S => ?_
 (revert S a; refine go 7 ?_; intro Z hZ a S)
 (refine wv S (sv_lookupF (enc := kS) (k := s) S rfl rfl rfl hm) ?_; clear S a; intro a S)
 (refine wv S (sv_eqFnNil S rfl rfl rfl hg1) ?_; clear S a; intro a S)
 (revert S a; revert hZ Z; refine go 3 ?_; intro a S)
 refine wp_ret (fr1 S Tryz.results32 ?_)
 exact congrArg _ hg2
def newG (l : List (List UInt8)) : Int := if l.all knownS = false then 1 else if 8 < l.length then 3 else 0
theorem any_all {l : List (List UInt8)} : anyN (fun k => !knownS (l.getD k [])) l.length = !(l.all knownS) := by
 rw [anyN_list (q := fun s => !knownS s) (fun k x hx => by rw [List.getD_eq_getElem?_getD, hx]; rfl), List.not_all_eq_any_not]
structure Ev where
  kv : Value
  b : Nat
  ws : List (List UInt8 × Value)
def evV (e : Ev) : Value := .agg ⟨[e.kv, .map (some e.b)]⟩
abbrev Gv := List (List UInt8 × Ev)
def gvM (x : Gv) : List (List UInt8 × Value) := x.map fun p => (p.1, evV p.2)
def WaS : Gv → Grp → Prop
 | [], [] => True
 | (_, e) :: r, (b, o) :: g => b = e.b ∧ MpO kS e.ws o ∧ WaS r g
 | _, _ => False
def GsS (bg : Nat) (av : Value) (x : Gv) (g : Grp) : Prop := ∃ bm om gw, g = (bg, .cells ⟨[av, .map (some bm)]⟩ 75 (0, 0)) :: (bm, om) :: gw ∧ MpO kS (gvM x) om ∧ WaS x gw
def NewQ (l : List (List UInt8)) (G' : List Grp) (u : Value) : Prop :=
 (newG l ≠ 0 ∧ u = .tuple ⟨[.pointer none, .int .i64 (newG l)]⟩) ∨ (newG l = 0 ∧ ∃ b av gg ga, u = .tuple ⟨[.pointer (some ⟨b, 0, none⟩), .int .i64 0]⟩ ∧ G' = [gg, ga] ∧ GsS b av [] gg ∧ LiM (gh ga) 1 StR av l)
theorem zzGd2 {p : Prop} (h : p := by (first | (have e : newG l = 1 := (by unfold newG; rw [if_pos (by assumption)]); exact .inl ⟨by rw [e]; decide, by rw [e]⟩) | (have hall : l.all knownS = true := (by assumption); first | (have e : newG l = 3 := (by unfold newG; rw [if_neg (by rw [hall]; decide), if_pos (by omega)]); exact .inl ⟨by rw [e]; decide, by rw [e]⟩) | (have e : newG l = 0 := (by unfold newG; rw [if_neg (by rw [hall]; decide), if_neg (by omega)]); exact .inr ⟨e, b16, _, _, _, rfl, rfl, ⟨b14, _, [], rfl, MpO.nil _, trivial⟩, hLg⟩)) | trace_state)) : p := h
theorem newGCt (F : Heap) (v : Value) (l : List (List UInt8)) (hL : LiM F 1 StR v l) (hl : l.length ≤ 1000000) : Ct Tryz.prog 9 [v] F [] (fun _ G' u => NewQ l G' u) := by
 have hcm := comesCt F
 obtain ⟨ao, cap, rfl, -, -⟩ := id hL
 refine Ct.enter Tryz.func9 rfl Tryz.ntmps9 rfl fun w0 a S => ?_
 (revert S a; refine go 6 ?_; intro Z hZ a S)
 (refine wcF S hcm ?_; clear S a; intro u9 F5 a w hv hF5 S; obtain ⟨bk, rfl, hk⟩ := hv)
 (refine wpl_alloc S rfl rfl rfl rfl ?_; clear S a; intro b4 a w S)
 (refine wpl_store1 S rfl rfl rfl rfl rfl rfl (by first | (simp; done) | (simp [Value.cells]; done) | exact Nat.le_of_ble_eq_true rfl) ?_; clear S; intro w S)
 (revert S a; revert hZ Z; refine go 3 ?_; intro Z hZ a S)
 (refine wp_seq_k ?_; intro Z hZ)
 (have S' := frz1 S; clear S; obtain ⟨F4, hF4, hb4, S⟩ := S'; have hc4 : Cel F4 b4 0 (.map (some bk)) := ⟨_, _, _, hb4, rfl⟩; replace hk := hk.mono hF4; have hmm : ∀ b o, F b = some o → F4 b = some o := fun b o h => hF4 _ _ (hF5 _ _ h))
 (revert S a; refine go 3 ?_; intro a S)
 (refine wc0 S (cfSCt F4 _ l (hL.mono hmm) 32 [] [.pointer (some ⟨b4, 0, none⟩)] (fun s => !knownS s) (fun s => new1Ct F4 b4 bk hc4 hk s)) ?_; clear S a; intro v9 a w hv S; subst hv; rw [any_all] at S)
 (revert S a; revert hZ Z; refine go 2 ?_; intro a S)
 refine wpc_sp S rfl ?_ ?_ <;> intro h
 ·(revert S a; refine go 5 ?_; intro a S)
  refine wp_ret ?_
  (first | (replace S := join2 S) | skip)
  refine fin_ret S (results2 Tryz.results9 (RV.tmp S rfl) (RV.tmp S rfl)) ?_
  exact zzGd2
 (revert S a; revert hZ Z; refine go 9 ?_; intro Z hZ a S)
 refine wpc_sp S rfl ?_ ?_ <;> intro h
 ·(revert S a; refine go 5 ?_; intro a S)
  refine wp_ret ?_
  (first | (replace S := join2 S) | skip)
  refine fin_ret S (results2 Tryz.results9 (RV.tmp S rfl) (RV.tmp S rfl)) ?_
  exact zzGd2
 (revert S a; revert hZ Z; refine go 4 ?_; intro Z hZ a S)
 (refine wpl_call (Gs := []) (Gr := []) S rfl rfl rfl rfl rfl rfl (cloneSCt F4 _ l (hL.mono hmm) (by omega)) rfl (by exact List.Perm.refl _) ?_; clear S a; intro vT F6 G9 a w hv hF6 S; obtain ⟨gT, rfl, hown⟩ := hv; have hnd := S.tr.nd; have hLg := LiC.lim (F := gh []) hown (strs_lic _ _) rfl (fun _ _ h => by cases h) (by omega); rw [← gh_append, List.append_nil] at hLg; obtain ⟨aT, cT, rfl, -, -⟩ := id hLg; (simp only [List.append_nil] at S))
 (refine wpl_makeMap kS S rfl rfl rfl rfl ?_; clear S a; intro b14 a w S)
 (revert S a; refine go 1 ?_; intro a S)
 (refine wbx S ?_; clear S a; intro b16 a w S)
 (revert S a; revert hZ Z; refine go 4 ?_; intro a S)
 refine wp_ret ?_
 (first | (replace S := join2 S) | skip)
 refine fin_ret S (results2 Tryz.results9 (RV.tmp S rfl) (RV.tmp S rfl)) ?_
 exact zzGd2
section
variable {β : Type}
def alG : List (List UInt8 × β) → List UInt8 → Option β
 | [], _ => none
 | (a, u) :: r, k => if k = a then some u else alG r k
def alU : List (List UInt8 × β) → List UInt8 → (β → β) → List (List UInt8 × β)
 | [], _, _ => []
 | (a, u) :: r, k, f => if k = a then (a, f u) :: r else (a, u) :: alU r k f
def alD : List (List UInt8 × β) → List UInt8 → List (List UInt8 × β)
 | [], _ => []
 | (a, u) :: r, k => if k = a then r else (a, u) :: alD r k
theorem alG_split : ∀ {x : List (List UInt8 × β)} {k : List UInt8} {e : β}, alG x k = some e → ∃ x1 x2, x = x1 ++ (k, e) :: x2 ∧ (∀ p ∈ x1, p.1 ≠ k) ∧ (∀ f, alU x k f = x1 ++ (k, f e) :: x2) ∧ alD x k = x1 ++ x2
 | [], k, e, h => by cases h
 | (a, u) :: r, k, e, h => by
  unfold alG at h
  by_cases hk : k = a
  ·subst hk
   rw [if_pos rfl] at h
   cases h
   exact ⟨[], r, rfl, (fun p hp => by cases hp), (fun f => by unfold alU; rw [if_pos rfl]; rfl), by unfold alD; rw [if_pos rfl]; rfl⟩
  ·rw [if_neg hk] at h
   obtain ⟨x1, x2, h1, h2, h3, h4⟩ := alG_split h
   refine ⟨(a, u) :: x1, x2, by rw [h1]; rfl, ?_, ?_, ?_⟩
   ·intro p hp
    rcases List.mem_cons.1 hp with rfl | hp
    ·exact Ne.symm hk
    ·exact h2 p hp
   ·intro f; unfold alU; rw [if_neg hk, h3]; rfl
   ·unfold alD; rw [if_neg hk, h4]; rfl
theorem alG_none : ∀ {x : List (List UInt8 × β)} {k : List UInt8}, alG x k = none ↔ ∀ p ∈ x, p.1 ≠ k
 | [], k => ⟨(fun _ p hp => by cases hp), fun _ => rfl⟩
 | (a, u) :: r, k => by
  unfold alG
  by_cases hk : k = a
  ·subst hk; rw [if_pos rfl]; exact ⟨(fun h => by cases h), fun h => absurd rfl (h (k, u) (List.mem_cons_self ..))⟩
  ·rw [if_neg hk, alG_none (x := r)]
   exact ⟨fun h p hp => (List.mem_cons.1 hp).elim (fun e => by rw [e]; exact Ne.symm hk) (h p), fun h p hp => h p (List.mem_cons_of_mem _ hp)⟩
end
theorem mGet_al (x : List (List UInt8 × Value)) (k : List UInt8) : mGet x k = alG x k := by
 induction x with
 | nil => rfl
 | cons p r ih =>
  obtain ⟨a, u⟩ := p
  unfold mGet at ih ⊢
  unfold alG
  rw [List.find?_cons]
  by_cases h : k = a
  ·subst h; simp
  ·simp only [h, decide_false, if_false]; exact ih
theorem alG_map {β γ : Type} (f : β → γ) : ∀ (x : List (List UInt8 × β)) (k : List UInt8), alG (x.map fun p => (p.1, f p.2)) k = (alG x k).map f
 | [], _ => rfl
 | (a, u) :: r, k => by
  show (if k = a then some (f u) else alG (r.map fun p => (p.1, f p.2)) k) = (if k = a then some u else alG r k).map f
  split
  ·rfl
  ·exact alG_map f r k
theorem mGet_gv (x : Gv) (k : List UInt8) : mGet (gvM x) k = (alG x k).map evV := by rw [mGet_al]; exact alG_map evV x k
theorem mDel_al : ∀ (x : List (List UInt8 × Value)) (k : List UInt8), mDel x k = alD x k
 | [], _ => rfl
 | (a, u) :: r, k => by unfold mDel alD; split; rfl; rw [mDel_al r k]
theorem mDel_gv : ∀ (x : Gv) (k : List UInt8), mDel (gvM x) k = gvM (alD x k)
 | [], _ => rfl
 | (a, u) :: r, k => by
  show mDel ((a, evV u) :: gvM r) k = _
  unfold mDel alD
  split
  ·rfl
  ·rw [mDel_gv r k]; rfl
structure RowB (l : Vf) : Prop where
  rg : RgF l
  wt : wtB l ≤ 100000000
  th : ThV l
  ln : l.len * 56 ≤ 140737488355328
structure En where
  key : Vf
  ways : List (List UInt8 × Vf)
abbrev GA := List (List UInt8 × En)
def kAt (l : Vf) (i : Nat) : Nat := match l.get? i with | some x => x.1.k | none => 0
def tyBad (aggs : List (List UInt8)) (args : Vf) (ws : List (List UInt8 × Vf)) (i : Nat) : Bool :=
 decide (aggs.getD i [] = sSum) && (decide (kAt args i ≠ 2 ∧ kAt args i ≠ 3) || (match ws with | [] => false | w :: _ => decide (kAt w.2 i ≠ kAt args i)))
def typeB (aggs : List (List UInt8)) (args : Vf) (ws : List (List UInt8 × Vf)) : Bool := (List.range aggs.length).any (tyBad aggs args ws)
def waysE (x : GA) (k : List UInt8) : List (List UInt8 × Vf) := match alG x k with | none => [] | some e => e.ways
def addE (aggs : List (List UInt8)) (x : GA) (key way args : Vf) : Int :=
 match txtG key, txtG way, txtG args with
 | some k, some w, some _ => if args.len ≠ aggs.length then 1 else if (alG (waysE x k) w).isSome = true then 6 else if typeB aggs args (waysE x k) = true then 70 else 0
 | _, _, _ => 4
def addG (x : GA) (k w : List UInt8) (key args : Vf) : GA := match alG x k with
 | none => x ++ [(k, ⟨key, [(w, args)]⟩)]
 | some _ => alU x k fun e => ⟨e.key, e.ways ++ [(w, args)]⟩
def delE (x : GA) (key way : Vf) : Int :=
 match txtG key, txtG way with
 | some k, some w => if (alG (waysE x k) w).isSome = true then 0 else 5
 | _, _ => 4
def delG (x : GA) (k w : List UInt8) : GA := if alD (waysE x k) w = [] then alD x k else alU x k fun e => ⟨e.key, alD e.ways w⟩
structure EInv (aggs : List (List UInt8)) (k : List UInt8) (e : En) : Prop where
  ne : e.ways ≠ []
  nd : (e.ways.map (·.1)).Nodup
  len : ∀ w ∈ e.ways, w.2.len = aggs.length
  kind : ∀ w ∈ e.ways, ∀ w' ∈ e.ways, ∀ i, aggs.getD i [] = sSum → kAt w.2 i = kAt w'.2 i
  num : ∀ w ∈ e.ways, ∀ i, i < aggs.length → aggs.getD i [] = sSum → kAt w.2 i = 2 ∨ kAt w.2 i = 3
  may : ∀ w ∈ e.ways, (txtG w.2).isSome = true
  row : ∀ w ∈ e.ways, RowB w.2
  key : txtG e.key = some k
  krow : RowB e.key
structure GInv (aggs : List (List UInt8)) (x : GA) : Prop where
  nd : (x.map (·.1)).Nodup
  all : ∀ p ∈ x, EInv aggs p.1 p.2
def WsR (F : Heap) : List (List UInt8 × Vf) → List (List UInt8 × Value) → Prop
 | [], [] => True
 | (t, l) :: r, (t', v) :: r' => t = t' ∧ TrS F 4 VhR v l ∧ WsR F r r'
 | _, _ => False
def GvR (F : Heap) : GA → Gv → Prop
 | [], [] => True
 | (k, e) :: r, (k', e') :: r' => k = k' ∧ TrS F 4 VhR e'.kv e.key ∧ WsR F e.ways e'.ws ∧ GvR F r r'
 | _, _ => False
theorem WsR.mono {F F' : Heap} (hF : ∀ b o, F b = some o → F' b = some o) : ∀ {x : List (List UInt8 × Vf)} {y : List (List UInt8 × Value)}, WsR F x y → WsR F' x y
 | [], [], _ => trivial
 | (_, _) :: _, (_, _) :: _, ⟨h1, h2, h3⟩ => ⟨h1, h2.mono hF, h3.mono hF⟩
theorem GvR.mono {F F' : Heap} (hF : ∀ b o, F b = some o → F' b = some o) : ∀ {x : GA} {y : Gv}, GvR F x y → GvR F' x y
 | [], [], _ => trivial
 | (_, _) :: _, (_, _) :: _, ⟨h1, h2, h3, h4⟩ => ⟨h1, h2.mono hF, h3.mono hF, h4.mono hF⟩
theorem WsR.get {F : Heap} : ∀ {x : List (List UInt8 × Vf)} {y : List (List UInt8 × Value)}, WsR F x y → ∀ k, (alG x k = none ∧ alG y k = none) ∨ ∃ l v, alG x k = some l ∧ alG y k = some v ∧ TrS F 4 VhR v l
 | [], [], _, k => .inl ⟨rfl, rfl⟩
 | (t, l) :: r, (t', v) :: r', ⟨h1, h2, h3⟩, k => by
  subst h1
  unfold alG
  by_cases hk : k = t
  ·rw [if_pos hk, if_pos hk]; exact .inr ⟨l, v, rfl, rfl, h2⟩
  ·rw [if_neg hk, if_neg hk]; exact h3.get k
theorem WsR.mem {F : Heap} : ∀ {x : List (List UInt8 × Vf)} {y : List (List UInt8 × Value)}, WsR F x y → ∀ q ∈ y, ∃ p ∈ x, p.1 = q.1 ∧ TrS F 4 VhR q.2 p.2
 | [], [], _, q, h => by cases h
 | (t, l) :: r, (t', v) :: r', ⟨h1, h2, h3⟩, q, hq => by
  rcases List.mem_cons.1 hq with rfl | hq
  ·exact ⟨(t, l), List.mem_cons_self .., h1, h2⟩
  ·obtain ⟨p, hp, h⟩ := h3.mem q hq
   exact ⟨p, List.mem_cons_of_mem _ hp, h⟩
theorem WsR.len {F : Heap} : ∀ {x : List (List UInt8 × Vf)} {y : List (List UInt8 × Value)}, WsR F x y → x.length = y.length
 | [], [], _ => rfl
 | (t, l) :: r, (t', v) :: r', ⟨_, _, h3⟩ => by simp [h3.len]
theorem WsR.snoc {F : Heap} {t : List UInt8} {l : Vf} {v : Value} (h : TrS F 4 VhR v l) : ∀ {x : List (List UInt8 × Vf)} {y : List (List UInt8 × Value)}, WsR F x y → WsR F (x ++ [(t, l)]) (y ++ [(t, v)])
 | [], [], _ => ⟨rfl, h, trivial⟩
 | (_, _) :: _, (_, _) :: _, ⟨h1, h2, h3⟩ => ⟨h1, h2, WsR.snoc h h3⟩
theorem WsR.del {F : Heap} (t : List UInt8) : ∀ {x : List (List UInt8 × Vf)} {y : List (List UInt8 × Value)}, WsR F x y → WsR F (alD x t) (alD y t)
 | [], [], _ => trivial
 | (a, l) :: r, (a', v) :: r', ⟨h1, h2, h3⟩ => by
  subst h1
  unfold alD
  by_cases hk : t = a
  ·rw [if_pos hk, if_pos hk]; exact h3
  ·rw [if_neg hk, if_neg hk]; exact ⟨rfl, h2, WsR.del t h3⟩
theorem GvR.get {F : Heap} : ∀ {x : GA} {y : Gv}, GvR F x y → ∀ k, (alG x k = none ∧ alG y k = none) ∨ ∃ e e', alG x k = some e ∧ alG y k = some e' ∧ TrS F 4 VhR e'.kv e.key ∧ WsR F e.ways e'.ws
 | [], [], _, k => .inl ⟨rfl, rfl⟩
 | (t, l) :: r, (t', v) :: r', ⟨h1, h2, h3, h4⟩, k => by
  subst h1
  unfold alG
  by_cases hk : k = t
  ·rw [if_pos hk, if_pos hk]; exact .inr ⟨l, v, rfl, rfl, h2, h3⟩
  ·rw [if_neg hk, if_neg hk]; exact h4.get k
theorem GvR.snoc {F : Heap} {t : List UInt8} {e : En} {e' : Ev} (h : TrS F 4 VhR e'.kv e.key) (h2 : WsR F e.ways e'.ws) : ∀ {x : GA} {y : Gv}, GvR F x y → GvR F (x ++ [(t, e)]) (y ++ [(t, e')])
 | [], [], _ => ⟨rfl, h, h2, trivial⟩
 | (_, _) :: _, (_, _) :: _, ⟨h3, h4, h5, h6⟩ => ⟨h3, h4, h5, GvR.snoc h h2 h6⟩
theorem GvR.del {F : Heap} (t : List UInt8) : ∀ {x : GA} {y : Gv}, GvR F x y → GvR F (alD x t) (alD y t)
 | [], [], _ => trivial
 | (a, l) :: r, (a', v) :: r', ⟨h1, h2, h3, h4⟩ => by
  subst h1
  unfold alD
  by_cases hk : t = a
  ·rw [if_pos hk, if_pos hk]; exact h4
  ·rw [if_neg hk, if_neg hk]; exact ⟨rfl, h2, h3, GvR.del t h4⟩
theorem GvR.upd {F : Heap} (t : List UInt8) {f : En → En} {g : Ev → Ev} (h : ∀ e e', alG (β := En) [(t, e)] t = some e → TrS F 4 VhR e'.kv e.key → WsR F e.ways e'.ws → TrS F 4 VhR (g e').kv (f e).key ∧ WsR F (f e).ways (g e').ws) : ∀ {x : GA} {y : Gv}, GvR F x y → GvR F (alU x t f) (alU y t g)
 | [], [], _ => trivial
 | (a, l) :: r, (a', v) :: r', ⟨h1, h2, h3, h4⟩ => by
  subst h1
  unfold alU
  by_cases hk : t = a
  ·rw [if_pos hk, if_pos hk]
   obtain ⟨h5, h6⟩ := h l v (by unfold alG; rw [if_pos rfl]) h2 h3
   exact ⟨rfl, h5, h6, h4⟩
  ·rw [if_neg hk, if_neg hk]; exact ⟨rfl, h2, h3, GvR.upd t h h4⟩
theorem WaS.split : ∀ {x1 : Gv} {k : List UInt8} {e : Ev} {x2 : Gv} {g : Grp}, WaS (x1 ++ (k, e) :: x2) g → ∃ g1 o g2, g = g1 ++ (e.b, o) :: g2 ∧ MpO kS e.ws o ∧ WaS x1 g1 ∧ WaS x2 g2
 | [], k, e, x2, (b, o) :: g, ⟨h1, h2, h3⟩ => ⟨[], o, g, by rw [h1]; rfl, h2, trivial, h3⟩
 | (k1, e1) :: x1, k, e, x2, (b, o) :: g, ⟨h1, h2, h3⟩ => by
  obtain ⟨g1, o', g2, rfl, h5, h6, h7⟩ := WaS.split (x1 := x1) h3
  exact ⟨(b, o) :: g1, o', g2, rfl, h5, ⟨h1, h2, h6⟩, h7⟩
 | [], k, e, x2, [], h => by cases h
 | (k1, e1) :: x1, k, e, x2, [], h => by cases h
theorem WaS.join {k : List UInt8} {e : Ev} {x2 : Gv} {o : Obj} {g2 : Grp} (h2 : MpO kS e.ws o) (h3 : WaS x2 g2) : ∀ {x1 : Gv} {g1 : Grp}, WaS x1 g1 → WaS (x1 ++ (k, e) :: x2) (g1 ++ (e.b, o) :: g2)
 | [], [], _ => ⟨rfl, h2, h3⟩
 | (_, _) :: _, (_, _) :: _, ⟨h4, h5, h6⟩ => ⟨h4, h5, WaS.join h2 h3 h6⟩
theorem WaS.app {x2 : Gv} {g2 : Grp} (h3 : WaS x2 g2) : ∀ {x1 : Gv} {g1 : Grp}, WaS x1 g1 → WaS (x1 ++ x2) (g1 ++ g2)
 | [], [], _ => h3
 | (_, _) :: _, (_, _) :: _, ⟨h4, h5, h6⟩ => ⟨h4, h5, WaS.app h3 h6⟩
end Go.Proofs.YtbhipiepfclneaaGreatDoor
