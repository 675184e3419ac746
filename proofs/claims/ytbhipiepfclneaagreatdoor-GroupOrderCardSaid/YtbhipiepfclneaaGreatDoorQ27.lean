/- Walks. -/
import Derived.Test.YtbhipiepfclneaaGreatDoorQ26
import Derived.Test.YtbhipiepfclneaaGreatDoorQ25
set_option maxHeartbeats 16000000
set_option maxRecDepth 20000
namespace Go.Proofs.YtbhipiepfclneaaGreatDoor
open Go Go.Wk Go.Un Go.De Go.Num
set_option linter.unusedSimpArgs false
set_option linter.unusedVariables false
attribute [local irreducible] Go.wpList Go.Code.wp Go.wpStill Go.Wk.wpPre Go.bodyPost Go.Calls Go.Wk.Ct Go.Wk.OwnS Go.Wk.wpG Go.Wk.wpM
def colV (ws : List (List UInt8 × Vf)) (i : Nat) : List Vv := ws.map fun p => (p.2.get? i).getD zV
def rowA (aggs : List (List UInt8)) (ws : List (List UInt8 × Vf)) (i : Nat) : Int × Vv := aggO (aggs.getD i []) (colV ws i)
theorem txt_may : ∀ {l : Vf}, (txtG l).isSome = true → ∀ {k : Nat} {x : Vv}, l.get? k = some x → mayV x = true
 | .cons h L r, hs, k, x, hx => by
  unfold txtG at hs
  by_cases hc : checkV h L = 0
  ·rw [if_pos hc] at hs
   have hs2 : (txtG r).isSome = true := by cases hr : txtG r with | none => rw [hr] at hs; cases hs | some _ => rfl
   cases k with
   | zero => cases hx; exact decide_eq_true hc
   | succ k => exact txt_may hs2 (k := k) hx
  ·rw [if_neg hc] at hs; cases hs
theorem WsR.split {F : Heap} {p : List UInt8 × Value} {l2 : List (List UInt8 × Value)} : ∀ {l1 : List (List UInt8 × Value)} {x : List (List UInt8 × Vf)}, WsR F x (l1 ++ p :: l2) → ∃ m1 q m2, x = m1 ++ q :: m2 ∧ WsR F m1 l1 ∧ TrS F 4 VhR p.2 q.2 ∧ WsR F m2 l2
 | [], (t, l) :: r, ⟨h1, h2, h3⟩ => ⟨[], (t, l), r, rfl, trivial, h2, h3⟩
 | (a, v) :: l1, (t, l) :: r, ⟨h1, h2, h3⟩ => by
  obtain ⟨m1, q, m2, rfl, h4, h5, h6⟩ := WsR.split (l1 := l1) h3
  exact ⟨(t, l) :: m1, q, m2, rfl, ⟨h1, h2, h4⟩, h5, h6⟩
 | [], [], h => by cases h
 | _ :: _, [], h => by cases h
theorem WsR.app {F : Heap} {l2 : List (List UInt8 × Value)} {m2 : List (List UInt8 × Vf)} (h2 : WsR F m2 l2) : ∀ {l1 : List (List UInt8 × Value)} {m1 : List (List UInt8 × Vf)}, WsR F m1 l1 → WsR F (m1 ++ m2) (l1 ++ l2)
 | [], [], _ => h2
 | (_, _) :: _, (_, _) :: _, ⟨a, b, c⟩ => ⟨a, b, WsR.app h2 c⟩
theorem agg_call (F : Heap) (hT : TabF F) (hE : ErrF F) (c1 c2 : Nat) (h1 : Cel F c1 0 (.int .i64 (-1))) (h2 : Cel F c2 0 (.int .i64 1)) (s : List UInt8) (hs : knownS s = true) (v : Value) (l : List Vv) (hv : LiM F 4 (RoR 4 VhR) v l) (h0 : 0 < l.length) (hl : l.length ≤ 1000000000) (hn : s = sSum → ∀ x ∈ l, NumOk x) :
  ∃ fid ca, (mGet (comL c1 c2) s).getD .nilFunc = .func (.func fid) ⟨[]⟩ ⟨ca⟩ ∧ HasFn Tryz.prog fid ∧ Ct Tryz.prog fid ([] ++ [v] ++ ca) F [] (fun _ _ u => AggQ F (aggO s l) u) := by
 unfold knownS at hs
 rw [decide_eq_true_eq] at hs
 rcases hs with rfl | rfl | rfl | rfl
 ·refine ⟨52, [], rfl, inferInstance, ?_⟩
  rw [show aggO sCount l = (0, intV l.length) from if_pos rfl]
  exact countCt F v l hv
 ·refine ⟨53, [], rfl, inferInstance, ?_⟩
  rw [show aggO sSum l = sumF l from by unfold aggO; rw [if_neg (by decide), if_pos rfl]]
  exact sumCt F hT hE v l hv h0 (hn rfl) hl
 ·refine ⟨49, [.pointer (some ⟨c1, 0, none⟩)], rfl, inferInstance, ?_⟩
  rw [show aggO sMin l = (0, maxF (sgF (-1)) (l.headD zV) (l.drop 1)) from by unfold aggO; rw [if_neg (by decide), if_neg (by decide), if_pos rfl]]
  exact bestsCt F c1 (-1) (.inr rfl) h1 v l hv h0
 ·refine ⟨49, [.pointer (some ⟨c2, 0, none⟩)], rfl, inferInstance, ?_⟩
  rw [show aggO sMax l = (0, maxF (sgF 1) (l.headD zV) (l.drop 1)) from by unfold aggO; rw [if_neg (by decide), if_neg (by decide), if_neg (by decide)]]
  exact bestsCt F c2 1 (.inl rfl) h2 v l hv h0
def ThX (x : Vv) : Prop := x.2.len * 56 ≤ 140737488355328 ∧ ThV x.2
theorem thx_leaf (h : VH) : ThX (h, .nil) := ⟨Nat.zero_le _, trivial⟩
theorem maxF_mem {c : Vv → Vv → Int} : ∀ (l : List Vv) (m : Vv), maxF c m l = m ∨ maxF c m l ∈ l
 | [], m => .inl rfl
 | x :: r, m => by
  rw [maxF]
  rcases maxF_mem r (if 0 < c x m then x else m) with h | h
  ·rw [h]; split
   ·exact .inr (List.mem_cons_self ..)
   ·exact .inl rfl
  ·exact .inr (List.mem_cons_of_mem _ h)
theorem thx_agg {s : List UInt8} {l : List Vv} (h0 : l ≠ []) (h : ∀ x ∈ l, ThX x) : ThX (aggO s l).2 := by
 have hm : ∀ c : Vv → Vv → Int, ThX (maxF c (l.headD zV) (l.drop 1)) := fun c => by
  cases l with
  | nil => exact absurd rfl h0
  | cons m r =>
   rcases maxF_mem (c := c) r m with e | e
   ·rw [show maxF c ((m :: r).headD zV) ((m :: r).drop 1) = maxF c m r from rfl, e]; exact h m (List.mem_cons_self ..)
   ·exact h _ (List.mem_cons_of_mem _ e)
 unfold aggO
 split
 ·exact thx_leaf _
 ·split
  ·unfold sumF
   split <;> split <;> exact thx_leaf _
  ·split
   ·exact hm _
   ·exact hm _
theorem thv_rose : ∀ {l : List Vv}, (∀ x ∈ l, ThX x) → ThV (roseOf l)
 | [], _ => trivial
 | x :: r, h => ⟨(h x (List.mem_cons_self ..)).1, (h x (List.mem_cons_self ..)).2, thv_rose fun y hy => h y (List.mem_cons_of_mem _ hy)⟩
theorem thx_get {l : Vf} (h : ThV l) {k : Nat} {x : Vv} (hx : l.get? k = some x) : ThX x := h.get hx
def RowQ (aggs : List (List UInt8)) (ws : List (List UInt8 × Vf)) (gg : Grp) (G' : List Grp) (u : Value) : Prop :=
 (∃ i, i < aggs.length ∧ (rowA aggs ws i).1 ≠ 0 ∧ (∀ j, j < i → (rowA aggs ws j).1 = 0) ∧ u = .tuple ⟨[.slice none 0 0, .int .i64 (rowA aggs ws i).1]⟩ ∧ G' = [gg]) ∨
 ((∀ i, i < aggs.length → (rowA aggs ws i).1 = 0) ∧ ∃ v gO, u = .tuple ⟨[v, .int .i64 0]⟩ ∧ G' = [gg, gO] ∧ OwR gO v (roseOf ((List.range aggs.length).map fun i => (rowA aggs ws i).2)))
theorem colV_mid {m1 m2 : List (List UInt8 × Vf)} {q : List UInt8 × Vf} {i : Nat} {x : Vv} {cu l : List Vv} (hx : q.2.get? i = some x) (h : (cu ++ colV (m1 ++ q :: m2) i).Perm l) : ((cu ++ [x]) ++ colV (m1 ++ m2) i).Perm l := by
 refine List.Perm.trans ?_ h
 unfold colV
 rw [List.map_append, List.map_append, List.map_cons, hx, Option.getD_some, List.append_assoc]
 refine List.Perm.append_left _ ?_
 rw [List.singleton_append]
 exact List.perm_middle.symm
theorem range_snoc {α : Type} (f : Nat → α) (n : Nat) : (List.range (n + 1)).map f = (List.range n).map f ++ [f n] := by rw [List.range_succ, List.map_append]; rfl
theorem knownS_at {aggs : List (List UInt8)} {i : Nat} {s : List UInt8} (h : aggs.all knownS = true) (hx : aggs[i]? = some s) : knownS s = true := List.all_eq_true.1 h s (List.mem_of_getElem? hx)
theorem col_at {aggs : List (List UInt8)} {k : List UInt8} {en : En} (hI : EInv aggs k en) {i : Nat} (hi : i < aggs.length) : ∀ x ∈ colV en.ways i, ∃ w ∈ en.ways, w.2.get? i = some x := by
 intro x hx
 obtain ⟨w, hw, rfl⟩ := List.mem_map.1 hx
 obtain ⟨y, hy⟩ := Rose.get_lt (l := w.2) (k := i) (by rw [hI.len w hw]; exact hi)
 exact ⟨w, hw, by rw [hy]; rfl⟩
theorem col_may {aggs : List (List UInt8)} {k : List UInt8} {en : En} (hI : EInv aggs k en) {i : Nat} (hi : i < aggs.length) : ∀ x ∈ colV en.ways i, mayV x = true := fun x hx => by
 obtain ⟨w, hw, h⟩ := col_at hI hi x hx
 exact txt_may (hI.may w hw) h
theorem col_th {aggs : List (List UInt8)} {k : List UInt8} {en : En} (hI : EInv aggs k en) {i : Nat} (hi : i < aggs.length) : ∀ x ∈ colV en.ways i, ThX x := fun x hx => by
 obtain ⟨w, hw, h⟩ := col_at hI hi x hx
 exact thx_get (hI.row w hw).th h
theorem col_num {aggs : List (List UInt8)} {k : List UInt8} {en : En} (hI : EInv aggs k en) {i : Nat} (hi : i < aggs.length) (hs : aggs.getD i [] = sSum) : ∀ x ∈ colV en.ways i, NumOk x := fun x hx => by
 obtain ⟨w, hw, h⟩ := col_at hI hi x hx
 have h1 := hI.num w hw i hi hs
 rw [kAt_of h] at h1
 have h2 := (((hI.row w hw).rg).get h).1
 have h3 := txt_may (hI.may w hw) h
 rcases h1 with h1 | h1
 ·exact .inl ⟨h1, h2⟩
 ·refine .inr ⟨h1, ?_⟩
  unfold mayV at h3
  rw [decide_eq_true_eq] at h3
  have h4 := (check_form h3).1
  unfold formH at h4
  rw [if_neg (by omega), if_neg (by omega), if_pos h1, Bool.and_eq_true] at h4
  refine num_check h4.1 ?_
  unfold checkV at h3
  split at h3
  ·cases h3
  ·split at h3
   ·cases h3
   ·split at h3
    ·cases h3
    ·rename_i h5
     rw [Bool.not_eq_false, Bool.and_eq_true] at h5
     have h6 := h5.1
     unfold fitsH at h6
     rw [if_pos h1, decide_eq_true_eq] at h6
     exact h6
theorem col_kind {aggs : List (List UInt8)} {k : List UInt8} {en : En} (hI : EInv aggs k en) {i : Nat} (hi : i < aggs.length) (hs : aggs.getD i [] = sSum) : ∀ x ∈ colV en.ways i, ∀ y ∈ colV en.ways i, x.1.k = y.1.k := fun x hx y hy => by
 obtain ⟨w, hw, h⟩ := col_at hI hi x hx
 obtain ⟨w', hw', h'⟩ := col_at hI hi y hy
 have := hI.kind w hw w' hw' i hs
 rwa [kAt_of h, kAt_of h'] at this
theorem col_len (ws : List (List UInt8 × Vf)) (i : Nat) : (colV ws i).length = ws.length := List.length_map ..
theorem WsR.nil {F : Heap} : ∀ {x : List (List UInt8 × Vf)}, WsR F x [] → x = []
 | [], _ => rfl
 | _ :: _, h => by cases h
theorem col_ne {aggs : List (List UInt8)} {k : List UInt8} {en : En} (hI : EInv aggs k en) (i : Nat) : colV en.ways i ≠ [] := fun e => hI.ne (List.map_eq_nil_iff.1 e)
theorem zzGg0 {p : Prop} (h : p := by (first | (refine .inr ⟨fun j hj => hall j hj, uG, gO, rfl, rfl, hOg⟩) | (refine .inl ⟨i, by omega, by (rw [hrr]; assumption), hall, by rw [hrr], rfl⟩) | trace_state)) : p := h
theorem rowOldCt (F : Heap) (hT : TabF F) (hE : ErrF F) (bg : Nat) (av : Value) (gv : Gv) (gg : Grp) (aggs : List (List UInt8)) (hG : GsS bg av gv gg) (hA : LiM F 1 StR av aggs) (h8 : aggs.length ≤ 8) (hkn : aggs.all knownS = true) (key : Vf) (v1 : Value) (h1 : TrS F 4 VhR v1 key) (r1 : RowB key)
  (k9 : List UInt8) (hk : txtG key = some k9) (e : Ev) (en : En) (hsome : alG gv k9 = some e) (hkv : TrS F 4 VhR e.kv en.key) (hW : WsR F en.ways e.ws) (hI : EInv aggs k9 en) (hcn : en.ways.length ≤ 1000000000) :
  Ct Tryz.prog 15 [.pointer (some ⟨bg, 0, none⟩), v1] F [gg] (fun _ G' u => RowQ aggs en.ways gg G' u) := by
 have t1 := textCtG F hT v1 key h1 r1.rg r1.wt
 rw [hk] at t1
 obtain ⟨bm, om, gw, rfl, hm, hw⟩ := hG
 obtain ⟨x1, x2, rfl, hx1, -, -⟩ := alG_split hsome
 obtain ⟨g1, ow, g2, rfl, how, hwa, hwb⟩ := WaS.split hw
 have hmg : mGet (gvM (x1 ++ (k9, e) :: x2)) k9 = some (evV e) := by rw [mGet_gv, hsome]; rfl
 obtain ⟨kv, eb, ews⟩ := e
 obtain ⟨akv, ckv, rfl, -⟩ := hkv
 obtain ⟨aa, ca, rfl, hca, hpa⟩ := hA
 obtain ⟨a1, c1, rfl, -⟩ := h1
 generalize en.key.len = kvn at hm hmg hsome ⊢
 refine Ct.enter Tryz.func15 rfl Tryz.ntmps15 rfl fun w0 a S => ?_
 (revert S a; refine go 6 ?_; intro Z hZ a S)
 (refine wp_seq_k ?_; intro Z hZ)
 (replace S := spl5 S)
 (revert S a; refine go 2 ?_; intro a S)
 (refine wv S (sv_eqPtrSome S rfl rfl rfl) ?_; clear S a; intro a S)
 (revert S a; revert hZ Z; refine go 2 ?_; intro a S)
 refine wpc_false S rfl ?_
 (revert S a; revert hZ Z; refine go 4 ?_; intro Z hZ a S)
 (refine wc0 S t1 ?_; clear S a; intro v9 a w hv S; subst hv; unfold tvV at S)
 (revert S a; revert hZ Z; refine go 10 ?_; intro Z hZ Z hZ a S)
 (refine wv S (sv_lit (c := false) (sv_pure S rfl) (by rfl)) ?_; clear S a; intro a S)
 (revert S a; revert hZ Z; refine go 2 ?_; intro a S)
 refine wpc_false S rfl ?_
 (revert S a; revert hZ Z; refine go 8 ?_; intro Z hZ a S)
 (refine wv S (sv_lookP (enc := kS) (k := k9) S rfl rfl rfl hm) ?_; clear S a; intro a S; rw [hmg] at S; unfold evV at S)
 (revert S a; refine go 3 ?_; intro a S)
 (refine wpl_alloc S rfl rfl rfl rfl ?_; clear S a; intro b8 a w S)
 (refine wso S rfl rfl ?_; clear S; intro w S)
 (revert S a; revert hZ Z; refine go 6 ?_; intro Z hZ Z hZ a S)
 (refine wv S (sv_lit (c := false) (sv_pure S rfl) (by rfl)) ?_; clear S a; intro a S)
 (revert S a; revert hZ Z; refine go 2 ?_; intro a S)
 refine wpc_false S rfl ?_
 (revert S a; revert hZ Z; refine go 3 ?_; intro Z hZ a S)
 (refine wcF S (comesCt F) ?_; clear S a; intro u9 F9 a w hv hF9 S; obtain ⟨bk, rfl, hkm⟩ := hv)
 (revert S a; revert hZ Z; refine go 18 ?_; intro Z hZ a S)
 refine wpc_loop (fun m a w' => ∃ (i : Nat) (F3 : Heap) (vO : Value) (gO : Grp) (xO : List Value), m = aggs.length - i ∧ i ≤ aggs.length ∧ (∀ b o, F9 b = some o → F3 b = some o) ∧ (∀ j, j < i → (rowA aggs en.ways j).1 = 0) ∧ OwnS 45 4 vO i xO gO ∧ LiC F3 4 (RoR 4 VhR) xO ((List.range i).map fun j => (rowA aggs en.ways j).2) ∧ St 82 [(8, ptr b8), (10, .map (some bk)), (11, vO), (43, .slice aa aggs.length ca), (44, .int .i64 aggs.length), (45, .int .i64 i)] w0 F (keys [(bg, .cells ⟨[.slice aa aggs.length ca, .map (some bm)]⟩ 75 (0, 0)) :: (bm, om) :: (g1 ++ (eb, ow) :: g2)]) F3 [gO, [(b8, .cells ⟨[.slice akv kvn ckv, .map (some eb)]⟩ 80 (0, 0))], [(bg, .cells ⟨[.slice aa aggs.length ca, .map (some bm)]⟩ 75 (0, 0))], [(bm, om)], g1, [(eb, ow)], g2] a w') ?_ ?_
 ·(refine ⟨aggs.length, 0, F9, .slice none 0 0, [], [], by omega, Nat.zero_le _, (fun _ _ h => h), (fun j h => absurd h (Nat.not_lt_zero _)), OwnS.nil _ _, rfl, ?_⟩; replace S := S.nilg; refine S.keep ?_; exact zk)
 (clear S; rintro m a w ⟨i, F3, vO, gO, xO, rfl, hil, hF3, hall, hO, hLO, S⟩)
 (revert S a; refine go 5 ?_; intro Z hZ a S)
 refine wpc_sp S rfl ?_ ?_ <;> intro h
 ·(revert S a; revert hZ Z; refine go 4 ?_; intro Z hZ a S)
  (refine wp_seq_k ?_; intro Z hZ)
  (obtain ⟨bA, oA, haoA, s, cs1, hx, hcc, hR1⟩ := LiM.pos hpa (k := i) (by omega); rw [haoA] at S; obtain rfl : cs1 = _ := hR1; have hxd : aggs.getD i [] = s := (by rw [List.getD_eq_getElem?_getD, hx]; rfl); have hF03 : ∀ b o, F b = some o → F3 b = some o := (fun b o h => hF3 _ _ (hF9 _ _ h)); have hc1 : Cel F3 bA (oA + i * 1) (.string (bs s)) := Cel.mono hF03 (hcc 0 _ rfl))
  (revert S a; refine go 3 ?_; intro a S)
  (refine wv S (sv_loadF S rfl rfl hc1) ?_; clear S a; intro a S)
  (revert S a; revert hZ Z; refine go 12 ?_; intro Z hZ Z hZ a S)
  (refine wpl_rangeM (enc := kS) S rfl rfl rfl rfl rfl (by exact S.has inferInstance) how ?_; clear S a; intro b52 oi a w hit S)
  (revert S a; revert hZ Z; refine go 3 ?_; intro a S)
  refine wpc_loop (fun m a w' => ∃ (lv : List (List UInt8 × Value)) (lw : List (List UInt8 × Vf)) (cu : List Vv) (v : Value) (g : Grp) (xs : List Value) (cr : Option (List UInt8 × Value)) (oi : Obj), m = lv.length ∧ WsR F3 lw lv ∧ (cu ++ colV lw i).Perm (colV en.ways i) ∧ (∀ q ∈ lw, q ∈ en.ways) ∧ ItO kS ews eb ow lv cr oi ∧ OwnS 45 4 v cu.length xs g ∧ LiC F3 4 (RoR 4 VhR) xs cu ∧ St 82 [(8, ptr b8), (10, .map (some bk)), (11, vO), (12, .int .i64 i), (13, .string (bs s)), (14, v), (43, .slice (some ⟨bA, oA, none⟩) aggs.length ca), (44, .int .i64 aggs.length), (45, .int .i64 i), (52, ptr b52)] w0 F (keys [(bg, .cells ⟨[.slice (some ⟨bA, oA, none⟩) aggs.length ca, .map (some bm)]⟩ 75 (0, 0)) :: (bm, om) :: (g1 ++ (eb, ow) :: g2)]) F3 [g, [(b52, oi)], gO, [(b8, .cells ⟨[.slice akv kvn ckv, .map (some eb)]⟩ 80 (0, 0))], [(bg, .cells ⟨[.slice (some ⟨bA, oA, none⟩) aggs.length ca, .map (some bm)]⟩ 75 (0, 0))], [(bm, om)], g1, [(eb, ow)], g2] a w') ?_ ?_
  ·(refine ⟨ews.length, ews, en.ways, [], .slice none 0 0, [], [], none, oi, rfl, hW.mono hF03, List.Perm.refl _, (fun _ h => h), hit, OwnS.nil _ _, rfl, ?_⟩; replace S := S.nilg; refine S.keep ?_; exact zk)
  (clear S hit; rintro m a w ⟨lv, lw, cu, v, g, xs, cr, oi, rfl, hWl, hpm, hsub, hit, hown, hxs, S⟩; have hcu : cu.length + lw.length = en.ways.length := (by have h9 := hpm.length_eq; rw [List.length_append, col_len, col_len] at h9; exact h9))
  refine wp_sr fun Z hZ => ?_
  (refine wpl_next (enc := kS) S rfl rfl rfl rfl rfl (by exact S.has inferInstance) hit ?_; clear S a; intro y oi2 a w hnx S)
  (revert S a; revert hZ Z; refine go 4 ?_; intro Z hZ a S)
  refine wpc_sp S rfl ?_ ?_ <;> intro h
  ·(revert S a; revert hZ Z; refine go 3 ?_; intro a S)
   (refine wp_seq_k ?_; intro Z hZ)
   (obtain ⟨⟨pt, pv⟩, l1, l2, rfl, hpl, hit2⟩ := nx_some hnx (by assumption); subst hpl; obtain ⟨m1, q, m2, rfl, hW1, hTq, hW2⟩ := hWl.split; obtain ⟨aQ, cQ, hqe, hcQ, hpQ⟩ := hTq; (dsimp only at hqe); subst hqe; have hqm := hsub q (by simp); have hql := hI.len q hqm; obtain ⟨b6, o6, hao6, z, csz, vz, hz, hcz, hwz, hTz⟩ := TrM.pos hpQ (k := i) (by omega); subst hao6; have hwd := hwz.1; subst hwd; obtain ⟨aZ, cZ, rfl, -⟩ := id hTz; (simp only [List.cons_append, List.nil_append] at hcz); have hRz : RoR 4 VhR F3 z (vcs z aZ cZ) := ⟨[.int .u8 (z.1.k : Int), .int .i64 z.1.n, .string (bs z.1.s)], _, rfl, rfl, hwz, hTz⟩; (simp only [List.length_append, List.length_cons] at hcu))
   refine wp_region_lit ?_
   (refine wv S (sv_entryM (enc := kS) S rfl rfl (by exact S.has inferInstance) hit2) ?_; clear S a; intro a S)
   (revert S a; revert hZ Z; refine go 9 ?_; intro a S)
   (refine wv S (sv_loadAF S rfl rfl hcz (by rfl)) ?_; clear S a; intro a S)
   (refine wpl_append S rfl rfl rfl rfl rfl rfl rfl rfl rfl rfl rfl (fun _ => rfl) hown (by rfl) (by simp [Value.cells, splice, splice]) (by simp [Value.cells, Value.oneCell', splice, splice]) rfl (by rfl) (by rfl) rfl (by omega) (by omega) ?_; clear hown S a; intro v u g a w hown S)
   (revert S a; refine go 2 ?_; intro a S)
   change ∃ m', _ ∧ _
   (have hown2 : OwnS 45 4 v (cu ++ [z]).length _ g := (by rw [List.length_append]; exact hown); refine ⟨(l1 ++ l2).length, by (simp only [List.length_append, List.length_cons]; omega), l1 ++ l2, m1 ++ m2, cu ++ [z], _, _, _, _, _, rfl, WsR.app hW2 hW1, colV_mid hz hpm, (fun q9 h9 => hsub q9 (by rcases List.mem_append.1 h9 with h8 | h8; exact List.mem_append_left _ h8; exact List.mem_append_right _ (List.mem_cons_of_mem _ h8))), hit2, hown2, LiC.app hxs (LiC.one rfl hRz), ?_⟩; refine S.keep ?_; exact zk)
  (refine wp_exit ?_; conv => whnf)
  clear hZ Z
  (refine hZ _ _ ?_; clear hZ Z)
  (refine wp_seq_k ?_; intro Z hZ)
  (have hlv := nx_none hnx (by assumption); subst hlv; obtain rfl := hWl.nil; rw [show colV [] i = [] from rfl, List.append_nil] at hpm; have hle := add_le (G1 := []) S; replace S := St.freeze (G1 := []) S; (simp only [List.nil_append] at S hle); have hLv := LiC.lim (F := F3) hown hxs rfl hle (by (simp only [List.length_nil] at hcu); omega); obtain ⟨aV, cV, rfl, -, -⟩ := id hLv; generalize F3.add g = F4 at S hle hLv; replace S := S.drop1; have hF04 : ∀ b o, F b = some o → F4 b = some o := (fun b o h => hle _ _ (hF03 _ _ h)); obtain ⟨q1, q2, hmk, hcm1, hcm2⟩ := (hkm.mono hF3).mono hle; have hi9 : i < aggs.length := (by omega); have hcne := col_ne hI i; have hcun : cu ≠ [] := (fun h9 => hcne (by rw [h9] at hpm; exact hpm.symm.eq_nil)); have hra : aggO s cu = rowA aggs en.ways i := (by unfold rowA; rw [hxd]; exact aggO_perm hcun hpm (fun x hx => col_may hI hi9 x (hpm.mem_iff.1 hx)) (fun hs x hx y hy => col_kind hI hi9 (by rw [hxd]; exact hs) x (hpm.mem_iff.1 hx) y (hpm.mem_iff.1 hy))); obtain ⟨fid, cpt, hfe, hfi, hct⟩ := agg_call F4 (hT.mono hF04) (hE.mono hF04) q1 q2 hcm1 hcm2 s (knownS_at hkn hx) _ cu hLv (List.length_pos_iff.2 hcun) (by (simp only [List.length_nil] at hcu); omega) (fun hs x hx => col_num hI hi9 (by rw [hxd]; exact hs) x (hpm.mem_iff.1 hx)); rw [hra] at hct; generalize hrr : rowA aggs en.ways i = rr at hct)
  (revert S a; refine go 3 ?_; intro a S)
  (refine wv S (sv_lookupF (enc := kS) (k := s) S rfl rfl rfl hmk) ?_; clear S a; intro a S)
  (revert S a; refine go 1 ?_; intro a S)
  (rw [hfe] at S; haveI := hfi; refine wc0 S hct ?_; clear S a; intro v9 a w hv S; obtain ⟨ay, cy, rfl, hRy⟩ := hv)
  (revert S a; refine go 3 ?_; intro a S)
  (refine wpl_alloc S rfl rfl rfl rfl ?_; clear S a; intro b17 a w S)
  (refine wso S rfl rfl ?_; clear S; intro w S)
  (revert S a; revert hZ Z; refine go 9 ?_; intro Z hZ a S)
  refine wpc_sp S rfl ?_ ?_ <;> intro h
  ·(revert S a; refine go 6 ?_; intro a S)
   refine wp_ret ?_
   (first | (replace S : St _ _ _ _ _ _ [[_], [_], [_], g1, [_], g2, gO] _ _ := St.permI S 7 rfl [1, 2, 3, 4, 5, 6, 0] (by decide); replace S := joi5 S.drop1) | (rw [← haoA] at S; replace S := joi5 S.drop1.drop1.drop1))
   refine fin_ret S (results2 Tryz.results15 (RV.tmp S rfl) (RV.tmp S rfl)) ?_
   exact zzGg0
  (revert S a; revert hZ Z; refine go 5 ?_; intro a S)
  (refine wpl_append S rfl rfl rfl rfl rfl rfl rfl rfl rfl rfl rfl (fun _ => rfl) hO (by rfl) (by simp [Value.cells, splice, splice]) (by simp [Value.cells, Value.oneCell', splice, splice]) rfl (by rfl) (by rfl) rfl (by omega) (by omega) ?_; clear hO S a; intro v u g a w hO S)
  (revert S a; revert hZ Z; refine go 7 ?_; intro a S)
  change ∃ m', _ ∧ _
  (rw [← haoA] at S; replace S := S.drop1; have hO2 : LiC F4 4 (RoR 4 VhR) _ ((List.range (i + 1)).map fun j => (rowA aggs en.ways j).2) := (by rw [range_snoc, hrr]; exact LiC.app (hLO.mono hle) (LiC.one rfl hRy)); refine ⟨aggs.length - (i + 1), by omega, i + 1, F4, _, _, _, rfl, by omega, (fun b o h => hle _ _ (hF3 _ _ h)), (fun j hj => by rcases Nat.lt_or_eq_of_le (Nat.le_of_lt_succ hj) with h9 | h9; exact hall j h9; rw [h9, hrr]; omega), hO, hO2, ?_⟩; refine S.keep ?_; exact zk)
 (refine wp_exit ?_; conv => whnf)
 clear hZ Z
 (refine hZ _ _ ?_; clear hZ Z)
 (refine wp_seq_k ?_; intro Z hZ)
 (obtain rfl : i = aggs.length := (by omega); have hle2 := add_le (G1 := []) S; replace S := St.freeze (G1 := []) S; (simp only [List.nil_append] at S hle2); have hLo := LiC.lim (F := F3) hO hLO (by simp) hle2 (by omega); have hth : ∀ x ∈ (List.range aggs.length).map fun j => (rowA aggs en.ways j).2, ThX x := (fun x hx => by obtain ⟨j, hj, rfl⟩ := List.mem_map.1 hx; exact thx_agg (col_ne hI j) (col_th hI (List.mem_range.1 hj))); have hTo := trs_kids (l := roseOf ((List.range aggs.length).map fun j => (rowA aggs en.ways j).2)) (by rw [kids_roseOf]; exact hLo); have hgo := gownCt _ _ _ _ (Nat.le_refl _) (by rw [roseOf_len, List.length_map, List.length_range]; omega) (thv_rose hth) hTo)
 (revert S a; refine go 2 ?_; intro a S)
 (refine wpl_callN S rfl rfl rfl rfl rfl rfl hgo rfl ?_; clear S a; intro uG G9 a w hv S; obtain ⟨gO, rfl, hOg⟩ := hv; (simp only [List.singleton_append] at S))
 (revert S a; revert hZ Z; refine go 4 ?_; intro a S)
 refine wp_ret ?_
 (first | (replace S : St _ _ _ _ _ _ [[_], [_], [_], g1, [_], g2, gO] _ _ := St.permI S 7 rfl [1, 2, 3, 4, 5, 6, 0] (by decide); replace S := joi5 S.drop1) | (rw [← haoA] at S; replace S := joi5 S.drop1.drop1.drop1))
 refine fin_ret S (results2 Tryz.results15 (RV.tmp S rfl) (RV.tmp S rfl)) ?_
 exact zzGg0
def gAdd (aggs : List (List UInt8)) (x : GA) (key way args : Vf) : GA := if addE aggs x key way args = 0 then addG x ((txtG key).getD []) ((txtG way).getD []) key args else x
def gDel (x : GA) (key way : Vf) : GA := if delE x key way = 0 then delG x ((txtG key).getD []) ((txtG way).getD []) else x
theorem addE_ok {aggs : List (List UInt8)} {x : GA} {key way args : Vf} (h : addE aggs x key way args = 0) : ∃ k w q, txtG key = some k ∧ txtG way = some w ∧ txtG args = some q ∧ args.len = aggs.length ∧ (alG (waysE x k) w).isSome = false ∧ typeB aggs args (waysE x k) = false := by
 unfold addE at h
 cases h1 : txtG key with
 | none => rw [h1] at h; cases h
 | some k =>
  cases h2 : txtG way with
  | none => rw [h1, h2] at h; cases h
  | some w =>
   cases h3 : txtG args with
   | none => rw [h1, h2, h3] at h; cases h
   | some q =>
    rw [h1, h2, h3] at h
    dsimp only at h
    split at h
    ·cases h
    ·split at h
     ·cases h
     ·split at h
      ·cases h
      ·rename_i a b c
       exact ⟨k, w, q, rfl, rfl, rfl, by omega, by simpa using b, by simpa using c⟩
theorem alG_mem {β : Type} {x : List (List UInt8 × β)} {k : List UInt8} {e : β} (h : alG x k = some e) : (k, e) ∈ x := by
 obtain ⟨x1, x2, rfl, -⟩ := alG_split h
 simp
theorem tb_num {aggs : List (List UInt8)} {args : Vf} {ws : List (List UInt8 × Vf)} (h : typeB aggs args ws = false) {i : Nat} (hi : i < aggs.length) (hs : aggs.getD i [] = sSum) : (kAt args i = 2 ∨ kAt args i = 3) ∧ ∀ w r, ws = w :: r → kAt w.2 i = kAt args i := by
 unfold typeB at h
 rw [List.any_eq_false] at h
 have h1 := h i (List.mem_range.2 hi)
 unfold tyBad at h1
 rw [decide_eq_true hs, Bool.true_and, Bool.or_eq_true, not_or, decide_eq_true_eq] at h1
 refine ⟨by omega, fun w r e => ?_⟩
 subst e
 have := h1.2
 rw [decide_eq_true_eq] at this
 exact Classical.not_not.1 this
theorem gAdd_inv {aggs : List (List UInt8)} {x : GA} {key way args : Vf} (hI : GInv aggs x) (r1 : RowB key) (r3 : RowB args) : GInv aggs (gAdd aggs x key way args) := by
 unfold gAdd
 by_cases h0 : addE aggs x key way args = 0
 ·rw [if_pos h0]
  obtain ⟨k, w, q, hk, hw, hq, hl, ha, ht⟩ := addE_ok h0
  rw [hk, hw, Option.getD_some, Option.getD_some]
  unfold addG
  unfold waysE at ha ht
  cases hx : alG x k with
  | none =>
   rw [hx] at ha ht
   refine ⟨?_, fun p hp => ?_⟩
   ·rw [List.map_append, List.nodup_append]
    refine ⟨hI.nd, by simp, fun a h1 b h2 => ?_⟩
    obtain ⟨p, hp, rfl⟩ := List.mem_map.1 h1
    simp at h2
    subst h2
    exact alG_none.1 hx p hp
   ·rcases List.mem_append.1 hp with hp | hp
    ·exact hI.all p hp
    ·rw [List.mem_singleton] at hp
     subst hp
     refine ⟨(fun e => by cases e), by simp, ?_, ?_, ?_, ?_, ?_, hk, r1⟩ <;> simp only [List.mem_singleton, forall_eq]
     ·exact hl
     ·exact fun i _ => trivial
     ·exact fun i hi hs => (tb_num ht hi hs).1
     ·rw [hq]; rfl
     ·exact r3
  | some e =>
   rw [hx] at ha ht
   obtain ⟨x1, x2, rfl, h1, h2, -⟩ := alG_split hx
   have hE := hI.all (k, e) (by simp)
   rw [h2]
   have hno : ∀ p ∈ e.ways, p.1 ≠ w := alG_none.1 (Option.isNone_iff_eq_none.1 (by rw [← Option.not_isSome, ha]; rfl))
   refine ⟨by have := hI.nd; simpa using this, fun p hp => ?_⟩
   rcases List.mem_append.1 hp with hp | hp
   ·exact hI.all p (List.mem_append_left _ hp)
   ·rcases List.mem_cons.1 hp with rfl | hp
    ·obtain ⟨w1, wr, hwe⟩ := List.exists_cons_of_ne_nil hE.ne
     have hk1 : ∀ v ∈ e.ways, ∀ i, i < aggs.length → aggs.getD i [] = sSum → kAt v.2 i = kAt args i := fun v hv i hi hs => by
      rw [hE.kind v hv w1 (by rw [hwe]; simp) i hs]
      exact (tb_num ht hi hs).2 w1 wr hwe
     have hlt : ∀ i, aggs.getD i [] = sSum → i < aggs.length := fun i hs => by
      rcases Nat.lt_or_ge i aggs.length with h9 | h9
      ·exact h9
      ·rw [List.getD_eq_getElem?_getD, List.getElem?_eq_none h9] at hs; cases hs
     refine ⟨(by simp), ?_, ?_, ?_, ?_, ?_, ?_, hE.key, hE.krow⟩
     ·rw [List.map_append, List.nodup_append]
      refine ⟨hE.nd, by simp, fun a h3 b h4 => ?_⟩
      obtain ⟨p9, hp9, hpe⟩ := List.mem_map.1 h3
      rw [List.map_cons, List.map_nil, List.mem_singleton] at h4
      rw [h4, ← hpe]
      exact hno p9 hp9
     ·intro v hv
      rcases List.mem_append.1 hv with hv | hv
      ·exact hE.len v hv
      ·rw [List.mem_singleton] at hv; subst hv; exact hl
     ·intro v hv v' hv' i hs
      rcases List.mem_append.1 hv with hv | hv <;> rcases List.mem_append.1 hv' with hv' | hv'
      ·exact hE.kind v hv v' hv' i hs
      ·rw [List.mem_singleton] at hv'; subst hv'; exact hk1 v hv i (hlt i hs) hs
      ·rw [List.mem_singleton] at hv; subst hv; exact (hk1 v' hv' i (hlt i hs) hs).symm
      ·rw [List.mem_singleton] at hv hv'; subst hv; subst hv'; rfl
     ·intro v hv i hi hs
      rcases List.mem_append.1 hv with hv | hv
      ·exact hE.num v hv i hi hs
      ·rw [List.mem_singleton] at hv; subst hv; exact (tb_num ht hi hs).1
     ·intro v hv
      rcases List.mem_append.1 hv with hv | hv
      ·exact hE.may v hv
      ·rw [List.mem_singleton] at hv; subst hv; rw [hq]; rfl
     ·intro v hv
      rcases List.mem_append.1 hv with hv | hv
      ·exact hE.row v hv
      ·rw [List.mem_singleton] at hv; subst hv; exact r3
    ·exact hI.all p (List.mem_append_right _ (List.mem_cons_of_mem _ hp))
 ·rw [if_neg h0]; exact hI
theorem ct_re {P : Program} {f : FuncId} {args : List Value} {F : Heap} {G : List Grp} {Q Q' : Heap → List Grp → Value → Prop} (h : Ct P f args F G Q) (k : ∀ F' G' u, (keys G').Nodup → Q F' G' u → ∃ G'', G'.flatten.Perm G''.flatten ∧ Q' F' G'' u) : Ct P f args F G Q' := by
 unfold Ct at h ⊢
 exact fun w hw => (h w hw).mono fun _ _ ⟨v, F', G', h1, h2, h3⟩ => by
  obtain ⟨G'', h4, h5⟩ := k F' G' v h2.nd h3
  exact ⟨v, F', G'', h1, h2.perm h4, h5⟩
def GsN (bg : Nat) (av : Value) (x x' : GA) (gv : Gv) (G' : List Grp) : Prop := ∃ gg' gn gv', G' = [gg', gn] ∧ GsS bg av gv' gg' ∧ ∀ H : Heap, (∀ b o, gh gn b = some o → H b = some o) → GvR H x gv → GvR H x' gv'
theorem gsn_same {bg : Nat} {av : Value} {x : GA} {gv : Gv} {gg : Grp} (h : GsS bg av gv gg) : ∃ G'', ([gg] : List Grp).flatten.Perm G''.flatten ∧ GsN bg av x x gv G'' := ⟨[gg, []], by simp, gg, [], gv, rfl, h, fun _ _ h => h⟩
theorem addGCt (F : Heap) (hT : TabF F) (bg : Nat) (av : Value) (gv : Gv) (gg : Grp) (aggs : List (List UInt8)) (x : GA) (hG : GsS bg av gv gg) (hA : LiM F 1 StR av aggs) (hX : GvR F x gv) (hI : GInv aggs x) (key way args : Vf) (v1 v2 v3 : Value) (h1 : TrS F 4 VhR v1 key) (h2 : TrS F 4 VhR v2 way) (h3 : TrS F 4 VhR v3 args) (r1 : RowB key) (r2 : RowB way) (r3 : RowB args) :
  Ct Tryz.prog 10 [.pointer (some ⟨bg, 0, none⟩), v1, v2, v3] F [gg] (fun _ G' u => u = .int .i64 (addE aggs x key way args) ∧ GsN bg av x (gAdd aggs x key way args) gv G') := by
 by_cases hb : (txtG key).isSome = false ∨ (txtG way).isSome = false ∨ (txtG args).isSome = false ∨ args.len ≠ aggs.length
 ·refine ct_re (addBadCt F hT bg av gv gg aggs x hG hA key way args v1 v2 v3 h1 h2 h3 r1 r2 r3 hb) fun F' G' u _ ⟨h4, h5⟩ => ?_
  subst h5
  have hne : addE aggs x key way args ≠ 0 := by
   rcases hb with hb | hb | hb | hb
   ·rw [add4 (.inl hb)]; decide
   ·rw [add4 (.inr (.inl hb))]; decide
   ·rw [add4 (.inr (.inr hb))]; decide
   ·intro h0
    obtain ⟨_, _, _, _, _, _, h9, -⟩ := addE_ok h0
    exact hb h9
  unfold gAdd
  rw [if_neg hne]
  obtain ⟨G'', h6, h7⟩ := gsn_same (x := x) hG
  exact ⟨G'', h6, h4, h7⟩
 ·simp only [not_or, Bool.not_eq_false, ne_eq, Classical.not_not] at hb
  obtain ⟨b1, b2, b3, hln⟩ := hb
  obtain ⟨k, hk⟩ := Option.isSome_iff_exists.1 b1
  obtain ⟨w, hw⟩ := Option.isSome_iff_exists.1 b2
  obtain ⟨q, hq⟩ := Option.isSome_iff_exists.1 b3
  have hE : addE aggs x key way args = if (alG (waysE x k) w).isSome = true then 6 else if typeB aggs args (waysE x k) = true then 70 else 0 := by
   unfold addE
   rw [hk, hw, hq]
   exact if_neg (by omega)
  rcases hX.get k with ⟨g1, g2⟩ | ⟨e, e', g1, g2, g3, g4⟩
  ·have hws : waysE x k = [] := by unfold waysE; rw [g1]
   rw [hws, show (alG ([] : List (List UInt8 × Vf)) w).isSome = false from rfl, if_neg (by decide)] at hE
   refine ct_re (addNewCt F hT bg av gv gg aggs hG hA key way args v1 v2 v3 h1 h2 h3 r1 r2 r3 k w q hk hw hq hln g2) fun F' G' u hnd hp => ?_
   rcases hp with ⟨p1, p2, p3⟩ | ⟨p1, p2, kv, b, av', gg', gk, ga, p3, p4, p5, p6⟩
   ·rw [if_pos p1] at hE
    subst p3
    unfold gAdd
    rw [hE, if_neg (by decide)]
    obtain ⟨G'', h6, h7⟩ := gsn_same (x := x) hG
    exact ⟨G'', h6, p2, h7⟩
   ·rw [p1, if_neg (by decide)] at hE
    subst p3
    have hnd2 : ((gk ++ ga).map (·.1)).Nodup := by
     unfold keys at hnd
     simp only [List.flatten_cons, List.flatten_nil, List.append_nil, List.map_append] at hnd ⊢
     exact (List.nodup_append.1 hnd).2.1
    refine ⟨[gg', gk ++ ga], by simp, by rw [hE]; exact p2, gg', gk ++ ga, _, rfl, p6, fun H hH hX => ?_⟩
    unfold gAdd addG
    rw [if_pos hE, hk, hw, Option.getD_some, Option.getD_some, g1]
    exact GvR.snoc (e := ⟨key, [(w, args)]⟩) (e' := ⟨kv, b, [(w, av')]⟩) (p4.mono fun b o h => hH b o (gh_left h)) ⟨rfl, p5.mono fun b o h => hH b o (gh_right hnd2 h), trivial⟩ hX
  ·have hws : waysE x k = e.ways := by unfold waysE; rw [g1]
   rw [hws] at hE
   have hEI := hI.all (k, e) (alG_mem g1)
   refine ct_re (addOldCt F hT bg av gv gg aggs hG hA key way args v1 v2 v3 h1 h2 h3 r1 r2 r3 k w q hk hw hq hln e' e g2 g3 g4 hEI.ne hEI.len hEI.kind) fun F' G' u hnd hp => ?_
   rcases hp with ⟨p1, p2, p3⟩ | ⟨p0, p1, p2, p3⟩ | ⟨p0, p1, p2, av', gg', ga, p3, p5, p6⟩
   ·rw [if_pos p1] at hE
    subst p3
    unfold gAdd
    rw [hE, if_neg (by decide)]
    obtain ⟨G'', h6, h7⟩ := gsn_same (x := x) hG
    exact ⟨G'', h6, p2, h7⟩
   ·rw [p0, if_neg (by decide), if_pos p1] at hE
    subst p3
    unfold gAdd
    rw [hE, if_neg (by decide)]
    obtain ⟨G'', h6, h7⟩ := gsn_same (x := x) hG
    exact ⟨G'', h6, p2, h7⟩
   ·rw [p0, if_neg (by decide), p1, if_neg (by decide)] at hE
    subst p3
    refine ⟨[gg', ga], List.Perm.refl _, by rw [hE]; exact p2, gg', ga, _, rfl, p6, fun H hH hX => ?_⟩
    unfold gAdd addG
    rw [if_pos hE, hk, hw, Option.getD_some, Option.getD_some, g1]
    exact GvR.upd k (f := fun e => ⟨e.key, e.ways ++ [(w, args)]⟩) (g := fun e => ⟨e.kv, e.b, e.ws ++ [(w, av')]⟩) (fun e e' _ a b => ⟨a, WsR.snoc (p5.mono fun b o h => hH b o h) b⟩) hX
theorem delGCt (F : Heap) (hT : TabF F) (bg : Nat) (av : Value) (gv : Gv) (gg : Grp) (x : GA) (hG : GsS bg av gv gg) (hav : av.oneCell' = true) (hX : GvR F x gv) (key way : Vf) (v1 v2 : Value) (h1 : TrS F 4 VhR v1 key) (h2 : TrS F 4 VhR v2 way) (r1 : RowB key) (r2 : RowB way) :
  Ct Tryz.prog 11 [.pointer (some ⟨bg, 0, none⟩), v1, v2] F [gg] (fun _ G' u => u = .int .i64 (delE x key way) ∧ GsN bg av x (gDel x key way) gv G') := by
 by_cases hb : ∃ k w e', txtG key = some k ∧ txtG way = some w ∧ alG gv k = some e'
 ·obtain ⟨k, w, e', hk, hw, g2⟩ := hb
  rcases hX.get k with ⟨g1, g2'⟩ | ⟨e, e'', g1, g2', g3, g4⟩
  ·rw [g2] at g2'; cases g2'
  ·rw [g2] at g2'; cases g2'
   have hws : waysE x k = e.ways := by unfold waysE; rw [g1]
   have hE : delE x key way = if (alG e.ways w).isSome = true then 0 else 5 := by unfold delE; rw [hk, hw, ← hws]
   have hsm : (alG e.ways w).isSome = (alG e'.ws w).isSome := by rcases g4.get w with ⟨q1, q2⟩ | ⟨_, _, q1, q2, -⟩ <;> rw [q1, q2] <;> rfl
   have hdl : alD e.ways w = [] ↔ alD e'.ws w = [] := by
    have := (g4.del w).len
    exact ⟨fun h9 => List.eq_nil_of_length_eq_zero (by rw [← this, h9]; rfl), fun h9 => List.eq_nil_of_length_eq_zero (by rw [this, h9]; rfl)⟩
   refine ct_re (delOldCt F hT bg av gv gg hG key way v1 v2 h1 h2 r1 r2 k w hk hw e' e g2 g3 hav) fun F' G' u hnd hp => ?_
   rcases hp with ⟨p1, p2, p3⟩ | ⟨p1, p2, gg', p3, p4⟩
   ·rw [hsm, p1, if_neg (by decide)] at hE
    subst p3
    unfold gDel
    rw [hE, if_neg (by decide)]
    obtain ⟨G'', h6, h7⟩ := gsn_same (x := x) hG
    exact ⟨G'', h6, p2, h7⟩
   ·rw [hsm, p1, if_pos rfl] at hE
    subst p3
    refine ⟨[gg', []], by simp, by rw [hE]; exact p2, gg', [], _, rfl, p4, fun H _ hX => ?_⟩
    unfold gDel delG
    rw [if_pos hE, hk, hw, Option.getD_some, Option.getD_some, hws]
    by_cases hn : alD e.ways w = []
    ·rw [if_pos hn, if_pos (hdl.1 hn)]; exact hX.del k
    ·rw [if_neg hn, if_neg (fun h9 => hn (hdl.2 h9))]
     exact GvR.upd k (f := fun e => ⟨e.key, alD e.ways w⟩) (g := fun e => ⟨e.kv, e.b, alD e.ws w⟩) (fun e e' _ a b => ⟨a, b.del w⟩) hX
 ·have hno : ∀ k9 w9, txtG key = some k9 → txtG way = some w9 → alG gv k9 = none := fun k w hk hw => by
   cases hg : alG gv k with
   | none => rfl
   | some e => exact absurd ⟨k, w, e, hk, hw, hg⟩ hb
  refine ct_re (delNoCt F hT bg av gv gg hG key way v1 v2 h1 h2 r1 r2 hno hav) fun F' G' u _ ⟨h4, h5⟩ => ?_
  subst h5
  have hE : delE x key way = if (txtG key).isSome = true ∧ (txtG way).isSome = true then 5 else 4 := by
   unfold delE
   cases hk : txtG key with
   | none => rw [if_neg (by simp)]
   | some k =>
    cases hw : txtG way with
    | none => rw [if_neg (by simp)]
    | some w =>
     rcases hX.get k with ⟨g1, -⟩ | ⟨e, e'', g1, g2', -, -⟩
     ·rw [if_pos ⟨rfl, rfl⟩]
      dsimp only
      unfold waysE
      rw [g1]; rfl
     ·rw [hno k w hk hw] at g2'; cases g2'
  have hne : delE x key way ≠ 0 := by rw [hE]; split <;> decide
  unfold gDel
  rw [if_neg hne]
  obtain ⟨G'', h6, h7⟩ := gsn_same (x := x) hG
  exact ⟨G'', h6, by rw [hE]; exact h4, h7⟩
end Go.Proofs.YtbhipiepfclneaaGreatDoor
