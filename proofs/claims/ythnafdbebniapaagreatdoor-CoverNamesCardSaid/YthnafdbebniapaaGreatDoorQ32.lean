/- Walks. -/
import Derived.Test.YthnafdbebniapaaGreatDoorQ25
import Derived.Test.YthnafdbebniapaaGreatDoorQ31
import Derived.Test.YthnafdbebniapaaGreatDoorQ21
import Derived.Test.YthnafdbebniapaaGreatDoorQ24
import Derived.Test.YthnafdbebniapaaGreatDoorQ19
set_option maxHeartbeats 16000000
set_option maxRecDepth 20000
namespace Go.Proofs.YthnafdbebniapaaGreatDoor
open Go Go.Wk Go.Un Go.De
set_option linter.unusedSimpArgs false
set_option linter.unusedVariables false
attribute [local irreducible] Go.wpList Go.Code.wp Go.wpStill Go.Wk.wpPre Go.bodyPost Go.Calls Go.Wk.Ct Go.Wk.OwnS Go.Wk.wpG Go.Wk.wpM
def BvR (F : Heap) (x : Bd) (cs : List Value) : Prop := ∃ a c, cs = [.string (bs x.1), .int .u8 (x.2.1.k : Int), .int .i64 x.2.1.n, .string (bs x.2.1.s), .slice a x.2.2.len c] ∧ VaC F [.int .u8 (x.2.1.k : Int), .int .i64 x.2.1.n, .string (bs x.2.1.s), .slice a x.2.2.len c] x.2.1 x.2.2
instance : Mon BvR := ⟨fun hF ⟨a, c, h1, h2⟩ => ⟨a, c, h1, h2.mono hF⟩⟩
instance : OneC BvR := ⟨fun ⟨a, c, h1, _⟩ => by
 subst h1
 intro u hu
 simp at hu
 rcases hu with rfl | rfl | rfl | rfl | rfl <;> rfl⟩
theorem vac_sl {F : Heap} {xs : List Value} {h : VH} {L : Vf} (hX : VaC F xs h L) : ∃ ao cap, xs = [.int .u8 (h.k : Int), .int .i64 h.n, .string (bs h.s), .slice ao L.len cap] ∧ TrS F 4 VhR (.slice ao L.len cap) L ∧ h.s.length ≤ 140737488355328 := by
 obtain ⟨v, rfl, h2, h3⟩ := hX
 have h2c := h2
 obtain ⟨ao, cap, rfl, -⟩ := h2c
 exact ⟨ao, cap, rfl, h2, h3⟩
section
variable {n : Sz} {L : List (Nat × Value)} {w0 : World} {F0 : Heap} {K0 : List Nat} {F : Heap} {A B : List Grp} {a : Act} {w : World}
theorem cRot (S : St n L w0 F0 K0 F (A ++ B) a w) : St n L w0 F0 K0 F (B ++ A) a w := ⟨S.fr, S.tr.perm (by rw [List.flatten_append, List.flatten_append]; exact List.perm_append_comm)⟩
theorem cDrop (S : St n L w0 F0 K0 F (A ++ B) a w) : St n L w0 F0 K0 F A a w := ⟨S.fr, S.tr.sub (by rw [List.flatten_append]; exact List.sublist_append_left _ _)⟩
theorem permG2 {x g : Grp} {B : List Grp} : (x :: g :: B).flatten.Perm ([g].flatten ++ (x :: B).flatten) := by
 simp only [List.flatten_cons, List.flatten_nil, List.append_nil]
 rw [← List.append_assoc, ← List.append_assoc]
 exact List.Perm.append_right _ List.perm_append_comm
end
def MtP (r : Option (List Bd)) (F' : Heap) (G' : List Grp) (u : Value) : Prop := ∃ (v : Value) (a : List Bd) (g : Grp) (xs : List Value), u = .tuple ⟨[v, .bool r.isSome]⟩ ∧ G' = [g] ∧ OwnS 44 5 v a.length xs g ∧ LiC F' 5 BvR xs a ∧ (r = none ∨ r = some a)
theorem mt_none {r : Option (List Bd)} {F' : Heap} (e : r = none) : MtP r F' [[]] (.tuple ⟨[.slice none 0 0, .bool false]⟩) := ⟨_, [], _, _, by rw [e]; rfl, rfl, OwnS.nil _ _, rfl, .inl e⟩
theorem mt_some {r : Option (List Bd)} {F' : Heap} {v : Value} {a : List Bd} {g : Grp} {xs : List Value} {b : Bool} (e : r = if b = true then some a else none) (h1 : OwnS 44 5 v a.length xs g) (h2 : LiC F' 5 BvR xs a) : MtP r F' [g] (.tuple ⟨[v, .bool b]⟩) := by
 cases b with
 | true => rw [if_pos rfl] at e; exact ⟨v, a, g, xs, by rw [e]; rfl, rfl, h1, h2, .inr e⟩
 | false => rw [if_neg (by decide)] at e; exact ⟨v, a, g, xs, by rw [e]; rfl, rfl, h1, h2, .inl e⟩
theorem find_from {l : List Bd} {s : List UInt8} {i : Nat} {x : Bd} (hx : l[i]? = some x) : findB (l.drop i) s = if x.1 = s then some x else findB (l.drop (i + 1)) s := by
 obtain ⟨h1, h2⟩ := List.getElem?_eq_some_iff.1 hx
 rw [List.drop_eq_getElem_cons h1, h2]
 unfold findB
 rw [List.find?_cons]
 by_cases h : x.1 = s
 ·rw [decide_eq_true h, if_pos h]
 ·rw [decide_eq_false h, if_neg h]
theorem mtL_at {L : Ef} {VL : Vf} {k : Nat} {x : EH × Ef} {y : Vv} {l : List Bd} (hx : L.get? k = some x) (hy : VL.get? k = some y) : mtL (L.drop k) (VL.drop k) l = (mtE x.1 x.2 y l).bind (mtL (L.drop (k + 1)) (VL.drop (k + 1))) := by
 rw [Rose.drop_get hx, Rose.drop_get hy]; rfl
theorem mt_3 {h : EH} {L : Ef} {v : Vv} {l : List Bd} (h3 : h.k = 3) : mtE h L v l = if true = true then some l else none := by unfold mtE mtH; rw [if_pos h3]; rfl
theorem mt_1 {h : EH} {L : Ef} {v : Vv} {l : List Bd} (h1 : h.k = 1) : mtE h L v l = if decide (cmpV2 (h.v, h.vl) v = 0) = true then some l else none := by unfold mtE mtH; rw [if_neg (by omega), if_pos h1]; by_cases e : cmpV2 (h.v, h.vl) v = 0 <;> simp [e]
theorem mt_2 {h : EH} {L : Ef} {v : Vv} {l : List Bd} {b : Bd} (h2 : h.k = 2) (hf : findB l h.nm = some b) : mtE h L v l = if decide (cmpV2 b.2 v = 0) = true then some l else none := by unfold mtE mtH; rw [if_neg (by omega), if_neg (by omega), if_pos h2, hf]; dsimp only; by_cases e : cmpV2 b.2 v = 0 <;> simp [e]
theorem mt_2n {h : EH} {L : Ef} {v : Vv} {l : List Bd} (h2 : h.k = 2) (hf : findB l h.nm = none) : mtE h L v l = if true = true then some (l ++ [(h.nm, v)]) else none := by unfold mtE mtH; rw [if_neg (by omega), if_neg (by omega), if_pos h2, hf]; rfl
theorem mt_s {h : EH} {L : Ef} {v : Vv} {l : List Bd} (h1 : h.k ≠ 1) (h2 : h.k ≠ 2) (h3 : h.k ≠ 3) (hc : (h.k = 4 ∧ v.1.k ≠ 5) ∨ (h.k = 5 ∧ (v.1.k ≠ 6 ∨ v.1.s ≠ h.nm)) ∨ L.len ≠ v.2.len) : mtE h L v l = none := by unfold mtE mtH; rw [if_neg h3, if_neg h1, if_neg h2, if_pos hc]
theorem mt_go {h : EH} {L : Ef} {v : Vv} {l : List Bd} (h1 : h.k ≠ 1) (h2 : h.k ≠ 2) (h3 : h.k ≠ 3) (h4 : h.k = 4 → v.1.k = 5) (h5 : h.k = 5 → v.1.k = 6 ∧ v.1.s = h.nm) (h6 : L.len = v.2.len) : mtE h L v l = mtL L v.2 l := by
 unfold mtE mtH
 rw [if_neg h3, if_neg h1, if_neg h2, if_neg]
 rintro (⟨a, b⟩ | ⟨a, b | b⟩ | a)
 ·exact b (h4 a)
 ·exact b (h5 a).1
 ·exact b (h5 a).2
 ·exact a h6
def szB : Bool → Ef → Vf → Nat
 | true, L, _ => L.size
 | false, _, V => V.size
theorem szB_cons (q : Bool) (h : EH) (L r : Ef) (v : VH) (V w : Vf) : szB q (.cons h L r) (.cons v V w) = szB q L V + szB q r w + 1 := by cases q <;> rfl
theorem szB_drop (q : Bool) {L : Ef} {V : Vf} {i : Nat} {x : EH × Ef} {y : Vv} (hx : L.get? i = some x) (hy : V.get? i = some y) : szB q (L.drop i) (V.drop i) = szB q x.2 y.2 + szB q (L.drop (i + 1)) (V.drop (i + 1)) + 1 := by
 rw [Rose.drop_get hx, Rose.drop_get hy]
 exact szB_cons q _ _ _ _ _ _
theorem mtE_len1 {q : Bool} {L : Ef} (ih : ∀ VL l a, mtL L VL l = some a → a.length ≤ l.length + szB q L VL) {h : EH} {v : Vv} {l a : List Bd} (e : mtE h L v l = some a) : a.length ≤ l.length + szB q L v.2 + 1 := by
 unfold mtE mtH at e
 split at e
 ·cases e; omega
 ·split at e
  ·split at e
   ·cases e; omega
   ·cases e
  ·split at e
   ·split at e
    ·split at e
     ·cases e; omega
     ·cases e
    ·cases e; rw [List.length_append, List.length_singleton]; omega
   ·split at e
    ·cases e
    ·have := ih _ _ _ e; omega
theorem mtL_len (q : Bool) : ∀ (L : Ef) (VL : Vf) (l a : List Bd), mtL L VL l = some a → a.length ≤ l.length + szB q L VL
 | .nil, _, l, a, e => by cases e; exact Nat.le_add_right _ _
 | .cons h L r, .nil, l, a, e => by cases e
 | .cons h L r, .cons v VL w, l, a, e => by
  rw [mtL_cons, Option.bind_eq_some_iff] at e
  obtain ⟨b, h1, h2⟩ := e
  have h3 := mtE_len1 (mtL_len q L) h1
  have h4 := mtL_len q r w b a h2
  have h5 := szB_cons q h L r v VL w
  dsimp only at h3
  omega
theorem mtE_len (q : Bool) {L : Ef} {h : EH} {v : Vv} {l a : List Bd} (e : mtE h L v l = some a) : a.length ≤ l.length + szB q L v.2 + 1 := mtE_len1 (mtL_len q L) e
def MtD (q : Bool) (m : Nat) : Prop := ∀ (F : Heap) (eh : EH) (xl : Ef) (cs : List Value) (vh : VH) (VL : Vf) (cs2 : List Value) (v0 : Value) (k0 : List Bd) (g0 : Grp) (x0 : List Value), xl.size < m → k0.length + szB q xl VL ≤ 1000000000 → PxC F cs eh xl → BndH eh → BndL xl → VaC F cs2 vh VL → VL.len * 56 ≤ 140737488355328 → ThV VL → OwnS 44 5 v0 k0.length x0 g0 → LiC F 5 BvR x0 k0 →
 Ct Tryz.prog 36 [.agg ⟨cs⟩, .agg ⟨cs2⟩, v0] F [g0] (fun F' G' u => MtP (mtE eh xl (vh, VL) k0) F' G' u)
theorem zzCp0 {p : Prop} (h : p := by (first | (exfalso; clear S; omega) | (have h99 := h9; have h98 := hme; exact mt_some (b := true) (by rw [hme, ← hml, Rose.drop_len (by omega)]; rfl) hown hl1) | (have h98 := hme; have hb9 : (mtE x.1 x.2 (y.1, y.2) k1).isSome = false := (by assumption); have e8 : mtE x.1 x.2 y k1 = none := (by rcases hr9 with e | e; exact e; rw [e] at hb9; cases hb9); exact mt_none (by rw [hme, ← hml, mtL_at hx hy, e8]; rfl)) | exact mt_some (a := k0 ++ [(eh.nm, (vh, VL))]) (mt_2n (by omega) (by rw [hfi, List.drop_of_length_le (by omega)]; rfl)) (by rw [List.length_append]; exact hown) (LiC.app (hl0.mono hF5) (LiC.one rfl ⟨_, _, rfl, ⟨_, rfl, hT4, hsv⟩⟩)) | exact mt_some (mt_3 (by omega)) hown0 hl0 | exact mt_some (mt_1 (by omega)) hown0 hl0 | exact mt_some (mt_2 (by omega) (by rw [hfi, find_from hx, if_pos (by assumption)])) hown0 hl0 | exact mt_none (mt_s (by omega) (by omega) (by omega) (by first | (right; right; show xl.len ≠ VL.len; omega) | (left; exact ⟨by omega, by show vh.k ≠ 5; omega⟩) | (right; left; exact ⟨by omega, .inl (by show vh.k ≠ 6; omega)⟩) | (right; left; exact ⟨by omega, .inr (by assumption)⟩))) | trace_state)) : p := h
theorem zzCp1 {p : Prop} (h : p := by (refine ⟨mt_go (by omega) (by omega) (by omega) (fun (h9 : eh.k = 4) => show vh.k = 5 by omega) (fun (h9 : eh.k = 5) => ⟨show vh.k = 6 by omega, show vh.s = eh.nm by first | assumption | (exfalso; omega) | simp_all⟩) (show xl.len = VL.len by omega), by omega, ?_⟩; refine S.keep ?_; exact zk)) : p := h
theorem matchCt (q : Bool) : ∀ m, MtD q m := by
  intro m
  induction m with
  | zero => intro F eh xl cs vh VL cs2 v0 k0 g0 x0 hm; omega
  | succ m ih =>
  intro F eh xl cs vh VL cs2 v0 k0 g0 x0 hm hk0 hX hb hbl hV hv56 hvth hown0 hl0
  have hown := hown0
  obtain ⟨aw, nw, cw, ao, cap, rfl, hT2, hT3⟩ := hX
  obtain ⟨_, _, e9, hcap, hpos⟩ := hT3
  cases e9
  have hVc := hV
  obtain ⟨av, cv, rfl, hTV, hsv⟩ := vac_sl hVc
  have hP : VaC F [.int .u8 (eh.v.k : Int), .int .i64 eh.v.n, .string (bs eh.v.s), .slice aw nw cw] eh.v eh.vl := ⟨_, rfl, hT2, hb.2⟩
  have hVs := hTV.sq
  obtain ⟨_, _, e9, hcapV, hposV⟩ := hTV
  cases e9
  have hat0 := hown0.at
  obtain ⟨a0, c0, rfl, -⟩ := hat0
  refine Ct.enter Tryz.func36 rfl Tryz.ntmps36 rfl fun w0 a S => ?_
  refine wp_sr fun Z hZ => ?_
  (refine wbx S ?_; clear S a; intro b3 a w S)
  (refine wbx S ?_; clear S a; intro b4 a w S)
  (revert S a; revert hZ Z; refine go 16 ?_; intro Z hZ a S)
  refine wpc_sp S rfl ?_ ?_ <;> intro h
  · (revert S a; refine go 6 ?_; intro a S)
    refine wp_ret ?_
    (first | (have h9 : eh.k = 3 ∨ eh.k = 1 := (by omega); replace S := S.drop1.drop1) | (have h9 : eh.k = 2 := (by omega); first | (replace S : St _ _ _ _ _ _ [_] _ _ := S.drop1.drop1.drop1) | (replace S : St _ _ _ _ _ _ [_] _ _ := S.drop1.drop1)) | (have h9 : i = xl.len := (by omega); replace S := cDrop (A := [g]) S) | (replace S := cDrop (A := [[]]) S.nilg))
    refine fin_ret S (results2 Tryz.results36 (RV.tmp S rfl) (RV.tmp S rfl)) ?_
    exact zzCp0
  (revert S a; refine go 5 ?_; intro a S)
  refine wpc_sp S rfl ?_ ?_ <;> intro h
  · (revert S a; refine go 5 ?_; intro Z hZ a S)
    (refine wc0 S (cmpUCt F (eh.v, eh.vl) (vh, VL) _ _ hP hV) ?_; clear S a; intro v a w hv S; subst hv)
    (revert S a; revert hZ Z; refine go 5 ?_; intro a S)
    refine wp_ret ?_
    (first | (have h9 : eh.k = 3 ∨ eh.k = 1 := (by omega); replace S := S.drop1.drop1) | (have h9 : eh.k = 2 := (by omega); first | (replace S : St _ _ _ _ _ _ [_] _ _ := S.drop1.drop1.drop1) | (replace S : St _ _ _ _ _ _ [_] _ _ := S.drop1.drop1)) | (have h9 : i = xl.len := (by omega); replace S := cDrop (A := [g]) S) | (replace S := cDrop (A := [[]]) S.nilg))
    refine fin_ret S (results2 Tryz.results36 (RV.tmp S rfl) (RV.tmp S rfl)) ?_
    exact zzCp0
  (revert S a; refine go 5 ?_; intro a S)
  refine wpc_sp S rfl ?_ ?_ <;> intro h
  · (revert S a; refine go 8 ?_; intro Z hZ a S)
    refine wpc_loop (fun m a w' => ∃ (i : Nat), m = k0.length - i ∧ i ≤ k0.length ∧ findB k0 eh.nm = findB (k0.drop i) eh.nm ∧ St 111 [(2, .slice a0 k0.length c0), (3, ptr b3), (4, ptr b4), (28, .slice a0 k0.length c0), (29, .int .i64 k0.length), (30, .int .i64 i)] w0 F (keys [g0]) F [[(b4, .cells ⟨[.int .u8 (vh.k : Int), .int .i64 vh.n, .string (bs vh.s), .slice av VL.len cv]⟩ 26 (0, 0))], [(b3, .cells ⟨[.int .u8 (eh.k : Int), .int .i64 eh.l, .int .i64 eh.c, .string (bs eh.nm), .int .u8 (eh.v.k : Int), .int .i64 eh.v.n, .string (bs eh.v.s), .slice aw nw cw, .slice ao xl.len cap]⟩ 29 (0, 0))], g0] a w') ?_ ?_
    · (refine ⟨k0.length, 0, by omega, Nat.zero_le _, rfl, ?_⟩; refine S.keep ?_; exact zk)
    (clear S; rintro m a w ⟨i, rfl, hil, hfi, S⟩)
    (revert S a; refine go 5 ?_; intro Z hZ a S)
    refine wpc_sp S rfl ?_ ?_ <;> intro h
    · (revert S a; revert hZ Z; refine go 4 ?_; intro Z hZ a S)
      (refine wp_seq_k ?_; intro Z hZ)
      (obtain ⟨bT, capT, exT, e8, rfl, hcq, hcm, hxl, hxe⟩ := ownS_blkN hown0 (by omega); cases e8; obtain ⟨x, hx⟩ : ∃ x, k0[i]? = some x := ⟨_, List.getElem?_eq_getElem (by omega)⟩; obtain ⟨xa, cs1, xb, rfl, hxal, hl1, ⟨a1, c1, rfl, hVx⟩, hla, hlb⟩ := hl0.split hx)
      (revert S a; refine go 2 ?_; intro a S)
      (refine wv S (sv_loadMid S rfl rfl hxal rfl) ?_; clear S a; intro a S)
      (refine wpl_alloc S rfl rfl rfl rfl ?_; clear S a; intro b9 a w S)
      (refine wso S rfl rfl ?_; clear S; intro w S)
      (revert S a; revert hZ Z; refine go 10 ?_; intro a S)
      refine wpc_sp S rfl ?_ ?_ <;> intro h
      · (revert S a; refine go 5 ?_; intro Z hZ a S)
        (refine wc0 S (cmpUCt F x.2 (vh, VL) _ _ hVx hV) ?_; clear S a; intro v a w hv S; subst hv)
        (revert S a; revert hZ Z; refine go 5 ?_; intro a S)
        refine wp_ret ?_
        (first | (have h9 : eh.k = 3 ∨ eh.k = 1 := (by omega); replace S := S.drop1.drop1) | (have h9 : eh.k = 2 := (by omega); first | (replace S : St _ _ _ _ _ _ [_] _ _ := S.drop1.drop1.drop1) | (replace S : St _ _ _ _ _ _ [_] _ _ := S.drop1.drop1)) | (have h9 : i = xl.len := (by omega); replace S := cDrop (A := [g]) S) | (replace S := cDrop (A := [[]]) S.nilg))
        refine fin_ret S (results2 Tryz.results36 (RV.tmp S rfl) (RV.tmp S rfl)) ?_
        exact zzCp0
      (revert S a; revert hZ Z; refine go 6 ?_; intro a S)
      change ∃ m', _ ∧ _
      (replace S := S.drop1; refine ⟨k0.length - (i + 1), by omega, i + 1, rfl, by omega, by rw [hfi, find_from hx, if_neg (by simpa using (by assumption : ¬ x.1 = eh.nm))], ?_⟩; refine S.keep ?_; exact zk)
    (refine wp_exit ?_; conv => whnf)
    clear hZ Z
    (refine hZ _ _ ?_; clear hZ Z)
    (refine wp_seq_k ?_; intro Z hZ)
    (refine wpc_mixM [0, 1, 2, 3, 5] [2, 3] [] (.one 0 (.one 1 (.one 2 (.one 3 (.one 4 (.one 5 (.one 6 (.one 7 (.one 8 (.one 9 .nil)))))))))) [b3, b4] S mixed (by kernel_rfl) ?_; clear S; intro w S)
    (revert S a; refine go 5 ?_; intro a S)
    (refine wcF S (cownCt VL.size F vh VL _ (Nat.le_refl _) hv56 hvth hV) ?_; clear S a; intro u9 F5 a w hv hF5 S; obtain ⟨cs4, rfl, hV4⟩ := hv; obtain ⟨a4, c4, rfl, hT4, -⟩ := vac_sl hV4)
    (revert S a; refine go 3 ?_; intro a S)
    (refine wpl_buildSlice S rfl rfl rfl rfl rfl rfl (by rfl) (by simp [Value.cells, splice, splice]) rfl (by rfl) (by rfl) ?_; clear S a; intro b52 a w hown2 S)
    (revert S a; refine go 2 ?_; intro a S)
    (refine wpl_appendOwn S rfl rfl rfl rfl rfl rfl hown hown2 (by rfl) (by simp [Value.cells, Value.oneCell', splice, splice]) (by omega) (by omega) ?_; clear hown S a; intro v g a w hown S)
    (revert S a; revert hZ Z; refine go 9 ?_; intro a S)
    refine wp_ret ?_
    (first | (have h9 : eh.k = 3 ∨ eh.k = 1 := (by omega); replace S := S.drop1.drop1) | (have h9 : eh.k = 2 := (by omega); first | (replace S : St _ _ _ _ _ _ [_] _ _ := S.drop1.drop1.drop1) | (replace S : St _ _ _ _ _ _ [_] _ _ := S.drop1.drop1)) | (have h9 : i = xl.len := (by omega); replace S := cDrop (A := [g]) S) | (replace S := cDrop (A := [[]]) S.nilg))
    refine fin_ret S (results2 Tryz.results36 (RV.tmp S rfl) (RV.tmp S rfl)) ?_
    exact zzCp0
  refine wp_skip ?_
  (refine hZ _ _ ?_; clear hZ Z)
  (refine wp_seq_k ?_; intro Z hZ)
  replace hZ : ∀ (a' : Act) (w' : World), (mtE eh xl (vh, VL) k0 = mtL xl VL k0 ∧ xl.len = VL.len ∧ St 111 [(2, .slice a0 k0.length c0), (3, ptr b3), (4, ptr b4)] w0 F (keys [g0]) F [[(b4, .cells ⟨[.int .u8 (vh.k : Int), .int .i64 vh.n, .string (bs vh.s), .slice av VL.len cv]⟩ 26 (0, 0))], [(b3, .cells ⟨[.int .u8 (eh.k : Int), .int .i64 eh.l, .int .i64 eh.c, .string (bs eh.nm), .int .u8 (eh.v.k : Int), .int .i64 eh.v.n, .string (bs eh.v.s), .slice aw nw cw, .slice ao xl.len cap]⟩ 29 (0, 0))], g0] a' w') → Z a' w' := (by
   (intro a w hM; refine hZ _ _ ?_; clear hZ Z; clear S; obtain ⟨hme, hlen, S⟩ := hM)
   (revert S a; refine go 9 ?_; intro Z hZ a S)
   refine wpc_loop (fun m a w' => ∃ (i : Nat) (v1 : Value) (k1 : List Bd) (g : Grp) (x1 : List Value) (F3 : Heap), m = xl.len - i ∧ i ≤ xl.len ∧ (∀ b o, F b = some o → F3 b = some o) ∧ OwnS 44 5 v1 k1.length x1 g ∧ LiC F3 5 BvR x1 k1 ∧ mtL (xl.drop i) (VL.drop i) k1 = mtL xl VL k0 ∧ k1.length + szB q (xl.drop i) (VL.drop i) ≤ 1000000000 ∧ St 111 [(2, v1), (4, ptr b4), (89, .slice ao xl.len cap), (90, .int .i64 xl.len), (91, .int .i64 i)] w0 F (keys [g0]) F3 [g, [(b4, .cells ⟨[.int .u8 (vh.k : Int), .int .i64 vh.n, .string (bs vh.s), .slice av VL.len cv]⟩ 26 (0, 0))], [(b3, .cells ⟨[.int .u8 (eh.k : Int), .int .i64 eh.l, .int .i64 eh.c, .string (bs eh.nm), .int .u8 (eh.v.k : Int), .int .i64 eh.v.n, .string (bs eh.v.s), .slice aw nw cw, .slice ao xl.len cap]⟩ 29 (0, 0))]] a w') ?_ ?_
   · (replace S := cRot (A := [[(b4, _)], [(b3, _)]]) (B := [g0]) S; refine ⟨xl.len, 0, _, k0, g0, x0, F, by omega, Nat.zero_le _, fun _ _ h => h, hown0, hl0, rfl, hk0, ?_⟩; refine S.keep ?_; exact zk)
   (clear S hown; rintro m a w ⟨i, v1, k1, g, x1, F3, rfl, hil, hF3, hown, hl1, hml, hkn, S⟩)
   (revert S a; refine go 5 ?_; intro Z hZ a S)
   refine wpc_sp S rfl ?_ ?_ <;> intro h
   · (revert S a; revert hZ Z; refine go 4 ?_; intro Z hZ a S)
     (refine wp_seq_k ?_; intro Z hZ)
     (obtain ⟨b8, o8, hao, x, cs1, u1, hx, hc1, hw9, hT1⟩ := TrM.pos hpos (k := i) (by omega); obtain ⟨b7, o7, hav, y, cs2, u2, hy, hd1, hw8, hT2y⟩ := TrM.pos hposV (k := i) (by omega); rw [hao, hav] at S; obtain ⟨rfl, hsl⟩ := hw8; have hVy : VaC F3 _ y.1 y.2 := VaC.mono hF3 ⟨u2, rfl, hT2y, hsl⟩; have hTc := hT2y; obtain ⟨a93, c93, rfl, -⟩ := hTc; replace hd1 := Cels.mono hF3 hd1; (simp only [List.cons_append, List.nil_append] at hd1); have hXx := (pxc_of hw9 hT1).mono hF3; have hXc := hXx; obtain ⟨a91, n91, c91, a92, c92, exx, -, -⟩ := hXc; replace hc1 := Cels.mono hF3 hc1; rw [exx] at hc1 hXx; have hbx := hbl.get hx; obtain ⟨hy56, hyth⟩ := hvth.get hy; have hxs := Rose.size_get hx; have hdz : (xl.drop i).size = x.2.size + (xl.drop (i + 1)).size + 1 := (by rw [Rose.drop_get hx]; rfl); have hdq := szB_drop q hx hy)
     (revert S a; refine go 4 ?_; intro a S)
     (refine wpl_alloc S rfl rfl rfl rfl ?_; clear S a; intro b11 a w S)
     (revert S a; refine go 1 ?_; intro a S)
     (refine wso S rfl rfl ?_; clear S; intro w S)
     (revert S a; revert hZ Z; refine go 6 ?_; intro a S)
     (refine wp_seq_k ?_; intro Z hZ)
     (refine wpc_mixM [0, 1, 2, 3, 4, 5, 6, 8, 9, 10] [0, 2, 5] [] (.one 0 (.one 1 (.one 2 (.one 3 (.one 4 (.one 5 (.one 6 (.one 7 (.one 8 (.one 9 (.one 10 (.one 11 (.one 12 .nil))))))))))))) [b11, b4] S mixed (by kernel_rfl) ?_; clear S; intro w S)
     (revert S a; refine go 8 ?_; intro a S)
     (refine wpl_call (Gs := [g]) (Gr := [[(b11, _)], [(b4, _)], [(b3, _)]]) S rfl rfl rfl rfl rfl rfl (ih F3 x.1 x.2 _ y.1 y.2 _ v1 k1 g x1 (by omega) (by omega) hXx hbx.1 hbx.2 hVy hy56 hyth hown hl1) rfl permG2 ?_; clear S a; intro u9 F4 G4 a w hv hF4 S; obtain ⟨v9, a9, g9, x9, rfl, rfl, hown9, hl9, hr9⟩ := hv; (simp only [List.singleton_append] at S))
     (revert S a; revert hZ Z; refine go 17 ?_; intro a S)
     refine wpc_sp S rfl ?_ ?_ <;> intro h
     · (revert S a; refine go 5 ?_; intro a S)
       refine wp_ret ?_
       (first | (have h9 : eh.k = 3 ∨ eh.k = 1 := (by omega); replace S := S.drop1.drop1) | (have h9 : eh.k = 2 := (by omega); first | (replace S : St _ _ _ _ _ _ [_] _ _ := S.drop1.drop1.drop1) | (replace S : St _ _ _ _ _ _ [_] _ _ := S.drop1.drop1)) | (have h9 : i = xl.len := (by omega); replace S := cDrop (A := [g]) S) | (replace S := cDrop (A := [[]]) S.nilg))
       refine fin_ret S (results2 Tryz.results36 (RV.tmp S rfl) (RV.tmp S rfl)) ?_
       exact zzCp0
     (revert S a; revert hZ Z; refine go 6 ?_; intro a S)
     change ∃ m', _ ∧ _
     (replace S : St _ _ _ _ _ F4 [[(b11, _)], g9, [(b4, _)], [(b3, _)]] _ _ := St.permI S 4 rfl [1, 0, 2, 3] (by decide); replace S := S.drop1; rw [← hao, ← hav] at S; have hb9 : (mtE x.1 x.2 (y.1, y.2) k1).isSome = true := (by assumption); have e8 : mtE x.1 x.2 y k1 = some a9 := (by rcases hr9 with e | e; rw [e] at hb9; cases hb9; exact e); have h8 := mtE_len q e8; refine ⟨xl.len - (i + 1), by omega, i + 1, v9, a9, g9, x9, F4, rfl, by omega, fun b o h => hF4 _ _ (hF3 _ _ h), hown9, hl9, by rw [← hml, mtL_at hx hy, e8]; rfl, by omega, ?_⟩; refine S.keep ?_; exact zk)
   (refine wp_exit ?_; conv => whnf)
   clear hZ Z
   (revert S a; revert hZ Z; refine go 7 ?_; intro a S)
   refine wp_ret ?_
   (first | (have h9 : eh.k = 3 ∨ eh.k = 1 := (by omega); replace S := S.drop1.drop1) | (have h9 : eh.k = 2 := (by omega); first | (replace S : St _ _ _ _ _ _ [_] _ _ := S.drop1.drop1.drop1) | (replace S : St _ _ _ _ _ _ [_] _ _ := S.drop1.drop1)) | (have h9 : i = xl.len := (by omega); replace S := cDrop (A := [g]) S) | (replace S := cDrop (A := [[]]) S.nilg))
   refine fin_ret S (results2 Tryz.results36 (RV.tmp S rfl) (RV.tmp S rfl)) ?_
   (first | (exfalso; clear S; omega) | (have h99 := h9; have h98 := hme; exact mt_some (b := true) (by rw [hme, ← hml, Rose.drop_len (by omega)]; rfl) hown hl1) | (have h98 := hme; have hb9 : (mtE x.1 x.2 (y.1, y.2) k1).isSome = false := (by assumption); have e8 : mtE x.1 x.2 y k1 = none := (by rcases hr9 with e | e; exact e; rw [e] at hb9; cases hb9); exact mt_none (by rw [hme, ← hml, mtL_at hx hy, e8]; rfl)) | exact mt_some (a := k0 ++ [(eh.nm, (vh, VL))]) (mt_2n (by omega) (by rw [hfi, List.drop_of_length_le (by omega)]; rfl)) (by rw [List.length_append]; exact hown) (LiC.app (hl0.mono hF5) (LiC.one rfl ⟨_, _, rfl, ⟨_, rfl, hT4, hsv⟩⟩)) | exact mt_some (mt_3 (by omega)) hown0 hl0 | exact mt_some (mt_1 (by omega)) hown0 hl0 | exact mt_some (mt_2 (by omega) (by rw [hfi, find_from hx, if_pos (by assumption)])) hown0 hl0 | exact mt_none (mt_s (by omega) (by omega) (by omega) (by first | (right; right; show xl.len ≠ VL.len; omega) | (left; exact ⟨by omega, by show vh.k ≠ 5; omega⟩) | (right; left; exact ⟨by omega, .inl (by show vh.k ≠ 6; omega)⟩) | (right; left; exact ⟨by omega, .inr (by assumption)⟩))) | trace_state))
  (revert S a; refine go 5 ?_; intro Z hZ a S)
  refine wgd S ?_ ?_
  · (clear S; intro h S)
    (revert S a; refine go 7 ?_; intro a S)
    refine wgd S ?_ ?_
    · (clear S; intro h S)
      (revert S a; refine go 7 ?_; intro a S)
      refine wgd S ?_ ?_
      · (clear S; intro h S)
        (revert S a; refine go 7 ?_; intro a S)
        refine wgd S ?_ ?_
        · (clear S; intro h S)
          (revert S a; refine go 15 ?_; intro a S)
          refine wgd S ?_ ?_
          · (clear S; intro h S)
            (revert S a; revert hZ Z; refine go 16 ?_; intro a S)
            refine wpc_sp S rfl ?_ ?_ <;> intro h
            · (revert S a; refine go 5 ?_; intro a S)
              refine wp_ret ?_
              (first | (have h9 : eh.k = 3 ∨ eh.k = 1 := (by omega); replace S := S.drop1.drop1) | (have h9 : eh.k = 2 := (by omega); first | (replace S : St _ _ _ _ _ _ [_] _ _ := S.drop1.drop1.drop1) | (replace S : St _ _ _ _ _ _ [_] _ _ := S.drop1.drop1)) | (have h9 : i = xl.len := (by omega); replace S := cDrop (A := [g]) S) | (replace S := cDrop (A := [[]]) S.nilg))
              refine fin_ret S (results2 Tryz.results36 (RV.tmp S rfl) (RV.tmp S rfl)) ?_
              exact zzCp0
            refine wp_skip ?_
            (refine hZ _ _ ?_)
            exact zzCp1
          (clear S a; intro h a S)
          (revert S a; revert hZ Z; refine go 9 ?_; intro a S)
          refine wpc_true S rfl ?_
          (revert S a; refine go 5 ?_; intro a S)
          refine wp_ret ?_
          (first | (have h9 : eh.k = 3 ∨ eh.k = 1 := (by omega); replace S := S.drop1.drop1) | (have h9 : eh.k = 2 := (by omega); first | (replace S : St _ _ _ _ _ _ [_] _ _ := S.drop1.drop1.drop1) | (replace S : St _ _ _ _ _ _ [_] _ _ := S.drop1.drop1)) | (have h9 : i = xl.len := (by omega); replace S := cDrop (A := [g]) S) | (replace S := cDrop (A := [[]]) S.nilg))
          refine fin_ret S (results2 Tryz.results36 (RV.tmp S rfl) (RV.tmp S rfl)) ?_
          exact zzCp0
        (clear S a; intro h a S)
        (revert S a; revert hZ Z; refine go 20 ?_; intro a S)
        refine wpc_true S rfl ?_
        (revert S a; refine go 5 ?_; intro a S)
        refine wp_ret ?_
        (first | (have h9 : eh.k = 3 ∨ eh.k = 1 := (by omega); replace S := S.drop1.drop1) | (have h9 : eh.k = 2 := (by omega); first | (replace S : St _ _ _ _ _ _ [_] _ _ := S.drop1.drop1.drop1) | (replace S : St _ _ _ _ _ _ [_] _ _ := S.drop1.drop1)) | (have h9 : i = xl.len := (by omega); replace S := cDrop (A := [g]) S) | (replace S := cDrop (A := [[]]) S.nilg))
        refine fin_ret S (results2 Tryz.results36 (RV.tmp S rfl) (RV.tmp S rfl)) ?_
        exact zzCp0
      (clear S a; intro h a S)
      (revert S a; revert hZ Z; refine go 30 ?_; intro a S)
      refine wpc_sp S rfl ?_ ?_ <;> intro h
      · (revert S a; refine go 5 ?_; intro a S)
        refine wp_ret ?_
        (first | (have h9 : eh.k = 3 ∨ eh.k = 1 := (by omega); replace S := S.drop1.drop1) | (have h9 : eh.k = 2 := (by omega); first | (replace S : St _ _ _ _ _ _ [_] _ _ := S.drop1.drop1.drop1) | (replace S : St _ _ _ _ _ _ [_] _ _ := S.drop1.drop1)) | (have h9 : i = xl.len := (by omega); replace S := cDrop (A := [g]) S) | (replace S := cDrop (A := [[]]) S.nilg))
        refine fin_ret S (results2 Tryz.results36 (RV.tmp S rfl) (RV.tmp S rfl)) ?_
        exact zzCp0
      refine wp_skip ?_
      (refine hZ _ _ ?_)
      exact zzCp1
    (clear S a; intro h a S)
    (revert S a; revert hZ Z; refine go 26 ?_; intro a S)
    refine wpc_true S rfl ?_
    (revert S a; refine go 5 ?_; intro a S)
    refine wp_ret ?_
    (first | (have h9 : eh.k = 3 ∨ eh.k = 1 := (by omega); replace S := S.drop1.drop1) | (have h9 : eh.k = 2 := (by omega); first | (replace S : St _ _ _ _ _ _ [_] _ _ := S.drop1.drop1.drop1) | (replace S : St _ _ _ _ _ _ [_] _ _ := S.drop1.drop1)) | (have h9 : i = xl.len := (by omega); replace S := cDrop (A := [g]) S) | (replace S := cDrop (A := [[]]) S.nilg))
    refine fin_ret S (results2 Tryz.results36 (RV.tmp S rfl) (RV.tmp S rfl)) ?_
    exact zzCp0
  (clear S a; intro h a S)
  (revert S a; refine go 12 ?_; intro a S)
  refine wgd S ?_ ?_
  · (clear S; intro h S)
    (revert S a; refine go 7 ?_; intro a S)
    refine wgd S ?_ ?_
    · (clear S; intro h S)
      (revert S a; refine go 15 ?_; intro a S)
      refine wgd S ?_ ?_
      · (clear S; intro h S)
        (revert S a; revert hZ Z; refine go 16 ?_; intro a S)
        refine wpc_sp S rfl ?_ ?_ <;> intro h
        · (revert S a; refine go 5 ?_; intro a S)
          refine wp_ret ?_
          (first | (have h9 : eh.k = 3 ∨ eh.k = 1 := (by omega); replace S := S.drop1.drop1) | (have h9 : eh.k = 2 := (by omega); first | (replace S : St _ _ _ _ _ _ [_] _ _ := S.drop1.drop1.drop1) | (replace S : St _ _ _ _ _ _ [_] _ _ := S.drop1.drop1)) | (have h9 : i = xl.len := (by omega); replace S := cDrop (A := [g]) S) | (replace S := cDrop (A := [[]]) S.nilg))
          refine fin_ret S (results2 Tryz.results36 (RV.tmp S rfl) (RV.tmp S rfl)) ?_
          exact zzCp0
        refine wp_skip ?_
        (refine hZ _ _ ?_)
        exact zzCp1
      (clear S a; intro h a S)
      (revert S a; revert hZ Z; refine go 9 ?_; intro a S)
      refine wpc_true S rfl ?_
      (revert S a; refine go 5 ?_; intro a S)
      refine wp_ret ?_
      (first | (have h9 : eh.k = 3 ∨ eh.k = 1 := (by omega); replace S := S.drop1.drop1) | (have h9 : eh.k = 2 := (by omega); first | (replace S : St _ _ _ _ _ _ [_] _ _ := S.drop1.drop1.drop1) | (replace S : St _ _ _ _ _ _ [_] _ _ := S.drop1.drop1)) | (have h9 : i = xl.len := (by omega); replace S := cDrop (A := [g]) S) | (replace S := cDrop (A := [[]]) S.nilg))
      refine fin_ret S (results2 Tryz.results36 (RV.tmp S rfl) (RV.tmp S rfl)) ?_
      exact zzCp0
    (clear S a; intro h a S)
    (revert S a; revert hZ Z; refine go 20 ?_; intro a S)
    refine wpc_true S rfl ?_
    (revert S a; refine go 5 ?_; intro a S)
    refine wp_ret ?_
    (first | (have h9 : eh.k = 3 ∨ eh.k = 1 := (by omega); replace S := S.drop1.drop1) | (have h9 : eh.k = 2 := (by omega); first | (replace S : St _ _ _ _ _ _ [_] _ _ := S.drop1.drop1.drop1) | (replace S : St _ _ _ _ _ _ [_] _ _ := S.drop1.drop1)) | (have h9 : i = xl.len := (by omega); replace S := cDrop (A := [g]) S) | (replace S := cDrop (A := [[]]) S.nilg))
    refine fin_ret S (results2 Tryz.results36 (RV.tmp S rfl) (RV.tmp S rfl)) ?_
    exact zzCp0
  (clear S a; intro h a S)
  (revert S a; revert hZ Z; refine go 30 ?_; intro a S)
  refine wpc_sp S rfl ?_ ?_ <;> intro h
  · (revert S a; refine go 5 ?_; intro a S)
    refine wp_ret ?_
    (first | (have h9 : eh.k = 3 ∨ eh.k = 1 := (by omega); replace S := S.drop1.drop1) | (have h9 : eh.k = 2 := (by omega); first | (replace S : St _ _ _ _ _ _ [_] _ _ := S.drop1.drop1.drop1) | (replace S : St _ _ _ _ _ _ [_] _ _ := S.drop1.drop1)) | (have h9 : i = xl.len := (by omega); replace S := cDrop (A := [g]) S) | (replace S := cDrop (A := [[]]) S.nilg))
    refine fin_ret S (results2 Tryz.results36 (RV.tmp S rfl) (RV.tmp S rfl)) ?_
    exact zzCp0
  refine wp_skip ?_
  (refine hZ _ _ ?_)
  exact zzCp1
theorem zzCq0 {p : Prop} (h : p := by (first | (have h9 := hown; rw [List.flatMap_nil, List.nil_append, Nat.zero_add] at hown; exact ⟨_, _, rfl, hown, hxc⟩) | (have hz : l = [] := (by cases l with | nil => rfl | cons x r => (exfalso; obtain ⟨b, o, e, -⟩ := hxp (by simp); have hno : ao.isNone = true := (by assumption); rw [e] at hno; cases hno)); subst hz; exact ⟨[], [], rfl, OwnS.nil _ _, rfl⟩) | trace_state)) : p := h
theorem cloneBCt (F : Heap) (v : Value) (l : List Bd) (h : LiM F 5 BvR v l) (hl : l.length ≤ 1000000000) : Ct Tryz.prog 37 [v] F [] (fun _ G' u => ∃ g xs, G' = [g] ∧ OwnS 44 5 u l.length xs g ∧ LiC F 5 BvR xs l) := by
 obtain ⟨ao, cap, xs, rfl, hxc, hxp⟩ := h.flat
 have hxl := hxc.len
 have hx1 := hxc.one'
 refine Ct.enter Tryz.func37 rfl Tryz.ntmps37 rfl fun w0 a S => ?_
 (revert S a; refine go 10 ?_; intro Z hZ a S)
 refine wpc_sp S rfl ?_ ?_ <;> intro h
 ·(revert S a; refine go 4 ?_; intro a S)
  refine wp_ret ?_
  (first | (have h9 := hown; skip) | (replace S := S.nilg))
  refine fin_ret S (results1 Tryz.results37 (RV.tmp S rfl)) ?_
  exact zzCq0
 (revert S a; revert hZ Z; refine go 3 ?_; intro Z hZ a S)
 (refine wpl_buildSlice S rfl rfl rfl rfl rfl rfl (by rfl) (by simp [Value.cells, splice, splice]) rfl (by rfl) (by rfl) ?_; clear S a; intro b5 a w hown S)
 (revert S a; refine go 1 ?_; intro a S)
 (refine wpl_appendSl S rfl rfl rfl rfl rfl rfl hown (by rfl) hxl hxp hx1 (by omega) (by omega) ?_; clear hown S a; intro v g a w hown S)
 (revert S a; revert hZ Z; refine go 3 ?_; intro a S)
 refine wp_ret ?_
 (first | (have h9 := hown; skip) | (replace S := S.nilg))
 refine fin_ret S (results1 Tryz.results37 (RV.tmp S rfl)) ?_
 exact zzCq0
def MatF (h : EH) (L : Ef) (v : Vv) (l : List Bd) : Option (List Bd) := if patZ h L = true ∧ mayV v = true then mtE h L v l else none
theorem permG1 {g : Grp} {B : List Grp} : (g :: B).flatten.Perm ([g].flatten ++ B.flatten) := by simp
theorem mat_none {h : EH} {L : Ef} {v : Vv} {l : List Bd} (e : patZ h L = false ∨ mayV v = false ∨ mtE h L v l = none) : MatF h L v l = none := by
 unfold MatF
 rcases e with e | e | e
 ·rw [if_neg]; rintro ⟨a, -⟩; rw [e] at a; cases a
 ·rw [if_neg]; rintro ⟨-, a⟩; rw [e] at a; cases a
 ·rw [e]; split <;> rfl
def MaP (r : Option (List Bd)) (F' : Heap) (G' : List Grp) (u : Value) : Prop := (r = none ∧ u = .tuple ⟨[.slice none 0 0, .bool false]⟩) ∨ ∃ (v : Value) (a : List Bd) (g : Grp) (xs : List Value), r = some a ∧ u = .tuple ⟨[v, .bool true]⟩ ∧ G' = [g] ∧ OwnS 44 5 v a.length xs g ∧ LiC F' 5 BvR xs a
theorem zzCq1 {p : Prop} (h : p := by (first | (have hb9 : (mtE eh xl (vh, VL) k0).isSome = true := (by assumption); have e8 : mtE eh xl (vh, VL) k0 = some a9 := (by rcases hr9 with e | e; rw [e] at hb9; cases hb9; exact e); refine .inr ⟨_, a9, g9, x9, ?_, rfl, rfl, hown9, hl9⟩; unfold MatF; rw [if_pos, e8]; refine ⟨by assumption, ?_⟩; unfold mayV; rw [decide_eq_true_eq]; omega) | exact .inl ⟨mat_none (.inl (by assumption)), rfl⟩ | exact .inl ⟨mat_none (.inr (.inl (by unfold mayV; rw [decide_eq_false_iff_not]; omega))), rfl⟩ | (have hb9 : (mtE eh xl (vh, VL) k0).isSome = false := (by assumption); have e8 : mtE eh xl (vh, VL) k0 = none := (by rcases hr9 with e | e; exact e; rw [e] at hb9; cases hb9); exact .inl ⟨mat_none (.inr (.inr e8)), rfl⟩) | trace_state)) : p := h
theorem MatchCt (F : Heap) (hM : MaxF F) (eh : EH) (xl : Ef) (cs : List Value) (vh : VH) (VL : Vf) (cs2 : List Value) (v0 : Value) (k0 : List Bd) (hk0 : k0.length + min xl.size VL.size ≤ 1000000000) (hX : PxC F cs eh xl) (hb : BndH eh) (hbl : BndL xl) (hV : VaC F cs2 vh VL) (h56 : VL.len * 56 ≤ 140737488355328) (hth : ThV VL) (hl0 : LiM F 5 BvR v0 k0) :
  Ct Tryz.prog 13 [.agg ⟨cs⟩, .agg ⟨cs2⟩, v0] F [] (fun F' G' u => MaP (MatF eh xl (vh, VL) k0) F' G' u) := by
 obtain ⟨q, hq⟩ : ∃ q, k0.length + szB q xl VL ≤ 1000000000 := by
  by_cases h : xl.size ≤ VL.size
  ·exact ⟨true, by show _ + xl.size ≤ _; omega⟩
  ·exact ⟨false, by show _ + VL.size ≤ _; omega⟩
 have h1 := PatternCt F eh xl cs hM hb hbl hX
 have h2 := checkUCt F vh VL cs2 hV
 have h3 := cloneBCt F v0 k0 hl0 (by omega)
 have hXc := hX
 obtain ⟨aw, nw, cw, ao, cap, rfl, -, -⟩ := hXc
 obtain ⟨av, cv, rfl, -, -⟩ := vac_sl hV
 obtain ⟨a0, c0, rfl, -, -⟩ := hl0
 refine Ct.enter Tryz.func13 rfl Tryz.ntmps13 rfl fun w0 a S => ?_
 refine wp_sr fun Z hZ => ?_
 (refine wbx S ?_; clear S a; intro b3 a w S)
 (refine wbx S ?_; clear S a; intro b4 a w S)
 (revert S a; revert hZ Z; refine go 7 ?_; intro Z hZ Z hZ a S)
 (refine wc0 S (h1) ?_; clear S a; intro v a w hv S; subst hv)
 (revert S a; refine go 2 ?_; intro a S)
 refine wgd S ?_ ?_
 ·(clear S; intro h S)
  (revert S a; refine go 2 ?_; intro a S)
  (refine wc0 S (h2) ?_; clear S a; intro v a w hv S; subst hv)
  (revert S a; revert hZ Z; refine go 5 ?_; intro a S)
  refine wpc_sp S rfl ?_ ?_ <;> intro h
  ·(revert S a; refine go 5 ?_; intro a S)
   refine wp_ret ?_
   (first | (have hb9 : (mtE eh xl (vh, VL) k0).isSome = true := (by assumption); replace S := cDrop (A := [g9]) S) | (replace S := cDrop (A := [[]]) S.nilg))
   refine fin_ret S (results2 Tryz.results13 (RV.tmp S rfl) (RV.tmp S rfl)) ?_
   exact zzCq1
  refine wp_skip ?_
  (refine hZ _ _ ?_; clear hZ Z)
  (refine wp_seq_k ?_; intro Z hZ)
  (refine wpc_mixM [0, 1, 2, 5, 6, 7] [0, 1] [] (.one 0 (.one 1 (.one 2 (.one 3 (.one 4 (.one 5 (.one 6 (.one 7 (.one 8 (.one 9 .nil)))))))))) [b3, b4] S mixed (by kernel_rfl) ?_; clear S; intro w S)
  (revert S a; refine go 4 ?_; intro a S)
  (refine wpl_call (Gs := []) (Gr := [[(b4, _)], [(b3, _)]]) S rfl rfl rfl rfl rfl rfl h3 rfl (by exact List.Perm.refl _) ?_; clear S a; intro vT F4 G9 a w hv hF4 S; obtain ⟨gT, xT, rfl, hown, hxT⟩ := hv; have hown9 := hown.at; obtain ⟨aT, cT, rfl, -⟩ := hown9; (simp only [List.singleton_append] at S))
  (revert S a; refine go 2 ?_; intro a S)
  (refine wpl_call (Gs := [gT]) (Gr := [[(b4, _)], [(b3, _)]]) S rfl rfl rfl rfl rfl rfl (matchCt q (xl.size + 1) F4 eh xl _ vh VL _ _ k0 gT xT (Nat.lt_succ_self _) hq (hX.mono hF4) hb hbl (hV.mono hF4) h56 hth hown (hxT.mono hF4)) rfl permG1 ?_; clear S a; intro u9 F5 G5 a w hv hF5 S; obtain ⟨v9, a9, g9, x9, rfl, rfl, hown9, hl9, hr9⟩ := hv; (simp only [List.singleton_append] at S))
  (revert S a; revert hZ Z; refine go 18 ?_; intro Z hZ a S)
  refine wpc_sp S rfl ?_ ?_ <;> intro h
  ·(revert S a; refine go 5 ?_; intro a S)
   refine wp_ret ?_
   (first | (have hb9 : (mtE eh xl (vh, VL) k0).isSome = true := (by assumption); replace S := cDrop (A := [g9]) S) | (replace S := cDrop (A := [[]]) S.nilg))
   refine fin_ret S (results2 Tryz.results13 (RV.tmp S rfl) (RV.tmp S rfl)) ?_
   exact zzCq1
  (revert S a; revert hZ Z; refine go 8 ?_; intro a S)
  refine wp_ret ?_
  (first | (have hb9 : (mtE eh xl (vh, VL) k0).isSome = true := (by assumption); replace S := cDrop (A := [g9]) S) | (replace S := cDrop (A := [[]]) S.nilg))
  refine fin_ret S (results2 Tryz.results13 (RV.tmp S rfl) (RV.tmp S rfl)) ?_
  exact zzCq1
 (clear S a; intro h a S)
 (revert S a; revert hZ Z; refine go 5 ?_; intro a S)
 refine wpc_true S rfl ?_
 (revert S a; refine go 5 ?_; intro a S)
 refine wp_ret ?_
 (first | (have hb9 : (mtE eh xl (vh, VL) k0).isSome = true := (by assumption); replace S := cDrop (A := [g9]) S) | (replace S := cDrop (A := [[]]) S.nilg))
 refine fin_ret S (results2 Tryz.results13 (RV.tmp S rfl) (RV.tmp S rfl)) ?_
 exact zzCq1
end Go.Proofs.YthnafdbebniapaaGreatDoor
