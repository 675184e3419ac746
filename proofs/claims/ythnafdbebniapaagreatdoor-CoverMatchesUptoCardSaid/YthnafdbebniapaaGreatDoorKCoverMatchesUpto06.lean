/- Walks. -/
import Derived.Test.YthnafdbebniapaaGreatDoorKCoverMatchesUpto02
import Derived.Test.YthnafdbebniapaaGreatDoorKCoverMatchesUpto05
import Derived.Test.YthnafdbebniapaaGreatDoorQ22
import Derived.Test.YthnafdbebniapaaGreatDoorQ21
import Derived.Test.YthnafdbebniapaaGreatDoorQ18
import Derived.Test.YthnafdbebniapaaGreatDoorQ08
import Derived.Test.YthnafdbebniapaaGreatDoorKCoverMatchesUptoTy
import Derived.Test.YthnafdbebniapaaGreatDoorQ17
import Derived.Test.YthnafdbebniapaaGreatDoorQ11
import Derived.Test.YthnafdbebniapaaGreatDoorQ10
import Derived.Test.YthnafdbebniapaaGreatDoorQ09
import Derived.Test.YthnafdbebniapaaGreatDoorQ06
import Derived.Test.YthnafdbebniapaaGreatDoorQ05
import Derived.Test.YthnafdbebniapaaGreatDoorQ04
import Derived.Test.YthnafdbebniapaaGreatDoorQ03
import Derived.Test.YthnafdbebniapaaGreatDoorQ02
import Derived.Test.YthnafdbebniapaaGreatDoorKCoverMatchesUpto01
import Derived.Test.YthnafdbebniapaaGreatDoorQShelf
import Derived.Test.YthnafdbebniapaaGreatDoorQ20
import Derived.Test.YthnafdbebniapaaGreatDoorQ12
import Derived.Test.YthnafdbebniapaaGreatDoorQ19
import Derived.Test.YthnafdbebniapaaGreatDoorQ13
import Derived.Test.YthnafdbebniapaaGreatDoorQ16
import Derived.Test.YthnafdbebniapaaGreatDoorQ15
import Derived.Test.YthnafdbebniapaaGreatDoorQ14
set_option maxHeartbeats 16000000
set_option maxRecDepth 20000
namespace Go.Proofs.YthnafdbebniapaaGreatDoor
open Go Go.Wk Go.Un Go.De Go.Cv
set_option linter.unusedSimpArgs false
set_option linter.unusedVariables false
attribute [local irreducible] Go.wpList Go.Code.wp Go.wpStill Go.Wk.wpPre Go.bodyPost Go.Calls Go.Wk.Ct Go.Wk.OwnS Go.Wk.wpG Go.Wk.wpM
def FdQ (l : List Bd) (s : List UInt8) (u : Value) : Prop := ∃ i : Int, u = .int .i64 i ∧ ((∃ (n : Nat) (x : Bd), i = (n : Int) ∧ l[n]? = some x ∧ findB l s = some x) ∨ (i = -1 ∧ findB l s = none))
theorem zzMtA0 {p : Prop} (h : p := by (first | exact ⟨_, rfl, .inl ⟨i, x, rfl, hx, by rw [hfi, find_from hx, if_pos (by assumption)]⟩⟩ | exact ⟨_, rfl, .inr ⟨rfl, by rw [hfi, List.drop_of_length_le (by omega)]; rfl⟩⟩ | trace_state)) : p := h
theorem rfindCt (F : Heap) (l : List Bd) (s : List UInt8) (v : Value) (hL : LiM F 5 BvR v l) : Ct Tryz.prog 67 [v, .string (bs s)] F [] (fun _ _ u => FdQ l s u) := by
 obtain ⟨ao, cap, rfl, hcap, hpos⟩ := hL
 refine Ct.enter Tryz.func67 rfl Tryz.ntmps67 rfl fun w0 a S => ?_
 (revert S a; refine go 10 ?_; intro Z hZ a S)
 refine wpc_loop (fun m a w' => ∃ (i : Nat), m = l.length - i ∧ i ≤ l.length ∧ findB l s = findB (l.drop i) s ∧ St 20 [(0, .slice ao l.length cap), (1, .string (bs s)), (5, .int .i64 (i : Int))] w0 F [] F [] a w') ?_ ?_
 ·(refine ⟨l.length, 0, by omega, Nat.zero_le _, rfl, ?_⟩; refine S.keep ?_; exact zk)
 (clear S; rintro m a w ⟨i, rfl, hil, hfi, S⟩)
 (revert S a; refine go 8 ?_; intro Z hZ a S)
 refine wpc_sp S rfl ?_ ?_ <;> intro h
 ·(revert S a; revert hZ Z; refine go 4 ?_; intro Z hZ a S)
  (refine wp_seq_k ?_; intro Z hZ)
  (obtain ⟨b8, o8, hao, x, cs1, hx, hc1, a91, c91, rfl, hVx⟩ := LiM.pos hpos (k := i) (by omega); rw [hao] at S)
  (revert S a; refine go 5 ?_; intro a S)
  (refine wv S (sv_loadF S rfl rfl (hc1 0 _ rfl)) ?_; clear S a; intro a S)
  (revert S a; revert hZ Z; refine go 4 ?_; intro a S)
  refine wpc_sp S rfl ?_ ?_ <;> intro h
  ·(revert S a; refine go 5 ?_; intro a S)
   refine wp_ret (fr1 S Tryz.results67 ?_)
   exact zzMtA0
  (revert S a; revert hZ Z; refine go 7 ?_; intro a S)
  change ∃ m', _ ∧ _
  (rw [← hao] at S; refine ⟨l.length - (i + 1), by omega, i + 1, rfl, by omega, by rw [hfi, find_from hx, if_neg (by assumption)], ?_⟩; refine S.keep ?_; exact zk)
 (refine wp_exit ?_; conv => whnf)
 clear hZ Z
 (revert S a; revert hZ Z; refine go 5 ?_; intro a S)
 refine wp_ret (fr1 S Tryz.results67 ?_)
 exact zzMtA0
def MrP (r : Option (List Bd)) (F' : Heap) (G' : List Grp) (u : Value) : Prop := (r = none ∧ ∃ v, u = .tuple ⟨[v, .bool false]⟩) ∨ ∃ (v : Value) (a : List Bd) (g : Grp) (xs : List Value), r = some a ∧ u = .tuple ⟨[v, .bool true]⟩ ∧ G' = [g] ∧ OwnS 34 5 v a.length xs g ∧ LiC F' 5 BvR xs a
theorem mr_none {r : Option (List Bd)} {F' : Heap} {G' : List Grp} {v : Value} (e : r = none) : MrP r F' G' (.tuple ⟨[v, .bool false]⟩) := .inl ⟨e, v, rfl⟩
theorem mr_of {r : Option (List Bd)} {F' : Heap} {v : Value} {a : List Bd} {g : Grp} {xs : List Value} {b : Bool} (e : r = if b = true then some a else none) (h1 : OwnS 34 5 v a.length xs g) (h2 : LiC F' 5 BvR xs a) : MrP r F' [g] (.tuple ⟨[v, .bool b]⟩) := by
 cases b with
 | true => exact .inr ⟨v, a, g, xs, by rw [e, if_pos rfl], rfl, rfl, h1, h2⟩
 | false => exact .inl ⟨by rw [e, if_neg (by decide)], v, rfl⟩
theorem mr_S {n : Sz} {d : Nat} {u : Value} {L : List (Nat × Value)} {w0 : World} {F0 : Heap} {K0 : List Nat} {F : Heap} {G G' : List Grp} {a : Act} {w : World} {r : Option (List Bd)} (S : St n ((d, u) :: L) w0 F0 K0 F (G' ++ G) a w) (h : MrP r F G' u) :
  ∃ v b k g xs, u = .tuple ⟨[v, .bool b]⟩ ∧ (b = true → r = some k ∧ OwnS 34 5 v (List.length k) xs g ∧ LiC F 5 BvR xs k) ∧ (b = false → r = none) ∧ St n ((d, u) :: L) w0 F0 K0 F (g :: G) a w := by
 rcases h with ⟨h1, v, h2⟩ | ⟨v, k, g, xs, h1, h2, rfl, h3, h4⟩
 ·exact ⟨v, false, [], [], [], h2, fun h => (by cases h), fun _ => h1, S.fr, S.tr.sub (by rw [List.flatten_append, List.flatten_cons, List.nil_append]; exact List.sublist_append_right _ _)⟩
 ·exact ⟨v, true, k, g, xs, h2, fun _ => ⟨h1, h3, h4⟩, fun h => (by cases h), S⟩
theorem mt_split {h : EH} {L : Ef} {v : Vv} {l : List Bd} (h1 : h.k ≠ 1) (h2 : h.k ≠ 2) (h3 : h.k ≠ 3) (h4 : h.k = 4 → v.1.k = 5) (h5 : h.k = 5 → v.1.k = 6 ∧ v.1.s = h.nm) : mtE h L v l = if L.len = v.2.len then mtL L v.2 l else none := by
 by_cases h6 : L.len = v.2.len
 ·rw [if_pos h6, mt_go h1 h2 h3 h4 h5 h6]
 ·rw [if_neg h6, mt_s h1 h2 h3 (.inr (.inr h6))]
def MrD (q : Bool) (m : Nat) : Prop := ∀ (F : Heap) (eh : EH) (xl : Ef) (cs : List Value) (vh : VH) (VL : Vf) (cs2 : List Value) (v0 : Value) (k0 : List Bd) (g0 : Grp) (x0 : List Value), xl.size < m → k0.length + szB q xl VL ≤ 1000000000 → PxC F cs eh xl → BndH eh → BndL xl → VaC F cs2 vh VL → VL.len * 56 ≤ 140737488355328 → ThV VL → mayV (vh, VL) = true → OwnS 34 5 v0 k0.length x0 g0 → LiC F 5 BvR x0 k0 →
 Ct Tryz.prog 40 [.agg ⟨cs⟩, .agg ⟨cs2⟩, v0] F [g0] (fun F' G' u => MrP (mtE eh xl (vh, VL) k0) F' G' u)
theorem zzMtA1 {p : Prop} (h : p := by (first | (exfalso; clear S; omega) | exact mr_of (b := true) (by rw [hme, if_pos (by omega), ← hml, Rose.drop_len (by omega)]; rfl) hown hl1 | exact mr_none (by rw [hme, if_pos hll, ← hml, mtL_at hx hy, hr0 (by assumption)]; rfl) | exact mr_none (by rw [hme, if_neg (by omega)]) | exact mr_of (b := true) (a := k0 ++ [(eh.nm, (vh, VL))]) (mt_2n (by omega) (by rcases hfd with ⟨n, x, h1, -, -⟩ | h; omega; exact h.2)) (by rw [List.length_append]; exact hown) (LiC.app ((hl0.mono hF44).mono hF45) (LiC.one rfl ⟨_, _, rfl, hVe⟩)) | exact mr_of (b := true) (mt_3 (by omega)) hown0 hl0 | exact mr_of (by rw [same_cmp hmay]; exact mt_1 (by omega)) hown0 hl0 | exact mr_of (by rw [same_cmp hmay]; exact mt_2 (by omega) hfb) hown0 hl0 | exact mr_none (mt_s (by omega) (by omega) (by omega) (by first | (left; exact ⟨by omega, by show vh.k ≠ 5; omega⟩) | (right; left; exact ⟨by omega, .inl (by show vh.k ≠ 6; omega)⟩) | (right; left; exact ⟨by omega, .inr (by assumption)⟩))) | trace_state)) : p := h
theorem zzMtA2 {p : Prop} (h : p := by (refine ⟨mt_split (by omega) (by omega) (by omega) (fun (h9 : eh.k = 4) => show vh.k = 5 by omega) (fun (h9 : eh.k = 5) => ⟨show vh.k = 6 by omega, show vh.s = eh.nm by first | assumption | (exfalso; omega) | simp_all⟩), ?_⟩; refine S.keep ?_; exact zk)) : p := h
theorem matchRCt (q : Bool) : ∀ m, MrD q m := by
  intro m
  induction m with
  | zero => intro F eh xl cs vh VL cs2 v0 k0 g0 x0 hm; omega
  | succ m ih =>
  intro F eh xl cs vh VL cs2 v0 k0 g0 x0 hm hk0 hX hb hbl hV hv56 hvth hmay hown0 hl0
  have hown := hown0
  obtain ⟨aw, nw, cw, ao, cap, rfl, hT2, hT3⟩ := hX
  obtain ⟨_, _, e9, hcap, hpos⟩ := hT3
  cases e9
  have hVc := hV
  obtain ⟨av, cv, rfl, hTV, hsv⟩ := vac_sl hVc
  have hP : VaC F [.int .u8 (eh.v.k : Int), .int .i64 eh.v.n, .string (bs eh.v.s), .slice aw nw cw] eh.v eh.vl := ⟨_, rfl, hT2, hb.2⟩
  obtain ⟨_, _, e9, hcapV, hposV⟩ := hTV
  cases e9
  have hat0 := hown0.at
  obtain ⟨a0, c0, rfl, -⟩ := hat0
  refine Ct.enter Tryz.func40 rfl Tryz.ntmps40 rfl fun w0 a S => ?_
  refine wp_sr fun Z hZ => ?_
  (refine wbx S ?_; clear S a; intro b3 a w S)
  (refine wbx S ?_; clear S a; intro b4 a w S)
  (revert S a; revert hZ Z; refine go 4 ?_; intro a S)
  (refine wp_seq_k ?_; intro Z hZ)
  replace hZ : ∀ (a' : Act) (w' : World), (mtE eh xl (vh, VL) k0 = (if xl.len = VL.len then mtL xl VL k0 else none) ∧ St 106 [(2, .slice a0 k0.length c0), (3, ptr b3), (4, ptr b4)] w0 F (keys [g0]) F [g0, [(b4, .cells ⟨[.int .u8 (vh.k : Int), .int .i64 vh.n, .string (bs vh.s), .slice av VL.len cv]⟩ 26 (0, 0))], [(b3, .cells ⟨[.int .u8 (eh.k : Int), .int .i64 eh.l, .int .i64 eh.c, .string (bs eh.nm), .int .u8 (eh.v.k : Int), .int .i64 eh.v.n, .string (bs eh.v.s), .slice aw nw cw, .slice ao xl.len cap]⟩ 29 (0, 0))]] a' w') → Z a' w' := (by
   (intro a w hM; refine hZ _ _ ?_; clear hZ Z; clear S; obtain ⟨hme, S⟩ := hM)
   (revert S a; refine go 11 ?_; intro Z hZ a S)
   refine wpc_sp S rfl ?_ ?_ <;> intro h
   · (revert S a; refine go 6 ?_; intro a S)
     refine wp_ret ?_
     (try rw [← hsp] at S)
     (try (replace S := cDrop (A := [_]) S))
     refine fin_ret S (results2 Tryz.results40 (RV.tmp S rfl) (RV.tmp S rfl)) ?_
     exact zzMtA1
   (revert S a; revert hZ Z; refine go 8 ?_; intro Z hZ a S)
   refine wpc_loop (fun m a w' => ∃ (i : Nat) (v1 : Value) (k1 : List Bd) (g : Grp) (x1 : List Value) (F3 : Heap), m = xl.len - i ∧ i ≤ xl.len ∧ (∀ b o, F b = some o → F3 b = some o) ∧ OwnS 34 5 v1 k1.length x1 g ∧ LiC F3 5 BvR x1 k1 ∧ mtL (xl.drop i) (VL.drop i) k1 = mtL xl VL k0 ∧ k1.length + szB q (xl.drop i) (VL.drop i) ≤ 1000000000 ∧ St 106 [(2, v1), (3, ptr b3), (4, ptr b4), (9, .int .i64 (i : Int))] w0 F (keys [g0]) F3 [g, [(b4, .cells ⟨[.int .u8 (vh.k : Int), .int .i64 vh.n, .string (bs vh.s), .slice av VL.len cv]⟩ 26 (0, 0))], [(b3, .cells ⟨[.int .u8 (eh.k : Int), .int .i64 eh.l, .int .i64 eh.c, .string (bs eh.nm), .int .u8 (eh.v.k : Int), .int .i64 eh.v.n, .string (bs eh.v.s), .slice aw nw cw, .slice ao xl.len cap]⟩ 29 (0, 0))]] a w') ?_ ?_
   · (refine ⟨xl.len, 0, _, k0, g0, x0, F, by omega, Nat.zero_le _, fun _ _ h => h, hown0, hl0, rfl, hk0, ?_⟩; refine S.keep ?_; exact zk)
   (clear S hown; rintro m a w ⟨i, v1, k1, g, x1, F3, rfl, hil, hF3, hown, hl1, hml, hkn, S⟩)
   (revert S a; refine go 9 ?_; intro Z hZ a S)
   refine wpc_sp S rfl ?_ ?_ <;> intro h
   · (revert S a; revert hZ Z; refine go 4 ?_; intro Z hZ a S)
     (refine wp_seq_k ?_; intro Z hZ)
     (have hll : xl.len = VL.len := (by omega); obtain ⟨b8, o8, hao, x, cs1, u1, hx, hc1, hw9, hT1⟩ := TrM.pos hpos (k := i) (by omega); obtain ⟨b7, o7, hav, y, cs2, u2, hy, hd1, hw8, hT2y⟩ := TrM.pos hposV (k := i) (by omega); rw [hao, hav] at S; obtain ⟨rfl, hsl⟩ := hw8; have hVy : VaC F3 _ y.1 y.2 := VaC.mono hF3 ⟨u2, rfl, hT2y, hsl⟩; have hTc := hT2y; obtain ⟨a93, c93, rfl, -⟩ := hTc; replace hd1 := Cels.mono hF3 hd1; (simp only [List.cons_append, List.nil_append] at hd1); have hXx := (pxc_of hw9 hT1).mono hF3; have hXc := hXx; obtain ⟨a91, n91, c91, a92, c92, exx, -, -⟩ := hXc; replace hc1 := Cels.mono hF3 hc1; rw [exx] at hc1 hXx; have hbx := hbl.get hx; obtain ⟨hy56, hyth⟩ := hvth.get hy; have hxs := Rose.size_get hx; have hdq := szB_drop q hx hy)
     (refine wpc_mixM [0, 1, 2, 3, 4, 5, 6, 7, 8, 9, 10, 12, 13, 14] [1, 4, 6, 9] [] (.one 0 (.one 1 (.one 2 (.one 3 (.one 4 (.one 5 (.one 6 (.one 7 (.one 8 (.one 9 (.one 10 (.one 11 (.one 12 (.one 13 (.one 14 (.one 15 (.one 16 .nil))))))))))))))))) [b3, b4] S mixed (by kernel_rfl) ?_; clear S; intro w S)
     (revert S a; refine go 12 ?_; intro a S)
     (refine wpl_call (Gs := [g]) (Gr := [[(b4, _)], [(b3, _)]]) S rfl rfl rfl rfl rfl rfl (ih F3 x.1 x.2 _ y.1 y.2 _ v1 k1 g x1 (by omega) (by omega) hXx hbx.1 hbx.2 hVy hy56 hyth (may_get hmay hy) hown hl1) rfl permG1 ?_; clear S a; intro u9 F4 G4 a w hv hF4 S; have S' := mr_S S hv; clear S hv; obtain ⟨v9, b9, a9, g9, x9, rfl, hr1, hr0, S⟩ := S')
     (revert S a; revert hZ Z; refine go 18 ?_; intro Z hZ a S)
     refine wpc_sp S rfl ?_ ?_ <;> intro h
     · (revert S a; refine go 6 ?_; intro a S)
       refine wp_ret ?_
       (try rw [← hsp] at S)
       (try (replace S := cDrop (A := [_]) S))
       refine fin_ret S (results2 Tryz.results40 (RV.tmp S rfl) (RV.tmp S rfl)) ?_
       exact zzMtA1
     (revert S a; revert hZ Z; revert hZ Z; refine go 12 ?_; intro a S)
     change ∃ m', _ ∧ _
     (rw [← hao, ← hav] at S; obtain ⟨e80, hown9, hl9⟩ := hr1 (by assumption); have e8 : mtE x.1 x.2 y k1 = some a9 := e80; have h8 := mtE_len q e8; refine ⟨xl.len - (i + 1), by omega, i + 1, v9, a9, g9, x9, F4, rfl, by omega, fun b o h => hF4 _ _ (hF3 _ _ h), hown9, hl9, by rw [← hml, mtL_at hx hy, e8]; rfl, by omega, ?_⟩; refine S.keep ?_; exact zk)
   (refine wp_exit ?_; conv => whnf)
   clear hZ Z
   (revert S a; revert hZ Z; refine go 7 ?_; intro a S)
   refine wp_ret ?_
   (try rw [← hsp] at S)
   (try (replace S := cDrop (A := [_]) S))
   refine fin_ret S (results2 Tryz.results40 (RV.tmp S rfl) (RV.tmp S rfl)) ?_
   (first | (exfalso; clear S; omega) | exact mr_of (b := true) (by rw [hme, if_pos (by omega), ← hml, Rose.drop_len (by omega)]; rfl) hown hl1 | exact mr_none (by rw [hme, if_pos hll, ← hml, mtL_at hx hy, hr0 (by assumption)]; rfl) | exact mr_none (by rw [hme, if_neg (by omega)]) | exact mr_of (b := true) (a := k0 ++ [(eh.nm, (vh, VL))]) (mt_2n (by omega) (by rcases hfd with ⟨n, x, h1, -, -⟩ | h; omega; exact h.2)) (by rw [List.length_append]; exact hown) (LiC.app ((hl0.mono hF44).mono hF45) (LiC.one rfl ⟨_, _, rfl, hVe⟩)) | exact mr_of (b := true) (mt_3 (by omega)) hown0 hl0 | exact mr_of (by rw [same_cmp hmay]; exact mt_1 (by omega)) hown0 hl0 | exact mr_of (by rw [same_cmp hmay]; exact mt_2 (by omega) hfb) hown0 hl0 | exact mr_none (mt_s (by omega) (by omega) (by omega) (by first | (left; exact ⟨by omega, by show vh.k ≠ 5; omega⟩) | (right; left; exact ⟨by omega, .inl (by show vh.k ≠ 6; omega)⟩) | (right; left; exact ⟨by omega, .inr (by assumption)⟩))) | trace_state))
  (refine wp_seq_k ?_; intro Z hZ)
  (replace S : St _ _ _ _ _ _ [g0, [(b4, _)], [(b3, _)]] _ _ := cRot (A := [[(b4, _)], [(b3, _)]]) (B := [g0]) S)
  (revert S a; revert hZ Z; refine go 11 ?_; intro a S)
  refine wpc_sp S rfl ?_ ?_ <;> intro h
  · (revert S a; refine go 5 ?_; intro Z hZ a S)
    (refine wc0 S (sameCt (eh.vl.size + 1) F (eh.v, eh.vl) (vh, VL) _ _ (Nat.lt_succ_self _) hP hV) ?_; clear S a; intro v20 a w hv S; subst hv)
    (revert S a; revert hZ Z; refine go 4 ?_; intro a S)
    refine wp_ret ?_
    (try rw [← hsp] at S)
    (try (replace S := cDrop (A := [_]) S))
    refine fin_ret S (results2 Tryz.results40 (RV.tmp S rfl) (RV.tmp S rfl)) ?_
    exact zzMtA1
  (revert S a; refine go 5 ?_; intro a S)
  refine wpc_sp S rfl ?_ ?_ <;> intro h
  · (revert S a; refine go 6 ?_; intro a S)
    refine wp_ret ?_
    (try rw [← hsp] at S)
    (try (replace S := cDrop (A := [_]) S))
    refine fin_ret S (results2 Tryz.results40 (RV.tmp S rfl) (RV.tmp S rfl)) ?_
    exact zzMtA1
  (revert S a; refine go 5 ?_; intro a S)
  refine wpc_sp S rfl ?_ ?_ <;> intro h
  · (revert S a; refine go 4 ?_; intro Z hZ a S)
    (have hle9 := add_le (G1 := []) S; refine wpl_callOwn (Gs := [g0]) (Gr := [[(b4, _)], [(b3, _)]]) S rfl rfl rfl rfl rfl rfl (Ct.lend (rfindCt (F.add g0) k0 eh.nm _ (LiC.lim hown0 hl0 rfl hle9 (by omega)))) rfl permG1 ?_; clear S a; intro v29 G9 a w hv9 S; obtain ⟨rfl, i9, rfl, hfd⟩ := hv9; (simp only [List.singleton_append] at S))
    (revert S a; revert hZ Z; refine go 9 ?_; intro Z hZ a S)
    refine wpc_sp S rfl ?_ ?_ <;> intro h
    · (refine wp_seq_k ?_; intro Z hZ)
      (revert hZ; obtain ⟨n9, x, hn9, hx, hfb⟩ : ∃ (n : Nat) (x : Bd), i9 = (n : Int) ∧ k0[n]? = some x ∧ findB k0 eh.nm = some x := (by rcases hfd with h | h; exact h; omega); subst hn9; have hxn := (List.getElem?_eq_some_iff.1 hx).1; obtain ⟨bT, capT, exT, e8, rfl, hcq, hcm, hxl, hxe⟩ := ownS_blkN hown0 (by omega); cases e8; obtain ⟨xa, cs1, xb, rfl, hxal, hl1, ⟨a1, c1, rfl, hVx⟩, hla, hlb⟩ := hl0.split hx; have hsp : ∀ c : List Value, xa ++ (Value.string (bs x.1) :: c) ++ xb ++ exT = (xa ++ [Value.string (bs x.1)]) ++ c ++ xb ++ exT := (fun c => by simp); rw [hsp] at S; have hxa1 : (xa ++ [Value.string (bs x.1)]).length = n9 * 5 + 1 := (by rw [List.length_append, hxal]; rfl); intro hZ)
      (refine wpc_mixM [0, 1, 2, 3, 4, 5, 6] [5, 6] [] (.one 0 (.one 1 (.one 2 (.one 3 (.one 4 (.one 5 (.one 6 (.one 7 (.one 8 (.one 9 .nil)))))))))) [bT, b4] S mixed (by kernel_rfl) ?_; clear S; intro w S)
      (revert S a; refine go 5 ?_; intro a S)
      (refine wpm_lateO bT S rfl rfl rfl (want_none _ rfl) rfl rfl (fun w' S => sv_loadMid S rfl rfl hxa1 (by rfl)) ?_; clear S a; intro a S)
      (revert S a; refine go 2 ?_; intro a S)
      (refine wc0 S (sameCt (x.2.2.size + 1) F x.2 (vh, VL) _ _ (Nat.lt_succ_self _) hVx hV) ?_; clear S a; intro v39 a w hv S; subst hv)
      (revert S a; revert hZ Z; refine go 9 ?_; intro a S)
      refine wp_ret ?_
      (try rw [← hsp] at S)
      (try (replace S := cDrop (A := [_]) S))
      refine fin_ret S (results2 Tryz.results40 (RV.tmp S rfl) (RV.tmp S rfl)) ?_
      exact zzMtA1
    refine wp_skip ?_
    (refine hZ _ _ ?_; clear hZ Z)
    (refine wp_seq_k ?_; intro Z hZ)
    (refine wpc_mixM [0, 1, 2, 3, 6, 8] [2, 3] [] (.one 0 (.one 1 (.one 2 (.one 3 (.one 4 (.one 5 (.one 6 (.one 7 (.one 8 (.one 9 (.one 10 (.one 11 .nil)))))))))))) [b3, b4] S mixed (by kernel_rfl) ?_; clear S; intro w S)
    (revert S a; refine go 5 ?_; intro a S)
    (refine wpl_buildSlice S rfl rfl rfl rfl rfl rfl (by rfl) (by simp [Value.cells, splice]) rfl (by rfl) (by rfl) ?_; clear S a; intro b44 a w hown2 S; have S' := frz1 S; clear S; obtain ⟨F44, hF44, hb44, S⟩ := S'; have k44 : TrS F44 4 VhR (.slice (some ⟨b44, 0, none⟩) 1 1) (.cons vh VL .nil) := trs_lim (lim_of (l := ([(vh, VL)] : List Vv)) hb44 (LiC.one rfl (Mon.h hF44 (vac_ror hV))) (show 1 ≤ _ by decide)))
    (revert S a; refine go 2 ?_; intro a S)
    (refine wcF S (rownCt (VL.size + 2) F44 (.cons vh VL .nil) _ (by simp only [Rose.size]; omega) (by show 1 * 56 ≤ _; omega) ⟨hv56, hvth, trivial⟩ k44) ?_; clear S a; intro u9 F45 a w hv9 hF45 S; obtain ⟨be, oe, ce, ae, ne, rfl, hce, hVe⟩ := trv_one (x := (vh, VL)) hv9)
    (revert S a; refine go 3 ?_; intro a S)
    (refine wv S (sv_loadAF S rfl rfl hce (by rfl)) ?_; clear S a; intro a S)
    (revert S a; refine go 3 ?_; intro a S)
    (refine wpl_buildSlice S rfl rfl rfl rfl rfl rfl (by rfl) (by simp [Value.cells, splice, splice]) rfl (by rfl) (by rfl) ?_; clear S a; intro b49 a w hown2 S)
    (revert S a; refine go 2 ?_; intro a S)
    (refine wpl_appendOwn S rfl rfl rfl rfl rfl rfl hown hown2 (by rfl) (by simp [Value.cells, Value.oneCell', splice, splice]) (by omega) (by omega) ?_; clear hown S a; intro v g a w hown S)
    (revert S a; revert hZ Z; refine go 12 ?_; intro a S)
    refine wp_ret ?_
    (try rw [← hsp] at S)
    (try (replace S := cDrop (A := [_]) S))
    refine fin_ret S (results2 Tryz.results40 (RV.tmp S rfl) (RV.tmp S rfl)) ?_
    exact zzMtA1
  (revert S a; refine go 5 ?_; intro a S)
  refine wpc_sp S rfl ?_ ?_ <;> intro h
  · (revert S a; refine go 6 ?_; intro a S)
    refine wpc_sp S rfl ?_ ?_ <;> intro h
    · (revert S a; refine go 6 ?_; intro a S)
      refine wp_ret ?_
      (try rw [← hsp] at S)
      (try (replace S := cDrop (A := [_]) S))
      refine fin_ret S (results2 Tryz.results40 (RV.tmp S rfl) (RV.tmp S rfl)) ?_
      exact zzMtA1
    refine wp_skip ?_
    (refine hZ _ _ ?_)
    exact zzMtA2
  (revert S a; refine go 5 ?_; intro a S)
  refine wpc_sp S rfl ?_ ?_ <;> intro h
  · (revert S a; refine go 5 ?_; intro Z hZ a S)
    refine wgd S ?_ ?_
    · (clear S; intro h S)
      (revert S a; revert hZ Z; refine go 12 ?_; intro a S)
      refine wpc_sp S rfl ?_ ?_ <;> intro h
      · (revert S a; refine go 6 ?_; intro a S)
        refine wp_ret ?_
        (try rw [← hsp] at S)
        (try (replace S := cDrop (A := [_]) S))
        refine fin_ret S (results2 Tryz.results40 (RV.tmp S rfl) (RV.tmp S rfl)) ?_
        exact zzMtA1
      refine wp_skip ?_
      (refine hZ _ _ ?_)
      exact zzMtA2
    (clear S a; intro h a S)
    (revert S a; revert hZ Z; refine go 7 ?_; intro a S)
    refine wpc_true S rfl ?_
    (revert S a; refine go 6 ?_; intro a S)
    refine wp_ret ?_
    (try rw [← hsp] at S)
    (try (replace S := cDrop (A := [_]) S))
    refine fin_ret S (results2 Tryz.results40 (RV.tmp S rfl) (RV.tmp S rfl)) ?_
    exact zzMtA1
  refine wp_skip ?_
  (refine hZ _ _ ?_)
  exact zzMtA2
theorem depE_wrap (x : Int) : IntKind.i64.wrap (1 + x) = IntKind.i64.wrap (x + 1) := by rw [Int.add_comm]
theorem depZ_drop {l : Ef} {k : Nat} {x : EH × Ef} (h : l.get? k = some x) : depZ (l.drop k) = max (IntKind.i64.wrap (depZ x.2 + 1)) (depZ (l.drop (k + 1))) := by rw [Rose.drop_get h]; show max (IntKind.i64.wrap (1 + depZ x.2)) _ = _; rw [depE_wrap]
theorem dep6ZCt : ∀ (n : Nat) (F : Heap) (eh : EH) (L : Ef) (cs : List Value), L.size < n → PxC F cs eh L → Ct Tryz.prog 62 [.agg ⟨cs⟩] F [] (fun _ _ u => u = .int .i64 (IntKind.i64.wrap (depZ L + 1))) := by
 intro n
 induction n with
 | zero => intro F h L cs hn; omega
 | succ n ih =>
 intro F eh L cs hn hX
 obtain ⟨a1, n1, c1, ao, cap, rfl, hv, hL⟩ := hX
 obtain ⟨_, _, e9, hcap, hpos⟩ := hL
 cases e9
 refine Ct.enter Tryz.func62 rfl Tryz.ntmps62 rfl fun w0 a S => ?_
 refine wp_sr fun Z hZ => ?_
 (refine wbx S ?_; clear S a; intro b1 a w S)
 (revert S a; revert hZ Z; refine go 13 ?_; intro Z hZ a S)
 refine wpc_loop (fun m a w' => ∃ (k : Nat) (p : Int), m = L.len - k ∧ k ≤ L.len ∧ max p (depZ (L.drop k)) = depZ L ∧ 0 ≤ p ∧ St 22 [(1, ptr b1), (3, .int .i64 p), (4, .int .i64 (k : Int))] w0 F [] F [[(b1, .cells ⟨[.int .u8 (eh.k : Int), .int .i64 eh.l, .int .i64 eh.c, .string (bs eh.nm), .int .u8 (eh.v.k : Int), .int .i64 eh.v.n, .string (bs eh.v.s), .slice a1 n1 c1, .slice ao L.len cap]⟩ 29 (0, 0))]] a w') ?_ ?_
 ·(refine ⟨L.len, 0, 0, by omega, Nat.zero_le _, (by have := depZ_pos L; show max 0 (depZ L) = _; omega), Int.le_refl _, ?_⟩; refine S.keep ?_; exact zk)
 (clear S; rintro m a w ⟨k, p, rfl, hkl, hfp, hp0, S⟩)
 (revert S a; refine go 9 ?_; intro Z hZ a S)
 refine wpc_sp S rfl ?_ ?_ <;> intro h
 ·(revert S a; revert hZ Z; refine go 4 ?_; intro Z hZ a S)
  (obtain ⟨b8, o8, hao, x, cs1, u1, hx, hc1, hw9, hT1⟩ := TrM.pos hpos (k := k) (by omega); rw [hao] at S; have hxs := Rose.size_get hx; have hXx := pxc_of hw9 hT1; have hXc := hXx; obtain ⟨a91, n91, c91, a92, c92, exx, -, -⟩ := hXc; rw [exx] at hc1 hXx)
  (revert S a; refine go 7 ?_; intro a S)
  (refine wc0 S (ih F x.1 x.2 _ (by omega) hXx) ?_; clear S a; intro v a w hv9 S; subst hv9)
  (refine wv S (sv_maxI S rfl rfl rfl) ?_; clear S a; intro a S)
  (revert S a; revert hZ Z; refine go 8 ?_; intro a S)
  change ∃ m', _ ∧ _
  (rw [← hao] at S; refine ⟨L.len - (k + 1), by omega, k + 1, max p (IntKind.i64.wrap (depZ x.2 + 1)), rfl, by omega, ?_, by omega, ?_⟩; rotate_left 1; (refine S.keep ?_; exact zk); rw [← hfp, depZ_drop hx]; omega)
 (refine wp_exit ?_; conv => whnf)
 clear hZ Z
 (revert S a; revert hZ Z; refine go 3 ?_; intro Z hZ a S)
 (refine wv S (sv_addW S rfl rfl rfl) ?_; clear S a; intro a S)
 (revert S a; revert hZ Z; refine go 3 ?_; intro a S)
 refine wp_ret (fr1 S Tryz.results62 ?_)
 (rw [← hfp, Rose.drop_len (by omega)]; show _ = Value.int .i64 (IntKind.i64.wrap (max p 0 + 1)); rw [show max p 0 = p by omega])
theorem zzMtB0 {p : Prop} (h : p := by (congr 1; unfold patZ; rw [depE_wrap]; first | (rw [decide_eq_true (by assumption), Bool.true_and]; done) | (rw [decide_eq_false (by assumption), Bool.false_and]; done) | trace_state)) : p := h
theorem may7Ct (F : Heap) (eh : EH) (L : Ef) (cs : List Value) (hb : BndH eh) (hbl : BndL L) (hX : PxC F cs eh L) : Ct Tryz.prog 38 [.agg ⟨cs⟩] F [] (fun _ _ u => u = .bool (patZ eh L)) := by
 have hg := good6Ct (L.size + 1) F eh L cs (Nat.lt_succ_self _) hb hbl hX
 have hd := dep6ZCt (L.size + 1) F eh L cs (Nat.lt_succ_self _) hX
 obtain ⟨a1, n1, c1, ao, cap, rfl, -, -⟩ := hX
 refine Ct.enter Tryz.func38 rfl Tryz.ntmps38 rfl fun w0 a S => ?_
 refine wp_sr fun Z hZ => ?_
 (refine wbx S ?_; clear S a; intro b1 a w S)
 (revert S a; revert hZ Z; refine go 5 ?_; intro Z hZ a S)
 (refine wc0 S (hd) ?_; clear S a; intro v a w hv S; subst hv)
 (revert S a; refine go 2 ?_; intro a S)
 refine wgd S ?_ ?_
 ·(clear S; intro h S)
  (revert S a; refine go 2 ?_; intro a S)
  (refine wc0 S (hg) ?_; clear S a; intro v a w hv S; subst hv)
  (revert S a; revert hZ Z; refine go 4 ?_; intro a S)
  refine wp_ret (fr1 S Tryz.results38 ?_)
  exact zzMtB0
 (clear S a; intro h a S)
 (revert S a; revert hZ Z; refine go 5 ?_; intro a S)
 refine wp_ret (fr1 S Tryz.results38 ?_)
 exact zzMtB0
theorem dvZ_dp : ∀ L : Vf, dpN L ≤ 1000000000 → dvZ L = (dpN L : Int)
 | .nil, _ => rfl
 | .cons h L r, hs => by
  have h1 : dpN L + 1 ≤ 1000000000 ∧ dpN r ≤ 1000000000 := by simp only [dpN] at hs; omega
  have h2 := dvZ_dp L (by omega)
  have h3 := dvZ_dp r h1.2
  show max (IntKind.i64.wrap (dvZ L + 1)) (dvZ r) = ((max (dpN L + 1) (dpN r) : Nat) : Int)
  rw [h2, h3, IntWalk.i64_in ((dpN L : Int) + 1) (by omega)]
  omega
theorem zzMtB1 {p : Prop} (h : p := by (congr 1; unfold rcheckV; first | (rw [if_pos (by omega)]; done) | (rw [if_neg (by omega), if_pos (by assumption)]; done) | (rw [if_neg (by omega), if_neg (by rw [(by assumption : (rformH x.1 x.2.len && rformL x.2) = true)]; decide), if_pos (by assumption)]; done) | (rw [if_neg (by omega), if_neg (by rw [(by assumption : (rformH x.1 x.2.len && rformL x.2) = true)]; decide), if_neg (by rw [(by assumption : (rfitsH x.1 x.2.len && rfitsL x.2) = true)]; decide)]; done) | trace_state)) : p := h
theorem rchkDCt (F : Heap) (x : Vv) (cs : List Value) (hz : dpN x.2 + 1 ≤ 1000000000) (hV : VaC F cs x.1 x.2) : Ct Tryz.prog 39 [.agg ⟨cs⟩] F [] (fun _ _ u => u = .int .i64 (rcheckV x.1 x.2)) := by
 have hdp := depZCt (x.2.size + 1) F x cs (Nat.lt_succ_self _) hV
 rw [dvZ_dp x.2 (by omega), IntWalk.i64_in ((dpN x.2 : Int) + 1) (by omega)] at hdp
 have hfm := rformCt (x.2.size + 1) F x cs (Nat.lt_succ_self _) hV
 have hft := fun h => rfitsCt (x.2.size + 1) F x cs (Nat.lt_succ_self _) h hV
 have hdn := dpN_R x.2
 obtain ⟨a1, c1, rfl, -, -⟩ := vac_slc hV
 refine Ct.enter Tryz.func39 rfl Tryz.ntmps39 rfl fun w0 a S => ?_
 refine wp_sr fun Z hZ => ?_
 (refine wbx S ?_; clear S a; intro b1 a w S)
 (revert S a; revert hZ Z; refine go 6 ?_; intro Z hZ Z hZ a S)
 (refine wc0 S (hdp) ?_; clear S a; intro v a w hv S; subst hv)
 (revert S a; revert hZ Z; refine go 3 ?_; intro a S)
 refine wpc_sp S rfl ?_ ?_ <;> intro h
 ·(revert S a; refine go 4 ?_; intro a S)
  refine wp_ret (fr1 S Tryz.results39 ?_)
  exact zzMtB1
 (revert S a; revert hZ Z; refine go 5 ?_; intro Z hZ Z hZ a S)
 (refine wc0 S (hfm) ?_; clear S a; intro v a w hv S; subst hv)
 (revert S a; revert hZ Z; refine go 3 ?_; intro a S)
 refine wpc_sp S rfl ?_ ?_ <;> intro h
 ·(revert S a; refine go 4 ?_; intro a S)
  refine wp_ret (fr1 S Tryz.results39 ?_)
  exact zzMtB1
 (revert S a; revert hZ Z; refine go 5 ?_; intro Z hZ Z hZ a S)
 (refine wc0 S (hft (by assumption)) ?_; clear S a; intro v a w hv S; subst hv)
 (revert S a; revert hZ Z; refine go 3 ?_; intro a S)
 refine wpc_sp S rfl ?_ ?_ <;> intro h
 ·(revert S a; refine go 4 ?_; intro a S)
  refine wp_ret (fr1 S Tryz.results39 ?_)
  exact zzMtB1
 (revert S a; revert hZ Z; refine go 6 ?_; intro a S)
 refine wp_ret (fr1 S Tryz.results39 ?_)
 exact zzMtB1
def MaR (r : Option (List Bd)) (F' : Heap) (G' : List Grp) (u : Value) : Prop := (r = none ∧ u = .tuple ⟨[.slice none 0 0, .bool false]⟩) ∨ ∃ (v : Value) (a : List Bd) (g : Grp) (xs : List Value), r = some a ∧ u = .tuple ⟨[v, .bool true]⟩ ∧ G' = [g] ∧ OwnS 34 5 v a.length xs g ∧ LiC F' 5 BvR xs a
theorem zzMtB2 {p : Prop} (h : p := by (first | (obtain ⟨e8, hown9, hl9⟩ := hr1 (by assumption); exact .inr ⟨v9, a9, g9, x9, by unfold MatF; rw [if_pos ⟨hpt, hmay⟩]; exact e8, rfl, rfl, hown9, hl9⟩) | exact .inl ⟨mat_none (.inr (.inr (hr0 (by assumption)))), rfl⟩ | exact .inl ⟨mat_none (.inl (by assumption)), rfl⟩ | exact .inl ⟨mat_none (.inr (.inl (decide_eq_false fun h9 => by have h8 : rcheckV vh VL = 0 := rcheck_iff.2 h9; simp_all))), rfl⟩ | trace_state)) : p := h
theorem Match12Ct (F : Heap) (eh : EH) (xl : Ef) (cs : List Value) (vh : VH) (VL : Vf) (cs2 : List Value) (v0 : Value) (k0 : List Bd) (hk0 : k0.length + min xl.size VL.size ≤ 1000000000) (hz2 : dpN VL + 1 ≤ 1000000000) (hX : PxC F cs eh xl) (hb : BndH eh) (hbl : BndL xl) (hV : VaC F cs2 vh VL) (h56 : VL.len * 56 ≤ 140737488355328) (hth : ThV VL) (hl0 : LiM F 5 BvR v0 k0) :
  Ct Tryz.prog 14 [.agg ⟨cs⟩, .agg ⟨cs2⟩, v0] F [] (fun F' G' u => MaR (MatF eh xl (vh, VL) k0) F' G' u) := by
 obtain ⟨q, hq⟩ : ∃ q, k0.length + szB q xl VL ≤ 1000000000 := by
  by_cases h : xl.size ≤ VL.size
  ·exact ⟨true, by show _ + xl.size ≤ _; omega⟩
  ·exact ⟨false, by show _ + VL.size ≤ _; omega⟩
 have h1 := may7Ct F eh xl cs hb hbl hX
 have h2 := rchkDCt F (vh, VL) cs2 hz2 hV
 have hXc := hX
 obtain ⟨aw, nw, cw, ao, cap, rfl, -, -⟩ := hXc
 obtain ⟨av, cv, rfl, -, -⟩ := vac_sl hV
 obtain ⟨aoT, capT, xT, rfl, hxT, hpT⟩ := hl0.flat
 refine Ct.enter Tryz.func14 rfl Tryz.ntmps14 rfl fun w0 a S => ?_
 refine wp_sr fun Z hZ => ?_
 (refine wbx S ?_; clear S a; intro b3 a w S)
 (refine wbx S ?_; clear S a; intro b4 a w S)
 (revert S a; revert hZ Z; refine go 7 ?_; intro Z hZ Z hZ a S)
 (refine wc0 S (h1) ?_; clear S a; intro v a w hv S; subst hv)
 (revert S a; refine go 2 ?_; intro a S)
 refine wgd S ?_ ?_
 ·(clear S; intro h S)
  (revert S a; refine go 2 ?_; intro a S)
  (refine wc0 S (h2) ?_; clear S a; intro v a w hv S; subst hv)
  (revert S a; revert hZ Z; refine go 5 ?_; intro a S)
  refine wpc_sp S rfl ?_ ?_ <;> intro h
  ·(revert S a; refine go 5 ?_; intro a S)
   refine wp_ret ?_
   (try (replace S := cDrop (A := [_]) S))
   refine fin_ret S (results2 Tryz.results14 (RV.tmp S rfl) (RV.tmp S rfl)) ?_
   exact zzMtB2
  refine wp_skip ?_
  (refine hZ _ _ ?_; clear hZ Z)
  (refine wp_seq_k ?_; intro Z hZ)
  (have hpt : patZ eh xl = true := (by assumption); have hrc : rcheckV vh VL = 0 := (by first | assumption | omega | simp_all); have hmay : mayV (vh, VL) = true := decide_eq_true (rcheck_iff.1 hrc))
  (refine wpc_mixM [0, 1, 3, 6, 7, 8] [0, 1] [] (.one 0 (.one 1 (.one 3 (.one 2 (.one 4 (.one 5 (.one 6 (.one 7 (.one 8 (.one 9 (.one 10 .nil))))))))))) [b3, b4] S mixed (by kernel_rfl) ?_; clear S; intro w S)
  (revert S a; refine go 4 ?_; intro a S)
  (refine wpl_buildSlice S rfl rfl rfl rfl rfl rfl (by rfl) (by simp) rfl (by rfl) (by rfl) ?_; clear S a; intro b21 a w hown21 S)
  (revert S a; refine go 2 ?_; intro a S)
  (refine wpl_appendSl S rfl rfl rfl rfl rfl rfl hown21 (by rfl) hxT.len hpT hxT.one' (by omega) (by omega) ?_; clear S a hown21; intro v23 g23 a w hown23 S; rw [Nat.zero_add] at hown23; replace hown23 : OwnS 34 5 v23 k0.length xT g23 := hown23; have hat9 := hown23.at; obtain ⟨a23, c23, rfl, -⟩ := hat9)
  (revert S a; refine go 2 ?_; intro a S)
  (refine wpl_call (Gs := [g23]) (Gr := [[(b4, _)], [(b3, _)]]) S rfl rfl rfl rfl rfl rfl (matchRCt q (xl.size + 1) F eh xl _ vh VL _ _ k0 g23 xT (Nat.lt_succ_self _) hq hX hb hbl hV h56 hth hmay hown23 hxT) rfl permG1 ?_; clear S a; intro u9 F5 G5 a w hv hF5 S; have S' := mr_S S hv; clear S hv; obtain ⟨v9, b9, a9, g9, x9, rfl, hr1, hr0, S⟩ := S')
  (revert S a; revert hZ Z; refine go 18 ?_; intro Z hZ a S)
  refine wpc_sp S rfl ?_ ?_ <;> intro h
  ·(revert S a; refine go 5 ?_; intro a S)
   refine wp_ret ?_
   (try (replace S := cDrop (A := [_]) S))
   refine fin_ret S (results2 Tryz.results14 (RV.tmp S rfl) (RV.tmp S rfl)) ?_
   exact zzMtB2
  (revert S a; revert hZ Z; refine go 8 ?_; intro a S)
  refine wp_ret ?_
  (try (replace S := cDrop (A := [_]) S))
  refine fin_ret S (results2 Tryz.results14 (RV.tmp S rfl) (RV.tmp S rfl)) ?_
  exact zzMtB2
 (clear S a; intro h a S)
 (revert S a; revert hZ Z; refine go 5 ?_; intro a S)
 refine wpc_true S rfl ?_
 (revert S a; refine go 5 ?_; intro a S)
 refine wp_ret ?_
 (try (replace S := cDrop (A := [_]) S))
 refine fin_ret S (results2 Tryz.results14 (RV.tmp S rfl) (RV.tmp S rfl)) ?_
 exact zzMtB2
theorem ma_O {n : Sz} {d : Nat} {u : Value} {L : List (Nat × Value)} {w0 : World} {F0 : Heap} {K0 : List Nat} {F : Heap} {G G' : List Grp} {a : Act} {w : World} {r : Option (List Bd)} (S : St n ((d, u) :: L) w0 F0 K0 F (G' ++ G) a w) (h : MaP r F G' u) :
  ∃ ao c b k g xs, u = .tuple ⟨[.slice ao (List.length k) c, .bool b]⟩ ∧ r = (if b = true then some k else none) ∧ (b = false → k = []) ∧ OwnS 44 5 (.slice ao (List.length k) c) (List.length k) xs g ∧ LiC F 5 BvR xs k ∧ St n ((d, u) :: L) w0 F0 K0 F (g :: G) a w := by
 rcases h with ⟨h1, h2⟩ | ⟨v, k, g, xs, h1, h2, rfl, h3, h4⟩
 ·exact ⟨none, 0, false, [], [], [], h2, by rw [h1]; rfl, fun _ => rfl, OwnS.nil _ _, rfl, S.fr, S.tr.sub (by rw [List.flatten_append, List.flatten_cons, List.nil_append]; exact List.sublist_append_right _ _)⟩
 ·obtain ⟨ao, c, rfl, -⟩ := h3.at
  exact ⟨ao, c, true, k, g, xs, h2, by rw [h1]; rfl, fun h => (by cases h), h3, h4, S⟩
theorem mar_S {n : Sz} {d : Nat} {u : Value} {L : List (Nat × Value)} {w0 : World} {F0 : Heap} {K0 : List Nat} {F : Heap} {G G' : List Grp} {a : Act} {w : World} {r : Option (List Bd)} (S : St n ((d, u) :: L) w0 F0 K0 F (G' ++ G) a w) (h : MaR r F G' u) (hb : ∀ k, r = some k → k.length ≤ 140737488355328) :
  ∃ F' ao c b k, (∀ b o, F b = some o → F' b = some o) ∧ u = .tuple ⟨[.slice ao (List.length k) c, .bool b]⟩ ∧ r = (if b = true then some k else none) ∧ (b = false → k = []) ∧ LiM F' 5 BvR (.slice ao (List.length k) c) k ∧ St n ((d, u) :: L) w0 F0 K0 F' G a w := by
 rcases h with ⟨h1, h2⟩ | ⟨v, k, g, xs, h1, h2, rfl, h3, h4⟩
 ·exact ⟨F, none, 0, false, [], fun b o h => h, h2, by rw [h1]; rfl, fun _ => rfl, LiM.nil _ _ _, S.fr, S.tr.sub (by rw [List.flatten_append]; exact List.sublist_append_right _ _)⟩
 ·have hle := add_le (G1 := []) (G2 := G) S
  have hL := LiC.lim h3 h4 rfl hle (hb k h1)
  obtain ⟨ao, c, rfl, -, -⟩ := id hL
  exact ⟨_, ao, c, true, k, hle, h2, by rw [h1]; rfl, fun h => (by cases h), hL, St.freeze (G1 := []) (G2 := G) S⟩
theorem ma_same {r : Option (List Bd)} {k m : List Bd} {b c : Bool} (h1 : r = if b = true then some k else none) (h2 : b = false → k = []) (h3 : r = if c = true then some m else none) (h4 : c = false → m = []) : c = b ∧ m = k := by
 cases b <;> cases c
 ·exact ⟨rfl, by rw [h4 rfl, h2 rfl]⟩
 ·rw [h1] at h3; cases h3
 ·rw [h1] at h3; cases h3
 ·rw [h1] at h3; exact ⟨rfl, (Option.some.inj h3).symm⟩
theorem backOCt (F : Heap) (k : List Bd) (ao : Option Addr) (cap : Nat) (g0 : Grp) (x0 : List Value) (hn : k.length ≤ 1000000000) (hown0 : OwnS 44 5 (.slice ao k.length cap) k.length x0 g0) (hl0 : LiC F 5 BvR x0 k) :
  Ct Tryz.prog 16 [.slice ao k.length cap] F [g0] (fun F' G' u => ∃ g xs, G' = [g0, g] ∧ OwnS 34 5 u k.length xs g ∧ LiC F' 5 BvR xs k) := by
 refine Ct.enter Tryz.func16 rfl Tryz.ntmps16 rfl fun w0 a S => ?_
 (revert S a; refine go 14 ?_; intro Z hZ a S)
 refine wpc_loop (fun m a w' => ∃ (i : Nat) (v : Value) (g : Grp) (xs : List Value), m = k.length - i ∧ i ≤ k.length ∧ OwnS 34 5 v i xs g ∧ LiC F 5 BvR xs (k.take i) ∧ St 26 [(0, .slice ao k.length cap), (3, v), (4, .int .i64 (i : Int))] w0 F (keys [g0]) F [g0, g] a w') ?_ ?_
 ·(replace S := st_nil2 S; refine ⟨k.length, 0, .slice none 0 0, [], [], by omega, Nat.zero_le _, OwnS.nil _ _, rfl, ?_⟩; refine S.keep ?_; exact zk)
 (clear S; rintro m a w ⟨i, v, g, xs, rfl, hil, hown, hfc, S⟩)
 (revert S a; refine go 8 ?_; intro Z hZ a S)
 refine wpc_sp S rfl ?_ ?_ <;> intro h
 ·(revert S a; revert hZ Z; refine go 4 ?_; intro Z hZ a S)
  (revert hZ; obtain ⟨x, hx⟩ : ∃ x, k[i]? = some x := ⟨_, List.getElem?_eq_getElem (by omega)⟩; obtain ⟨bT, capT, exT, e8, rfl, hcq, hcm, hxl, hxe⟩ := ownS_blkN hown0 (by omega); cases e8; obtain ⟨xa, cs1, xb, rfl, hxal, hl1, ⟨a1, c1, rfl, hVx⟩, hla, hlb⟩ := hl0.split hx; have hsp : ∀ c : List Value, xa ++ (Value.string (bs x.1) :: c) ++ xb ++ exT = (xa ++ [Value.string (bs x.1)]) ++ c ++ xb ++ exT := (fun c => by simp); rw [hsp] at S; have hxa1 : (xa ++ [Value.string (bs x.1)]).length = i * 5 + 1 := (by rw [List.length_append, hxal]; rfl); have hget : ∀ c : List Value, ((xa ++ [Value.string (bs x.1)]) ++ c ++ xb ++ exT)[0 + i * 5 + 0]? = some (Value.string (bs x.1)) := (fun c => by rw [Nat.zero_add, Nat.add_zero, List.append_assoc, List.append_assoc, List.append_assoc, List.getElem?_append_right (by omega), hxal, Nat.sub_self]; rfl); obtain ⟨aoK, capK, rfl, -⟩ := hown.at; intro hZ)
  (refine wpc_mixM [0, 1, 2, 3, 4, 5, 6, 7, 8, 9, 10, 11] [5, 10] [] (.one 0 (.one 1 (.one 2 (.one 3 (.one 4 (.one 5 (.one 6 (.one 7 (.one 8 (.one 9 (.one 10 (.one 11 (.one 12 (.one 13 (.one 14 .nil))))))))))))))) [bT] S mixed (by kernel_rfl) ?_; clear S; intro w S)
  (revert S a; refine go 5 ?_; intro a S)
  (refine wpm_lateO bT S rfl rfl rfl (want_none _ rfl) rfl rfl (fun w' S => sv_loadO S rfl rfl (hget _)) ?_; clear S a; intro a S)
  (revert S a; refine go 4 ?_; intro a S)
  (refine wpm_lateO bT S rfl rfl rfl (want_none _ rfl) rfl rfl (fun w' S => sv_loadMid S rfl rfl hxa1 (by rfl)) ?_; clear S a; intro a S)
  (revert S a; refine go 2 ?_; intro a S)
  (refine wpl_buildSlice S rfl rfl rfl rfl rfl rfl (by rfl) (by simp [Value.cells, splice, splice]) rfl (by rfl) (by rfl) ?_; clear S a; intro b23 a w hown2 S)
  (revert S a; refine go 2 ?_; intro a S)
  (refine wpl_appendOwn S rfl rfl rfl rfl rfl rfl hown hown2 (by rfl) (by simp [Value.cells, Value.oneCell', splice, splice]) (by omega) (by omega) ?_; clear hown S a; intro v g a w hown S)
  (revert S a; revert hZ Z; refine go 11 ?_; intro a S)
  change ∃ m', _ ∧ _
  (rw [← hsp] at S; refine ⟨k.length - (i + 1), by omega, i + 1, _, _, _, rfl, by omega, hown, ?_, ?_⟩; rotate_left 1; (refine S.keep ?_; exact zk); (rw [List.take_add_one, hx]; exact LiC.app hfc (LiC.one rfl ⟨_, _, rfl, hVx⟩)))
 (refine wp_exit ?_; conv => whnf)
 clear hZ Z
 (revert S a; revert hZ Z; refine go 6 ?_; intro a S)
 refine wp_ret (fr1 S Tryz.results16 ?_)
 (have hii : i = k.length := (by omega); rw [List.take_of_length_le (by omega)] at hfc; rw [hii] at hown; exact ⟨_, _, rfl, hown, hfc⟩)
end Go.Proofs.YthnafdbebniapaaGreatDoor
