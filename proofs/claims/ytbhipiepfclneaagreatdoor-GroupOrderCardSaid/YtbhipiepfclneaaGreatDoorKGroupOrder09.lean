/- Walks. -/
import Derived.Test.YtbhipiepfclneaaGreatDoorKGroupOrder08
import Derived.Test.YtbhipiepfclneaaGreatDoorKGroupOrder02
set_option maxHeartbeats 64000000
set_option maxRecDepth 20000
namespace Go.Proofs.YtbhipiepfclneaaGreatDoor
open Go Go.Wk Go.Un Go.De Go.Num Go.ChangeShapes Go.WideShapes Go.ChangeAt Go.RowKit
set_option linter.unusedSimpArgs false
set_option linter.unusedVariables false
attribute [local irreducible] Go.wpList Go.Code.wp Go.wpStill Go.Wk.wpPre Go.bodyPost Go.Calls Go.Wk.Ct Go.Wk.OwnS Go.Wk.wpG Go.Wk.wpM
theorem gOrderNoCt (F : Heap) (hq : TabF F) (he : ErrF F) (v0 v1 v2 : Value) (aggs : List (List UInt8)) (l : List OpD) (hA : LiM F 1 StR v0 aggs) (hL : LiM F 4 OpR v1 l) (hn : newG aggs ≠ 0) :
  Ct Tryz.prog 3 [v0, v1, v2] F [] (fun _ _ u => u = .bool true) := by
 have hlg := largeCt F l v1 hL
 obtain ⟨ao, cap, rfl, hcap, -⟩ := id hA
 refine Ct.enter Tryz.func3 rfl Tryz.ntmps3 rfl fun w0 a S => ?_
 (revert S a; refine go 7 ?_; intro Z hZ Z hZ a S)
 (refine wc0 S hlg ?_; clear S a; intro v21 a w hv S; obtain ⟨bl, rfl, hbl⟩ := hv)
 (revert S a; refine go 1 ?_; intro a S)
 refine wgd S ?_ ?_
 ·(clear S; intro h S)
  (revert S a; refine go 7 ?_; intro a S)
  refine wgd S ?_ ?_
  ·(clear S; intro h S)
   (refine wc0 S (gAwakeCt F hq he) ?_; clear S a; intro v28 a w hv S; subst hv)
   refine wpl_take S rfl rfl rfl ?_
   (refine wv S (sv_lit (c := false) (sv_pure S rfl) (by rfl)) ?_; clear S a; intro a S)
   (revert S a; revert hZ Z; refine go 3 ?_; intro a S)
   refine wpc_false S rfl ?_
   (revert S a; revert hZ Z; refine go 4 ?_; intro Z hZ a S)
   (refine wpl_call (Gs := []) (Gr := []) S rfl rfl rfl rfl rfl rfl (newGCt F _ aggs hA (by omega)) rfl (by simp) ?_; clear S a; intro v34 F2 G2 a w hv hF2 S; obtain ⟨-, rfl⟩ : newG aggs ≠ 0 ∧ v34 = .tuple ⟨[.pointer none, .int .i64 (newG aggs)]⟩ := hv.resolve_right (fun h => hn h.1); replace S := nogrp S)
   (revert S a; revert hZ Z; refine go 9 ?_; intro Z hZ a S)
   (refine wpl_call (Gs := []) (Gr := []) S rfl rfl rfl rfl rfl rfl (newGCt F2 _ aggs (hA.mono hF2) (by omega)) rfl (by simp) ?_; clear S a; intro v39 F3 G3 a w hv hF3 S; obtain ⟨-, rfl⟩ : newG aggs ≠ 0 ∧ v39 = .tuple ⟨[.pointer none, .int .i64 (newG aggs)]⟩ := hv.resolve_right (fun h => hn h.1); replace S := nogrp S)
   (revert S a; revert hZ Z; refine go 10 ?_; intro Z hZ Z hZ a S)
   (refine wv S (sv_lit (c := true) (sv_pure S rfl) (by simpa using hn)) ?_; clear S a; intro a S)
   (revert S a; revert hZ Z; refine go 2 ?_; intro a S)
   refine wpc_true S rfl ?_
   (revert S a; refine go 2 ?_; intro Z hZ a S)
   (refine wv S (sv_eqPtrNil S rfl rfl rfl) ?_; clear S a; intro a S)
   (revert S a; revert hZ Z; refine go 3 ?_; intro a S)
   refine wp_ret (fr1 S Tryz.results3 ?_)
   (first | rfl | trace_state)
  (clear S a; intro h a S)
  (revert S a; revert hZ Z; refine go 4 ?_; intro a S)
  refine wpc_true S rfl ?_
  refine wp_sr fun Z hZ => ?_
  (refine wc0 S (gAwakeCt F hq he) ?_; clear S a; intro v31 a w hv S; subst hv)
  (revert S a; revert hZ Z; refine go 3 ?_; intro a S)
  refine wp_ret (fr1 S Tryz.results3 ?_)
  (first | rfl | trace_state)
 (clear S a; intro h a S)
 (revert S a; revert hZ Z; refine go 9 ?_; intro a S)
 refine wpc_true S rfl ?_
 refine wp_sr fun Z hZ => ?_
 (refine wc0 S (gAwakeCt F hq he) ?_; clear S a; intro v31 a w hv S; subst hv)
 (revert S a; revert hZ Z; refine go 3 ?_; intro a S)
 refine wp_ret (fr1 S Tryz.results3 ?_)
 (first | rfl | trace_state)
theorem zzJd0 {p : Prop} (h : p := by (rw [← hao] at S; first | (have h0 : addE aggs A x.key x.way x.args = 0 := (by assumption); obtain ⟨ht1, ht2⟩ := txo_of (List.mem_of_getElem? hx) h0; refine ⟨l.length - (k + 1), by omega, k + 1, F5, ga5, _, T ++ [x], _, _, _, rfl, by omega, (fun b o h => hF5 _ _ (hm4 _ _ h)), hO5, hI5, (by rw [List.map_append]; exact ht2.trans ((hpA.cons _).trans (List.perm_append_singleton _ _).symm)), (fun y hy => (List.mem_append.1 hy).elim (hT y) (fun h => by rw [List.mem_singleton.1 h]; exact ht1)), (by rw [List.length_append]; exact Nat.succ_le_succ hTl), (by rw [List.length_append]; exact hown), LiC.app (hxs.mono hF5) (LiC.one rfl ⟨_, _, _, rfl, hT1.mono hF5, hT2.mono hF5, hT3.mono hF5⟩), ?_⟩; (refine S.keep ?_; exact zk); done) | (have h0 : ¬ addE aggs A x.key x.way x.args = 0 := (by assumption); have hsm : gAdd aggs A x.key x.way x.args = A := if_neg h0; rw [hsm] at hO5 hI5; refine ⟨l.length - (k + 1), by omega, k + 1, F5, ga5, A, T, _, _, _, rfl, by omega, (fun b o h => hF5 _ _ (hm4 _ _ h)), hO5, hI5, hpA, hT, by omega, hown, hxs.mono hF5, ?_⟩; (refine S.keep ?_; exact zk); done) | trace_state)) : p := h
theorem zzJd1 {p : Prop} (h : p := by (first | (rw [← hap] at S; refine ⟨kk, _, List.getElem?_eq_getElem hkl, ?_⟩; (refine S.keep ?_; exact zk); done) | (have hl0 : 0 < T.length := (by omega); refine ⟨0, _, List.getElem?_eq_getElem hl0, ?_⟩; (refine S.keep ?_; exact zk); done) | trace_state)) : p := h
theorem gOrderYesCt (F : Heap) (hq : TabF F) (he : ErrF F) (v0 v1 v2 : Value) (aggs : List (List UInt8)) (l : List OpD) (ps : List Int) (hA : LiM F 1 StR v0 aggs) (hL : LiM F 4 OpR v1 l) (hP : LiM F 1 IntR v2 ps) (hg : ∀ x ∈ l, OpG x) (hn : newG aggs = 0) :
    Ct Tryz.prog 3 [v0, v1, v2] F [] (fun _ _ u => u = .bool true) := by
  have hlg := largeCt F l v1 hL
  obtain ⟨h8, hkn⟩ := newG_ok hn
  obtain ⟨ao0, cap0, rfl, -, -⟩ := id hA
  obtain ⟨ao, cap, rfl, hcap, -⟩ := id hL
  obtain ⟨ap, cp, rfl, hcp, -⟩ := id hP
  refine Ct.enter Tryz.func3 rfl Tryz.ntmps3 rfl fun w0 a S => ?_
  (revert S a; refine go 7 ?_; intro Z hZ Z hZ a S)
  (refine wc0 S hlg ?_; clear S a; intro v21 a w hv S; obtain ⟨bl, rfl, hbl⟩ := hv)
  (revert S a; refine go 1 ?_; intro a S)
  refine wgd S ?_ ?_
  · (clear S; intro h S)
    (revert S a; refine go 7 ?_; intro a S)
    refine wgd S ?_ ?_
    · (clear S; intro h S)
      (refine wc0 S (gAwakeCt F hq he) ?_; clear S a; intro v28 a w hv S; subst hv)
      refine wpl_take S rfl rfl rfl ?_
      (refine wv S (sv_lit (c := false) (sv_pure S rfl) (by rfl)) ?_; clear S a; intro a S)
      (revert S a; revert hZ Z; refine go 3 ?_; intro a S)
      refine wpc_false S rfl ?_
      (revert S a; revert hZ Z; refine go 4 ?_; intro Z hZ a S)
      (refine wpl_gNew S rfl rfl rfl rfl rfl rfl (newGCt F _ aggs hA (by omega)) hn rfl ?_; clear S a; intro ba va ga F2 a w hOa hAa hF2 S)
      (revert S a; revert hZ Z; refine go 9 ?_; intro Z hZ a S)
      (refine wpl_gNew S rfl rfl rfl rfl rfl rfl (newGCt F2 _ aggs (hA.mono hF2) (by omega)) hn rfl ?_; clear S a; intro bb vb gb F3 a w hOb hAb hF3 S; replace hOa := hOa.mono hF3; have hm3 : ∀ b o, F b = some o → F3 b = some o := (fun b o h => hF3 _ _ (hF2 _ _ h)); have W : OrW aggs l ps _ _ va vb F3 := ⟨hq.mono hm3, he.mono hm3, hL.mono hm3, hP.mono hm3, hAa.mono hF3, hAb⟩; replace S := swap2 S)
      (revert S a; revert hZ Z; refine go 10 ?_; intro Z hZ Z hZ a S)
      (refine wv S (sv_lit (c := false) (sv_pure S rfl) (by rfl)) ?_; clear S a; intro a S)
      (revert S a; revert hZ Z; refine go 2 ?_; intro a S)
      refine wpc_false S rfl ?_
      (revert S a; revert hZ Z; refine go 2 ?_; intro a S)
      (refine wp_seq_k ?_; intro Z hZ)
      (obtain ⟨hl5, hbd⟩ := lwS_small (Nat.le_trans (Nat.le_of_lt (hbl (by assumption))) (by decide)) hg)
      (revert S a; revert hZ Z; refine go 10 ?_; intro Z hZ a S)
      refine wpc_loop (fun q a' w' => ∃ (k : Nat) (F4 : Heap) (ga : Grp) (A : GA) (T : List OpD) (v : Value) (g : Grp) (xs : List Value), q = l.length - k ∧ k ≤ l.length ∧ (∀ b o, F3 b = some o → F4 b = some o) ∧ GO F4 ba va A ga ∧ GInv aggs A ∧ (tri A).Perm (T.map opT) ∧ (∀ x ∈ T, TxO l x) ∧ T.length ≤ k ∧ OwnS 34 4 v T.length xs g ∧ LiC F4 4 OpR xs T ∧ St 160 [(1, .slice ao l.length cap), (2, .slice ap ps.length cp), (7, ptr ba), (9, ptr bb), (11, v), (12, .int .i64 k)] w0 F [] F4 [g, ga, gb] a' w') ?_ ?_
      · (refine ⟨l.length, 0, F3, ga, [], [], .slice none 0 0, [], [], by omega, Nat.zero_le _, fun _ _ h => h, hOa, gInv_nil _, List.Perm.refl _, (fun x h => by cases h), Nat.le_refl _, OwnS.nil _ _, rfl, ?_⟩; replace S := S.nilg; (refine S.keep ?_; exact zk))
      (clear S hOa; rintro q a w ⟨k, F4, ga, A, T, v, g, xs, rfl, hk, hm4, hOa, hIA, hpA, hT, hTl, hown, hxs, S⟩)
      (revert S a; refine go 8 ?_; intro Z hZ a S)
      refine wpc_sp S rfl ?_ ?_ <;> intro h
      · (revert S a; revert hZ Z; refine go 4 ?_; intro Z hZ a S)
        (refine wp_seq_k ?_; intro Z hZ)
        (have hW4 := W.mono hm4; obtain ⟨b8, o8, hao, x, cs1, hx, hcc, v1, v2, v3, rfl, hT1, hT2, hT3⟩ := LiM.pos (F := F4) (R := OpR) (by obtain ⟨_, _, e9, -, h9⟩ := id hW4.L; cases e9; exact h9) (k := k) (by omega); rw [hao] at S; obtain ⟨a1, c1, rfl, -⟩ := id hT1; obtain ⟨a2, c2, rfl, -⟩ := id hT2; obtain ⟨a3, c3, rfl, -⟩ := id hT3; have hc1 : Cel F4 b8 (o8 + k * 4 + 1) _ := hcc 1 _ rfl; have hc2 : Cel F4 b8 (o8 + k * 4 + 2) _ := hcc 2 _ rfl; have hc3 : Cel F4 b8 (o8 + k * 4 + 3) _ := hcc 3 _ rfl; obtain ⟨bx1, bx2, bx3⟩ := hbd x (List.mem_of_getElem? hx))
        (refine wpc_mixM [0, 1, 2, 3, 4, 5, 6, 7, 8, 9, 10, 11, 12, 13, 14, 15, 17] [5, 10, 15] [] (.one 0 (.one 1 (.one 2 (.one 3 (.one 4 (.one 5 (.one 6 (.one 7 (.one 8 (.one 9 (.one 10 (.one 11 (.one 12 (.one 13 (.one 14 (.one 15 (.one 16 (.one 17 .nil)))))))))))))))))) [] S mixed (by kernel_rfl) ?_; clear S; intro w S)
        (revert S a; refine go 5 ?_; intro a S)
        (refine wlF S rfl (fun w' S => sv_loadF S rfl rfl hc1) ?_; clear S a; intro a S)
        (revert S a; refine go 4 ?_; intro a S)
        (refine wlF S rfl (fun w' S => sv_loadF S rfl rfl hc2) ?_; clear S a; intro a S)
        (revert S a; refine go 4 ?_; intro a S)
        (refine wlF S rfl (fun w' S => sv_loadF S rfl rfl hc3) ?_; clear S a; intro a S)
        refine wpm_eff rfl rfl (kwa S) ?_
        (refine wpl_gg (Gr := [g, gb]) S rfl rfl rfl rfl rfl rfl hOa (fun gv h1 h2 => addGCt F4 hW4.T ba va gv ga aggs A h1 hW4.A h2 hIA x.key x.way x.args _ _ _ hT1 hT2 hT3 bx1 bx2 bx3) rfl pf32 ?_; clear S a; intro ga5 F5 a w hO5 hF5 S; have hI5 : GInv aggs (gAdd aggs A x.key x.way x.args) := gAdd_inv hIA bx1 bx3; replace S := swap2 S; replace hcc : Cels F5 b8 (o8 + k * 4) _ := Cels.mono hF5 hcc)
        (revert S a; revert hZ Z; refine go 4 ?_; intro a S)
        refine wpc_sp S rfl ?_ ?_ <;> intro h
        · (revert S a; refine go 5 ?_; intro a S)
          (refine wv S (sv_loadAF S rfl rfl hcc rfl) ?_; clear S a; intro a S)
          (refine wpl_append S rfl rfl rfl rfl rfl rfl rfl rfl rfl rfl rfl (fun _ => rfl) hown (by rfl) (by simp [Value.cells, splice, splice]) (by simp [Value.cells, Value.oneCell', splice, splice]) rfl (by rfl) (by rfl) rfl (by omega) (by omega) ?_; clear hown S a; intro v u g a w hown S)
          (revert S a; revert hZ Z; refine go 8 ?_; intro a S)
          change ∃ m', _ ∧ _
          exact zzJd0
        (revert S a; revert hZ Z; refine go 7 ?_; intro a S)
        change ∃ m', _ ∧ _
        exact zzJd0
      (refine wp_exit ?_; conv => whnf)
      clear hZ Z
      (revert S a; revert hZ Z; refine go 2 ?_; intro Z hZ a S)
      (refine wp_seq_k ?_; intro Z hZ)
      (obtain rfl : k = l.length := (by omega); have hle := add_le (G1 := []) S; replace S := St.freeze (G1 := []) S; (simp only [List.nil_append] at S hle); have hTL := LiC.lim hown hxs rfl hle (by omega); obtain ⟨al, cl, rfl, -, -⟩ := id hTL; replace hm4 : ∀ b o, F3 b = some o → (F4.add g) b = some o := (fun b o h => hle _ _ (hm4 _ _ h)); replace hOa := hOa.mono hle; generalize F4.add g = F4 at S hm4 hTL hOa; replace W := W.mono hm4; replace hOb := hOb.mono hm4)
      (revert S a; revert hZ Z; refine go 5 ?_; intro a S)
      refine wpc_loop (fun q a' w' => ∃ (i : Nat) (F5 : Heap) (gb : Grp) (B : GA) (T : List OpD) (al : Option Addr) (cl : Nat), q = T.length ∧ i + T.length ≤ 1000 ∧ (∀ b o, F4 b = some o → F5 b = some o) ∧ GO F5 bb vb B gb ∧ GInv aggs B ∧ (tri B ++ T.map opT).Perm (tri A) ∧ (∀ x ∈ T, TxO l x) ∧ LiM F5 4 OpR (.slice al T.length cl) T ∧ St 160 [(2, .slice ap ps.length cp), (7, ptr ba), (9, ptr bb), (11, .slice al T.length cl), (13, .int .i64 i)] w0 F [] F5 [ga, gb] a' w') ?_ ?_
      · (refine ⟨_, 0, F4, gb, [], T, al, cl, rfl, by omega, fun _ _ h => h, hOb, gInv_nil _, hpA.symm, hT, hTL, ?_⟩; (refine S.keep ?_; exact zk))
      (clear S hOb; rintro q a w ⟨i, F5, gb, B, T, al, cl, rfl, hiT, hm5, hOb, hIB, hpB, hT, hTL, S⟩)
      (revert S a; refine go 7 ?_; intro Z hZ a S)
      refine wpc_sp S rfl ?_ ?_ <;> intro h
      · (revert S a; revert hZ Z; refine go 4 ?_; intro Z hZ a S)
        (refine wp_seq_k ?_; intro Z hZ)
        (have hW5 := W.mono hm5)
        (revert S a; revert hZ Z; refine go 4 ?_; intro a S)
        (refine wp_seq_k ?_; intro Z hZ)
        replace hZ : ∀ (a' : Act) (w' : World), (∃ (k : Nat) (x : OpD), T[k]? = some x ∧ St 160 [(2, .slice ap ps.length cp), (7, ptr ba), (9, ptr bb), (11, .slice al T.length cl), (13, .int .i64 i), (14, .int .i64 k)] w0 F [] F5 [ga, gb] a' w') → Z a' w' := (by
         (intro a w hM; refine hZ _ _ ?_; clear hZ Z; clear S; obtain ⟨k, x, hx, S⟩ := hM)
         (refine wp_seq_k ?_; intro Z hZ)
         (have hkl := (List.getElem?_eq_some_iff.1 hx).1; obtain ⟨b8, o8, hal, x', cs1, hx', hcc, v1, v2, v3, rfl, hT1, hT2, hT3⟩ := LiM.pos (F := F5) (R := OpR) (by obtain ⟨_, _, e9, -, h9⟩ := id hTL; cases e9; exact h9) (k := k) hkl; rw [hx] at hx'; cases hx'; rw [hal] at S; obtain ⟨a1, c1, rfl, -⟩ := id hT1; obtain ⟨a2, c2, rfl, -⟩ := id hT2; obtain ⟨a3, c3, rfl, -⟩ := id hT3; have htx := hT x (List.mem_of_getElem? hx); obtain ⟨bx1, bx2, bx3⟩ := hbd x htx.1)
         (revert S a; refine go 4 ?_; intro a S)
         (refine wv S (sv_loadAF S rfl rfl hcc rfl) ?_; clear S a; intro a S)
         (refine wpl_alloc S rfl rfl rfl rfl ?_; clear S a; intro b15 a w S)
         (refine wso S rfl rfl ?_; clear S; intro w S)
         (revert S a; revert hZ Z; refine go 3 ?_; intro Z hZ a S)
         (refine wp_seq_k ?_; intro Z hZ)
         (have S' := frz1 S; clear S; obtain ⟨F6, hF6, hb15, S⟩ := S'; have hc15 := cels_of hb15; have h60 := pick_add hIA hIB hpB hx htx; have hW6 := hW5.mono hF6)
         (revert S a; refine go 3 ?_; intro a S)
         (refine wv S (sv_loadF S rfl rfl (hc15 1 _ rfl)) ?_; clear S a; intro a S)
         (revert S a; refine go 1 ?_; intro a S)
         (refine wv S (sv_loadF S rfl rfl (hc15 2 _ rfl)) ?_; clear S a; intro a S)
         (revert S a; refine go 1 ?_; intro a S)
         (refine wv S (sv_loadF S rfl rfl (hc15 3 _ rfl)) ?_; clear S a; intro a S)
         (refine wpl_gg (Gr := [ga]) S rfl rfl rfl rfl rfl rfl (hOb.mono hF6) (fun gv h1 h2 => addGCt F6 hW6.T bb vb gv gb aggs B h1 hW6.B h2 hIB x.key x.way x.args _ _ _ (hT1.mono hF6) (hT2.mono hF6) (hT3.mono hF6) bx1 bx2 bx3) rfl pf2 ?_; clear S a; intro gb7 F7 a w hO7 hF7 S; rw [h60] at S; have hI7 : GInv aggs (gAdd aggs B x.key x.way x.args) := gAdd_inv hIB bx1 bx3; have hp7 := (txo_of htx.1 h60).2; have hm7 : ∀ b o, F5 b = some o → F7 b = some o := (fun b o h => hF7 _ _ (hF6 _ _ h)); replace hc15 := Cels.mono hF7 hc15; have hW7 := hW6.mono hF7; generalize hB7 : gAdd aggs B x.key x.way x.args = B7 at hO7 hI7 hp7; clear hB7)
         (refine wv S (sv_lit (c := false) (sv_pure S rfl) (by rfl)) ?_; clear S a; intro a S)
         (revert S a; revert hZ Z; refine go 2 ?_; intro a S)
         refine wpc_false S rfl ?_
         (revert S a; revert hZ Z; refine go 2 ?_; intro a S)
         (refine wp_seq_k ?_; intro Z hZ)
         replace hZ : ∀ (a' : Act) (w' : World), (∃ (F7 : Heap) (gb7 : Grp) (B7 : GA), (∀ b o, F5 b = some o → F7 b = some o) ∧ GO F7 bb vb B7 gb7 ∧ GInv aggs B7 ∧ (tri B7).Perm (opT x :: tri B) ∧ St 160 [(2, .slice ap ps.length cp), (7, ptr ba), (9, ptr bb), (11, .slice al T.length cl), (13, .int .i64 i), (14, .int .i64 k)] w0 F [] F7 [gb7, ga] a' w') → Z a' w' := (by
          (intro a w hM; refine hZ _ _ ?_; clear hZ Z; clear S; obtain ⟨F7, gb7, B7, hF7, hO7, hI7, hp7, S⟩ := hM)
          (have hml := take_mid_lenG hkl; obtain ⟨_, _, e8, ⟨hTc, -⟩, -⟩ := id hTL; cases e8; obtain ⟨ao9, cap9, xsL, e9, hxL, hxpL⟩ := (hTL.mono hF7).flat; cases e9; obtain ⟨xa, cx, xb, rfl, hxa, hcx, -, hLa, hLb⟩ := hxL.split hx; have hxla := hLa.len; have hxlb := hLb.len; rw [List.length_take] at hxla; rw [List.length_drop] at hxlb)
          (refine wpc_mixM [1, 2, 3, 5, 6, 7, 8] [] [] (.one 1 (.one 2 (.one 3 (.one 5 (.one 6 (.one 7 (.one 8 (.one 0 (.one 4 (.one 9 (.one 10 .nil))))))))))) [] S mixed (by kernel_rfl) ?_; clear S; intro w S)
          (revert S a; refine go 2 ?_; intro a S)
          (refine wpm_v S rfl rfl rfl (want_none _ rfl) rfl rfl (fun w' S => sv_sliceSl_h S rfl rfl rfl (by omega)) ?_; clear S a; intro a S)
          (revert S a; refine go 3 ?_; intro a S)
          (refine wpm_v S rfl rfl rfl (want_none _ rfl) rfl rfl (fun w' S => sv_sliceSl_lo (i := k + 1) S rfl rfl rfl (by omega)) ?_; clear S a; intro a S)
          refine wpm_eff rfl rfl (kwa S) ?_
          (refine wpl_buildSlice S rfl rfl rfl rfl rfl rfl (by rfl) (by simp [Value.cells, splice, splice]) rfl (by rfl) (by rfl) ?_; clear S a; intro b132 a w hown S)
          (revert S a; refine go 2 ?_; intro a S)
          (refine wpl_appendSl (news := xa) S rfl rfl rfl rfl rfl rfl hown (by rfl) (by omega) (fun h => (by obtain ⟨b, o, e, h9⟩ := hxpL (by omega); exact ⟨b, o, e, cels_l (cels_l h9)⟩)) hLa.one' (by omega) (by omega) ?_; clear hown S a; intro v g a w hown S)
          (revert S a; refine go 2 ?_; intro a S)
          (refine wpl_appendSl (news := xb) S rfl rfl rfl rfl rfl rfl hown (by rfl) (by omega) (fun h => (by obtain ⟨b, o, e, h9⟩ := hxpL (by omega); exact ⟨b, o + (k + 1) * 4, (by rw [e]; exact cutA_pos (by omega) hTc), (by have h10 := cels_r h9; rw [List.length_append, hxa, hcx, show k * 4 + 4 = (k + 1) * 4 by omega] at h10; exact h10)⟩)) hLb.one' (by omega) (by omega) ?_; clear hown S a; intro v g a w hown S; have hF8 := add_le (G1 := []) S; replace S := St.freeze (G1 := []) S; (simp only [List.nil_append] at S hF8); have hL8 : LiM (F7.add g) 4 OpR v (T.take k ++ T.drop (k + 1)) := LiC.lim hown (LiC.app hLa hLb) (by rw [List.length_append, List.length_take, List.length_drop]; omega) hF8 (by omega); generalize F7.add g = F8 at S hF8 hL8; clear hown; obtain ⟨al8, cl8, rfl, -, -⟩ := id hL8)
          (revert S a; revert hZ Z; refine go 11 ?_; intro a S)
          change ∃ m', _ ∧ _
          (replace S := swap2 S; refine ⟨_, by omega, i + 1, F8, gb7, B7, T.take k ++ T.drop (k + 1), al8, cl8, rfl, by omega, (fun b o h => hF8 _ _ (hF7 _ _ (hm5 _ _ h))), hO7.mono hF8, hI7, pick_step hpB hx hp7, (fun y hy => hT y ((take_midG hx).mem_iff.2 (List.mem_cons_of_mem _ hy))), hL8, ?_⟩; (refine S.keep ?_; exact zk)))
         (revert S a; refine go 2 ?_; intro Z hZ a S)
         (refine wv S (sv_rem S rfl rfl rfl (by first | omega | (simp only [List.length_append, List.length_cons, List.length_nil]; omega))) ?_; clear S a; intro a S)
         (revert S a; refine go 2 ?_; intro a S)
         refine wgd S ?_ ?_
         · (clear S; intro h S)
           (revert S a; refine go 4 ?_; intro a S)
           (refine wv S (sv_loadF S rfl rfl (hc15 1 _ rfl)) ?_; clear S a; intro a S)
           (revert S a; refine go 3 ?_; intro a S)
           (refine wv S (sv_loadF S rfl rfl (hc15 2 _ rfl)) ?_; clear S a; intro a S)
           refine wpl_take S rfl rfl rfl ?_
           (have hav : vb.oneCell' = true := (by obtain ⟨_, _, e9, -, -⟩ := id hW7.B; rw [e9]; rfl); obtain ⟨hd0, hdp⟩ := pick_del hI7 htx hp7; refine wpl_gg (Gr := [ga]) S rfl rfl rfl rfl rfl rfl hO7 (fun gv h1 h2 => delGCt F7 hW7.T bb vb gv gb7 B7 h1 hav h2 x.key x.way _ _ (hT1.mono hm7) (hT2.mono hm7) bx1 bx2) rfl (by exact List.Perm.refl _) ?_; clear S a hO7; intro gb7 F8 a w hO7 hF8 S; rw [hd0] at S; replace hI7 : GInv aggs (gDel B7 x.key x.way) := gDel_inv hI7; replace hm7 : ∀ b o, F5 b = some o → F8 b = some o := (fun b o h => hF8 _ _ (hm7 _ _ h)); replace hc15 := Cels.mono hF8 hc15; replace hW7 := hW7.mono hF8; generalize hB8 : gDel B7 x.key x.way = B8 at hO7 hI7 hdp; clear hB8)
           refine wpl_take S rfl rfl rfl ?_
           (refine wv S (sv_lit (c := false) (sv_pure S rfl) (by rfl)) ?_; clear S a; intro a S)
           refine wpl_take S rfl rfl rfl ?_
           (refine wv S (sv_lit (c := false) (sv_pure S rfl) (by rfl)) ?_; clear S a; intro a S)
           (revert S a; refine go 5 ?_; intro a S)
           (refine wv S (sv_loadF S rfl rfl (hc15 1 _ rfl)) ?_; clear S a; intro a S)
           (revert S a; refine go 3 ?_; intro a S)
           (refine wv S (sv_loadF S rfl rfl (hc15 2 _ rfl)) ?_; clear S a; intro a S)
           (revert S a; refine go 3 ?_; intro a S)
           (refine wv S (sv_loadF S rfl rfl (hc15 3 _ rfl)) ?_; clear S a; intro a S)
           refine wpl_take S rfl rfl rfl ?_
           (have h80 : addE aggs B8 x.key x.way x.args = 0 := pick_add hIA hI7 ((List.Perm.append_right _ hdp).trans hpB) hx htx; refine wpl_gg (Gr := [ga]) S rfl rfl rfl rfl rfl rfl hO7 (fun gv h1 h2 => addGCt F8 hW7.T bb vb gv gb7 aggs B8 h1 hW7.B h2 hI7 x.key x.way x.args _ _ _ (hT1.mono hm7) (hT2.mono hm7) (hT3.mono hm7) bx1 bx2 bx3) rfl (by exact List.Perm.refl _) ?_; clear S a hO7; intro gb7 F9 a w hO7 hF9 S; rw [h80] at S; replace hp7 : (tri (gAdd aggs B8 x.key x.way x.args)).Perm (opT x :: tri B) := ((txo_of htx.1 h80).2.trans (hdp.cons _)); replace hI7 : GInv aggs (gAdd aggs B8 x.key x.way x.args) := gAdd_inv hI7 bx1 bx3; replace hm7 : ∀ b o, F5 b = some o → F9 b = some o := (fun b o h => hF9 _ _ (hm7 _ _ h)))
           refine wpl_take S rfl rfl rfl ?_
           (refine wv S (sv_lit (c := false) (sv_pure S rfl) (by rfl)) ?_; clear S a; intro a S)
           refine wpl_take S rfl rfl rfl ?_
           iterate 2 (refine wv S (sv_lit (c := false) (sv_pure S rfl) (by rfl)) ?_; clear S a; intro a S)
           (revert S a; revert hZ Z; refine go 2 ?_; intro a S)
           refine wpc_false S rfl ?_
           refine wp_skip ?_
           (refine hZ _ _ ?_)
           (rw [← hal] at S; refine ⟨_, _, _, hm7, hO7, hI7, hp7, ?_⟩; (refine S.keep ?_; exact zk))
         (clear S a; intro h a S)
         (revert S a; refine go 17 ?_; intro a S)
         (refine wv S (sv_lit (c := false) (sv_pure S rfl) (by rfl)) ?_; clear S a; intro a S)
         (revert S a; revert hZ Z; refine go 2 ?_; intro a S)
         refine wpc_false S rfl ?_
         refine wp_skip ?_
         (refine hZ _ _ ?_)
         (rw [← hal] at S; refine ⟨_, _, _, hm7, hO7, hI7, hp7, ?_⟩; (refine S.keep ?_; exact zk)))
        (revert S a; refine go 7 ?_; intro a S)
        refine wpc_sp S rfl ?_ ?_ <;> intro h
        · (obtain ⟨bp, op, hap, p, cs2, hpx, hcp2, hR2⟩ := LiM.pos (F := F5) (R := IntR) (by obtain ⟨_, _, e9, -, h9⟩ := id hW5.P; cases e9; exact h9) (k := i) (by omega); obtain rfl : cs2 = _ := hR2; have hcq : Cel F5 bp (op + i * 1) (.int .i64 p) := hcp2 0 _ rfl; rw [hap] at S)
          (revert S a; refine go 4 ?_; intro a S)
          (refine wv S (sv_loadF S rfl rfl hcq) ?_; clear S a; intro a S)
          (refine wv S (sv_conv S rfl rfl) ?_; clear S a; intro a S)
          (revert S a; refine go 2 ?_; intro a S)
          (refine wv S (sv_conv S rfl rfl) ?_; clear S a; intro a S)
          (refine wv S (sv_remU S rfl rfl rfl ⟨u64_pos _, by rw [u64_same (by omega)]; omega⟩) ?_; clear S a; intro a S)
          (obtain ⟨kk, hkk, hkl⟩ := pick_lt (p := p) (n := T.length) (by omega) (by omega); rw [hkk] at S)
          (refine wv S (sv_conv_i64 S rfl rfl (by first | omega | (simp only [List.length_append, List.length_cons, List.length_nil]; omega))) ?_; clear S a; intro a S)
          (revert S a; refine go 2 ?_; intro a S)
          (refine hZ _ _ ?_)
          exact zzJd1
        refine wp_skip ?_
        (refine hZ _ _ ?_)
        exact zzJd1
      (refine wp_exit ?_; conv => whnf)
      clear hZ Z
      (refine hZ _ _ ?_; clear hZ Z)
      (refine wp_seq_k ?_; intro Z hZ)
      (have hT0 : T = [] := List.eq_nil_of_length_eq_zero (by omega); subst hT0; rw [List.map_nil, List.append_nil] at hpB; have hW5 := W.mono hm5; have hlA := tri_len hIA; have hlB := tri_len hIB; have hlT := hpA.length_eq; rw [List.length_map] at hlT; have hlT2 := hpB.length_eq)
      (revert S a; refine go 2 ?_; intro a S)
      (refine wpl_call (Gs := [ga]) (Gr := [gb]) S rfl rfl rfl rfl rfl rfl (allCt F5 hW5.T hW5.E ba va ga aggs A (hOa.mono hm5) hW5.A h8 hkn hIA (by omega) (fun p hp => by have := hlA.2 p hp; omega)) rfl (by simp) ?_; clear S a; intro v144 F6 G6 a w hv hF6 S; obtain ⟨rfl, Y, vY, hYp, hYs, rfl, hYL⟩ := hv)
      (revert S a; revert hZ Z; refine go 9 ?_; intro Z hZ a S)
      (refine wpl_call (Gs := [gb]) (Gr := [ga]) S rfl rfl rfl rfl rfl rfl (allCt F6 (hW5.T.mono hF6) (hW5.E.mono hF6) bb vb gb aggs B (hOb.mono hF6) (hW5.B.mono hF6) h8 hkn hIB (by omega) (fun p hp => by have := hlB.2 p hp; omega)) rfl (by simpa using List.perm_append_comm) ?_; clear S a; intro v149 F7 G7 a w hv hF7 S; obtain ⟨rfl, yb, vyb, hbp, hbs, rfl, hbL⟩ := hv; obtain rfl : yb = Y := sort_same hIB hIA hpB hbp hYp hbs hYs; rw [rowK_perm hIB hIA hpB] at hbL S)
      (revert S a; revert hZ Z; refine go 10 ?_; intro Z hZ a S)
      iterate 2 (refine wv S (sv_lit (c := true) (sv_pure S rfl) (by simp)) ?_; clear S a; intro a S)
      (revert S a; refine go 5 ?_; intro a S)
      (refine wc0 S (sameRowsCt F7 _ _ _ (hYL.mono hF7) hbL) ?_; clear S a; intro v158 a w hv S; subst hv)
      (revert S a; revert hZ Z; refine go 4 ?_; intro a S)
      refine wp_ret (fr1 S Tryz.results3 ?_)
      (first | rfl | trace_state)
    (clear S a; intro h a S)
    (revert S a; revert hZ Z; refine go 4 ?_; intro a S)
    refine wpc_true S rfl ?_
    refine wp_sr fun Z hZ => ?_
    (refine wc0 S (gAwakeCt F hq he) ?_; clear S a; intro v31 a w hv S; subst hv)
    (revert S a; revert hZ Z; refine go 3 ?_; intro a S)
    refine wp_ret (fr1 S Tryz.results3 ?_)
    (first | rfl | trace_state)
  (clear S a; intro h a S)
  (revert S a; revert hZ Z; refine go 9 ?_; intro a S)
  refine wpc_true S rfl ?_
  refine wp_sr fun Z hZ => ?_
  (refine wc0 S (gAwakeCt F hq he) ?_; clear S a; intro v31 a w hv S; subst hv)
  (revert S a; revert hZ Z; refine go 3 ?_; intro a S)
  refine wp_ret (fr1 S Tryz.results3 ?_)
  (first | rfl | trace_state)
theorem gOrderCt (F : Heap) (hq : TabF F) (he : ErrF F) (v0 v1 v2 : Value) (aggs : List (List UInt8)) (l : List OpD) (ps : List Int) (hA : LiM F 1 StR v0 aggs) (hL : LiM F 4 OpR v1 l) (hP : LiM F 1 IntR v2 ps) (hg : ∀ x ∈ l, OpG x) :
  Ct Tryz.prog 3 [v0, v1, v2] F [] (fun _ _ u => u = .bool true) := by
 by_cases hn : newG aggs = 0
 ·exact gOrderYesCt F hq he v0 v1 v2 aggs l ps hA hL hP hg hn
 ·exact gOrderNoCt F hq he v0 v1 v2 aggs l hA hL hn
theorem u8_nat {n : Int} (h : (Lit.int .u8 n).wf = true) : ∃ k : Nat, n = (k : Int) := by
 simp only [Lit.wf, Bool.and_eq_true, decide_eq_true_eq] at h
 have : (IntKind.u8).min = 0 := by decide
 exact ⟨n.toNat, by omega⟩
def Qv (x : VH × Vf) : Prop := (-9223372036854775808 ≤ x.1.n ∧ x.1.n ≤ 9223372036854775807) ∧ RgF x.2
theorem rg_rose : ∀ {l : List (VH × Vf)}, (∀ x ∈ l, Qv x) → RgF (roseOf l)
 | [], _ => trivial
 | x :: r, h => ⟨(h x (List.mem_cons_self ..)).1, (h x (List.mem_cons_self ..)).2, rg_rose fun y hy => h y (List.mem_cons_of_mem _ hy)⟩
section
variable {H : Type} {enc : TypeId × Value → H} {w : World} {spare : Nat → Bool} {held : Bool}
theorem o_str (m : Nat) : Opn enc Tryz.prog w spare held m 9 (fun cs => ∃ s : List UInt8, cs = [.string (bs s)] ∧ s.length ≤ 140737488355328) := opn_string Tryz.underlying9
theorem o_u8 (m : Nat) : Opn enc Tryz.prog w spare held m 5 (fun cs => ∃ n, cs = [.int .u8 n] ∧ (Lit.int .u8 n).wf = true) := opn_int Tryz.underlying5
theorem o_int (m : Nat) : Opn enc Tryz.prog w spare held m 3 (fun cs => ∃ n, cs = [.int .i64 n] ∧ (Lit.int .i64 n).wf = true) := opn_int Tryz.underlying3
theorem o_ints (m : Nat) : Opn enc Tryz.prog w spare held m 24 (fun cs => ∃ v l, cs = [v] ∧ LiM (heapOf w) 1 IntR v l) :=
 opn_slice Tryz.underlying24 (by kernel_rfl) (by decide) (by kernel_rfl) ((o_int m).imp fun cs ⟨n, h, _⟩ => by subst h; exact ⟨rfl, n, rfl⟩)
theorem o_strs (m : Nat) : Opn enc Tryz.prog w spare held m 22 (fun cs => ∃ v l, cs = [v] ∧ LiM (heapOf w) 1 StR v l) :=
 opn_slice Tryz.underlying22 (by kernel_rfl) (by decide) (by kernel_rfl) ((o_str m).imp fun cs ⟨s, h, _⟩ => by subst h; exact ⟨rfl, s, rfl⟩)
theorem o_valQ : ∀ m, Opn enc Tryz.prog w spare held m 45 (fun cs => cs.length = 4 ∧ ∃ x, RoR 4 VhR (heapOf w) x cs ∧ Qv x)
 | 0 => fun _ _ _ _ h => absurd h (Nat.not_lt_zero _)
 | m + 1 => (opn_struct Tryz.underlying45 (by kernel_rfl) (.cons (o_u8 m) (.cons (o_i64 m) (.cons (o_str m) (.cons (opn_slice (R := fun F x cs => RoR 4 VhR F x cs ∧ Qv x) Tryz.underlying32 (by kernel_rfl) (by decide) (by kernel_rfl) (o_valQ m)) .nil))))).imp fun cs ⟨a, b, e, ⟨k, h1, hk⟩, a2, b2, e2, ⟨n, h2, hn⟩, a3, b3, e3, ⟨s, h3, hs⟩, a4, b4, e4, ⟨v, l, h4, h5⟩, e5⟩ => by
  obtain ⟨k, rfl⟩ := u8_nat hk
  subst e; subst h1; subst e2; subst h2; subst e3; subst h3; subst e4; subst h4; subst e5
  exact ⟨rfl, (⟨k, n, s⟩, roseOf l), ⟨_, v, rfl, rfl, ⟨rfl, hs⟩, trs_lim (lim_and h5).1⟩, bounds_i64 hn, rg_rose (lim_and h5).2⟩
theorem o_vals (m : Nat) : Opn enc Tryz.prog w spare held m 32 (fun cs => ∃ v r, cs = [v] ∧ TrS (heapOf w) 4 VhR v r ∧ RgF r) :=
 (opn_slice (R := fun F x cs => RoR 4 VhR F x cs ∧ Qv x) Tryz.underlying32 (by kernel_rfl) (by decide) (by kernel_rfl) (o_valQ m)).imp fun cs ⟨v, l, h, h2⟩ => ⟨v, roseOf l, h, trs_lim (lim_and h2).1, rg_rose (lim_and h2).2⟩
theorem o_op (m : Nat) : Opn enc Tryz.prog w spare held m 34 (fun cs => cs.length = 4 ∧ ∃ x, OpR (heapOf w) x cs ∧ OpG x) :=
  ((opn_struct (m := m) Tryz.underlying34 (by kernel_rfl) (.cons (o_u8 m) (.cons (o_vals m) (.cons (o_vals m) (.cons (o_vals m) .nil))))).lt (Nat.le_succ m)).imp fun cs ⟨a, b, e, ⟨k, h1, hk⟩, a2, b2, e2, ⟨v1, r1, h2, t1, g1⟩, a3, b3, e3, ⟨v2, r2, h3, t2, g2⟩, a4, b4, e4, ⟨v3, r3, h4, t3, g3⟩, e5⟩ => by
    obtain ⟨k, rfl⟩ := u8_nat hk
    subst e; subst h1; subst e2; subst h2; subst e3; subst h3; subst e4; subst h4; subst e5
    exact ⟨rfl, ⟨k, r1, r2, r3⟩, ⟨v1, v2, v3, rfl, t1, t2, t3⟩, g1, g2, g3⟩
theorem o_ops (m : Nat) : Opn enc Tryz.prog w spare held m 23 (fun cs => ∃ v l, cs = [v] ∧ LiM (heapOf w) 4 OpR v l ∧ ∀ x ∈ l, OpG x) :=
 (opn_slice (R := fun F x cs => OpR F x cs ∧ OpG x) Tryz.underlying23 (by kernel_rfl) (by decide) (by kernel_rfl) (o_op m)).imp fun cs ⟨v, l, h, h2⟩ => ⟨v, l, h, (lim_and h2).1, (lim_and h2).2⟩
end
end Go.Proofs.YtbhipiepfclneaaGreatDoor
