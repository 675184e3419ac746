/- Walks. -/
import Derived.Test.YthnafdbebniapaaGreatDoorKCoverMatchesUpto06
import Derived.Test.YthnafdbebniapaaGreatDoorQ12
import Derived.Test.YthnafdbebniapaaGreatDoorQ09
import Derived.Test.YthnafdbebniapaaGreatDoorQ08
import Derived.Test.YthnafdbebniapaaGreatDoorQ06
import Derived.Test.YthnafdbebniapaaGreatDoorQ05
import Derived.Test.YthnafdbebniapaaGreatDoorQ04
import Derived.Test.YthnafdbebniapaaGreatDoorQ03
import Derived.Test.YthnafdbebniapaaGreatDoorQ02
import Derived.Test.YthnafdbebniapaaGreatDoorKCoverMatchesUpto01
import Derived.Test.YthnafdbebniapaaGreatDoorKCoverMatchesUpto02
import Derived.OpenShut
import Derived.SizedLaws
import Derived.ChangeSame
import Derived.Test.YthnafdbebniapaaGreatDoorQ38
import Derived.Test.YthnafdbebniapaaGreatDoorQ37
import Derived.Test.YthnafdbebniapaaGreatDoorQ30
import Derived.Test.YthnafdbebniapaaGreatDoorQ29
import Derived.Test.YthnafdbebniapaaGreatDoorQ28
import Derived.Test.YthnafdbebniapaaGreatDoorQ27
import Derived.Test.YthnafdbebniapaaGreatDoorQ26
import Derived.Test.YthnafdbebniapaaGreatDoorKCoverMatchesUptoTy
import Derived.Test.YthnafdbebniapaaGreatDoorQ19
import Derived.Test.YthnafdbebniapaaGreatDoorQ18
import Derived.Test.YthnafdbebniapaaGreatDoorQ17
import Derived.Test.YthnafdbebniapaaGreatDoorQ11
import Derived.Test.YthnafdbebniapaaGreatDoorQ10
import Derived.Test.YthnafdbebniapaaGreatDoorQShelf
import Derived.Test.YthnafdbebniapaaGreatDoorQ21
import Derived.Test.YthnafdbebniapaaGreatDoorQ16
import Derived.Test.YthnafdbebniapaaGreatDoorQ15
import Derived.Test.YthnafdbebniapaaGreatDoorQ14
import Derived.Test.YthnafdbebniapaaGreatDoorQ13
import Derived.Test.YthnafdbebniapaaGreatDoorQ25
import Derived.Test.YthnafdbebniapaaGreatDoorQ20
import Derived.Test.YthnafdbebniapaaGreatDoorQ24
import Derived.Test.YthnafdbebniapaaGreatDoorQ23
import Derived.Test.YthnafdbebniapaaGreatDoorQ22
import Derived.Test.YthnafdbebniapaaGreatDoorQ35
import Derived.Test.YthnafdbebniapaaGreatDoorQ34
import Derived.Test.YthnafdbebniapaaGreatDoorQ33
import Derived.Test.YthnafdbebniapaaGreatDoorQ36
import Derived.Test.YthnafdbebniapaaGreatDoorQ32
import Derived.Test.YthnafdbebniapaaGreatDoorQ31
set_option maxHeartbeats 64000000
set_option maxRecDepth 20000
namespace Go.Proofs.YthnafdbebniapaaGreatDoor
open Go Go.Wk Go.Un Go.De Go.Cv
set_option linter.unusedSimpArgs false
set_option linter.unusedVariables false
attribute [local irreducible] Go.wpList Go.Code.wp Go.wpStill Go.Wk.wpPre Go.bodyPost Go.Calls Go.Wk.Ct Go.Wk.OwnS Go.Wk.wpG Go.Wk.wpM
theorem matchesCt (F : Heap) (hM : MaxF F) (hT : TabF F) (hE : ErrT F) (eh : EH) (xl : Ef) (cs : List Value) (vh : VH) (VL : Vf) (cs2 : List Value) (l : List Bd) {v : Value} (hz2 : dpN VL + 1 ≤ 1000000000) (hX : PxC F cs eh xl) (hb : BndH eh) (hbl : BndL xl) (hV : VaC F cs2 vh VL) (h56 : VL.len * 56 ≤ 140737488355328) (hth : ThV VL) (hl : LiM F 5 BvR v l) (hlt : ∀ x ∈ l, x.2.2.len * 56 ≤ 140737488355328 ∧ ThV x.2.2) :
    Ct Tryz.prog 3 [.agg ⟨cs⟩, .agg ⟨cs2⟩, v] F [] (fun _ _ u => u = .bool true) := by
  obtain ⟨aw, nw, cw, ao, cap, rfl, hT2, hT3⟩ := id hX
  obtain ⟨av, cv, rfl, hTV, hsv⟩ := vac_sl hV
  obtain ⟨a0, c0, rfl, hcap0, hpos0⟩ := id hl
  refine Ct.enter Tryz.func3 rfl Tryz.ntmps3 rfl fun w0 a S => ?_
  refine wp_sr fun Z hZ => ?_
  (refine wbx S ?_; clear S a; intro b3 a w S)
  (refine wbx S ?_; clear S a; intro b4 a w S)
  (revert S a; revert hZ Z; refine go 3 ?_; intro a S)
  (refine wp_seq_k ?_; intro Z hZ)
  replace hZ : ∀ (a' : Act) (w' : World), (∃ (pe pw : Nat) (F1 : Heap), (∀ b o, F b = some o → F1 b = some o) ∧ Cnt pe (xl.size + 1) 300 ∧ (pw < 300 → pw = wtV vh VL) ∧ pw ≤ 300 + 4398046511104 ∧ St 104 [(2, .slice a0 l.length c0), (3, ptr b3), (4, ptr b4), (7, .int .i64 ((pe : Int) + (pw : Int) + (l.length : Int)))] w0 F [] F1 [[(b4, .cells ⟨[.int .u8 (vh.k : Int), .int .i64 vh.n, .string (bs vh.s), .slice av VL.len cv]⟩ 26 (0, 0))], [(b3, .cells ⟨[.int .u8 (eh.k : Int), .int .i64 eh.l, .int .i64 eh.c, .string (bs eh.nm), .int .u8 (eh.v.k : Int), .int .i64 eh.v.n, .string (bs eh.v.s), .slice aw nw cw, .slice ao xl.len cap]⟩ 29 (0, 0))]] a' w') → Z a' w' := (by
   (intro a w hM; refine hZ _ _ ?_; clear hZ Z; clear S; obtain ⟨pe, pw, F1, hF1, hpe, hpw, hpwb, S⟩ := hM)
   (refine wp_seq_k ?_; intro Z hZ)
   replace hZ : ∀ (a' : Act) (w' : World), (∃ (i : Nat) (n : Nat), i ≤ l.length ∧ pe + pw + l.length ≤ n ∧ n ≤ 200000000000000 ∧ (True) ∧ St 104 [(2, .slice a0 l.length c0), (3, ptr b3), (4, ptr b4), (7, .int .i64 (n : Int)), (8, .int .i64 (i : Int))] w0 F [] F1 [[(b4, .cells ⟨[.int .u8 (vh.k : Int), .int .i64 vh.n, .string (bs vh.s), .slice av VL.len cv]⟩ 26 (0, 0))], [(b3, .cells ⟨[.int .u8 (eh.k : Int), .int .i64 eh.l, .int .i64 eh.c, .string (bs eh.nm), .int .u8 (eh.v.k : Int), .int .i64 eh.v.n, .string (bs eh.v.s), .slice aw nw cw, .slice ao xl.len cap]⟩ 29 (0, 0))]] a' w') → Z a' w' := (by
    (intro a w hM; refine hZ _ _ ?_; clear hZ Z; clear S; obtain ⟨i, n, hil, hn1, hn2, hxt, S⟩ := hM)
    (revert S a; refine go 6 ?_; intro Z hZ a S)
    refine wpc_sp S rfl ?_ ?_ <;> intro h
    · refine wp_sr fun Z hZ => ?_
      (refine wc0 S (awakeCt F1 (hM.mono hF1) (hT.mono hF1) (hE.mono hF1)) ?_; clear S a; intro v46 a w hv S; subst hv)
      (revert S a; revert hZ Z; refine go 3 ?_; intro a S)
      refine wp_ret (fr1 S Tryz.results3 ?_)
      rfl
    refine wp_skip ?_
    (refine hZ _ _ ?_; clear hZ Z)
    (refine wp_seq_k ?_; intro Z hZ)
    (have hmin : l.length + min xl.size VL.size ≤ 1000 := (by have hw := wt_size VL; unfold Cnt at hpe; unfold wtV at hpw; omega); have hlen : l.length ≤ 1000 := (by omega); clear hn1 hn2 hpe hpw hpwb hil)
    (revert S a; refine go 2 ?_; intro a S)
    (refine wpl_call (Gs := []) (Gr := [[(b4, _)], [(b3, _)]]) S rfl rfl rfl rfl rfl rfl (givenCt F1 l _ (by omega) hlt (hl.mono hF1)) rfl (by exact List.Perm.refl _) ?_; clear S a; intro u9 F48 G9 a w hv hF48 S; obtain ⟨g9, x9, rfl, hown9, hx9⟩ := hv; (simp only [List.singleton_append] at S); have hle48 := add_le (G1 := []) S; replace S := St.freeze (G1 := []) S; (simp only [List.nil_append, List.singleton_append] at S hle48); have hl5 : LiM _ 5 BvR _ l := LiC.lim hown9 hx9 rfl hle48 (by omega); clear hown9 hx9; generalize hFx : Heap.add F48 _ = F48b at *; clear hFx; have hF6 : ∀ b o, F b = some o → F48b b = some o := (fun b o h => hle48 _ _ (hF48 _ _ (hF1 _ _ h))); obtain ⟨a5, c5, rfl, -, -⟩ := id hl5)
    (revert S a; revert hZ Z; refine go 7 ?_; intro Z hZ a S)
    (refine wpl_call (Gs := []) (Gr := [[(b4, _)], [(b3, _)]]) S rfl rfl rfl rfl rfl rfl (MatchCt F48b (hM.mono hF6) eh xl _ vh VL _ _ l (by omega) (hX.mono hF6) hb hbl (hV.mono hF6) h56 hth hl5) rfl (by exact List.Perm.refl _) ?_; clear S a; intro u9 F53 G9 a w hv hF53 S; have S' := ma_O S hv; clear S hv; obtain ⟨aq, cq, bq, kq, gq, xq, rfl, hrq, hkq, hownq, hlq, S⟩ := S'; have hF53a : ∀ b o, F b = some o → F53 b = some o := (fun b o h => hF53 _ _ (hF6 _ _ h)); have hkk : kq.length ≤ 2001 := (by cases bq with | false => rw [hkq rfl]; exact Nat.zero_le _ | true => (rw [if_pos rfl] at hrq; have := mt_min (mat_some hrq).2.2; omega)))
    (revert S a; revert hZ Z; refine go 11 ?_; intro Z hZ a S)
    (refine wpl_call (Gs := []) (Gr := [gq, [(b4, _)], [(b3, _)]]) S rfl rfl rfl rfl rfl rfl (Match12Ct F53 eh xl _ vh VL _ _ l (by omega) hz2 (hX.mono hF53a) hb hbl (hV.mono hF53a) h56 hth (hl.mono hF53a)) rfl (by exact List.Perm.refl _) ?_; clear S a; intro u9 F60 G9 a w hv hF60 S; have S' := mar_S S hv (fun k hk => by have := mt_min (mat_some hk).2.2; omega); clear S hv; obtain ⟨F7, ar, cr, br, kr, hF7, rfl, hrr, hkr, hlr, S⟩ := S'; obtain ⟨rfl, rfl⟩ := ma_same hrq hkq hrr hkr; have hF7q : ∀ b o, F53 b = some o → F7 b = some o := (fun b o h => hF7 _ _ (hF60 _ _ h)))
    (revert S a; revert hZ Z; refine go 11 ?_; intro Z hZ Z hZ a S)
    (refine wv S (sv_lit (c := false) (sv_neB S rfl rfl rfl) (by exact bne_self_eq_false _)) ?_; clear S a; intro a S)
    (revert S a; refine go 4 ?_; intro a S)
    (refine wpl_call (Gs := [gq]) (Gr := [[(b4, _)], [(b3, _)]]) S rfl rfl rfl rfl rfl rfl (backOCt F7 kr aq cq gq xq (by omega) hownq (hlq.mono hF7q)) rfl permG1 ?_; clear S a; intro u9 F68 G9 a w hv hF68 S; obtain ⟨g9, x9, rfl, hown9, hx9⟩ := hv; have hle68 := add_le (G1 := [gq]) S; replace S := St.freeze (G1 := [gq]) S; (simp only [List.nil_append, List.singleton_append] at S hle68); have hB68 : LiM _ 5 BvR _ kr := LiC.lim hown9 hx9 rfl hle68 (by omega); clear hown9 hx9; generalize hFx : Heap.add F68 _ = F68b at *; clear hFx)
    (revert S a; refine go 3 ?_; intro a S)
    (refine wc0 S (sameBsCt _ kr _ _ hB68 (hlr.mono (fun b o h => hle68 _ _ (hF68 _ _ h)))) ?_; clear S a; intro v70 a w hv S; subst hv)
    skip
    refine wpl_take S rfl rfl rfl ?_
    (refine wv S (sv_lit (c := false) (sv_pure S rfl) (by rfl)) ?_; clear S a; intro a S)
    (revert S a; refine go 5 ?_; intro a S)
    (refine wpl_call (Gs := []) (Gr := [gq, [(b4, _)], [(b3, _)]]) S rfl rfl rfl rfl rfl rfl (backCt F68b l _ (by omega) (hl5.mono (fun b o h => hle68 _ _ (hF68 _ _ (hF7q _ _ (hF53 _ _ h)))))) rfl (by exact List.Perm.refl _) ?_; clear S a; intro u9 F75 G9 a w hv hF75 S; obtain ⟨g9, x9, rfl, hown9, hx9⟩ := hv; (simp only [List.singleton_append] at S); have hle75 := add_le (G1 := []) S; replace S := St.freeze (G1 := []) S; (simp only [List.nil_append, List.singleton_append] at S hle75); have hB75 : LiM _ 5 BvR _ l := LiC.lim hown9 hx9 rfl hle75 (by omega); clear hown9 hx9; generalize hFx : Heap.add F75 _ = F75b at *; clear hFx; have hG : ∀ b o, F53 b = some o → F75b b = some o := (fun b o h => hle75 _ _ (hF75 _ _ (hle68 _ _ (hF68 _ _ (hF7q _ _ h))))); have hGl : ∀ b o, F b = some o → F75b b = some o := (fun b o h => hG _ _ (hF53a _ _ h)); have hlr75 := hlr.mono (fun b o h => hle75 _ _ (hF75 _ _ (hle68 _ _ (hF68 _ _ h)))); have hl75 := hl5.mono (fun b o h => hG _ _ (hF53 _ _ h)))
    (revert S a; refine go 3 ?_; intro a S)
    (refine wc0 S (sameBsCt _ l _ _ hB75 (hl.mono hGl)) ?_; clear S a; intro v77 a w hv S; subst hv)
    skip
    refine wpl_take S rfl rfl rfl ?_
    (refine wv S (sv_lit (c := false) (sv_pure S rfl) (by rfl)) ?_; clear S a; intro a S)
    (revert S a; revert hZ Z; refine go 3 ?_; intro a S)
    refine wpc_false S rfl ?_
    (revert S a; revert hZ Z; refine go 8 ?_; intro Z hZ a S)
    refine wpc_loop (fun m a w' => ∃ (i : Nat) (g : Grp), m = kr.length - i ∧ i ≤ kr.length ∧ (0 < kr.length → ∃ bT cs, aq = some ⟨bT, 0, none⟩ ∧ g = [(bT, .cells ⟨cs⟩ 44 (0, 0))] ∧ kr.length * 5 ≤ cs.length) ∧ St 104 [(3, ptr b3), (4, ptr b4), (9, .slice a5 l.length c5), (10, .slice aq kr.length cq), (12, .slice ar kr.length cr), (14, .int .i64 (i : Int))] w0 F [] F75b [g, [(b4, .cells ⟨[.int .u8 (vh.k : Int), .int .i64 vh.n, .string (bs vh.s), .slice av VL.len cv]⟩ 26 (0, 0))], [(b3, .cells ⟨[.int .u8 (eh.k : Int), .int .i64 eh.l, .int .i64 eh.c, .string (bs eh.nm), .int .u8 (eh.v.k : Int), .int .i64 eh.v.n, .string (bs eh.v.s), .slice aw nw cw, .slice ao xl.len cap]⟩ 29 (0, 0))]] a w') ?_ ?_
    · (refine ⟨kr.length, 0, gq, by omega, Nat.zero_le _, ?_, ?_⟩; rotate_left 1; (refine S.keep ?_; exact zk); intro h0; obtain ⟨bT, capT, exT, e8, e7, hcq, hcm, hxl, hxe⟩ := ownS_blkN hownq h0; cases e8; exact ⟨bT, _, rfl, e7, by rw [List.length_append]; omega⟩)
    (clear S; rintro m a w ⟨i, g, rfl, hil, hg, S⟩)
    (revert S a; refine go 8 ?_; intro Z hZ a S)
    refine wpc_sp S rfl ?_ ?_ <;> intro h
    · (revert S a; revert hZ Z; refine go 4 ?_; intro Z hZ a S)
      (obtain ⟨bT, cs9, rfl, rfl, hcl⟩ := hg (by omega))
      (revert S a; refine go 5 ?_; intro a S)
      (refine wpl_store1 S rfl rfl rfl rfl rfl rfl (by omega) ?_; clear S; intro w S)
      (revert S a; revert hZ Z; refine go 7 ?_; intro a S)
      change ∃ m', _ ∧ _
      (refine ⟨kr.length - (i + 1), by omega, i + 1, [(bT, .cells ⟨cs9.set (0 + i * 5 + 0) (.string (bs [115, 112, 111, 105, 108, 116]))⟩ 44 (0, 0))], rfl, by omega, fun _ => ⟨bT, _, rfl, rfl, by rw [List.length_set]; exact hcl⟩, ?_⟩; refine S.keep ?_; exact zk)
    (refine wp_exit ?_; conv => whnf)
    clear hZ Z
    (refine hZ _ _ ?_; clear hZ Z)
    (refine wp_seq_k ?_; intro Z hZ)
    (replace S := S.drop1; clear hg)
    (revert S a; refine go 4 ?_; intro a S)
    (refine wpl_call (Gs := []) (Gr := [[(b4, _)], [(b3, _)]]) S rfl rfl rfl rfl rfl rfl (MatchCt F75b (hM.mono hGl) eh xl _ vh VL _ _ l (by omega) (hX.mono hGl) hb hbl (hV.mono hGl) h56 hth hl75) rfl (by exact List.Perm.refl _) ?_; clear S a; intro u9 F94 G9 a w hv hF94 S; have S' := ma_S S hv (fun k hk => by have := mt_min (mat_some hk).2.2; omega); clear S hv; obtain ⟨F8, au, cu, bu, ku, hF8, rfl, hru, hku, hlu, S⟩ := S'; obtain ⟨rfl, rfl⟩ := ma_same hrq hkq hru hku; have hH : ∀ b o, F75b b = some o → F8 b = some o := (fun b o h => hF8 _ _ (hF94 _ _ h)))
    (revert S a; revert hZ Z; refine go 9 ?_; intro Z hZ a S)
    (refine wpl_call (Gs := []) (Gr := [[(b4, _)], [(b3, _)]]) S rfl rfl rfl rfl rfl rfl (backCt F8 ku _ (by omega) hlu) rfl (by exact List.Perm.refl _) ?_; clear S a; intro u9 F98 G9 a w hv hF98 S; obtain ⟨g9, x9, rfl, hown9, hx9⟩ := hv; (simp only [List.singleton_append] at S); have hle98 := add_le (G1 := []) S; replace S := St.freeze (G1 := []) S; (simp only [List.nil_append, List.singleton_append] at S hle98); have hB98 : LiM _ 5 BvR _ ku := LiC.lim hown9 hx9 rfl hle98 (by omega); clear hown9 hx9; generalize hFx : Heap.add F98 _ = F98b at *; clear hFx; have hHl : ∀ b o, F75b b = some o → F98b b = some o := (fun b o h => hle98 _ _ (hF98 _ _ (hH _ _ h))); have hHf : ∀ b o, F b = some o → F98b b = some o := (fun b o h => hHl _ _ (hGl _ _ h)))
    (revert S a; refine go 1 ?_; intro a S)
    (refine wc0 S (sameBsCt _ ku _ _ hB98 (hlr75.mono hHl)) ?_; clear S a; intro v100 a w hv S; subst hv)
    skip
    (revert S a; refine go 2 ?_; intro a S)
    (refine wc0 S (awakeCt F98b (hM.mono hHf) (hT.mono hHf) (hE.mono hHf)) ?_; clear S a; intro v102 a w hv S; subst hv)
    (revert S a; revert hZ Z; refine go 4 ?_; intro a S)
    refine wp_ret (fr1 S Tryz.results3 ?_)
    rfl)
   (revert S a; refine go 5 ?_; intro a S)
   refine wpc_loop (fun m a w' => ∃ (i : Nat) (n : Nat), m = l.length - i ∧ i ≤ l.length ∧ pe + pw + l.length ≤ n ∧ n ≤ 200000000000000 ∧ St 104 [(2, .slice a0 l.length c0), (3, ptr b3), (4, ptr b4), (7, .int .i64 (n : Int)), (8, .int .i64 (i : Int))] w0 F [] F1 [[(b4, .cells ⟨[.int .u8 (vh.k : Int), .int .i64 vh.n, .string (bs vh.s), .slice av VL.len cv]⟩ 26 (0, 0))], [(b3, .cells ⟨[.int .u8 (eh.k : Int), .int .i64 eh.l, .int .i64 eh.c, .string (bs eh.nm), .int .u8 (eh.v.k : Int), .int .i64 eh.v.n, .string (bs eh.v.s), .slice aw nw cw, .slice ao xl.len cap]⟩ 29 (0, 0))]] a w') ?_ ?_
   · (rw [show ((pe : Int) + (pw : Int) + (l.length : Int)) = ((pe + pw + l.length : Nat) : Int) by omega] at S; unfold Cnt at hpe; refine ⟨l.length, 0, pe + pw + l.length, by omega, Nat.zero_le _, Nat.le_refl _, by omega, ?_⟩; refine S.keep ?_; exact zk)
   (clear S; rintro m a w ⟨i, n, rfl, hil, hn1, hn2, S⟩)
   (revert S a; refine go 7 ?_; intro Z hZ Z hZ a S)
   refine wgd S ?_ ?_
   · (clear S; intro h S)
     (revert S a; revert hZ Z; refine go 6 ?_; intro a S)
     refine wpc_sp S rfl ?_ ?_ <;> intro h
     · (revert S a; revert hZ Z; refine go 4 ?_; intro Z hZ a S)
       (obtain ⟨b8, o8, hao, x, cs1, hx, hc1, a91, c91, rfl, hVx⟩ := LiM.pos hpos0 (k := i) (by omega); rw [hao] at S; replace hc1 := Cels.mono hF1 hc1; replace hVx := hVx.mono hF1; have hc2 := Cels.drop hc1 1)
       (revert S a; refine go 6 ?_; intro a S)
       (refine wv S (sv_loadAF S rfl rfl hc2 (by rfl)) ?_; clear S a; intro a S)
       (refine wc0 S (weightCt F1 x.2.2.size x.2.1 x.2.2 _ 300 (Nat.le_refl _) (by decide) (vac_tr hVx).2 (vac_tr hVx).1) ?_; clear S a; intro v38 a w hv S; obtain ⟨p9, rfl, -, hp9b⟩ := hv)
       (revert S a; revert hZ Z; refine go 9 ?_; intro a S)
       change ∃ m', _ ∧ _
       (rw [← hao] at S; refine ⟨l.length - (i + 1), by omega, i + 1, n + p9, rfl, by omega, by omega, by omega, ?_⟩; refine S.keep ?_; exact zk)
     (refine wp_exit ?_; conv => whnf)
     (clear hZ Z; (refine hZ _ _ ?_))
     (refine ⟨i, n, hil, hn1, hn2, ?_, ?_⟩; rotate_left 1; (refine S.keep ?_; exact zk); first | trivial | omega)
   (clear S a; intro h a S)
   (revert S a; revert hZ Z; refine go 4 ?_; intro a S)
   refine wpc_false S rfl ?_
   (refine wp_exit ?_; conv => whnf)
   (clear hZ Z; (refine hZ _ _ ?_))
   (refine ⟨i, n, hil, hn1, hn2, ?_, ?_⟩; rotate_left 1; (refine S.keep ?_; exact zk); first | trivial | omega))
  (refine wpc_mixM [0, 3, 5, 6, 7, 8] [0, 3] [] (.one 0 (.one 3 (.one 6 (.one 7 (.one 1 (.one 2 (.one 4 (.one 5 (.one 8 (.one 9 .nil)))))))))) [b3, b4] S mixed (by kernel_rfl) ?_; clear S; intro w S)
  (revert S a; refine go 5 ?_; intro a S)
  (refine wpl_buildSlice S rfl rfl rfl rfl rfl rfl (by rfl) (by simp [Value.cells, splice]) rfl (by rfl) (by rfl) ?_; clear S a; intro b14 a w hown14 S; have S' := frz1 S; clear S; obtain ⟨F14, hF14, hb14, S⟩ := S')
  (revert S a; refine go 2 ?_; intro a S)
  (refine wc0 S (exprsNCt F14 (xl.size + 1) (.cons eh xl .nil) _ 300 (by simp only [Rose.size]; omega) (by decide) (tr_px1 hb14 (hX.mono hF14) rfl)) ?_; clear S a; intro v15 a w hv S; obtain ⟨pe, rfl, hpe⟩ := hv; have hpe1 := hpe.1)
  (revert S a; refine go 2 ?_; intro a S)
  (refine wc0 S (weightCt _ VL.size vh VL _ 300 (Nat.le_refl _) (by decide) hsv (by first | exact hTV | exact hTV.mono hF14)) ?_; clear S a; intro v17 a w hv S; obtain ⟨pw, rfl, hpw, hpwb⟩ := hv)
  (revert S a; refine go 7 ?_; intro a S)
  (refine hZ _ _ ?_)
  (refine ⟨pe, pw, F14, hF14, by (simp only [Rose.size, Nat.zero_add, Nat.add_zero] at hpe; exact hpe), hpw, hpwb, ?_⟩; refine S.keep ?_; exact zk)
end Go.Proofs.YthnafdbebniapaaGreatDoor
namespace Go.De
open Go Go.Wk Go.Un Go.ChangeShapes Go.WideShapes
set_option linter.unusedSimpArgs false
set_option linter.unusedVariables false
theorem weightsAll_mem' {H : Type} {P : Program} {e : TypeId} {d : DataW H} : ∀ {l : List (DataW H)}, d ∈ l → ∀ q ∈ d.weights P e, q ∈ DataW.weightsAll P e l
 | x :: l, hd, q, hq => by
  unfold DataW.weightsAll
  rcases List.mem_cons.1 hd with rfl | hd
  ·exact List.mem_append_left _ hq
  ·exact List.mem_append_right _ (weightsAll_mem' hd q hq)
theorem open_listW {α : Type} [Inhabited α] {H : Type} {μ : DataW H → Nat} [hμ : Msr μ] {enc : TypeId × Value → H} {P : Program} {w : World} {spare : Nat → Bool} {held : Bool} {t e : TypeId} (cell : α → List Value) {sz : Nat} (good : α → Prop)
  (ht : P.underlying t = some (.slice e)) (hc : P.cellsOf e = sz) (h0 : 0 < sz) (hlen : ∀ x, (cell x).length = sz)
  {cs0 : List Value} {d : DataW H} {p : List MemPlace} {fuel : Nat} (h : DataW.trod enc P w 0 spare held fuel t cs0 = some (d, p)) (hw : (d.weights P t).all (· ≤ reachBytes) = true)
  (hel : ∀ n cs d' p, DataW.trod enc P w 0 spare held n e cs = some (d', p) → μ d' < μ d → (d'.weights P e).all (· ≤ reachBytes) = true → ∃ x, cs = cell x ∧ good x) :
  ∃ (a : Option Addr) (len cap : Nat) (l : List α), cs0 = [.slice a len cap] ∧ l.length = len ∧ len ≤ maxLen ∧ (∀ x ∈ l, good x) ∧ SlC (heapOf w) (.slice a len cap) len (l.flatMap cell) ∧ len * P.bytesOf e ≤ reachBytes := by
 rcases Go.Deep.open_slice ht h with ⟨rfl, _⟩ | ⟨x, len, cap, m, n, D, Pl, rfl, -, hl, hm, hmm, hx, hi⟩
 ·exact ⟨none, 0, 0, [], rfl, rfl, Nat.zero_le _, by simp, ⟨none, 0, rfl, Nat.le_refl _, fun h => absurd h (by omega)⟩, by rw [Nat.zero_mul]; exact Nat.zero_le _⟩
 ·obtain ⟨hd, -⟩ := Prod.mk.inj hx
  have hlm : len ≤ m := by rw [hmm]; split <;> omega
  have hwe : ∀ q, q ∈ (len + (m - len)) * P.bytesOf e :: (DataW.weightsAll P e ((List.range len).map D) ++ DataW.weightsAll P e ((List.range (m - len)).map fun j => D (len + j))) → q ≤ reachBytes := fun q hq => by
   have h1 := List.all_eq_true.1 hw q (by rw [hd]; simp only [DataW.weights, ht, List.length_map, List.length_range]; exact hq)
   simpa using h1
  have hch : ∀ i, i < len → ∃ y, (∀ j v, (cell y)[j]? = some v → w.cell? ((x.add (i * sz)).add j) = some v) ∧ good y := fun i hi' => by
   obtain ⟨cs, h1, h2⟩ := hi i (by omega)
   rw [hc] at h1
   obtain ⟨y, rfl, hy⟩ := hel _ _ _ _ h2 (by
    rw [hd]
    exact hμ.s (List.mem_map.2 ⟨i, List.mem_range.2 hi', rfl⟩)) (by
    rw [List.all_eq_true]
    intro q hq
    have := hwe q (List.mem_cons_of_mem _ (List.mem_append_left _ (weightsAll_mem' (List.mem_map.2 ⟨i, List.mem_range.2 hi', rfl⟩) q hq)))
    simpa using this)
   refine ⟨y, fun j v hj => ?_, hy⟩
   obtain ⟨_, _, h3⟩ := World.cells?_some h1
   have hj2 := (List.getElem?_eq_some_iff.1 hj).1
   rw [hlen] at hj2
   exact (h3 j hj2).trans hj
  obtain ⟨X, hX⟩ := Go.Deep.choose_lt hch
  have hget : ∀ i y, ((List.range len).map X)[i]? = some y → i < len ∧ y = X i := fun i y hy => by
   have := (List.getElem?_eq_some_iff.1 hy).1
   simp only [List.length_map, List.length_range] at this
   rw [List.getElem?_map, List.getElem?_range this] at hy
   exact ⟨this, by simpa using hy.symm⟩
  refine ⟨some x, len, cap, (List.range len).map X, rfl, by simp, Nat.le_trans hl hm, fun y hy => ?_, ⟨some x, cap, rfl, hl, fun hk => ?_⟩, ?_⟩
  ·obtain ⟨i, hi1, rfl⟩ := List.mem_map.1 hy
   exact (hX i (List.mem_range.1 hi1)).2
  ·obtain ⟨b, off, spot⟩ := x
   have hsp : spot = none := by
    have hp : 0 < (cell (X 0)).length := by rw [hlen]; exact h0
    have := (hX 0 hk).1 0 _ (List.getElem?_eq_getElem hp)
    simpa [Addr.add] using World.cell?_spot this
   subst hsp
   refine ⟨b, off, rfl, cels_flat hlen _ _ fun i y hy => ?_⟩
   obtain ⟨hi1, rfl⟩ := hget i y hy
   intro j v hv
   have := (cel_of ((hX i hi1).1 j v hv)).2
   rw [add_none, add_none] at this
   exact this
  ·have h1 := hwe _ (List.mem_cons_self ..)
   exact Nat.le_trans (Nat.mul_le_mul_right _ (by omega)) h1
def Parts : List (List Value → Prop) → List Value → Prop
 | [], cs => cs = []
 | R :: Rs, cs => ∃ a b, cs = a ++ b ∧ R a ∧ Parts Rs b
def consec (P : Program) : Nat → List Field → Nat → Bool
 | o, [], tot => o == tot
 | o, f :: r, tot => f.offset == o && consec P (o + P.cellsOf f.type) r tot
section
variable {H : Type} {μ : DataW H → Nat} [hμ : Msr μ] {enc : TypeId × Value → H} {P : Program} {w : World} {spare : Nat → Bool} {held : Bool} {m : Nat} {t : TypeId}
omit hμ in
omit hμ in
omit hμ in
omit hμ in
theorem opn_int {k : IntKind} (ht : P.underlying t = some (.int k)) : Opn μ enc P w spare held m t (fun cs => ∃ n, cs = [.int k n] ∧ (Lit.int k n).wf = true) := fun f cs d p _ h _ => by
 obtain ⟨n, h1, _, h2⟩ := DataW.trod_int ht h
 exact ⟨n, h1, h2⟩
omit hμ in
theorem opn_string (ht : P.underlying t = some .string) : Opn μ enc P w spare held m t (fun cs => ∃ s : List UInt8, cs = [.string (bs s)] ∧ s.length ≤ 140737488355328) := fun f cs d p _ h hw => by
 obtain ⟨s, h1, h2, _⟩ := DataW.trod_string ht h
 obtain ⟨rfl, -⟩ := Prod.mk.inj h2
 refine ⟨s.data.toList, h1, ?_⟩
 have hr : reachBytes ≤ 140737488355328 := by decide
 have h3 := List.all_eq_true.1 hw s.data.toList.length (by simp [DataW.weights])
 have h4 : s.data.toList.length ≤ reachBytes := by simpa using h3
 omega
theorem weightsEach_mem' {ts : List TypeId} {ds : List (DataW H)} : ∀ {i : Nat} {u : TypeId} {d : DataW H}, ts[i]? = some u → ds[i]? = some d → ∀ q ∈ d.weights P u, q ∈ DataW.weightsEach P ts ds := by
 induction ts generalizing ds with
 | nil => intro i u d h; simp at h
 | cons x ts ih =>
  intro i u d h1 h2 q hq
  cases ds with
  | nil => simp at h2
  | cons y ds =>
   unfold DataW.weightsEach
   cases i with
   | zero => cases h1; cases h2; exact List.mem_append_left _ hq
   | succ i => exact List.mem_append_right _ (ih h1 h2 q hq)
omit hμ in
theorem parts_of {cs : List Value} : ∀ (fs : List Field) (Rs : List (List Value → Prop)) (o : Nat), OpnAll μ enc P w spare held m fs Rs → consec P o fs cs.length = true → o ≤ cs.length →
    (∀ (i : Nat) (f : Field), fs[i]? = some f → ∃ n d p, μ d < m ∧ DataW.trod enc P w 0 spare held n f.type ((cs.drop f.offset).take (P.cellsOf f.type)) = some (d, p) ∧ (d.weights P f.type).all (· ≤ reachBytes) = true) → Parts Rs (cs.drop o)
  | [], [], o, _, hc, ho, _ => by
    have h1 : o = cs.length := by simpa [consec] using hc
    subst h1
    exact List.drop_length ..
  | [], _ :: _, o, h, _, _, _ => nomatch h
  | _ :: _, [], o, h, _, _, _ => nomatch h
  | f :: fs, R :: Rs, o, .cons hh hr, hc, ho, hf => by
    unfold consec at hc
    rw [Bool.and_eq_true] at hc
    obtain ⟨hc1, hc2⟩ := hc
    have hco : f.offset = o := by simpa using hc1
    obtain ⟨n, d, p, h1, h2, h3⟩ := hf 0 f rfl
    have hle : o + P.cellsOf f.type ≤ cs.length := by
      have : ∀ (fs : List Field) (o tot : Nat), consec P o fs tot = true → o ≤ tot := by
        intro fs
        induction fs with
        | nil => intro o tot h; have : o = tot := by simpa [consec] using h
                 omega
        | cons f fs ih => intro o tot h; unfold consec at h; rw [Bool.and_eq_true] at h; have := ih _ _ h.2; omega
      exact this _ _ _ hc2
    refine ⟨(cs.drop o).take (P.cellsOf f.type), cs.drop (o + P.cellsOf f.type), ?_, ?_, parts_of fs Rs _ hr hc2 hle fun i f' hf' => hf (i + 1) f' hf'⟩
    · rw [← List.drop_drop, List.take_append_drop]
    · rw [← hco]; exact hh _ _ _ _ h1 h2 h3
theorem opn_struct {fs : Array Field} {Rs : List (List Value → Prop)} (ht : P.underlying t = some (.struct fs)) (hc : consec P 0 fs.toList (P.cellsOf t) = true) (hf : OpnAll μ enc P w spare held m fs.toList Rs) : Opn μ enc P w spare held (m + 1) t (Parts Rs) := fun fuel cs d p hd h hw => by
 obtain ⟨xs, n, _, hx, hl, hlen, hg⟩ := DataW.trod_struct ht h
 obtain ⟨rfl, -⟩ := Prod.mk.inj hx
 rw [← hl] at hc
 have := parts_of (cs := cs) fs.toList Rs 0 hf hc (Nat.zero_le _) fun i f hi => by
  have hi' : fs[i]? = some f := by simpa using hi
  have h1 := hg i f hi'
  have hlt : i < xs.length := by rw [hlen]; exact (Array.getElem?_eq_some_iff.1 hi').1
  rw [List.getElem?_eq_getElem hlt] at h1
  have hmem : xs[i].1 ∈ xs.map (·.1) := List.mem_map.2 ⟨xs[i], List.getElem_mem hlt, rfl⟩
  refine ⟨n, xs[i].1, xs[i].2, ?_, h1, ?_⟩
  ·have := hμ.a hmem
   omega
  ·rw [List.all_eq_true] at hw ⊢
   intro q hq
   refine hw q ?_
   simp only [DataW.weights, ht]
   exact weightsEach_mem' (i := i) (by rw [List.getElem?_map, hi]; rfl) (by rw [List.getElem?_map, List.getElem?_eq_getElem hlt]; rfl) q hq
 simpa using this
theorem lic_flat {α : Type} {F : Heap} {sz : Nat} {R : Heap → α → List Value → Prop} : ∀ {l : List {cs : List Value // cs.length = sz}}, (∀ x ∈ l, ∃ y, R F y x.1) → ∃ ys : List α, ys.length = l.length ∧ LiC F sz R (l.flatMap Subtype.val) ys
 | [], _ => ⟨[], rfl, rfl⟩
 | x :: l, h => by
  obtain ⟨y, hy⟩ := h x (List.mem_cons_self ..)
  obtain ⟨ys, h1, h2⟩ := lic_flat fun z hz => h z (List.mem_cons_of_mem _ hz)
  exact ⟨y :: ys, by simp [h1], x.1, _, rfl, x.2, hy, h2⟩
instance {sz : Nat} : Inhabited {cs : List Value // cs.length = sz} := ⟨⟨List.replicate sz .nilIface, by simp⟩⟩
theorem opn_slice {α : Type} {e : TypeId} {sz : Nat} {R : Heap → α → List Value → Prop} (ht : P.underlying t = some (.slice e)) (hc : P.cellsOf e = sz) (h0 : 0 < sz) (hb : Nat.ble 1 (P.bytesOf e) = true) (he : Opn μ enc P w spare held m e (fun cs => cs.length = sz ∧ ∃ x, R (heapOf w) x cs)) :
  Opn μ enc P w spare held m t (fun cs => ∃ v l, cs = [v] ∧ LiM (heapOf w) sz R v l) := fun fuel cs d p hd h hw => by
 obtain ⟨a, len, cap, l, e1, h1, h2, h3, h4, h5⟩ := open_listW (μ := μ) (α := {cs : List Value // cs.length = sz}) Subtype.val (fun x => ∃ y, R (heapOf w) y x.1) ht hc h0 (fun x => x.2) h hw fun n cs d' p hh hs hw' => by
  obtain ⟨hl, x, hx⟩ := he n cs d' p (by omega) hh hw'
  exact ⟨⟨cs, hl⟩, rfl, x, hx⟩
 obtain ⟨ys, h6, h7⟩ := lic_flat h3
 have hr : reachBytes ≤ 140737488355328 := by decide
 have h8 : len ≤ len * P.bytesOf e := Nat.le_mul_of_pos_right _ (Nat.le_of_ble_eq_true hb)
 exact ⟨_, ys, e1, lim_slc h4 h7 (by rw [h6, h1]) (by omega)⟩
end
end Go.De
namespace Go.Proofs.YthnafdbebniapaaGreatDoor
open Go Go.Wk Go.Un Go.De Go.Cv Go.ChangeShapes Go.WideShapes Go.ChangeAt Go.RowKit
set_option linter.unusedSimpArgs false
set_option linter.unusedVariables false
theorem part_le {H : Type} {d : DataW H} : ∀ {l : List (DataW H)}, d ∈ l → Rows.uptoBulk d ≤ Rows.uptoBulkAll l
 | x :: r, h => by
  simp only [Rows.uptoBulkAll]
  rcases List.mem_cons.1 h with e | e
  ·subst e; omega
  ·have := part_le e; omega
instance {H : Type} : Msr (Rows.uptoBulk (H := H)) := ⟨fun h => by have := part_le h; simp only [Rows.uptoBulk]; omega, fun h => by have := part_le h; simp only [Rows.uptoBulk]; omega⟩
theorem lim_and {α : Type} {F : Heap} {sz : Nat} {R : Heap → α → List Value → Prop} {Q : α → Prop} {v : Value} {l : List α} (h : LiM F sz (fun F x cs => R F x cs ∧ Q x) v l) : LiM F sz R v l ∧ ∀ x ∈ l, Q x := by
 obtain ⟨ao, cap, rfl, hc, hpos⟩ := h
 refine ⟨⟨ao, cap, rfl, hc, fun hp => ?_⟩, fun x hx => ?_⟩
 ·obtain ⟨b, o, e, h⟩ := hpos hp
  refine ⟨b, o, e, fun k x hx => ?_⟩
  obtain ⟨cs, h1, h2, h3⟩ := h k x hx
  exact ⟨cs, h1, h2, h3.1⟩
 ·obtain ⟨k, hk, rfl⟩ := List.mem_iff_getElem.1 hx
  obtain ⟨b, o, e, h⟩ := hpos (by omega)
  obtain ⟨cs, h1, h2, h3⟩ := h k _ (List.getElem?_eq_getElem hk)
  exact h3.2
theorem opn_sliceB {P : Program} {H : Type} {μ : DataW H → Nat} [hμ : Msr μ] {enc : TypeId × Value → H} {w : World} {spare : Nat → Bool} {held : Bool} {m : Nat} {t : TypeId} {α : Type} {e : TypeId} {sz : Nat} {R : Heap → α → List Value → Prop} (ht : P.underlying t = some (.slice e)) (hc : P.cellsOf e = sz) (h0 : 0 < sz) (hb : Nat.ble 1 (P.bytesOf e) = true) (he : Opn μ enc P w spare held m e (fun cs => cs.length = sz ∧ ∃ x, R (heapOf w) x cs)) :
  Opn μ enc P w spare held m t (fun cs => ∃ v l, cs = [v] ∧ LiM (heapOf w) sz R v l ∧ l.length * P.bytesOf e ≤ 140737488355328) := fun fuel cs d p hd h hw => by
 obtain ⟨a, len, cap, l, e1, h1, h2, h3, h4, h5⟩ := open_listW (μ := μ) (α := {cs : List Value // cs.length = sz}) Subtype.val (fun x => ∃ y, R (heapOf w) y x.1) ht hc h0 (fun x => x.2) h hw fun n cs d' p hh hs hw' => by
  obtain ⟨hl, x, hx⟩ := he n cs d' p (by omega) hh hw'
  exact ⟨⟨cs, hl⟩, rfl, x, hx⟩
 obtain ⟨ys, h6, h7⟩ := lic_flat h3
 have hr : reachBytes ≤ 140737488355328 := by decide
 have h8 : len ≤ len * P.bytesOf e := Nat.le_mul_of_pos_right _ (Nat.le_of_ble_eq_true hb)
 have h9 : ys.length = len := by rw [h6, h1]
 exact ⟨_, ys, e1, Go.De.lim_slc h4 h7 (by rw [h6, h1]) (by omega), by rw [h9]; omega⟩
theorem u8_nat {n : Int} (h : (Lit.int .u8 n).wf = true) : ∃ k : Nat, n = (k : Int) := by
 simp only [Lit.wf, Bool.and_eq_true, decide_eq_true_eq] at h
 have : (IntKind.u8).min = 0 := by decide
 exact ⟨n.toNat, by omega⟩
def Tv (m : Nat) (x : VH × Vf) : Prop := x.2.len * 56 ≤ 140737488355328 ∧ ThV x.2 ∧ dpN x.2 + 1 ≤ m
theorem th_rose {m : Nat} : ∀ {l : List (VH × Vf)}, (∀ x ∈ l, Tv m x) → ThV (roseOf l) ∧ dpN (roseOf l) ≤ m
 | [], _ => ⟨trivial, Nat.zero_le _⟩
 | x :: r, h => by
  obtain ⟨h1, h2, h3⟩ := h x (List.mem_cons_self ..)
  obtain ⟨h4, h5⟩ := th_rose fun y hy => h y (List.mem_cons_of_mem _ hy)
  exact ⟨⟨h1, h2, h4⟩, by show max (dpN x.2 + 1) (dpN (roseOf r)) ≤ m; omega⟩
theorem rose_len {α : Type} : ∀ l : List (α × Rose α), (roseOf l).len = l.length
 | [] => rfl
 | x :: r => by show (roseOf r).len + 1 = _; rw [rose_len r]; rfl
theorem ror_px {F : Heap} {x : EH × Ef} {cs : List Value} (h : RoR 9 EhR F x cs) : PxC F cs x.1 x.2 := by
 obtain ⟨c1, u, rfl, -, h1, h2⟩ := h
 exact pxc_of h1 h2
def Qb (x : EH × Ef) : Prop := BndH x.1 ∧ BndL x.2
theorem qb_rose : ∀ {l : List (EH × Ef)}, (∀ x ∈ l, Qb x) → BndL (roseOf l)
 | [], _ => trivial
 | x :: r, h => ⟨(h x (List.mem_cons_self ..)).1, (h x (List.mem_cons_self ..)).2, qb_rose fun y hy => h y (List.mem_cons_of_mem _ hy)⟩
section
variable {H : Type} {enc : TypeId × Value → H} {w : World} {spare : Nat → Bool} {held : Bool}
theorem o_str (m : Nat) : Opn (Rows.uptoBulk (H := H)) enc Tryz.prog w spare held m 9 (fun cs => ∃ s : List UInt8, cs = [.string (bs s)] ∧ s.length ≤ 140737488355328) := opn_string Tryz.underlying9
theorem o_int (m : Nat) : Opn (Rows.uptoBulk (H := H)) enc Tryz.prog w spare held m 3 (fun cs => ∃ n, cs = [.int .i64 n] ∧ (Lit.int .i64 n).wf = true) := opn_int Tryz.underlying3
theorem o_i64 (m : Nat) : Opn (Rows.uptoBulk (H := H)) enc Tryz.prog w spare held m 2 (fun cs => ∃ n, cs = [.int .i64 n] ∧ (Lit.int .i64 n).wf = true) := opn_int Tryz.underlying2
theorem o_u8 (m : Nat) : Opn (Rows.uptoBulk (H := H)) enc Tryz.prog w spare held m 5 (fun cs => ∃ n, cs = [.int .u8 n] ∧ (Lit.int .u8 n).wf = true) := opn_int Tryz.underlying5
theorem o_pos (m : Nat) : Opn (Rows.uptoBulk (H := H)) enc Tryz.prog w spare held m 23 (fun cs => ∃ l c, cs = [.int .i64 l, .int .i64 c]) :=
  ((opn_struct (m := m) Tryz.underlying23 (by kernel_rfl) (.cons (o_int m) (.cons (o_int m) .nil))).lt (Nat.le_succ m)).imp fun cs ⟨a, b, e, ⟨l, h1, _⟩, a2, b2, e2, ⟨c, h2, _⟩, e3⟩ => by
    subst e; subst h1; subst e2; subst h2; subst e3
    exact ⟨l, c, rfl⟩
theorem bVal : Tryz.prog.bytesOf 26 = 56 := by kernel_rfl
theorem o_val : ∀ m, Opn (Rows.uptoBulk (H := H)) enc Tryz.prog w spare held m 26 (fun cs => cs.length = 4 ∧ ∃ x, RoR 4 VhR (heapOf w) x cs ∧ Tv m x)
 | 0 => fun _ _ _ _ h => absurd h (Nat.not_lt_zero _)
 | m + 1 => (opn_struct Tryz.underlying26 (by kernel_rfl) (.cons (o_u8 m) (.cons (o_i64 m) (.cons (o_str m) (.cons (opn_sliceB (R := fun F x cs => RoR 4 VhR F x cs ∧ Tv m x) Tryz.underlying24 (by kernel_rfl) (by decide) (by kernel_rfl) (o_val m)) .nil))))).imp fun cs ⟨a, b, e, ⟨k, h1, hk⟩, a2, b2, e2, ⟨n, h2, hn⟩, a3, b3, e3, ⟨s, h3, hs⟩, a4, b4, e4, ⟨v, l, h4, h5, h6⟩, e5⟩ => by
  obtain ⟨k, rfl⟩ := u8_nat hk
  rw [bVal] at h6
  subst e; subst h1; subst e2; subst h2; subst e3; subst h3; subst e4; subst h4; subst e5
  obtain ⟨g1, g2⟩ := th_rose (lim_and h5).2
  exact ⟨rfl, (⟨k, n, s⟩, roseOf l), ⟨_, v, rfl, rfl, ⟨rfl, hs⟩, trs_lim (lim_and h5).1⟩, by show (roseOf l).len * 56 ≤ _; rw [rose_len]; exact h6, g1, Nat.succ_le_succ g2⟩
theorem o_expr : ∀ m, Opn (Rows.uptoBulk (H := H)) enc Tryz.prog w spare held m 29 (fun cs => cs.length = 9 ∧ ∃ x, RoR 9 EhR (heapOf w) x cs ∧ Qb x)
 | 0 => fun _ _ _ _ h => absurd h (Nat.not_lt_zero _)
 | m + 1 => (opn_struct Tryz.underlying29 (by kernel_rfl) (.cons (o_u8 m) (.cons (o_pos m) (.cons (o_str m) (.cons (o_val m) (.cons (opn_slice (R := fun F x cs => RoR 9 EhR F x cs ∧ Qb x) Tryz.underlying27 (by kernel_rfl) (by decide) (by kernel_rfl) (o_expr m)) .nil)))))).imp fun cs ⟨a, b, e, ⟨k, h1, hk⟩, a2, b2, e2, ⟨l, c, h2⟩, a3, b3, e3, ⟨s, h3, hs⟩, a4, b4, e4, ⟨_, ⟨vh, vl⟩, ⟨c0, v0, h4, h4', hvh, hvl⟩, hq⟩, a5, b5, e5, ⟨v, el, h5, h5'⟩, e6⟩ => by
  obtain ⟨k, rfl⟩ := u8_nat hk
  obtain ⟨h6, h7⟩ := hvh
  subst e; subst h1; subst e2; subst h2; subst e3; subst h3; subst h6; subst e4; subst h4; subst e5; subst h5; subst e6
  exact ⟨rfl, (⟨k, l, c, s, vh, vl⟩, roseOf el), ⟨_, v, rfl, rfl, ⟨v0, rfl, hvl⟩, trs_lim (lim_and h5').1⟩, ⟨hs, h7⟩, qb_rose (lim_and h5').2⟩
theorem o_bd (m : Nat) : Opn (Rows.uptoBulk (H := H)) enc Tryz.prog w spare held m 34 (fun cs => cs.length = 5 ∧ ∃ x, BvR (heapOf w) x cs ∧ Tv m x.2) :=
  ((opn_struct (m := m) Tryz.underlying34 (by kernel_rfl) (.cons (o_str m) (.cons (o_val m) .nil))).lt (Nat.le_succ m)).imp fun cs ⟨a, b, e, ⟨s, h1, _⟩, a2, b2, e2, ⟨_, ⟨vh, vl⟩, h2, h3⟩, e3⟩ => by
    have hV := vac_of h2
    obtain ⟨ao, cap, h4, h5, h6⟩ := vac_sl hV
    subst e; subst h1; subst e2; subst e3; subst h4
    exact ⟨rfl, (s, vh, vl), ⟨ao, cap, rfl, hV⟩, h3⟩
theorem o_bds (m : Nat) : Opn (Rows.uptoBulk (H := H)) enc Tryz.prog w spare held m 30 (fun cs => ∃ v l, cs = [v] ∧ LiM (heapOf w) 5 BvR v l ∧ ∀ x ∈ l, Tv m x.2) :=
 (opn_slice (R := fun F x cs => BvR F x cs ∧ Tv m x.2) Tryz.underlying30 (by kernel_rfl) (by decide) (by kernel_rfl) (o_bd m)).imp fun cs ⟨v, l, h, h2⟩ => ⟨v, l, h, (lim_and h2).1, (lim_and h2).2⟩
end
theorem matchesFr (F : Heap) (hM : MaxF F) (hT : TabF F) (hE : ErrT F) (x : EH × Ef) (cs : List Value) (y : VH × Vf) (cs2 : List Value) (l : List Bd) {v : Value} (hX : RoR 9 EhR F x cs) (hq : Qb x) (hV : RoR 4 VhR F y cs2) (ht : Tv 1048577 y) (hl : LiM F 5 BvR v l) (hlt : ∀ x ∈ l, Tv 1048577 x.2) :
  Ct Tryz.prog 3 [.agg ⟨cs⟩, .agg ⟨cs2⟩, v] F [] (fun _ _ u => u = .bool true) :=
 matchesCt F hM hT hE x.1 x.2 cs y.1 y.2 cs2 l (by have := ht.2.2; omega) (ror_px hX) hq.1 hq.2 (vac_of hV) ht.1 ht.2.1 hl fun z hz => ⟨(hlt z hz).1, (hlt z hz).2.1⟩
end Go.Proofs.YthnafdbebniapaaGreatDoor
