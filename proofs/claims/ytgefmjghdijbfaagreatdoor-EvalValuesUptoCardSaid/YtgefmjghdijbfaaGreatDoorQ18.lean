/- Walks. -/
import Derived.Test.YtgefmjghdijbfaaGreatDoorQ17
import Derived.Test.YtgefmjghdijbfaaGreatDoorQ11
set_option maxHeartbeats 32000000
set_option maxRecDepth 20000
namespace Go.Proofs.YtgefmjghdijbfaaGreatDoor
open Go Go.Wk Go.Un Go.De Go.Num
set_option linter.unusedSimpArgs false
set_option linter.unusedVariables false
attribute [local irreducible] Go.wpList Go.Code.wp Go.wpStill Go.Wk.wpPre Go.bodyPost Go.Calls Go.Wk.Ct Go.Wk.OwnS Go.Wk.wpG Go.Wk.wpM
theorem evE_lit {cs : List KC} {vs : List Bd} {h : EH} {L : Ef} (hk : h.k = 1) : evE cs vs h L = yesA (h.v, h.vl) := by
 unfold evE evK
 rw [if_pos hk]
theorem evE_var0 {cs : List KC} {vs : List Bd} {h : EH} {L : Ef} (hk : h.k = 2) (hf : findB vs h.nm = none) : evE cs vs h L = noA 71 := by
 unfold evE evK
 rw [if_neg (by omega), if_pos hk, hf]
theorem evE_var {cs : List KC} {vs : List Bd} {h : EH} {L : Ef} {x : Bd} (hk : h.k = 2) (hf : findB vs h.nm = some x) : evE cs vs h L = yesA x.2 := by
 unfold evE evK
 rw [if_neg (by omega), if_pos hk, hf]
theorem evE_if {cs : List KC} {vs : List Bd} {h : EH} {L : Ef} {x y z : EH × Ef} (hk : h.k = 8) (hx : L.get? 0 = some x) (hy : L.get? 1 = some y) (hz : L.get? 2 = some z) : evE cs vs h L = if (truthO (evE cs vs x.1 x.2)).2 ≠ 0 then noA (truthO (evE cs vs x.1 x.2)).2 else if (truthO (evE cs vs x.1 x.2)).1 = true then evE cs vs y.1 y.2 else evE cs vs z.1 z.2 := by
 rw [← evL_at (cs := cs) (vs := vs) hx, ← evL_at (cs := cs) (vs := vs) hy, ← evL_at (cs := cs) (vs := vs) hz]
 conv => lhs; unfold evE evK
 rw [if_neg (by omega), if_neg (by omega), if_neg (by omega), if_neg (by omega), if_neg (by omega), if_pos hk]
theorem find_at {α : Type} (l : List α) (q : α → Bool) : (∃ (j : Nat) (x : α), idxN (atN l q) l.length = (j : Int) ∧ j < l.length ∧ l[j]? = some x ∧ l.find? q = some x) ∨ (l.find? q = none ∧ idxN (atN l q) l.length = -1) := by
 rcases idx_find l q with ⟨j, h1, h2, h3⟩ | ⟨h1, h2⟩
 ·refine .inl ⟨j, l[j], h2, h3, List.getElem?_eq_getElem h3, ?_⟩
  rw [List.findIdx?_eq_some_iff_getElem] at h1
  obtain ⟨_, h4, h5⟩ := h1
  rw [List.find?_eq_some_iff_getElem]
  exact ⟨h4, j, h3, rfl, fun i hi => by simpa using h5 i hi⟩
 ·refine .inr ⟨?_, h2⟩
  rw [List.findIdx?_eq_none_iff] at h1
  rw [List.find?_eq_none]
  intro x hx
  simp [h1 x hx]
theorem zzEvK0 {p : Prop} (h : p := by (first | (rw [hif, if_pos (by assumption)]; exact ans_no _ _) | (rw [hif, if_neg (by omega), if_pos (by assumption)]; exact ⟨_, rfl, _, rfl, hT4, hs4⟩) | (rw [hif, if_neg (by omega), if_neg (by rw [(by assumption : p0 = false)]; decide)]; exact ⟨_, rfl, _, rfl, hT4, hs4⟩) | (rw [evE_lit (by omega)]; exact ⟨_, rfl, _, rfl, hT4, hs4⟩) | (rw [evE_var (by omega) hfx]; exact ⟨_, rfl, _, rfl, hT8, hs8⟩) | (have hf0 : findB vs eh.nm = none := (by rcases hix with ⟨j, x, h9, -⟩ | ⟨h9, -⟩; omega; exact h9); rw [evE_var0 (by omega) hf0]; exact ans_no _ _) | (exact ⟨_, rfl, _, rfl, hT4, hs4⟩) | trace_state)) : p := h
theorem zzEvK1 {p : Prop} (h : p := by (apply Exists.intro; apply And.intro; rotate_left 1; (refine S.keep ?_; exact zk); (rw [Bool.eq_iff_iff, beq_iff_eq, decide_eq_true_eq]; omega))) : p := h
theorem evCt : ∀ n, EvC n := by
  intro n
  induction n with
  | zero => intro F bm cs vs h L xs hn; omega
  | succ n hE =>
  intro F bm cs vs eh L xs hn hM hX hg hf
  have hff : eh.k ≠ 1 → eh.k ≠ 2 → formK eh L.len = true ∧ formEL L = true := fun h1 h2 => by
    unfold formE at hf
    rw [if_neg h1, if_neg h2, Bool.and_eq_true] at hf
    exact hf
  have hkk : eh.k ≠ 1 → eh.k ≠ 2 → eh.k = 4 ∨ eh.k = 5 ∨ eh.k = 7 ∨ eh.k = 8 ∨ eh.k = 6 := fun h1 h2 => by
    have h3 := (hff h1 h2).1
    unfold formK at h3
    by_cases k4 : eh.k = 4
    · exact .inl k4
    by_cases k5 : eh.k = 5
    · exact .inr (.inl k5)
    by_cases k7 : eh.k = 7
    · exact .inr (.inr (.inl k7))
    by_cases k8 : eh.k = 8
    · exact .inr (.inr (.inr (.inl k8)))
    by_cases k6 : eh.k = 6
    · exact .inr (.inr (.inr (.inr k6)))
    · rw [if_neg k4, if_neg k5, if_neg k7, if_neg k8, if_neg k6] at h3
      cases h3
  have hXc := hX
  obtain ⟨a1, n1, c1, ao, cap, rfl, hvl, hL⟩ := exc_slc hX
  have hMc := hM
  obtain ⟨⟨tv, aov, capv, bt, es, hm0, hm1, hm2, hvs, hes, hops, hK⟩, hT, hEr, hGB⟩ := hM
  have hLc := hL
  obtain ⟨_, _, e9, hcap, hpos⟩ := hLc
  cases e9
  have hg1 := hg.2.1.1
  have hsv := hg.1.1.2
  have hzv : eh.vl.size ≤ 5000 := hg.1.2.2
  dsimp only at hsv
  refine Ct.enter Tryz.func34 rfl Tryz.ntmps34 rfl fun w0 a S => ?_
  refine wp_sr fun Z hZ => ?_
  (refine wbx S ?_; clear S a; intro b3 a w S)
  (refine wpl_alloc S rfl rfl rfl rfl ?_; clear S a; intro b4 a w S)
  (revert S a; revert hZ Z; refine go 15 ?_; intro Z hZ a S)
  refine wpc_sp S rfl ?_ ?_ <;> intro h
  · (revert S a; refine go 3 ?_; intro Z hZ a S)
    (refine wcF S (ownVCt eh.vl.size F eh.v eh.vl [.int .u8 (eh.v.k : Int), .int .i64 eh.v.n, .string (bs eh.v.s), .slice a1 n1 c1] (Nat.le_refl _) (by omega) ⟨_, rfl, hvl, by omega⟩) ?_; clear S a; intro u9 F4 a w hv hF4 S; obtain ⟨cs4, rfl, hV4⟩ := hv; obtain ⟨a4, c4, rfl, hT4, hs4⟩ := vac_slc hV4)
    (refine wso S rfl rfl ?_; clear S; intro w S)
    (revert S a; revert hZ Z; refine go 3 ?_; intro a S)
    refine wp_ret (fin_ret S (results2 Tryz.results34 (RV.cellO S rfl (by rfl)) (RV.tmp S rfl)) ?_)
    exact zzEvK0
  (revert S a; refine go 5 ?_; intro a S)
  refine wpc_sp S rfl ?_ ?_ <;> intro h
  · (revert S a; refine go 4 ?_; intro Z hZ a S)
    (refine wv S (sv_loadF S rfl rfl hm1) ?_; clear S a; intro a S)
    (revert S a; refine go 1 ?_; intro a S)
    (replace S := St.pullB b3 S; have S' := frz1 S; clear S; obtain ⟨F6, hle6, hb3, S⟩ := S'; have hb3n : Cel F6 b3 (0 + 3) (.string (bs eh.nm)) := ⟨_, _, _, hb3, rfl⟩; replace hvs := hvs.mono hle6; refine wc0 S (ixBCt F6 _ _ _ hvs.sq 82 [] [ptr b3] (atN vs fun x => decide (x.1 = eh.nm)) (fun k cs hk hC => by obtain ⟨f, hf1, hf2⟩ := hC; rw [atN_some hf1]; exact ev1Ct F6 eh.nm b3 hb3n f cs hf2)) ?_; clear S a; intro v a w hv S; subst hv)
    (have hix := find_at vs (fun x => decide (x.1 = eh.nm)); generalize idxN (atN vs fun x => decide (x.1 = eh.nm)) vs.length = ix at S hix)
    (revert S a; revert hZ Z; refine go 9 ?_; intro Z hZ a S)
    refine wpc_sp S rfl ?_ ?_ <;> intro h
    · (revert S a; refine go 2 ?_; intro Z hZ a S)
      (refine wso S rfl rfl ?_; clear S; intro w S)
      (revert S a; revert hZ Z; refine go 3 ?_; intro a S)
      refine wp_ret (fin_ret S (results2 Tryz.results34 (RV.cellO S rfl (by rfl)) (RV.tmp S rfl)) ?_)
      exact zzEvK0
    refine wp_skip ?_
    (refine hZ _ _ ?_; clear hZ Z)
    (refine wp_seq_k ?_; intro Z hZ)
    (have hixs : ∃ (j : Nat) (x : Bd), ix = (j : Int) ∧ j < vs.length ∧ vs[j]? = some x ∧ findB vs eh.nm = some x := (by rcases hix with h9 | ⟨-, h9⟩; exact h9; omega); obtain ⟨j, x, rfl, hj2, hjx, hfx⟩ := hixs; have hvc := hvs; obtain ⟨_, _, e7, hcap7, hpos7⟩ := hvc; cases e7; obtain ⟨b70, o70, rfl, z, cs7, hz, hc7, c7, rfl, hV7⟩ := LiM.pos hpos7 (k := j) (by omega); rw [hjx] at hz; cases hz; have hc8 := hc7.drop 1; have gx := hGB x (List.mem_of_getElem? hjx); obtain ⟨a4, c4, rfl, hT4, hs4⟩ := vac_slc hV7)
    (revert S a; refine go 4 ?_; intro a S)
    (refine wv S (sv_loadF S rfl rfl (hm1.mono hle6)) ?_; clear S a; intro a S)
    (revert S a; refine go 3 ?_; intro a S)
    (refine wv S (sv_loadAF S rfl rfl hc8 rfl) ?_; clear S a; intro a S)
    (refine wcF S (ownVCt x.2.2.size F6 x.2.1 x.2.2 _ (Nat.le_refl _) (Nat.le_trans gx.2.2 (by decide)) hV7) ?_; clear S a; intro u9 F7 a w hv hF7 S; obtain ⟨cs7, rfl, hV8⟩ := hv; obtain ⟨a8, c8, rfl, hT8, hs8⟩ := vac_slc hV8)
    (refine wso S rfl rfl ?_; clear S; intro w S)
    (revert S a; revert hZ Z; refine go 3 ?_; intro a S)
    refine wp_ret (fin_ret S (results2 Tryz.results34 (RV.cellO S rfl (by rfl)) (RV.tmp S rfl)) ?_)
    exact zzEvK0
  (refine wp_seq_k ?_; intro Z hZ)
  replace hZ : ∀ (a' : Act) (w' : World), (∃ t : Bool, t = decide (eh.k = 4 ∨ eh.k = 5) ∧ St 90 [(0, ptr bm), (3, ptr b3), (4, ptr b4), (5, .int .i64 0), (10, .int .u8 (eh.k : Int)), (36, .bool t)] w0 F [] F [[(b4, .cells ⟨[.int .u8 0, .int .i64 0, .string (bs []), .slice none 0 0]⟩ 33 (0, 0))], [(b3, .cells ⟨[.int .u8 (eh.k : Int), .int .i64 eh.l, .int .i64 eh.c, .string (bs eh.nm), .int .u8 (eh.v.k : Int), .int .i64 eh.v.n, .string (bs eh.v.s), .slice a1 n1 c1, .slice ao L.len cap]⟩ 36 (0, 0))]] a' w') → Z a' w' := (by
   (intro a w hM; refine hZ _ _ ?_; clear hZ Z; clear S; obtain ⟨t, rfl, S⟩ := hM)
   refine wpc_sp S rfl ?_ ?_ <;> intro h
   · (revert S a; refine go 3 ?_; intro Z hZ a S)
     (refine wcF S (wholeCt hE F bm cs vs eh L _ (by omega) hMc hXc hg (hff (by omega) (by omega)).2 (by omega)) ?_; clear S a; intro u9 F4 a w hv hF4 S; obtain ⟨cs4, rfl, hV4⟩ := hv; obtain ⟨a4, c4, rfl, hT4, hs4⟩ := vac_slc hV4)
     (revert S a; refine go 2 ?_; intro a S)
     (refine wso S rfl rfl ?_; clear S; intro w S)
     (revert S a; revert hZ Z; refine go 3 ?_; intro a S)
     refine wp_ret (fin_ret S (results2 Tryz.results34 (RV.cellO S rfl (by rfl)) (RV.tmp S rfl)) ?_)
     exact zzEvK0
   (revert S a; refine go 5 ?_; intro a S)
   refine wpc_sp S rfl ?_ ?_ <;> intro h
   · (revert S a; refine go 3 ?_; intro Z hZ a S)
     (refine wcF S (fieldCt hE F bm cs vs eh L _ (by omega) hMc hXc hg (hff (by omega) (by omega)).2 (by omega) (by have h9 := (hff (by omega) (by omega)).1; unfold formK at h9; rw [if_neg (by omega), if_neg (by omega), if_pos (by omega)] at h9; exact of_decide_eq_true h9)) ?_; clear S a; intro u9 F4 a w hv hF4 S; obtain ⟨cs4, rfl, hV4⟩ := hv; obtain ⟨a4, c4, rfl, hT4, hs4⟩ := vac_slc hV4)
     (revert S a; refine go 2 ?_; intro a S)
     (refine wso S rfl rfl ?_; clear S; intro w S)
     (revert S a; revert hZ Z; refine go 3 ?_; intro a S)
     refine wp_ret (fin_ret S (results2 Tryz.results34 (RV.cellO S rfl (by rfl)) (RV.tmp S rfl)) ?_)
     exact zzEvK0
   (revert S a; refine go 5 ?_; intro a S)
   refine wpc_sp S rfl ?_ ?_ <;> intro h
   · (refine wp_seq_k ?_; intro Z hZ)
     (have hk8 : eh.k = 8 := (by omega); have hl3 : L.len = 3 := (by have h9 := (hff (by omega) (by omega)).1; unfold formK at h9; rw [if_neg (by omega), if_neg (by omega), if_neg (by omega), if_pos hk8] at h9; exact of_decide_eq_true h9); have hfl := (hff (by omega) (by omega)).2; obtain ⟨b80, o80, rfl, x, cs1, v1, hx, hc1, hR1, hT1⟩ := TrM.pos hpos (k := 0) (by omega); have hxs := Rose.size_get hx; have hX1 := exc_of hR1 hT1; obtain ⟨b81, o81, e81, y, cs2, v2, hy, hc2, hR2, hT2⟩ := TrM.pos hpos (k := 1) (by omega); cases e81; have hys := Rose.size_get hy; have hX2 := exc_of hR2 hT2; obtain ⟨b82, o82, e82, z, cs3, v3, hz, hc3, hR3, hT3⟩ := TrM.pos hpos (k := 2) (by omega); cases e82; have hzs := Rose.size_get hz; have hX3 := exc_of hR3 hT3; have hcx := mtruthCt hE F bm cs vs x.1 x.2 _ (by omega) hMc hX1 (GEl.get hg.2.2 hx) (formEL_get hfl hx); have hcy := fun F' hF => hE F' bm cs vs y.1 y.2 _ (by omega) (hMc.mono hF) (hX2.mono hF) (GEl.get hg.2.2 hy) (formEL_get hfl hy); have hcz := fun F' hF => hE F' bm cs vs z.1 z.2 _ (by omega) (hMc.mono hF) (hX3.mono hF) (GEl.get hg.2.2 hz) (formEL_get hfl hz); obtain ⟨a5, n5, c5, ao5, cap5, he5, -, -⟩ := exc_slc hX1; obtain ⟨a6, n6, c6, ao6, cap6, he6, -, -⟩ := exc_slc hX2; obtain ⟨a7, n7, c7, ao7, cap7, he7, -, -⟩ := exc_slc hX3; rw [he5] at hc1 hcx; rw [he6] at hc2 hcy; rw [he7] at hc3 hcz; have hif := evE_if (cs := cs) (vs := vs) hk8 hx hy hz; generalize truthO (evE cs vs x.1 x.2) = T0 at hcx hif; obtain ⟨p0, e0⟩ := T0; dsimp only at hcx hif)
     (revert S a; refine go 6 ?_; intro a S)
     (refine wcF S hcx ?_; clear S a; intro u8 F5 a w hv hF5 S; subst hv)
     (revert S a; revert hZ Z; refine go 15 ?_; intro Z hZ a S)
     refine wpc_sp S rfl ?_ ?_ <;> intro h
     · (revert S a; refine go 3 ?_; intro Z hZ a S)
       (refine wso S rfl rfl ?_; clear S; intro w S)
       (revert S a; revert hZ Z; refine go 3 ?_; intro a S)
       refine wp_ret (fin_ret S (results2 Tryz.results34 (RV.cellO S rfl (by rfl)) (RV.tmp S rfl)) ?_)
       exact zzEvK0
     (revert S a; refine go 5 ?_; intro a S)
     refine wpc_sp S rfl ?_ ?_ <;> intro h
     · (revert S a; refine go 5 ?_; intro Z hZ a S)
       (refine wv S (sv_loadAF S rfl rfl (Cels.mono hF5 hc2) rfl) ?_; clear S a; intro a S)
       (refine wcF S (hcy F5 hF5) ?_; clear S a; intro u9 F4 a w hv hF4 S; obtain ⟨cs4, rfl, hV4⟩ := hv; obtain ⟨a4, c4, rfl, hT4, hs4⟩ := vac_slc hV4)
       (revert S a; refine go 2 ?_; intro a S)
       (refine wso S rfl rfl ?_; clear S; intro w S)
       (revert S a; revert hZ Z; refine go 3 ?_; intro a S)
       refine wp_ret (fin_ret S (results2 Tryz.results34 (RV.cellO S rfl (by rfl)) (RV.tmp S rfl)) ?_)
       exact zzEvK0
     (revert S a; revert hZ Z; refine go 7 ?_; intro Z hZ a S)
     (refine wv S (sv_loadAF S rfl rfl (Cels.mono hF5 hc3) rfl) ?_; clear S a; intro a S)
     (refine wcF S (hcz F5 hF5) ?_; clear S a; intro u9 F4 a w hv hF4 S; obtain ⟨cs4, rfl, hV4⟩ := hv; obtain ⟨a4, c4, rfl, hT4, hs4⟩ := vac_slc hV4)
     (revert S a; refine go 2 ?_; intro a S)
     (refine wso S rfl rfl ?_; clear S; intro w S)
     (revert S a; revert hZ Z; refine go 3 ?_; intro a S)
     refine wp_ret (fin_ret S (results2 Tryz.results34 (RV.cellO S rfl (by rfl)) (RV.tmp S rfl)) ?_)
     exact zzEvK0
   (revert S a; revert hZ Z; refine go 5 ?_; intro Z hZ a S)
   (refine wcF S (callCt hE F bm cs vs eh L _ (by omega) hMc hXc hg (hff (by omega) (by omega)).2 (by have h9 := hkk (by omega) (by omega); omega) (hff (by omega) (by omega)).1) ?_; clear S a; intro u9 F4 a w hv hF4 S; obtain ⟨cs4, rfl, hV4⟩ := hv; obtain ⟨a4, c4, rfl, hT4, hs4⟩ := vac_slc hV4)
   (revert S a; refine go 2 ?_; intro a S)
   (refine wso S rfl rfl ?_; clear S; intro w S)
   (revert S a; revert hZ Z; refine go 3 ?_; intro a S)
   refine wp_ret (fin_ret S (results2 Tryz.results34 (RV.cellO S rfl (by rfl)) (RV.tmp S rfl)) ?_)
   (first | (rw [hif, if_pos (by assumption)]; exact ans_no _ _) | (rw [hif, if_neg (by omega), if_pos (by assumption)]; exact ⟨_, rfl, _, rfl, hT4, hs4⟩) | (rw [hif, if_neg (by omega), if_neg (by rw [(by assumption : p0 = false)]; decide)]; exact ⟨_, rfl, _, rfl, hT4, hs4⟩) | (rw [evE_lit (by omega)]; exact ⟨_, rfl, _, rfl, hT4, hs4⟩) | (rw [evE_var (by omega) hfx]; exact ⟨_, rfl, _, rfl, hT8, hs8⟩) | (have hf0 : findB vs eh.nm = none := (by rcases hix with ⟨j, x, h9, -⟩ | ⟨h9, -⟩; omega; exact h9); rw [evE_var0 (by omega) hf0]; exact ans_no _ _) | (exact ⟨_, rfl, _, rfl, hT4, hs4⟩) | trace_state))
  (revert S a; refine go 5 ?_; intro a S)
  refine wpc_sp S rfl ?_ ?_ <;> intro h
  · refine wp_skip ?_
    (refine hZ _ _ ?_)
    exact zzEvK1
  (revert S a; refine go 4 ?_; intro a S)
  (refine hZ _ _ ?_)
  exact zzEvK1
theorem zzIx0 {p : Prop} (h : p := by (rw [hfp]; first | (rw [idxF_at (by omega), if_pos (by assumption)]; done) | (rw [idxF_end (by omega)]; done) | trace_state)) : p := h
theorem ixECt (F : Heap) (v : Value) (n : Nat) (C : Nat → List Value → Prop) (h : Sq F 9 v n C) (fid : FuncId) (fi ca : List Value) [hfn : HasFn Tryz.prog fid] (p : Nat → Bool)
  (hcl : ∀ k cs, k < n → C k cs → Ct Tryz.prog fid (fi ++ [.agg ⟨cs⟩] ++ ca) F [] (fun _ _ u => u = .bool (p k))) :
  Ct Tryz.prog 121 [v, .func (.func fid) ⟨fi⟩ ⟨ca⟩] F [] (fun _ _ u => u = .int .i64 (idxN p n)) := by
 obtain ⟨ao, cap, rfl, hcap, hpos⟩ := h
 refine Ct.enter Tryz.func121 rfl Tryz.ntmps121 rfl fun w0 a S => ?_
 (revert S a; refine go 12 ?_; intro Z hZ a S)
 refine wpc_loop (fun m a w' => ∃ (k : Nat), m = n - k ∧ k ≤ n ∧ idxN p n = idxF p k (n - k) ∧ St 19 [(0, .slice ao n cap), (1, .func (.func fid) ⟨fi⟩ ⟨ca⟩), (7, .int .i64 n), (8, .int .i64 k)] w0 F [] F [] a w') ?_ ?_
 ·(refine ⟨n, 0, by omega, Nat.zero_le _, rfl, ?_⟩; refine S.keep ?_; exact zk)
 (clear S; rintro m a w ⟨k, rfl, hkl, hfp, S⟩)
 (revert S a; refine go 5 ?_; intro Z hZ a S)
 refine wpc_sp S rfl ?_ ?_ <;> intro h
 ·(revert S a; revert hZ Z; refine go 9 ?_; intro Z hZ a S)
  (refine wp_seq_k ?_; intro Z hZ)
  (obtain ⟨b8, o8, rfl, cs1, hc1, hl1, hC⟩ := Sq.pos hpos (k := k) (by omega))
  (revert S a; refine go 5 ?_; intro a S)
  (refine wv S (sv_loadAF S rfl rfl hc1 hl1) ?_; clear S a; intro a S)
  (refine wc0 S (hcl k _ (by omega) hC) ?_; clear S a; intro v a w hv S; subst hv)
  (revert S a; revert hZ Z; refine go 2 ?_; intro a S)
  refine wpc_sp S rfl ?_ ?_ <;> intro h
  ·(revert S a; refine go 5 ?_; intro a S)
   refine wp_ret (fr1 S Tryz.results121 ?_)
   exact zzIx0
  (revert S a; revert hZ Z; refine go 6 ?_; intro a S)
  change ∃ m', _ ∧ _
  (refine ⟨n - (k + 1), by omega, k + 1, rfl, by omega, ?_, ?_⟩; rotate_left 1; (refine S.keep ?_; exact zk); rw [hfp, idxF_at (by omega), if_neg (by rw [(by assumption : p k = false)]; decide)])
 (refine wp_exit ?_; conv => whnf)
 clear hZ Z
 (revert S a; revert hZ Z; refine go 5 ?_; intro a S)
 refine wp_ret (fr1 S Tryz.results121 ?_)
 exact zzIx0
theorem cfECt (F : Heap) (v : Value) (n : Nat) (C : Nat → List Value → Prop) (h : Sq F 9 v n C) (fid : FuncId) (fi ca : List Value) [hfn : HasFn Tryz.prog fid] (p : Nat → Bool)
  (hcl : ∀ k cs, k < n → C k cs → Ct Tryz.prog fid (fi ++ [.agg ⟨cs⟩] ++ ca) F [] (fun _ _ u => u = .bool (p k))) :
  Ct Tryz.prog 75 [v, .func (.func fid) ⟨fi⟩ ⟨ca⟩] F [] (fun _ _ u => u = .bool (anyN p n)) := by
 have hc := ixECt F v n C h fid fi ca p hcl
 obtain ⟨ao, cap, rfl, hcap, hpos⟩ := h
 refine Ct.enter Tryz.func75 rfl Tryz.ntmps75 rfl fun w0 a S => ?_
 (revert S a; refine go 7 ?_; intro Z hZ a S)
 (refine wc0 S (hc) ?_; clear S a; intro v a w hv S; subst hv)
 (revert S a; revert hZ Z; refine go 4 ?_; intro a S)
 refine wp_ret (fr1 S Tryz.results75 ?_)
 rfl
def Zs (a : Ans) : Prop := a.1 ≠ 0 → a.2 = zV
theorem Zs_no (e : Int) : Zs (noA e) := fun _ => rfl
theorem Zs_yes (v : Vv) : Zs (yesA v) := fun h => absurd rfl h
theorem Zs_if {p : Prop} [Decidable p] {a b : Ans} (ha : Zs a) (hb : Zs b) : Zs (if p then a else b) := by
 by_cases hp : p
 ·rw [if_pos hp]; exact ha
 ·rw [if_neg hp]; exact hb
theorem Zs_nth : ∀ {l : List Ans} (k : Nat), (∀ a ∈ l, Zs a) → Zs (nthA l k)
 | [], _, _ => Zs_no 0
 | a :: r, 0, h => h a (List.mem_cons_self ..)
 | a :: r, k + 1, h => Zs_nth (l := r) k fun b hb => h b (List.mem_cons_of_mem _ hb)
theorem Zs_op2 {s : List UInt8} {f : Vv → Vv → Ans} (h : op2 s = some f) (x y : Vv) : Zs (f x y) := by
 unfold op2 at h
 rw [Option.map_eq_some_iff] at h
 obtain ⟨p, h1, rfl⟩ := h
 have h2 := List.mem_of_find?_eq_some h1
 unfold ops2 at h2
 simp only [List.mem_cons, List.not_mem_nil, or_false] at h2
 rcases h2 with rfl | rfl | rfl | rfl | rfl | rfl | rfl | rfl | rfl | rfl | rfl | rfl
 all_goals first
  | exact Zs_if (Zs_if (Zs_no _) (Zs_yes _)) (Zs_if (Zs_if (Zs_no _) (Zs_yes _)) (Zs_no _))
  | exact Zs_if (Zs_no _) (Zs_if (Zs_no _) (Zs_yes _))
  | exact Zs_yes _
theorem Zs_op1 (s : List UInt8) (x : Vv) : Zs (op1 s x) :=
 Zs_if (Zs_yes _) (Zs_if (Zs_if (Zs_yes _) (Zs_no _)) (Zs_if (Zs_yes _) (Zs_if (Zs_yes _) (Zs_if (Zs_yes _) (Zs_if (Zs_if (Zs_yes _) (Zs_no _)) (Zs_no _))))))
theorem Zs_parts (q : VH) (l : List Ans) : Zs (partsO q l) := Zs_if (Zs_no _) (Zs_if (Zs_no _) (Zs_if (Zs_no _) (Zs_yes _)))
theorem Zs_field (cs : List KC) (nm : List UInt8) (v : Vv) : Zs (fieldO cs nm v) := by
 unfold fieldO
 refine Zs_if (Zs_no _) ?_
 split
 ·exact Zs_no _
 ·refine Zs_if (Zs_no _) ?_
  split
  ·exact Zs_no _
  ·split
   ·exact Zs_no _
   ·exact Zs_yes _
theorem Zs_evK {cs : List KC} {vs : List Bd} {h : EH} {l : List Ans} (hl : ∀ a ∈ l, Zs a) : Zs (evK cs vs h l) := by
 unfold evK
 refine Zs_if (Zs_yes _) (Zs_if ?_ (Zs_if (Zs_parts _ _) (Zs_if ?_ (Zs_if (Zs_if (Zs_no _) (Zs_field _ _ _)) (Zs_if (Zs_if (Zs_no _) (Zs_if (Zs_nth _ hl) (Zs_nth _ hl))) (Zs_if (Zs_if (Zs_if (Zs_no _) (Zs_yes _)) (Zs_if (Zs_no _) (Zs_yes _))) (Zs_if (Zs_no _) ?_)))))))
 ·split
  ·exact Zs_no _
  ·exact Zs_yes _
 ·split
  ·exact Zs_no _
  ·exact Zs_if (Zs_no _) (Zs_parts _ _)
 ·split
  ·exact Zs_op1 _ _
  ·split
   ·rename_i f ho; exact Zs_op2 ho _ _
   ·exact Zs_no _
  ·exact Zs_no _
theorem Zs_evL {cs : List KC} {vs : List Bd} : ∀ (L : Ef), ∀ a ∈ evL cs vs L, Zs a
 | .nil, a, ha => by cases ha
 | .cons h L r, a, ha => by
  rcases List.mem_cons.1 ha with rfl | ha
  ·exact Zs_evK (Zs_evL L)
  ·exact Zs_evL r a ha
theorem evE_no {cs : List KC} {vs : List Bd} {h : EH} {L : Ef} (he : (evE cs vs h L).1 ≠ 0) : evE cs vs h L = noA (evE cs vs h L).1 := by
 have := Zs_evK (cs := cs) (vs := vs) (h := h) (Zs_evL L) he
 exact Prod.ext rfl this
def atR {α : Type} (l : Rose α) (q : α → Rose α → Bool) (k : Nat) : Bool := match l.get? k with | some x => q x.1 x.2 | none => false
theorem atR_some {α : Type} {l : Rose α} {q : α → Rose α → Bool} {k : Nat} {x : α × Rose α} (h : l.get? k = some x) : atR l q k = q x.1 x.2 := by unfold atR; rw [h]
theorem deepL_any (d : Int) : ∀ L : Ef, deepL L d = anyR (fun _ L' => deepE L' d) L
 | .nil => rfl
 | .cons h L r => by
  show ((decide (64 < d) || deepL L (d + 1)) || deepL r d) = (deepE L d || anyR (fun _ L' => deepE L' d) r)
  rw [deepL_any d r]; rfl
theorem formEL_any : ∀ L : Ef, formEL L = !anyR (fun h L' => !formE h L') L
 | .nil => rfl
 | .cons h L r => by
  show (formE h L && formEL r) = !(!formE h L || anyR (fun h L' => !formE h L') r)
  rw [formEL_any r]
  cases formE h L <;> simp
def DpC (n : Nat) : Prop := ∀ (F : Heap) (h : EH) (L : Ef) (xs : List Value) (d : Int), L.size < n → ExC F xs h L → 0 ≤ d → d ≤ 65 → Ct Tryz.prog 29 [.agg ⟨xs⟩, .int .i64 d] F [] (fun _ _ u => u = .bool (deepE L d))
theorem deep1Ct {n : Nat} (hD : DpC n) (F : Heap) (b : Nat) (d : Int) (h : EH) (L : Ef) (xs : List Value) (hb : Cel F b 0 (.int .i64 d)) (h0 : 0 ≤ d) (h1 : d ≤ 64) (hn : L.size < n) (hX : ExC F xs h L) : Ct Tryz.prog 76 ([] ++ [.agg ⟨xs⟩] ++ [ptr b]) F [] (fun _ _ u => u = .bool (deepE L (d + 1))) := by
 have hc := hD F h L xs (d + 1) hn hX (by omega) (by omega)
 obtain ⟨a1, n1, c1, ao, cap, rfl, -, -⟩ := exc_slc hX
 refine Ct.enter Tryz.func76 rfl Tryz.ntmps76 rfl fun w0 a S => ?_
 refine wp_sr fun Z hZ => ?_
 (refine wbx S ?_; clear S a; intro b2 a w S)
 (revert S a; revert hZ Z; refine go 5 ?_; intro Z hZ a S)
 (refine wv S (sv_loadF S rfl rfl hb) ?_; clear S a; intro a S)
 (revert S a; refine go 1 ?_; intro a S)
 (refine wc0 S (hc) ?_; clear S a; intro v a w hv S; subst hv)
 (revert S a; revert hZ Z; refine go 3 ?_; intro a S)
 refine wp_ret (fr1 S Tryz.results76 ?_)
 rfl
theorem zzEvL0 {p : Prop} (h : p := by (congr 1; show _ = (decide (64 < d) || deepL L (d + 1)); first | (rw [decide_eq_true (by omega)]; rfl) | (rw [decide_eq_false (by omega), Bool.false_or, deepL_any]; exact anyN_rose (fun k x hx => atR_some hx)) | trace_state)) : p := h
theorem deepCt : ∀ n, DpC n := by
 intro n
 induction n with
 | zero => intro F h L xs d hn; omega
 | succ n ih =>
 intro F eh L xs d hn hX h0 h1
 obtain ⟨a1, n1, c1, ao, cap, rfl, -, hL⟩ := exc_slc hX
 refine Ct.enter Tryz.func29 rfl Tryz.ntmps29 rfl fun w0 a S => ?_
 refine wp_sr fun Z hZ => ?_
 (refine wbx S ?_; clear S a; intro b2 a w S)
 (refine wbx S ?_; clear S a; intro b3 a w S)
 (revert S a; revert hZ Z; refine go 7 ?_; intro Z hZ a S)
 refine wgd S ?_ ?_
 ·(clear S; intro h S)
  (revert S a; refine go 6 ?_; intro a S)
  (have hd64 : d ≤ 64 := (by omega); replace S := St.pullB b3 S; have S' := frz1 S; clear S; obtain ⟨F6, hle6, hb3, S⟩ := S'; have hb3n : Cel F6 b3 0 (.int .i64 d) := ⟨_, _, _, hb3, rfl⟩; replace hL := hL.mono hle6; refine wc0 S (cfECt F6 _ _ _ hL.sq 76 [] [ptr b3] (atR L fun _ L' => deepE L' (d + 1)) (fun k cs hk hC => by obtain ⟨x, c1, u, hx, rfl, hR, hT⟩ := hC; rw [atR_some hx]; have hxs := Rose.size_get hx; exact deep1Ct ih F6 b3 d x.1 x.2 _ hb3n h0 hd64 (by omega) (exc_of hR hT))) ?_; clear S a; intro v a w hv S; subst hv)
  (revert S a; revert hZ Z; refine go 4 ?_; intro a S)
  refine wp_ret (fr1 S Tryz.results29 ?_)
  exact zzEvL0
 (clear S a; intro h a S)
 (revert S a; revert hZ Z; refine go 7 ?_; intro a S)
 refine wp_ret (fr1 S Tryz.results29 ?_)
 exact zzEvL0
theorem zzEvL1 {p : Prop} (h : p := by (rw [hfp]; first | (rw [idxF_at (by omega), if_pos (by rw [atN_some hx, decide_eq_true_eq]; assumption)]; done) | (rw [idxF_end (by omega)]; done) | trace_state)) : p := h
theorem indexS2Ct (F : Heap) (l : List (List UInt8)) (s : List UInt8) (v : Value) (h : LiM F 1 StR v l) : Ct Tryz.prog 122 [v, .string (bs s)] F [] (fun _ _ u => u = .int .i64 (idxN (atN l fun x => decide (s = x)) l.length)) := by
 obtain ⟨ao, cap, rfl, hcap, hpos⟩ := h
 refine Ct.enter Tryz.func122 rfl Tryz.ntmps122 rfl fun w0 a S => ?_
 (revert S a; refine go 12 ?_; intro Z hZ a S)
 refine wpc_loop (fun m a w' => ∃ (k : Nat), m = l.length - k ∧ k ≤ l.length ∧ idxN (atN l fun x => decide (s = x)) l.length = idxF (atN l fun x => decide (s = x)) k (l.length - k) ∧ St 19 [(0, .slice ao l.length cap), (1, .string (bs s)), (7, .int .i64 l.length), (8, .int .i64 k)] w0 F [] F [] a w') ?_ ?_
 ·(refine ⟨l.length, 0, by omega, Nat.zero_le _, rfl, ?_⟩; refine S.keep ?_; exact zk)
 (clear S; rintro m a w ⟨k, rfl, hkl, hfp, S⟩)
 (revert S a; refine go 5 ?_; intro Z hZ a S)
 refine wpc_sp S rfl ?_ ?_ <;> intro h
 ·(revert S a; revert hZ Z; refine go 9 ?_; intro Z hZ a S)
  (refine wp_seq_k ?_; intro Z hZ)
  (obtain ⟨b8, o8, rfl, x, cs1, hx, hc1, rfl⟩ := LiM.pos hpos (k := k) (by omega))
  (revert S a; refine go 5 ?_; intro a S)
  (refine wv S (sv_loadF S rfl rfl (hc1 0 _ rfl)) ?_; clear S a; intro a S)
  (revert S a; revert hZ Z; refine go 3 ?_; intro a S)
  refine wpc_sp S rfl ?_ ?_ <;> intro h
  ·(revert S a; refine go 5 ?_; intro a S)
   refine wp_ret (fr1 S Tryz.results122 ?_)
   exact zzEvL1
  (revert S a; revert hZ Z; refine go 6 ?_; intro a S)
  change ∃ m', _ ∧ _
  (refine ⟨l.length - (k + 1), by omega, k + 1, rfl, by omega, ?_, ?_⟩; rotate_left 1; (refine S.keep ?_; exact zk); rw [hfp, idxF_at (by omega), if_neg (by rw [atN_some hx, decide_eq_true_eq]; assumption)])
 (refine wp_exit ?_; conv => whnf)
 clear hZ Z
 (revert S a; revert hZ Z; refine go 5 ?_; intro a S)
 refine wp_ret (fr1 S Tryz.results122 ?_)
 exact zzEvL1
theorem containsS2Ct (F : Heap) (l : List (List UInt8)) (s : List UInt8) (v : Value) (h : LiM F 1 StR v l) : Ct Tryz.prog 77 [v, .string (bs s)] F [] (fun _ _ u => u = .bool (decide (s ∈ l))) := by
 have hc := indexS2Ct F l s v h
 obtain ⟨ao, cap, rfl, hcap, hpos⟩ := h
 refine Ct.enter Tryz.func77 rfl Tryz.ntmps77 rfl fun w0 a S => ?_
 (revert S a; refine go 7 ?_; intro Z hZ a S)
 (refine wc0 S (hc) ?_; clear S a; intro v a w hv S; subst hv)
 (revert S a; revert hZ Z; refine go 4 ?_; intro a S)
 refine wp_ret (fr1 S Tryz.results77 ?_)
 (congr 1; show anyN (atN l fun x => decide (s = x)) l.length = _; rw [anyN_list (q := fun x => decide (s = x)) (fun k x hx => atN_some hx), Bool.eq_iff_iff, List.any_eq_true, decide_eq_true_eq]; exact ⟨fun ⟨x, h1, h2⟩ => (by rw [of_decide_eq_true h2]; exact h1), fun h1 => ⟨s, h1, decide_eq_true rfl⟩⟩)
theorem fK4 {h : EH} {n : Nat} (k : h.k = 4) : formK h n = (decide (n ≠ 1) && decide (n ≤ 16)) := by unfold formK; rw [if_pos k]
theorem fK5 {h : EH} {n : Nat} (k : h.k = 5) : formK h n = true := by unfold formK; rw [if_neg (by omega), if_pos k]
theorem fK7 {h : EH} {n : Nat} (k : h.k = 7) : formK h n = decide (n = 1) := by unfold formK; rw [if_neg (by omega), if_neg (by omega), if_pos k]
theorem fK8 {h : EH} {n : Nat} (k : h.k = 8) : formK h n = decide (n = 3) := by unfold formK; rw [if_neg (by omega), if_neg (by omega), if_neg (by omega), if_pos k]
theorem fK6 {h : EH} {n : Nat} (k : h.k = 6) : formK h n = (((((op2 h.nm).isSome || decide (h.nm = sAnd)) || decide (h.nm = sOr)) && decide (n = 2)) || (decide (n = 1) && decide (h.nm ∈ ones))) := by unfold formK; rw [if_neg (by omega), if_neg (by omega), if_neg (by omega), if_neg (by omega), if_pos k]
theorem fK0 {h : EH} {n : Nat} (k : h.k ≠ 4 ∧ h.k ≠ 5 ∧ h.k ≠ 7 ∧ h.k ≠ 8 ∧ h.k ≠ 6) : formK h n = false := by unfold formK; rw [if_neg k.1, if_neg k.2.1, if_neg k.2.2.1, if_neg k.2.2.2.1, if_neg k.2.2.2.2]
theorem formE_k {h : EH} {L : Ef} (h1 : h.k ≠ 1) (h2 : h.k ≠ 2) : formE h L = (formK h L.len && formEL L) := by unfold formE; rw [if_neg h1, if_neg h2]
def FmC (n : Nat) : Prop := ∀ (F : Heap) (bm : Nat) (cs : List KC) (vs : List Bd) (h : EH) (L : Ef) (xs : List Value), L.size < n → Mac F bm cs vs → ExC F xs h L → GE h L → Ct Tryz.prog 30 [ptr bm, .agg ⟨xs⟩] F [] (fun _ _ u => u = .bool (formE h L))
theorem form1Ct {n : Nat} (hD : FmC n) (F : Heap) (b bm : Nat) (cs : List KC) (vs : List Bd) (h : EH) (L : Ef) (xs : List Value) (hb : Cel F b 0 (ptr bm)) (hM : Mac F bm cs vs) (hn : L.size < n) (hX : ExC F xs h L) (hg : GE h L) : Ct Tryz.prog 78 ([] ++ [.agg ⟨xs⟩] ++ [ptr b]) F [] (fun _ _ u => u = .bool (!formE h L)) := by
 have hc := hD F bm cs vs h L xs hn hM hX hg
 obtain ⟨a1, n1, c1, ao, cap, rfl, -, -⟩ := exc_slc hX
 refine Ct.enter Tryz.func78 rfl Tryz.ntmps78 rfl fun w0 a S => ?_
 refine wp_sr fun Z hZ => ?_
 (refine wbx S ?_; clear S a; intro b2 a w S)
 (revert S a; revert hZ Z; refine go 4 ?_; intro Z hZ a S)
 (refine wv S (sv_loadF S rfl rfl hb) ?_; clear S a; intro a S)
 (revert S a; refine go 1 ?_; intro a S)
 (refine wc0 S (hc) ?_; clear S a; intro v a w hv S; subst hv)
 (revert S a; revert hZ Z; refine go 4 ?_; intro a S)
 refine wp_ret (fr1 S Tryz.results78 ?_)
 rfl
theorem ones_lim {F : Heap} {b : Nat} {e : TypeId} {R} (h : F b = some (.cells ⟨[.string (bs sNot), .string (bs sNeg), .string (bs sLen), .string (bs sBig), .string (bs sInt)]⟩ e R)) : LiM F 1 StR (.slice (some ⟨b, 0, none⟩) 5 5) ones := by
 refine ⟨_, _, rfl, ⟨Nat.le_refl 5, show 5 ≤ _ by decide⟩, fun _ => ⟨b, 0, rfl, fun k z hz => ?_⟩⟩
 match k, hz with
 | 0, hz => cases hz; exact ⟨_, fun j u hj => ⟨_, _, _, h, by match j, hj with | 0, hj => exact hj⟩, rfl, rfl⟩
 | 1, hz => cases hz; exact ⟨_, fun j u hj => ⟨_, _, _, h, by match j, hj with | 0, hj => exact hj⟩, rfl, rfl⟩
 | 2, hz => cases hz; exact ⟨_, fun j u hj => ⟨_, _, _, h, by match j, hj with | 0, hj => exact hj⟩, rfl, rfl⟩
 | 3, hz => cases hz; exact ⟨_, fun j u hj => ⟨_, _, _, h, by match j, hj with | 0, hj => exact hj⟩, rfl, rfl⟩
 | 4, hz => cases hz; exact ⟨_, fun j u hj => ⟨_, _, _, h, by match j, hj with | 0, hj => exact hj⟩, rfl, rfl⟩
theorem ops_some {F : Heap} {es : List (List UInt8 × Value)} (h : OpsM F es ops2) (s : List UInt8) : (mGet es s).isSome = (op2 s).isSome := by
 rcases h.get s with ⟨f, u, h1, h2, -⟩ | ⟨h1, h2⟩
 ·rw [h2, show op2 s = some f from h1]; rfl
 ·rw [h2, show op2 s = none from h1]; rfl
theorem zzEvM0 {p : Prop} (h : p := by (congr 1; first | (rw [formE_k hk1 hk2, ← ht6, (by assumption : t6 = true), Bool.true_and, formEL_any, anyN_rose (q := fun h L' => !formE h L') (fun k x hx => atR_some hx)]; done) | (rw [formE_k hk1 hk2, ← ht6, (by assumption : t6 = false), Bool.false_and]; done) | (unfold formE; first | (rw [if_pos (by omega)]; rfl) | (rw [if_neg (by omega), if_pos (by omega)]; done)) | trace_state)) : p := h
theorem zzEvM1 {p : Prop} (h : p := by ((first | (refine ⟨F5, ?_⟩; apply Exists.intro; refine ⟨hle5, ?_⟩; apply And.intro) | (refine ⟨F, ?_⟩; apply Exists.intro; refine ⟨fun _ _ h => h, ?_⟩; apply And.intro)); rotate_left 1; (refine ⟨⟨by omega, by omega⟩, ?_⟩; refine S.keep ?_; exact zk); first | (rw [fK5 (by omega)]; done) | (rw [fK7 (by omega), Bool.eq_iff_iff, beq_iff_eq, decide_eq_true_eq]; omega) | (rw [fK8 (by omega), Bool.eq_iff_iff, beq_iff_eq, decide_eq_true_eq]; omega) | (rw [fK4 (by omega), decide_eq_false (show ¬ L.len ≠ 1 by omega)]; rfl) | (rw [fK4 (by omega), decide_eq_true (show L.len ≠ 1 by omega), Bool.true_and, Bool.eq_iff_iff, decide_eq_true_eq, decide_eq_true_eq]; omega) | (rw [fK0 (by omega)]; done) | (rw [fK6 (by omega), ← ht8, (by assumption : t8 = true), decide_eq_true (show L.len = 2 by omega)]; rfl) | (rw [fK6 (by omega), decide_eq_false (show ¬ L.len = 2 by omega), Bool.and_false, Bool.false_or]; first | (rw [decide_eq_true (show L.len = 1 by omega), Bool.true_and]; done) | (rw [decide_eq_false (show ¬ L.len = 1 by omega)]; rfl)) | (rw [fK6 (by omega), ← ht8, (by assumption : t8 = false), Bool.false_and, Bool.false_or]; first | (rw [decide_eq_true (show L.len = 1 by omega), Bool.true_and]; done) | (rw [decide_eq_false (show ¬ L.len = 1 by omega)]; rfl)) | trace_state)) : p := h
theorem zzEvM2 {p : Prop} (h : p := by (apply Exists.intro; apply And.intro; rotate_left 1; (refine S.keep ?_; exact zk); first | (simp only [*, Bool.true_or, Bool.false_or, Bool.or_true, decide_true, beqL]; done) | (rw [beqL, (by assumption : (op2 eh.nm).isSome = false), decide_eq_false (show ¬ eh.nm = sAnd by assumption)]; rfl) | (rw [(by assumption : (op2 eh.nm).isSome = false), decide_eq_true (show eh.nm = sAnd by assumption)]; rfl) | (rw [(by assumption : (op2 eh.nm).isSome = true)]; rfl) | trace_state)) : p := h
theorem formCt : ∀ n, FmC n := by
  intro n
  induction n with
  | zero => intro F bm cs vs h L xs hn; omega
  | succ n ih =>
  intro F bm cs vs eh L xs hn hM hX hg
  have hMc := hM
  obtain ⟨a1, n1, c1, ao, cap, rfl, hvl, hL⟩ := exc_slc hX
  obtain ⟨⟨tv, aov, capv, bt, es, hm0, hm1, hm2, hvs, hes, hops, hK⟩, hT, hEr, hGB⟩ := hM
  have hsv : eh.v.s.length ≤ 200000 := hg.1.1.2
  have hzv : eh.vl.size ≤ 5000 := hg.1.2.2
  have hck := checkVCt F eh.v eh.vl [.int .u8 (eh.v.k : Int), .int .i64 eh.v.n, .string (bs eh.v.s), .slice a1 n1 c1] (by omega) ⟨_, rfl, hvl, by omega⟩
  refine Ct.enter Tryz.func30 rfl Tryz.ntmps30 rfl fun w0 a S => ?_
  refine wp_sr fun Z hZ => ?_
  (refine wbx S ?_; clear S a; intro b2 a w S)
  (refine wbx S ?_; clear S a; intro b3 a w S)
  (revert S a; revert hZ Z; refine go 14 ?_; intro a S)
  (refine wp_seq_k ?_; intro Z hZ)
  replace hZ : ∀ (a' : Act) (w' : World), (∃ (F3 : Heap) (t : Bool), (∀ b o, F b = some o → F3 b = some o) ∧ t = formK eh L.len ∧ (eh.k ≠ 1 ∧ eh.k ≠ 2) ∧ St 86 [(2, ptr b2), (3, ptr b3), (4, .bool false), (6, .bool t)] w0 F [] F3 [[(b3, .cells ⟨[.int .u8 (eh.k : Int), .int .i64 eh.l, .int .i64 eh.c, .string (bs eh.nm), .int .u8 (eh.v.k : Int), .int .i64 eh.v.n, .string (bs eh.v.s), .slice a1 n1 c1, .slice ao L.len cap]⟩ 36 (0, 0))], [(b2, .cells ⟨[ptr bm]⟩ 71 (0, 0))]] a' w') → Z a' w' := (by
   (intro a w hM; refine hZ _ _ ?_; clear hZ Z; clear S; obtain ⟨F3, t6, hF3, ht6, ⟨hk1, hk2⟩, S⟩ := hM)
   (revert S a; refine go 3 ?_; intro Z hZ a S)
   refine wgd S ?_ ?_
   · (clear S; intro h S)
     (revert S a; refine go 6 ?_; intro a S)
     (replace S := St.pullB b2 S; have S' := frz1 S; clear S; obtain ⟨F6, hle6, hb2, S⟩ := S'; have hb2n : Cel F6 b2 0 (ptr bm) := ⟨_, _, _, hb2, rfl⟩; replace hL := (hL.mono hF3).mono hle6; refine wc0 S (cfECt F6 _ _ _ hL.sq 78 [] [ptr b2] (atR L fun h L' => !formE h L') (fun k cs' hk hC => by obtain ⟨x, c1, u, hx, rfl, hR, hT⟩ := hC; rw [atR_some hx]; have hxs := Rose.size_get hx; exact form1Ct ih F6 b2 bm cs vs x.1 x.2 _ hb2n ((hMc.mono hF3).mono hle6) (by omega) (exc_of hR hT) (GEl.get hg.2.2 hx))) ?_; clear S a; intro v a w hv S; subst hv)
     (revert S a; revert hZ Z; refine go 6 ?_; intro a S)
     refine wp_ret (fr1 S Tryz.results30 ?_)
     exact zzEvM0
   (clear S a; intro h a S)
   (revert S a; revert hZ Z; refine go 8 ?_; intro a S)
   refine wp_ret (fr1 S Tryz.results30 ?_)
   (congr 1; first | (rw [formE_k hk1 hk2, ← ht6, (by assumption : t6 = true), Bool.true_and, formEL_any, anyN_rose (q := fun h L' => !formE h L') (fun k x hx => atR_some hx)]; done) | (rw [formE_k hk1 hk2, ← ht6, (by assumption : t6 = false), Bool.false_and]; done) | (unfold formE; first | (rw [if_pos (by omega)]; rfl) | (rw [if_neg (by omega), if_pos (by omega)]; done)) | trace_state))
  (revert S a; refine go 11 ?_; intro a S)
  refine wpc_sp S rfl ?_ ?_ <;> intro h
  · (revert S a; refine go 3 ?_; intro Z hZ a S)
    (refine wc0 S (hck) ?_; clear S a; intro v a w hv S; subst hv)
    (revert S a; revert hZ Z; refine go 4 ?_; intro a S)
    refine wp_ret (fr1 S Tryz.results30 ?_)
    exact zzEvM0
  (revert S a; refine go 5 ?_; intro a S)
  refine wpc_sp S rfl ?_ ?_ <;> intro h
  · (revert S a; refine go 4 ?_; intro a S)
    refine wp_ret (fr1 S Tryz.results30 ?_)
    exact zzEvM0
  (revert S a; refine go 5 ?_; intro a S)
  refine wpc_sp S rfl ?_ ?_ <;> intro h
  · (revert S a; refine go 4 ?_; intro a S)
    refine wgd S ?_ ?_
    · (clear S; intro h S)
      (revert S a; refine go 6 ?_; intro a S)
      (refine hZ _ _ ?_)
      exact zzEvM1
    (clear S a; intro h a S)
    (revert S a; refine go 4 ?_; intro a S)
    (refine hZ _ _ ?_)
    exact zzEvM1
  (revert S a; refine go 5 ?_; intro a S)
  refine wpc_sp S rfl ?_ ?_ <;> intro h
  · (revert S a; refine go 3 ?_; intro a S)
    (refine hZ _ _ ?_)
    exact zzEvM1
  (revert S a; refine go 5 ?_; intro a S)
  refine wpc_sp S rfl ?_ ?_ <;> intro h
  · (revert S a; refine go 5 ?_; intro a S)
    (refine hZ _ _ ?_)
    exact zzEvM1
  (revert S a; refine go 5 ?_; intro a S)
  refine wpc_sp S rfl ?_ ?_ <;> intro h
  · (revert S a; refine go 5 ?_; intro a S)
    (refine hZ _ _ ?_)
    exact zzEvM1
  (revert S a; refine go 5 ?_; intro a S)
  refine wpc_sp S rfl ?_ ?_ <;> intro h
  · (refine wp_seq_k ?_; intro Z hZ)
    (refine wpc_mixM [0, 1, 2, 3, 4, 5, 6, 7, 8, 9] [0, 3, 5, 6] [] (.one 0 (.one 1 (.one 2 (.one 3 (.one 4 (.one 5 (.one 6 (.one 7 (.one 8 (.one 9 (.one 10 (.one 11 .nil)))))))))))) [b2, b3] S mixed (by kernel_rfl) ?_; clear S; intro w S)
    (revert S a; refine go 3 ?_; intro a S)
    (refine wlF S rfl (fun w' S => sv_loadF S rfl rfl hm2) ?_; clear S a; intro a S)
    (revert S a; refine go 2 ?_; intro a S)
    (refine wlF S rfl (fun w' S => sv_lookupF (enc := kS) S rfl rfl rfl hes) ?_; clear S a; intro a S)
    (rw [if_pos rfl, ops_some hops] at S; generalize (mGet es eh.nm).getD _ = gf at S)
    (revert S a; revert hZ Z; refine go 11 ?_; intro a S)
    (refine wp_seq_k ?_; intro Z hZ)
    replace hZ : ∀ (a' : Act) (w' : World), (∃ (t : Bool), t = (((op2 eh.nm).isSome || decide (eh.nm = sAnd)) || decide (eh.nm = sOr)) ∧ St 86 [(2, ptr b2), (3, ptr b3), (4, .bool false), (5, .int .i64 L.len), (8, .bool t)] w0 F [] F [[(b3, .cells ⟨[.int .u8 (eh.k : Int), .int .i64 eh.l, .int .i64 eh.c, .string (bs eh.nm), .int .u8 (eh.v.k : Int), .int .i64 eh.v.n, .string (bs eh.v.s), .slice a1 n1 c1, .slice ao L.len cap]⟩ 36 (0, 0))], [(b2, .cells ⟨[ptr bm]⟩ 71 (0, 0))]] a' w') → Z a' w' := (by
     (intro a w hM; refine hZ _ _ ?_; clear hZ Z; clear S; obtain ⟨t8, ht8, S⟩ := hM)
     (revert S a; refine go 3 ?_; intro a S)
     refine wgd S ?_ ?_
     · (clear S; intro h S)
       (revert S a; refine go 5 ?_; intro a S)
       refine wgd S ?_ ?_
       · (clear S; intro h S)
         (revert S a; refine go 5 ?_; intro a S)
         refine wgd S ?_ ?_
         · (clear S; intro h S)
           (refine wpl_buildSlice S rfl rfl rfl rfl rfl rfl (by rfl) (by simp [Value.cells, splice, splice]) rfl (by rfl) (by rfl) ?_; clear S a; intro b72 a w hown S)
           (revert S a; refine go 5 ?_; intro a S)
           (replace S := St.pullB b72 S; have S' := frz1 S; clear S; obtain ⟨F5, hle5, hb72, S⟩ := S'; refine wc0 S (containsS2Ct F5 ones eh.nm _ (ones_lim hb72)) ?_; clear S a; intro v a w hv S; subst hv)
           (revert S a; refine go 5 ?_; intro a S)
           (refine hZ _ _ ?_)
           exact zzEvM1
         (clear S a; intro h a S)
         (revert S a; refine go 8 ?_; intro a S)
         (refine hZ _ _ ?_)
         exact zzEvM1
       (clear S a; intro h a S)
       (revert S a; refine go 10 ?_; intro a S)
       (refine hZ _ _ ?_)
       exact zzEvM1
     (clear S a; intro h a S)
     (revert S a; refine go 9 ?_; intro a S)
     refine wgd S ?_ ?_
     · (clear S; intro h S)
       (refine wpl_buildSlice S rfl rfl rfl rfl rfl rfl (by rfl) (by simp [Value.cells, splice, splice]) rfl (by rfl) (by rfl) ?_; clear S a; intro b72 a w hown S)
       (revert S a; refine go 5 ?_; intro a S)
       (replace S := St.pullB b72 S; have S' := frz1 S; clear S; obtain ⟨F5, hle5, hb72, S⟩ := S'; refine wc0 S (containsS2Ct F5 ones eh.nm _ (ones_lim hb72)) ?_; clear S a; intro v a w hv S; subst hv)
       (revert S a; refine go 5 ?_; intro a S)
       (refine hZ _ _ ?_)
       exact zzEvM1
     (clear S a; intro h a S)
     (revert S a; refine go 8 ?_; intro a S)
     (refine hZ _ _ ?_)
     ((first | (refine ⟨F5, ?_⟩; apply Exists.intro; refine ⟨hle5, ?_⟩; apply And.intro) | (refine ⟨F, ?_⟩; apply Exists.intro; refine ⟨fun _ _ h => h, ?_⟩; apply And.intro)); rotate_left 1; (refine ⟨⟨by omega, by omega⟩, ?_⟩; refine S.keep ?_; exact zk); first | (rw [fK5 (by omega)]; done) | (rw [fK7 (by omega), Bool.eq_iff_iff, beq_iff_eq, decide_eq_true_eq]; omega) | (rw [fK8 (by omega), Bool.eq_iff_iff, beq_iff_eq, decide_eq_true_eq]; omega) | (rw [fK4 (by omega), decide_eq_false (show ¬ L.len ≠ 1 by omega)]; rfl) | (rw [fK4 (by omega), decide_eq_true (show L.len ≠ 1 by omega), Bool.true_and, Bool.eq_iff_iff, decide_eq_true_eq, decide_eq_true_eq]; omega) | (rw [fK0 (by omega)]; done) | (rw [fK6 (by omega), ← ht8, (by assumption : t8 = true), decide_eq_true (show L.len = 2 by omega)]; rfl) | (rw [fK6 (by omega), decide_eq_false (show ¬ L.len = 2 by omega), Bool.and_false, Bool.false_or]; first | (rw [decide_eq_true (show L.len = 1 by omega), Bool.true_and]; done) | (rw [decide_eq_false (show ¬ L.len = 1 by omega)]; rfl)) | (rw [fK6 (by omega), ← ht8, (by assumption : t8 = false), Bool.false_and, Bool.false_or]; first | (rw [decide_eq_true (show L.len = 1 by omega), Bool.true_and]; done) | (rw [decide_eq_false (show ¬ L.len = 1 by omega)]; rfl)) | trace_state))
    (revert S a; refine go 3 ?_; intro a S)
    refine wgd S ?_ ?_
    · (clear S; intro h S)
      (revert S a; refine go 7 ?_; intro a S)
      refine wgd S ?_ ?_
      · (clear S; intro h S)
        (revert S a; refine go 8 ?_; intro a S)
        (refine hZ _ _ ?_)
        exact zzEvM2
      (clear S a; intro h a S)
      (revert S a; refine go 5 ?_; intro a S)
      (refine hZ _ _ ?_)
      exact zzEvM2
    (clear S a; intro h a S)
    (revert S a; refine go 10 ?_; intro a S)
    (refine hZ _ _ ?_)
    exact zzEvM2
  refine wp_skip ?_
  (refine hZ _ _ ?_)
  exact zzEvM1
theorem evl1Ct (F : Heap) (x : Bd) (cs : List Value) (gx : GV x.2) (hf : BdR F x cs) : Ct Tryz.prog 32 ([] ++ [.agg ⟨cs⟩] ++ []) F [] (fun _ _ u => u = .bool (!mayV x.2)) := by
 obtain ⟨c, rfl, hV⟩ := hf
 have hck := checkVCt F x.2.1 x.2.2 c (Nat.le_trans gx.2.2 (by decide)) hV
 obtain ⟨a4, c4, rfl, hT4, hs4⟩ := vac_slc hV
 refine Ct.enter Tryz.func32 rfl Tryz.ntmps32 rfl fun w0 a S => ?_
 refine wp_sr fun Z hZ => ?_
 (refine wbx S ?_; clear S a; intro b1 a w S)
 (revert S a; revert hZ Z; refine go 6 ?_; intro Z hZ a S)
 (refine wc0 S (hck) ?_; clear S a; intro v a w hv S; subst hv)
 (revert S a; revert hZ Z; refine go 4 ?_; intro a S)
 refine wp_ret (fr1 S Tryz.results32 ?_)
 rfl
theorem all_any (vs : List Bd) : (vs.all fun x => mayV x.2) = !(vs.any fun x => !mayV x.2) := by
 induction vs with
 | nil => rfl
 | cons x r ih => rw [List.all_cons, List.any_cons, ih]; cases mayV x.2 <;> simp
theorem zzEvN0 {p : Prop} (h : p := by (unfold evalO; rw [all_any]; first | (rw [if_pos (by assumption)]; exact ans_no _ _) | (rw [if_neg (by rw [(by assumption : deepE L 1 = false)]; decide)]; first | (rw [if_pos (by assumption)]; exact ans_no _ _) | (rw [if_neg (by rw [hfe]; decide), if_neg (by rw [(by assumption : (vs.any fun x => !mayV x.2) = false)]; decide)]; first | (rw [hno (by assumption)]; exact ans_no _ _) | (have he0 : (evE css vs eh L).1 = 0 := (by omega); refine ⟨_, ?_, hV7⟩; rw [he0]; rfl)) | (rw [if_neg (by rw [(by assumption : formE eh L = true)]; decide), if_pos (by rw [(by assumption : (vs.any fun x => !mayV x.2) = true)]; rfl)]; exact ans_no _ _)) | trace_state)) : p := h
theorem evalCt (F : Heap) (hT : TabF F) (hE : ErrF F) (tv : Option Addr) (css : List KC) (hK : ∀ (F' : Heap) (nm : List UInt8), (∀ b o, F b = some o → F' b = some o) → Ct Tryz.prog 126 [.pointer tv, .string (bs nm)] F' [] (fun F2 _ u => ConsR F2 u (findC css nm)))
  (vs : List Bd) (vv : Value) (hvs : LiM F 5 BdR vv vs) (hGB : GVB vs) (eh : EH) (L : Ef) (xs : List Value) (hX : ExC F xs eh L) (hg : GE eh L) :
  Ct Tryz.prog 8 [.pointer tv, .agg ⟨xs⟩, vv] F [] (fun F' _ u => AnsR F' u (evalO css vs eh L)) := by
 have hXc := hX
 obtain ⟨a1, n1, c1, ao, cap, rfl, -, -⟩ := exc_slc hX
 have hvc := hvs
 obtain ⟨aov, capv, rfl, -, -⟩ := hvc
 have han : anyN (atN vs fun x => !mayV x.2) vs.length = vs.any fun x => !mayV x.2 := anyN_list (fun k x hx => atN_some hx)
 have hgv := evE_GV (cs := css) hGB hg
 have hno := evE_no (cs := css) (vs := vs) (h := eh) (L := L)
 refine Ct.enter Tryz.func8 rfl Tryz.ntmps8 rfl fun w0 a S => ?_
 refine wp_sr fun Z hZ => ?_
 (refine wbx S ?_; clear S a; intro b4 a w S)
 (refine wpl_alloc S rfl rfl rfl rfl ?_; clear S a; intro b6 a w S)
 (revert S a; revert hZ Z; refine go 6 ?_; intro Z hZ a S)
 (refine wcF S (operatorsCt F hT) ?_; clear S a; intro u9 F4 a w hv hF4 S; obtain ⟨bt, es, rfl, hes, hops⟩ := hv)
 (revert S a; refine go 1 ?_; intro a S)
 (refine wbx S ?_; clear S a; intro b15 a w S)
 (revert S a; revert hZ Z; refine go 5 ?_; intro Z hZ a S)
 (refine wp_seq_k ?_; intro Z hZ)
 (replace S := St.pullB b15 S; have S' := frz1 S; clear S; obtain ⟨F5, hle5, hb15, S⟩ := S'; have hF5 : ∀ b o, F b = some o → F5 b = some o := fun b o h => hle5 _ _ (hF4 _ _ h); have hM : Mac F5 b15 css vs := ⟨⟨tv, aov, capv, bt, es, ⟨_, _, _, hb15, rfl⟩, ⟨_, _, _, hb15, rfl⟩, ⟨_, _, _, hb15, rfl⟩, hvs.mono hF5, hle5 _ _ hes, hops.mono hle5, fun F' nm h => hK F' nm fun b o h9 => h _ _ (hF5 _ _ h9)⟩, hT.mono hF5, hE.mono hF5, hGB⟩; replace hXc := hXc.mono hF5)
 (revert S a; refine go 2 ?_; intro a S)
 (refine wc0 S (deepCt (L.size + 1) F5 eh L _ 1 (Nat.lt_succ_self _) hXc (by decide) (by decide)) ?_; clear S a; intro v a w hv S; subst hv)
 (revert S a; revert hZ Z; refine go 3 ?_; intro a S)
 refine wpc_sp S rfl ?_ ?_ <;> intro h
 ·(revert S a; refine go 2 ?_; intro Z hZ a S)
  (refine wso S rfl rfl ?_; clear S; intro w S)
  (revert S a; revert hZ Z; refine go 3 ?_; intro a S)
  refine wp_ret (fin_ret S (results2 Tryz.results8 (RV.cellO S rfl (by rfl)) (RV.tmp S rfl)) ?_)
  exact zzEvN0
 (revert S a; refine go 3 ?_; intro Z hZ a S)
 (refine wc0 S (formCt (L.size + 1) F5 b15 css vs eh L _ (Nat.lt_succ_self _) hM hXc hg) ?_; clear S a; intro v a w hv S; subst hv)
 (revert S a; revert hZ Z; refine go 4 ?_; intro a S)
 refine wpc_sp S rfl ?_ ?_ <;> intro h
 ·(revert S a; refine go 2 ?_; intro Z hZ a S)
  (refine wso S rfl rfl ?_; clear S; intro w S)
  (revert S a; revert hZ Z; refine go 3 ?_; intro a S)
  refine wp_ret (fin_ret S (results2 Tryz.results8 (RV.cellO S rfl (by rfl)) (RV.tmp S rfl)) ?_)
  exact zzEvN0
 (revert S a; refine go 2 ?_; intro Z hZ a S)
 (refine wc0 S (cfBCt F5 _ _ _ (hvs.mono hF5).sq 32 [] [] (atN vs fun x => !mayV x.2) (fun k cs hk hC => by obtain ⟨x, hx, hR⟩ := hC; rw [atN_some hx]; exact evl1Ct F5 x cs (hGB x (List.mem_of_getElem? hx)) hR)) ?_; clear S a; intro v a w hv S; subst hv; rw [han] at S)
 (revert S a; revert hZ Z; refine go 3 ?_; intro a S)
 refine wpc_sp S rfl ?_ ?_ <;> intro h
 ·(revert S a; refine go 2 ?_; intro Z hZ a S)
  (refine wso S rfl rfl ?_; clear S; intro w S)
  (revert S a; revert hZ Z; refine go 3 ?_; intro a S)
  refine wp_ret (fin_ret S (results2 Tryz.results8 (RV.cellO S rfl (by rfl)) (RV.tmp S rfl)) ?_)
  exact zzEvN0
 (revert S a; revert hZ Z; refine go 5 ?_; intro Z hZ a S)
 (have hfe : formE eh L = true := (by assumption); refine wcF S (evCt (L.size + 1) F5 b15 css vs eh L _ (Nat.lt_succ_self _) hM hXc hg hfe) ?_; clear S a; intro u8 F6 a w hv hF6 S; obtain ⟨cs6, rfl, hV6⟩ := hv; have hV6c := hV6; obtain ⟨a6, c6, rfl, hT6, hs6⟩ := vac_slc hV6)
 (revert S a; refine go 3 ?_; intro a S)
 (refine wpl_alloc S rfl rfl rfl rfl ?_; clear S a; intro b9 a w S)
 (refine wso S rfl rfl ?_; clear S; intro w S)
 (revert S a; revert hZ Z; refine go 9 ?_; intro Z hZ a S)
 refine wpc_sp S rfl ?_ ?_ <;> intro h
 ·(revert S a; refine go 3 ?_; intro Z hZ a S)
  (refine wso S rfl rfl ?_; clear S; intro w S)
  (revert S a; revert hZ Z; refine go 3 ?_; intro a S)
  refine wp_ret (fin_ret S (results2 Tryz.results8 (RV.cellO S rfl (by rfl)) (RV.tmp S rfl)) ?_)
  exact zzEvN0
 (revert S a; revert hZ Z; refine go 4 ?_; intro Z hZ a S)
 (refine wcF S (ownVCt _ F6 _ _ _ (Nat.le_refl _) (Nat.le_trans hgv.2.2 (by decide)) hV6c) ?_; clear S a; intro u7 F7 a w hv hF7 S; obtain ⟨cs7, rfl, hV7⟩ := hv; have hV7c := hV7; obtain ⟨a7, c7, rfl, hT7, hs7⟩ := vac_slc hV7)
 (refine wso S rfl rfl ?_; clear S; intro w S)
 (revert S a; revert hZ Z; refine go 3 ?_; intro a S)
 refine wp_ret (fin_ret S (results2 Tryz.results8 (RV.cellO S rfl (by rfl)) (RV.tmp S rfl)) ?_)
 exact zzEvN0
end Go.Proofs.YtgefmjghdijbfaaGreatDoor
