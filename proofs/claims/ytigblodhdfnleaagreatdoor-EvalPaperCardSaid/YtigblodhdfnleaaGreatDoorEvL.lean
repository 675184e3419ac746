/- Walks: the machine's eval. Walks: deep, form: which expressions may be. -/
import Derived.Test.YtigblodhdfnleaaGreatDoorEvJ
namespace Go.Proofs.YtigblodhdfnleaaGreatDoor
open Go Go.Wk Go.Un Go.De Go.Num
set_option linter.unusedSimpArgs false
set_option linter.unusedVariables false
attribute [local irreducible] Go.wpList Go.Code.wp Go.wpStill Go.Wk.wpPre Go.bodyPost Go.Calls Go.Wk.Ct Go.Wk.OwnS
attribute [local irreducible] Go.Wk.wpG Go.Wk.wpM

theorem evE_lit {cs : List KC} {vs : List Bd} {h : EH} {L : Ef} (hk : h.k = 1) : evE cs vs h L = yesA (h.v, h.vl) := by
  unfold evE evK
  rw [if_pos hk]
theorem evE_var0 {cs : List KC} {vs : List Bd} {h : EH} {L : Ef} (hk : h.k = 2) (hf : findB vs h.nm = none) : evE cs vs h L = noA 71 := by
  unfold evE evK
  rw [if_neg (by omega), if_pos hk, hf]
theorem evE_var {cs : List KC} {vs : List Bd} {h : EH} {L : Ef} {x : Bd} (hk : h.k = 2) (hf : findB vs h.nm = some x) : evE cs vs h L = yesA x.2 := by
  unfold evE evK
  rw [if_neg (by omega), if_pos hk, hf]
theorem evE_if {cs : List KC} {vs : List Bd} {h : EH} {L : Ef} {x y z : EH × Ef} (hk : h.k = 8) (hx : L.get? 0 = some x) (hy : L.get? 1 = some y) (hz : L.get? 2 = some z) : evE cs vs h L = if (truthO (evE cs vs x.1 x.2)).2 ≠ 0 then noA (truthO (evE cs vs x.1 x.2)).2 else if (truthO (evE cs vs x.1 x.2)).1 = true then evE cs vs y.1 y.2 else evE cs vs z.1 z.2 := by
  rw [← evL_at (cs := cs) (vs := vs) hx, ← evL_at (cs := cs) (vs := vs) hy, ← evL_at (cs := cs) (vs := vs) hz]
  conv => lhs; unfold evE evK
  rw [if_neg (by omega), if_neg (by omega), if_neg (by omega), if_neg (by omega), if_neg (by omega), if_pos hk]
theorem find_at {α : Type} (l : List α) (q : α → Bool) : (∃ (j : Nat) (x : α), idxN (atN l q) l.length = (j : Int) ∧ j < l.length ∧ l[j]? = some x ∧ l.find? q = some x) ∨ (l.find? q = none ∧ idxN (atN l q) l.length = -1) := by
  rcases idx_find l q with ⟨j, h1, h2, h3⟩ | ⟨h1, h2⟩
  · refine .inl ⟨j, l[j], h2, h3, List.getElem?_eq_getElem h3, ?_⟩
    rw [List.findIdx?_eq_some_iff_getElem] at h1
    obtain ⟨_, h4, h5⟩ := h1
    rw [List.find?_eq_some_iff_getElem]
    exact ⟨h4, j, h3, rfl, fun i hi => by simpa using h5 i hi⟩
  · refine .inr ⟨?_, h2⟩
    rw [List.findIdx?_eq_none_iff] at h1
    rw [List.find?_eq_none]
    intro x hx
    simp [h1 x hx]
set_option maxRecDepth 20000 in
set_option maxHeartbeats 32000000 in
theorem evCt : ∀ n, EvC n := by
  intro n
  induction n with
  | zero => intro F bm cs vs h L xs hn; omega
  | succ n hE =>
  intro F bm cs vs eh L xs hn hM hX hg hf
  have hff : eh.k ≠ 1 → eh.k ≠ 2 → formK eh L.len = true ∧ formEL L = true := fun h1 h2 => by
    unfold formE at hf
    rw [if_neg h1, if_neg h2, Bool.and_eq_true] at hf
    exact hf
  have hkk : eh.k ≠ 1 → eh.k ≠ 2 → eh.k = 4 ∨ eh.k = 5 ∨ eh.k = 7 ∨ eh.k = 8 ∨ eh.k = 6 := fun h1 h2 => by
    have h3 := (hff h1 h2).1
    unfold formK at h3
    by_cases k4 : eh.k = 4
    · exact .inl k4
    by_cases k5 : eh.k = 5
    · exact .inr (.inl k5)
    by_cases k7 : eh.k = 7
    · exact .inr (.inr (.inl k7))
    by_cases k8 : eh.k = 8
    · exact .inr (.inr (.inr (.inl k8)))
    by_cases k6 : eh.k = 6
    · exact .inr (.inr (.inr (.inr k6)))
    · rw [if_neg k4, if_neg k5, if_neg k7, if_neg k8, if_neg k6] at h3
      cases h3
  have hXc := hX
  obtain ⟨a1, n1, c1, ao, cap, rfl, hvl, hL⟩ := exc_slc hX
  have hMc := hM
  obtain ⟨⟨tv, aov, capv, bt, es, hm0, hm1, hm2, hvs, hes, hops, hK⟩, hT, hEr, hGB⟩ := hM
  have hLc := hL
  obtain ⟨_, _, e9, hcap, hpos⟩ := hLc
  cases e9
  have hg1 := hg.2.1.1
  have hsv := hg.1.1.2
  have hzv : eh.vl.size ≤ 5000 := hg.1.2.2
  dsimp only at hsv
  refine Ct.enter Tryz.func25 rfl Tryz.ntmps25 rfl fun w0 a S => ?_
  refine wp_sr fun Kq1 hKq1 => ?_
  (refine wpl_box S rfl rfl rfl rfl rfl ?_; clear S a; intro b3 a w S)
  (refine wpl_alloc S rfl rfl rfl rfl ?_; clear S a; intro b4 a w S)
  (refine wpl_p S rfl rfl rfl ?_; clear S a; intro a S)
  (refine wpList_nil (hKq1 _ _ (wp_seq_k fun Kq2 hKq2 => ?_)); try clear hKq1 Kq1)
  refine wp_sr fun Kq3 hKq3 => ?_
  (refine wpl_f S rfl rfl rfl ?_; clear S a; intro a S)
  (refine wpl_l S rfl rfl rfl ?_; clear S a; intro a S)
  (refine wpList_nil (hKq3 _ _ ?_); try clear hKq3 Kq3)
  refine wp_block ?_
  refine wp_sr fun Kq4 hKq4 => ?_
  iterate 2 (refine wpl_p S rfl rfl rfl ?_; clear S a; intro a S)
  (refine wpList_nil (hKq4 _ _ ?_); try clear hKq4 Kq4)
  refine wpc_split S rfl (fun h => ?_) (fun h => ?_)
  · (skip; (try simp only [tq] at h))
    refine wp_sr fun Kq5 hKq5 => ?_
    (refine wpl_f S rfl rfl rfl ?_; clear S a; intro a S)
    (refine wpl_l S rfl rfl rfl ?_; clear S a; intro a S)
    (refine wpl_callF S rfl rfl rfl rfl rfl rfl (ownVCt eh.vl.size F eh.v eh.vl [.int .u8 (eh.v.k : Int), .int .i64 eh.v.n, .string (bs eh.v.s), .slice a1 n1 c1] (Nat.le_refl _) (by omega) ⟨_, rfl, hvl, by omega⟩) rfl ?_; clear S a; intro u9 F4 a w hv hF4 S; obtain ⟨cs4, rfl, hV4⟩ := hv; obtain ⟨a4, c4, rfl, hT4, hs4⟩ := vac_slc hV4)
    (refine wpl_storeO S rfl rfl rfl rfl rfl (by rfl) (by simp [Value.cells, Value.oneCell', splice]) (by rfl) ?_; clear S; intro w S)
    (refine wpl_p S rfl rfl rfl ?_; clear S a; intro a S)
    (refine wpList_nil (hKq5 _ _ ?_); try clear hKq5 Kq5)
    refine wp_ret (fin_ret S (results2 Tryz.results25 (RV.cellO S rfl (by rfl)) (RV.tmp S rfl)) ?_)
    (first | (rw [hif, if_pos (by assumption)]; exact ans_no _ _) | (rw [hif, if_neg (by omega), if_pos (by assumption)]; exact ⟨_, rfl, _, rfl, hT4, hs4⟩) | (rw [hif, if_neg (by omega), if_neg (by rw [(by assumption : p0 = false)]; decide)]; exact ⟨_, rfl, _, rfl, hT4, hs4⟩) | (rw [evE_lit (by omega)]; exact ⟨_, rfl, _, rfl, hT4, hs4⟩) | (rw [evE_var (by omega) hfx]; exact ⟨_, rfl, _, rfl, hT8, hs8⟩) | (have hf0 : findB vs eh.nm = none := (by rcases hix with ⟨j, x, h9, -⟩ | ⟨h9, -⟩; omega; exact h9); rw [evE_var0 (by omega) hf0]; exact ans_no _ _) | (exact ⟨_, rfl, _, rfl, hT4, hs4⟩) | trace_state)
  (skip; (try simp only [tq] at h))
  refine wp_sr fun Kq5 hKq5 => ?_
  iterate 2 (refine wpl_p S rfl rfl rfl ?_; clear S a; intro a S)
  (refine wpList_nil (hKq5 _ _ ?_); try clear hKq5 Kq5)
  refine wpc_split S rfl (fun h => ?_) (fun h => ?_)
  · (skip; (try simp only [tq] at h))
    refine wp_sr fun Kq6 hKq6 => ?_
    (refine wpl_p S rfl rfl rfl ?_; clear S a; intro a S)
    (refine wpl_s S rfl rfl rfl ?_; clear S a; intro a S)
    (refine wpl_f S rfl rfl rfl ?_; clear S a; intro a S)
    (refine wpl_v S rfl rfl rfl (sv_loadF S rfl rfl hm1) ?_; clear S a; intro a S)
    (refine wpl_p S rfl rfl rfl ?_; clear S a; intro a S)
    (replace S := St.pullB b3 S; have S' := frz1 S; clear S; obtain ⟨F6, hle6, hb3, S⟩ := S'; have hb3n : Cel F6 b3 (0 + 3) (.string (bs eh.nm)) := ⟨_, _, _, hb3, rfl⟩; replace hvs := hvs.mono hle6; refine wpl_call0 S rfl rfl rfl rfl rfl rfl (ixBCt F6 _ _ _ hvs.sq 60 [] [ptr b3] (atN vs fun x => decide (x.1 = eh.nm)) (fun k cs hk hC => by obtain ⟨f, hf1, hf2⟩ := hC; rw [atN_some hf1]; exact ev1Ct F6 eh.nm b3 hb3n f cs hf2)) rfl ?_; clear S a; intro v a w hv S; subst hv)
    (have hix := find_at vs (fun x => decide (x.1 = eh.nm)); generalize idxN (atN vs fun x => decide (x.1 = eh.nm)) vs.length = ix at S hix)
    (refine wpl_p S rfl rfl rfl ?_; clear S a; intro a S)
    (refine wpList_nil (hKq6 _ _ (wp_seq_k fun Kq7 hKq7 => ?_)); try clear hKq6 Kq6)
    refine wp_sr fun Kq8 hKq8 => ?_
    iterate 2 (refine wpl_p S rfl rfl rfl ?_; clear S a; intro a S)
    (refine wpList_nil (hKq8 _ _ ?_); try clear hKq8 Kq8)
    refine wpc_split S rfl (fun h => ?_) (fun h => ?_)
    · (skip; (try simp only [tq] at h))
      refine wp_sr fun Kq9 hKq9 => ?_
      (refine wpl_b S rfl rfl rfl ?_; clear S a; intro a S)
      (refine wpl_storeO S rfl rfl rfl rfl rfl (by rfl) (by simp [Value.cells, Value.oneCell', splice]) (by rfl) ?_; clear S; intro w S)
      (refine wpl_p S rfl rfl rfl ?_; clear S a; intro a S)
      (refine wpList_nil (hKq9 _ _ ?_); try clear hKq9 Kq9)
      refine wp_ret (fin_ret S (results2 Tryz.results25 (RV.cellO S rfl (by rfl)) (RV.tmp S rfl)) ?_)
      (first | (rw [hif, if_pos (by assumption)]; exact ans_no _ _) | (rw [hif, if_neg (by omega), if_pos (by assumption)]; exact ⟨_, rfl, _, rfl, hT4, hs4⟩) | (rw [hif, if_neg (by omega), if_neg (by rw [(by assumption : p0 = false)]; decide)]; exact ⟨_, rfl, _, rfl, hT4, hs4⟩) | (rw [evE_lit (by omega)]; exact ⟨_, rfl, _, rfl, hT4, hs4⟩) | (rw [evE_var (by omega) hfx]; exact ⟨_, rfl, _, rfl, hT8, hs8⟩) | (have hf0 : findB vs eh.nm = none := (by rcases hix with ⟨j, x, h9, -⟩ | ⟨h9, -⟩; omega; exact h9); rw [evE_var0 (by omega) hf0]; exact ans_no _ _) | (exact ⟨_, rfl, _, rfl, hT4, hs4⟩) | trace_state)
    (skip; (try simp only [tq] at h))
    refine wp_skip ?_
    (refine hKq7 _ _ ?_; try (clear hKq7 Kq7))
    (refine wp_seq_k ?_; intro Kq9 hKq9)
    (have hixs : ∃ (j : Nat) (x : Bd), ix = (j : Int) ∧ j < vs.length ∧ vs[j]? = some x ∧ findB vs eh.nm = some x := (by rcases hix with h9 | ⟨-, h9⟩; exact h9; omega); obtain ⟨j, x, rfl, hj2, hjx, hfx⟩ := hixs; have hvc := hvs; obtain ⟨_, _, e7, hcap7, hpos7⟩ := hvc; cases e7; obtain ⟨b70, o70, rfl, z, cs7, hz, hc7, c7, rfl, hV7⟩ := LiM.pos hpos7 (k := j) (by omega); rw [hjx] at hz; cases hz; have hc8 := hc7.drop 1; have gx := hGB x (List.mem_of_getElem? hjx); obtain ⟨a4, c4, rfl, hT4, hs4⟩ := vac_slc hV7)
    refine wp_region_lit ?_
    (refine wpl_p S rfl rfl rfl ?_; clear S a; intro a S)
    (refine wpl_s S rfl rfl rfl ?_; clear S a; intro a S)
    (refine wpl_f S rfl rfl rfl ?_; clear S a; intro a S)
    (refine wpl_v S rfl rfl rfl (sv_loadF S rfl rfl (hm1.mono hle6)) ?_; clear S a; intro a S)
    (refine wpl_p S rfl rfl rfl ?_; clear S a; intro a S)
    (refine wpl_i S rfl rfl rfl ?_; clear S a; intro a S)
    (refine wpl_f S rfl rfl rfl ?_; clear S a; intro a S)
    (refine wpl_v S rfl rfl rfl (sv_loadAF S rfl rfl hc8 rfl) ?_; clear S a; intro a S)
    (refine wpl_callF S rfl rfl rfl rfl rfl rfl (ownVCt x.2.2.size F6 x.2.1 x.2.2 _ (Nat.le_refl _) (Nat.le_trans gx.2.2 (by decide)) hV7) rfl ?_; clear S a; intro u9 F7 a w hv hF7 S; obtain ⟨cs7, rfl, hV8⟩ := hv; obtain ⟨a8, c8, rfl, hT8, hs8⟩ := vac_slc hV8)
    (refine wpl_storeO S rfl rfl rfl rfl rfl (by rfl) (by simp [Value.cells, Value.oneCell', splice]) (by rfl) ?_; clear S; intro w S)
    (refine wpl_p S rfl rfl rfl ?_; clear S a; intro a S)
    (refine wpList_nil (hKq9 _ _ ?_); try clear hKq9 Kq9)
    refine wp_ret (fin_ret S (results2 Tryz.results25 (RV.cellO S rfl (by rfl)) (RV.tmp S rfl)) ?_)
    (first | (rw [hif, if_pos (by assumption)]; exact ans_no _ _) | (rw [hif, if_neg (by omega), if_pos (by assumption)]; exact ⟨_, rfl, _, rfl, hT4, hs4⟩) | (rw [hif, if_neg (by omega), if_neg (by rw [(by assumption : p0 = false)]; decide)]; exact ⟨_, rfl, _, rfl, hT4, hs4⟩) | (rw [evE_lit (by omega)]; exact ⟨_, rfl, _, rfl, hT4, hs4⟩) | (rw [evE_var (by omega) hfx]; exact ⟨_, rfl, _, rfl, hT8, hs8⟩) | (have hf0 : findB vs eh.nm = none := (by rcases hix with ⟨j, x, h9, -⟩ | ⟨h9, -⟩; omega; exact h9); rw [evE_var0 (by omega) hf0]; exact ans_no _ _) | (exact ⟨_, rfl, _, rfl, hT4, hs4⟩) | trace_state)
  (skip; (try simp only [tq] at h))
  (refine wp_seq_k ?_; intro Kq6 hKq6)
  replace hKq6 : ∀ (a' : Act) (w' : World), (∃ t : Bool, t = decide (eh.k = 4 ∨ eh.k = 5) ∧ St 90 [(0, ptr bm), (3, ptr b3), (4, ptr b4), (5, .int .i64 0), (10, .int .u8 (eh.k : Int)), (36, .bool t)] w0 F [] F [[(b4, .cells ⟨[.int .u8 0, .int .i64 0, .string (bs []), .slice none 0 0]⟩ 26 (0, 0))], [(b3, .cells ⟨[.int .u8 (eh.k : Int), .int .i64 eh.l, .int .i64 eh.c, .string (bs eh.nm), .int .u8 (eh.v.k : Int), .int .i64 eh.v.n, .string (bs eh.v.s), .slice a1 n1 c1, .slice ao L.len cap]⟩ 34 (0, 0))]] a' w') → Kq6 a' w' := (by
   (intro a w hM; refine hKq6 _ _ ?_; clear hKq6 Kq6; clear S; obtain ⟨t, rfl, S⟩ := hM)
   refine wpc_split S rfl (fun h => ?_) (fun h => ?_)
   · (skip; (try simp only [tq] at h))
     refine wp_sr fun Kq7 hKq7 => ?_
     (refine wpl_p S rfl rfl rfl ?_; clear S a; intro a S)
     (refine wpl_l S rfl rfl rfl ?_; clear S a; intro a S)
     (refine wpl_callF S rfl rfl rfl rfl rfl rfl (wholeCt hE F bm cs vs eh L _ (by omega) hMc hXc hg (hff (by omega) (by omega)).2 (by omega)) rfl ?_; clear S a; intro u9 F4 a w hv hF4 S; obtain ⟨cs4, rfl, hV4⟩ := hv; obtain ⟨a4, c4, rfl, hT4, hs4⟩ := vac_slc hV4)
     iterate 2 (refine wpl_p S rfl rfl rfl ?_; clear S a; intro a S)
     (refine wpl_storeO S rfl rfl rfl rfl rfl (by rfl) (by simp [Value.cells, Value.oneCell', splice]) (by rfl) ?_; clear S; intro w S)
     (refine wpl_p S rfl rfl rfl ?_; clear S a; intro a S)
     (refine wpList_nil (hKq7 _ _ ?_); try clear hKq7 Kq7)
     refine wp_ret (fin_ret S (results2 Tryz.results25 (RV.cellO S rfl (by rfl)) (RV.tmp S rfl)) ?_)
     (first | (rw [hif, if_pos (by assumption)]; exact ans_no _ _) | (rw [hif, if_neg (by omega), if_pos (by assumption)]; exact ⟨_, rfl, _, rfl, hT4, hs4⟩) | (rw [hif, if_neg (by omega), if_neg (by rw [(by assumption : p0 = false)]; decide)]; exact ⟨_, rfl, _, rfl, hT4, hs4⟩) | (rw [evE_lit (by omega)]; exact ⟨_, rfl, _, rfl, hT4, hs4⟩) | (rw [evE_var (by omega) hfx]; exact ⟨_, rfl, _, rfl, hT8, hs8⟩) | (have hf0 : findB vs eh.nm = none := (by rcases hix with ⟨j, x, h9, -⟩ | ⟨h9, -⟩; omega; exact h9); rw [evE_var0 (by omega) hf0]; exact ans_no _ _) | (exact ⟨_, rfl, _, rfl, hT4, hs4⟩) | trace_state)
   (skip; (try simp only [tq] at h))
   refine wp_sr fun Kq7 hKq7 => ?_
   iterate 2 (refine wpl_p S rfl rfl rfl ?_; clear S a; intro a S)
   (refine wpList_nil (hKq7 _ _ ?_); try clear hKq7 Kq7)
   refine wpc_split S rfl (fun h => ?_) (fun h => ?_)
   · (skip; (try simp only [tq] at h))
     refine wp_sr fun Kq8 hKq8 => ?_
     (refine wpl_p S rfl rfl rfl ?_; clear S a; intro a S)
     (refine wpl_l S rfl rfl rfl ?_; clear S a; intro a S)
     (refine wpl_callF S rfl rfl rfl rfl rfl rfl (fieldCt hE F bm cs vs eh L _ (by omega) hMc hXc hg (hff (by omega) (by omega)).2 (by omega) (by have h9 := (hff (by omega) (by omega)).1; unfold formK at h9; rw [if_neg (by omega), if_neg (by omega), if_pos (by omega)] at h9; exact of_decide_eq_true h9)) rfl ?_; clear S a; intro u9 F4 a w hv hF4 S; obtain ⟨cs4, rfl, hV4⟩ := hv; obtain ⟨a4, c4, rfl, hT4, hs4⟩ := vac_slc hV4)
     iterate 2 (refine wpl_p S rfl rfl rfl ?_; clear S a; intro a S)
     (refine wpl_storeO S rfl rfl rfl rfl rfl (by rfl) (by simp [Value.cells, Value.oneCell', splice]) (by rfl) ?_; clear S; intro w S)
     (refine wpl_p S rfl rfl rfl ?_; clear S a; intro a S)
     (refine wpList_nil (hKq8 _ _ ?_); try clear hKq8 Kq8)
     refine wp_ret (fin_ret S (results2 Tryz.results25 (RV.cellO S rfl (by rfl)) (RV.tmp S rfl)) ?_)
     (first | (rw [hif, if_pos (by assumption)]; exact ans_no _ _) | (rw [hif, if_neg (by omega), if_pos (by assumption)]; exact ⟨_, rfl, _, rfl, hT4, hs4⟩) | (rw [hif, if_neg (by omega), if_neg (by rw [(by assumption : p0 = false)]; decide)]; exact ⟨_, rfl, _, rfl, hT4, hs4⟩) | (rw [evE_lit (by omega)]; exact ⟨_, rfl, _, rfl, hT4, hs4⟩) | (rw [evE_var (by omega) hfx]; exact ⟨_, rfl, _, rfl, hT8, hs8⟩) | (have hf0 : findB vs eh.nm = none := (by rcases hix with ⟨j, x, h9, -⟩ | ⟨h9, -⟩; omega; exact h9); rw [evE_var0 (by omega) hf0]; exact ans_no _ _) | (exact ⟨_, rfl, _, rfl, hT4, hs4⟩) | trace_state)
   (skip; (try simp only [tq] at h))
   refine wp_sr fun Kq8 hKq8 => ?_
   iterate 2 (refine wpl_p S rfl rfl rfl ?_; clear S a; intro a S)
   (refine wpList_nil (hKq8 _ _ ?_); try clear hKq8 Kq8)
   refine wpc_split S rfl (fun h => ?_) (fun h => ?_)
   · (skip; (try simp only [tq] at h))
     (refine wp_seq_k ?_; intro Kq9 hKq9)
     (have hk8 : eh.k = 8 := (by omega); have hl3 : L.len = 3 := (by have h9 := (hff (by omega) (by omega)).1; unfold formK at h9; rw [if_neg (by omega), if_neg (by omega), if_neg (by omega), if_pos hk8] at h9; exact of_decide_eq_true h9); have hfl := (hff (by omega) (by omega)).2; obtain ⟨b80, o80, rfl, x, cs1, v1, hx, hc1, hR1, hT1⟩ := TrM.pos hpos (k := 0) (by omega); have hxs := Rose.size_get hx; have hX1 := exc_of hR1 hT1; obtain ⟨b81, o81, e81, y, cs2, v2, hy, hc2, hR2, hT2⟩ := TrM.pos hpos (k := 1) (by omega); cases e81; have hys := Rose.size_get hy; have hX2 := exc_of hR2 hT2; obtain ⟨b82, o82, e82, z, cs3, v3, hz, hc3, hR3, hT3⟩ := TrM.pos hpos (k := 2) (by omega); cases e82; have hzs := Rose.size_get hz; have hX3 := exc_of hR3 hT3; have hcx := mtruthCt hE F bm cs vs x.1 x.2 _ (by omega) hMc hX1 (GEl.get hg.2.2 hx) (formEL_get hfl hx); have hcy := fun F' hF => hE F' bm cs vs y.1 y.2 _ (by omega) (hMc.mono hF) (hX2.mono hF) (GEl.get hg.2.2 hy) (formEL_get hfl hy); have hcz := fun F' hF => hE F' bm cs vs z.1 z.2 _ (by omega) (hMc.mono hF) (hX3.mono hF) (GEl.get hg.2.2 hz) (formEL_get hfl hz); obtain ⟨a5, n5, c5, ao5, cap5, he5, -, -⟩ := exc_slc hX1; obtain ⟨a6, n6, c6, ao6, cap6, he6, -, -⟩ := exc_slc hX2; obtain ⟨a7, n7, c7, ao7, cap7, he7, -, -⟩ := exc_slc hX3; rw [he5] at hc1 hcx; rw [he6] at hc2 hcy; rw [he7] at hc3 hcz; have hif := evE_if (cs := cs) (vs := vs) hk8 hx hy hz; generalize truthO (evE cs vs x.1 x.2) = T0 at hcx hif; obtain ⟨p0, e0⟩ := T0; dsimp only at hcx hif)
     refine wp_region_lit ?_
     (refine wpl_p S rfl rfl rfl ?_; clear S a; intro a S)
     (refine wpl_f S rfl rfl rfl ?_; clear S a; intro a S)
     (refine wpl_l S rfl rfl rfl ?_; clear S a; intro a S)
     (refine wpl_i S rfl rfl rfl ?_; clear S a; intro a S)
     (refine wpl_l S rfl rfl rfl ?_; clear S a; intro a S)
     (refine wpl_callF S rfl rfl rfl rfl rfl rfl hcx rfl ?_; clear S a; intro u8 F5 a w hv hF5 S; subst hv)
     iterate 5 (refine wpl_p S rfl rfl rfl ?_; clear S a; intro a S)
     (refine wpList_nil (hKq9 _ _ (wp_seq_k fun Kq10 hKq10 => ?_)); try clear hKq9 Kq9)
     refine wp_block ?_
     refine wp_sr fun Kq11 hKq11 => ?_
     iterate 3 (refine wpl_p S rfl rfl rfl ?_; clear S a; intro a S)
     (refine wpList_nil (hKq11 _ _ ?_); try clear hKq11 Kq11)
     refine wpc_split S rfl (fun h => ?_) (fun h => ?_)
     · (skip; (try simp only [tq] at h))
       refine wp_sr fun Kq12 hKq12 => ?_
       (refine wpl_b S rfl rfl rfl ?_; clear S a; intro a S)
       (refine wpl_p S rfl rfl rfl ?_; clear S a; intro a S)
       (refine wpl_storeO S rfl rfl rfl rfl rfl (by rfl) (by simp [Value.cells, Value.oneCell', splice]) (by rfl) ?_; clear S; intro w S)
       (refine wpl_p S rfl rfl rfl ?_; clear S a; intro a S)
       (refine wpList_nil (hKq12 _ _ ?_); try clear hKq12 Kq12)
       refine wp_ret (fin_ret S (results2 Tryz.results25 (RV.cellO S rfl (by rfl)) (RV.tmp S rfl)) ?_)
       (first | (rw [hif, if_pos (by assumption)]; exact ans_no _ _) | (rw [hif, if_neg (by omega), if_pos (by assumption)]; exact ⟨_, rfl, _, rfl, hT4, hs4⟩) | (rw [hif, if_neg (by omega), if_neg (by rw [(by assumption : p0 = false)]; decide)]; exact ⟨_, rfl, _, rfl, hT4, hs4⟩) | (rw [evE_lit (by omega)]; exact ⟨_, rfl, _, rfl, hT4, hs4⟩) | (rw [evE_var (by omega) hfx]; exact ⟨_, rfl, _, rfl, hT8, hs8⟩) | (have hf0 : findB vs eh.nm = none := (by rcases hix with ⟨j, x, h9, -⟩ | ⟨h9, -⟩; omega; exact h9); rw [evE_var0 (by omega) hf0]; exact ans_no _ _) | (exact ⟨_, rfl, _, rfl, hT4, hs4⟩) | trace_state)
     (skip; (try simp only [tq] at h))
     refine wp_sr fun Kq12 hKq12 => ?_
     iterate 2 (refine wpl_p S rfl rfl rfl ?_; clear S a; intro a S)
     (refine wpList_nil (hKq12 _ _ ?_); try clear hKq12 Kq12)
     refine wpc_split S rfl (fun h => ?_) (fun h => ?_)
     · (skip; (try simp only [tq] at h))
       refine wp_sr fun Kq13 hKq13 => ?_
       (refine wpl_p S rfl rfl rfl ?_; clear S a; intro a S)
       (refine wpl_f S rfl rfl rfl ?_; clear S a; intro a S)
       (refine wpl_l S rfl rfl rfl ?_; clear S a; intro a S)
       (refine wpl_i S rfl rfl rfl ?_; clear S a; intro a S)
       (refine wpl_v S rfl rfl rfl (sv_loadAF S rfl rfl (Cels.mono hF5 hc2) rfl) ?_; clear S a; intro a S)
       (refine wpl_callF S rfl rfl rfl rfl rfl rfl (hcy F5 hF5) rfl ?_; clear S a; intro u9 F4 a w hv hF4 S; obtain ⟨cs4, rfl, hV4⟩ := hv; obtain ⟨a4, c4, rfl, hT4, hs4⟩ := vac_slc hV4)
       iterate 2 (refine wpl_p S rfl rfl rfl ?_; clear S a; intro a S)
       (refine wpl_storeO S rfl rfl rfl rfl rfl (by rfl) (by simp [Value.cells, Value.oneCell', splice]) (by rfl) ?_; clear S; intro w S)
       (refine wpl_p S rfl rfl rfl ?_; clear S a; intro a S)
       (refine wpList_nil (hKq13 _ _ ?_); try clear hKq13 Kq13)
       refine wp_ret (fin_ret S (results2 Tryz.results25 (RV.cellO S rfl (by rfl)) (RV.tmp S rfl)) ?_)
       (first | (rw [hif, if_pos (by assumption)]; exact ans_no _ _) | (rw [hif, if_neg (by omega), if_pos (by assumption)]; exact ⟨_, rfl, _, rfl, hT4, hs4⟩) | (rw [hif, if_neg (by omega), if_neg (by rw [(by assumption : p0 = false)]; decide)]; exact ⟨_, rfl, _, rfl, hT4, hs4⟩) | (rw [evE_lit (by omega)]; exact ⟨_, rfl, _, rfl, hT4, hs4⟩) | (rw [evE_var (by omega) hfx]; exact ⟨_, rfl, _, rfl, hT8, hs8⟩) | (have hf0 : findB vs eh.nm = none := (by rcases hix with ⟨j, x, h9, -⟩ | ⟨h9, -⟩; omega; exact h9); rw [evE_var0 (by omega) hf0]; exact ans_no _ _) | (exact ⟨_, rfl, _, rfl, hT4, hs4⟩) | trace_state)
     (skip; (try simp only [tq] at h))
     refine wp_skip ?_
     (refine hKq10 _ _ ?_; try (clear hKq10 Kq10))
     refine wp_sr fun Kq13 hKq13 => ?_
     (refine wpl_p S rfl rfl rfl ?_; clear S a; intro a S)
     (refine wpl_f S rfl rfl rfl ?_; clear S a; intro a S)
     (refine wpl_l S rfl rfl rfl ?_; clear S a; intro a S)
     (refine wpl_i S rfl rfl rfl ?_; clear S a; intro a S)
     (refine wpl_v S rfl rfl rfl (sv_loadAF S rfl rfl (Cels.mono hF5 hc3) rfl) ?_; clear S a; intro a S)
     (refine wpl_callF S rfl rfl rfl rfl rfl rfl (hcz F5 hF5) rfl ?_; clear S a; intro u9 F4 a w hv hF4 S; obtain ⟨cs4, rfl, hV4⟩ := hv; obtain ⟨a4, c4, rfl, hT4, hs4⟩ := vac_slc hV4)
     iterate 2 (refine wpl_p S rfl rfl rfl ?_; clear S a; intro a S)
     (refine wpl_storeO S rfl rfl rfl rfl rfl (by rfl) (by simp [Value.cells, Value.oneCell', splice]) (by rfl) ?_; clear S; intro w S)
     (refine wpl_p S rfl rfl rfl ?_; clear S a; intro a S)
     (refine wpList_nil (hKq13 _ _ ?_); try clear hKq13 Kq13)
     refine wp_ret (fin_ret S (results2 Tryz.results25 (RV.cellO S rfl (by rfl)) (RV.tmp S rfl)) ?_)
     (first | (rw [hif, if_pos (by assumption)]; exact ans_no _ _) | (rw [hif, if_neg (by omega), if_pos (by assumption)]; exact ⟨_, rfl, _, rfl, hT4, hs4⟩) | (rw [hif, if_neg (by omega), if_neg (by rw [(by assumption : p0 = false)]; decide)]; exact ⟨_, rfl, _, rfl, hT4, hs4⟩) | (rw [evE_lit (by omega)]; exact ⟨_, rfl, _, rfl, hT4, hs4⟩) | (rw [evE_var (by omega) hfx]; exact ⟨_, rfl, _, rfl, hT8, hs8⟩) | (have hf0 : findB vs eh.nm = none := (by rcases hix with ⟨j, x, h9, -⟩ | ⟨h9, -⟩; omega; exact h9); rw [evE_var0 (by omega) hf0]; exact ans_no _ _) | (exact ⟨_, rfl, _, rfl, hT4, hs4⟩) | trace_state)
   (skip; (try simp only [tq] at h))
   refine wp_skip ?_
   (refine hKq2 _ _ ?_; try (clear hKq2 Kq2))
   refine wp_sr fun Kq9 hKq9 => ?_
   (refine wpl_p S rfl rfl rfl ?_; clear S a; intro a S)
   (refine wpl_l S rfl rfl rfl ?_; clear S a; intro a S)
   (refine wpl_callF S rfl rfl rfl rfl rfl rfl (callCt hE F bm cs vs eh L _ (by omega) hMc hXc hg (hff (by omega) (by omega)).2 (by have h9 := hkk (by omega) (by omega); omega) (hff (by omega) (by omega)).1) rfl ?_; clear S a; intro u9 F4 a w hv hF4 S; obtain ⟨cs4, rfl, hV4⟩ := hv; obtain ⟨a4, c4, rfl, hT4, hs4⟩ := vac_slc hV4)
   iterate 2 (refine wpl_p S rfl rfl rfl ?_; clear S a; intro a S)
   (refine wpl_storeO S rfl rfl rfl rfl rfl (by rfl) (by simp [Value.cells, Value.oneCell', splice]) (by rfl) ?_; clear S; intro w S)
   (refine wpl_p S rfl rfl rfl ?_; clear S a; intro a S)
   (refine wpList_nil (hKq9 _ _ ?_); try clear hKq9 Kq9)
   refine wp_ret (fin_ret S (results2 Tryz.results25 (RV.cellO S rfl (by rfl)) (RV.tmp S rfl)) ?_)
   (first | (rw [hif, if_pos (by assumption)]; exact ans_no _ _) | (rw [hif, if_neg (by omega), if_pos (by assumption)]; exact ⟨_, rfl, _, rfl, hT4, hs4⟩) | (rw [hif, if_neg (by omega), if_neg (by rw [(by assumption : p0 = false)]; decide)]; exact ⟨_, rfl, _, rfl, hT4, hs4⟩) | (rw [evE_lit (by omega)]; exact ⟨_, rfl, _, rfl, hT4, hs4⟩) | (rw [evE_var (by omega) hfx]; exact ⟨_, rfl, _, rfl, hT8, hs8⟩) | (have hf0 : findB vs eh.nm = none := (by rcases hix with ⟨j, x, h9, -⟩ | ⟨h9, -⟩; omega; exact h9); rw [evE_var0 (by omega) hf0]; exact ans_no _ _) | (exact ⟨_, rfl, _, rfl, hT4, hs4⟩) | trace_state))
  refine wp_sr fun Kq10 hKq10 => ?_
  iterate 2 (refine wpl_p S rfl rfl rfl ?_; clear S a; intro a S)
  (refine wpList_nil (hKq10 _ _ ?_); try clear hKq10 Kq10)
  refine wpc_split S rfl (fun h => ?_) (fun h => ?_)
  · (skip; (try simp only [tq] at h))
    refine wp_skip ?_
    (refine hKq6 _ _ ?_)
    (apply Exists.intro; apply And.intro; rotate_left 1; (refine S.keep ?_; repeat (first | exact trivial | refine ⟨rfl, ?_⟩)); (rw [Bool.eq_iff_iff, beq_iff_eq, decide_eq_true_eq]; omega))
  (skip; (try simp only [tq] at h))
  refine wp_region_lit ?_
  iterate 2 (refine wpl_p S rfl rfl rfl ?_; clear S a; intro a S)
  refine wpList_nil ?_
  (refine hKq6 _ _ ?_)
  (apply Exists.intro; apply And.intro; rotate_left 1; (refine S.keep ?_; repeat (first | exact trivial | refine ⟨rfl, ?_⟩)); (rw [Bool.eq_iff_iff, beq_iff_eq, decide_eq_true_eq]; omega))
end Go.Proofs.YtigblodhdfnleaaGreatDoor
namespace Go.Proofs.YtigblodhdfnleaaGreatDoor
open Go Go.Wk Go.Un Go.De Go.Num
set_option linter.unusedSimpArgs false
set_option linter.unusedVariables false
attribute [local irreducible] Go.wpList Go.Code.wp Go.wpStill Go.Wk.wpPre Go.bodyPost Go.Calls Go.Wk.Ct Go.Wk.OwnS
attribute [local irreducible] Go.Wk.wpG Go.Wk.wpM

/-! ### plain -/
def Zs (a : Ans) : Prop := a.1 ≠ 0 → a.2 = zV
theorem Zs_no (e : Int) : Zs (noA e) := fun _ => rfl
theorem Zs_yes (v : Vv) : Zs (yesA v) := fun h => absurd rfl h
theorem Zs_if {p : Prop} [Decidable p] {a b : Ans} (ha : Zs a) (hb : Zs b) : Zs (if p then a else b) := by
  by_cases hp : p
  · rw [if_pos hp]; exact ha
  · rw [if_neg hp]; exact hb
theorem Zs_nth : ∀ {l : List Ans} (k : Nat), (∀ a ∈ l, Zs a) → Zs (nthA l k)
  | [], _, _ => Zs_no 0
  | a :: r, 0, h => h a (List.mem_cons_self ..)
  | a :: r, k + 1, h => Zs_nth (l := r) k fun b hb => h b (List.mem_cons_of_mem _ hb)
theorem Zs_op2 {s : List UInt8} {f : Vv → Vv → Ans} (h : op2 s = some f) (x y : Vv) : Zs (f x y) := by
  unfold op2 at h
  rw [Option.map_eq_some_iff] at h
  obtain ⟨p, h1, rfl⟩ := h
  have h2 := List.mem_of_find?_eq_some h1
  unfold ops2 at h2
  simp only [List.mem_cons, List.not_mem_nil, or_false] at h2
  rcases h2 with rfl | rfl | rfl | rfl | rfl | rfl | rfl | rfl | rfl | rfl | rfl | rfl
  all_goals first
    | exact Zs_if (Zs_if (Zs_no _) (Zs_yes _)) (Zs_if (Zs_if (Zs_no _) (Zs_yes _)) (Zs_no _))
    | exact Zs_if (Zs_no _) (Zs_if (Zs_no _) (Zs_yes _))
    | exact Zs_yes _
theorem Zs_op1 (s : List UInt8) (x : Vv) : Zs (op1 s x) :=
  Zs_if (Zs_yes _) (Zs_if (Zs_if (Zs_yes _) (Zs_no _)) (Zs_if (Zs_yes _) (Zs_if (Zs_yes _) (Zs_if (Zs_yes _) (Zs_if (Zs_if (Zs_yes _) (Zs_no _)) (Zs_no _))))))
theorem Zs_parts (q : VH) (l : List Ans) : Zs (partsO q l) := Zs_if (Zs_no _) (Zs_if (Zs_no _) (Zs_if (Zs_no _) (Zs_yes _)))
theorem Zs_field (cs : List KC) (nm : List UInt8) (v : Vv) : Zs (fieldO cs nm v) := by
  unfold fieldO
  refine Zs_if (Zs_no _) ?_
  split
  · exact Zs_no _
  · refine Zs_if (Zs_no _) ?_
    split
    · exact Zs_no _
    · split
      · exact Zs_no _
      · exact Zs_yes _
theorem Zs_evK {cs : List KC} {vs : List Bd} {h : EH} {l : List Ans} (hl : ∀ a ∈ l, Zs a) : Zs (evK cs vs h l) := by
  unfold evK
  refine Zs_if (Zs_yes _) (Zs_if ?_ (Zs_if (Zs_parts _ _) (Zs_if ?_ (Zs_if (Zs_if (Zs_no _) (Zs_field _ _ _)) (Zs_if (Zs_if (Zs_no _) (Zs_if (Zs_nth _ hl) (Zs_nth _ hl))) (Zs_if (Zs_if (Zs_if (Zs_no _) (Zs_yes _)) (Zs_if (Zs_no _) (Zs_yes _))) (Zs_if (Zs_no _) ?_)))))))
  · split
    · exact Zs_no _
    · exact Zs_yes _
  · split
    · exact Zs_no _
    · exact Zs_if (Zs_no _) (Zs_parts _ _)
  · split
    · exact Zs_op1 _ _
    · split
      · rename_i f ho; exact Zs_op2 ho _ _
      · exact Zs_no _
    · exact Zs_no _
theorem Zs_evL {cs : List KC} {vs : List Bd} : ∀ (L : Ef), ∀ a ∈ evL cs vs L, Zs a
  | .nil, a, ha => by cases ha
  | .cons h L r, a, ha => by
    rcases List.mem_cons.1 ha with rfl | ha
    · exact Zs_evK (Zs_evL L)
    · exact Zs_evL r a ha
theorem evE_no {cs : List KC} {vs : List Bd} {h : EH} {L : Ef} (he : (evE cs vs h L).1 ≠ 0) : evE cs vs h L = noA (evE cs vs h L).1 := by
  have := Zs_evK (cs := cs) (vs := vs) (h := h) (Zs_evL L) he
  exact Prod.ext rfl this
def atR {α : Type} (l : Rose α) (q : α → Rose α → Bool) (k : Nat) : Bool := match l.get? k with | some x => q x.1 x.2 | none => false
theorem atR_some {α : Type} {l : Rose α} {q : α → Rose α → Bool} {k : Nat} {x : α × Rose α} (h : l.get? k = some x) : atR l q k = q x.1 x.2 := by unfold atR; rw [h]
theorem deepL_any (d : Int) : ∀ L : Ef, deepL L d = anyR (fun _ L' => deepE L' d) L
  | .nil => rfl
  | .cons h L r => by
    show ((decide (64 < d) || deepL L (d + 1)) || deepL r d) = (deepE L d || anyR (fun _ L' => deepE L' d) r)
    rw [deepL_any d r]; rfl
theorem formEL_any : ∀ L : Ef, formEL L = !anyR (fun h L' => !formE h L') L
  | .nil => rfl
  | .cons h L r => by
    show (formE h L && formEL r) = !(!formE h L || anyR (fun h L' => !formE h L') r)
    rw [formEL_any r]
    cases formE h L <;> simp
/-! ### walks -/
def DpC (n : Nat) : Prop := ∀ (F : Heap) (h : EH) (L : Ef) (xs : List Value) (d : Int), L.size < n → ExC F xs h L → 0 ≤ d → d ≤ 65 → Ct Tryz.prog 20 [.agg ⟨xs⟩, .int .i64 d] F [] (fun _ _ u => u = .bool (deepE L d))
theorem deep1Ct {n : Nat} (hD : DpC n) (F : Heap) (b : Nat) (d : Int) (h : EH) (L : Ef) (xs : List Value) (hb : Cel F b 0 (.int .i64 d)) (h0 : 0 ≤ d) (h1 : d ≤ 64) (hn : L.size < n) (hX : ExC F xs h L) : Ct Tryz.prog 54 ([] ++ [.agg ⟨xs⟩] ++ [ptr b]) F [] (fun _ _ u => u = .bool (deepE L (d + 1))) := by
  have hc := hD F h L xs (d + 1) hn hX (by omega) (by omega)
  obtain ⟨a1, n1, c1, ao, cap, rfl, -, -⟩ := exc_slc hX
  refine Ct.enter Tryz.func54 rfl Tryz.ntmps54 rfl fun w0 a S => ?_
  refine wp_sr fun Kq1 hKq1 => ?_
  (refine wpl_box S rfl rfl rfl rfl rfl ?_; clear S a; intro b2 a w S)
  (refine wpl_p S rfl rfl rfl ?_; clear S a; intro a S)
  (refine wpList_nil (hKq1 _ _ (wp_sr fun Kq2 hKq2 => ?_)); try clear hKq1 Kq1)
  (refine wpl_l S rfl rfl rfl ?_; clear S a; intro a S)
  (refine wpl_v S rfl rfl rfl (sv_loadF S rfl rfl hb) ?_; clear S a; intro a S)
  (refine wpl_a S rfl rfl rfl ?_; clear S a; intro a S)
  (refine wpl_call0 S rfl rfl rfl rfl rfl rfl (hc) rfl ?_; clear S a; intro v a w hv S; subst hv)
  (refine wpl_p S rfl rfl rfl ?_; clear S a; intro a S)
  (refine wpList_nil (hKq2 _ _ ?_); try clear hKq2 Kq2)
  exact wp_ret (fin_ret S (results1 Tryz.results54 (RV.tmp S rfl)) rfl)
set_option maxHeartbeats 8000000 in
theorem deepCt : ∀ n, DpC n := by
  intro n
  induction n with
  | zero => intro F h L xs d hn; omega
  | succ n ih =>
  intro F eh L xs d hn hX h0 h1
  obtain ⟨a1, n1, c1, ao, cap, rfl, -, hL⟩ := exc_slc hX
  refine Ct.enter Tryz.func20 rfl Tryz.ntmps20 rfl fun w0 a S => ?_
  refine wp_sr fun Kq1 hKq1 => ?_
  (refine wpl_box S rfl rfl rfl rfl rfl ?_; clear S a; intro b2 a w S)
  (refine wpl_box S rfl rfl rfl rfl rfl ?_; clear S a; intro b3 a w S)
  (refine wpl_p S rfl rfl rfl ?_; clear S a; intro a S)
  (refine wpList_nil (hKq1 _ _ (wp_sr fun Kq2 hKq2 => ?_)); try clear hKq1 Kq1)
  (refine wpl_l S rfl rfl rfl ?_; clear S a; intro a S)
  iterate 2 (refine wpl_p S rfl rfl rfl ?_; clear S a; intro a S)
  refine wpl_guard S rfl rfl rfl rfl rfl ?_ ?_
  · (intro h S'; clear S; have S := S'; clear S'; (try simp only [tq] at h))
    (refine wpl_f S rfl rfl rfl ?_; clear S a; intro a S)
    refine wpl_take S rfl rfl rfl ?_
    (refine wpl_l S rfl rfl rfl ?_; clear S a; intro a S)
    refine wpl_take S rfl rfl rfl ?_
    (refine wpl_p S rfl rfl rfl ?_; clear S a; intro a S)
    refine wpl_take S rfl rfl rfl ?_
    (have hd64 : d ≤ 64 := (by omega); replace S := St.pullB b3 S; have S' := frz1 S; clear S; obtain ⟨F6, hle6, hb3, S⟩ := S'; have hb3n : Cel F6 b3 0 (.int .i64 d) := ⟨_, _, _, hb3, rfl⟩; replace hL := hL.mono hle6; refine wpl_call0 S rfl rfl rfl rfl rfl rfl (cfECt F6 _ _ _ hL.sq 54 [] [ptr b3] (atR L fun _ L' => deepE L' (d + 1)) (fun k cs hk hC => by obtain ⟨x, c1, u, hx, rfl, hR, hT⟩ := hC; rw [atR_some hx]; have hxs := Rose.size_get hx; exact deep1Ct ih F6 b3 d x.1 x.2 _ hb3n h0 hd64 (by omega) (exc_of hR hT))) rfl ?_; clear S a; intro v a w hv S; subst hv)
    iterate 2 (refine wpl_p S rfl rfl rfl ?_; clear S a; intro a S)
    (refine wpList_nil (hKq2 _ _ ?_); try clear hKq2 Kq2)
    refine wp_ret (fin_ret S (results1 Tryz.results20 (RV.tmp S rfl)) ?_)
    (congr 1; show _ = (decide (64 < d) || deepL L (d + 1)); first | (rw [decide_eq_true (by omega)]; rfl) | (rw [decide_eq_false (by omega), Bool.false_or, deepL_any]; exact anyN_rose (fun k x hx => atR_some hx)) | trace_state)
  (intro h; clear S a; intro a S; (try simp only [tq] at h))
  iterate 3 (refine wpl_skip S rfl rfl rfl rfl rfl ?_; clear S a; intro a S)
  iterate 2 (refine wpl_p S rfl rfl rfl ?_; clear S a; intro a S)
  (refine wpList_nil (hKq2 _ _ ?_); try clear hKq2 Kq2)
  refine wp_ret (fin_ret S (results1 Tryz.results20 (RV.tmp S rfl)) ?_)
  (congr 1; show _ = (decide (64 < d) || deepL L (d + 1)); first | (rw [decide_eq_true (by omega)]; rfl) | (rw [decide_eq_false (by omega), Bool.false_or, deepL_any]; exact anyN_rose (fun k x hx => atR_some hx)) | trace_state)
/-- Is a text one of a list? -/
theorem indexS2Ct (F : Heap) (l : List (List UInt8)) (s : List UInt8) (v : Value) (h : LiM F 1 StR v l) : Ct Tryz.prog 82 [v, .string (bs s)] F [] (fun _ _ u => u = .int .i64 (idxN (atN l fun x => decide (s = x)) l.length)) := by
  obtain ⟨ao, cap, rfl, hcap, hpos⟩ := h
  refine Ct.enter Tryz.func82 rfl Tryz.ntmps82 rfl fun w0 a S => ?_
  refine wp_sr fun Kq1 hKq1 => ?_
  (refine wpl_p S rfl rfl rfl ?_; clear S a; intro a S)
  (refine wpList_nil (hKq1 _ _ (wp_seq_k fun Kq2 hKq2 => ?_)); try clear hKq1 Kq1)
  refine wp_sr fun Kq3 hKq3 => ?_
  (refine wpl_p S rfl rfl rfl ?_; clear S a; intro a S)
  (refine wpl_n S rfl rfl rfl ?_; clear S a; intro a S)
  (refine wpl_p S rfl rfl rfl ?_; clear S a; intro a S)
  (refine wpList_nil (hKq3 _ _ ?_); try clear hKq3 Kq3)
  refine wp_block ?_
  refine wpc_loop (fun m a w' => ∃ (k : Nat), m = l.length - k ∧ k ≤ l.length ∧ idxN (atN l fun x => decide (s = x)) l.length = idxF (atN l fun x => decide (s = x)) k (l.length - k) ∧ St 19 [(0, .slice ao l.length cap), (1, .string (bs s)), (7, .int .i64 l.length), (8, .int .i64 k)] w0 F [] F [] a w') ?_ ?_
  · (refine ⟨l.length, 0, by omega, Nat.zero_le _, rfl, ?_⟩; refine S.keep ?_; repeat (first | exact trivial | refine ⟨rfl, ?_⟩))
  (clear S; rintro m a w ⟨k, rfl, hkl, hfp, S⟩)
  refine wp_sr fun Kq4 hKq4 => ?_
  (refine wpl_p S rfl rfl rfl ?_; clear S a; intro a S)
  (refine wpList_nil (hKq4 _ _ (wp_seq_k fun Kq5 hKq5 => ?_)); try clear hKq4 Kq4)
  refine wpc_split S rfl (fun h => ?_) (fun h => ?_)
  · (skip; (try simp only [tq] at h))
    refine wp_skip ?_
    (refine hKq5 _ _ ?_; try (clear hKq5 Kq5))
    (refine wp_seq_k ?_; intro Kq6 hKq6)
    refine wp_block ?_
    refine wp_sr fun Kq7 hKq7 => ?_
    iterate 2 (refine wpl_p S rfl rfl rfl ?_; clear S a; intro a S)
    (refine wpList_nil (hKq7 _ _ (wp_seq_k fun Kq8 hKq8 => ?_)); try clear hKq7 Kq7)
    (obtain ⟨b8, o8, rfl, x, cs1, hx, hc1, rfl⟩ := LiM.pos hpos (k := k) (by omega))
    refine wp_region_lit ?_
    iterate 3 (refine wpl_p S rfl rfl rfl ?_; clear S a; intro a S)
    (refine wpl_i S rfl rfl rfl ?_; clear S a; intro a S)
    (refine wpl_v S rfl rfl rfl (sv_loadF S rfl rfl (hc1 0 _ rfl)) ?_; clear S a; intro a S)
    (refine wpl_p S rfl rfl rfl ?_; clear S a; intro a S)
    (refine wpList_nil (hKq8 _ _ ?_); try clear hKq8 Kq8)
    refine wpc_split S rfl (fun h => ?_) (fun h => ?_)
    · (skip; (try simp only [tq] at h))
      refine wp_sr fun Kq9 hKq9 => ?_
      iterate 2 (refine wpl_p S rfl rfl rfl ?_; clear S a; intro a S)
      (refine wpList_nil (hKq9 _ _ ?_); try clear hKq9 Kq9)
      refine wp_ret (fin_ret S (results1 Tryz.results82 (RV.tmp S rfl)) ?_)
      (rw [hfp]; first | (rw [idxF_at (by omega), if_pos (by rw [atN_some hx, decide_eq_true_eq]; assumption)]; done) | (rw [idxF_end (by omega)]; done) | trace_state)
    (skip; (try simp only [tq] at h))
    refine wp_skip ?_
    (refine hKq6 _ _ ?_; try (clear hKq6 Kq6))
    refine wp_region_lit ?_
    (refine wpl_a S rfl rfl rfl ?_; clear S a; intro a S)
    (refine wpl_p S rfl rfl rfl ?_; clear S a; intro a S)
    refine wpList_nil ?_
    change ∃ m', _ ∧ _
    (refine ⟨l.length - (k + 1), by omega, k + 1, rfl, by omega, ?_, ?_⟩; rotate_left 1; (refine S.keep ?_; repeat (first | exact trivial | refine ⟨rfl, ?_⟩)); rw [hfp, idxF_at (by omega), if_neg (by rw [atN_some hx, decide_eq_true_eq]; assumption)])
  (skip; (try simp only [tq] at h))
  refine wp_exit ?_
  (refine hKq2 _ _ ?_; try (clear hKq2 Kq2))
  refine wp_sr fun Kq6 hKq6 => ?_
  (refine wpl_p S rfl rfl rfl ?_; clear S a; intro a S)
  (refine wpList_nil (hKq6 _ _ ?_); try clear hKq6 Kq6)
  refine wp_ret (fin_ret S (results1 Tryz.results82 (RV.tmp S rfl)) ?_)
  (rw [hfp]; first | (rw [idxF_at (by omega), if_pos (by rw [atN_some hx, decide_eq_true_eq]; assumption)]; done) | (rw [idxF_end (by omega)]; done) | trace_state)
theorem containsS2Ct (F : Heap) (l : List (List UInt8)) (s : List UInt8) (v : Value) (h : LiM F 1 StR v l) : Ct Tryz.prog 55 [v, .string (bs s)] F [] (fun _ _ u => u = .bool (decide (s ∈ l))) := by
  have hc := indexS2Ct F l s v h
  obtain ⟨ao, cap, rfl, hcap, hpos⟩ := h
  refine Ct.enter Tryz.func55 rfl Tryz.ntmps55 rfl fun w0 a S => ?_
  refine wp_sr fun Kq1 hKq1 => ?_
  (refine wpl_p S rfl rfl rfl ?_; clear S a; intro a S)
  (refine wpList_nil (hKq1 _ _ (wp_sr fun Kq2 hKq2 => ?_)); try clear hKq1 Kq1)
  iterate 2 (refine wpl_p S rfl rfl rfl ?_; clear S a; intro a S)
  (refine wpl_call0 S rfl rfl rfl rfl rfl rfl (hc) rfl ?_; clear S a; intro v a w hv S; subst hv)
  iterate 2 (refine wpl_p S rfl rfl rfl ?_; clear S a; intro a S)
  (refine wpList_nil (hKq2 _ _ ?_); try clear hKq2 Kq2)
  refine wp_ret (fin_ret S (results1 Tryz.results55 (RV.tmp S rfl)) ?_)
  (congr 1; show anyN (atN l fun x => decide (s = x)) l.length = _; rw [anyN_list (q := fun x => decide (s = x)) (fun k x hx => atN_some hx), Bool.eq_iff_iff, List.any_eq_true, decide_eq_true_eq]; exact ⟨fun ⟨x, h1, h2⟩ => (by rw [of_decide_eq_true h2]; exact h1), fun h1 => ⟨s, h1, decide_eq_true rfl⟩⟩)
end Go.Proofs.YtigblodhdfnleaaGreatDoor
