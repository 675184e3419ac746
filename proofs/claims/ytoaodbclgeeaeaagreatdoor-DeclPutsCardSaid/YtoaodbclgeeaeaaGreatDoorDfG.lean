/- The walk of DeclPuts. -/
import Derived.Test.YtoaodbclgeeaeaaGreatDoorDfE
import Derived.Test.YtoaodbclgeeaeaaGreatDoorDfF
namespace Go.Proofs.YtoaodbclgeeaeaaGreatDoor
open Go Go.Wk Go.Un Go.De
set_option linter.unusedSimpArgs false
set_option linter.unusedVariables false
attribute [local irreducible] Go.wpList Go.Code.wp Go.wpStill Go.Wk.wpPre Go.bodyPost Go.Calls Go.Wk.Ct Go.Wk.OwnS
attribute [local irreducible] Go.Wk.wpG Go.Wk.wpM

def sSpoilt : List UInt8 := [115, 112, 111, 105, 108, 116]
set_option maxRecDepth 20000 in
set_option maxHeartbeats 16000000 in
theorem declPutsCt (F : Heap) (hE : ErrT F) (nm : List UInt8) (ar : Fo) (cs : List Value) (hx : TyC F cs nm ar) (ps : List (List UInt8)) (vp : Value) (hp : LiM F 1 StR vp ps) (L : Fo) (va : Value) (hva : SlF F va L) :
    Ct Tryz.prog 3 [.agg ⟨cs⟩, vp, va] F [] (fun _ _ u => u = .bool true) := by
  obtain ⟨v, rfl, hs⟩ := hx
  have hsc := hs
  obtain ⟨ao, cap, rfl, hcap, -⟩ := hsc
  have hps := lim_sl hp
  obtain ⟨ap, cp, rfl, hpl, -⟩ := hp
  have hvac := hva
  obtain ⟨aa, ca, rfl, -, -⟩ := hvac
  refine Ct.enter Tryz.func3 rfl Tryz.ntmps3 rfl fun w0 a S => ?_
  refine wp_sr fun Kq1 hKq1 => ?_
  (refine wpl_box S rfl rfl rfl rfl rfl ?_; clear S a; intro b3 a w S)
  (refine wpl_v S rfl rfl rfl (sv_pure S rfl) ?_; clear S a; intro a S)
  (refine wpList_nil (hKq1 _ _ (wp_seq_k fun Kq2 hKq2 => ?_)); try clear hKq1 Kq1)
  refine wp_sr fun Kq3 hKq3 => ?_
  (refine wpl_v S rfl rfl rfl (sv_loadAO S rfl rfl (by rfl)) ?_; clear S a; intro a S)
  (refine wpl_buildSlice S rfl rfl rfl rfl rfl rfl (by rfl) (by simp [Value.cells, splice, splice]) rfl (by rfl) (by rfl) ?_; clear S a; intro b11 a w hown S)
  (have S' := frz1 (p := (b11, .cells ⟨[.string (bs nm), .slice ao ar.len cap]⟩ 24 (0, 0))) S; clear S; obtain ⟨F1, hle1, h11, S⟩ := S'; refine wpl_call0 S rfl rfl rfl rfl rfl rfl (typesCt F1 (Fo.size (.cons nm ar .nil)) (.cons nm ar .nil) _ 200 (Nat.le_refl _) (by decide) (slf_of (l := .cons nm ar .nil) h11 (FoC.one (hs.mono hle1)) (by show 1 ≤ _; decide))) rfl ?_; clear S a; intro v a w hv S; obtain ⟨p1, rfl, hp1⟩ := hv)
  iterate 2 (refine wpl_v S rfl rfl rfl (sv_pure S rfl) ?_; clear S a; intro a S)
  refine wpl_guard S rfl rfl rfl rfl rfl ?_ ?_
  · (intro h S'; clear S; have S := S'; clear S'; (try simp only [tq] at h))
    (refine wpl_v S rfl rfl rfl (sv_pure S rfl) ?_; clear S a; intro a S)
    refine wpl_take S rfl rfl rfl ?_
    (refine wpl_call0 S rfl rfl rfl rfl rfl rfl (typesCt F1 L.size L _ 200 (Nat.le_refl _) (by decide) (hva.mono hle1)) rfl ?_; clear S a; intro v a w hv S; obtain ⟨p2, rfl, hp2⟩ := hv)
    refine wpl_take S rfl rfl rfl ?_
    iterate 3 (refine wpl_v S rfl rfl rfl (sv_pure S rfl) ?_; clear S a; intro a S)
    refine wpl_guard S rfl rfl rfl rfl rfl ?_ ?_
    · (intro h S'; clear S; have S := S'; clear S'; (try simp only [tq] at h))
      (refine wpl_v S rfl rfl rfl (sv_pure S rfl) ?_; clear S a; intro a S)
      refine wpl_take S rfl rfl rfl ?_
      (refine wpl_v S rfl rfl rfl (sv_lenSl S rfl rfl) ?_; clear S a; intro a S)
      refine wpl_take S rfl rfl rfl ?_
      iterate 2 (refine wpl_v S rfl rfl rfl (sv_pure S rfl) ?_; clear S a; intro a S)
      (refine wpList_nil (hKq3 _ _ ?_); try clear hKq3 Kq3)
      refine wpc_split S rfl (fun h => ?_) (fun h => ?_)
      · (skip; (try simp only [tq] at h))
        refine wp_sr fun Kq4 hKq4 => ?_
        (refine wpl_call0 S rfl rfl rfl rfl rfl rfl (awakeCt F1 (hE.mono hle1)) rfl ?_; clear S a; intro v a w hv S; subst hv)
        (refine wpl_v S rfl rfl rfl (sv_pure S rfl) ?_; clear S a; intro a S)
        (refine wpList_nil (hKq4 _ _ ?_); try clear hKq4 Kq4)
        exact wp_ret (fin_ret S (results1 Tryz.results3 (RV.tmp S rfl)) rfl)
      · (skip; (try simp only [tq] at h))
        refine wp_skip ?_
        (refine hKq2 _ _ ?_; try (clear hKq2 Kq2))
        (refine wp_seq_k ?_; intro Kq4 hKq4)
        (have hp1c := hp1; have hp2c := hp2; unfold Cnt at hp1c hp2c; (simp only [Fo.size] at hp1c); have hxs : ar.size ≤ 1000 := (by omega); have hLs : L.size ≤ 1000 := (by omega); have hlr := Fo.len_size ar; have hthx : Thin ar := thin_size ar (by omega); have hthL : Thin L := thin_size L (by omega))
        refine wp_region_lit ?_
        (refine wpl_v S rfl rfl rfl (sv_loadAO S rfl rfl (by rfl)) ?_; clear S a; intro a S)
        iterate 2 (refine wpl_v S rfl rfl rfl (sv_pure S rfl) ?_; clear S a; intro a S)
        (refine wpl_call (Gs := []) (Gr := [[(b3, .cells ⟨[.string (bs nm), .slice ao ar.len cap]⟩ 24 (0, 0))]]) S rfl rfl rfl rfl rfl rfl (putOCt F1 ps _ L _ (hps.mono hle1) (by omega) (hva.mono hle1) hthL nm ar _ ⟨_, rfl, hs.mono hle1⟩ (by omega) hthx) rfl (by exact List.Perm.refl _) ?_; clear S a; intro u9 F2 G9 a w hv hF2 S; obtain ⟨v9, g9, xs9, rfl, rfl, hown9, hfc9⟩ := hv; (simp only [List.singleton_append] at S); have v9c := hown9.at; obtain ⟨a9, c9, rfl, -, -, -⟩ := v9c)
        (refine wpl_alloc S rfl rfl rfl rfl ?_; clear S a; intro b7 a w S)
        (refine wpl_storeO S rfl rfl rfl rfl rfl (by rfl) (by simp [Value.cells, Value.oneCell', splice]) (by rfl) ?_; clear S; intro w S)
        (refine wpList_nil (hKq4 _ _ (wp_sr fun Kq5 hKq5 => ?_)); try clear hKq4 Kq4)
        (refine wpl_v S rfl rfl rfl (sv_loadAO S rfl rfl (by rfl)) ?_; clear S a; intro a S)
        iterate 2 (refine wpl_v S rfl rfl rfl (sv_pure S rfl) ?_; clear S a; intro a S)
        (refine wpl_callF S rfl rfl rfl rfl rfl rfl (refPutCt F2 ps _ L _ ((hps.mono hle1).mono hF2) (by omega) ((hva.mono hle1).mono hF2) hthL (ar.size + 1) F2 nm ar _ (Nat.lt_succ_self _) (fun _ _ h => h) ⟨_, rfl, (hs.mono hle1).mono hF2⟩ (by omega) hthx) rfl ?_; clear S a; intro u8 F3 a w hv hF3 S; obtain ⟨a8, q8, c8, rfl, hs8⟩ := hv)
        (refine wpl_alloc S rfl rfl rfl rfl ?_; clear S a; intro b8 a w S)
        (refine wpl_storeO S rfl rfl rfl rfl rfl (by rfl) (by simp [Value.cells, Value.oneCell', splice]) (by rfl) ?_; clear S; intro w S)
        (refine wpList_nil (hKq5 _ _ (wp_seq_k fun Kq6 hKq6 => ?_)); try clear hKq5 Kq5)
        (refine wp_seq_k ?_; intro Kq7 hKq7)
        (replace S : St _ _ _ _ _ F3 [g9, [(b8, .cells ⟨[.string (bs (putT ps L (nm, ar)).1), .slice a8 q8 c8]⟩ 24 (0, 0))], [(b7, .cells ⟨[.string (bs (putT ps L (nm, ar)).1), .slice a9 (putT ps L (nm, ar)).2.len c9]⟩ 24 (0, 0))], [(b3, .cells ⟨[.string (bs nm), .slice ao ar.len cap]⟩ 24 (0, 0))]] _ _ := St.permI S 4 rfl [2, 0, 1, 3] (by decide); have hle9 := add_le (G1 := []) S; have hNb : (putT ps L (nm, ar)).2.len ≤ 9223372036854775807 := (by obtain ⟨_, _, _, h9, _⟩ := hs8; exact h9.2))
        refine wp_region_lit ?_
        iterate 2 (refine wpl_v S rfl rfl rfl (sv_loadAO S rfl rfl (by rfl)) ?_; clear S a; intro a S)
        (refine wpl_callOwn (Gs := [g9]) (Gr := [[(b8, _)], [(b7, _)], [(b3, _)]]) S rfl rfl rfl rfl rfl rfl (Ct.lend (sameTypeCt (F3.add g9) _ _ _ _ _ _ _ (Nat.le_refl _) ⟨_, rfl, FoC.slf hown9 (hfc9.mono hF3) rfl hle9 (by obtain ⟨_, _, _, h9, _⟩ := hs8; exact h9.2)⟩ ⟨_, rfl, hs8.mono hle9⟩)) rfl (by rw [← List.flatten_append]; exact List.Perm.refl _) ?_; clear S a; intro u7 G9 a w hv S; obtain ⟨rfl, rfl⟩ := hv; rw [decide_eq_true ⟨rfl, rfl⟩] at S)
        (refine wpl_v S rfl rfl rfl (sv_pure S rfl) ?_; clear S a; intro a S)
        (refine wpList_nil (hKq7 _ _ ?_); try clear hKq7 Kq7)
        refine wpc_false S rfl ?_
        refine wp_skip ?_
        (refine hKq6 _ _ ?_; try (clear hKq6 Kq6))
        (refine wp_seq_k ?_; intro Kq8 hKq8)
        refine wp_sr fun Kq9 hKq9 => ?_
        (refine wpl_v S rfl rfl rfl (sv_pure S rfl) ?_; clear S a; intro a S)
        (refine wpList_nil (hKq9 _ _ ?_); try clear hKq9 Kq9)
        refine wp_block ?_
        refine wpc_loop (fun m a w' => ∃ (k : Nat) (v : Value) (g : Grp) (xs : List Value), m = (putT ps L (nm, ar)).2.len - k ∧ k ≤ (putT ps L (nm, ar)).2.len ∧ OwnS 24 2 v (putT ps L (nm, ar)).2.len xs g ∧ St 58 [(1, .slice ap ps.length cp), (2, .slice aa L.len ca), (3, ptr b3), (7, ptr b7), (8, ptr b8), (9, .int .i64 k)] w0 F [] F3 [g, [(b8, .cells ⟨[.string (bs (putT ps L (nm, ar)).1), .slice a8 q8 c8]⟩ 24 (0, 0))], [(b7, .cells ⟨[.string (bs (putT ps L (nm, ar)).1), v]⟩ 24 (0, 0))], [(b3, .cells ⟨[.string (bs nm), .slice ao ar.len cap]⟩ 24 (0, 0))]] a w') ?_ ?_
        · (refine ⟨_, 0, _, g9, xs9, rfl, Nat.zero_le _, hown9, ?_⟩; refine S.keep ?_; repeat (first | exact trivial | refine ⟨rfl, ?_⟩))
        · (clear S hown9; rintro m a w ⟨k, v9, g9, xs9, rfl, hkl, hown9, S⟩; have v9c := hown9.at; obtain ⟨a9, c9, rfl, -, -, -⟩ := v9c)
          (refine wp_seq_k ?_; intro Kq10 hKq10)
          refine wp_sr fun Kq11 hKq11 => ?_
          (refine wpl_v S rfl rfl rfl (sv_pure S rfl) ?_; clear S a; intro a S)
          (refine wpl_v S rfl rfl rfl (sv_fieldAddr S rfl rfl rfl inferInstance rfl) ?_; clear S a; intro a S)
          (refine wpl_v S rfl rfl rfl (sv_loadO S rfl rfl (by rfl)) ?_; clear S a; intro a S)
          (refine wpl_v S rfl rfl rfl (sv_lenSl S rfl rfl) ?_; clear S a; intro a S)
          (refine wpl_v S rfl rfl rfl (sv_pure S rfl) ?_; clear S a; intro a S)
          (refine wpList_nil (hKq11 _ _ ?_); try clear hKq11 Kq11)
          refine wpc_split S rfl (fun h => ?_) (fun h => ?_)
          · (skip; (try simp only [tq] at h))
            refine wp_skip ?_
            (refine hKq10 _ _ ?_; try (clear hKq10 Kq10))
            (refine wp_seq_k ?_; intro Kq12 hKq12)
            refine wp_block ?_
            (obtain ⟨ba, capA, exA, hvA, rfl, hcq, hcm, hxl, hxe⟩ := ownS_blkN hown9 (by omega); obtain ⟨rfl, -, rfl⟩ := Value.slice.inj hvA)
            refine wp_region_lit ?_
            (refine wpl_v S rfl rfl rfl (sv_fieldAddr S rfl rfl rfl inferInstance rfl) ?_; clear S a; intro a S)
            (refine wpl_v S rfl rfl rfl (sv_loadO S rfl rfl (by rfl)) ?_; clear S a; intro a S)
            (refine wpl_v S rfl rfl rfl (sv_pure S rfl) ?_; clear S a; intro a S)
            (refine wpl_v S rfl rfl rfl (sv_indexAddrSl S rfl rfl rfl (by omega)) ?_; clear S a; intro a S)
            (refine wpl_v S rfl rfl rfl (sv_fieldAddr S rfl rfl rfl inferInstance rfl) ?_; clear S a; intro a S)
            (refine wpl_store1 S rfl rfl rfl rfl rfl rfl (by rw [List.length_append]; omega) ?_; clear S; intro w S; rw [List.set_append_left _ _ (by omega)] at S)
            (refine wpList_nil (hKq12 _ _ ?_); try clear hKq12 Kq12)
            refine wp_region_lit ?_
            (refine wpl_v S rfl rfl rfl (sv_pure S rfl) ?_; clear S a; intro a S)
            (refine wpl_v S rfl rfl rfl (sv_add S rfl rfl rfl (by omega)) ?_; clear S a; intro a S)
            (refine wpl_v S rfl rfl rfl (sv_pure S rfl) ?_; clear S a; intro a S)
            refine wpList_nil ?_
            change ∃ m', _ ∧ _
            (refine ⟨(putT ps L (nm, ar)).2.len - (k + 1), by omega, k + 1, .slice (some ⟨ba, 0, none⟩) (putT ps L (nm, ar)).2.len c9, _, _, rfl, by omega, ownS_mkN (b := ba) (cap := c9) (xs := xs9.set (0 + k * 2) (.string (bs sSpoilt))) (ex := exA) (by rw [List.length_set]; exact hxl) hcq hcm (by rw [List.length_append, List.length_set, ← List.length_append]; exact hxe), ?_⟩; refine S.keep ?_; repeat (first | exact trivial | refine ⟨rfl, ?_⟩))
          · (skip; (try simp only [tq] at h))
            refine wp_exit ?_
            (refine hKq8 _ _ ?_; try (clear hKq8 Kq8))
            (refine wp_seq_k ?_; intro Kq12 hKq12)
            (refine wpc_mixM [0, 1, 2, 4, 6, 8] [0, 4] [] (.one 0 (.one 1 (.one 2 (.one 4 (.one 3 (.one 5 (.one 6 (.one 7 (.one 8 (.one 9 .nil)))))))))) [b3, b8] S mixed (by kernel_rfl) ?_; clear S; intro w S)
            (refine wpm_lateO b3 S rfl rfl rfl (want_none _ rfl) rfl rfl (fun w' S => sv_loadAO S rfl rfl (by rfl)) ?_; clear S a; intro a S)
            iterate 2 (refine wpm_v S rfl rfl rfl (want_none _ rfl) rfl rfl (fun w' S => sv_pure S rfl) ?_; clear S a; intro a S)
            (refine wpm_lateO b8 S rfl rfl rfl (want_none _ rfl) rfl rfl (fun w' S => sv_loadAO S rfl rfl (by rfl)) ?_; clear S a; intro a S)
            refine wpm_eff rfl rfl (by exact kwf S) ?_
            (refine wpl_callF S rfl rfl rfl rfl rfl rfl (putCt F3 ps _ L _ (((hps.mono hle1).mono hF2).mono hF3) (by omega) (((hva.mono hle1).mono hF2).mono hF3) hthL (ar.size + 1) F3 nm ar _ (Nat.lt_succ_self _) (fun _ _ h => h) ⟨_, rfl, ((hs.mono hle1).mono hF2).mono hF3⟩ (by omega) hthx) rfl ?_; clear S a; intro u6 F5 a w hv hF5 S; obtain ⟨a6, q6, c6, rfl, hs6⟩ := hv)
            refine wpList_nil ?_
            refine wpm_eff rfl rfl (by exact (fun _ => ⟨fun b o h => S.tr.frz b o (by solve_by_elim), S.has inferInstance, S.has inferInstance, trivial⟩)) ?_
            (refine wpl_call0 S rfl rfl rfl rfl rfl rfl (sameTypeCt F5 _ _ _ _ _ _ _ (Nat.le_refl _) ⟨_, rfl, hs6⟩ ⟨_, rfl, hs8.mono hF5⟩) rfl ?_; clear S a; intro v a w hv S; subst hv; rw [decide_eq_true ⟨rfl, rfl⟩] at S)
            refine wpList_nil ?_
            (refine wpm_v S rfl rfl rfl (want_none _ rfl) rfl rfl (fun w' S => sv_pure S rfl) ?_; clear S a; intro a S)
            refine wpm_eff rfl rfl (by exact (fun _ => ⟨fun b o h => S.tr.frz b o (by solve_by_elim), S.has inferInstance, S.has inferInstance, trivial⟩)) ?_
            refine wpl_take S rfl rfl rfl ?_
            (refine wpl_call0 S rfl rfl rfl rfl rfl rfl (awakeCt F5 (hE.mono (fun b o h => hF5 _ _ (hF3 _ _ (hF2 _ _ (hle1 _ _ h)))))) rfl ?_; clear S a; intro v a w hv S; subst hv)
            refine wpList_nil ?_
            (refine wpm_v S rfl rfl rfl (want_none _ rfl) rfl rfl (fun w' S => sv_pure S rfl) ?_; clear S a; intro a S)
            refine wpm_eff rfl rfl (by exact (fun _ => ⟨fun b o h => S.tr.frz b o (by solve_by_elim), S.has inferInstance, S.has inferInstance, trivial⟩)) ?_
            (refine wpl_v S rfl rfl rfl (sv_pure S rfl) ?_; clear S a; intro a S)
            refine wpList_nil ?_
            (refine wpm_nil (by exact (fun _ => ⟨fun b o h => S.tr.frz b o (by solve_by_elim), S.has inferInstance, S.has inferInstance, trivial⟩)) (hKq12 _ _ ?_); try clear hKq12 Kq12)
            exact wp_ret (fin_ret S (results1 Tryz.results3 (RV.tmp S rfl)) rfl)
    · (intro h; clear S a; intro a S; (try simp only [tq] at h))
      iterate 2 (refine wpl_skip S rfl rfl rfl rfl rfl ?_; clear S a; intro a S)
      (refine wpl_v S rfl rfl rfl (sv_pure S rfl) ?_; clear S a; intro a S)
      (refine wpList_nil (hKq3 _ _ ?_); try clear hKq3 Kq3)
      refine wpc_true S rfl ?_
      refine wp_sr fun Kq4 hKq4 => ?_
      (refine wpl_call0 S rfl rfl rfl rfl rfl rfl (awakeCt F1 (hE.mono hle1)) rfl ?_; clear S a; intro v a w hv S; subst hv)
      (refine wpl_v S rfl rfl rfl (sv_pure S rfl) ?_; clear S a; intro a S)
      (refine wpList_nil (hKq4 _ _ ?_); try clear hKq4 Kq4)
      exact wp_ret (fin_ret S (results1 Tryz.results3 (RV.tmp S rfl)) rfl)
  · (intro h; clear S a; intro a S; (try simp only [tq] at h))
    iterate 2 (refine wpl_skip S rfl rfl rfl rfl rfl ?_; clear S a; intro a S)
    iterate 2 (refine wpl_v S rfl rfl rfl (sv_pure S rfl) ?_; clear S a; intro a S)
    iterate 3 (refine wpl_skip S rfl rfl rfl rfl rfl ?_; clear S a; intro a S)
    (refine wpl_v S rfl rfl rfl (sv_pure S rfl) ?_; clear S a; intro a S)
    (refine wpList_nil (hKq3 _ _ ?_); try clear hKq3 Kq3)
    refine wpc_true S rfl ?_
    refine wp_sr fun Kq4 hKq4 => ?_
    (refine wpl_call0 S rfl rfl rfl rfl rfl rfl (awakeCt F1 (hE.mono hle1)) rfl ?_; clear S a; intro v a w hv S; subst hv)
    (refine wpl_v S rfl rfl rfl (sv_pure S rfl) ?_; clear S a; intro a S)
    (refine wpList_nil (hKq4 _ _ ?_); try clear hKq4 Kq4)
    exact wp_ret (fin_ret S (results1 Tryz.results3 (RV.tmp S rfl)) rfl)
end Go.Proofs.YtoaodbclgeeaeaaGreatDoor
