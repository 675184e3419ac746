/- Walks: the document's Put, SameType. -/
import Derived.Test.YtoaodbclgeeaeaaGreatDoorDeC
namespace Go.Proofs.YtoaodbclgeeaeaaGreatDoor
open Go Go.Wk Go.Un Go.De
set_option linter.unusedSimpArgs false
set_option linter.unusedVariables false
attribute [local irreducible] Go.wpList Go.Code.wp Go.wpStill Go.Wk.wpPre Go.bodyPost Go.Calls Go.Wk.Ct Go.Wk.OwnS
attribute [local irreducible] Go.Wk.wpG Go.Wk.wpM

theorem idx_none {vs : List (List UInt8)} {L : Fo} {nm : List UInt8} {k : Nat} (hall : ∀ (j : Nat) (x : List UInt8), j < k → vs[j]? = some x → x ≠ nm) (h : vs.length ≤ k ∨ L.len ≤ k) : putA vs L nm = none := by
  refine putA_no ?_
  rintro ⟨h1, h2, h3⟩
  unfold idxOf at h2 h3
  by_cases hm : nm ∈ vs
  · rw [if_pos hm] at h2 h3
    have h4 := List.idxOf_lt_length_iff.2 hm
    have h5 := hall (vs.idxOf nm) nm (by omega) (by rw [List.getElem?_eq_getElem h4, List.getElem_idxOf h4])
    exact h5 rfl
  · rw [if_neg hm] at h2
    exact absurd h2 (by decide)
theorem idx_at {vs : List (List UInt8)} {nm : List UInt8} {k : Nat} (hall : ∀ (j : Nat) (x : List UInt8), j < k → vs[j]? = some x → x ≠ nm) (h : vs[k]? = some nm) : idxOf vs nm = (k : Int) := by
  have hm : nm ∈ vs := List.mem_of_getElem? h
  have h4 := List.idxOf_lt_length_iff.2 hm
  have h6 := (List.getElem?_eq_some_iff.1 h).1
  have hi : vs.idxOf nm = k := by
    rcases Nat.lt_trichotomy (vs.idxOf nm) k with h2 | h2 | h2
    · exact absurd rfl (hall (vs.idxOf nm) nm h2 (by rw [List.getElem?_eq_getElem h4, List.getElem_idxOf h4]))
    · exact h2
    · exfalso
      have h3 := List.not_of_lt_findIdx (p := (· == nm)) (xs := vs) h2
      rw [(List.getElem?_eq_some_iff.1 h).2] at h3
      simp at h3
  unfold idxOf
  rw [if_pos hm, hi]
def RefPutD (vs : List (List UInt8)) (vp : Value) (L : Fo) (va : Value) (F : Heap) (m : Nat) : Prop := ∀ (F' : Heap) (nm : List UInt8) (ar : Fo) (cs : List Value), ar.size < m → (∀ b o, F b = some o → F' b = some o) → TyC F' cs nm ar → ar.len * 40 ≤ 140737488355328 → Thin ar →
  Ct Tryz.prog 10 [.agg ⟨cs⟩, vp, va] F' [] (fun F'' _ u => ∃ (ao : Option Addr) (q c : Nat), u = .agg ⟨[.string (bs (putT vs L (nm, ar)).1), .slice ao q c]⟩ ∧ SlF F'' (.slice ao q c) (putT vs L (nm, ar)).2)
set_option maxRecDepth 20000 in
set_option maxHeartbeats 8000000 in
theorem refPutCt (F : Heap) (vs : List (List UInt8)) (vp : Value) (L : Fo) (va : Value) (hvp : SlC F vp vs.length (strs vs)) (hvl : vs.length ≤ 9223372036854775807) (hva : SlF F va L) (hthL : Thin L) : ∀ m, RefPutD vs vp L va F m := by
  intro m
  induction m with
  | zero => intro F' nm ar cs hm; omega
  | succ m ih =>
  intro F' nm ar cs hm hF hT hln hthin
  obtain ⟨v, rfl, ao, cap, rfl, hcap, hpos⟩ := hT
  have hvp0 := hvp.mono hF
  obtain ⟨ap, cp, rfl, hcp, -⟩ := hvp
  have hvp1 := hvp0
  obtain ⟨ap2, cp2, evp, -, hposp⟩ := hvp0
  cases evp
  have hva0 := hva.mono hF
  obtain ⟨aa, ca, rfl, hca, hposa⟩ := hva
  refine Ct.enter Tryz.func10 rfl Tryz.ntmps10 rfl fun w0 a S => ?_
  refine wp_sr fun Kq1 hKq1 => ?_
  (refine wpl_box S rfl rfl rfl rfl rfl ?_; clear S a; intro b3 a w S)
  (refine wpl_alloc S rfl rfl rfl rfl ?_; clear S a; intro b6 a w S)
  (refine wpList_nil (hKq1 _ _ (wp_seq_k fun Kq2 hKq2 => ?_)); try clear hKq1 Kq1)
  replace hKq2 : ∀ (a' : Act) (w' : World), (putA vs L nm = none ∧ St 70 [(1, .slice ap vs.length cp), (2, .slice aa L.len ca), (3, ptr b3), (6, ptr b6)] w0 F' [] F' ([(b6, .cells ⟨[.string (bs []), .slice none 0 0]⟩ 24 (0, 0))] :: [(b3, .cells ⟨[.string (bs nm), .slice ao ar.len cap]⟩ 24 (0, 0))] :: []) a' w') → Kq2 a' w' := (by
    (intro a w hM; refine hKq2 _ _ ?_; clear hKq2 Kq2; clear S; obtain ⟨hpn, S⟩ := hM)
    refine wp_sr fun Kq3 hKq3 => ?_
    (refine wpl_v S rfl rfl rfl (sv_fieldAddr S rfl rfl rfl inferInstance rfl) ?_; clear S a; intro a S)
    (refine wpl_v S rfl rfl rfl (sv_loadO S rfl rfl (by rfl)) ?_; clear S a; intro a S)
    (refine wpl_v S rfl rfl rfl (sv_build S rfl rfl rfl) ?_; clear S a; intro a S)
    (refine wpl_alloc S rfl rfl rfl rfl ?_; clear S a; intro b8 a w S)
    (refine wpl_storeO S rfl rfl rfl rfl rfl (by rfl) (by simp [Value.cells, Value.oneCell', splice]) (by rfl) ?_; clear S; intro w S)
    (refine wpList_nil (hKq3 _ _ (wp_seq_k fun Kq4 hKq4 => ?_)); try clear hKq3 Kq3)
    refine wp_sr fun Kq5 hKq5 => ?_
    (refine wpl_v S rfl rfl rfl (sv_pure S rfl) ?_; clear S a; intro a S)
    (refine wpList_nil (hKq5 _ _ ?_); try clear hKq5 Kq5)
    refine wp_block ?_
    refine wpc_loop (fun m a w' => ∃ (i : Nat) (v : Value) (g : Grp) (xs : List Value) (pre : Fo) (F3 : Heap), m = ar.len - i ∧ i ≤ ar.len ∧ (∀ b o, F' b = some o → F3 b = some o) ∧ OwnS 24 2 v i xs g ∧ FoC F3 xs pre ∧ pre.len = i ∧ pre.app (putL vs L (ar.drop i)) = putL vs L ar ∧ St 70 [(1, .slice ap vs.length cp), (2, .slice aa L.len ca), (3, ptr b3), (6, ptr b6), (8, ptr b8), (9, .int .i64 i)] w0 F' [] F3 ([(b8, .cells ⟨[.string (bs nm), v]⟩ 24 (0, 0))] :: g :: [(b6, .cells ⟨[.string (bs []), .slice none 0 0]⟩ 24 (0, 0))] :: [(b3, .cells ⟨[.string (bs nm), .slice ao ar.len cap]⟩ 24 (0, 0))] :: []) a w') ?_ ?_
    · (replace S := st_nil2 S; refine ⟨ar.len, 0, .slice none 0 0, [], [], .nil, F', by omega, Nat.zero_le _, fun _ _ h => h, OwnS.nil _ _, trivial, rfl, rfl, ?_⟩; refine S.keep ?_; repeat (first | exact trivial | refine ⟨rfl, ?_⟩))
    · (clear S; rintro m a w ⟨i, v, g, xs, pre, F3, rfl, hil, hF3, hown, hfc, hpre, happ, S⟩)
      (refine wp_seq_k ?_; intro Kq6 hKq6)
      refine wp_sr fun Kq7 hKq7 => ?_
      (refine wpl_v S rfl rfl rfl (sv_pure S rfl) ?_; clear S a; intro a S)
      (refine wpl_v S rfl rfl rfl (sv_fieldAddr S rfl rfl rfl inferInstance rfl) ?_; clear S a; intro a S)
      (refine wpl_v S rfl rfl rfl (sv_loadO S rfl rfl (by rfl)) ?_; clear S a; intro a S)
      (refine wpl_v S rfl rfl rfl (sv_lenSl S rfl rfl) ?_; clear S a; intro a S)
      (refine wpl_v S rfl rfl rfl (sv_pure S rfl) ?_; clear S a; intro a S)
      (refine wpList_nil (hKq7 _ _ ?_); try clear hKq7 Kq7)
      refine wpc_split S rfl (fun h => ?_) (fun h => ?_)
      · (skip; (try simp only [tq] at h))
        refine wp_skip ?_
        (refine hKq6 _ _ ?_; try (clear hKq6 Kq6))
        (refine wp_seq_k ?_; intro Kq8 hKq8)
        refine wp_block ?_
        (obtain ⟨b9, o9, hao, x, v1, hx, hc1, hT1⟩ := FoM.pos hpos (k := i) (by omega); rw [hao] at S; replace hc1 := Cels.mono hF3 hc1; replace hT1 := hT1.mono hF3; have hT1c := hT1; obtain ⟨a91, c91, rfl, -⟩ := hT1c; obtain ⟨hx40, hxth⟩ := hthin.get hx; have hxs := Fo.size_get hx; have hdr := Fo.drop_get hx)
        (refine wpc_mixM [0, 1, 2, 3, 4, 5, 6, 7, 8, 12] [1, 3, 6] [13] (.one 0 (.one 1 (.one 2 (.one 3 (.one 4 (.one 5 (.one 6 (.one 7 (.one 8 (.one 9 (.one 10 (.one 11 (.one 12 (.one 13 .nil)))))))))))))) [b8, b3] S mixed (by kernel_rfl) ?_; clear S; intro w S)
        (refine wpm_v S rfl rfl rfl (want_none _ rfl) rfl rfl (fun w' S => sv_fieldAddr S rfl rfl rfl inferInstance rfl) ?_; clear S a; intro a S)
        (refine wpm_lateO b8 S rfl rfl rfl (want_none _ rfl) rfl rfl (fun w' S => sv_loadO S rfl rfl (by rfl)) ?_; clear S a; intro a S)
        (refine wpm_v S rfl rfl rfl (want_none _ rfl) rfl rfl (fun w' S => sv_fieldAddr S rfl rfl rfl inferInstance rfl) ?_; clear S a; intro a S)
        (refine wpm_lateO b3 S rfl rfl rfl (want_none _ rfl) rfl rfl (fun w' S => sv_loadO S rfl rfl (by rfl)) ?_; clear S a; intro a S)
        (refine wpm_v S rfl rfl rfl (want_none _ rfl) rfl rfl (fun w' S => sv_pure S rfl) ?_; clear S a; intro a S)
        (refine wpm_v S rfl rfl rfl (want_none _ rfl) rfl rfl (fun w' S => sv_indexAddrSl S rfl rfl rfl (by omega)) ?_; clear S a; intro a S)
        (refine wpm_lateF S rfl rfl rfl (want_none _ rfl) rfl rfl (fun w' S => sv_loadAF S rfl rfl (by assumption) (by rfl)) ?_; clear S a; intro a S)
        iterate 2 (refine wpm_v S rfl rfl rfl (want_none _ rfl) rfl rfl (fun w' S => sv_pure S rfl) ?_; clear S a; intro a S)
        refine wpm_eff rfl rfl (by exact kwf S) ?_
        (refine wpl_call (Gs := []) (Gr := [[(b8, _)], g, [(b6, _)], [(b3, _)]]) S rfl rfl rfl rfl rfl rfl (ih F3 x.1 x.2 _ (by omega) (fun b o h => hF3 _ _ (hF _ _ h)) ⟨_, rfl, hT1⟩ hx40 hxth) rfl (by exact List.Perm.refl _) ?_; clear S a; intro u9 F4 G4 a w hv hF4 S; obtain ⟨a4, q4, c4, rfl, hs4⟩ := hv; replace S : St _ _ _ _ _ F4 ([(b8, _)] :: g :: [(b6, _)] :: [(b3, _)] :: []) _ _ := ⟨S.fr, S.tr.sub (by rw [List.flatten_append]; exact List.sublist_append_right _ _)⟩)
        refine wpList_nil ?_
        refine wpm_eff rfl rfl (by exact (fun _ => ⟨fun b o h => S.tr.frz b o (by solve_by_elim), S.has inferInstance, S.has inferInstance, trivial⟩)) ?_
        (refine wpl_buildSlice S rfl rfl rfl rfl rfl rfl (by rfl) (by simp [Value.cells, splice, splice]) rfl (by rfl) (by rfl) ?_; clear S a; intro b66 a w hown2 S)
        refine wpList_nil ?_
        refine wpm_eff rfl rfl (by exact (fun _ => ⟨fun b o h => S.tr.frz b o (by solve_by_elim), S.has inferInstance, S.has inferInstance, trivial⟩)) ?_
        (refine wpl_appendOwn S rfl rfl rfl rfl rfl rfl hown hown2 (by rfl) (by simp [Value.cells, Value.oneCell', splice, splice]) (by omega) (by omega) ?_; clear hown S a; intro v g a w hown S)
        refine wpList_nil ?_
        (refine wpm_v S rfl rfl rfl (want_none _ rfl) rfl rfl (fun w' S => sv_fieldAddr S rfl rfl rfl inferInstance rfl) ?_; clear S a; intro a S)
        refine wpm_eff rfl rfl (by exact (fun _ => ⟨fun b o h => S.tr.frz b o (by solve_by_elim), S.has inferInstance, S.has inferInstance, trivial⟩)) ?_
        (refine wpl_store1 S rfl rfl rfl rfl rfl hown.oneCell (by (simp; done)) ?_; clear S; intro w S)
        refine wpList_nil ?_
        (refine wpm_nil (fun h => absurd h (by decide)) (hKq8 _ _ ?_); try clear hKq8 Kq8)
        refine wp_region_lit ?_
        (refine wpl_v S rfl rfl rfl (sv_pure S rfl) ?_; clear S a; intro a S)
        (refine wpl_v S rfl rfl rfl (sv_add S rfl rfl rfl (by omega)) ?_; clear S a; intro a S)
        (refine wpl_v S rfl rfl rfl (sv_pure S rfl) ?_; clear S a; intro a S)
        refine wpList_nil ?_
        change ∃ m', _ ∧ _
        (rw [← hao] at S; refine ⟨ar.len - (i + 1), by omega, i + 1, _, _, _, pre.app (.cons (putT vs L x).1 (putT vs L x).2 .nil), F4, rfl, by omega, fun b o h => hF4 _ _ (hF3 _ _ h), hown, FoC.app (hfc.mono hF4) (FoC.one hs4), by rw [Fo.len_app, hpre]; rfl, ?_, ?_⟩; rotate_left 1; (refine S.keep ?_; repeat (first | exact trivial | refine ⟨rfl, ?_⟩)); (rw [fo_app_assoc, ← happ, hdr, putL_cons]; rfl))
      · (skip; (try simp only [tq] at h))
        refine wp_exit ?_
        (refine hKq4 _ _ ?_; try (clear hKq4 Kq4))
        (refine wp_seq_k ?_; intro Kq8 hKq8)
        (obtain ⟨aoK, capK, rfl, -⟩ := hown.at)
        refine wp_region_lit ?_
        (refine wpl_v S rfl rfl rfl (sv_loadAO S rfl rfl (by rfl)) ?_; clear S a; intro a S)
        (refine wpl_storeO S rfl rfl rfl rfl rfl (by rfl) (by simp [Value.cells, Value.oneCell', splice]) (by rfl) ?_; clear S; intro w S)
        (refine wpList_nil (hKq8 _ _ ?_); try clear hKq8 Kq8)
        refine wp_ret ?_
        (have S0 := S; ((have hii : i = ar.len := (by omega); have h9 := hown; replace S := S.drop1; have hle := add_le (G1 := []) S; replace S := St.freeze (G1 := []) S; (simp only [List.nil_append] at S hle); replace S := S.drop1.drop1)))
        
        refine fin_ret S (results1 Tryz.results10 (RV.cellO S0 rfl (by rfl))) ?_
        ((have h9 := hii; have e9 : putT vs L (nm, ar) = (nm, putL vs L ar) := (by unfold putT; rw [hpn]; rfl); rw [e9]; have hdl : ar.drop i = .nil := Fo.drop_len (by omega); rw [hdl] at happ; rw [show putL vs L Fo.nil = Fo.nil from rfl, fo_app_nil] at happ; rw [happ] at hfc hpre; exact ⟨_, _, _, rfl, FoC.slf hown hfc (by rw [putL_len]; omega) hle (by omega)⟩)))
  refine wp_sr fun Kq9 hKq9 => ?_
  (refine wpl_v S rfl rfl rfl (sv_pure S rfl) ?_; clear S a; intro a S)
  (refine wpList_nil (hKq9 _ _ ?_); try clear hKq9 Kq9)
  refine wp_block ?_
  refine wpc_loop (fun m a w' => ∃ (k : Nat), m = vs.length - k ∧ k ≤ vs.length ∧ k ≤ L.len ∧ (∀ (j : Nat) (x : List UInt8), j < k → vs[j]? = some x → x ≠ nm) ∧ St 70 [(1, .slice ap vs.length cp), (2, .slice aa L.len ca), (3, ptr b3), (6, ptr b6), (7, .int .i64 k)] w0 F' [] F' ([(b6, .cells ⟨[.string (bs []), .slice none 0 0]⟩ 24 (0, 0))] :: [(b3, .cells ⟨[.string (bs nm), .slice ao ar.len cap]⟩ 24 (0, 0))] :: []) a w') ?_ ?_
  · (refine ⟨vs.length, 0, by omega, Nat.zero_le _, Nat.zero_le _, fun j x h => absurd h (Nat.not_lt_zero _), ?_⟩; refine S.keep ?_; repeat (first | exact trivial | refine ⟨rfl, ?_⟩))
  · (clear S; rintro m a w ⟨k, rfl, hkl, hkL, hall, S⟩)
    (refine wp_seq_k ?_; intro Kq10 hKq10)
    refine wp_sr fun Kq11 hKq11 => ?_
    iterate 2 (refine wpl_v S rfl rfl rfl (sv_pure S rfl) ?_; clear S a; intro a S)
    (refine wpl_v S rfl rfl rfl (sv_lenSl S rfl rfl) ?_; clear S a; intro a S)
    iterate 2 (refine wpl_v S rfl rfl rfl (sv_pure S rfl) ?_; clear S a; intro a S)
    refine wpl_guard S rfl rfl rfl rfl rfl ?_ ?_
    · (intro h S'; clear S; have S := S'; clear S'; (try simp only [tq] at h))
      (refine wpl_v S rfl rfl rfl (sv_pure S rfl) ?_; clear S a; intro a S)
      refine wpl_take S rfl rfl rfl ?_
      (refine wpl_v S rfl rfl rfl (sv_pure S rfl) ?_; clear S a; intro a S)
      refine wpl_take S rfl rfl rfl ?_
      (refine wpl_v S rfl rfl rfl (sv_lenSl S rfl rfl) ?_; clear S a; intro a S)
      refine wpl_take S rfl rfl rfl ?_
      iterate 2 (refine wpl_v S rfl rfl rfl (sv_pure S rfl) ?_; clear S a; intro a S)
      (refine wpList_nil (hKq11 _ _ ?_); try clear hKq11 Kq11)
      refine wpc_split S rfl (fun h => ?_) (fun h => ?_)
      · (skip; (try simp only [tq] at h))
        refine wp_skip ?_
        (refine hKq10 _ _ ?_; try (clear hKq10 Kq10))
        (refine wp_seq_k ?_; intro Kq12 hKq12)
        refine wp_block ?_
        (refine wp_seq_k ?_; intro Kq13 hKq13)
        (refine wp_seq_k ?_; intro Kq14 hKq14)
        (obtain ⟨y, hy⟩ : ∃ y, vs[k]? = some y := ⟨_, List.getElem?_eq_getElem (by omega)⟩; obtain ⟨bp, op, hap, hcsp⟩ := hposp (by omega); rw [hap] at S; have hcy : Cel F' bp (op + k * 1) (.string (bs y)) := (by rw [Nat.mul_one]; exact hcsp k _ (by rw [strs, List.getElem?_map, hy]; rfl)))
        (refine wpc_mixM [0, 1, 3, 4, 5, 6, 7, 8, 9, 10, 11] [1, 7, 9] [] (.one 0 (.one 1 (.one 2 (.one 3 (.one 4 (.one 5 (.one 6 (.one 7 (.one 8 (.one 9 (.one 10 (.one 11 .nil)))))))))))) [b3] S mixed (by kernel_rfl) ?_; clear S; intro w S)
        (refine wpm_v S rfl rfl rfl (want_none _ rfl) rfl rfl (fun w' S => sv_fieldAddr S rfl rfl rfl inferInstance rfl) ?_; clear S a; intro a S)
        (refine wpm_lateO b3 S rfl rfl rfl (want_none _ rfl) rfl rfl (fun w' S => sv_loadO S rfl rfl (by rfl)) ?_; clear S a; intro a S)
        refine wpm_eff rfl rfl (by exact kwf S) ?_
        (refine wpl_call0 S rfl rfl rfl rfl rfl rfl (refParamCt F' nm) rfl ?_; clear S a; intro v a w hv S; subst hv)
        refine wpList_nil ?_
        (refine wpm_v S rfl rfl rfl (want_none _ rfl) rfl rfl (fun w' S => sv_pure S rfl) ?_; clear S a; intro a S)
        refine St.part (dj := 25) (want := true) S rfl ?_ ?_
        · (intro h S'; clear S; have S := S'; clear S'; (try simp only [tq] at h))
          iterate 2 (refine wpm_v S rfl rfl rfl (want_yes S rfl rfl rfl) rfl rfl (fun w' S => sv_pure S rfl) ?_; clear S a; intro a S)
          (refine wpm_v S rfl rfl rfl (want_yes S rfl rfl rfl) rfl rfl (fun w' S => sv_indexAddrSl S rfl rfl rfl (by omega)) ?_; clear S a; intro a S)
          (refine wpm_lateF S rfl rfl rfl (want_yes S rfl rfl rfl) rfl rfl (fun w' S => sv_loadF S rfl rfl (by assumption)) ?_; clear S a; intro a S)
          (refine wpm_v S rfl rfl rfl (want_yes S rfl rfl rfl) rfl rfl (fun w' S => sv_fieldAddr S rfl rfl rfl inferInstance rfl) ?_; clear S a; intro a S)
          (refine wpm_lateO b3 S rfl rfl rfl (want_yes S rfl rfl rfl) rfl rfl (fun w' S => sv_loadO S rfl rfl (by rfl)) ?_; clear S a; intro a S)
          (refine wpm_v S rfl rfl rfl (want_yes S rfl rfl rfl) rfl rfl (fun w' S => sv_pure S rfl) ?_; clear S a; intro a S)
          (refine wpm_v S rfl rfl rfl (want_none _ rfl) rfl rfl (fun w' S => sv_pure S rfl) ?_; clear S a; intro a S)
          (refine wpm_nil (by exact kwf S) (hKq14 _ _ ?_); try clear hKq14 Kq14)
          refine wpc_split S rfl (fun h => ?_) (fun h => ?_)
          · (skip; (try simp only [tq] at h))
            (refine wp_seq_k ?_; intro Kq15 hKq15)
            (have hpar : parS nm = true := (by assumption); have hyn : y = nm := (by assumption); have hj := idx_at hall (by rw [hyn] at hy; exact hy); obtain ⟨b9, o9, hao, x, v1, hx, hc1, hT1⟩ := FoM.pos hposa (k := k) (by omega); rw [hao] at S; replace hc1 := Cels.mono hF hc1; replace hT1 := hT1.mono hF; have hT1c := hT1; obtain ⟨a91, c91, rfl, -⟩ := hT1c; obtain ⟨hx40, hxth⟩ := hthL.get hx)
            refine wp_region_lit ?_
            iterate 2 (refine wpl_v S rfl rfl rfl (sv_pure S rfl) ?_; clear S a; intro a S)
            (refine wpl_v S rfl rfl rfl (sv_indexAddrSl S rfl rfl rfl (by omega)) ?_; clear S a; intro a S)
            (refine wpl_v S rfl rfl rfl (sv_loadAF S rfl rfl (by assumption) (by rfl)) ?_; clear S a; intro a S)
            (refine wpl_callF S rfl rfl rfl rfl rfl rfl (ownTypeCt (x.2.size + 1) F' x.1 x.2 _ (Nat.lt_succ_self _) ⟨_, rfl, hT1⟩ hx40 hxth) rfl ?_; clear S a; intro u9 F9 a w hv hF9 S; obtain ⟨a9, q9, c9, rfl, hs9⟩ := hv)
            (refine wpl_storeO S rfl rfl rfl rfl rfl (by rfl) (by simp [Value.cells, Value.oneCell', splice]) (by rfl) ?_; clear S; intro w S)
            (refine wpList_nil (hKq15 _ _ ?_); try clear hKq15 Kq15)
            refine wp_ret ?_
            (have S0 := S; ((have h9 := hs9; replace S := S.drop1.drop1)))
            
            refine fin_ret S (results1 Tryz.results10 (RV.cellO S0 rfl (by rfl))) ?_
            ((have h9 := hs9; have e9 : putT vs L (nm, ar) = x := (by unfold putT; rw [putA_yes hpar hj hx]; rfl); rw [e9]; exact ⟨_, _, _, rfl, hs9⟩))
          · (skip; (try simp only [tq] at h))
            refine wp_skip ?_
            (refine hKq13 _ _ ?_; try (clear hKq13 Kq13))
            (refine wp_seq_k ?_; intro Kq15 hKq15)
            (refine wpc_mixM [0, 1, 2, 3, 4, 5, 6] [3, 5] [] (.one 0 (.one 1 (.one 2 (.one 3 (.one 4 (.one 5 (.one 6 .nil))))))) [b3] S mixed (by kernel_rfl) ?_; clear S; intro w S)
            iterate 2 (refine wpm_v S rfl rfl rfl (want_none _ rfl) rfl rfl (fun w' S => sv_pure S rfl) ?_; clear S a; intro a S)
            (refine wpm_v S rfl rfl rfl (want_none _ rfl) rfl rfl (fun w' S => sv_indexAddrSl S rfl rfl rfl (by omega)) ?_; clear S a; intro a S)
            (refine wpm_lateF S rfl rfl rfl (want_none _ rfl) rfl rfl (fun w' S => sv_loadF S rfl rfl (by assumption)) ?_; clear S a; intro a S)
            (refine wpm_v S rfl rfl rfl (want_none _ rfl) rfl rfl (fun w' S => sv_fieldAddr S rfl rfl rfl inferInstance rfl) ?_; clear S a; intro a S)
            (refine wpm_lateO b3 S rfl rfl rfl (want_none _ rfl) rfl rfl (fun w' S => sv_loadO S rfl rfl (by rfl)) ?_; clear S a; intro a S)
            (refine wpm_v S rfl rfl rfl (want_none _ rfl) rfl rfl (fun w' S => sv_pure S rfl) ?_; clear S a; intro a S)
            (refine wpm_nil (by exact kwf S) (hKq15 _ _ ?_); try clear hKq15 Kq15)
            refine wpc_split S rfl (fun h => ?_) (fun h => ?_)
            · (skip; (try simp only [tq] at h))
              refine wp_exit ?_
              (refine hKq2 _ _ ?_)
              ((have hyn : y = nm := (by assumption); have hnp : ¬ parS nm = true := (by simp_all); rw [← hap] at S; refine ⟨putA_no (fun h => hnp h.1), ?_⟩; refine S.keep ?_; repeat (first | exact trivial | refine ⟨rfl, ?_⟩)))
            · (skip; (try simp only [tq] at h))
              refine wp_skip ?_
              (refine hKq12 _ _ ?_; try (clear hKq12 Kq12))
              refine wp_region_lit ?_
              (refine wpl_v S rfl rfl rfl (sv_pure S rfl) ?_; clear S a; intro a S)
              (refine wpl_v S rfl rfl rfl (sv_add S rfl rfl rfl (by omega)) ?_; clear S a; intro a S)
              (refine wpl_v S rfl rfl rfl (sv_pure S rfl) ?_; clear S a; intro a S)
              refine wpList_nil ?_
              change ∃ m', _ ∧ _
              (rw [← hap] at S; refine ⟨vs.length - (k + 1), by omega, k + 1, rfl, by omega, by omega, ?_, ?_⟩; rotate_left 1; (refine S.keep ?_; repeat (first | exact trivial | refine ⟨rfl, ?_⟩)); intro j z h7 h8; rcases Nat.lt_or_eq_of_le (Nat.le_of_lt_succ h7) with h6 | h6; exact hall j z h6 h8; subst h6; rw [hy] at h8; cases h8; have hne : ¬ y = nm := (by assumption); exact hne)
        · (intro h S'; clear S; have S := S'; clear S'; (try simp only [tq] at h))
          iterate 7 (refine wpm_skip S rfl rfl (want_no S rfl rfl rfl) rfl rfl ?_; clear S a; intro a S)
          (refine wpm_v S rfl rfl rfl (want_none _ rfl) rfl rfl (fun w' S => sv_pure S rfl) ?_; clear S a; intro a S)
          (refine wpm_nil (by exact kwf S) (hKq14 _ _ ?_); try clear hKq14 Kq14)
          refine wpc_false S rfl ?_
          refine wp_skip ?_
          (refine hKq13 _ _ ?_; try (clear hKq13 Kq13))
          (refine wp_seq_k ?_; intro Kq15 hKq15)
          (refine wpc_mixM [0, 1, 2, 3, 4, 5, 6] [3, 5] [] (.one 0 (.one 1 (.one 2 (.one 3 (.one 4 (.one 5 (.one 6 .nil))))))) [b3] S mixed (by kernel_rfl) ?_; clear S; intro w S)
          iterate 2 (refine wpm_v S rfl rfl rfl (want_none _ rfl) rfl rfl (fun w' S => sv_pure S rfl) ?_; clear S a; intro a S)
          (refine wpm_v S rfl rfl rfl (want_none _ rfl) rfl rfl (fun w' S => sv_indexAddrSl S rfl rfl rfl (by omega)) ?_; clear S a; intro a S)
          (refine wpm_lateF S rfl rfl rfl (want_none _ rfl) rfl rfl (fun w' S => sv_loadF S rfl rfl (by assumption)) ?_; clear S a; intro a S)
          (refine wpm_v S rfl rfl rfl (want_none _ rfl) rfl rfl (fun w' S => sv_fieldAddr S rfl rfl rfl inferInstance rfl) ?_; clear S a; intro a S)
          (refine wpm_lateO b3 S rfl rfl rfl (want_none _ rfl) rfl rfl (fun w' S => sv_loadO S rfl rfl (by rfl)) ?_; clear S a; intro a S)
          (refine wpm_v S rfl rfl rfl (want_none _ rfl) rfl rfl (fun w' S => sv_pure S rfl) ?_; clear S a; intro a S)
          (refine wpm_nil (by exact kwf S) (hKq15 _ _ ?_); try clear hKq15 Kq15)
          refine wpc_split S rfl (fun h => ?_) (fun h => ?_)
          · (skip; (try simp only [tq] at h))
            refine wp_exit ?_
            (refine hKq2 _ _ ?_)
            ((have hyn : y = nm := (by assumption); have hnp : ¬ parS nm = true := (by simp_all); rw [← hap] at S; refine ⟨putA_no (fun h => hnp h.1), ?_⟩; refine S.keep ?_; repeat (first | exact trivial | refine ⟨rfl, ?_⟩)))
          · (skip; (try simp only [tq] at h))
            refine wp_skip ?_
            (refine hKq12 _ _ ?_; try (clear hKq12 Kq12))
            refine wp_region_lit ?_
            (refine wpl_v S rfl rfl rfl (sv_pure S rfl) ?_; clear S a; intro a S)
            (refine wpl_v S rfl rfl rfl (sv_add S rfl rfl rfl (by omega)) ?_; clear S a; intro a S)
            (refine wpl_v S rfl rfl rfl (sv_pure S rfl) ?_; clear S a; intro a S)
            refine wpList_nil ?_
            change ∃ m', _ ∧ _
            (rw [← hap] at S; refine ⟨vs.length - (k + 1), by omega, k + 1, rfl, by omega, by omega, ?_, ?_⟩; rotate_left 1; (refine S.keep ?_; repeat (first | exact trivial | refine ⟨rfl, ?_⟩)); intro j z h7 h8; rcases Nat.lt_or_eq_of_le (Nat.le_of_lt_succ h7) with h6 | h6; exact hall j z h6 h8; subst h6; rw [hy] at h8; cases h8; have hne : ¬ y = nm := (by assumption); exact hne)
      · (skip; (try simp only [tq] at h))
        refine wp_exit ?_
        (refine hKq2 _ _ ?_)
        ((refine ⟨idx_none hall (by omega), ?_⟩; refine S.keep ?_; repeat (first | exact trivial | refine ⟨rfl, ?_⟩)))
    · (intro h; clear S a; intro a S; (try simp only [tq] at h))
      iterate 3 (refine wpl_skip S rfl rfl rfl rfl rfl ?_; clear S a; intro a S)
      (refine wpl_v S rfl rfl rfl (sv_pure S rfl) ?_; clear S a; intro a S)
      (refine wpList_nil (hKq11 _ _ ?_); try clear hKq11 Kq11)
      refine wpc_false S rfl ?_
      refine wp_exit ?_
      (refine hKq2 _ _ ?_)
      ((refine ⟨idx_none hall (by omega), ?_⟩; refine S.keep ?_; repeat (first | exact trivial | refine ⟨rfl, ?_⟩)))
set_option maxHeartbeats 2000000 in
theorem sameTypeCt (F : Heap) : ∀ (n : Nat) (nm nm2 : List UInt8) (ar ar2 : Fo) (cs cs2 : List Value), ar.size ≤ n → TyC F cs nm ar → TyC F cs2 nm2 ar2 → Ct Tryz.prog 11 [.agg ⟨cs⟩, .agg ⟨cs2⟩] F [] (fun _ _ u => u = .bool (decide (nm = nm2 ∧ ar = ar2))) := by
  intro n
  induction n using Nat.strongRecOn with
  | _ n ih =>
  intro nm nm2 ar ar2 cs cs2 hn h h2
  obtain ⟨v, rfl, ao, cap, rfl, hcap, hpos⟩ := h
  obtain ⟨v2, rfl, ao2, cap2, rfl, hcap2, hpos2⟩ := h2
  refine Ct.enter Tryz.func11 rfl Tryz.ntmps11 rfl fun w0 a S => ?_
  refine wp_sr fun Kq1 hKq1 => ?_
  (refine wpl_box S rfl rfl rfl rfl rfl ?_; clear S a; intro b2 a w S)
  (refine wpl_box S rfl rfl rfl rfl rfl ?_; clear S a; intro b3 a w S)
  (refine wpl_v S rfl rfl rfl (sv_pure S rfl) ?_; clear S a; intro a S)
  (refine wpList_nil (hKq1 _ _ (wp_seq_k fun Kq2 hKq2 => ?_)); try clear hKq1 Kq1)
  refine wp_sr fun Kq3 hKq3 => ?_
  (refine wpl_v S rfl rfl rfl (sv_fieldAddr S rfl rfl rfl inferInstance rfl) ?_; clear S a; intro a S)
  (refine wpl_v S rfl rfl rfl (sv_loadO S rfl rfl (by rfl)) ?_; clear S a; intro a S)
  (refine wpl_v S rfl rfl rfl (sv_fieldAddr S rfl rfl rfl inferInstance rfl) ?_; clear S a; intro a S)
  (refine wpl_v S rfl rfl rfl (sv_loadO S rfl rfl (by rfl)) ?_; clear S a; intro a S)
  iterate 2 (refine wpl_v S rfl rfl rfl (sv_pure S rfl) ?_; clear S a; intro a S)
  refine wpl_guard S rfl rfl rfl rfl rfl ?_ ?_
  · (intro h S'; clear S; have S := S'; clear S'; (try simp only [tq] at h))
    (refine wpl_v S rfl rfl rfl (sv_fieldAddr S rfl rfl rfl inferInstance rfl) ?_; clear S a; intro a S)
    refine wpl_take S rfl rfl rfl ?_
    (refine wpl_v S rfl rfl rfl (sv_loadO S rfl rfl (by rfl)) ?_; clear S a; intro a S)
    refine wpl_take S rfl rfl rfl ?_
    (refine wpl_v S rfl rfl rfl (sv_lenSl S rfl rfl) ?_; clear S a; intro a S)
    refine wpl_take S rfl rfl rfl ?_
    (refine wpl_v S rfl rfl rfl (sv_fieldAddr S rfl rfl rfl inferInstance rfl) ?_; clear S a; intro a S)
    refine wpl_take S rfl rfl rfl ?_
    (refine wpl_v S rfl rfl rfl (sv_loadO S rfl rfl (by rfl)) ?_; clear S a; intro a S)
    refine wpl_take S rfl rfl rfl ?_
    (refine wpl_v S rfl rfl rfl (sv_lenSl S rfl rfl) ?_; clear S a; intro a S)
    refine wpl_take S rfl rfl rfl ?_
    iterate 2 (refine wpl_v S rfl rfl rfl (sv_pure S rfl) ?_; clear S a; intro a S)
    (refine wpList_nil (hKq3 _ _ ?_); try clear hKq3 Kq3)
    refine wpc_split S rfl (fun h => ?_) (fun h => ?_)
    · (skip; (try simp only [tq] at h))
      refine wp_sr fun Kq4 hKq4 => ?_
      (refine wpl_v S rfl rfl rfl (sv_pure S rfl) ?_; clear S a; intro a S)
      (refine wpList_nil (hKq4 _ _ ?_); try clear hKq4 Kq4)
      refine wp_ret (fin_ret S (results1 Tryz.results11 (RV.tmp S rfl)) ?_)
      ((have hne : ¬ (nm = nm2 ∧ ar = ar2) := fun h9 => (by (exact absurd (congrArg Fo.len h9.2) (by omega))); rw [decide_eq_false hne]))
    · (skip; (try simp only [tq] at h))
      refine wp_skip ?_
      (refine hKq2 _ _ ?_; try (clear hKq2 Kq2))
      (refine wp_seq_k ?_; intro Kq4 hKq4)
      refine wp_sr fun Kq5 hKq5 => ?_
      (refine wpl_v S rfl rfl rfl (sv_pure S rfl) ?_; clear S a; intro a S)
      (refine wpList_nil (hKq5 _ _ ?_); try clear hKq5 Kq5)
      refine wp_block ?_
      refine wpc_loop (fun m a w' => ∃ (k : Nat), m = ar.len - k ∧ k ≤ ar.len ∧ (∀ j x y, j < k → ar.get? j = some x → ar2.get? j = some y → x = y) ∧ St 39 [(2, ptr b2), (3, ptr b3), (5, .int .i64 k)] w0 F [] F [[(b3, .cells ⟨[.string (bs nm2), .slice ao2 ar2.len cap2]⟩ 24 (0, 0))], [(b2, .cells ⟨[.string (bs nm), .slice ao ar.len cap]⟩ 24 (0, 0))]] a w') ?_ ?_
      · (refine ⟨ar.len, 0, by omega, Nat.zero_le _, fun j x y h => absurd h (Nat.not_lt_zero _), ?_⟩; refine S.keep ?_; repeat (first | exact trivial | refine ⟨rfl, ?_⟩))
      · (clear S; rintro m a w ⟨k, rfl, hkl, hall, S⟩)
        (refine wp_seq_k ?_; intro Kq6 hKq6)
        refine wp_sr fun Kq7 hKq7 => ?_
        (refine wpl_v S rfl rfl rfl (sv_pure S rfl) ?_; clear S a; intro a S)
        (refine wpl_v S rfl rfl rfl (sv_fieldAddr S rfl rfl rfl inferInstance rfl) ?_; clear S a; intro a S)
        (refine wpl_v S rfl rfl rfl (sv_loadO S rfl rfl (by rfl)) ?_; clear S a; intro a S)
        (refine wpl_v S rfl rfl rfl (sv_lenSl S rfl rfl) ?_; clear S a; intro a S)
        (refine wpl_v S rfl rfl rfl (sv_pure S rfl) ?_; clear S a; intro a S)
        (refine wpList_nil (hKq7 _ _ ?_); try clear hKq7 Kq7)
        refine wpc_split S rfl (fun h => ?_) (fun h => ?_)
        · (skip; (try simp only [tq] at h))
          refine wp_skip ?_
          (refine hKq6 _ _ ?_; try (clear hKq6 Kq6))
          (refine wp_seq_k ?_; intro Kq8 hKq8)
          refine wp_block ?_
          (refine wp_seq_k ?_; intro Kq9 hKq9)
          (obtain ⟨b8, o8, rfl, x, v1, hx, hc1, hT1⟩ := FoM.pos hpos (k := k) (by omega); obtain ⟨b9, o9, rfl, y, v2, hy, hc2, hT2⟩ := FoM.pos hpos2 (k := k) (by omega); have hxs := Fo.size_get hx)
          (refine wpc_mixM [0, 1, 2, 3, 4, 5, 6, 7, 8, 9, 11] [1, 4, 6, 9] [] (.one 0 (.one 1 (.one 2 (.one 3 (.one 4 (.one 5 (.one 6 (.one 7 (.one 8 (.one 9 (.one 10 (.one 11 .nil)))))))))))) [b2, b3] S mixed (by kernel_rfl) ?_; clear S; intro w S)
          (refine wpm_v S rfl rfl rfl (want_none _ rfl) rfl rfl (fun w' S => sv_fieldAddr S rfl rfl rfl inferInstance rfl) ?_; clear S a; intro a S)
          (refine wpm_lateO b2 S rfl rfl rfl (want_none _ rfl) rfl rfl (fun w' S => sv_loadO S rfl rfl (by rfl)) ?_; clear S a; intro a S)
          (refine wpm_v S rfl rfl rfl (want_none _ rfl) rfl rfl (fun w' S => sv_pure S rfl) ?_; clear S a; intro a S)
          (refine wpm_v S rfl rfl rfl (want_none _ rfl) rfl rfl (fun w' S => sv_indexAddrSl S rfl rfl rfl (by omega)) ?_; clear S a; intro a S)
          (refine wpm_lateF S rfl rfl rfl (want_none _ rfl) rfl rfl (fun w' S => sv_loadAF S rfl rfl (by assumption) (by rfl)) ?_; clear S a; intro a S)
          (refine wpm_v S rfl rfl rfl (want_none _ rfl) rfl rfl (fun w' S => sv_fieldAddr S rfl rfl rfl inferInstance rfl) ?_; clear S a; intro a S)
          (refine wpm_lateO b3 S rfl rfl rfl (want_none _ rfl) rfl rfl (fun w' S => sv_loadO S rfl rfl (by rfl)) ?_; clear S a; intro a S)
          (refine wpm_v S rfl rfl rfl (want_none _ rfl) rfl rfl (fun w' S => sv_pure S rfl) ?_; clear S a; intro a S)
          (refine wpm_v S rfl rfl rfl (want_none _ rfl) rfl rfl (fun w' S => sv_indexAddrSl S rfl rfl rfl (by omega)) ?_; clear S a; intro a S)
          (refine wpm_lateF S rfl rfl rfl (want_none _ rfl) rfl rfl (fun w' S => sv_loadAF S rfl rfl (by assumption) (by rfl)) ?_; clear S a; intro a S)
          refine wpm_eff rfl rfl (by exact kwf S) ?_
          (refine wpl_call0 S rfl rfl rfl rfl rfl rfl (ih x.2.size (by omega) x.1 y.1 x.2 y.2 _ _ (Nat.le_refl _) ⟨v1, rfl, hT1⟩ ⟨v2, rfl, hT2⟩) rfl ?_; clear S a; intro v a w hv S; subst hv)
          refine wpList_nil ?_
          (refine wpm_v S rfl rfl rfl (want_none _ rfl) rfl rfl (fun w' S => sv_pure S rfl) ?_; clear S a; intro a S)
          (refine wpm_nil (by exact kwf S) (hKq9 _ _ ?_); try clear hKq9 Kq9)
          refine wpc_split S rfl (fun h => ?_) (fun h => ?_)
          · (skip; (try simp only [tq] at h))
            refine wp_sr fun Kq10 hKq10 => ?_
            (refine wpl_v S rfl rfl rfl (sv_pure S rfl) ?_; clear S a; intro a S)
            (refine wpList_nil (hKq10 _ _ ?_); try clear hKq10 Kq10)
            refine wp_ret (fin_ret S (results1 Tryz.results11 (RV.tmp S rfl)) ?_)
            ((have hne : ¬ (nm = nm2 ∧ ar = ar2) := fun h9 => (by (have hn9 : ¬ (x.1 = y.1 ∧ x.2 = y.2) := (by assumption); obtain ⟨-, h9b⟩ := h9; rw [h9b] at hx; rw [hx] at hy; cases hy; exact hn9 ⟨rfl, rfl⟩)); rw [decide_eq_false hne]))
          · (skip; (try simp only [tq] at h))
            refine wp_skip ?_
            (refine hKq8 _ _ ?_; try (clear hKq8 Kq8))
            refine wp_region_lit ?_
            (refine wpl_v S rfl rfl rfl (sv_pure S rfl) ?_; clear S a; intro a S)
            (refine wpl_v S rfl rfl rfl (sv_add S rfl rfl rfl (by omega)) ?_; clear S a; intro a S)
            (refine wpl_v S rfl rfl rfl (sv_pure S rfl) ?_; clear S a; intro a S)
            refine wpList_nil ?_
            change ∃ m', _ ∧ _
            (refine ⟨ar.len - (k + 1), by omega, k + 1, rfl, by omega, ?_, ?_⟩; rotate_left 1; (refine S.keep ?_; repeat (first | exact trivial | refine ⟨rfl, ?_⟩)); intro j x9 y9 h7 h8 h9; rcases Nat.lt_or_eq_of_le (Nat.le_of_lt_succ h7) with h6 | h6; exact hall j x9 y9 h6 h8 h9; subst h6; rw [hx] at h8; rw [hy] at h9; cases h8; cases h9; have h5 : x.1 = y.1 ∧ x.2 = y.2 := (by assumption); exact Prod.ext h5.1 h5.2)
        · (skip; (try simp only [tq] at h))
          refine wp_exit ?_
          (refine hKq4 _ _ ?_; try (clear hKq4 Kq4))
          refine wp_sr fun Kq8 hKq8 => ?_
          (refine wpl_v S rfl rfl rfl (sv_pure S rfl) ?_; clear S a; intro a S)
          (refine wpList_nil (hKq8 _ _ ?_); try clear hKq8 Kq8)
          refine wp_ret (fin_ret S (results1 Tryz.results11 (RV.tmp S rfl)) ?_)
          ((have hee : nm = nm2 ∧ ar = ar2 := ⟨by assumption, get_eq (by omega) (fun j x y h8 h9 => hall j x y (by have := Fo.lt_get h8; omega) h8 h9)⟩; rw [decide_eq_true hee]))
  · (intro h; clear S a; intro a S; (try simp only [tq] at h))
    iterate 6 (refine wpl_skip S rfl rfl rfl rfl rfl ?_; clear S a; intro a S)
    (refine wpl_v S rfl rfl rfl (sv_pure S rfl) ?_; clear S a; intro a S)
    (refine wpList_nil (hKq3 _ _ ?_); try clear hKq3 Kq3)
    refine wpc_true S rfl ?_
    refine wp_sr fun Kq4 hKq4 => ?_
    (refine wpl_v S rfl rfl rfl (sv_pure S rfl) ?_; clear S a; intro a S)
    (refine wpList_nil (hKq4 _ _ ?_); try clear hKq4 Kq4)
    refine wp_ret (fin_ret S (results1 Tryz.results11 (RV.tmp S rfl)) ?_)
    ((have hne : ¬ (nm = nm2 ∧ ar = ar2) := fun h9 => (by exact absurd h9.1 (by assumption)); rw [decide_eq_false hne]))
end Go.Proofs.YtoaodbclgeeaeaaGreatDoor
