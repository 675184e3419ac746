/- take, with the number of new variables that were told. -/
import Derived.Test.YtcjnmehpkcblfaaDoorUnSm
namespace Go.Proofs.YtcjnmehpkcblfaaDoor
open Go Go.Wk Go.Un
set_option linter.unusedSimpArgs false
set_option linter.unusedVariables false
attribute [local irreducible] Go.wpList Go.Code.wp Go.wpStill Go.Wk.wpPre Go.bodyPost Go.Calls Go.Wk.Ct Go.Wk.OwnS
attribute [local irreducible] Go.Wk.wpG Go.Wk.wpM

def TabT (F : Heap) (tb mb : Nat) (T : Tb) (n : Nat) (told : Int) (G : List Grp) : Prop := ∃ vn vp vt vl gn gp gs gl, G = GT tb mb vn vp vt vl told T.vs gn gp gs gl ∧ TM F T n vn vp vt vl gn gp gs gl
theorem TabT.m {F : Heap} {tb mb : Nat} {T : Tb} {n : Nat} {told : Int} {G : List Grp} (h : TabT F tb mb T n told G) : TabM F tb mb T n G := by
  obtain ⟨vn, vp, vt, vl, gn, gp, gs, gl, rfl, h2⟩ := h
  exact ⟨vn, vp, vt, vl, told, gn, gp, gs, gl, rfl, h2⟩
theorem TabT.mono {F F' : Heap} (hF : ∀ b o, F b = some o → F' b = some o) {tb mb : Nat} {T : Tb} {n : Nat} {told : Int} {G : List Grp} (h : TabT F tb mb T n told G) : TabT F' tb mb T n told G := by
  obtain ⟨vn, vp, vt, vl, gn, gp, gs, gl, rfl, h2⟩ := h
  exact ⟨vn, vp, vt, vl, gn, gp, gs, gl, rfl, h2.mono hF⟩
theorem TabT.n {F : Heap} {tb mb : Nat} {T : Tb} {n : Nat} {told : Int} {G : List Grp} (h : TabT F tb mb T n told G) (hn : n = T.nd.length) : TabT F tb mb T T.nd.length told G := by subst hn; exact h
theorem TabT.stl {F : Heap} {tb mb : Nat} {T : Tb} {n : Nat} {told : Int} {G : List Grp} (h : TabT F tb mb T n told G) : T.st.length = n := h.m.stl
set_option maxHeartbeats 4000000 in
theorem addTCt (F : Heap) (tb mb : Nat) (told : Int) (T : Tb) (n : Nat) (G : List Grp) (nm : List UInt8) (ks : List Nat) (v : Value) (s : Int) (l : List UInt8) (hn : n ≤ 100000000) (h : TabT F tb mb T n told G) (hv : SlC F v ks.length (intsN ks)) :
    Ct Tryd.prog 33 [.pointer (some ⟨tb, 0, none⟩), .agg ⟨[.string (bs nm), v]⟩, .int .i64 s, .string (bs l)] F G (fun _ G' u => u = .int .i64 n ∧ TabT F tb mb (T.add nm ks s l) (n + 1) told G') := by
  obtain ⟨vn, vp, vt, vl, gn, gp, gs, gl, rfl, ⟨xs, hN, hNd⟩, hP, hS, hL⟩ := h
  have hln := hNd.len
  rw [ownS_len hN] at hln
  obtain ⟨aN, cN, rfl, -⟩ := hN.at
  have hv0 := hv
  obtain ⟨aV, cV, rfl, -, -⟩ := hv
  unfold GT
  refine Ct.enter Tryd.func33 rfl Tryd.ntmps33 rfl fun w0 a S => ?_
  (refine wp_seq_k ?_; intro Kq1 hKq1)
  refine wp_region_lit ?_
  (refine wpl_box S rfl rfl rfl rfl rfl ?_; clear S a; intro b5 a w S)
  (refine wpl_v S rfl rfl rfl (sv_pure S rfl) ?_; clear S a; intro a S)
  refine wpList_nil ?_
  (refine hKq1 _ _ ?_; try (clear hKq1 Kq1))
  (refine wp_seq_k ?_; intro Kq2 hKq2)
  refine wp_region_lit ?_
  (refine wpl_v S rfl rfl rfl (sv_pure S rfl) ?_; clear S a; intro a S)
  (refine wpl_v S rfl rfl rfl (sv_nilCheck S rfl rfl) ?_; clear S a; intro a S)
  (refine wpl_v S rfl rfl rfl (sv_fieldAddr S rfl rfl rfl inferInstance rfl) ?_; clear S a; intro a S)
  first | (refine wpl_v S rfl rfl rfl (sv_loadO S rfl rfl (by rfl)) ?_; clear S a; intro a S) | (refine wpl_v S rfl rfl rfl (sv_loadF S rfl rfl (by assumption)) ?_; clear S a; intro a S)
  (refine wpl_v S rfl rfl rfl (sv_lenSl S rfl rfl) ?_; clear S a; intro a S)
  (refine wpl_v S rfl rfl rfl (sv_pure S rfl) ?_; clear S a; intro a S)
  refine wpList_nil ?_
  (refine hKq2 _ _ ?_; try (clear hKq2 Kq2))
  (refine wp_seq_k ?_; intro Kq3 hKq3)
  (refine wpc_mixM [0, 1, 2, 3, 4, 5, 8, 9] [4, 5] [10] (.one 0 (.one 1 (.one 2 (.one 3 (.one 4 (.one 5 (.one 6 (.one 7 (.one 8 (.one 9 (.one 10 .nil))))))))))) [tb, b5] S mixed (by kernel_rfl) ?_; clear S; intro w S)
  (refine wpm_v S rfl rfl rfl (want_none _ rfl) rfl rfl (fun w' S => sv_pure S rfl) ?_; clear S a; intro a S)
  (refine wpm_v S rfl rfl rfl (want_none _ rfl) rfl rfl (fun w' S => sv_pure S rfl) ?_; clear S a; intro a S)
  (refine wpm_v S rfl rfl rfl (want_none _ rfl) rfl rfl (fun w' S => sv_nilCheck S rfl rfl) ?_; clear S a; intro a S)
  (refine wpm_v S rfl rfl rfl (want_none _ rfl) rfl rfl (fun w' S => sv_fieldAddr S rfl rfl rfl inferInstance rfl) ?_; clear S a; intro a S)
  first | (refine wpm_lateO tb S rfl rfl rfl (want_none _ rfl) rfl rfl (fun w' S => sv_loadO S rfl rfl (by rfl)) ?_; clear S a; intro a S) | (refine wpm_lateO tb S rfl rfl rfl (want_none _ rfl) rfl rfl (fun w' S => sv_loadAO S rfl rfl (by rfl)) ?_; clear S a; intro a S)
  first | (refine wpm_lateO b5 S rfl rfl rfl (want_none _ rfl) rfl rfl (fun w' S => sv_loadO S rfl rfl (by rfl)) ?_; clear S a; intro a S) | (refine wpm_lateO b5 S rfl rfl rfl (want_none _ rfl) rfl rfl (fun w' S => sv_loadAO S rfl rfl (by rfl)) ?_; clear S a; intro a S)
  refine wpm_eff rfl rfl (fun _ => ⟨fun b o h => S.tr.frz b o (by first | exact h | solve_by_elim), S.has inferInstance, S.has inferInstance, trivial⟩) ?_
  (refine wpl_buildSlice S rfl rfl rfl rfl rfl rfl (by rfl) (by simp [Value.cells, splice, splice]) rfl (by rfl) (by rfl) ?_; clear S a; intro b21 a w h21 S)
  refine wpList_nil ?_
  refine wpm_eff rfl rfl (fun _ => ⟨fun b o h => S.tr.frz b o (by first | exact h | solve_by_elim), S.has inferInstance, S.has inferInstance, trivial⟩) ?_
  (refine wpl_appendOwn S rfl rfl rfl rfl rfl rfl hN h21 (by rfl) (by simp [Value.cells, Value.oneCell', splice, splice]) (by omega) (by omega) ?_; clear hN S a; intro v g a w hN S)
  refine wpList_nil ?_
  (refine wpm_v S rfl rfl rfl (want_none _ rfl) rfl rfl (fun w' S => sv_nilCheck S rfl rfl) ?_; clear S a; intro a S)
  (refine wpm_v S rfl rfl rfl (want_none _ rfl) rfl rfl (fun w' S => sv_fieldAddr S rfl rfl rfl inferInstance rfl) ?_; clear S a; intro a S)
  refine wpm_eff rfl rfl (fun _ => ⟨fun b o h => S.tr.frz b o (by first | exact h | solve_by_elim), S.has inferInstance, S.has inferInstance, trivial⟩) ?_
  (refine wpl_store1 S rfl rfl rfl rfl rfl (OwnS.oneCell hN) (by simp) ?_; clear S; intro w S)
  refine wpList_nil ?_
  refine wpm_nil (fun h => absurd h (by decide)) ?_
  (refine hKq3 _ _ ?_; try (clear hKq3 Kq3))
  (refine wp_seq_k ?_; intro Kq4 hKq4)
  refine wp_region_lit ?_
  (refine wpl_v S rfl rfl rfl (sv_pure S rfl) ?_; clear S a; intro a S)
  (refine wpl_v S rfl rfl rfl (sv_pure S rfl) ?_; clear S a; intro a S)
  (refine wpl_v S rfl rfl rfl (sv_nilCheck S rfl rfl) ?_; clear S a; intro a S)
  (refine wpl_v S rfl rfl rfl (sv_fieldAddr S rfl rfl rfl inferInstance rfl) ?_; clear S a; intro a S)
  first | (refine wpl_v S rfl rfl rfl (sv_loadO S rfl rfl (by rfl)) ?_; clear S a; intro a S) | (refine wpl_v S rfl rfl rfl (sv_loadF S rfl rfl (by assumption)) ?_; clear S a; intro a S)
  (refine wpl_v S rfl rfl rfl (sv_pure S rfl) ?_; clear S a; intro a S)
  (refine wpl_append S rfl rfl rfl rfl rfl rfl rfl rfl rfl rfl rfl (fun _ => rfl) hP (by rfl) (by simp [Value.cells, splice, splice]) (by simp [Value.cells, Value.oneCell', splice, splice]) rfl (by rfl) (by rfl) rfl (by omega) (by omega) ?_; clear hP S a; intro v u g a w hP S)
  (refine wpl_v S rfl rfl rfl (sv_nilCheck S rfl rfl) ?_; clear S a; intro a S)
  (refine wpl_v S rfl rfl rfl (sv_fieldAddr S rfl rfl rfl inferInstance rfl) ?_; clear S a; intro a S)
  (refine wpl_store1 S rfl rfl rfl rfl rfl (OwnS.oneCell hP) (by simp) ?_; clear S; intro w S)
  refine wpList_nil ?_
  (refine hKq4 _ _ ?_; try (clear hKq4 Kq4))
  (refine wp_seq_k ?_; intro Kq5 hKq5)
  refine wp_region_lit ?_
  (refine wpl_v S rfl rfl rfl (sv_pure S rfl) ?_; clear S a; intro a S)
  (refine wpl_v S rfl rfl rfl (sv_pure S rfl) ?_; clear S a; intro a S)
  (refine wpl_v S rfl rfl rfl (sv_nilCheck S rfl rfl) ?_; clear S a; intro a S)
  (refine wpl_v S rfl rfl rfl (sv_fieldAddr S rfl rfl rfl inferInstance rfl) ?_; clear S a; intro a S)
  first | (refine wpl_v S rfl rfl rfl (sv_loadO S rfl rfl (by rfl)) ?_; clear S a; intro a S) | (refine wpl_v S rfl rfl rfl (sv_loadF S rfl rfl (by assumption)) ?_; clear S a; intro a S)
  (refine wpl_v S rfl rfl rfl (sv_pure S rfl) ?_; clear S a; intro a S)
  (refine wpl_append S rfl rfl rfl rfl rfl rfl rfl rfl rfl rfl rfl (fun _ => rfl) hS (by rfl) (by simp [Value.cells, splice, splice]) (by simp [Value.cells, Value.oneCell', splice, splice]) rfl (by rfl) (by rfl) rfl (by omega) (by omega) ?_; clear hS S a; intro v u g a w hS S)
  (refine wpl_v S rfl rfl rfl (sv_nilCheck S rfl rfl) ?_; clear S a; intro a S)
  (refine wpl_v S rfl rfl rfl (sv_fieldAddr S rfl rfl rfl inferInstance rfl) ?_; clear S a; intro a S)
  (refine wpl_store1 S rfl rfl rfl rfl rfl (OwnS.oneCell hS) (by simp) ?_; clear S; intro w S)
  refine wpList_nil ?_
  (refine hKq5 _ _ ?_; try (clear hKq5 Kq5))
  (refine wp_seq_k ?_; intro Kq6 hKq6)
  refine wp_region_lit ?_
  (refine wpl_v S rfl rfl rfl (sv_pure S rfl) ?_; clear S a; intro a S)
  (refine wpl_v S rfl rfl rfl (sv_pure S rfl) ?_; clear S a; intro a S)
  (refine wpl_v S rfl rfl rfl (sv_nilCheck S rfl rfl) ?_; clear S a; intro a S)
  (refine wpl_v S rfl rfl rfl (sv_fieldAddr S rfl rfl rfl inferInstance rfl) ?_; clear S a; intro a S)
  first | (refine wpl_v S rfl rfl rfl (sv_loadO S rfl rfl (by rfl)) ?_; clear S a; intro a S) | (refine wpl_v S rfl rfl rfl (sv_loadF S rfl rfl (by assumption)) ?_; clear S a; intro a S)
  (refine wpl_v S rfl rfl rfl (sv_pure S rfl) ?_; clear S a; intro a S)
  (refine wpl_append S rfl rfl rfl rfl rfl rfl rfl rfl rfl rfl rfl (fun _ => rfl) hL (by rfl) (by simp [Value.cells, splice, splice]) (by simp [Value.cells, Value.oneCell', splice, splice]) rfl (by rfl) (by rfl) rfl (by omega) (by omega) ?_; clear hL S a; intro v u g a w hL S)
  (refine wpl_v S rfl rfl rfl (sv_nilCheck S rfl rfl) ?_; clear S a; intro a S)
  (refine wpl_v S rfl rfl rfl (sv_fieldAddr S rfl rfl rfl inferInstance rfl) ?_; clear S a; intro a S)
  (refine wpl_store1 S rfl rfl rfl rfl rfl (OwnS.oneCell hL) (by simp) ?_; clear S; intro w S)
  refine wpList_nil ?_
  (refine hKq6 _ _ ?_; try (clear hKq6 Kq6))
  (refine wp_seq_k ?_; intro Kq7 hKq7)
  refine wp_region_lit ?_
  (refine wpl_v S rfl rfl rfl (sv_pure S rfl) ?_; clear S a; intro a S)
  (refine wpl_v S rfl rfl rfl (sv_pure S rfl) ?_; clear S a; intro a S)
  refine wpList_nil ?_
  (refine hKq7 _ _ ?_; try (clear hKq7 Kq7))
  refine wp_ret ?_
  (replace S := S.drop1)
  
  refine fin_ret S (results1 Tryd.results33 (RV.tmp S rfl)) ?_
  (refine ⟨rfl, _, _, _, _, _, _, _, _, rfl, ⟨⟨_, hN, hNd.app ⟨rfl, hv0, trivial⟩⟩, ?_, ?_, ?_⟩⟩; (show OwnS _ _ _ _ (intsN (T.pa ++ [T.nd.length])) _; rw [show T.nd.length = n by omega, intsN, List.map_append]; exact hP); (show OwnS _ _ _ _ (intsI (T.st ++ [s])) _; rw [intsI, List.map_append]; exact hS); (show OwnS _ _ _ _ (strs (T.le ++ [l])) _; rw [strs, List.map_append]; exact hL))
def TakeTCt (tb mb : Nat) (told : Int) (m : Nat) : Prop := ∀ (F : Heap) (nm : List UInt8) (ar : Fo) (cs : List Value) (T : Tb) (G : List Grp), ar.size < m → TyC F cs nm ar → TabT F tb mb T T.nd.length told G → T.nd.length + ar.size + 1 ≤ 10000000 →
  Ct Tryd.prog 18 [.pointer (some ⟨tb, 0, none⟩), .agg ⟨cs⟩] F G (fun F' G' u => u = .int .i64 (takeT nm ar T).2 ∧ TabT F' tb mb (takeT nm ar T).1 (takeT nm ar T).1.nd.length told G')
set_option maxHeartbeats 8000000 in
theorem takeTCt (tb mb : Nat) (told : Int) : ∀ m, TakeTCt tb mb told m := by
  intro m
  induction m with
  | zero => intro F nm ar cs T G hm; omega
  | succ m ih =>
  intro F nm ar cs T G hm hT hTab hsz
  have hT0 := hT
  obtain ⟨v, rfl, ao, cap, rfl, hcap, hpos⟩ := hT
  have hTab0 := hTab
  have hls := Fo.len_size ar
  obtain ⟨vn, vp, vt, vl, gn, gp, gs, gl, rfl, hTM⟩ := hTab
  unfold GT at *
  refine Ct.enter Tryd.func18 rfl Tryd.ntmps18 rfl fun w0 a S => ?_
  (refine wp_seq_k ?_; intro Kq1 hKq1)
  refine wp_region_lit ?_
  (refine wpl_box S rfl rfl rfl rfl rfl ?_; clear S a; intro b3 a w S)
  (refine wpl_v S rfl rfl rfl (sv_pure S rfl) ?_; clear S a; intro a S)
  refine wpList_nil ?_
  (refine hKq1 _ _ ?_; try (clear hKq1 Kq1))
  (refine wp_seq_k ?_; intro Kq2 hKq2)
  (refine wp_seq_k ?_; intro Kq3 hKq3)
  refine wp_region_lit ?_
  first | (refine wpl_v S rfl rfl rfl (sv_loadAO S rfl rfl (by rfl)) ?_; clear S a; intro a S) | (refine wpl_v S rfl rfl rfl (sv_loadAF S rfl rfl (by assumption) (by rfl)) ?_; clear S a; intro a S)
  (refine wpl_call0 S rfl rfl rfl rfl rfl rfl (isVarCt nm ar _ F hT0) rfl ?_; clear S a; intro v a w hv S; subst hv)
  refine wpList_nil ?_
  (refine hKq3 _ _ ?_; try (clear hKq3 Kq3))
  refine wpc_split S rfl (fun h => ?_) (fun h => ?_)
  · (skip; (try simp only [decide_eq_true_eq, decide_eq_false_iff_not, beq_iff_eq, bne_iff_ne, bne_eq_false_iff_eq, beq_eq_false_iff_ne, ne_eq, Bool.not_eq_true', Bool.not_eq_false', Bool.not_eq_true, Bool.not_eq_false, Bool.not_true, Bool.not_false, Int.ofNat_lt, Int.ofNat_le, Nat.not_lt, Nat.not_le] at h))
    (refine wp_seq_k ?_; intro Kq4 hKq4)
    (refine wpc_mixM [0, 1, 2, 3, 4, 5, 6, 7, 8, 9] [3, 5, 6] [] (.one 0 (.one 1 (.one 2 (.one 3 (.one 4 (.one 5 (.one 6 (.one 7 (.one 8 (.one 9 (.one 10 (.one 11 .nil)))))))))))) [tb, b3, mb] S mixed (by kernel_rfl) ?_; clear S; intro w S)
    (refine wpm_v S rfl rfl rfl (want_none _ rfl) rfl rfl (fun w' S => sv_pure S rfl) ?_; clear S a; intro a S)
    (refine wpm_v S rfl rfl rfl (want_none _ rfl) rfl rfl (fun w' S => sv_nilCheck S rfl rfl) ?_; clear S a; intro a S)
    (refine wpm_v S rfl rfl rfl (want_none _ rfl) rfl rfl (fun w' S => sv_fieldAddr S rfl rfl rfl inferInstance rfl) ?_; clear S a; intro a S)
    first | (refine wpm_lateO tb S rfl rfl rfl (want_none _ rfl) rfl rfl (fun w' S => sv_loadO S rfl rfl (by rfl)) ?_; clear S a; intro a S) | (refine wpm_lateO tb S rfl rfl rfl (want_none _ rfl) rfl rfl (fun w' S => sv_loadAO S rfl rfl (by rfl)) ?_; clear S a; intro a S)
    (refine wpm_v S rfl rfl rfl (want_none _ rfl) rfl rfl (fun w' S => sv_fieldAddr S rfl rfl rfl inferInstance rfl) ?_; clear S a; intro a S)
    first | (refine wpm_lateO b3 S rfl rfl rfl (want_none _ rfl) rfl rfl (fun w' S => sv_loadO S rfl rfl (by rfl)) ?_; clear S a; intro a S) | (refine wpm_lateO b3 S rfl rfl rfl (want_none _ rfl) rfl rfl (fun w' S => sv_loadAO S rfl rfl (by rfl)) ?_; clear S a; intro a S)
    (refine wpm_lateO mb S rfl rfl rfl (want_none _ rfl) rfl rfl (fun w' S => sv_lookupO (enc := kS) S rfl rfl rfl) ?_; clear S a; intro a S)
    (refine wpm_v S rfl rfl rfl (want_none _ rfl) rfl rfl (fun w' S => sv_pure S rfl) ?_; clear S a; intro a S)
    (refine wpm_v S rfl rfl rfl (want_none _ rfl) rfl rfl (fun w' S => sv_pure S rfl) ?_; clear S a; intro a S)
    (refine wpm_v S rfl rfl rfl (want_none _ rfl) rfl rfl (fun w' S => sv_pure S rfl) ?_; clear S a; intro a S)
    refine wpm_eff rfl rfl (fun _ => ⟨fun b o h => S.tr.frz b o (by first | exact h | solve_by_elim), S.has inferInstance, S.has inferInstance, S.has inferInstance, trivial⟩) ?_
    (refine wpl_v S rfl rfl rfl (sv_pure S rfl) ?_; clear S a; intro a S)
    refine wpList_nil ?_
    refine wpm_eff rfl rfl (fun _ => ⟨fun b o h => S.tr.frz b o (by first | exact h | solve_by_elim), S.has inferInstance, S.has inferInstance, S.has inferInstance, trivial⟩) ?_
    (refine wpl_v S rfl rfl rfl (sv_pure S rfl) ?_; clear S a; intro a S)
    refine wpList_nil ?_
    refine wpm_nil (fun _ => ⟨fun b o h => S.tr.frz b o (by first | exact h | solve_by_elim), S.has inferInstance, S.has inferInstance, S.has inferInstance, trivial⟩) ?_
    (refine hKq4 _ _ ?_; try (clear hKq4 Kq4))
    (refine wp_seq_k ?_; intro Kq5 hKq5)
    (refine wp_seq_k ?_; intro Kq6 hKq6)
    refine wp_region_lit ?_
    (refine wpl_v S rfl rfl rfl (sv_pure S rfl) ?_; clear S a; intro a S)
    (refine wpl_v S rfl rfl rfl (sv_pure S rfl) ?_; clear S a; intro a S)
    refine wpList_nil ?_
    (refine hKq6 _ _ ?_; try (clear hKq6 Kq6))
    refine wpc_split S rfl (fun h => ?_) (fun h => ?_)
    · (skip; (try simp only [decide_eq_true_eq, decide_eq_false_iff_not, beq_iff_eq, bne_iff_ne, bne_eq_false_iff_eq, beq_eq_false_iff_ne, ne_eq, Bool.not_eq_true', Bool.not_eq_false', Bool.not_eq_true, Bool.not_eq_false, Bool.not_true, Bool.not_false, Int.ofNat_lt, Int.ofNat_le, Nat.not_lt, Nat.not_le] at h))
      (refine wp_seq_k ?_; intro Kq7 hKq7)
      (have hvg : vget T.vs nm = none := (by cases hv : vget T.vs nm with | none => rfl | some i9 => (exfalso; rw [mGet_mapV, hv] at h; simp at h)))
      refine wp_region_lit ?_
      (refine wpl_v S rfl rfl rfl (sv_pure S rfl) ?_; clear S a; intro a S)
      (refine wpl_v S rfl rfl rfl (sv_fieldAddr S rfl rfl rfl inferInstance rfl) ?_; clear S a; intro a S)
      first | (refine wpl_v S rfl rfl rfl (sv_loadO S rfl rfl (by rfl)) ?_; clear S a; intro a S) | (refine wpl_v S rfl rfl rfl (sv_loadF S rfl rfl (by assumption)) ?_; clear S a; intro a S)
      (refine wpl_v S rfl rfl rfl (sv_build S rfl rfl rfl) ?_; clear S a; intro a S)
      (refine wpl_v S rfl rfl rfl (sv_fieldAddr S rfl rfl rfl inferInstance rfl) ?_; clear S a; intro a S)
      first | (refine wpl_v S rfl rfl rfl (sv_loadO S rfl rfl (by rfl)) ?_; clear S a; intro a S) | (refine wpl_v S rfl rfl rfl (sv_loadF S rfl rfl (by assumption)) ?_; clear S a; intro a S)
      (first | (refine wpl_callOwn (Gs := GT tb mb vn vp vt vl told T.vs gn gp gs gl) (Gr := [[(b3, .cells ⟨[.string (bs nm), .slice ao ar.len cap]⟩ 36 (0, 0))]]) S rfl rfl rfl rfl rfl rfl (addTCt F tb mb told T T.nd.length _ nm [] (.slice none 0 0) (-1) nm (by omega) hTab0 (nilSl F)) rfl (grp_perm (A := [[(b3, .cells ⟨[.string (bs nm), .slice ao ar.len cap]⟩ 36 (0, 0))]])) ?_; clear S a; intro u9 G9 a w hv S; obtain ⟨rfl, hTab2⟩ := hv; obtain ⟨vn2, vp2, vt2, vl2, gn2, gp2, gs2, gl2, rfl, hTM2⟩ := hTab2; (simp only [GT, List.cons_append, List.nil_append] at S)) | (refine wpl_callOwn (Gs := GG) (Gr := [[(b3, .cells ⟨[.string (bs nm), .slice ao ar.len cap]⟩ 36 (0, 0))]]) S rfl rfl rfl rfl rfl rfl (addTCt F2 tb mb told T' T'.nd.length GG nm ks _ 0 [] (by omega) hTabF hsl) rfl (grp_perm (A := [[(b3, .cells ⟨[.string (bs nm), .slice ao ar.len cap]⟩ 36 (0, 0))]])) ?_; clear S a; intro u9 G9 a w hv S; obtain ⟨rfl, hTab2⟩ := hv; obtain ⟨vn2, vp2, vt2, vl2, gn2, gp2, gs2, gl2, rfl, hN2, hP2, hS2, hL2⟩ := hTab2; obtain ⟨bs2, cs2, ex2, rfl, rfl, hcs1, hcs2, hls2, hex2⟩ := ownS_blk hS2 (by omega); (simp only [GT, List.cons_append, List.nil_append] at S)))
      (refine wpl_v S rfl rfl rfl (sv_pure S rfl) ?_; clear S a; intro a S)
      refine wpList_nil ?_
      (refine hKq7 _ _ ?_; try (clear hKq7 Kq7))
      (refine wpc_mixM [0, 1, 2, 3, 4, 5, 6] [3, 5] [] (.one 0 (.one 1 (.one 2 (.one 3 (.one 4 (.one 5 (.one 6 (.one 7 .nil)))))))) [tb, b3] S mixed (by kernel_rfl) ?_; clear S; intro w S)
      (refine wpm_v S rfl rfl rfl (want_none _ rfl) rfl rfl (fun w' S => sv_pure S rfl) ?_; clear S a; intro a S)
      (refine wpm_v S rfl rfl rfl (want_none _ rfl) rfl rfl (fun w' S => sv_nilCheck S rfl rfl) ?_; clear S a; intro a S)
      (refine wpm_v S rfl rfl rfl (want_none _ rfl) rfl rfl (fun w' S => sv_fieldAddr S rfl rfl rfl inferInstance rfl) ?_; clear S a; intro a S)
      first | (refine wpm_lateO tb S rfl rfl rfl (want_none _ rfl) rfl rfl (fun w' S => sv_loadO S rfl rfl (by rfl)) ?_; clear S a; intro a S) | (refine wpm_lateO tb S rfl rfl rfl (want_none _ rfl) rfl rfl (fun w' S => sv_loadAO S rfl rfl (by rfl)) ?_; clear S a; intro a S)
      (refine wpm_v S rfl rfl rfl (want_none _ rfl) rfl rfl (fun w' S => sv_fieldAddr S rfl rfl rfl inferInstance rfl) ?_; clear S a; intro a S)
      first | (refine wpm_lateO b3 S rfl rfl rfl (want_none _ rfl) rfl rfl (fun w' S => sv_loadO S rfl rfl (by rfl)) ?_; clear S a; intro a S) | (refine wpm_lateO b3 S rfl rfl rfl (want_none _ rfl) rfl rfl (fun w' S => sv_loadAO S rfl rfl (by rfl)) ?_; clear S a; intro a S)
      (refine wpm_v S rfl rfl rfl (want_none _ rfl) rfl rfl (fun w' S => sv_pure S rfl) ?_; clear S a; intro a S)
      refine wpm_eff rfl rfl (fun _ => ⟨fun b o h => S.tr.frz b o (by first | exact h | solve_by_elim), S.has inferInstance, S.has inferInstance, trivial⟩) ?_
      (refine wpl_mapSet (enc := kS) S rfl rfl rfl rfl rfl rfl ?_; clear S; intro w S)
      refine wpList_nil ?_
      refine wpm_nil (fun _ => ⟨fun b o h => S.tr.frz b o (by first | exact h | solve_by_elim), S.has inferInstance, S.has inferInstance, trivial⟩) ?_
      (refine hKq5 _ _ ?_; try (clear hKq5 Kq5))
      (refine wp_seq_k ?_; intro Kq8 hKq8)
      (first | (have e9 : mSet (mapV (T.add nm [] (-1) nm).vs) nm (.int .i64 (T.nd.length : Int)) = mapV (T.vs ++ [(nm, T.nd.length)]) := mSet_mapV _ hvg; rw [e9] at S) | skip)
      refine wp_region_lit ?_
      (refine wpl_v S rfl rfl rfl (sv_pure S rfl) ?_; clear S a; intro a S)
      (refine wpl_v S rfl rfl rfl (sv_pure S rfl) ?_; clear S a; intro a S)
      refine wpList_nil ?_
      (refine hKq8 _ _ ?_; try (clear hKq8 Kq8))
      refine wp_ret ?_
      (first | (replace S := St.dropR (A := [[(tb, _)], [(mb, _)], gn2, gp2, _, gl2]) (B := [[(b3, _)]]) S) | (replace S := S.drop1))
      
      refine fin_ret S (results1 Tryd.results18 (RV.tmp S rfl)) ?_
      (first | (have e : takeT nm ar T = takeN (T', ks) nm := (by unfold takeT; rw [if_neg (by rw [hnv]; simp), htk]); rw [e]; exact ⟨rfl, TabT.n (n := T'.nd.length + 1) ⟨_, _, _, _, _, _, _, _, rfl, ⟨hN2, hP2, ownS_mk1 (by rw [intsI_len]; simp [takeN, Tb.add, hstl]) hcs1 hcs2 (by simp only [List.length_append, intsI_len] at hex2 ⊢; simp [takeN, Tb.add, hstl] at hex2 ⊢; omega), hL2⟩⟩ (by simp [takeN, Tb.add])⟩) | (have hvr : varT nm ar = true := (by assumption); have e : takeT nm ar T = ({ T.add nm [] (-1) nm with vs := T.vs ++ [(nm, T.nd.length)] }, T.nd.length) := (by unfold takeT takeV; rw [if_pos hvr, hvg]); rw [e]; exact ⟨rfl, TabT.n (n := T.nd.length + 1) ⟨_, _, _, _, _, _, _, _, rfl, ⟨hTM2.hn, hTM2.hp, hTM2.hs, hTM2.hl⟩⟩ (by simp [Tb.add])⟩) | (have hvr : varT nm ar = true := (by assumption); cases hv : vget T.vs nm with | none => (exfalso; rw [mGet_mapV, hv] at h; simp at h; done) | some i9 => (have e : takeT nm ar T = (T, i9) := (by unfold takeT takeV; rw [if_pos hvr, hv]); rw [e, mGet_mapV, hv]; exact ⟨rfl, hTab0⟩)) | trace_state)
    · (skip; (try simp only [decide_eq_true_eq, decide_eq_false_iff_not, beq_iff_eq, bne_iff_ne, bne_eq_false_iff_eq, beq_eq_false_iff_ne, ne_eq, Bool.not_eq_true', Bool.not_eq_false', Bool.not_eq_true, Bool.not_eq_false, Bool.not_true, Bool.not_false, Int.ofNat_lt, Int.ofNat_le, Nat.not_lt, Nat.not_le] at h))
      refine wp_skip ?_
      (refine hKq5 _ _ ?_; try (clear hKq5 Kq5))
      (refine wp_seq_k ?_; intro Kq7 hKq7)
      (first | (have e9 : mSet (mapV (T.add nm [] (-1) nm).vs) nm (.int .i64 (T.nd.length : Int)) = mapV (T.vs ++ [(nm, T.nd.length)]) := mSet_mapV _ hvg; rw [e9] at S) | skip)
      refine wp_region_lit ?_
      (refine wpl_v S rfl rfl rfl (sv_pure S rfl) ?_; clear S a; intro a S)
      (refine wpl_v S rfl rfl rfl (sv_pure S rfl) ?_; clear S a; intro a S)
      refine wpList_nil ?_
      (refine hKq7 _ _ ?_; try (clear hKq7 Kq7))
      refine wp_ret ?_
      (first | (replace S := St.dropR (A := [[(tb, _)], [(mb, _)], gn2, gp2, _, gl2]) (B := [[(b3, _)]]) S) | (replace S := S.drop1))
      
      refine fin_ret S (results1 Tryd.results18 (RV.tmp S rfl)) ?_
      (first | (have e : takeT nm ar T = takeN (T', ks) nm := (by unfold takeT; rw [if_neg (by rw [hnv]; simp), htk]); rw [e]; exact ⟨rfl, TabT.n (n := T'.nd.length + 1) ⟨_, _, _, _, _, _, _, _, rfl, ⟨hN2, hP2, ownS_mk1 (by rw [intsI_len]; simp [takeN, Tb.add, hstl]) hcs1 hcs2 (by simp only [List.length_append, intsI_len] at hex2 ⊢; simp [takeN, Tb.add, hstl] at hex2 ⊢; omega), hL2⟩⟩ (by simp [takeN, Tb.add])⟩) | (have hvr : varT nm ar = true := (by assumption); have e : takeT nm ar T = ({ T.add nm [] (-1) nm with vs := T.vs ++ [(nm, T.nd.length)] }, T.nd.length) := (by unfold takeT takeV; rw [if_pos hvr, hvg]); rw [e]; exact ⟨rfl, TabT.n (n := T.nd.length + 1) ⟨_, _, _, _, _, _, _, _, rfl, ⟨hTM2.hn, hTM2.hp, hTM2.hs, hTM2.hl⟩⟩ (by simp [Tb.add])⟩) | (have hvr : varT nm ar = true := (by assumption); cases hv : vget T.vs nm with | none => (exfalso; rw [mGet_mapV, hv] at h; simp at h; done) | some i9 => (have e : takeT nm ar T = (T, i9) := (by unfold takeT takeV; rw [if_pos hvr, hv]); rw [e, mGet_mapV, hv]; exact ⟨rfl, hTab0⟩)) | trace_state)
  · (skip; (try simp only [decide_eq_true_eq, decide_eq_false_iff_not, beq_iff_eq, bne_iff_ne, bne_eq_false_iff_eq, beq_eq_false_iff_ne, ne_eq, Bool.not_eq_true', Bool.not_eq_false', Bool.not_eq_true, Bool.not_eq_false, Bool.not_true, Bool.not_false, Int.ofNat_lt, Int.ofNat_le, Nat.not_lt, Nat.not_le] at h))
    refine wp_skip ?_
    (refine hKq2 _ _ ?_; try (clear hKq2 Kq2))
    (refine wp_seq_k ?_; intro Kq4 hKq4)
    refine wp_region_lit ?_
    (refine wpl_v S rfl rfl rfl (sv_pure S rfl) ?_; clear S a; intro a S)
    refine wpList_nil ?_
    (refine hKq4 _ _ ?_; try (clear hKq4 Kq4))
    (refine wp_seq_k ?_; intro Kq5 hKq5)
    (refine wp_seq_k ?_; intro Kq6 hKq6)
    refine wp_region_lit ?_
    (refine wpl_v S rfl rfl rfl (sv_fieldAddr S rfl rfl rfl inferInstance rfl) ?_; clear S a; intro a S)
    first | (refine wpl_v S rfl rfl rfl (sv_loadO S rfl rfl (by rfl)) ?_; clear S a; intro a S) | (refine wpl_v S rfl rfl rfl (sv_loadF S rfl rfl (by assumption)) ?_; clear S a; intro a S)
    (refine wpl_v S rfl rfl rfl (sv_lenSl S rfl rfl) ?_; clear S a; intro a S)
    (refine wpl_v S rfl rfl rfl (sv_pure S rfl) ?_; clear S a; intro a S)
    refine wpList_nil ?_
    (refine hKq6 _ _ ?_; try (clear hKq6 Kq6))
    refine wp_block ?_
    refine wpc_loop (fun m a w' => ∃ (k : Nat) (T' : Tb) (ks : List Nat) (v : Value) (g : Grp) (F' : Heap) (GG : List Grp), m = ar.len - k ∧ k ≤ ar.len ∧ (∀ b o, F b = some o → F' b = some o) ∧ takeL ar T = ((takeL (ar.drop k) T').1, ks ++ (takeL (ar.drop k) T').2) ∧ ks.length = k ∧ OwnS 3 1 v k (intsN ks) g ∧ TabT F' tb mb T' T'.nd.length told GG ∧ T'.nd.length + (ar.drop k).size ≤ T.nd.length + ar.size ∧ St 68 [(0, ptr tb), (3, ptr b3), (7, v), (41, .slice ao ar.len cap), (42, .int .i64 ar.len), (43, .int .i64 k)] w0 F (keys (GT tb mb vn vp vt vl told T.vs gn gp gs gl)) F' (g :: [(b3, .cells ⟨[.string (bs nm), .slice ao ar.len cap]⟩ 36 (0, 0))] :: GG) a w') ?_ ?_
    · (refine ⟨ar.len, 0, T, [], _, [], F, _, by omega, Nat.zero_le _, fun _ _ h => h, rfl, rfl, OwnS.nil _ _, hTab0, Nat.le_refl _, ?_⟩; replace S := S.nilg; (refine S.keep ?_; repeat (first | exact trivial | refine ⟨rfl, ?_⟩)))
    · (clear S; rintro m a w ⟨k, T', ks, v, g, F', GG, rfl, hkl, hF', hst, hkl9, hown, hTab', hsz', S⟩)
      (refine wp_seq_k ?_; intro Kq7 hKq7)
      (have hnv : varT nm ar = false := (by assumption))
      refine wp_region_lit ?_
      (refine wpl_v S rfl rfl rfl (sv_pure S rfl) ?_; clear S a; intro a S)
      refine wpList_nil ?_
      (refine hKq7 _ _ ?_; try (clear hKq7 Kq7))
      (refine wp_seq_k ?_; intro Kq8 hKq8)
      refine wpc_split S rfl (fun h => ?_) (fun h => ?_)
      · (skip; (try simp only [decide_eq_true_eq, decide_eq_false_iff_not, beq_iff_eq, bne_iff_ne, bne_eq_false_iff_eq, beq_eq_false_iff_ne, ne_eq, Bool.not_eq_true', Bool.not_eq_false', Bool.not_eq_true, Bool.not_eq_false, Bool.not_true, Bool.not_false, Int.ofNat_lt, Int.ofNat_le, Nat.not_lt, Nat.not_le] at h))
        refine wp_skip ?_
        (refine hKq8 _ _ ?_; try (clear hKq8 Kq8))
        (refine wp_seq_k ?_; intro Kq9 hKq9)
        refine wp_block ?_
        (refine wp_seq_k ?_; intro Kq10 hKq10)
        (obtain ⟨b8, o8, rfl, x, v1, hx, hc1, hT1⟩ := FoM.pos hpos (k := k) (by omega); replace hc1 := Cels.mono hF' hc1; replace hT1 := hT1.mono hF'; obtain ⟨ao9, cap9, rfl, hT9⟩ := hT1; have hT1 : SlF F' (.slice ao9 x.2.len cap9) x.2 := ⟨_, _, rfl, hT9⟩; have hxs := Fo.size_get hx; have hdr := Fo.drop_get hx; have hdz : (ar.drop k).size = x.2.size + (ar.drop (k + 1)).size + 1 := (by rw [hdr]; simp only [Fo.size]); have htl := takeT_len x.1 x.2 T')
        refine wp_region_lit ?_
        (refine wpl_v S rfl rfl rfl (sv_indexAddrSl S rfl rfl rfl (by first | omega | (simp only [List.length_append, List.length_cons, List.length_nil]; omega))) ?_; clear S a; intro a S)
        first | (refine wpl_v S rfl rfl rfl (sv_loadAO S rfl rfl (by rfl)) ?_; clear S a; intro a S) | (refine wpl_v S rfl rfl rfl (sv_loadAF S rfl rfl (by assumption) (by rfl)) ?_; clear S a; intro a S)
        (refine wpl_alloc S rfl rfl rfl rfl ?_; clear S a; intro b9 a w S)
        (refine wpl_storeO S rfl rfl rfl rfl rfl (by rfl) (by simp [Value.cells, Value.oneCell', splice]) (by rfl) ?_; clear S; intro w S)
        refine wpList_nil ?_
        (refine hKq10 _ _ ?_; try (clear hKq10 Kq10))
        refine wp_region_lit ?_
        (refine wpl_v S rfl rfl rfl (sv_pure S rfl) ?_; clear S a; intro a S)
        (refine wpl_v S rfl rfl rfl (sv_pure S rfl) ?_; clear S a; intro a S)
        first | (refine wpl_v S rfl rfl rfl (sv_loadAO S rfl rfl (by rfl)) ?_; clear S a; intro a S) | (refine wpl_v S rfl rfl rfl (sv_loadAF S rfl rfl (by assumption) (by rfl)) ?_; clear S a; intro a S)
        (refine wpl_call (Gs := GG) (Gr := [[(b9, .cells ⟨[.string (bs x.1), .slice ao9 x.2.len cap9]⟩ 36 (0, 0))], g, [(b3, _)]]) S rfl rfl rfl rfl rfl rfl (ih F' x.1 x.2 _ T' GG (by omega) ⟨_, rfl, hT1⟩ hTab' (by omega)) rfl (grp_perm (A := [[(b9, .cells ⟨[.string (bs x.1), .slice ao9 x.2.len cap9]⟩ 36 (0, 0))], g, [(b3, _)]])) ?_; clear S a; intro u9 F9 G9 a w hv hF9 S; obtain ⟨rfl, hTab2⟩ := hv; replace S : St _ _ _ _ _ F9 (g :: [(b3, _)] :: G9) _ _ := (St.rotL S).drop1)
        (refine wpl_append S rfl rfl rfl rfl rfl rfl rfl rfl rfl rfl rfl (fun _ => rfl) hown (by rfl) (by simp [Value.cells, splice, splice]) (by simp [Value.cells, Value.oneCell', splice, splice]) rfl (by rfl) (by rfl) rfl (by omega) (by omega) ?_; clear hown S a; intro v u g a w hown S)
        (refine wpl_v S rfl rfl rfl (sv_pure S rfl) ?_; clear S a; intro a S)
        refine wpList_nil ?_
        (refine hKq9 _ _ ?_; try (clear hKq9 Kq9))
        refine wp_region_lit ?_
        (refine wpl_v S rfl rfl rfl (sv_add S rfl rfl rfl (by first | omega | (simp only [List.length_append, List.length_cons, List.length_nil]; omega))) ?_; clear S a; intro a S)
        (refine wpl_v S rfl rfl rfl (sv_pure S rfl) ?_; clear S a; intro a S)
        refine wpList_nil ?_
        change ∃ m', _ ∧ _
        (refine ⟨ar.len - (k + 1), by omega, k + 1, (takeT x.1 x.2 T').1, ks ++ [(takeT x.1 x.2 T').2], v, g, F9, G9, rfl, by omega, fun b o h => hF9 _ _ (hF' _ _ h), ?_, by simp [hkl9], ?_, hTab2, by omega, ?_⟩; rotate_left 2; (refine S.keep ?_; repeat (first | exact trivial | refine ⟨rfl, ?_⟩)); (rw [hst, hdr, takeL_cons]; simp only [List.append_assoc, List.singleton_append]); (rw [intsN, List.map_append]; exact hown))
      · (skip; (try simp only [decide_eq_true_eq, decide_eq_false_iff_not, beq_iff_eq, bne_iff_ne, bne_eq_false_iff_eq, beq_eq_false_iff_ne, ne_eq, Bool.not_eq_true', Bool.not_eq_false', Bool.not_eq_true, Bool.not_eq_false, Bool.not_true, Bool.not_false, Int.ofNat_lt, Int.ofNat_le, Nat.not_lt, Nat.not_le] at h))
        refine wp_exit ?_
        (refine hKq5 _ _ ?_; try (clear hKq5 Kq5))
        (refine wp_seq_k ?_; intro Kq9 hKq9)
        (have hkn : k = ar.len := (by omega); have htk : takeL ar T = (T', ks) := (by rw [hst, Fo.drop_len (by omega)]; simp [takeL]); obtain ⟨aoK, capK, rfl, -⟩ := hown.at; have hle := add_le (G1 := []) S; replace S := St.freeze (G1 := []) S; (simp only [List.nil_append] at S hle); have hsl : SlC (F'.add g) (.slice aoK k capK) ks.length (intsN ks) := (by rw [hkl9]; exact hown.slC F'); have hTabF := TabT.mono hle hTab'; generalize F'.add g = F2 at S hle hsl hTabF)
        refine wp_region_lit ?_
        (refine wpl_v S rfl rfl rfl (sv_pure S rfl) ?_; clear S a; intro a S)
        (refine wpl_v S rfl rfl rfl (sv_fieldAddr S rfl rfl rfl inferInstance rfl) ?_; clear S a; intro a S)
        first | (refine wpl_v S rfl rfl rfl (sv_loadO S rfl rfl (by rfl)) ?_; clear S a; intro a S) | (refine wpl_v S rfl rfl rfl (sv_loadF S rfl rfl (by assumption)) ?_; clear S a; intro a S)
        (refine wpl_v S rfl rfl rfl (sv_pure S rfl) ?_; clear S a; intro a S)
        (refine wpl_v S rfl rfl rfl (sv_build S rfl rfl rfl) ?_; clear S a; intro a S)
        (first | (refine wpl_callOwn (Gs := GT tb mb vn vp vt vl told T.vs gn gp gs gl) (Gr := [[(b3, .cells ⟨[.string (bs nm), .slice ao ar.len cap]⟩ 36 (0, 0))]]) S rfl rfl rfl rfl rfl rfl (addTCt F tb mb told T T.nd.length _ nm [] (.slice none 0 0) (-1) nm (by omega) hTab0 (nilSl F)) rfl (grp_perm (A := [[(b3, .cells ⟨[.string (bs nm), .slice ao ar.len cap]⟩ 36 (0, 0))]])) ?_; clear S a; intro u9 G9 a w hv S; obtain ⟨rfl, hTab2⟩ := hv; obtain ⟨vn2, vp2, vt2, vl2, gn2, gp2, gs2, gl2, rfl, hTM2⟩ := hTab2; (simp only [GT, List.cons_append, List.nil_append] at S)) | (refine wpl_callOwn (Gs := GG) (Gr := [[(b3, .cells ⟨[.string (bs nm), .slice ao ar.len cap]⟩ 36 (0, 0))]]) S rfl rfl rfl rfl rfl rfl (addTCt F2 tb mb told T' T'.nd.length GG nm ks _ 0 [] (by omega) hTabF hsl) rfl (grp_perm (A := [[(b3, .cells ⟨[.string (bs nm), .slice ao ar.len cap]⟩ 36 (0, 0))]])) ?_; clear S a; intro u9 G9 a w hv S; obtain ⟨rfl, hTab2⟩ := hv; obtain ⟨vn2, vp2, vt2, vl2, gn2, gp2, gs2, gl2, rfl, hN2, hP2, hS2, hL2⟩ := hTab2; obtain ⟨bs2, cs2, ex2, rfl, rfl, hcs1, hcs2, hls2, hex2⟩ := ownS_blk hS2 (by omega); (simp only [GT, List.cons_append, List.nil_append] at S)))
        (refine wpl_v S rfl rfl rfl (sv_pure S rfl) ?_; clear S a; intro a S)
        refine wpList_nil ?_
        (refine hKq9 _ _ ?_; try (clear hKq9 Kq9))
        (refine wp_seq_k ?_; intro Kq10 hKq10)
        refine wp_region_lit ?_
        (refine wpl_v S rfl rfl rfl (sv_pure S rfl) ?_; clear S a; intro a S)
        (refine wpl_v S rfl rfl rfl (sv_nilCheck S rfl rfl) ?_; clear S a; intro a S)
        (refine wpl_v S rfl rfl rfl (sv_fieldAddr S rfl rfl rfl inferInstance rfl) ?_; clear S a; intro a S)
        first | (refine wpl_v S rfl rfl rfl (sv_loadO S rfl rfl (by rfl)) ?_; clear S a; intro a S) | (refine wpl_v S rfl rfl rfl (sv_loadF S rfl rfl (by assumption)) ?_; clear S a; intro a S)
        (refine wpl_v S rfl rfl rfl (sv_pure S rfl) ?_; clear S a; intro a S)
        (refine wpl_v S rfl rfl rfl (sv_pure S rfl) ?_; clear S a; intro a S)
        (refine wpl_v S rfl rfl rfl (sv_indexAddrSl S rfl rfl rfl (by first | omega | (simp only [List.length_append, List.length_cons, List.length_nil]; omega))) ?_; clear S a; intro a S)
        (refine wpl_store1 S rfl rfl rfl rfl rfl rfl (by rw [List.length_append]; omega) ?_; clear S; intro w S; rw [ini_set _ (by rw [intsI_len] at hls2; omega)] at S)
        refine wpList_nil ?_
        (refine hKq10 _ _ ?_; try (clear hKq10 Kq10))
        (refine wp_seq_k ?_; intro Kq11 hKq11)
        (have hstl := hTabF.stl; have e9 : (T'.add nm ks 0 []).st.set T'.nd.length (T'.nd.length : Int) = T'.st ++ [(T'.nd.length : Int)] := (by show (T'.st ++ [0]).set _ _ = _; rw [List.set_append_right _ _ (by omega), hstl, Nat.sub_self]; rfl); rw [e9] at S)
        refine wp_region_lit ?_
        (refine wpl_v S rfl rfl rfl (sv_pure S rfl) ?_; clear S a; intro a S)
        (refine wpl_v S rfl rfl rfl (sv_pure S rfl) ?_; clear S a; intro a S)
        refine wpList_nil ?_
        (refine hKq11 _ _ ?_; try (clear hKq11 Kq11))
        refine wp_ret ?_
        (first | (replace S := St.dropR (A := [[(tb, _)], [(mb, _)], gn2, gp2, _, gl2]) (B := [[(b3, _)]]) S) | (replace S := S.drop1))
        
        refine fin_ret S (results1 Tryd.results18 (RV.tmp S rfl)) ?_
        (first | (have e : takeT nm ar T = takeN (T', ks) nm := (by unfold takeT; rw [if_neg (by rw [hnv]; simp), htk]); rw [e]; exact ⟨rfl, TabT.n (n := T'.nd.length + 1) ⟨_, _, _, _, _, _, _, _, rfl, ⟨hN2, hP2, ownS_mk1 (by rw [intsI_len]; simp [takeN, Tb.add, hstl]) hcs1 hcs2 (by simp only [List.length_append, intsI_len] at hex2 ⊢; simp [takeN, Tb.add, hstl] at hex2 ⊢; omega), hL2⟩⟩ (by simp [takeN, Tb.add])⟩) | (have hvr : varT nm ar = true := (by assumption); have e : takeT nm ar T = ({ T.add nm [] (-1) nm with vs := T.vs ++ [(nm, T.nd.length)] }, T.nd.length) := (by unfold takeT takeV; rw [if_pos hvr, hvg]); rw [e]; exact ⟨rfl, TabT.n (n := T.nd.length + 1) ⟨_, _, _, _, _, _, _, _, rfl, ⟨hTM2.hn, hTM2.hp, hTM2.hs, hTM2.hl⟩⟩ (by simp [Tb.add])⟩) | (have hvr : varT nm ar = true := (by assumption); cases hv : vget T.vs nm with | none => (exfalso; rw [mGet_mapV, hv] at h; simp at h; done) | some i9 => (have e : takeT nm ar T = (T, i9) := (by unfold takeT takeV; rw [if_pos hvr, hv]); rw [e, mGet_mapV, hv]; exact ⟨rfl, hTab0⟩)) | trace_state)
end Go.Proofs.YtcjnmehpkcblfaaDoor
