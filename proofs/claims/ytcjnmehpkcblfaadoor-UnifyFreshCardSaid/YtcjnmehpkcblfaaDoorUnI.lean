/- The walk of works. -/
import Derived.Test.YtcjnmehpkcblfaaDoorUnH
namespace Go.Proofs.YtcjnmehpkcblfaaDoor
open Go Go.Wk Go.Un
set_option linter.unusedSimpArgs false
set_option linter.unusedVariables false
attribute [local irreducible] Go.wpList Go.Code.wp Go.wpStill Go.Wk.wpPre Go.bodyPost Go.Calls Go.Wk.Ct Go.Wk.OwnS
attribute [local irreducible] Go.Wk.wpG Go.Wk.wpM

set_option maxRecDepth 20000 in
set_option maxHeartbeats 16000000 in
theorem worksCt (F : Heap) : Ct Tryd.prog 4 [] F [] (fun _ _ u => u = .bool true) := by
  refine Ct.enter Tryd.func4 rfl Tryd.ntmps4 rfl fun w0 a S => ?_
  (refine wp_seq_k ?_; intro Kq1 hKq1)
  refine wp_region_lit ?_
  (refine wpl_v S rfl rfl rfl (sv_pure S rfl) ?_; clear S a; intro a S)
  refine wpList_nil ?_
  (refine hKq1 _ _ ?_; try (clear hKq1 Kq1))
  (refine wp_seq_k ?_; intro Kq2 hKq2)
  refine wp_region_lit ?_
  (refine wpl_call (Gs := []) (Gr := []) S rfl rfl rfl rfl rfl rfl (newCt F) rfl (by simp) ?_; clear S a; intro u9 F1 G1 a w hv hF1 S; obtain ⟨tb, rfl, hQ1⟩ := hv; rw [List.append_nil] at S; have hC : ∀ b o, F1 b = some o → F1 b = some o := fun _ _ h => h)
  (refine wpl_v S rfl rfl rfl (sv_pure S rfl) ?_; clear S a; intro a S)
  refine wpList_nil ?_
  (refine hKq2 _ _ ?_; try (clear hKq2 Kq2))
  (refine wp_seq_k ?_; intro Kq3 hKq3)
  refine wp_region_lit ?_
  (refine wpl_call0 S rfl rfl rfl rfl rfl rfl (tyCt F1 vA none 0 0) rfl ?_; clear S a; intro v a w hv S; subst hv)
  (refine wpl_alloc S rfl rfl rfl rfl ?_; clear S a; intro b2 a w S)
  (refine wpl_storeO S rfl rfl rfl rfl rfl (by rfl) (by simp [Value.cells, Value.oneCell', splice]) (by rfl) ?_; clear S; intro w S)
  refine wpList_nil ?_
  (refine hKq3 _ _ ?_; try (clear hKq3 Kq3))
  (refine wp_seq_k ?_; intro Kq4 hKq4)
  refine wp_region_lit ?_
  (refine wpl_call0 S rfl rfl rfl rfl rfl rfl (tyCt F1 vB none 0 0) rfl ?_; clear S a; intro v a w hv S; subst hv)
  (refine wpl_alloc S rfl rfl rfl rfl ?_; clear S a; intro b3 a w S)
  (refine wpl_storeO S rfl rfl rfl rfl rfl (by rfl) (by simp [Value.cells, Value.oneCell', splice]) (by rfl) ?_; clear S; intro w S)
  refine wpList_nil ?_
  (refine hKq4 _ _ ?_; try (clear hKq4 Kq4))
  (refine wp_seq_k ?_; intro Kq5 hKq5)
  refine wp_region_lit ?_
  (refine wpl_call0 S rfl rfl rfl rfl rfl rfl (tyCt F1 vC none 0 0) rfl ?_; clear S a; intro v a w hv S; subst hv)
  (refine wpl_alloc S rfl rfl rfl rfl ?_; clear S a; intro b4 a w S)
  (refine wpl_storeO S rfl rfl rfl rfl rfl (by rfl) (by simp [Value.cells, Value.oneCell', splice]) (by rfl) ?_; clear S; intro w S)
  refine wpList_nil ?_
  (refine hKq5 _ _ ?_; try (clear hKq5 Kq5))
  (refine wp_seq_k ?_; intro Kq6 hKq6)
  (refine wpc_mixM [0, 1, 8, 9, 10, 11, 14, 15, 16, 17, 18, 19, 23, 24, 25, 26, 27, 29, 33, 34, 35, 36, 37, 39, 40, 41, 42, 46, 47, 48, 49, 53, 54, 55, 57, 58, 59, 61] [1, 11, 17, 18, 19, 27, 29, 36, 37, 55, 59] [] (.one 0 (.one 1 (.one 2 (.one 3 (.one 4 (.one 5 (.one 6 (.one 7 (.one 8 (.one 9 (.one 10 (.one 11 (.one 12 (.one 13 (.one 14 (.one 15 (.one 16 (.one 17 (.one 18 (.one 19 (.one 20 (.one 21 (.one 22 (.one 23 (.one 24 (.one 25 (.one 26 (.one 27 (.one 29 (.one 28 (.one 30 (.one 31 (.one 32 (.one 33 (.one 34 (.one 35 (.one 36 (.one 37 (.one 38 (.one 39 (.one 40 (.one 41 (.one 42 (.one 43 (.one 44 (.one 45 (.one 46 (.one 47 (.one 48 (.one 49 (.one 50 (.one 51 (.one 52 (.one 53 (.one 54 (.one 55 (.one 56 (.one 57 (.one 58 (.one 59 (.one 60 (.one 61 (.one 62 .nil))))))))))))))))))))))))))))))))))))))))))))))))))))))))))))))) [b2, b3, b4] S mixed (by kernel_rfl) ?_; clear S; intro w S)
  (refine wpm_v S rfl rfl rfl (want_none _ rfl) rfl rfl (fun w' S => sv_pure S rfl) ?_; clear S a; intro a S)
  first | (refine wpm_lateO b2 S rfl rfl rfl (want_none _ rfl) rfl rfl (fun w' S => sv_loadO S rfl rfl (by rfl)) ?_; clear S a; intro a S) | (refine wpm_lateO b2 S rfl rfl rfl (want_none _ rfl) rfl rfl (fun w' S => sv_loadAO S rfl rfl (by rfl)) ?_; clear S a; intro a S)
  refine wpm_eff rfl rfl (fun _ => ⟨fun b o h => S.tr.frz b o (by first | exact h | exact hC _ _ h), S.has inferInstance, S.has inferInstance, S.has inferInstance, trivial⟩) ?_
  (refine wpl_buildSlice S rfl rfl rfl rfl rfl rfl (by rfl) (by simp [Value.cells, splice, splice]) rfl (by rfl) (by rfl) ?_; clear S a; intro b11 a w hown S)
  (have hown : OwnS 36 2 (.slice (some ⟨b11, 0, none⟩) 1 1) 1 [.string (bs vA), .slice none 0 0] [(b11, .cells ⟨[.string (bs vA), .slice none 0 0]⟩ 36 (0, 0))] := hown; have hle : ∀ b o, F1 b = some o → (F1.add [(b11, .cells ⟨[.string (bs vA), .slice none 0 0]⟩ 36 (0, 0))]) b = some o := add_le (G1 := []) S; replace S := St.freeze (G1 := []) S; (simp only [List.nil_append] at S); replace S : St _ _ _ _ _ (F1.add [(b11, .cells ⟨[.string (bs vA), .slice none 0 0]⟩ 36 (0, 0))]) _ _ _ := S; have hs11 : SlF (F1.add [(b11, .cells ⟨[.string (bs vA), .slice none 0 0]⟩ 36 (0, 0))]) (.slice (some ⟨b11, 0, none⟩) 1 1) (.cons vA .nil .nil) := FoC.slf hown (FoC.one (SlF.nil _)) rfl hle (by decide); clear hown; generalize (F1.add [(b11, .cells ⟨[.string (bs vA), .slice none 0 0]⟩ 36 (0, 0))]) = F2 at S hle hs11; have hF2 := hle; replace hC : ∀ b o, F1 b = some o → F2 b = some o := fun b o h => hle _ _ (hC b o h))
  refine wpList_nil ?_
  refine wpm_eff rfl rfl (fun _ => ⟨fun b o h => S.tr.frz b o (by first | exact h | exact hC _ _ h), S.has inferInstance, S.has inferInstance, S.has inferInstance, trivial⟩) ?_
  (refine wpl_call0 S rfl rfl rfl rfl rfl rfl (tyCt F2 [108, 105, 115, 116] (some ⟨b11, 0, none⟩) 1 1) rfl ?_; clear S a; intro v a w hv S; subst hv)
  refine wpList_nil ?_
  refine wpm_eff rfl rfl (fun _ => ⟨fun b o h => S.tr.frz b o (by first | exact h | exact hC _ _ h), S.has inferInstance, S.has inferInstance, S.has inferInstance, trivial⟩) ?_
  (refine wpl_call0 S rfl rfl rfl rfl rfl rfl (tyCt F2 [105, 110, 116] none 0 0) rfl ?_; clear S a; intro v a w hv S; subst hv)
  refine wpList_nil ?_
  refine wpm_eff rfl rfl (fun _ => ⟨fun b o h => S.tr.frz b o (by first | exact h | exact hC _ _ h), S.has inferInstance, S.has inferInstance, S.has inferInstance, trivial⟩) ?_
  (refine wpl_buildSlice S rfl rfl rfl rfl rfl rfl (by rfl) (by simp [Value.cells, splice, splice]) rfl (by rfl) (by rfl) ?_; clear S a; intro b14 a w hown S)
  (have hown : OwnS 36 2 (.slice (some ⟨b14, 0, none⟩) 1 1) 1 [.string (bs [105, 110, 116]), .slice none 0 0] [(b14, .cells ⟨[.string (bs [105, 110, 116]), .slice none 0 0]⟩ 36 (0, 0))] := hown; have hle : ∀ b o, F2 b = some o → (F2.add [(b14, .cells ⟨[.string (bs [105, 110, 116]), .slice none 0 0]⟩ 36 (0, 0))]) b = some o := add_le (G1 := []) S; replace S := St.freeze (G1 := []) S; (simp only [List.nil_append] at S); replace S : St _ _ _ _ _ (F2.add [(b14, .cells ⟨[.string (bs [105, 110, 116]), .slice none 0 0]⟩ 36 (0, 0))]) _ _ _ := S; have hs14 : SlF (F2.add [(b14, .cells ⟨[.string (bs [105, 110, 116]), .slice none 0 0]⟩ 36 (0, 0))]) (.slice (some ⟨b14, 0, none⟩) 1 1) (.cons [105, 110, 116] .nil .nil) := FoC.slf hown (FoC.one (SlF.nil _)) rfl hle (by decide); clear hown; generalize (F2.add [(b14, .cells ⟨[.string (bs [105, 110, 116]), .slice none 0 0]⟩ 36 (0, 0))]) = F3 at S hle hs14; have hF3 := hle; replace hC : ∀ b o, F1 b = some o → F3 b = some o := fun b o h => hle _ _ (hC b o h))
  refine wpList_nil ?_
  refine wpm_eff rfl rfl (fun _ => ⟨fun b o h => S.tr.frz b o (by first | exact h | exact hC _ _ h), S.has inferInstance, S.has inferInstance, S.has inferInstance, trivial⟩) ?_
  (refine wpl_call0 S rfl rfl rfl rfl rfl rfl (tyCt F3 [108, 105, 115, 116] (some ⟨b14, 0, none⟩) 1 1) rfl ?_; clear S a; intro v a w hv S; subst hv)
  refine wpList_nil ?_
  refine wpm_eff rfl rfl (fun _ => ⟨fun b o h => S.tr.frz b o (by first | exact h | exact hC _ _ h), S.has inferInstance, S.has inferInstance, S.has inferInstance, trivial⟩) ?_
  (refine wpl_call (Gs := G1) (Gr := [[(b4, _)], [(b3, _)], [(b2, _)]]) S rfl rfl rfl rfl rfl rfl (unifyCt F3 tb 0 vid G1 [108, 105, 115, 116] (.cons vA .nil .nil) _ [108, 105, 115, 116] (.cons [105, 110, 116] .nil .nil) _ (⟨_, rfl, hs11.mono hF3⟩) (⟨_, rfl, hs14⟩) (by omega) (hQ1.mono fun b o h => hF3 _ _ (hF2 _ _ h))) rfl (grp_perm (A := [[(b4, _)], [(b3, _)], [(b2, _)]])) ?_; clear S a; intro u9 F4 G2 a w hv hF4 S; replace hC : ∀ b o, F1 b = some o → F4 b = some o := fun b o h => hF4 _ _ (hC b o h); obtain ⟨e9, s1, rfl, hQ2, hu⟩ := hv; obtain ⟨rfl, hk1⟩ := step1 hu; replace S : St _ _ _ _ _ F4 ([(b4, _)] :: [(b3, _)] :: [(b2, _)] :: G2) _ _ := St.rotL S)
  refine wpList_nil ?_
  (refine wpm_v S rfl rfl rfl (want_none _ rfl) rfl rfl (fun w' S => sv_lit (c := true) (sv_pure S rfl) (by rfl)) ?_; clear S a; intro a S)
  (refine wpm_v S rfl rfl rfl (want_none _ rfl) rfl rfl (fun w' S => sv_pure S rfl) ?_; clear S a; intro a S)
  (refine wpm_v S rfl rfl rfl (want_yes S rfl rfl rfl) rfl rfl (fun w' S => sv_pure S rfl) ?_; clear S a; intro a S)
  first | (refine wpm_lateO b2 S rfl rfl rfl (want_yes S rfl rfl rfl) rfl rfl (fun w' S => sv_loadO S rfl rfl (by rfl)) ?_; clear S a; intro a S) | (refine wpm_lateO b2 S rfl rfl rfl (want_yes S rfl rfl rfl) rfl rfl (fun w' S => sv_loadAO S rfl rfl (by rfl)) ?_; clear S a; intro a S)
  refine wpm_eff rfl rfl (fun _ => ⟨fun b o h => S.tr.frz b o (by first | exact h | exact hC _ _ h), S.has inferInstance, S.has inferInstance, S.has inferInstance, trivial⟩) ?_
  refine wpl_take S rfl rfl rfl ?_
  (refine wpl_call0 S rfl rfl rfl rfl rfl rfl (tyCt F4 [105, 110, 116] none 0 0) rfl ?_; clear S a; intro v a w hv S; subst hv)
  refine wpList_nil ?_
  refine wpm_eff rfl rfl (fun _ => ⟨fun b o h => S.tr.frz b o (by first | exact h | exact hC _ _ h), S.has inferInstance, S.has inferInstance, S.has inferInstance, trivial⟩) ?_
  refine wpl_take S rfl rfl rfl ?_
  (refine wpl_call (Gs := G2) (Gr := [[(b4, _)], [(b3, _)], [(b2, _)]]) S rfl rfl rfl rfl rfl rfl (isCt F4 tb 4096 s1 G2 vA .nil _ [105, 110, 116] .nil _ (⟨_, rfl, SlF.nil _⟩) (⟨_, rfl, SlF.nil _⟩) (by omega) hQ2) rfl (grp_perm (A := [[(b4, _)], [(b3, _)], [(b2, _)]])) ?_; clear S a; intro u9 F5 G3 a w hv hF5 S; replace hC : ∀ b o, F1 b = some o → F5 b = some o := fun b o h => hF5 _ _ (hC b o h); obtain ⟨rfl, hQ3⟩ := hv; rw [is1 hk1] at S; replace S : St _ _ _ _ _ F5 ([(b4, _)] :: [(b3, _)] :: [(b2, _)] :: G3) _ _ := St.rotL S)
  refine wpList_nil ?_
  first | (refine wpm_v S rfl rfl rfl (want_none _ rfl) rfl rfl (fun w' S => sv_pure S rfl) ?_; clear S a; intro a S) | (refine wpm_v S rfl rfl rfl (want_none _ rfl) rfl rfl (fun w' S => sv_pickB S rfl rfl rfl rfl) ?_; clear S a; intro a S)
  (refine wpm_v S rfl rfl rfl (want_none _ rfl) rfl rfl (fun w' S => sv_pure S rfl) ?_; clear S a; intro a S)
  (refine wpm_v S rfl rfl rfl (want_yes S rfl rfl rfl) rfl rfl (fun w' S => sv_pure S rfl) ?_; clear S a; intro a S)
  first | (refine wpm_lateO b3 S rfl rfl rfl (want_yes S rfl rfl rfl) rfl rfl (fun w' S => sv_loadO S rfl rfl (by rfl)) ?_; clear S a; intro a S) | (refine wpm_lateO b3 S rfl rfl rfl (want_yes S rfl rfl rfl) rfl rfl (fun w' S => sv_loadAO S rfl rfl (by rfl)) ?_; clear S a; intro a S)
  first | (refine wpm_lateO b2 S rfl rfl rfl (want_yes S rfl rfl rfl) rfl rfl (fun w' S => sv_loadO S rfl rfl (by rfl)) ?_; clear S a; intro a S) | (refine wpm_lateO b2 S rfl rfl rfl (want_yes S rfl rfl rfl) rfl rfl (fun w' S => sv_loadAO S rfl rfl (by rfl)) ?_; clear S a; intro a S)
  first | (refine wpm_lateO b4 S rfl rfl rfl (want_yes S rfl rfl rfl) rfl rfl (fun w' S => sv_loadO S rfl rfl (by rfl)) ?_; clear S a; intro a S) | (refine wpm_lateO b4 S rfl rfl rfl (want_yes S rfl rfl rfl) rfl rfl (fun w' S => sv_loadAO S rfl rfl (by rfl)) ?_; clear S a; intro a S)
  refine wpm_eff rfl rfl (fun _ => ⟨fun b o h => S.tr.frz b o (by first | exact h | exact hC _ _ h), S.has inferInstance, S.has inferInstance, S.has inferInstance, trivial⟩) ?_
  refine wpl_take S rfl rfl rfl ?_
  (refine wpl_buildSlice S rfl rfl rfl rfl rfl rfl (by rfl) (by simp [Value.cells, splice, splice]) rfl (by rfl) (by rfl) ?_; clear S a; intro b29 a w hown S)
  (have hown : OwnS 36 2 (.slice (some ⟨b29, 0, none⟩) 2 2) 2 [.string (bs vA), .slice none 0 0, .string (bs vC), .slice none 0 0] [(b29, .cells ⟨[.string (bs vA), .slice none 0 0, .string (bs vC), .slice none 0 0]⟩ 36 (0, 0))] := hown; have hle : ∀ b o, F5 b = some o → (F5.add [(b29, .cells ⟨[.string (bs vA), .slice none 0 0, .string (bs vC), .slice none 0 0]⟩ 36 (0, 0))]) b = some o := add_le (G1 := []) S; replace S := St.freeze (G1 := []) S; (simp only [List.nil_append] at S); replace S : St _ _ _ _ _ (F5.add [(b29, .cells ⟨[.string (bs vA), .slice none 0 0, .string (bs vC), .slice none 0 0]⟩ 36 (0, 0))]) _ _ _ := S; have hs29 : SlF (F5.add [(b29, .cells ⟨[.string (bs vA), .slice none 0 0, .string (bs vC), .slice none 0 0]⟩ 36 (0, 0))]) (.slice (some ⟨b29, 0, none⟩) 2 2) (.cons vA .nil (.cons vC .nil .nil)) := FoC.slf hown (⟨rfl, SlF.nil _, FoC.one (SlF.nil _)⟩) rfl hle (by decide); clear hown; generalize (F5.add [(b29, .cells ⟨[.string (bs vA), .slice none 0 0, .string (bs vC), .slice none 0 0]⟩ 36 (0, 0))]) = F6 at S hle hs29; have hF6 := hle; replace hC : ∀ b o, F1 b = some o → F6 b = some o := fun b o h => hle _ _ (hC b o h))
  refine wpList_nil ?_
  refine wpm_eff rfl rfl (fun _ => ⟨fun b o h => S.tr.frz b o (by first | exact h | exact hC _ _ h), S.has inferInstance, S.has inferInstance, S.has inferInstance, trivial⟩) ?_
  refine wpl_take S rfl rfl rfl ?_
  (refine wpl_call0 S rfl rfl rfl rfl rfl rfl (tyCt F6 [116, 117, 112, 108, 101] (some ⟨b29, 0, none⟩) 2 2) rfl ?_; clear S a; intro v a w hv S; subst hv)
  refine wpList_nil ?_
  refine wpm_eff rfl rfl (fun _ => ⟨fun b o h => S.tr.frz b o (by first | exact h | exact hC _ _ h), S.has inferInstance, S.has inferInstance, S.has inferInstance, trivial⟩) ?_
  refine wpl_take S rfl rfl rfl ?_
  (refine wpl_call (Gs := G3) (Gr := [[(b4, _)], [(b3, _)], [(b2, _)]]) S rfl rfl rfl rfl rfl rfl (unifyCt F6 tb 6144 s1 G3 vB .nil _ [116, 117, 112, 108, 101] (.cons vA .nil (.cons vC .nil .nil)) _ (⟨_, rfl, SlF.nil _⟩) (⟨_, rfl, hs29⟩) (by omega) (hQ3.mono hF6)) rfl (grp_perm (A := [[(b4, _)], [(b3, _)], [(b2, _)]])) ?_; clear S a; intro u9 F7 G4 a w hv hF7 S; replace hC : ∀ b o, F1 b = some o → F7 b = some o := fun b o h => hF7 _ _ (hC b o h); obtain ⟨e9, s2, rfl, hQ4, hu⟩ := hv; obtain ⟨rfl, hk2⟩ := step2 hk1 hu; replace S : St _ _ _ _ _ F7 ([(b4, _)] :: [(b3, _)] :: [(b2, _)] :: G4) _ _ := St.rotL S)
  refine wpList_nil ?_
  (refine wpm_v S rfl rfl rfl (want_yes S rfl rfl rfl) rfl rfl (fun w' S => sv_lit (c := true) (sv_pure S rfl) (by rfl)) ?_; clear S a; intro a S)
  first | (refine wpm_v S rfl rfl rfl (want_none _ rfl) rfl rfl (fun w' S => sv_pure S rfl) ?_; clear S a; intro a S) | (refine wpm_v S rfl rfl rfl (want_none _ rfl) rfl rfl (fun w' S => sv_pickB S rfl rfl rfl rfl) ?_; clear S a; intro a S)
  (refine wpm_v S rfl rfl rfl (want_none _ rfl) rfl rfl (fun w' S => sv_pure S rfl) ?_; clear S a; intro a S)
  (refine wpm_v S rfl rfl rfl (want_yes S rfl rfl rfl) rfl rfl (fun w' S => sv_pure S rfl) ?_; clear S a; intro a S)
  first | (refine wpm_lateO b3 S rfl rfl rfl (want_yes S rfl rfl rfl) rfl rfl (fun w' S => sv_loadO S rfl rfl (by rfl)) ?_; clear S a; intro a S) | (refine wpm_lateO b3 S rfl rfl rfl (want_yes S rfl rfl rfl) rfl rfl (fun w' S => sv_loadAO S rfl rfl (by rfl)) ?_; clear S a; intro a S)
  first | (refine wpm_lateO b4 S rfl rfl rfl (want_yes S rfl rfl rfl) rfl rfl (fun w' S => sv_loadO S rfl rfl (by rfl)) ?_; clear S a; intro a S) | (refine wpm_lateO b4 S rfl rfl rfl (want_yes S rfl rfl rfl) rfl rfl (fun w' S => sv_loadAO S rfl rfl (by rfl)) ?_; clear S a; intro a S)
  refine wpm_eff rfl rfl (fun _ => ⟨fun b o h => S.tr.frz b o (by first | exact h | exact hC _ _ h), S.has inferInstance, S.has inferInstance, S.has inferInstance, trivial⟩) ?_
  refine wpl_take S rfl rfl rfl ?_
  (refine wpl_call0 S rfl rfl rfl rfl rfl rfl (tyCt F7 [105, 110, 116] none 0 0) rfl ?_; clear S a; intro v a w hv S; subst hv)
  refine wpList_nil ?_
  refine wpm_eff rfl rfl (fun _ => ⟨fun b o h => S.tr.frz b o (by first | exact h | exact hC _ _ h), S.has inferInstance, S.has inferInstance, S.has inferInstance, trivial⟩) ?_
  refine wpl_take S rfl rfl rfl ?_
  (refine wpl_buildSlice S rfl rfl rfl rfl rfl rfl (by rfl) (by simp [Value.cells, splice, splice]) rfl (by rfl) (by rfl) ?_; clear S a; intro b39 a w hown S)
  (have hown : OwnS 36 2 (.slice (some ⟨b39, 0, none⟩) 2 2) 2 [.string (bs [105, 110, 116]), .slice none 0 0, .string (bs vC), .slice none 0 0] [(b39, .cells ⟨[.string (bs [105, 110, 116]), .slice none 0 0, .string (bs vC), .slice none 0 0]⟩ 36 (0, 0))] := hown; have hle : ∀ b o, F7 b = some o → (F7.add [(b39, .cells ⟨[.string (bs [105, 110, 116]), .slice none 0 0, .string (bs vC), .slice none 0 0]⟩ 36 (0, 0))]) b = some o := add_le (G1 := []) S; replace S := St.freeze (G1 := []) S; (simp only [List.nil_append] at S); replace S : St _ _ _ _ _ (F7.add [(b39, .cells ⟨[.string (bs [105, 110, 116]), .slice none 0 0, .string (bs vC), .slice none 0 0]⟩ 36 (0, 0))]) _ _ _ := S; have hs39 : SlF (F7.add [(b39, .cells ⟨[.string (bs [105, 110, 116]), .slice none 0 0, .string (bs vC), .slice none 0 0]⟩ 36 (0, 0))]) (.slice (some ⟨b39, 0, none⟩) 2 2) (.cons [105, 110, 116] .nil (.cons vC .nil .nil)) := FoC.slf hown (⟨rfl, SlF.nil _, FoC.one (SlF.nil _)⟩) rfl hle (by decide); clear hown; generalize (F7.add [(b39, .cells ⟨[.string (bs [105, 110, 116]), .slice none 0 0, .string (bs vC), .slice none 0 0]⟩ 36 (0, 0))]) = F8 at S hle hs39; have hF8 := hle; replace hC : ∀ b o, F1 b = some o → F8 b = some o := fun b o h => hle _ _ (hC b o h))
  refine wpList_nil ?_
  refine wpm_eff rfl rfl (fun _ => ⟨fun b o h => S.tr.frz b o (by first | exact h | exact hC _ _ h), S.has inferInstance, S.has inferInstance, S.has inferInstance, trivial⟩) ?_
  refine wpl_take S rfl rfl rfl ?_
  (refine wpl_call0 S rfl rfl rfl rfl rfl rfl (tyCt F8 [116, 117, 112, 108, 101] (some ⟨b39, 0, none⟩) 2 2) rfl ?_; clear S a; intro v a w hv S; subst hv)
  refine wpList_nil ?_
  refine wpm_eff rfl rfl (fun _ => ⟨fun b o h => S.tr.frz b o (by first | exact h | exact hC _ _ h), S.has inferInstance, S.has inferInstance, S.has inferInstance, trivial⟩) ?_
  refine wpl_take S rfl rfl rfl ?_
  (refine wpl_call (Gs := G4) (Gr := [[(b4, _)], [(b3, _)], [(b2, _)]]) S rfl rfl rfl rfl rfl rfl (isCt F8 tb 10240 s2 G4 vB .nil _ [116, 117, 112, 108, 101] (.cons [105, 110, 116] .nil (.cons vC .nil .nil)) _ (⟨_, rfl, SlF.nil _⟩) (⟨_, rfl, hs39⟩) (by omega) (hQ4.mono hF8)) rfl (grp_perm (A := [[(b4, _)], [(b3, _)], [(b2, _)]])) ?_; clear S a; intro u9 F9 G5 a w hv hF9 S; replace hC : ∀ b o, F1 b = some o → F9 b = some o := fun b o h => hF9 _ _ (hC b o h); obtain ⟨rfl, hQ5⟩ := hv; rw [is2 hk2] at S; replace S : St _ _ _ _ _ F9 ([(b4, _)] :: [(b3, _)] :: [(b2, _)] :: G5) _ _ := St.rotL S)
  refine wpList_nil ?_
  first | (refine wpm_v S rfl rfl rfl (want_none _ rfl) rfl rfl (fun w' S => sv_pure S rfl) ?_; clear S a; intro a S) | (refine wpm_v S rfl rfl rfl (want_none _ rfl) rfl rfl (fun w' S => sv_pickB S rfl rfl rfl rfl) ?_; clear S a; intro a S)
  (refine wpm_v S rfl rfl rfl (want_none _ rfl) rfl rfl (fun w' S => sv_pure S rfl) ?_; clear S a; intro a S)
  (refine wpm_v S rfl rfl rfl (want_yes S rfl rfl rfl) rfl rfl (fun w' S => sv_pure S rfl) ?_; clear S a; intro a S)
  first | (refine wpm_lateO b4 S rfl rfl rfl (want_yes S rfl rfl rfl) rfl rfl (fun w' S => sv_loadO S rfl rfl (by rfl)) ?_; clear S a; intro a S) | (refine wpm_lateO b4 S rfl rfl rfl (want_yes S rfl rfl rfl) rfl rfl (fun w' S => sv_loadAO S rfl rfl (by rfl)) ?_; clear S a; intro a S)
  first | (refine wpm_lateO b3 S rfl rfl rfl (want_yes S rfl rfl rfl) rfl rfl (fun w' S => sv_loadO S rfl rfl (by rfl)) ?_; clear S a; intro a S) | (refine wpm_lateO b3 S rfl rfl rfl (want_yes S rfl rfl rfl) rfl rfl (fun w' S => sv_loadAO S rfl rfl (by rfl)) ?_; clear S a; intro a S)
  refine wpm_eff rfl rfl (fun _ => ⟨fun b o h => S.tr.frz b o (by first | exact h | exact hC _ _ h), S.has inferInstance, S.has inferInstance, S.has inferInstance, trivial⟩) ?_
  refine wpl_take S rfl rfl rfl ?_
  (refine wpl_call (Gs := G5) (Gr := [[(b4, _)], [(b3, _)], [(b2, _)]]) S rfl rfl rfl rfl rfl rfl (unifyCt F9 tb 12288 s2 G5 vC .nil _ vB .nil _ (⟨_, rfl, SlF.nil _⟩) (⟨_, rfl, SlF.nil _⟩) (by omega) hQ5) rfl (grp_perm (A := [[(b4, _)], [(b3, _)], [(b2, _)]])) ?_; clear S a; intro u9 F10 G6 a w hv hF10 S; replace hC : ∀ b o, F1 b = some o → F10 b = some o := fun b o h => hF10 _ _ (hC b o h); obtain ⟨e9, s3, rfl, hQ6, hu⟩ := hv; obtain ⟨rfl, rfl⟩ := step3 hk2 hu; replace S : St _ _ _ _ _ F10 ([(b4, _)] :: [(b3, _)] :: [(b2, _)] :: G6) _ _ := St.rotL S)
  refine wpList_nil ?_
  (refine wpm_v S rfl rfl rfl (want_yes S rfl rfl rfl) rfl rfl (fun w' S => sv_lit (c := true) (sv_pure S rfl) (by rfl)) ?_; clear S a; intro a S)
  first | (refine wpm_v S rfl rfl rfl (want_none _ rfl) rfl rfl (fun w' S => sv_pure S rfl) ?_; clear S a; intro a S) | (refine wpm_v S rfl rfl rfl (want_none _ rfl) rfl rfl (fun w' S => sv_pickB S rfl rfl rfl rfl) ?_; clear S a; intro a S)
  (refine wpm_v S rfl rfl rfl (want_none _ rfl) rfl rfl (fun w' S => sv_pure S rfl) ?_; clear S a; intro a S)
  (refine wpm_v S rfl rfl rfl (want_yes S rfl rfl rfl) rfl rfl (fun w' S => sv_pure S rfl) ?_; clear S a; intro a S)
  refine wpm_eff rfl rfl (fun _ => ⟨fun b o h => S.tr.frz b o (by first | exact h | exact hC _ _ h), S.has inferInstance, S.has inferInstance, S.has inferInstance, trivial⟩) ?_
  refine wpl_take S rfl rfl rfl ?_
  (refine wpl_call0 S rfl rfl rfl rfl rfl rfl (tyCt F10 vD none 0 0) rfl ?_; clear S a; intro v a w hv S; subst hv)
  refine wpList_nil ?_
  refine wpm_eff rfl rfl (fun _ => ⟨fun b o h => S.tr.frz b o (by first | exact h | exact hC _ _ h), S.has inferInstance, S.has inferInstance, S.has inferInstance, trivial⟩) ?_
  refine wpl_take S rfl rfl rfl ?_
  (refine wpl_call0 S rfl rfl rfl rfl rfl rfl (tyCt F10 vE none 0 0) rfl ?_; clear S a; intro v a w hv S; subst hv)
  refine wpList_nil ?_
  refine wpm_eff rfl rfl (fun _ => ⟨fun b o h => S.tr.frz b o (by first | exact h | exact hC _ _ h), S.has inferInstance, S.has inferInstance, S.has inferInstance, trivial⟩) ?_
  refine wpl_take S rfl rfl rfl ?_
  (refine wpl_call (Gs := G6) (Gr := [[(b4, _)], [(b3, _)], [(b2, _)]]) S rfl rfl rfl rfl rfl rfl (unifyCt F10 tb 16384 s3 G6 vD .nil _ vE .nil _ (⟨_, rfl, SlF.nil _⟩) (⟨_, rfl, SlF.nil _⟩) (by omega) hQ6) rfl (grp_perm (A := [[(b4, _)], [(b3, _)], [(b2, _)]])) ?_; clear S a; intro u9 F11 G7 a w hv hF11 S; replace hC : ∀ b o, F1 b = some o → F11 b = some o := fun b o h => hF11 _ _ (hC b o h); obtain ⟨e9, s4, rfl, hQ7, hu⟩ := hv; obtain ⟨rfl, hk4⟩ := step4 hk2 hQ7.good hu; replace S : St _ _ _ _ _ F11 ([(b4, _)] :: [(b3, _)] :: [(b2, _)] :: G7) _ _ := St.rotL S)
  refine wpList_nil ?_
  (refine wpm_v S rfl rfl rfl (want_yes S rfl rfl rfl) rfl rfl (fun w' S => sv_lit (c := true) (sv_pure S rfl) (by rfl)) ?_; clear S a; intro a S)
  first | (refine wpm_v S rfl rfl rfl (want_none _ rfl) rfl rfl (fun w' S => sv_pure S rfl) ?_; clear S a; intro a S) | (refine wpm_v S rfl rfl rfl (want_none _ rfl) rfl rfl (fun w' S => sv_pickB S rfl rfl rfl rfl) ?_; clear S a; intro a S)
  (refine wpm_v S rfl rfl rfl (want_none _ rfl) rfl rfl (fun w' S => sv_pure S rfl) ?_; clear S a; intro a S)
  (refine wpm_v S rfl rfl rfl (want_yes S rfl rfl rfl) rfl rfl (fun w' S => sv_pure S rfl) ?_; clear S a; intro a S)
  refine wpm_eff rfl rfl (fun _ => ⟨fun b o h => S.tr.frz b o (by first | exact h | exact hC _ _ h), S.has inferInstance, S.has inferInstance, S.has inferInstance, trivial⟩) ?_
  refine wpl_take S rfl rfl rfl ?_
  (refine wpl_call0 S rfl rfl rfl rfl rfl rfl (tyCt F11 vE none 0 0) rfl ?_; clear S a; intro v a w hv S; subst hv)
  refine wpList_nil ?_
  refine wpm_eff rfl rfl (fun _ => ⟨fun b o h => S.tr.frz b o (by first | exact h | exact hC _ _ h), S.has inferInstance, S.has inferInstance, S.has inferInstance, trivial⟩) ?_
  refine wpl_take S rfl rfl rfl ?_
  (refine wpl_call0 S rfl rfl rfl rfl rfl rfl (tyCt F11 vD none 0 0) rfl ?_; clear S a; intro v a w hv S; subst hv)
  refine wpList_nil ?_
  refine wpm_eff rfl rfl (fun _ => ⟨fun b o h => S.tr.frz b o (by first | exact h | exact hC _ _ h), S.has inferInstance, S.has inferInstance, S.has inferInstance, trivial⟩) ?_
  refine wpl_take S rfl rfl rfl ?_
  (refine wpl_call (Gs := G7) (Gr := [[(b4, _)], [(b3, _)], [(b2, _)]]) S rfl rfl rfl rfl rfl rfl (isCt F11 tb 20480 s4 G7 vE .nil _ vD .nil _ (⟨_, rfl, SlF.nil _⟩) (⟨_, rfl, SlF.nil _⟩) (by omega) hQ7) rfl (grp_perm (A := [[(b4, _)], [(b3, _)], [(b2, _)]])) ?_; clear S a; intro u9 F12 G8 a w hv hF12 S; replace hC : ∀ b o, F1 b = some o → F12 b = some o := fun b o h => hF12 _ _ (hC b o h); obtain ⟨rfl, hQ8⟩ := hv; rw [is4 hk4] at S; replace S : St _ _ _ _ _ F12 ([(b4, _)] :: [(b3, _)] :: [(b2, _)] :: G8) _ _ := St.rotL S)
  refine wpList_nil ?_
  first | (refine wpm_v S rfl rfl rfl (want_none _ rfl) rfl rfl (fun w' S => sv_pure S rfl) ?_; clear S a; intro a S) | (refine wpm_v S rfl rfl rfl (want_none _ rfl) rfl rfl (fun w' S => sv_pickB S rfl rfl rfl rfl) ?_; clear S a; intro a S)
  (refine wpm_v S rfl rfl rfl (want_none _ rfl) rfl rfl (fun w' S => sv_pure S rfl) ?_; clear S a; intro a S)
  first | (refine wpm_lateO b2 S rfl rfl rfl (want_yes S rfl rfl rfl) rfl rfl (fun w' S => sv_loadO S rfl rfl (by rfl)) ?_; clear S a; intro a S) | (refine wpm_lateO b2 S rfl rfl rfl (want_yes S rfl rfl rfl) rfl rfl (fun w' S => sv_loadAO S rfl rfl (by rfl)) ?_; clear S a; intro a S)
  refine wpm_eff rfl rfl (fun _ => ⟨fun b o h => S.tr.frz b o (by first | exact h | exact hC _ _ h), S.has inferInstance, S.has inferInstance, S.has inferInstance, trivial⟩) ?_
  refine wpl_take S rfl rfl rfl ?_
  (refine wpl_call0 S rfl rfl rfl rfl rfl rfl (isVarCt vA .nil _ F12 ⟨_, rfl, SlF.nil _⟩) rfl ?_; clear S a; intro v a w hv S; subst hv)
  refine wpList_nil ?_
  first | (refine wpm_v S rfl rfl rfl (want_none _ rfl) rfl rfl (fun w' S => sv_pure S rfl) ?_; clear S a; intro a S) | (refine wpm_v S rfl rfl rfl (want_none _ rfl) rfl rfl (fun w' S => sv_pickB S rfl rfl rfl rfl) ?_; clear S a; intro a S)
  (refine wpm_v S rfl rfl rfl (want_none _ rfl) rfl rfl (fun w' S => sv_pure S rfl) ?_; clear S a; intro a S)
  first | (refine wpm_lateO b3 S rfl rfl rfl (want_yes S rfl rfl rfl) rfl rfl (fun w' S => sv_loadO S rfl rfl (by rfl)) ?_; clear S a; intro a S) | (refine wpm_lateO b3 S rfl rfl rfl (want_yes S rfl rfl rfl) rfl rfl (fun w' S => sv_loadAO S rfl rfl (by rfl)) ?_; clear S a; intro a S)
  refine wpm_eff rfl rfl (fun _ => ⟨fun b o h => S.tr.frz b o (by first | exact h | exact hC _ _ h), S.has inferInstance, S.has inferInstance, S.has inferInstance, trivial⟩) ?_
  refine wpl_take S rfl rfl rfl ?_
  (refine wpl_call0 S rfl rfl rfl rfl rfl rfl (mayCt F12 vB .nil _ ⟨_, rfl, SlF.nil _⟩) rfl ?_; clear S a; intro v a w hv S; subst hv)
  refine wpList_nil ?_
  first | (refine wpm_v S rfl rfl rfl (want_none _ rfl) rfl rfl (fun w' S => sv_pure S rfl) ?_; clear S a; intro a S) | (refine wpm_v S rfl rfl rfl (want_none _ rfl) rfl rfl (fun w' S => sv_pickB S rfl rfl rfl rfl) ?_; clear S a; intro a S)
  refine wpm_eff rfl rfl (fun _ => ⟨fun b o h => S.tr.frz b o (by first | exact h | exact hC _ _ h), S.has inferInstance, S.has inferInstance, S.has inferInstance, trivial⟩) ?_
  (refine wpl_v S rfl rfl rfl (sv_pure S rfl) ?_; clear S a; intro a S)
  refine wpList_nil ?_
  refine wpm_nil (fun _ => ⟨fun b o h => S.tr.frz b o (by first | exact h | exact hC _ _ h), S.has inferInstance, S.has inferInstance, S.has inferInstance, trivial⟩) ?_
  (refine hKq6 _ _ ?_; try (clear hKq6 Kq6))
  refine wp_ret ?_
  refine fin_ret S (results1 Tryd.results4 (RV.tmp S rfl)) ?_
  first | rfl | trace_state
end Go.Proofs.YtcjnmehpkcblfaaDoor
