/- Walks. -/
import Derived.Test.YtbhipiepfclneaaGreatDoorKGroupPlays12
set_option maxHeartbeats 64000000
set_option maxRecDepth 20000
namespace Go.Proofs.YtbhipiepfclneaaGreatDoor
open Go Go.Wk Go.Un Go.De Go.Num
set_option linter.unusedSimpArgs false
set_option linter.unusedVariables false
attribute [local irreducible] Go.wpList Go.Code.wp Go.wpStill Go.Wk.q26 Go.bodyPost Go.Calls Go.Wk.Ct Go.Wk.q0u Go.Wk.wpG Go.Wk.wpM
theorem u1s {p : Prop} (h : p := by (have hst := qpn (r := t.2.2) hy; first | (rw [if_pos (by assumption)] at hst; refine ⟨X7.length - (j + 1), by omega, j + 1, rfl, by omega, ?_⟩; rw [hst]; (refine S.keep ?_; exact zk); done) | (rw [if_neg (by first | assumption | (rw [(by assumption : q15 y.key t.2.2 = false)]; decide))] at hst; refine ⟨X7.length - (j + 1), by omega, j + 1, rfl, by omega, ?_⟩; rw [hst]; (refine S.keep ?_; exact zk); done))) : p := h
theorem qgf (F : q01) (hq : q50 F) (he : qf6 F) (v0 v1 : Value) (aggs : List (List UInt8)) (l : List OpD) (hA : LiM F 1 StR v0 aggs) (hL : LiM F 4 OpR v1 l) (hg : ∀ x ∈ l, OpG x) (hn : q7y aggs = 0) :
    Ct Tryz.prog 5 [v0, v1] F [] (fun _ _ u => u = .bool true) := by
  have hlg := qos F l v1 hL
  obtain ⟨h8, hkn⟩ := qye hn
  have hAf := hA.flat
  obtain ⟨ao, cap, rfl, hcap, -⟩ := id hA
  obtain ⟨al, cl, rfl, hcl, -⟩ := id hL
  refine Ct.enter Tryz.func5 rfl Tryz.ntmps5 rfl fun w0 a S => ?_
  revert a; refine go 7 ?_; intro Z hZ Z hZ a S
  (refine wc0 S hlg ?_; clear S a; intro v21 a w hv S; obtain ⟨bl, rfl, hbl⟩ := hv)
  revert a; refine go 1 ?_; intro a S
  refine wgd S ?_ ?_
  · (clear S; intro h S)
    revert a; revert Z; refine go 8 ?_; intro a S
    refine q00 S rfl ?_ ?_ <;> intro h
    · refine q1i fun Z hZ => ?_
      (refine wc0 S (q5w F hq he) ?_; clear S a; intro v28 a w hv S; subst hv)
      revert a; revert Z; refine go 3 ?_; intro a S
      refine wp_ret (fr1 S Tryz.results5 ?_)
      (first | rfl)
    refine wp_skip ?_
    (refine hZ _ _ ?_; clear hZ Z)
    (refine wp_seq_k ?_; intro Z hZ)
    (obtain ⟨aoF, capF, xsF, hxe, hxF, hxp⟩ := hAf; cases hxe; have hxl := hxF.len; obtain ⟨hl5, hbd⟩ := qei (Nat.le_trans (Nat.le_of_lt (hbl (by assumption))) (by decide)) hg)
    refine wp_region_lit ?_
    (refine q0d S rfl rfl rfl rfl rfl rfl (by rfl) (by simp [Value.cells, splice, splice]) rfl (by rfl) (by rfl) ?_; clear S a; intro b32 a w hown S)
    revert a; refine go 1 ?_; intro a S
    (refine q1u (news := xsF) S rfl rfl rfl rfl rfl rfl hown (by rfl) (by omega) hxp hxF.one' (by omega) (by omega) ?_; clear hown S a; intro v g a w hown S)
    revert a; revert Z; refine go 5 ?_; intro Z hZ a S
    (refine ql5 (gl := g) (Gr := []) S rfl rfl rfl rfl rfl rfl (fun hle hnd => qo2 (F.add g) _ aggs (LiC.lim hown hxF (by omega) hle (by omega)) (by omega)) hn rfl (by simp) ?_; clear S a; intro bg vg gg F2 a w hOg hAg hF2 S)
    revert a; revert Z; refine go 9 ?_; intro Z hZ a S
    (refine q2p (Gs := []) (Gr := [gg, g]) S rfl rfl rfl rfl rfl rfl (qu3 F2 _ aggs (hA.mono hF2) (by omega)) rfl (by simp) ?_; clear S a; intro v42 F3 G3 a w hv hF3 S; obtain ⟨-, bx, avx, gx, rfl, rfl, hXO, hAx⟩ := hv.resolve_left (fun h => h.1 hn); replace hOg := hOg.mono hF3; have hm3 : ∀ b o, F b = some o → F3 b = some o := (fun b o h => hF3 _ _ (hF2 _ _ h)); have W : PlW aggs l _ vg avx F3 := ⟨hq.mono hm3, he.mono hm3, hL.mono hm3, hAg.mono hF3, hAx⟩; (simp only [List.singleton_append] at S))
    revert a; revert Z; refine go 8 ?_; intro Z hZ a S
    (refine wp_seq_k ?_; intro Z hZ)
    (obtain ⟨aI, cI, rfl, -, -, hpI⟩ := hown.at; rw [Nat.zero_add] at *)
    revert a; revert Z; refine go 5 ?_; intro a S
    refine q04 (fun m a w' => ∃ (k : Nat) (xs : List Value) (g : Grp), m = aggs.length - k ∧ k ≤ aggs.length ∧ q0u 9 1 (.slice aI aggs.length cI) aggs.length xs g ∧ St 263 [(1, .slice al l.length cl), (5, .slice aI aggs.length cI), (6, ptr bg), (7, .int .i64 0), (8, ptr bx), (9, .int .i64 0), (10, .int .i64 (k : Int))] w0 F [] F3 [gx, gg, g] a w') ?_ ?_
    · (refine ⟨aggs.length, 0, _, g, by omega, Nat.zero_le _, hown, ?_⟩; refine S.keep ?_; exact zk)
    (clear S hown; rintro m a w ⟨k, xs, g, rfl, hk, hown, S⟩)
    revert a; refine go 8 ?_; intro Z hZ a S
    refine q00 S rfl ?_ ?_ <;> intro h
    · revert a; revert Z; refine go 4 ?_; intro Z hZ a S
      (obtain ⟨bI, hbI⟩ := hpI (by omega); rw [hbI] at S hown)
      revert a; refine go 4 ?_; intro a S
      (refine q1o S rfl rfl rfl rfl rfl hown rfl (by omega) ?_; clear hown S; intro g w hown S)
      revert a; revert Z; refine go 7 ?_; intro a S
      change ∃ m', _ ∧ _
      (rw [← hbI] at S hown; refine ⟨aggs.length - (k + 1), by omega, k + 1, _, g, rfl, by omega, hown, ?_⟩; refine S.keep ?_; exact zk)
    (refine wp_exit ?_; conv => whnf)
    clear hZ Z
    revert a; revert Z; refine go 2 ?_; intro Z hZ a S
    (refine wp_seq_k ?_; intro Z hZ)
    (replace S := uci S)
    revert a; refine go 3 ?_; intro a S
    (refine wv S (q0j (c := false) (q09 S rfl) (by simp)) ?_; clear S a; intro a S)
    revert a; refine go 4 ?_; intro a S
    (refine wv S (q0j (c := false) (q09 S rfl) (by rfl)) ?_; clear S a; intro a S)
    revert a; revert Z; refine go 3 ?_; intro a S
    refine q03 S rfl ?_
    revert a; revert Z; refine go 8 ?_; intro Z hZ a S
    refine q04 (fun m a w' => ∃ (k : Nat) (F5 : q01) (gg gx : Grp) (A : GA) (X : List WyD), m = l.length - k ∧ k ≤ l.length ∧ (∀ b o, F3 b = some o → F5 b = some o) ∧ GO F5 bg vg A gg ∧ XO F5 bx avx X gx ∧ Rl aggs A X ∧ X.length ≤ k ∧ A.length ≤ k ∧ St 263 [(1, .slice al l.length cl), (6, ptr bg), (8, ptr bx), (11, .int .i64 (k : Int))] w0 F [] F5 [gg, gx] a w') ?_ ?_
    · (refine ⟨l.length, 0, F3, gg, gx, [], [], by omega, Nat.zero_le _, fun _ _ h => h, hOg, hXO, Rl.nil aggs, Nat.le_refl _, Nat.le_refl _, ?_⟩; refine S.keep ?_; exact zk)
    (clear S hOg hXO; rintro m a w ⟨k, F5, gg, gx, A, X, rfl, hk, hm5, hOg, hXO, hR, hXl, hAl, S⟩)
    revert a; refine go 8 ?_; intro Z hZ a S
    refine q00 S rfl ?_ ?_ <;> intro h
    · revert a; revert Z; refine go 4 ?_; intro Z hZ a S
      (refine wp_seq_k ?_; intro Z hZ)
      (have W5 := W.mono hm5; obtain ⟨b8, o8, hao, x, cs1, hx, hcc, y1, y2, y3, rfl, hT1, hT2, hT3⟩ := LiM.pos (F := F5) (R := OpR) (by obtain ⟨_, _, e9, -, h9⟩ := id W5.L; cases e9; exact h9) (k := k) (by omega); rw [hao] at S; obtain ⟨a1, c1, rfl, -⟩ := id hT1; obtain ⟨a2, c2, rfl, -⟩ := id hT2; obtain ⟨a3, c3, rfl, -⟩ := id hT3; have hc0 : Cel F5 b8 (o8 + k * 4 + 0) _ := hcc 0 _ rfl; have hc1 : Cel F5 b8 (o8 + k * 4 + 1) _ := hcc 1 _ rfl; have hc2 : Cel F5 b8 (o8 + k * 4 + 2) _ := hcc 2 _ rfl; have hc3 : Cel F5 b8 (o8 + k * 4 + 3) _ := hcc 3 _ rfl; obtain ⟨bx1, bx2, bx3⟩ := hbd x (List.mem_of_getElem? hx))
      (refine q0k [0, 1, 2, 3, 4, 6, 7, 8, 9, 10, 12, 13, 14, 15, 16] [4, 10, 16] [] (.one 0 (.one 1 (.one 2 (.one 3 (.one 4 (.one 6 (.one 7 (.one 8 (.one 9 (.one 10 (.one 12 (.one 13 (.one 14 (.one 15 (.one 16 (.one 5 (.one 11 (.one 17 (.one 18 (.one 19 (.one 20 .nil))))))))))))))))))))) [] S mixed (by kernel_rfl) ?_; clear S; intro w S)
      revert a; refine go 16 ?_; intro a S
      (refine q17 S rfl rfl rfl rfl rfl rfl (q68 (x.key.size + 1) F5 x.key _ (Nat.lt_succ_self _) (by have := bx1.dp.2; omega) hT1) rfl ?_; clear S a; intro u1 G9 a w hv9 S; obtain ⟨g12, rfl, hO12⟩ := hv9; (simp only [List.singleton_append] at S); obtain ⟨aK, cK, rfl, -⟩ := id hO12.r)
      revert a; refine go 2 ?_; intro a S
      (refine q17 S rfl rfl rfl rfl rfl rfl (q68 (x.way.size + 1) F5 x.way _ (Nat.lt_succ_self _) (by have := bx2.dp.2; omega) hT2) rfl ?_; clear S a; intro u1 G9 a w hv9 S; obtain ⟨g13, rfl, hO13⟩ := hv9; (simp only [List.singleton_append] at S); obtain ⟨aW, cW, rfl, -⟩ := id hO13.r)
      revert a; refine go 2 ?_; intro a S
      (refine q17 S rfl rfl rfl rfl rfl rfl (q68 (x.args.size + 1) F5 x.args _ (Nat.lt_succ_self _) (by have := bx3.dp.2; omega) hT3) rfl ?_; clear S a; intro u1 G9 a w hv9 S; obtain ⟨g14, rfl, hO14⟩ := hv9; (simp only [List.singleton_append] at S); obtain ⟨aR, cR, rfl, -⟩ := id hO14.r; replace S := ubt S)
      revert a; revert Z; refine go 12 ?_; intro a S
      (refine wp_seq_k ?_; intro Z hZ)
      replace hZ : ∀ (a' : Act) (w' : World), (∃ (F7 : q01) (gg7 gx7 : Grp) (A7 : GA) (X7 : List WyD) (e : Int), (∀ b o, F5 b = some o → F7 b = some o) ∧ GO F7 bg vg A7 gg7 ∧ XO F7 bx avx X7 gx7 ∧ Rl aggs A7 X7 ∧ X7.length ≤ k + 1 ∧ A7.length ≤ k + 1 ∧ St 263 [(1, .slice (some ⟨b8, o8, none⟩) l.length cl), (6, ptr bg), (7, .int .i64 e), (8, ptr bx), (9, .int .i64 e), (11, .int .i64 (k : Int)), (12, .slice aK x.key.len cK), (13, .slice aW x.way.len cW), (14, .slice aR x.args.len cR)] w0 F [] F7 [g12, g13, g14, gg7, gx7] a' w') → Z a' w' := (by
       (intro a w hM; refine hZ _ _ ?_; clear hZ Z; clear S; obtain ⟨F7, gg7, gx7, A7, X7, e, hm7, hO7, hXO7, hR7, hX7, hA7, S⟩ := hM)
       iterate 2 (refine wp_seq_k ?_; intro Z hZ)
       (have W7 := W5.mono hm7; clear hXO hOg; replace hc1 := hc1.mono hm7; replace hc2 := hc2.mono hm7; replace hc3 := hc3.mono hm7; replace hT1 := hT1.mono hm7; replace hT2 := hT2.mono hm7; replace hT3 := hT3.mono hm7)
       revert a; refine go 3 ?_; intro a S
       (refine wv S (q0j (c := false) (q09 S rfl) (by simp)) ?_; clear S a; intro a S)
       revert a; refine go 12 ?_; intro a S
       (refine wv S (q05 S rfl rfl hc1) ?_; clear S a; intro a S)
       refine q1j S rfl rfl rfl ?_
       (refine q3m (gl := g12) (Gr := [g13, g14, gg7, gx7]) (r := .bool true) S rfl rfl rfl rfl rfl rfl (fun hle hnd => qib (q25 (q4z x.key.size) _ x.key x.key _ _ (Nat.le_refl _) (q32 (fun p hp => hp) hnd hO12) (hT1.mono hle)) (q7m _)) rfl (List.Perm.refl _) ?_; clear S a; intro a w S)
       refine q1j S rfl rfl rfl ?_
       (refine wv S (q0j (c := false) (q09 S rfl) (by rfl)) ?_; clear S a; intro a S)
       revert a; refine go 13 ?_; intro a S
       (refine wv S (q05 S rfl rfl hc2) ?_; clear S a; intro a S)
       refine q1j S rfl rfl rfl ?_
       (refine q3m (gl := g13) (Gr := [g12, g14, gg7, gx7]) (r := .bool true) S rfl rfl rfl rfl rfl rfl (fun hle hnd => qib (q25 (q4z x.way.size) _ x.way x.way _ _ (Nat.le_refl _) (q32 (fun p hp => hp) hnd hO13) (hT2.mono hle)) (q7m _)) rfl ((List.Perm.swap ..).flatten) ?_; clear S a; intro a w S)
       refine q1j S rfl rfl rfl ?_
       (refine wv S (q0j (c := false) (q09 S rfl) (by rfl)) ?_; clear S a; intro a S)
       revert a; refine go 13 ?_; intro a S
       (refine wv S (q05 S rfl rfl hc3) ?_; clear S a; intro a S)
       refine q1j S rfl rfl rfl ?_
       (refine q3m (gl := g14) (Gr := [g12, g13, gg7, gx7]) (r := .bool true) S rfl rfl rfl rfl rfl rfl (fun hle hnd => qib (q25 (q4z x.args.size) _ x.args x.args _ _ (Nat.le_refl _) (q32 (fun p hp => hp) hnd hO14) (hT3.mono hle)) (q7m _)) rfl ((List.perm_middle (l₁ := [g12, g13])).flatten) ?_; clear S a; intro a w S)
       refine q1j S rfl rfl rfl ?_
       (refine wv S (q0j (c := false) (q09 S rfl) (by rfl)) ?_; clear S a; intro a S)
       revert a; revert Z; refine go 3 ?_; intro a S
       refine q03 S rfl ?_
       revert a; revert Z; refine go 4 ?_; intro Z hZ a S
       (obtain ⟨d12, hs12⟩ := hO12.s; refine q02 (Gs := [g12]) (Gr := [g13, g14, gg7, gx7]) S rfl rfl rfl rfl rfl rfl (q85 d12 F7 g12 _ hs12) rfl (by simp) ?_; clear S a; intro v173 G9 a w hv S; obtain ⟨g9, rfl, -⟩ := hv; (simp only [List.singleton_append] at S); replace S := S.drop1)
       revert a; revert Z; refine go 4 ?_; intro Z hZ a S
       (obtain ⟨d13, hs13⟩ := hO13.s; refine q02 (Gs := [g13]) (Gr := [g14, gg7, gx7]) S rfl rfl rfl rfl rfl rfl (q85 d13 F7 g13 _ hs13) rfl (by simp) ?_; clear S a; intro v173 G9 a w hv S; obtain ⟨g9, rfl, -⟩ := hv; (simp only [List.singleton_append] at S); replace S := S.drop1)
       revert a; revert Z; refine go 4 ?_; intro Z hZ a S
       (obtain ⟨d14, hs14⟩ := hO14.s; refine q02 (Gs := [g14]) (Gr := [gg7, gx7]) S rfl rfl rfl rfl rfl rfl (q85 d14 F7 g14 _ hs14) rfl (by simp) ?_; clear S a; intro v173 G9 a w hv S; obtain ⟨g9, rfl, -⟩ := hv; (simp only [List.singleton_append] at S); replace S := S.drop1)
       revert a; revert Z; refine go 8 ?_; intro Z hZ a S
       (refine wv S (q05 S rfl rfl hc1) ?_; clear S a; intro a S)
       (refine qoo (Gr := [gx7]) S rfl rfl rfl rfl rfl rfl hO7 (fun gv h1 h2 => qid F7 W7.T W7.E bg vg gv gg7 aggs A7 h1 W7.A h8 hkn h2 hR7.inv (fun p hp => by have := hR7.ways_len p hp; omega) x.key _ hT1 bx1) rfl (List.Perm.refl _) ?_; clear S a; intro v15 gO a w hO15 S; obtain ⟨a15, c15, rfl, -⟩ := id hO15.r)
       revert a; revert Z; refine go 7 ?_; intro a S
       (refine wp_seq_k ?_; intro Z hZ)
       (replace S : St _ _ _ _ _ F7 [gx7, gO, gg7] _ _ := St.permI S 3 rfl [2, 0, 1] (by decide); obtain ⟨F8, hF8, hndx, hgx8, hF8e, S'⟩ := St.chill S; clear S; replace S := S'; clear S'; obtain ⟨vX, hXF⟩ := hXO7.frz hndx (by rw [← hF8e]; exact hF8) (by omega); rw [← hF8e] at hXF; clear hF8e)
       revert a; refine go 6 ?_; intro a S
       (refine wv S (q05 S rfl rfl (hc1.mono hF8)) ?_; clear S a; intro a S)
       (refine q17 S rfl rfl rfl rfl rfl rfl (u1z F7 F8 bx avx vX X7 hXF (by omega) aggs W7.B h8 hkn x.key _ hT1 bx1.dp.1 (hR7.wyg bx1)) rfl ?_; clear S a; intro u9 G9 a w hv9 S; rw [qsy hR7 bx1] at hv9; obtain ⟨v17, g17, xs17, rfl, rfl, hO17, hL17⟩ := hv9; (simp only [List.singleton_append] at S); obtain ⟨F9, hF9, -, -, hF9e, S'⟩ := St.chill S; clear S; replace S := S'; clear S'; have hT17 : TrS F9 4 VhR v17 (qna aggs A7 x.key).2 := (by rw [hF9e]; exact qcq (LiC.lim hO17 (hL17.mono hF8) (q2w _).symm (by rw [← hF9e]; exact hF9) (by have := qrn aggs A7 x.key; omega))); clear hF9e; obtain ⟨a17, c17, rfl, -⟩ := id hT17; have hF79 : ∀ b o, F7 b = some o → F9 b = some o := (fun b o h => hF9 _ _ (hF8 _ _ h)))
       revert a; revert Z; refine go 9 ?_; intro Z hZ a S
       (refine qkg (rows := A7.map (·.2.key)) (Gr := [gO]) S rfl rfl rfl rfl rfl rfl (hO7.mono hF79) (fun gv h1 h2 => qy7 F9 bg vg gv gg7 aggs A7 h1 h2 hR7.inv (by omega)) rfl ((List.Perm.swap ..).flatten) ?_; clear S a; intro T g19 u19 a w hTp hTs hTo hO19 S; obtain ⟨a19, c19, rfl, -⟩ := id hO19.at; obtain ⟨F10, hF10, -, hg19, -, S'⟩ := St.chill S; clear S; replace S := S'; clear S'; have hTl : T.length = A7.length := (by have := hTp.length_eq; unfold rfs at this; rwa [List.length_map, List.length_map] at this))
       revert a; refine go 1 ?_; intro a S
       (refine q17 S rfl rfl rfl rfl rfl rfl (qy4 F7 F10 bx avx vX X7 (hXF.mono (fun b o h => hF10 _ _ (hF9 _ _ h))) (by omega) hR7.rw1) rfl ?_; clear S a; intro u20 G9 a w hv9 S; obtain ⟨Z, g20, gd20, xs20, rfl, hO20, hL20, hZs, hZm, hZl⟩ := hv9; (simp only [List.cons_append, qaG] at S); replace S : St _ _ _ _ _ F10 [gd20, g20, rgs T, gg7, gO] _ _ := St.permI S 5 rfl [1, 0, 2, 3, 4] (by decide); obtain ⟨F11, hF11, hnd20, -, hF11e, S'⟩ := St.chill S; clear S; replace S := S'; clear S'; obtain ⟨F12, hF12, -, -, hF12e, S'⟩ := St.chill S; clear S; replace S := S'; clear S'; have hL12 : LiM F12 1 RwR u20 Z := (by rw [hF12e]; exact LiC.lim hO20 (hL20.mono (fun b o e => by rw [hF11e]; exact q01.add_new (p := (b, o)) (q5e e) hnd20)) rfl (by rw [← hF12e]; exact hF12) (by rw [List.length_map] at hZl; omega)); clear hF11e hF12e; have hZ : rfs T = Z := (qor hR7 hTp hTs hZm (hZs)).symm ▸ rfl; subst hZ; obtain ⟨a20, c20, rfl, -⟩ := id hL12; have hF812 : ∀ b o, F8 b = some o → F12 b = some o := (fun b o h => hF12 _ _ (hF11 _ _ (hF10 _ _ (hF9 _ _ h)))); have hF712 : ∀ b o, F7 b = some o → F12 b = some o := (fun b o h => hF812 _ _ (hF8 _ _ h)); replace hg19 : ∀ p ∈ g19, F12 p.1 = some p.2 := (fun p hp => hF12 _ _ (hF11 _ _ (hg19 p hp).1)); replace hXF := hXF.mono hF812; have hT17' := hT17.mono (fun b o h => hF12 _ _ (hF11 _ _ (hF10 _ _ h))); replace hO7' := hO7.mono hF712; have W12 := W7.mono hF712)
       revert a; revert Z; refine go 8 ?_; intro Z hZ Z hZ a S
       (refine wv S (q0j (c := false) (q09 S rfl) (by simp)) ?_; clear S a; intro a S)
       revert a; refine go 6 ?_; intro a S
       (refine q3m (gl := gO) (Gr := [rgs T, gg7]) (r := .bool true) S rfl rfl rfl rfl rfl rfl (fun hle hnd => qib (q25 (q4z (qna aggs A7 x.key).2.size) _ (qna aggs A7 x.key).2 (qna aggs A7 x.key).2 _ _ (Nat.le_refl _) (q32 (fun p hp => hp) hnd hO15) (hT17'.mono hle)) (q7m _)) rfl ((List.perm_middle (l₁ := [rgs T, gg7])).flatten) ?_; clear S a; intro a w S)
       refine q1j S rfl rfl rfl ?_
       (refine wv S (q0j (c := false) (q09 S rfl) (by rfl)) ?_; clear S a; intro a S)
       revert a; refine go 7 ?_; intro a S
       (have C9 : (∀ b o, F12 b = some o → F12.add (rgs T) b = some o) → ((rgs T).map (·.1)).Nodup → Ct Tryz.prog 13 [.slice a19 T.length c19, .slice a20 (rfs T).length c20] (F12.add (rgs T)) [] (fun _ _ u => u = .bool true) := (fun hle hnd => qjy _ (rfs T) _ _ (qtz (F := F12) (gl := []) hO19 hTo (fun p hp => hle _ _ (hg19 p hp)) (fun t ht b o e => qoe hnd ht b o e) (by omega)) (hL12.mono hle)); refine q3m (gl := rgs T) (Gr := [gg7, gO]) (r := .bool true) S rfl rfl rfl rfl rfl rfl C9 rfl (List.Perm.refl _) ?_; clear S a; intro a w S)
       refine q1j S rfl rfl rfl ?_
       (refine wv S (q0j (c := false) (q09 S rfl) (by rfl)) ?_; clear S a; intro a S)
       revert a; revert Z; refine go 3 ?_; intro a S
       refine q03 S rfl ?_
       revert a; revert Z; refine go 4 ?_; intro Z hZ a S
       (replace S : St _ _ _ _ _ F12 [gO, rgs T, gg7] _ _ := St.permI S 3 rfl [2, 0, 1] (by decide); obtain ⟨d15, hs15⟩ := hO15.s; refine q02 (Gs := [gO]) (Gr := [rgs T, gg7]) S rfl rfl rfl rfl rfl rfl (q85 d15 F12 gO _ hs15) rfl (by simp) ?_; clear S a; intro v173 G9 a w hv S; obtain ⟨g9, rfl, -⟩ := hv; (simp only [List.singleton_append] at S); replace S := S.drop1)
       revert a; revert Z; refine go 7 ?_; intro a S
       refine q04 (fun m a w' => ∃ (i : Nat), m = T.length - i ∧ i ≤ T.length ∧ St 263 [(1, .slice (some ⟨b8, o8, none⟩) l.length cl), (6, ptr bg), (8, ptr bx), (11, .int .i64 (k : Int)), (19, .slice a19 T.length c19), (21, .int .i64 (i : Int))] w0 F [] F12 [rgs (T.drop i), gg7] a w') ?_ ?_
       · (refine ⟨T.length, 0, by omega, Nat.zero_le _, ?_⟩; refine S.keep ?_; exact zk)
       (clear S; rintro m a w ⟨i, rfl, hi, S⟩)
       revert a; refine go 8 ?_; intro Z hZ a S
       refine q00 S rfl ?_ ?_ <;> intro h
       · revert a; revert Z; refine go 4 ?_; intro Z hZ a S
         (refine wp_seq_k ?_; intro Z hZ)
         (have hiT : i < T.length := (by omega); obtain ⟨t, ht⟩ : ∃ t, T[i]? = some t := ⟨_, List.getElem?_eq_getElem hiT⟩; have htm := List.mem_of_getElem? ht; have hvt : (q0n (rvs T))[i]? = some t.2.1 := (by unfold q0n rvs; rw [List.getElem?_map, List.getElem?_map, ht]; rfl); obtain ⟨b19, c19', e19, hc19⟩ := qyq hO19 hg19 hvt; obtain ⟨h19, -⟩ : a19 = some ⟨b19, 0, none⟩ ∧ c19 = c19' := (by cases e19; exact ⟨rfl, rfl⟩); rw [h19] at S; replace S := uca ht S; obtain ⟨kx, en, htx, hen, -, hrb, hcnt⟩ := qy0 hR7 hTp (r := t.2.2) (List.mem_map.2 ⟨t, htm, rfl⟩); have hOt := hTo t htm; obtain ⟨aT, cT, hvT, -⟩ := id hOt.r; obtain ⟨aX, cX, hvX, hcX, hpX⟩ := id hXF.li; have hcX1 := hXF.c1; rw [hvX] at hcX1)
         revert a; revert Z; refine go 10 ?_; intro Z hZ a S
         refine q04 (fun m a w' => ∃ (j : Nat), m = X7.length - j ∧ j ≤ X7.length ∧ St 263 [(1, .slice (some ⟨b8, o8, none⟩) l.length cl), (6, ptr bg), (8, ptr bx), (11, .int .i64 (k : Int)), (19, .slice (some ⟨b19, 0, none⟩) T.length c19), (21, .int .i64 (i : Int)), (22, .int .i64 ((((X7.take j).filter fun y => q15 y.key t.2.2).length : Nat) : Int)), (23, .int .i64 (j : Int))] w0 F [] F12 [t.1, rgs (T.drop (i + 1)), gg7] a w') ?_ ?_
         · (refine ⟨X7.length, 0, by omega, Nat.zero_le _, ?_⟩; refine S.keep ?_; exact zk)
         (clear S; rintro m a w ⟨j, rfl, hj, S⟩)
         revert a; refine go 6 ?_; intro Z hZ Z hZ a S
         (refine wv S (q05 S rfl rfl hcX1) ?_; clear S a; intro a S)
         revert a; revert Z; refine go 4 ?_; intro a S
         refine q00 S rfl ?_ ?_ <;> intro h
         · revert a; revert Z; refine go 4 ?_; intro Z hZ a S
           (refine wp_seq_k ?_; intro Z hZ)
           (obtain ⟨b9, o9, hax, y, cs9, hy, hccy, hW⟩ := LiM.pos hpX (k := j) (by omega); obtain ⟨aY, cY, aV, cV, aZ, cZ, rfl, hY1, hY2, hY3⟩ := q5t hW; rw [hax] at hcX1; have hfl : ((X7.take j).filter fun y => q15 y.key t.2.2).length ≤ 1000000 := Nat.le_trans (List.length_filter_le _ _) (by rw [qaI]; omega))
           (refine q0k [0, 1, 2, 3, 4, 5, 6, 7, 8, 9, 10, 11] [3, 7, 11] [] (.one 0 (.one 1 (.one 2 (.one 3 (.one 4 (.one 5 (.one 6 (.one 7 (.one 8 (.one 9 (.one 10 (.one 11 (.one 12 .nil))))))))))))) [] S mixed (by kernel_rfl) ?_; clear S; intro w S)
           revert a; refine go 3 ?_; intro a S
           (refine wlF S rfl (fun w' S => q05 S rfl rfl hcX1) ?_; clear S a; intro a S)
           revert a; refine go 3 ?_; intro a S
           (refine wlF S rfl (fun w' S => q05 S rfl rfl (hccy 0 _ rfl)) ?_; clear S a; intro a S)
           revert a; refine go 3 ?_; intro a S
           (refine wlF S rfl (fun w' S => q05 S rfl rfl hc19) ?_; clear S a; intro a S)
           refine q1q rfl rfl (kwa S) ?_
           (refine q3m (gl := t.1) (Gr := [rgs (T.drop (i + 1)), gg7]) (r := .bool (q15 y.key t.2.2)) S rfl rfl rfl rfl rfl rfl (fun hle hnd => q25 (q4z y.key.size) _ y.key t.2.2 _ _ (Nat.le_refl _) (hY1.mono (fun b o h => hle _ _ (hF712 _ _ h))) (q32 (fun p hp => hp) hnd hOt)) rfl (List.Perm.refl _) ?_; clear S a; intro a w S)
           revert a; revert Z; refine go 3 ?_; intro a S
           refine q00 S rfl ?_ ?_ <;> intro h
           · revert a; revert Z; refine go 11 ?_; intro a S
             change ∃ m', _ ∧ _
             exact u1s
           revert a; revert Z; refine go 7 ?_; intro a S
           change ∃ m', _ ∧ _
           exact u1s
         (refine wp_exit ?_; conv => whnf)
         clear hZ Z
         revert a; revert Z; refine go 2 ?_; intro Z hZ a S
         (refine wp_seq_k ?_; intro Z hZ)
         (obtain rfl : j = X7.length := (by omega); rw [List.take_of_length_le (Nat.le_refl _), hcnt] at S)
         revert a; refine go 5 ?_; intro a S
         (refine wv S (q05 S rfl rfl hc19) ?_; clear S a; intro a S)
         (refine qk6 (gl := t.1) (Gr := [rgs (T.drop (i + 1))]) S rfl rfl rfl rfl rfl rfl hO7' (fun hle hnd gv hG e' he' hkv => qmm _ (W12.T.mono hle) bg vg gv gg7 hG t.2.2 _ (q32 (fun p hp => hp) hnd hOt) hrb kx htx e' en he' hkv (by obtain ⟨_, _, e9, -, -⟩ := id W12.A; rw [e9]; rfl)) rfl ((List.Perm.cons _ (List.Perm.swap ..)).flatten) hen ?_; clear S a; intro a w S)
         revert a; refine go 1 ?_; intro a S
         (refine wv S (q0j (c := false) (q09 S rfl) (by simp)) ?_; clear S a; intro a S)
         revert a; revert Z; refine go 2 ?_; intro a S
         refine q03 S rfl ?_
         revert a; revert Z; refine go 6 ?_; intro a S
         (refine wv S (q05 S rfl rfl hc19) ?_; clear S a; intro a S)
         (obtain ⟨dt, hst⟩ := hOt.s; refine q02 (Gs := [t.1]) (Gr := [rgs (T.drop (i + 1)), gg7]) S rfl rfl rfl rfl rfl rfl (q85 dt F12 t.1 _ hst) rfl (by simp) ?_; clear S a; intro v173 G9 a w hv S; obtain ⟨g9, rfl, -⟩ := hv; (simp only [List.singleton_append] at S); replace S := S.drop1)
         revert a; revert Z; refine go 7 ?_; intro a S
         change ∃ m', _ ∧ _
         (rw [← h19] at S; refine ⟨T.length - (i + 1), by omega, i + 1, rfl, by omega, ?_⟩; refine S.keep ?_; exact zk)
       (refine wp_exit ?_; conv => whnf)
       clear hZ Z
       (refine hZ _ _ ?_; clear hZ Z)
       (replace S := S.drop1; have hm07 : ∀ b o, F b = some o → F7 b = some o := (fun b o h => hm7 _ _ (hm5 _ _ (hm3 _ _ h))); replace S := qaq (St.thaw (F := F7) S hm07 hF712 hndx (fun p hp => ⟨hF812 _ _ (hgx8 p hp).1, (hgx8 p hp).2⟩)))
       revert a; refine go 5 ?_; intro a S
       change ∃ m', _ ∧ _
       (rw [← hao] at S; refine ⟨l.length - (k + 1), by omega, k + 1, F7, gg7, gx7, A7, X7, rfl, by omega, (fun b o h => hm7 _ _ (hm5 _ _ h)), hO7, hXO7, hR7, hX7, hA7, ?_⟩; refine S.keep ?_; exact zk))
      revert a; refine go 5 ?_; intro Z hZ a S
      (refine wv S (q05 S rfl rfl hc0) ?_; clear S a; intro a S)
      revert a; revert Z; refine go 3 ?_; intro a S
      refine q00 S rfl ?_ ?_ <;> intro h
      · (refine q0k [0, 1, 2, 3, 5, 6, 7, 8, 9, 10, 11, 12, 13, 14, 15, 16, 17, 18, 19, 20] [10, 15, 20] [] (.one 0 (.one 1 (.one 2 (.one 3 (.one 5 (.one 6 (.one 7 (.one 8 (.one 9 (.one 10 (.one 11 (.one 12 (.one 13 (.one 14 (.one 15 (.one 16 (.one 17 (.one 18 (.one 19 (.one 20 (.one 4 (.one 21 (.one 22 (.one 23 .nil)))))))))))))))))))))))) [] S mixed (by kernel_rfl) ?_; clear S; intro w S)
        revert a; refine go 21 ?_; intro a S
        (refine qp4 (gl := g12 ++ (g13 ++ g14)) (Gr := [gx]) S rfl rfl rfl rfl rfl rfl hOg (fun hle hnd gv h1 h2 => qpc _ (W5.T.mono hle) bg vg gv gg aggs A h1 (W5.A.mono hle) h2 hR.inv x.key x.way x.args _ _ _ (q32 (fun p hp => List.mem_append_left _ hp) hnd hO12) (q32 (fun p hp => List.mem_append_right _ (List.mem_append_left _ hp)) hnd hO13) (q32 (fun p hp => List.mem_append_right _ (List.mem_append_right _ hp)) hnd hO14) bx1 bx2 bx3) rfl (List.Perm.refl _) ?_; clear S a; intro gg6 F6 a w hO6 hF6 S; replace S := u8a S)
        revert a; refine go 2 ?_; intro a S
        (refine q2p (Gs := [gx]) (Gr := [g12, g13, g14, gg6]) S rfl rfl rfl rfl rfl rfl (u3p F6 bx avx X gx (hXO.mono hF6) (by omega) aggs (W5.B.mono hF6) h8 x.key x.way x.args _ _ _ (hT1.mono hF6) (hT2.mono hF6) (hT3.mono hF6) (.inr bx1.dp) bx2.dp bx3.dp hR.len) rfl (by simp) ?_; clear S a; intro v122 F7 G7 a w hv hF7 S; obtain ⟨rfl, gx7, rfl, hXO7⟩ := hv; rw [qhs hR bx1 bx2 bx3] at S; generalize qam aggs A x.key x.way x.args = e7 at S; have hR7 := hR.addX bx1 bx2 bx3; have hlX7 := qqs aggs X x.key x.way x.args; have hlA7 := qrc aggs A x.key x.way x.args; replace hO6 := hO6.mono hF7; have hm57 : ∀ b o, F5 b = some o → F7 b = some o := (fun b o h => hF7 _ _ (hF6 _ _ h)); (simp only [List.singleton_append] at S); replace S : St _ _ _ _ _ F7 [g12, g13, g14, gg6, gx7] _ _ := St.permI S 5 rfl [1, 2, 3, 4, 0] (by decide))
        revert a; refine go 8 ?_; intro a S
        (refine hZ _ _ ?_)
        (refine ⟨_, gg6, gx7, _, _, e7, hm57, hO6, hXO7, hR7, by omega, by omega, ?_⟩; (refine S.keep ?_; exact zk))
      (refine q0k [0, 1, 2, 4, 5, 6, 7, 8, 9, 10, 11, 12, 13, 14] [9, 14] [] (.one 0 (.one 1 (.one 2 (.one 4 (.one 5 (.one 6 (.one 7 (.one 8 (.one 9 (.one 10 (.one 11 (.one 12 (.one 13 (.one 14 (.one 3 (.one 15 (.one 16 (.one 17 .nil)))))))))))))))))) [] S mixed (by kernel_rfl) ?_; clear S; intro w S)
      revert a; refine go 15 ?_; intro a S
      (refine qp4 (gl := g12 ++ (g13 ++ g14)) (Gr := [gx]) S rfl rfl rfl rfl rfl rfl hOg (fun hle hnd gv h1 h2 => qlo _ (W5.T.mono hle) bg vg gv gg A h1 (by obtain ⟨_, _, e9, -, -⟩ := id W5.A; rw [e9]; rfl) h2 x.key x.way _ _ (q32 (fun p hp => List.mem_append_left _ hp) hnd hO12) (q32 (fun p hp => List.mem_append_right _ (List.mem_append_left _ hp)) hnd hO13) bx1 bx2) rfl (List.Perm.refl _) ?_; clear S a; intro gg6 F6 a w hO6 hF6 S; replace S := u8a S)
      revert a; refine go 2 ?_; intro a S
      (refine q02 (Gs := [gx]) (Gr := [g12, g13, g14, gg6]) S rfl rfl rfl rfl rfl rfl (u11 F6 bx avx X gx (hXO.mono hF6) (by obtain ⟨_, _, e9, -, -⟩ := id W5.B; rw [e9]; rfl) (by omega) x.key x.way _ _ (hT1.mono hF6) (hT2.mono hF6) bx1.dp.1 bx2.dp.1) rfl (by simp) ?_; clear S a; intro v138 G7 a w hv S; obtain ⟨rfl, gx7, rfl, hXO7⟩ := hv; rw [qdc hR bx1 bx2] at S; generalize qdo A x.key x.way = e7 at S; have hR7 := hR.delY bx1 bx2; have hlX7 := qrw X x.key x.way; have hlA7 := qs2 A x.key x.way; have hm57 := hF6; (simp only [List.singleton_append] at S); replace S : St _ _ _ _ _ F6 [g12, g13, g14, gg6, gx7] _ _ := St.permI S 5 rfl [1, 2, 3, 4, 0] (by decide))
      revert a; refine go 8 ?_; intro a S
      (refine hZ _ _ ?_)
      (refine ⟨_, gg6, gx7, _, _, e7, hm57, hO6, hXO7, hR7, by omega, by omega, ?_⟩; (refine S.keep ?_; exact zk))
    (refine wp_exit ?_; conv => whnf)
    clear hZ Z
    revert a; revert Z; refine go 2 ?_; intro Z hZ a S
    (refine wc0 S (q5w F5 (W.mono hm5).T (W.mono hm5).E) ?_; clear S a; intro v28 a w hv S; subst hv)
    revert a; revert Z; refine go 3 ?_; intro a S
    refine wp_ret (fr1 S Tryz.results5 ?_)
    (first | rfl)
  (clear S a; intro h a S)
  revert a; revert Z; refine go 5 ?_; intro a S
  refine q0h S rfl ?_
  refine q1i fun Z hZ => ?_
  (refine wc0 S (q5w F hq he) ?_; clear S a; intro v28 a w hv S; subst hv)
  revert a; revert Z; refine go 3 ?_; intro a S
  refine wp_ret (fr1 S Tryz.results5 ?_)
  (first | rfl)
theorem qsb (F : q01) (hq : q50 F) (he : qf6 F) (v0 v1 : Value) (aggs : List (List UInt8)) (l : List OpD) (hA : LiM F 1 StR v0 aggs) (hL : LiM F 4 OpR v1 l) (hg : ∀ x ∈ l, OpG x) :
  Ct Tryz.prog 5 [v0, v1] F [] (fun _ _ u => u = .bool true) := by
 by_cases hn : q7y aggs = 0
 ·exact qgf F hq he v0 v1 aggs l hA hL hg hn
 ·exact qkl F hq he v0 v1 aggs l hA hL hn
