/- Walks: OwnType, Put of both sides, SameType, how many types there are. -/
import Derived.Test.YtoaodbclgeeaeaaGreatDoorDeB
namespace Go.Proofs.YtoaodbclgeeaeaaGreatDoor
open Go Go.Wk Go.Un Go.De
set_option linter.unusedSimpArgs false
set_option linter.unusedVariables false
attribute [local irreducible] Go.wpList Go.Code.wp Go.wpStill Go.Wk.wpPre Go.bodyPost Go.Calls Go.Wk.Ct Go.Wk.OwnS
attribute [local irreducible] Go.Wk.wpG Go.Wk.wpM

def OwnTD (m : Nat) : Prop := ∀ (F : Heap) (nm : List UInt8) (ar : Fo) (cs : List Value), ar.size < m → TyC F cs nm ar → ar.len * 40 ≤ 140737488355328 → Thin ar →
  Ct Tryz.prog 30 [.agg ⟨cs⟩] F [] (fun F' _ u => ∃ (ao : Option Addr) (q c : Nat), u = .agg ⟨[.string (bs nm), .slice ao q c]⟩ ∧ SlF F' (.slice ao q c) ar)
set_option maxRecDepth 20000 in
set_option maxHeartbeats 8000000 in
theorem ownTypeCt : ∀ m, OwnTD m := by
  intro m
  induction m with
  | zero => intro F nm ar cs hm; omega
  | succ m ih =>
  intro F nm ar cs hm hT hln hthin
  obtain ⟨v, rfl, ao, cap, rfl, hcap, hpos⟩ := hT
  refine Ct.enter Tryz.func30 rfl Tryz.ntmps30 rfl fun w0 a S => ?_
  refine wp_sr fun Kq1 hKq1 => ?_
  (refine wpl_bx S ?_; clear S a; intro b1 a w S)
  (refine wpl_al S ?_; clear S a; intro b2 a w S)
  (refine wpList_nil (hKq1 _ _ (wp_sr fun Kq2 hKq2 => ?_)); try clear hKq1 Kq1)
  (refine wpl_f S ?_; clear S a; intro a S)
  (refine wpl_l S ?_; clear S a; intro a S)
  (refine wpl_b S ?_; clear S a; intro a S)
  (refine wpl_al S ?_; clear S a; intro b3 a w S)
  (refine wpl_storeO S rfl rfl rfl rfl rfl (by rfl) (by simp [Value.cells, Value.oneCell', splice]) (by rfl) ?_; clear S; intro w S)
  (refine wpList_nil (hKq2 _ _ (wp_seq_k fun Kq3 hKq3 => ?_)); try clear hKq2 Kq2)
  refine wp_sr fun Kq4 hKq4 => ?_
  (refine wpl_p S ?_; clear S a; intro a S)
  (refine wpList_nil (hKq4 _ _ ?_); try clear hKq4 Kq4)
  refine wp_block ?_
  refine wpc_loop (fun m a w' => ∃ (i : Nat) (v : Value) (g : Grp) (xs : List Value) (pre : Fo) (F3 : Heap), m = ar.len - i ∧ i ≤ ar.len ∧ (∀ b o, F b = some o → F3 b = some o) ∧ OwnS 24 2 v i xs g ∧ FoC F3 xs pre ∧ pre.len = i ∧ pre.app (ar.drop i) = ar ∧ St 27 [(1, ptr b1), (2, ptr b2), (3, ptr b3), (4, .int .i64 i)] w0 F [] F3 ([(b3, .cells ⟨[.string (bs nm), v]⟩ 24 (0, 0))] :: g :: [(b2, .cells ⟨[.string (bs []), .slice none 0 0]⟩ 24 (0, 0))] :: [(b1, .cells ⟨[.string (bs nm), .slice ao ar.len cap]⟩ 24 (0, 0))] :: []) a w') ?_ ?_
  · (replace S := st_nil2 S; refine ⟨ar.len, 0, .slice none 0 0, [], [], .nil, F, by omega, Nat.zero_le _, fun _ _ h => h, OwnS.nil _ _, trivial, rfl, rfl, ?_⟩; refine S.keep ?_; repeat (first | exact trivial | refine ⟨rfl, ?_⟩))
  (clear S; rintro m a w ⟨i, v, g, xs, pre, F3, rfl, hil, hF3, hown, hfc, hpre, happ, S⟩)
  (refine wp_seq_k ?_; intro Kq5 hKq5)
  refine wp_sr fun Kq6 hKq6 => ?_
  (refine wpl_p S ?_; clear S a; intro a S)
  (refine wpl_f S ?_; clear S a; intro a S)
  (refine wpl_l S ?_; clear S a; intro a S)
  (refine wpl_n S ?_; clear S a; intro a S)
  (refine wpl_p S ?_; clear S a; intro a S)
  (refine wpList_nil (hKq6 _ _ ?_); try clear hKq6 Kq6)
  refine wpc_split S rfl (fun h => ?_) (fun h => ?_)
  · (skip; (try simp only [tq] at h))
    refine wp_skip ?_
    (refine hKq5 _ _ ?_; try (clear hKq5 Kq5))
    (refine wp_seq_k ?_; intro Kq7 hKq7)
    refine wp_block ?_
    (obtain ⟨b8, o8, hao, x, v1, hx, hc1, hT1⟩ := FoM.pos hpos (k := i) (by omega); rw [hao] at S; replace hc1 := Cels.mono hF3 hc1; replace hT1 := hT1.mono hF3; have hT1c := hT1; obtain ⟨a91, c91, rfl, -⟩ := hT1c; obtain ⟨hx40, hxth⟩ := hthin.get hx; have hxs := Fo.size_get hx)
    (refine wpc_mixM [0, 1, 2, 3, 4, 5, 6, 10] [1, 3, 6] [11] (.one 0 (.one 1 (.one 2 (.one 3 (.one 4 (.one 5 (.one 6 (.one 7 (.one 8 (.one 9 (.one 10 (.one 11 .nil)))))))))))) [b3, b1] S mixed (by kernel_rfl) ?_; clear S; intro w S)
    (refine wpm_f S ?_; clear S a; intro a S)
    (refine wpm_o b3 S ?_; clear S a; intro a S)
    (refine wpm_f S ?_; clear S a; intro a S)
    (refine wpm_o b1 S ?_; clear S a; intro a S)
    (refine wpm_p S ?_; clear S a; intro a S)
    (refine wpm_i S ?_; clear S a; intro a S)
    first | (refine wpm_lateF S rfl rfl rfl (want_none _ rfl) rfl rfl (fun w' S => sv_loadF S rfl rfl (by assumption)) ?_; clear S a; intro a S) | (refine wpm_lateF S rfl rfl rfl (want_none _ rfl) rfl rfl (fun w' S => sv_loadAF S rfl rfl (by assumption) (by rfl)) ?_; clear S a; intro a S)
    refine wpm_eff rfl rfl (kwa S) ?_
    (refine wpl_call (Gs := []) (Gr := [[(b3, _)], g, [(b2, _)], [(b1, _)]]) S rfl rfl rfl rfl rfl rfl (ih F3 x.1 x.2 _ (by omega) ⟨_, rfl, hT1⟩ hx40 hxth) rfl (by exact List.Perm.refl _) ?_; clear S a; intro u9 F4 G4 a w hv hF4 S; obtain ⟨a4, q4, c4, rfl, hs4⟩ := hv; replace S : St _ _ _ _ _ F4 ([(b3, _)] :: g :: [(b2, _)] :: [(b1, _)] :: []) _ _ := ⟨S.fr, S.tr.sub (by rw [List.flatten_append]; exact List.sublist_append_right _ _)⟩)
    refine wpList_nil ?_
    refine wpm_eff rfl rfl (kwa S) ?_
    (refine wpl_buildSlice S rfl rfl rfl rfl rfl rfl (by rfl) (by simp [Value.cells, splice, splice]) rfl (by rfl) (by rfl) ?_; clear S a; intro b23 a w hown2 S)
    refine wpList_nil ?_
    refine wpm_eff rfl rfl (kwa S) ?_
    (refine wpl_appendOwn S rfl rfl rfl rfl rfl rfl hown hown2 (by rfl) (by simp [Value.cells, Value.oneCell', splice, splice]) (by omega) (by omega) ?_; clear hown S a; intro v g a w hown S)
    refine wpList_nil ?_
    (refine wpm_f S ?_; clear S a; intro a S)
    refine wpm_eff rfl rfl (kwa S) ?_
    (refine wpl_store1 S rfl rfl rfl rfl rfl hown.oneCell (by first | (simp; done) | (simp [Value.cells]; done) | exact Nat.le_of_ble_eq_true rfl) ?_; clear S; intro w S)
    refine wpList_nil ?_
    (refine wpm_nil (fun h => absurd h (by decide)) (hKq7 _ _ ?_); try clear hKq7 Kq7)
    refine wp_region_lit ?_
    (refine wpl_p S ?_; clear S a; intro a S)
    (refine wpl_a S ?_; clear S a; intro a S)
    (refine wpl_p S ?_; clear S a; intro a S)
    refine wpList_nil ?_
    change ∃ m', _ ∧ _
    (rw [← hao] at S; refine ⟨ar.len - (i + 1), by omega, i + 1, _, _, _, pre.app (.cons x.1 x.2 .nil), F4, rfl, by omega, fun b o h => hF4 _ _ (hF3 _ _ h), hown, FoC.app (hfc.mono hF4) (FoC.one hs4), by rw [Fo.len_app, hpre]; rfl, drop_app happ hx, ?_⟩; refine S.keep ?_; repeat (first | exact trivial | refine ⟨rfl, ?_⟩))
  (skip; (try simp only [tq] at h))
  refine wp_exit ?_
  (refine hKq3 _ _ ?_; try (clear hKq3 Kq3))
  (refine wp_seq_k ?_; intro Kq7 hKq7)
  (obtain ⟨aoK, capK, rfl, -⟩ := hown.at)
  refine wp_region_lit ?_
  (refine wpl_l S ?_; clear S a; intro a S)
  (refine wpl_storeO S rfl rfl rfl rfl rfl (by rfl) (by simp [Value.cells, Value.oneCell', splice]) (by rfl) ?_; clear S; intro w S)
  (refine wpList_nil (hKq7 _ _ ?_); try clear hKq7 Kq7)
  refine wp_ret ?_
  (have S0 := S; have hii : i = ar.len := (by omega); replace S := S.drop1; have hle := add_le (G1 := []) S; replace S := St.freeze (G1 := []) S; (simp only [List.nil_append] at S hle); replace S := S.drop1.drop1)
  refine fin_ret S (results1 Tryz.results30 (RV.cellO S0 rfl (by rfl))) ?_
  (have hdl : ar.drop i = .nil := Fo.drop_len (by omega); rw [hdl, fo_app_nil] at happ; rw [happ] at hfc hpre; exact ⟨_, _, _, rfl, FoC.slf hown hfc (by omega) hle (by omega)⟩)
theorem putA_yes {vs : List (List UInt8)} {L : Fo} {nm : List UInt8} {x : Ty} {j : Nat} (hp : parS nm = true) (hj : idxOf vs nm = (j : Int)) (hx : L.get? j = some x) : putA vs L nm = some x := by
  have h1 := Fo.lt_get hx
  unfold putA
  rw [if_pos ⟨hp, by omega, by omega⟩, hj]
  exact hx
theorem putA_no {vs : List (List UInt8)} {L : Fo} {nm : List UInt8} (h : ¬ (parS nm = true ∧ 0 ≤ idxOf vs nm ∧ idxOf vs nm < L.len)) : putA vs L nm = none := by unfold putA; rw [if_neg h]
def PutD (vs : List (List UInt8)) (vp : Value) (L : Fo) (va : Value) (F : Heap) (m : Nat) : Prop := ∀ (F' : Heap) (nm : List UInt8) (ar : Fo) (cs : List Value), ar.size < m → (∀ b o, F b = some o → F' b = some o) → TyC F' cs nm ar → ar.len * 40 ≤ 140737488355328 → Thin ar →
  Ct Tryz.prog 9 [.agg ⟨cs⟩, vp, va] F' [] (fun F'' _ u => ∃ (ao : Option Addr) (q c : Nat), u = .agg ⟨[.string (bs (putT vs L (nm, ar)).1), .slice ao q c]⟩ ∧ SlF F'' (.slice ao q c) (putT vs L (nm, ar)).2)
set_option maxRecDepth 20000 in
set_option maxHeartbeats 8000000 in
theorem putCt (F : Heap) (vs : List (List UInt8)) (vp : Value) (L : Fo) (va : Value) (hvp : SlC F vp vs.length (strs vs)) (hvl : vs.length ≤ 9223372036854775807) (hva : SlF F va L) (hthL : Thin L) : ∀ m, PutD vs vp L va F m := by
  intro m
  induction m with
  | zero => intro F' nm ar cs hm; omega
  | succ m ih =>
  intro F' nm ar cs hm hF hT hln hthin
  obtain ⟨v, rfl, ao, cap, rfl, hcap, hpos⟩ := hT
  have hvp0 := hvp.mono hF
  obtain ⟨ap, cp, rfl, hcp, -⟩ := hvp
  have hva0 := hva.mono hF
  obtain ⟨aa, ca, rfl, hca, hposa⟩ := hva
  refine Ct.enter Tryz.func9 rfl Tryz.ntmps9 rfl fun w0 a S => ?_
  refine wp_sr fun Kq1 hKq1 => ?_
  (refine wpl_bx S ?_; clear S a; intro b3 a w S)
  (refine wpl_al S ?_; clear S a; intro b6 a w S)
  (refine wpList_nil (hKq1 _ _ (wp_seq_k fun Kq2 hKq2 => ?_)); try clear hKq1 Kq1)
  replace hKq2 : ∀ (a' : Act) (w' : World), (putA vs L nm = none ∧ St 52 [(1, .slice ap vs.length cp), (2, .slice aa L.len ca), (3, ptr b3), (6, ptr b6)] w0 F' [] F' ([(b6, .cells ⟨[.string (bs []), .slice none 0 0]⟩ 24 (0, 0))] :: [(b3, .cells ⟨[.string (bs nm), .slice ao ar.len cap]⟩ 24 (0, 0))] :: []) a' w') → Kq2 a' w' := (by
   (intro a w hM; refine hKq2 _ _ ?_; clear hKq2 Kq2; clear S; obtain ⟨hpn, S⟩ := hM)
   refine wp_sr fun Kq3 hKq3 => ?_
   (refine wpl_f S ?_; clear S a; intro a S)
   (refine wpl_l S ?_; clear S a; intro a S)
   (refine wpl_b S ?_; clear S a; intro a S)
   (refine wpl_al S ?_; clear S a; intro b8 a w S)
   (refine wpl_storeO S rfl rfl rfl rfl rfl (by rfl) (by simp [Value.cells, Value.oneCell', splice]) (by rfl) ?_; clear S; intro w S)
   (refine wpList_nil (hKq3 _ _ (wp_seq_k fun Kq4 hKq4 => ?_)); try clear hKq3 Kq3)
   refine wp_sr fun Kq5 hKq5 => ?_
   (refine wpl_f S ?_; clear S a; intro a S)
   (refine wpl_l S ?_; clear S a; intro a S)
   (refine wpl_n S ?_; clear S a; intro a S)
   (refine wpl_p S ?_; clear S a; intro a S)
   (refine wpList_nil (hKq5 _ _ ?_); try clear hKq5 Kq5)
   refine wp_block ?_
   refine wpc_loop (fun m a w' => ∃ (i : Nat) (v : Value) (g : Grp) (xs : List Value) (pre : Fo) (F3 : Heap), m = ar.len - i ∧ i ≤ ar.len ∧ (∀ b o, F' b = some o → F3 b = some o) ∧ OwnS 24 2 v i xs g ∧ FoC F3 xs pre ∧ pre.len = i ∧ pre.app (putL vs L (ar.drop i)) = putL vs L ar ∧ St 52 [(1, .slice ap vs.length cp), (2, .slice aa L.len ca), (6, ptr b6), (8, ptr b8), (35, .slice ao ar.len cap), (36, .int .i64 ar.len), (37, .int .i64 i)] w0 F' [] F3 ([(b8, .cells ⟨[.string (bs nm), v]⟩ 24 (0, 0))] :: g :: [(b6, .cells ⟨[.string (bs []), .slice none 0 0]⟩ 24 (0, 0))] :: [(b3, .cells ⟨[.string (bs nm), .slice ao ar.len cap]⟩ 24 (0, 0))] :: []) a w') ?_ ?_
   · (replace S := st_nil2 S; refine ⟨ar.len, 0, .slice none 0 0, [], [], .nil, F', by omega, Nat.zero_le _, fun _ _ h => h, OwnS.nil _ _, trivial, rfl, rfl, ?_⟩; refine S.keep ?_; repeat (first | exact trivial | refine ⟨rfl, ?_⟩))
   (clear S; rintro m a w ⟨i, v, g, xs, pre, F3, rfl, hil, hF3, hown, hfc, hpre, happ, S⟩)
   refine wp_sr fun Kq6 hKq6 => ?_
   (refine wpl_p S ?_; clear S a; intro a S)
   (refine wpList_nil (hKq6 _ _ (wp_seq_k fun Kq7 hKq7 => ?_)); try clear hKq6 Kq6)
   refine wpc_split S rfl (fun h => ?_) (fun h => ?_)
   · (skip; (try simp only [tq] at h))
     refine wp_skip ?_
     (refine hKq7 _ _ ?_; try (clear hKq7 Kq7))
     (refine wp_seq_k ?_; intro Kq8 hKq8)
     refine wp_block ?_
     (refine wp_seq_k ?_; intro Kq9 hKq9)
     (obtain ⟨b9, o9, hao, x, v1, hx, hc1, hT1⟩ := FoM.pos hpos (k := i) (by omega); rw [hao] at S; replace hc1 := Cels.mono hF3 hc1; replace hT1 := hT1.mono hF3; have hT1c := hT1; obtain ⟨a91, c91, rfl, -⟩ := hT1c; obtain ⟨hx40, hxth⟩ := hthin.get hx; have hxs := Fo.size_get hx; have hdr := Fo.drop_get hx)
     refine wp_region_lit ?_
     (refine wpl_i S ?_; clear S a; intro a S)
     (refine wpl_l S ?_; clear S a; intro a S)
     (refine wpl_al S ?_; clear S a; intro b10 a w S)
     (refine wpl_storeO S rfl rfl rfl rfl rfl (by rfl) (by simp [Value.cells, Value.oneCell', splice]) (by rfl) ?_; clear S; intro w S)
     (refine wpList_nil (hKq9 _ _ ?_); try clear hKq9 Kq9)
     (refine wpc_mixM [0, 1, 2, 3, 4, 8] [1, 2] [9] (.one 0 (.one 1 (.one 2 (.one 3 (.one 4 (.one 5 (.one 6 (.one 7 (.one 8 (.one 9 .nil)))))))))) [b8, b10] S mixed (by kernel_rfl) ?_; clear S; intro w S)
     (refine wpm_f S ?_; clear S a; intro a S)
     (refine wpm_o b8 S ?_; clear S a; intro a S)
     (refine wpm_o b10 S ?_; clear S a; intro a S)
     iterate 2 (refine wpm_p S ?_; clear S a; intro a S)
     refine wpm_eff rfl rfl (kwa S) ?_
     (refine wpl_call (Gs := []) (Gr := [[(b10, _)], [(b8, _)], g, [(b6, _)], [(b3, _)]]) S rfl rfl rfl rfl rfl rfl (ih F3 x.1 x.2 _ (by omega) (fun b o h => hF3 _ _ (hF _ _ h)) ⟨_, rfl, hT1⟩ hx40 hxth) rfl (by exact List.Perm.refl _) ?_; clear S a; intro u9 F4 G4 a w hv hF4 S; obtain ⟨a4, q4, c4, rfl, hs4⟩ := hv; replace S : St _ _ _ _ _ F4 ([(b10, _)] :: [(b8, _)] :: g :: [(b6, _)] :: [(b3, _)] :: []) _ _ := ⟨S.fr, S.tr.sub (by rw [List.flatten_append]; exact List.sublist_append_right _ _)⟩)
     refine wpList_nil ?_
     refine wpm_eff rfl rfl (kwa S) ?_
     (refine wpl_buildSlice S rfl rfl rfl rfl rfl rfl (by rfl) (by simp [Value.cells, splice, splice]) rfl (by rfl) (by rfl) ?_; clear S a; intro b47 a w hown2 S)
     refine wpList_nil ?_
     refine wpm_eff rfl rfl (kwa S) ?_
     (refine wpl_appendOwn S rfl rfl rfl rfl rfl rfl hown hown2 (by rfl) (by simp [Value.cells, Value.oneCell', splice, splice]) (by omega) (by omega) ?_; clear hown S a; intro v g a w hown S)
     refine wpList_nil ?_
     (refine wpm_f S ?_; clear S a; intro a S)
     refine wpm_eff rfl rfl (kwa S) ?_
     (refine wpl_store1 S rfl rfl rfl rfl rfl hown.oneCell (by first | (simp; done) | (simp [Value.cells]; done) | exact Nat.le_of_ble_eq_true rfl) ?_; clear S; intro w S)
     refine wpList_nil ?_
     (refine wpm_nil (fun h => absurd h (by decide)) (hKq8 _ _ ?_); try clear hKq8 Kq8)
     refine wp_region_lit ?_
     (refine wpl_a S ?_; clear S a; intro a S)
     (refine wpl_p S ?_; clear S a; intro a S)
     refine wpList_nil ?_
     change ∃ m', _ ∧ _
     (rw [← hao] at S; replace S := S.drop1; refine ⟨ar.len - (i + 1), by omega, i + 1, _, _, _, pre.app (.cons (putT vs L x).1 (putT vs L x).2 .nil), F4, rfl, by omega, fun b o h => hF4 _ _ (hF3 _ _ h), hown, FoC.app (hfc.mono hF4) (FoC.one hs4), by rw [Fo.len_app, hpre]; rfl, ?_, ?_⟩; rotate_left 1; (refine S.keep ?_; repeat (first | exact trivial | refine ⟨rfl, ?_⟩)); (rw [fo_app_assoc, ← happ, hdr, putL_cons]; rfl))
   (skip; (try simp only [tq] at h))
   refine wp_exit ?_
   (refine hKq4 _ _ ?_; try (clear hKq4 Kq4))
   (refine wp_seq_k ?_; intro Kq8 hKq8)
   (obtain ⟨aoK, capK, rfl, -⟩ := hown.at)
   refine wp_region_lit ?_
   (refine wpl_l S ?_; clear S a; intro a S)
   (refine wpl_storeO S rfl rfl rfl rfl rfl (by rfl) (by simp [Value.cells, Value.oneCell', splice]) (by rfl) ?_; clear S; intro w S)
   (refine wpList_nil (hKq8 _ _ ?_); try clear hKq8 Kq8)
   refine wp_ret ?_
   (have S0 := S; (first | (have hii : i = ar.len := (by omega); have h9 := hown; replace S := S.drop1; have hle := add_le (G1 := []) S; replace S := St.freeze (G1 := []) S; (simp only [List.nil_append] at S hle); replace S := S.drop1.drop1) | (have h9 := hs9; replace S := S.drop1.drop1)))
   refine fin_ret S (results1 Tryz.results9 (RV.cellO S0 rfl (by rfl))) ?_
   (first | (have h9 := hii; have e9 : putT vs L (nm, ar) = (nm, putL vs L ar) := (by unfold putT; rw [hpn]; rfl); rw [e9]; have hdl : ar.drop i = .nil := Fo.drop_len (by omega); rw [hdl] at happ; rw [show putL vs L Fo.nil = Fo.nil from rfl, fo_app_nil] at happ; rw [happ] at hfc hpre; exact ⟨_, _, _, rfl, FoC.slf hown hfc (by rw [putL_len]; omega) hle (by omega)⟩) | (have h9 := hs9; have e9 : putT vs L (nm, ar) = x := (by unfold putT; rw [putA_yes hpar hj hx]; rfl); rw [e9]; exact ⟨_, _, _, rfl, hs9⟩) | trace_state))
  refine wp_sr fun Kq9 hKq9 => ?_
  (refine wpl_f S ?_; clear S a; intro a S)
  (refine wpl_l S ?_; clear S a; intro a S)
  (refine wpl_c0 S (paramCt F' nm) ?_; clear S a; intro v a w hv S; subst hv)
  (refine wpList_nil (hKq9 _ _ ?_); try clear hKq9 Kq9)
  refine wpc_split S rfl (fun h => ?_) (fun h => ?_)
  · (skip; (try simp only [tq] at h))
    refine wp_sr fun Kq10 hKq10 => ?_
    (refine wpl_p S ?_; clear S a; intro a S)
    (refine wpl_f S ?_; clear S a; intro a S)
    (refine wpl_l S ?_; clear S a; intro a S)
    (refine wpl_c0 S (indexSCt F' vs nm _ hvp0 hvl) ?_; clear S a; intro v a w hv S; subst hv)
    (refine wpl_p S ?_; clear S a; intro a S)
    (refine wpList_nil (hKq10 _ _ (wp_sr fun Kq11 hKq11 => ?_)); try clear hKq10 Kq10)
    iterate 3 (refine wpl_p S ?_; clear S a; intro a S)
    refine wpl_guard S rfl rfl rfl rfl rfl ?_ ?_
    · (intro h S'; clear S; have S := S'; clear S'; (try simp only [tq] at h))
      (refine wpl_p S ?_; clear S a; intro a S)
      refine wpl_take S rfl rfl rfl ?_
      (refine wpl_p S ?_; clear S a; intro a S)
      refine wpl_take S rfl rfl rfl ?_
      (refine wpl_n S ?_; clear S a; intro a S)
      refine wpl_take S rfl rfl rfl ?_
      iterate 2 (refine wpl_p S ?_; clear S a; intro a S)
      (refine wpList_nil (hKq11 _ _ ?_); try clear hKq11 Kq11)
      refine wpc_split S rfl (fun h => ?_) (fun h => ?_)
      · (skip; (try simp only [tq] at h))
        (refine wp_seq_k ?_; intro Kq12 hKq12)
        (have hpar : parS nm = true := (by assumption); obtain ⟨j, hj⟩ : ∃ j : Nat, idxOf vs nm = (j : Int) := ⟨(idxOf vs nm).toNat, (by omega)⟩; rw [hj] at S; obtain ⟨b9, o9, hao, x, v1, hx, hc1, hT1⟩ := FoM.pos hposa (k := j) (by omega); rw [hao] at S; replace hc1 := Cels.mono hF hc1; replace hT1 := hT1.mono hF; have hT1c := hT1; obtain ⟨a91, c91, rfl, -⟩ := hT1c; obtain ⟨hx40, hxth⟩ := hthL.get hx)
        refine wp_region_lit ?_
        iterate 2 (refine wpl_p S ?_; clear S a; intro a S)
        (refine wpl_i S ?_; clear S a; intro a S)
        (refine wpl_l S ?_; clear S a; intro a S)
        (refine wpl_cF S (ownDCt (x.2.size + 1) F' x.1 x.2 _ (Nat.lt_succ_self _) ⟨_, rfl, hT1⟩ hx40 hxth) ?_; clear S a; intro u9 F9 a w hv hF9 S; obtain ⟨a9, q9, c9, rfl, hs9⟩ := hv)
        (refine wpl_storeO S rfl rfl rfl rfl rfl (by rfl) (by simp [Value.cells, Value.oneCell', splice]) (by rfl) ?_; clear S; intro w S)
        (refine wpList_nil (hKq12 _ _ ?_); try clear hKq12 Kq12)
        refine wp_ret ?_
        (have S0 := S; (first | (have hii : i = ar.len := (by omega); have h9 := hown; replace S := S.drop1; have hle := add_le (G1 := []) S; replace S := St.freeze (G1 := []) S; (simp only [List.nil_append] at S hle); replace S := S.drop1.drop1) | (have h9 := hs9; replace S := S.drop1.drop1)))
        refine fin_ret S (results1 Tryz.results9 (RV.cellO S0 rfl (by rfl))) ?_
        (first | (have h9 := hii; have e9 : putT vs L (nm, ar) = (nm, putL vs L ar) := (by unfold putT; rw [hpn]; rfl); rw [e9]; have hdl : ar.drop i = .nil := Fo.drop_len (by omega); rw [hdl] at happ; rw [show putL vs L Fo.nil = Fo.nil from rfl, fo_app_nil] at happ; rw [happ] at hfc hpre; exact ⟨_, _, _, rfl, FoC.slf hown hfc (by rw [putL_len]; omega) hle (by omega)⟩) | (have h9 := hs9; have e9 : putT vs L (nm, ar) = x := (by unfold putT; rw [putA_yes hpar hj hx]; rfl); rw [e9]; exact ⟨_, _, _, rfl, hs9⟩) | trace_state)
      (skip; (try simp only [tq] at h))
      refine wp_skip ?_
      (refine hKq2 _ _ ?_)
      (refine ⟨putA_no (by rintro ⟨h1, h2, h3⟩; first | omega | (simp_all; done) | (simp_all; omega)), ?_⟩; refine S.keep ?_; repeat (first | exact trivial | refine ⟨rfl, ?_⟩))
    (intro h; clear S a; intro a S; (try simp only [tq] at h))
    iterate 3 (refine wpl_k S ?_; clear S a; intro a S)
    (refine wpl_p S ?_; clear S a; intro a S)
    (refine wpList_nil (hKq11 _ _ ?_); try clear hKq11 Kq11)
    refine wpc_false S rfl ?_
    refine wp_skip ?_
    (refine hKq2 _ _ ?_)
    (refine ⟨putA_no (by rintro ⟨h1, h2, h3⟩; first | omega | (simp_all; done) | (simp_all; omega)), ?_⟩; refine S.keep ?_; repeat (first | exact trivial | refine ⟨rfl, ?_⟩))
  (skip; (try simp only [tq] at h))
  refine wp_skip ?_
  (refine hKq2 _ _ ?_)
  (refine ⟨putA_no (by rintro ⟨h1, h2, h3⟩; first | omega | (simp_all; done) | (simp_all; omega)), ?_⟩; refine S.keep ?_; repeat (first | exact trivial | refine ⟨rfl, ?_⟩))
end Go.Proofs.YtoaodbclgeeaeaaGreatDoor
