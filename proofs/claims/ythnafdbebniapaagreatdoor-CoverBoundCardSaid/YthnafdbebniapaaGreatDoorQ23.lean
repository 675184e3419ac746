/- Walks. -/
import Derived.Test.YthnafdbebniapaaGreatDoorQ10
import Derived.Test.YthnafdbebniapaaGreatDoorQ19
import Derived.Test.YthnafdbebniapaaGreatDoorQ17
set_option maxHeartbeats 8000000
set_option maxRecDepth 20000
namespace Go.Proofs.YthnafdbebniapaaGreatDoor
open Go Go.Wk Go.Un Go.De
set_option linter.unusedSimpArgs false
set_option linter.unusedVariables false
attribute [local irreducible] Go.wpList Go.Code.wp Go.wpStill Go.Wk.wpPre Go.bodyPost Go.Calls Go.Wk.Ct Go.Wk.OwnS
attribute [local irreducible] Go.Wk.wpG Go.Wk.wpM
def OwnTD (m : Nat) : Prop := ∀ (F : Heap) (nm : List UInt8) (ar : Fo) (cs : List Value), ar.size < m → TyC F cs nm ar → ar.len * 40 ≤ 140737488355328 → Thin ar →
  Ct Tryz.prog 132 [.agg ⟨cs⟩] F [] (fun F' _ u => ∃ (ao : Option Addr) (q c : Nat), u = .agg ⟨[.string (bs nm), .slice ao q c]⟩ ∧ SlF F' (.slice ao q c) ar)
theorem ownTypeCt : ∀ m, OwnTD m := by
  intro m
  induction m with
  | zero => intro F nm ar cs hm; omega
  | succ m ih =>
  intro F nm ar cs hm hT hln hthin
  obtain ⟨v, rfl, ao, cap, rfl, hcap, hpos⟩ := hT
  refine Ct.enter Tryz.func132 rfl Tryz.ntmps132 rfl fun w0 a S => ?_
  refine wp_sr fun Z hZ => ?_
  (refine wpl_box S rfl rfl rfl rfl rfl ?_; clear S a; intro b1 a w S)
  (refine wpl_alloc S rfl rfl rfl rfl ?_; clear S a; intro b2 a w S)
  (revert S a; revert hZ Z; refine go11 6 ?_; intro Z hZ a S)
  (refine wpl_alloc S rfl rfl rfl rfl ?_; clear S a; intro b3 a w S)
  (refine wpl_storeO S rfl rfl rfl rfl rfl (by rfl) (by simp [Value.cells, Value.oneCell', splice]) (by rfl) ?_; clear S; intro w S)
  (revert S a; revert hZ Z; refine go11 8 ?_; intro Z hZ a S)
  refine wpc_loop (fun m a w' => ∃ (i : Nat) (v : Value) (g : Grp) (xs : List Value) (pre : Fo) (F3 : Heap), m = ar.len - i ∧ i ≤ ar.len ∧ (∀ b o, F b = some o → F3 b = some o) ∧ OwnS 49 2 v i xs g ∧ FoC F3 xs pre ∧ pre.len = i ∧ pre.app (ar.drop i) = ar ∧ St 27 [(1, ptr b1), (2, ptr b2), (3, ptr b3), (4, .int .i64 i)] w0 F [] F3 ([(b3, .cells ⟨[.string (bs nm), v]⟩ 49 (0, 0))] :: g :: [(b2, .cells ⟨[.string (bs []), .slice none 0 0]⟩ 49 (0, 0))] :: [(b1, .cells ⟨[.string (bs nm), .slice ao ar.len cap]⟩ 49 (0, 0))] :: []) a w') ?_ ?_
  · (replace S := st_nil2 S; refine ⟨ar.len, 0, .slice none 0 0, [], [], .nil, F, by omega, Nat.zero_le _, fun _ _ h => h, OwnS.nil _ _, trivial, rfl, rfl, ?_⟩; refine S.keep ?_; exact zk)
  (clear S; rintro m a w ⟨i, v, g, xs, pre, F3, rfl, hil, hF3, hown, hfc, hpre, happ, S⟩)
  (revert S a; refine go01 9 ?_; intro Z hZ a S)
  refine wpc_sp S rfl ?_ ?_ <;> intro h
  · (revert S a; revert hZ Z; refine go11 4 ?_; intro Z hZ a S)
    (obtain ⟨b8, o8, hao, x, v1, hx, hc1, hT1⟩ := FoM.pos hpos (k := i) (by omega); rw [hao] at S; replace hc1 := Cels.mono hF3 hc1; replace hT1 := hT1.mono hF3; have hT1c := hT1; obtain ⟨a91, c91, rfl, -⟩ := hT1c; obtain ⟨hx40, hxth⟩ := hthin.get hx; have hxs := Fo.size_get hx)
    (refine wpc_mixM [0, 1, 2, 3, 4, 5, 6, 10] [1, 3, 6] [11] (.one 0 (.one 1 (.one 2 (.one 3 (.one 4 (.one 5 (.one 6 (.one 7 (.one 8 (.one 9 (.one 10 (.one 11 .nil)))))))))))) [b3, b1] S mixed (by kernel_rfl) ?_; clear S; intro w S)
    (refine wpm_f S rfl rfl rfl (want_none _ rfl) rfl rfl ?_; clear S a; intro a S)
    (refine wpm_o b3 S rfl rfl rfl (want_none _ rfl) rfl rfl ?_; clear S a; intro a S)
    (refine wpm_f S rfl rfl rfl (want_none _ rfl) rfl rfl ?_; clear S a; intro a S)
    (refine wpm_o b1 S rfl rfl rfl (want_none _ rfl) rfl rfl ?_; clear S a; intro a S)
    (refine wpm_p S rfl rfl rfl (want_none _ rfl) rfl rfl ?_; clear S a; intro a S)
    (refine wpm_i S rfl rfl rfl (want_none _ rfl) rfl rfl ?_; clear S a; intro a S)
    first | (refine wpm_lateF S rfl rfl rfl (want_none _ rfl) rfl rfl (fun w' S => sv_loadF S rfl rfl (by assumption)) ?_; clear S a; intro a S) | (refine wpm_lateF S rfl rfl rfl (want_none _ rfl) rfl rfl (fun w' S => sv_loadAF S rfl rfl (by assumption) (by rfl)) ?_; clear S a; intro a S)
    refine wpm_eff rfl rfl (kwa S) ?_
    (refine wpl_call (Gs := []) (Gr := [[(b3, _)], g, [(b2, _)], [(b1, _)]]) S rfl rfl rfl rfl rfl rfl (ih F3 x.1 x.2 _ (by omega) ⟨_, rfl, hT1⟩ hx40 hxth) rfl (by exact List.Perm.refl _) ?_; clear S a; intro u9 F4 G4 a w hv hF4 S; obtain ⟨a4, q4, c4, rfl, hs4⟩ := hv; replace S : St _ _ _ _ _ F4 ([(b3, _)] :: g :: [(b2, _)] :: [(b1, _)] :: []) _ _ := ⟨S.fr, S.tr.sub (by rw [List.flatten_append]; exact List.sublist_append_right _ _)⟩)
    refine wpList_nil ?_
    refine wpm_eff rfl rfl (kwa S) ?_
    (refine wpl_buildSlice S rfl rfl rfl rfl rfl rfl (by rfl) (by simp [Value.cells, splice, splice]) rfl (by rfl) (by rfl) ?_; clear S a; intro b23 a w hown2 S)
    refine wpList_nil ?_
    refine wpm_eff rfl rfl (kwa S) ?_
    (refine wpl_appendOwn S rfl rfl rfl rfl rfl rfl hown hown2 (by rfl) (by simp [Value.cells, Value.oneCell', splice, splice]) (by omega) (by omega) ?_; clear hown S a; intro v g a w hown S)
    refine wpList_nil ?_
    (refine wpm_f S rfl rfl rfl (want_none _ rfl) rfl rfl ?_; clear S a; intro a S)
    refine wpm_eff rfl rfl (kwa S) ?_
    (refine wpl_store1 S rfl rfl rfl rfl rfl hown.oneCell (by first | (simp; done) | (simp [Value.cells]; done) | exact Nat.le_of_ble_eq_true rfl) ?_; clear S; intro w S)
    refine wpList_nil ?_
    refine wpm_nil (fun h => absurd h (by decide)) ?_
    (revert S a; revert hZ Z; refine go10 6 ?_; intro a S)
    change ∃ m', _ ∧ _
    (rw [← hao] at S; refine ⟨ar.len - (i + 1), by omega, i + 1, _, _, _, pre.app (.cons x.1 x.2 .nil), F4, rfl, by omega, fun b o h => hF4 _ _ (hF3 _ _ h), hown, FoC.app (hfc.mono hF4) (FoC.one hs4), by rw [Fo.len_app, hpre]; rfl, drop_app happ hx, ?_⟩; refine S.keep ?_; exact zk)
  (refine wp_exit ?_; conv => whnf)
  clear hZ Z
  (refine hZ _ _ ?_; clear hZ Z)
  (refine wp_seq_k ?_; intro Z hZ)
  (obtain ⟨aoK, capK, rfl, -⟩ := hown.at)
  (revert S a; refine go00 2 ?_; intro a S)
  (refine wpl_storeO S rfl rfl rfl rfl rfl (by rfl) (by simp [Value.cells, Value.oneCell', splice]) (by rfl) ?_; clear S; intro w S)
  (refine wpList_nil (hZ _ _ ?_); clear hZ Z)
  refine wp_ret ?_
  (have S0 := S; have hii : i = ar.len := (by omega); replace S := S.drop1; have hle := add_le (G1 := []) S; replace S := St.freeze (G1 := []) S; (simp only [List.nil_append] at S hle); replace S := S.drop1.drop1)
  refine fin_ret S (results1 Tryz.results132 (RV.cellO S0 rfl (by rfl))) ?_
  (have hdl : ar.drop i = .nil := Fo.drop_len (by omega); rw [hdl, fo_app_nil] at happ; rw [happ] at hfc hpre; exact ⟨_, _, _, rfl, FoC.slf hown hfc (by omega) hle (by omega)⟩)
theorem putA_yes {vs : List (List UInt8)} {L : Fo} {nm : List UInt8} {x : Ty} {j : Nat} (hp : parS nm = true) (hj : idxOf vs nm = (j : Int)) (hx : L.get? j = some x) : putA vs L nm = some x := by
  have h1 := Fo.lt_get hx
  unfold putA
  rw [if_pos ⟨hp, by omega, by omega⟩, hj]
  exact hx
theorem putA_no {vs : List (List UInt8)} {L : Fo} {nm : List UInt8} (h : ¬ (parS nm = true ∧ 0 ≤ idxOf vs nm ∧ idxOf vs nm < L.len)) : putA vs L nm = none := by unfold putA; rw [if_neg h]
def PutD (vs : List (List UInt8)) (vp : Value) (L : Fo) (va : Value) (F : Heap) (m : Nat) : Prop := ∀ (F' : Heap) (nm : List UInt8) (ar : Fo) (cs : List Value), ar.size < m → (∀ b o, F b = some o → F' b = some o) → TyC F' cs nm ar → ar.len * 40 ≤ 140737488355328 → Thin ar →
  Ct Tryz.prog 184 [.agg ⟨cs⟩, vp, va] F' [] (fun F'' _ u => ∃ (ao : Option Addr) (q c : Nat), u = .agg ⟨[.string (bs (putT vs L (nm, ar)).1), .slice ao q c]⟩ ∧ SlF F'' (.slice ao q c) (putT vs L (nm, ar)).2)
theorem zzDeC0 {p : Prop} (h : p := by (refine ⟨putA_no (by rintro ⟨h1, h2, h3⟩; first | omega | (simp_all; done) | (simp_all; omega)), ?_⟩; refine S.keep ?_; exact zk)) : p := h
theorem putCt (F : Heap) (vs : List (List UInt8)) (vp : Value) (L : Fo) (va : Value) (hvp : SlC F vp vs.length (strs vs)) (hvl : vs.length ≤ 9223372036854775807) (hva : SlF F va L) (hthL : Thin L) : ∀ m, PutD vs vp L va F m := by
  intro m
  induction m with
  | zero => intro F' nm ar cs hm; omega
  | succ m ih =>
  intro F' nm ar cs hm hF hT hln hthin
  obtain ⟨v, rfl, ao, cap, rfl, hcap, hpos⟩ := hT
  have hvp0 := hvp.mono hF
  obtain ⟨ap, cp, rfl, hcp, -⟩ := hvp
  have hva0 := hva.mono hF
  obtain ⟨aa, ca, rfl, hca, hposa⟩ := hva
  refine Ct.enter Tryz.func184 rfl Tryz.ntmps184 rfl fun w0 a S => ?_
  refine wp_sr fun Z hZ => ?_
  (refine wpl_box S rfl rfl rfl rfl rfl ?_; clear S a; intro b3 a w S)
  (refine wpl_alloc S rfl rfl rfl rfl ?_; clear S a; intro b6 a w S)
  (refine wpList_nil (hZ _ _ ?_); clear hZ Z; refine wp_seq_k fun Z hZ => ?_)
  replace hZ : ∀ (a' : Act) (w' : World), (putA vs L nm = none ∧ St 52 [(1, .slice ap vs.length cp), (2, .slice aa L.len ca), (3, ptr b3), (6, ptr b6)] w0 F' [] F' ([(b6, .cells ⟨[.string (bs []), .slice none 0 0]⟩ 49 (0, 0))] :: [(b3, .cells ⟨[.string (bs nm), .slice ao ar.len cap]⟩ 49 (0, 0))] :: []) a' w') → Z a' w' := (by
   (intro a w hM; refine hZ _ _ ?_; clear hZ Z; clear S; obtain ⟨hpn, S⟩ := hM)
   (revert S a; refine go01 4 ?_; intro Z hZ a S)
   (refine wpl_alloc S rfl rfl rfl rfl ?_; clear S a; intro b8 a w S)
   (refine wpl_storeO S rfl rfl rfl rfl rfl (by rfl) (by simp [Value.cells, Value.oneCell', splice]) (by rfl) ?_; clear S; intro w S)
   (revert S a; revert hZ Z; refine go11 11 ?_; intro Z hZ a S)
   refine wpc_loop (fun m a w' => ∃ (i : Nat) (v : Value) (g : Grp) (xs : List Value) (pre : Fo) (F3 : Heap), m = ar.len - i ∧ i ≤ ar.len ∧ (∀ b o, F' b = some o → F3 b = some o) ∧ OwnS 49 2 v i xs g ∧ FoC F3 xs pre ∧ pre.len = i ∧ pre.app (putL vs L (ar.drop i)) = putL vs L ar ∧ St 52 [(1, .slice ap vs.length cp), (2, .slice aa L.len ca), (6, ptr b6), (8, ptr b8), (35, .slice ao ar.len cap), (36, .int .i64 ar.len), (37, .int .i64 i)] w0 F' [] F3 ([(b8, .cells ⟨[.string (bs nm), v]⟩ 49 (0, 0))] :: g :: [(b6, .cells ⟨[.string (bs []), .slice none 0 0]⟩ 49 (0, 0))] :: [(b3, .cells ⟨[.string (bs nm), .slice ao ar.len cap]⟩ 49 (0, 0))] :: []) a w') ?_ ?_
   · (replace S := st_nil2 S; refine ⟨ar.len, 0, .slice none 0 0, [], [], .nil, F', by omega, Nat.zero_le _, fun _ _ h => h, OwnS.nil _ _, trivial, rfl, rfl, ?_⟩; refine S.keep ?_; exact zk)
   (clear S; rintro m a w ⟨i, v, g, xs, pre, F3, rfl, hil, hF3, hown, hfc, hpre, happ, S⟩)
   (revert S a; refine go01 5 ?_; intro Z hZ a S)
   refine wpc_sp S rfl ?_ ?_ <;> intro h
   · (revert S a; revert hZ Z; refine go11 4 ?_; intro Z hZ a S)
     (refine wp_seq_k ?_; intro Z hZ)
     (obtain ⟨b9, o9, hao, x, v1, hx, hc1, hT1⟩ := FoM.pos hpos (k := i) (by omega); rw [hao] at S; replace hc1 := Cels.mono hF3 hc1; replace hT1 := hT1.mono hF3; have hT1c := hT1; obtain ⟨a91, c91, rfl, -⟩ := hT1c; obtain ⟨hx40, hxth⟩ := hthin.get hx; have hxs := Fo.size_get hx; have hdr := Fo.drop_get hx)
     (revert S a; refine go00 3 ?_; intro a S)
     (refine wpl_alloc S rfl rfl rfl rfl ?_; clear S a; intro b10 a w S)
     (refine wpl_storeO S rfl rfl rfl rfl rfl (by rfl) (by simp [Value.cells, Value.oneCell', splice]) (by rfl) ?_; clear S; intro w S)
     (revert S a; revert hZ Z; refine go10 2 ?_; intro a S)
     (refine wpc_mixM [0, 1, 2, 3, 4, 8] [1, 2] [9] (.one 0 (.one 1 (.one 2 (.one 3 (.one 4 (.one 5 (.one 6 (.one 7 (.one 8 (.one 9 .nil)))))))))) [b8, b10] S mixed (by kernel_rfl) ?_; clear S; intro w S)
     (refine wpm_f S rfl rfl rfl (want_none _ rfl) rfl rfl ?_; clear S a; intro a S)
     (refine wpm_o b8 S rfl rfl rfl (want_none _ rfl) rfl rfl ?_; clear S a; intro a S)
     (refine wpm_o b10 S rfl rfl rfl (want_none _ rfl) rfl rfl ?_; clear S a; intro a S)
     iterate 2 (refine wpm_p S rfl rfl rfl (want_none _ rfl) rfl rfl ?_; clear S a; intro a S)
     refine wpm_eff rfl rfl (kwa S) ?_
     (refine wpl_call (Gs := []) (Gr := [[(b10, _)], [(b8, _)], g, [(b6, _)], [(b3, _)]]) S rfl rfl rfl rfl rfl rfl (ih F3 x.1 x.2 _ (by omega) (fun b o h => hF3 _ _ (hF _ _ h)) ⟨_, rfl, hT1⟩ hx40 hxth) rfl (by exact List.Perm.refl _) ?_; clear S a; intro u9 F4 G4 a w hv hF4 S; obtain ⟨a4, q4, c4, rfl, hs4⟩ := hv; replace S : St _ _ _ _ _ F4 ([(b10, _)] :: [(b8, _)] :: g :: [(b6, _)] :: [(b3, _)] :: []) _ _ := ⟨S.fr, S.tr.sub (by rw [List.flatten_append]; exact List.sublist_append_right _ _)⟩)
     refine wpList_nil ?_
     refine wpm_eff rfl rfl (kwa S) ?_
     (refine wpl_buildSlice S rfl rfl rfl rfl rfl rfl (by rfl) (by simp [Value.cells, splice, splice]) rfl (by rfl) (by rfl) ?_; clear S a; intro b47 a w hown2 S)
     refine wpList_nil ?_
     refine wpm_eff rfl rfl (kwa S) ?_
     (refine wpl_appendOwn S rfl rfl rfl rfl rfl rfl hown hown2 (by rfl) (by simp [Value.cells, Value.oneCell', splice, splice]) (by omega) (by omega) ?_; clear hown S a; intro v g a w hown S)
     refine wpList_nil ?_
     (refine wpm_f S rfl rfl rfl (want_none _ rfl) rfl rfl ?_; clear S a; intro a S)
     refine wpm_eff rfl rfl (kwa S) ?_
     (refine wpl_store1 S rfl rfl rfl rfl rfl hown.oneCell (by first | (simp; done) | (simp [Value.cells]; done) | exact Nat.le_of_ble_eq_true rfl) ?_; clear S; intro w S)
     refine wpList_nil ?_
     refine wpm_nil (fun h => absurd h (by decide)) ?_
     (revert S a; revert hZ Z; refine go10 5 ?_; intro a S)
     change ∃ m', _ ∧ _
     (rw [← hao] at S; replace S := S.drop1; refine ⟨ar.len - (i + 1), by omega, i + 1, _, _, _, pre.app (.cons (putT vs L x).1 (putT vs L x).2 .nil), F4, rfl, by omega, fun b o h => hF4 _ _ (hF3 _ _ h), hown, FoC.app (hfc.mono hF4) (FoC.one hs4), by rw [Fo.len_app, hpre]; rfl, ?_, ?_⟩; rotate_left 1; (refine S.keep ?_; exact zk); (rw [fo_app_assoc, ← happ, hdr, putL_cons]; rfl))
   (refine wp_exit ?_; conv => whnf)
   clear hZ Z
   (refine hZ _ _ ?_; clear hZ Z)
   (refine wp_seq_k ?_; intro Z hZ)
   (obtain ⟨aoK, capK, rfl, -⟩ := hown.at)
   (revert S a; refine go00 2 ?_; intro a S)
   (refine wpl_storeO S rfl rfl rfl rfl rfl (by rfl) (by simp [Value.cells, Value.oneCell', splice]) (by rfl) ?_; clear S; intro w S)
   (refine wpList_nil (hZ _ _ ?_); clear hZ Z)
   refine wp_ret ?_
   (have S0 := S; (first | (have hii : i = ar.len := (by omega); have h9 := hown; replace S := S.drop1; have hle := add_le (G1 := []) S; replace S := St.freeze (G1 := []) S; (simp only [List.nil_append] at S hle); replace S := S.drop1.drop1) | (have h9 := hs9; replace S := S.drop1.drop1)))
   refine fin_ret S (results1 Tryz.results184 (RV.cellO S0 rfl (by rfl))) ?_
   (first | (have h9 := hii; have e9 : putT vs L (nm, ar) = (nm, putL vs L ar) := (by unfold putT; rw [hpn]; rfl); rw [e9]; have hdl : ar.drop i = .nil := Fo.drop_len (by omega); rw [hdl] at happ; rw [show putL vs L Fo.nil = Fo.nil from rfl, fo_app_nil] at happ; rw [happ] at hfc hpre; exact ⟨_, _, _, rfl, FoC.slf hown hfc (by rw [putL_len]; omega) hle (by omega)⟩) | (have h9 := hs9; have e9 : putT vs L (nm, ar) = x := (by unfold putT; rw [putA_yes hpar hj hx]; rfl); rw [e9]; exact ⟨_, _, _, rfl, hs9⟩) | trace_state))
  (revert S a; refine go01 3 ?_; intro Z hZ a S)
  (refine wpl_call0 S rfl rfl rfl rfl rfl rfl (paramCt F' nm) rfl ?_; clear S a; intro v a w hv S; subst hv)
  (refine wpList_nil (hZ _ _ ?_); clear hZ Z)
  refine wpc_sp S rfl ?_ ?_ <;> intro h
  · (revert S a; refine go01 4 ?_; intro Z hZ a S)
    (refine wpl_call0 S rfl rfl rfl rfl rfl rfl (indexSCt F' vs nm _ hvp0 hvl) rfl ?_; clear S a; intro v a w hv S; subst hv)
    (revert S a; revert hZ Z; refine go11 7 ?_; intro Z hZ a S)
    refine wpl_guard S rfl rfl rfl rfl rfl ?_ ?_
    · (clear S; intro h S; (try simp only [tq] at h))
      (revert S a; revert hZ Z; refine go10 10 ?_; intro a S)
      refine wpc_sp S rfl ?_ ?_ <;> intro h
      · (refine wp_seq_k ?_; intro Z hZ)
        (have hpar : parS nm = true := (by assumption); obtain ⟨j, hj⟩ : ∃ j : Nat, idxOf vs nm = (j : Int) := ⟨(idxOf vs nm).toNat, (by omega)⟩; rw [hj] at S; obtain ⟨b9, o9, hao, x, v1, hx, hc1, hT1⟩ := FoM.pos hposa (k := j) (by omega); rw [hao] at S; replace hc1 := Cels.mono hF hc1; replace hT1 := hT1.mono hF; have hT1c := hT1; obtain ⟨a91, c91, rfl, -⟩ := hT1c; obtain ⟨hx40, hxth⟩ := hthL.get hx)
        (revert S a; refine go00 5 ?_; intro a S)
        (refine wpl_callF S rfl rfl rfl rfl rfl rfl (ownDCt (x.2.size + 1) F' x.1 x.2 _ (Nat.lt_succ_self _) ⟨_, rfl, hT1⟩ hx40 hxth) rfl ?_; clear S a; intro u9 F9 a w hv hF9 S; obtain ⟨a9, q9, c9, rfl, hs9⟩ := hv)
        (refine wpl_storeO S rfl rfl rfl rfl rfl (by rfl) (by simp [Value.cells, Value.oneCell', splice]) (by rfl) ?_; clear S; intro w S)
        (revert S a; revert hZ Z; refine go10 2 ?_; intro a S)
        refine wp_ret ?_
        (have S0 := S; (first | (have hii : i = ar.len := (by omega); have h9 := hown; replace S := S.drop1; have hle := add_le (G1 := []) S; replace S := St.freeze (G1 := []) S; (simp only [List.nil_append] at S hle); replace S := S.drop1.drop1) | (have h9 := hs9; replace S := S.drop1.drop1)))
        refine fin_ret S (results1 Tryz.results184 (RV.cellO S0 rfl (by rfl))) ?_
        (first | (have h9 := hii; have e9 : putT vs L (nm, ar) = (nm, putL vs L ar) := (by unfold putT; rw [hpn]; rfl); rw [e9]; have hdl : ar.drop i = .nil := Fo.drop_len (by omega); rw [hdl] at happ; rw [show putL vs L Fo.nil = Fo.nil from rfl, fo_app_nil] at happ; rw [happ] at hfc hpre; exact ⟨_, _, _, rfl, FoC.slf hown hfc (by rw [putL_len]; omega) hle (by omega)⟩) | (have h9 := hs9; have e9 : putT vs L (nm, ar) = x := (by unfold putT; rw [putA_yes hpar hj hx]; rfl); rw [e9]; exact ⟨_, _, _, rfl, hs9⟩) | trace_state)
      refine wp_skip ?_
      (refine hZ _ _ ?_)
      exact zzDeC0
    (intro h; clear S a; intro a S; (try simp only [tq] at h))
    (revert S a; revert hZ Z; refine go10 6 ?_; intro a S)
    refine wpc_false S rfl ?_
    refine wp_skip ?_
    (refine hZ _ _ ?_)
    exact zzDeC0
  refine wp_skip ?_
  (refine hZ _ _ ?_)
  exact zzDeC0
theorem eq2_drop {α : Type} {p : VH → Vf → α → Bool} {l : Vf} {m : List α} {k : Nat} {x : VH × Vf} {y : α} (hx : l.get? k = some x) (hy : m[k]? = some y) : eq2 p (l.drop k) (m.drop k) = (p x.1 x.2 y && eq2 p (l.drop (k + 1)) (m.drop (k + 1))) := by
  obtain ⟨h1, h2⟩ := List.getElem?_eq_some_iff.1 hy
  rw [Rose.drop_get hx, List.drop_eq_getElem_cons h1, h2]
  rfl
theorem eq2_end {α : Type} {p : VH → Vf → α → Bool} {l : Vf} {m : List α} {k : Nat} (h1 : l.len ≤ k) (h2 : m.length ≤ k) : eq2 p (l.drop k) (m.drop k) = true := by
  rw [Rose.drop_len h1, List.drop_eq_nil_of_le h2]; rfl
theorem zzDf0 {p : Prop} (h : p := by (congr 1; first | (rw [← hfp, eq2_end (by omega) (by rw [tysOf_len]; omega)]; done) | (rw [← hfp, eq2_drop hx hyt, (by assumption : p x.1 x.2 y = false), Bool.false_and]; done) | (rw [eq2_len]; rw [tysOf_len]; omega) | trace_state)) : p := h
theorem zzDf1 {p : Prop} (h : p := by (rw [← hao, ← hao2] at S; replace S := S.drop1.drop1; refine ⟨l.len - (k + 1), by omega, k + 1, rfl, by omega, ?_, ?_⟩; rotate_left 1; (refine S.keep ?_; exact zk); rw [← hfp, eq2_drop hx hyt, (by assumption : p x.1 x.2 y = true), Bool.true_and])) : p := h
theorem eqVTCt (F : Heap) (l : Vf) (v : Value) (h : TrS F 4 VhR v l) (ar : Fo) (v2 : Value) (h2 : SlF F v2 ar) (fid : FuncId) (fi ca : List Value) [hfn : HasFn Tryz.prog fid] (p : VH → Vf → Ty → Bool)
    (hcl : ∀ k x y cs cs2, l.get? k = some x → ar.get? k = some y → VaC F cs x.1 x.2 → TyC F cs2 y.1 y.2 → Ct Tryz.prog fid (fi ++ [.agg ⟨cs⟩, .agg ⟨cs2⟩] ++ ca) F [] (fun _ _ u => u = .bool (p x.1 x.2 y))) :
    Ct Tryz.prog 224 [v, v2, .func (.func fid) ⟨fi⟩ ⟨ca⟩] F [] (fun _ _ u => u = .bool (eq2 p l (tysOf ar))) := by
 obtain ⟨ao, cap, rfl, hcap, hpos⟩ := h
 obtain ⟨ao2, cap2, rfl, hcap2, hpos2⟩ := h2
 refine Ct.enter Tryz.func224 rfl Tryz.ntmps224 rfl fun w0 a S => ?_
 (revert S a; refine go01 13 ?_; intro Z hZ a S)
 refine wpc_sp S rfl ?_ ?_ <;> intro h
 ·(revert S a; refine go00 4 ?_; intro a S)
  refine wp_ret (fr1 S Tryz.results224 ?_)
  exact zzDf0
 (revert S a; revert hZ Z; refine go11 10 ?_; intro Z hZ a S)
 refine wpc_loop (fun m a w' => ∃ (k : Nat), m = l.len - k ∧ k ≤ l.len ∧ eq2 p (l.drop k) ((tysOf ar).drop k) = eq2 p l (tysOf ar) ∧ St 32 [(0, .slice ao l.len cap), (1, .slice ao2 ar.len cap2), (2, .func (.func fid) ⟨fi⟩ ⟨ca⟩), (15, .slice ao l.len cap), (16, .int .i64 l.len), (17, .int .i64 k)] w0 F [] F [] a w') ?_ ?_
 ·(have hll : l.len = ar.len := (by omega); refine ⟨l.len, 0, by omega, Nat.zero_le _, rfl, ?_⟩; refine S.keep ?_; exact zk)
 (clear S; rintro m a w ⟨k, rfl, hkl, hfp, S⟩)
 (revert S a; refine go01 5 ?_; intro Z hZ a S)
 refine wpc_sp S rfl ?_ ?_ <;> intro h
 ·(revert S a; revert hZ Z; refine go11 4 ?_; intro Z hZ a S)
  (refine wp_seq_k ?_; intro Z hZ)
  (obtain ⟨b8, o8, hao, x, cs1, v1, hx, hc1, hw9, hT1⟩ := TrM.pos hpos (k := k) (by omega); rw [hao] at S; have hT1c := hT1; obtain ⟨a91, c91, rfl, -⟩ := hT1c; have hw9c := hw9.1; subst hw9c; (simp only [List.cons_append, List.nil_append] at hc1); obtain ⟨b9, o9, hao2, y, v2, hy, hc2, hT2⟩ := FoM.pos hpos2 (k := k) (by omega); rw [hao2] at S; have hyt : (tysOf ar)[k]? = some y := (by rw [tysOf_get]; exact hy); have hT2c := hT2; obtain ⟨a92, c92, rfl, -⟩ := hT2c)
  (revert S a; refine go00 4 ?_; intro a S)
  (refine wpl_alloc S rfl rfl rfl rfl ?_; clear S a; intro b8 a w S)
  (revert S a; refine go00 1 ?_; intro a S)
  (refine wpl_storeO S rfl rfl rfl rfl rfl (by rfl) (by simp [Value.cells, Value.oneCell', splice]) (by rfl) ?_; clear S; intro w S)
  (revert S a; revert hZ Z; refine go11 7 ?_; intro Z hZ a S)
  (refine wpl_alloc S rfl rfl rfl rfl ?_; clear S a; intro b9 a w S)
  (refine wpl_storeO S rfl rfl rfl rfl rfl (by rfl) (by simp [Value.cells, Value.oneCell', splice]) (by rfl) ?_; clear S; intro w S)
  (revert S a; revert hZ Z; refine go11 6 ?_; intro Z hZ a S)
  (refine wpl_call0 S rfl rfl rfl rfl rfl rfl (hcl k x y _ _ hx hy ⟨_, rfl, hT1, hw9.2⟩ ⟨_, rfl, hT2⟩) rfl ?_; clear S a; intro v a w hv S; subst hv)
  (revert S a; revert hZ Z; refine go10 3 ?_; intro a S)
  refine wpc_sp S rfl ?_ ?_ <;> intro h
  ·(revert S a; refine go00 4 ?_; intro a S)
   refine wp_ret (fr1 S Tryz.results224 ?_)
   exact zzDf0
  (revert S a; revert hZ Z; refine go10 6 ?_; intro a S)
  change ∃ m', _ ∧ _
  exact zzDf1
 (refine wp_exit ?_; conv => whnf)
 clear hZ Z
 (revert S a; revert hZ Z; refine go10 5 ?_; intro a S)
 refine wp_ret (fr1 S Tryz.results224 ?_)
 exact zzDf0
theorem zzDf2 {p : Prop} (h : p := by (congr 1; first | (rw [← hfp, eq2_end (by omega) (by omega)]; done) | (rw [← hfp, eq2_drop hx hyt, (by assumption : p x.1 x.2 y = false), Bool.false_and]; done) | (rw [eq2_len]; omega) | trace_state)) : p := h
theorem eqVDCt (F : Heap) (l : Vf) (v : Value) (h : TrS F 4 VhR v l) (fs : List FD) (v2 : Value) (h2 : LiM F 3 FdR v2 fs) (fid : FuncId) (fi ca : List Value) [hfn : HasFn Tryz.prog fid] (p : VH → Vf → FD → Bool)
    (hcl : ∀ k x y cs cs2, l.get? k = some x → fs[k]? = some y → VaC F cs x.1 x.2 → FdR F y cs2 → Ct Tryz.prog fid (fi ++ [.agg ⟨cs⟩, .agg ⟨cs2⟩] ++ ca) F [] (fun _ _ u => u = .bool (p x.1 x.2 y))) :
    Ct Tryz.prog 225 [v, v2, .func (.func fid) ⟨fi⟩ ⟨ca⟩] F [] (fun _ _ u => u = .bool (eq2 p l fs)) := by
 obtain ⟨ao, cap, rfl, hcap, hpos⟩ := h
 obtain ⟨ao2, cap2, rfl, hcap2, hpos2⟩ := h2
 refine Ct.enter Tryz.func225 rfl Tryz.ntmps225 rfl fun w0 a S => ?_
 (revert S a; refine go01 13 ?_; intro Z hZ a S)
 refine wpc_sp S rfl ?_ ?_ <;> intro h
 ·(revert S a; refine go00 4 ?_; intro a S)
  refine wp_ret (fr1 S Tryz.results225 ?_)
  exact zzDf2
 (revert S a; revert hZ Z; refine go11 10 ?_; intro Z hZ a S)
 refine wpc_loop (fun m a w' => ∃ (k : Nat), m = l.len - k ∧ k ≤ l.len ∧ eq2 p (l.drop k) (fs.drop k) = eq2 p l fs ∧ St 32 [(0, .slice ao l.len cap), (1, .slice ao2 fs.length cap2), (2, .func (.func fid) ⟨fi⟩ ⟨ca⟩), (15, .slice ao l.len cap), (16, .int .i64 l.len), (17, .int .i64 k)] w0 F [] F [] a w') ?_ ?_
 ·(have hll : l.len = fs.length := (by omega); refine ⟨l.len, 0, by omega, Nat.zero_le _, rfl, ?_⟩; refine S.keep ?_; exact zk)
 (clear S; rintro m a w ⟨k, rfl, hkl, hfp, S⟩)
 (revert S a; refine go01 5 ?_; intro Z hZ a S)
 refine wpc_sp S rfl ?_ ?_ <;> intro h
 ·(revert S a; revert hZ Z; refine go11 4 ?_; intro Z hZ a S)
  (refine wp_seq_k ?_; intro Z hZ)
  (obtain ⟨b8, o8, hao, x, cs1, v1, hx, hc1, hw9, hT1⟩ := TrM.pos hpos (k := k) (by omega); rw [hao] at S; have hT1c := hT1; obtain ⟨a91, c91, rfl, -⟩ := hT1c; have hw9c := hw9.1; subst hw9c; (simp only [List.cons_append, List.nil_append] at hc1); obtain ⟨b9, o9, hao2, y, cs2, hyt, hc2, ⟨w3, rfl, hfs⟩⟩ := LiM.pos hpos2 (k := k) (by omega); rw [hao2] at S; have hfsc := hfs; obtain ⟨af, cf, rfl, -, -⟩ := hfsc)
  (revert S a; refine go00 4 ?_; intro a S)
  (refine wpl_alloc S rfl rfl rfl rfl ?_; clear S a; intro b8 a w S)
  (revert S a; refine go00 1 ?_; intro a S)
  (refine wpl_storeO S rfl rfl rfl rfl rfl (by rfl) (by simp [Value.cells, Value.oneCell', splice]) (by rfl) ?_; clear S; intro w S)
  (revert S a; revert hZ Z; refine go11 7 ?_; intro Z hZ a S)
  (refine wpl_alloc S rfl rfl rfl rfl ?_; clear S a; intro b9 a w S)
  (refine wpl_storeO S rfl rfl rfl rfl rfl (by rfl) (by simp [Value.cells, Value.oneCell', splice]) (by rfl) ?_; clear S; intro w S)
  (revert S a; revert hZ Z; refine go11 6 ?_; intro Z hZ a S)
  (refine wpl_call0 S rfl rfl rfl rfl rfl rfl (hcl k x y _ _ hx hyt ⟨_, rfl, hT1, hw9.2⟩ ⟨_, rfl, hfs⟩) rfl ?_; clear S a; intro v a w hv S; subst hv)
  (revert S a; revert hZ Z; refine go10 3 ?_; intro a S)
  refine wpc_sp S rfl ?_ ?_ <;> intro h
  ·(revert S a; refine go00 4 ?_; intro a S)
   refine wp_ret (fr1 S Tryz.results225 ?_)
   exact zzDf2
  (revert S a; revert hZ Z; refine go10 6 ?_; intro a S)
  change ∃ m', _ ∧ _
  exact zzDf1
 (refine wp_exit ?_; conv => whnf)
 clear hZ Z
 (revert S a; revert hZ Z; refine go10 5 ?_; intro a S)
 refine wp_ret (fr1 S Tryz.results225 ?_)
 exact zzDf2
end Go.Proofs.YthnafdbebniapaaGreatDoor
