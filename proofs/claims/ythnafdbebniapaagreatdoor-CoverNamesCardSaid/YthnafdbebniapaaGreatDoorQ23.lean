/- Walks. -/
import Derived.Test.YthnafdbebniapaaGreatDoorQ10
import Derived.Test.YthnafdbebniapaaGreatDoorQ19
import Derived.Test.YthnafdbebniapaaGreatDoorQ17
set_option maxHeartbeats 16000000
set_option maxRecDepth 20000
namespace Go.Proofs.YthnafdbebniapaaGreatDoor
open Go Go.Wk Go.Un Go.De
set_option linter.unusedSimpArgs false
set_option linter.unusedVariables false
attribute [local irreducible] Go.wpList Go.Code.wp Go.wpStill Go.Wk.wpPre Go.bodyPost Go.Calls Go.Wk.Ct Go.Wk.OwnS Go.Wk.wpG Go.Wk.wpM
def OwnTD (m : Nat) : Prop := ∀ (F : Heap) (nm : List UInt8) (ar : Fo) (cs : List Value), ar.size < m → TyC F cs nm ar → ar.len * 40 ≤ 140737488355328 → Thin ar →
 Ct Tryz.prog 132 [.agg ⟨cs⟩] F [] (fun F' _ u => ∃ (ao : Option Addr) (q c : Nat), u = .agg ⟨[.string (bs nm), .slice ao q c]⟩ ∧ SlF F' (.slice ao q c) ar)
theorem ownTypeCt : ∀ m, OwnTD m := by
 intro m
 induction m with
 | zero => intro F nm ar cs hm; omega
 | succ m ih =>
 intro F nm ar cs hm hT hln hthin
 obtain ⟨v, rfl, ao, cap, rfl, hcap, hpos⟩ := hT
 refine Ct.enter Tryz.func132 rfl Tryz.ntmps132 rfl fun w0 a S => ?_
 refine wp_sr fun Z hZ => ?_
 (refine wbx S ?_; clear S a; intro b1 a w S)
 (refine wpl_alloc S rfl rfl rfl rfl ?_; clear S a; intro b2 a w S)
 (revert S a; revert hZ Z; refine go 6 ?_; intro Z hZ a S)
 (refine wpl_alloc S rfl rfl rfl rfl ?_; clear S a; intro b3 a w S)
 (refine wso S rfl rfl ?_; clear S; intro w S)
 (revert S a; revert hZ Z; refine go 8 ?_; intro Z hZ a S)
 refine wpc_loop (fun m a w' => ∃ (i : Nat) (v : Value) (g : Grp) (xs : List Value) (pre : Fo) (F3 : Heap), m = ar.len - i ∧ i ≤ ar.len ∧ (∀ b o, F b = some o → F3 b = some o) ∧ OwnS 49 2 v i xs g ∧ FoC F3 xs pre ∧ pre.len = i ∧ pre.app (ar.drop i) = ar ∧ St 27 [(1, ptr b1), (2, ptr b2), (3, ptr b3), (4, .int .i64 i)] w0 F [] F3 ([(b3, .cells ⟨[.string (bs nm), v]⟩ 49 (0, 0))] :: g :: [(b2, .cells ⟨[.string (bs []), .slice none 0 0]⟩ 49 (0, 0))] :: [(b1, .cells ⟨[.string (bs nm), .slice ao ar.len cap]⟩ 49 (0, 0))] :: []) a w') ?_ ?_
 ·(replace S := st_nil2 S; refine ⟨ar.len, 0, .slice none 0 0, [], [], .nil, F, by omega, Nat.zero_le _, fun _ _ h => h, OwnS.nil _ _, trivial, rfl, rfl, ?_⟩; refine S.keep ?_; exact zk)
 (clear S; rintro m a w ⟨i, v, g, xs, pre, F3, rfl, hil, hF3, hown, hfc, hpre, happ, S⟩)
 (revert S a; refine go 9 ?_; intro Z hZ a S)
 refine wpc_sp S rfl ?_ ?_ <;> intro h
 ·(revert S a; revert hZ Z; refine go 4 ?_; intro Z hZ a S)
  (obtain ⟨b8, o8, hao, x, v1, hx, hc1, hT1⟩ := FoM.pos hpos (k := i) (by omega); rw [hao] at S; replace hc1 := Cels.mono hF3 hc1; replace hT1 := hT1.mono hF3; have hT1c := hT1; obtain ⟨a91, c91, rfl, -⟩ := hT1c; obtain ⟨hx40, hxth⟩ := hthin.get hx; have hxs := Fo.size_get hx)
  (refine wpc_mixM [0, 1, 2, 3, 4, 5, 6, 10] [1, 3, 6] [11] (.one 0 (.one 1 (.one 2 (.one 3 (.one 4 (.one 5 (.one 6 (.one 7 (.one 8 (.one 9 (.one 10 (.one 11 .nil)))))))))))) [b3, b1] S mixed (by kernel_rfl) ?_; clear S; intro w S)
  (revert S a; refine go 8 ?_; intro a S)
  (refine wpl_call (Gs := []) (Gr := [[(b3, _)], g, [(b2, _)], [(b1, _)]]) S rfl rfl rfl rfl rfl rfl (ih F3 x.1 x.2 _ (by omega) ⟨_, rfl, hT1⟩ hx40 hxth) rfl (by exact List.Perm.refl _) ?_; clear S a; intro u9 F4 G4 a w hv hF4 S; obtain ⟨a4, q4, c4, rfl, hs4⟩ := hv; replace S : St _ _ _ _ _ F4 ([(b3, _)] :: g :: [(b2, _)] :: [(b1, _)] :: []) _ _ := ⟨S.fr, S.tr.sub (by rw [List.flatten_append]; exact List.sublist_append_right _ _)⟩)
  (revert S a; refine go 2 ?_; intro a S)
  (refine wpl_buildSlice S rfl rfl rfl rfl rfl rfl (by rfl) (by simp [Value.cells, splice, splice]) rfl (by rfl) (by rfl) ?_; clear S a; intro b23 a w hown2 S)
  (revert S a; refine go 2 ?_; intro a S)
  (refine wpl_appendOwn S rfl rfl rfl rfl rfl rfl hown hown2 (by rfl) (by simp [Value.cells, Value.oneCell', splice, splice]) (by omega) (by omega) ?_; clear hown S a; intro v g a w hown S)
  (revert S a; refine go 3 ?_; intro a S)
  (refine wpl_store1 S rfl rfl rfl rfl rfl hown.oneCell (by first | (simp; done) | (simp [Value.cells]; done) | exact Nat.le_of_ble_eq_true rfl) ?_; clear S; intro w S)
  refine wpList_nil ?_
  refine wpm_nil (fun h => absurd h (by decide)) ?_
  (revert S a; revert hZ Z; refine go 6 ?_; intro a S)
  change ∃ m', _ ∧ _
  (rw [← hao] at S; refine ⟨ar.len - (i + 1), by omega, i + 1, _, _, _, pre.app (.cons x.1 x.2 .nil), F4, rfl, by omega, fun b o h => hF4 _ _ (hF3 _ _ h), hown, FoC.app (hfc.mono hF4) (FoC.one hs4), by rw [Fo.len_app, hpre]; rfl, drop_app happ hx, ?_⟩; refine S.keep ?_; exact zk)
 (refine wp_exit ?_; conv => whnf)
 clear hZ Z
 (refine hZ _ _ ?_; clear hZ Z)
 (refine wp_seq_k ?_; intro Z hZ)
 (obtain ⟨aoK, capK, rfl, -⟩ := hown.at)
 (revert S a; refine go 2 ?_; intro a S)
 (refine wso S rfl rfl ?_; clear S; intro w S)
 (revert S a; revert hZ Z; refine go 2 ?_; intro a S)
 refine wp_ret ?_
 (have S0 := S; have hii : i = ar.len := (by omega); replace S := S.drop1; have hle := add_le (G1 := []) S; replace S := St.freeze (G1 := []) S; (simp only [List.nil_append] at S hle); replace S := S.drop1.drop1)
 refine fin_ret S (results1 Tryz.results132 (RV.cellO S0 rfl (by rfl))) ?_
 (have hdl : ar.drop i = .nil := Fo.drop_len (by omega); rw [hdl, fo_app_nil] at happ; rw [happ] at hfc hpre; exact ⟨_, _, _, rfl, FoC.slf hown hfc (by omega) hle (by omega)⟩)
theorem putA_yes {vs : List (List UInt8)} {L : Fo} {nm : List UInt8} {x : Ty} {j : Nat} (hp : parS nm = true) (hj : idxOf vs nm = (j : Int)) (hx : L.get? j = some x) : putA vs L nm = some x := by
 have h1 := Fo.lt_get hx
 unfold putA
 rw [if_pos ⟨hp, by omega, by omega⟩, hj]
 exact hx
theorem putA_no {vs : List (List UInt8)} {L : Fo} {nm : List UInt8} (h : ¬ (parS nm = true ∧ 0 ≤ idxOf vs nm ∧ idxOf vs nm < L.len)) : putA vs L nm = none := by unfold putA; rw [if_neg h]
def PutD (vs : List (List UInt8)) (vp : Value) (L : Fo) (va : Value) (F : Heap) (m : Nat) : Prop := ∀ (F' : Heap) (nm : List UInt8) (ar : Fo) (cs : List Value), ar.size < m → (∀ b o, F b = some o → F' b = some o) → TyC F' cs nm ar → ar.len * 40 ≤ 140737488355328 → Thin ar →
 Ct Tryz.prog 184 [.agg ⟨cs⟩, vp, va] F' [] (fun F'' _ u => ∃ (ao : Option Addr) (q c : Nat), u = .agg ⟨[.string (bs (putT vs L (nm, ar)).1), .slice ao q c]⟩ ∧ SlF F'' (.slice ao q c) (putT vs L (nm, ar)).2)
theorem zzDeC0 {p : Prop} (h : p := by (refine ⟨putA_no (by rintro ⟨h1, h2, h3⟩; first | omega | (simp_all; done) | (simp_all; omega)), ?_⟩; refine S.keep ?_; exact zk)) : p := h
theorem putCt (F : Heap) (vs : List (List UInt8)) (vp : Value) (L : Fo) (va : Value) (hvp : SlC F vp vs.length (strs vs)) (hvl : vs.length ≤ 9223372036854775807) (hva : SlF F va L) (hthL : Thin L) : ∀ m, PutD vs vp L va F m := by
  intro m
  induction m with
  | zero => intro F' nm ar cs hm; omega
  | succ m ih =>
  intro F' nm ar cs hm hF hT hln hthin
  obtain ⟨v, rfl, ao, cap, rfl, hcap, hpos⟩ := hT
  have hvp0 := hvp.mono hF
  obtain ⟨ap, cp, rfl, hcp, -⟩ := hvp
  have hva0 := hva.mono hF
  obtain ⟨aa, ca, rfl, hca, hposa⟩ := hva
  refine Ct.enter Tryz.func184 rfl Tryz.ntmps184 rfl fun w0 a S => ?_
  refine wp_sr fun Z hZ => ?_
  (refine wbx S ?_; clear S a; intro b3 a w S)
  (refine wpl_alloc S rfl rfl rfl rfl ?_; clear S a; intro b6 a w S)
  (revert S a; revert hZ Z; refine go 2 ?_; intro a S)
  (refine wp_seq_k ?_; intro Z hZ)
  replace hZ : ∀ (a' : Act) (w' : World), (putA vs L nm = none ∧ St 52 [(1, .slice ap vs.length cp), (2, .slice aa L.len ca), (3, ptr b3), (6, ptr b6)] w0 F' [] F' ([(b6, .cells ⟨[.string (bs []), .slice none 0 0]⟩ 49 (0, 0))] :: [(b3, .cells ⟨[.string (bs nm), .slice ao ar.len cap]⟩ 49 (0, 0))] :: []) a' w') → Z a' w' := (by
   (intro a w hM; refine hZ _ _ ?_; clear hZ Z; clear S; obtain ⟨hpn, S⟩ := hM)
   (revert S a; refine go 4 ?_; intro Z hZ a S)
   (refine wpl_alloc S rfl rfl rfl rfl ?_; clear S a; intro b8 a w S)
   (refine wso S rfl rfl ?_; clear S; intro w S)
   (revert S a; revert hZ Z; refine go 11 ?_; intro Z hZ a S)
   refine wpc_loop (fun m a w' => ∃ (i : Nat) (v : Value) (g : Grp) (xs : List Value) (pre : Fo) (F3 : Heap), m = ar.len - i ∧ i ≤ ar.len ∧ (∀ b o, F' b = some o → F3 b = some o) ∧ OwnS 49 2 v i xs g ∧ FoC F3 xs pre ∧ pre.len = i ∧ pre.app (putL vs L (ar.drop i)) = putL vs L ar ∧ St 52 [(1, .slice ap vs.length cp), (2, .slice aa L.len ca), (6, ptr b6), (8, ptr b8), (35, .slice ao ar.len cap), (36, .int .i64 ar.len), (37, .int .i64 i)] w0 F' [] F3 ([(b8, .cells ⟨[.string (bs nm), v]⟩ 49 (0, 0))] :: g :: [(b6, .cells ⟨[.string (bs []), .slice none 0 0]⟩ 49 (0, 0))] :: [(b3, .cells ⟨[.string (bs nm), .slice ao ar.len cap]⟩ 49 (0, 0))] :: []) a w') ?_ ?_
   · (replace S := st_nil2 S; refine ⟨ar.len, 0, .slice none 0 0, [], [], .nil, F', by omega, Nat.zero_le _, fun _ _ h => h, OwnS.nil _ _, trivial, rfl, rfl, ?_⟩; refine S.keep ?_; exact zk)
   (clear S; rintro m a w ⟨i, v, g, xs, pre, F3, rfl, hil, hF3, hown, hfc, hpre, happ, S⟩)
   (revert S a; refine go 5 ?_; intro Z hZ a S)
   refine wpc_sp S rfl ?_ ?_ <;> intro h
   · (revert S a; revert hZ Z; refine go 4 ?_; intro Z hZ a S)
     (refine wp_seq_k ?_; intro Z hZ)
     (obtain ⟨b9, o9, hao, x, v1, hx, hc1, hT1⟩ := FoM.pos hpos (k := i) (by omega); rw [hao] at S; replace hc1 := Cels.mono hF3 hc1; replace hT1 := hT1.mono hF3; have hT1c := hT1; obtain ⟨a91, c91, rfl, -⟩ := hT1c; obtain ⟨hx40, hxth⟩ := hthin.get hx; have hxs := Fo.size_get hx; have hdr := Fo.drop_get hx)
     (revert S a; refine go 3 ?_; intro a S)
     (refine wpl_alloc S rfl rfl rfl rfl ?_; clear S a; intro b10 a w S)
     (refine wso S rfl rfl ?_; clear S; intro w S)
     (revert S a; revert hZ Z; refine go 2 ?_; intro a S)
     (refine wpc_mixM [0, 1, 2, 3, 4, 8] [1, 2] [9] (.one 0 (.one 1 (.one 2 (.one 3 (.one 4 (.one 5 (.one 6 (.one 7 (.one 8 (.one 9 .nil)))))))))) [b8, b10] S mixed (by kernel_rfl) ?_; clear S; intro w S)
     (revert S a; refine go 6 ?_; intro a S)
     (refine wpl_call (Gs := []) (Gr := [[(b10, _)], [(b8, _)], g, [(b6, _)], [(b3, _)]]) S rfl rfl rfl rfl rfl rfl (ih F3 x.1 x.2 _ (by omega) (fun b o h => hF3 _ _ (hF _ _ h)) ⟨_, rfl, hT1⟩ hx40 hxth) rfl (by exact List.Perm.refl _) ?_; clear S a; intro u9 F4 G4 a w hv hF4 S; obtain ⟨a4, q4, c4, rfl, hs4⟩ := hv; replace S : St _ _ _ _ _ F4 ([(b10, _)] :: [(b8, _)] :: g :: [(b6, _)] :: [(b3, _)] :: []) _ _ := ⟨S.fr, S.tr.sub (by rw [List.flatten_append]; exact List.sublist_append_right _ _)⟩)
     (revert S a; refine go 2 ?_; intro a S)
     (refine wpl_buildSlice S rfl rfl rfl rfl rfl rfl (by rfl) (by simp [Value.cells, splice, splice]) rfl (by rfl) (by rfl) ?_; clear S a; intro b47 a w hown2 S)
     (revert S a; refine go 2 ?_; intro a S)
     (refine wpl_appendOwn S rfl rfl rfl rfl rfl rfl hown hown2 (by rfl) (by simp [Value.cells, Value.oneCell', splice, splice]) (by omega) (by omega) ?_; clear hown S a; intro v g a w hown S)
     (revert S a; refine go 3 ?_; intro a S)
     (refine wpl_store1 S rfl rfl rfl rfl rfl hown.oneCell (by first | (simp; done) | (simp [Value.cells]; done) | exact Nat.le_of_ble_eq_true rfl) ?_; clear S; intro w S)
     refine wpList_nil ?_
     refine wpm_nil (fun h => absurd h (by decide)) ?_
     (revert S a; revert hZ Z; refine go 5 ?_; intro a S)
     change ∃ m', _ ∧ _
     (rw [← hao] at S; replace S := S.drop1; refine ⟨ar.len - (i + 1), by omega, i + 1, _, _, _, pre.app (.cons (putT vs L x).1 (putT vs L x).2 .nil), F4, rfl, by omega, fun b o h => hF4 _ _ (hF3 _ _ h), hown, FoC.app (hfc.mono hF4) (FoC.one hs4), by rw [Fo.len_app, hpre]; rfl, ?_, ?_⟩; rotate_left 1; (refine S.keep ?_; exact zk); (rw [fo_app_assoc, ← happ, hdr, putL_cons]; rfl))
   (refine wp_exit ?_; conv => whnf)
   clear hZ Z
   (refine hZ _ _ ?_; clear hZ Z)
   (refine wp_seq_k ?_; intro Z hZ)
   (obtain ⟨aoK, capK, rfl, -⟩ := hown.at)
   (revert S a; refine go 2 ?_; intro a S)
   (refine wso S rfl rfl ?_; clear S; intro w S)
   (revert S a; revert hZ Z; refine go 2 ?_; intro a S)
   refine wp_ret ?_
   (have S0 := S; (first | (have hii : i = ar.len := (by omega); have h9 := hown; replace S := S.drop1; have hle := add_le (G1 := []) S; replace S := St.freeze (G1 := []) S; (simp only [List.nil_append] at S hle); replace S := S.drop1.drop1) | (have h9 := hs9; replace S := S.drop1.drop1)))
   refine fin_ret S (results1 Tryz.results184 (RV.cellO S0 rfl (by rfl))) ?_
   (first | (have h9 := hii; have e9 : putT vs L (nm, ar) = (nm, putL vs L ar) := (by unfold putT; rw [hpn]; rfl); rw [e9]; have hdl : ar.drop i = .nil := Fo.drop_len (by omega); rw [hdl] at happ; rw [show putL vs L Fo.nil = Fo.nil from rfl, fo_app_nil] at happ; rw [happ] at hfc hpre; exact ⟨_, _, _, rfl, FoC.slf hown hfc (by rw [putL_len]; omega) hle (by omega)⟩) | (have h9 := hs9; have e9 : putT vs L (nm, ar) = x := (by unfold putT; rw [putA_yes hpar hj hx]; rfl); rw [e9]; exact ⟨_, _, _, rfl, hs9⟩) | trace_state))
  (revert S a; refine go 3 ?_; intro Z hZ a S)
  (refine wc0 S (paramCt F' nm) ?_; clear S a; intro v a w hv S; subst hv)
  (revert S a; revert hZ Z; refine go 2 ?_; intro a S)
  refine wpc_sp S rfl ?_ ?_ <;> intro h
  · (revert S a; refine go 4 ?_; intro Z hZ a S)
    (refine wc0 S (indexSCt F' vs nm _ hvp0 hvl) ?_; clear S a; intro v a w hv S; subst hv)
    (revert S a; revert hZ Z; refine go 7 ?_; intro Z hZ a S)
    refine wgd S ?_ ?_
    · (clear S; intro h S)
      (revert S a; revert hZ Z; refine go 10 ?_; intro a S)
      refine wpc_sp S rfl ?_ ?_ <;> intro h
      · (refine wp_seq_k ?_; intro Z hZ)
        (have hpar : parS nm = true := (by assumption); obtain ⟨j, hj⟩ : ∃ j : Nat, idxOf vs nm = (j : Int) := ⟨(idxOf vs nm).toNat, (by omega)⟩; rw [hj] at S; obtain ⟨b9, o9, hao, x, v1, hx, hc1, hT1⟩ := FoM.pos hposa (k := j) (by omega); rw [hao] at S; replace hc1 := Cels.mono hF hc1; replace hT1 := hT1.mono hF; have hT1c := hT1; obtain ⟨a91, c91, rfl, -⟩ := hT1c; obtain ⟨hx40, hxth⟩ := hthL.get hx)
        (revert S a; refine go 5 ?_; intro a S)
        (refine wcF S (ownDCt (x.2.size + 1) F' x.1 x.2 _ (Nat.lt_succ_self _) ⟨_, rfl, hT1⟩ hx40 hxth) ?_; clear S a; intro u9 F9 a w hv hF9 S; obtain ⟨a9, q9, c9, rfl, hs9⟩ := hv)
        (refine wso S rfl rfl ?_; clear S; intro w S)
        (revert S a; revert hZ Z; refine go 2 ?_; intro a S)
        refine wp_ret ?_
        (have S0 := S; (first | (have hii : i = ar.len := (by omega); have h9 := hown; replace S := S.drop1; have hle := add_le (G1 := []) S; replace S := St.freeze (G1 := []) S; (simp only [List.nil_append] at S hle); replace S := S.drop1.drop1) | (have h9 := hs9; replace S := S.drop1.drop1)))
        refine fin_ret S (results1 Tryz.results184 (RV.cellO S0 rfl (by rfl))) ?_
        (first | (have h9 := hii; have e9 : putT vs L (nm, ar) = (nm, putL vs L ar) := (by unfold putT; rw [hpn]; rfl); rw [e9]; have hdl : ar.drop i = .nil := Fo.drop_len (by omega); rw [hdl] at happ; rw [show putL vs L Fo.nil = Fo.nil from rfl, fo_app_nil] at happ; rw [happ] at hfc hpre; exact ⟨_, _, _, rfl, FoC.slf hown hfc (by rw [putL_len]; omega) hle (by omega)⟩) | (have h9 := hs9; have e9 : putT vs L (nm, ar) = x := (by unfold putT; rw [putA_yes hpar hj hx]; rfl); rw [e9]; exact ⟨_, _, _, rfl, hs9⟩) | trace_state)
      refine wp_skip ?_
      (refine hZ _ _ ?_)
      exact zzDeC0
    (clear S a; intro h a S)
    (revert S a; revert hZ Z; refine go 6 ?_; intro a S)
    refine wpc_false S rfl ?_
    refine wp_skip ?_
    (refine hZ _ _ ?_)
    exact zzDeC0
  refine wp_skip ?_
  (refine hZ _ _ ?_)
  exact zzDeC0
theorem eq2_drop {α : Type} {p : VH → Vf → α → Bool} {l : Vf} {m : List α} {k : Nat} {x : VH × Vf} {y : α} (hx : l.get? k = some x) (hy : m[k]? = some y) : eq2 p (l.drop k) (m.drop k) = (p x.1 x.2 y && eq2 p (l.drop (k + 1)) (m.drop (k + 1))) := by
 obtain ⟨h1, h2⟩ := List.getElem?_eq_some_iff.1 hy
 rw [Rose.drop_get hx, List.drop_eq_getElem_cons h1, h2]
 rfl
theorem eq2_end {α : Type} {p : VH → Vf → α → Bool} {l : Vf} {m : List α} {k : Nat} (h1 : l.len ≤ k) (h2 : m.length ≤ k) : eq2 p (l.drop k) (m.drop k) = true := by
 rw [Rose.drop_len h1, List.drop_eq_nil_of_le h2]; rfl
theorem zzDf0 {p : Prop} (h : p := by (congr 1; first | (rw [← hfp, eq2_end (by omega) (by rw [tysOf_len]; omega)]; done) | (rw [← hfp, eq2_drop hx hyt, (by assumption : p x.1 x.2 y = false), Bool.false_and]; done) | (rw [eq2_len]; rw [tysOf_len]; omega) | trace_state)) : p := h
theorem zzDf1 {p : Prop} (h : p := by (rw [← hao, ← hao2] at S; replace S := S.drop1.drop1; refine ⟨l.len - (k + 1), by omega, k + 1, rfl, by omega, ?_, ?_⟩; rotate_left 1; (refine S.keep ?_; exact zk); rw [← hfp, eq2_drop hx hyt, (by assumption : p x.1 x.2 y = true), Bool.true_and])) : p := h
theorem eqVTCt (F : Heap) (l : Vf) (v : Value) (h : TrS F 4 VhR v l) (ar : Fo) (v2 : Value) (h2 : SlF F v2 ar) (fid : FuncId) (fi ca : List Value) [hfn : HasFn Tryz.prog fid] (p : VH → Vf → Ty → Bool)
  (hcl : ∀ k x y cs cs2, l.get? k = some x → ar.get? k = some y → VaC F cs x.1 x.2 → TyC F cs2 y.1 y.2 → Ct Tryz.prog fid (fi ++ [.agg ⟨cs⟩, .agg ⟨cs2⟩] ++ ca) F [] (fun _ _ u => u = .bool (p x.1 x.2 y))) :
  Ct Tryz.prog 224 [v, v2, .func (.func fid) ⟨fi⟩ ⟨ca⟩] F [] (fun _ _ u => u = .bool (eq2 p l (tysOf ar))) := by
 obtain ⟨ao, cap, rfl, hcap, hpos⟩ := h
 obtain ⟨ao2, cap2, rfl, hcap2, hpos2⟩ := h2
 refine Ct.enter Tryz.func224 rfl Tryz.ntmps224 rfl fun w0 a S => ?_
 (revert S a; refine go 13 ?_; intro Z hZ a S)
 refine wpc_sp S rfl ?_ ?_ <;> intro h
 ·(revert S a; refine go 4 ?_; intro a S)
  refine wp_ret (fr1 S Tryz.results224 ?_)
  exact zzDf0
 (revert S a; revert hZ Z; refine go 10 ?_; intro Z hZ a S)
 refine wpc_loop (fun m a w' => ∃ (k : Nat), m = l.len - k ∧ k ≤ l.len ∧ eq2 p (l.drop k) ((tysOf ar).drop k) = eq2 p l (tysOf ar) ∧ St 32 [(0, .slice ao l.len cap), (1, .slice ao2 ar.len cap2), (2, .func (.func fid) ⟨fi⟩ ⟨ca⟩), (15, .slice ao l.len cap), (16, .int .i64 l.len), (17, .int .i64 k)] w0 F [] F [] a w') ?_ ?_
 ·(have hll : l.len = ar.len := (by omega); refine ⟨l.len, 0, by omega, Nat.zero_le _, rfl, ?_⟩; refine S.keep ?_; exact zk)
 (clear S; rintro m a w ⟨k, rfl, hkl, hfp, S⟩)
 (revert S a; refine go 5 ?_; intro Z hZ a S)
 refine wpc_sp S rfl ?_ ?_ <;> intro h
 ·(revert S a; revert hZ Z; refine go 4 ?_; intro Z hZ a S)
  (refine wp_seq_k ?_; intro Z hZ)
  (obtain ⟨b8, o8, hao, x, cs1, v1, hx, hc1, hw9, hT1⟩ := TrM.pos hpos (k := k) (by omega); rw [hao] at S; have hT1c := hT1; obtain ⟨a91, c91, rfl, -⟩ := hT1c; have hw9c := hw9.1; subst hw9c; (simp only [List.cons_append, List.nil_append] at hc1); obtain ⟨b9, o9, hao2, y, v2, hy, hc2, hT2⟩ := FoM.pos hpos2 (k := k) (by omega); rw [hao2] at S; have hyt : (tysOf ar)[k]? = some y := (by rw [tysOf_get]; exact hy); have hT2c := hT2; obtain ⟨a92, c92, rfl, -⟩ := hT2c)
  (revert S a; refine go 4 ?_; intro a S)
  (refine wpl_alloc S rfl rfl rfl rfl ?_; clear S a; intro b8 a w S)
  (revert S a; refine go 1 ?_; intro a S)
  (refine wso S rfl rfl ?_; clear S; intro w S)
  (revert S a; revert hZ Z; refine go 7 ?_; intro Z hZ a S)
  (refine wpl_alloc S rfl rfl rfl rfl ?_; clear S a; intro b9 a w S)
  (refine wso S rfl rfl ?_; clear S; intro w S)
  (revert S a; revert hZ Z; refine go 6 ?_; intro Z hZ a S)
  (refine wc0 S (hcl k x y _ _ hx hy ⟨_, rfl, hT1, hw9.2⟩ ⟨_, rfl, hT2⟩) ?_; clear S a; intro v a w hv S; subst hv)
  (revert S a; revert hZ Z; refine go 3 ?_; intro a S)
  refine wpc_sp S rfl ?_ ?_ <;> intro h
  ·(revert S a; refine go 4 ?_; intro a S)
   refine wp_ret (fr1 S Tryz.results224 ?_)
   exact zzDf0
  (revert S a; revert hZ Z; refine go 6 ?_; intro a S)
  change ∃ m', _ ∧ _
  exact zzDf1
 (refine wp_exit ?_; conv => whnf)
 clear hZ Z
 (revert S a; revert hZ Z; refine go 5 ?_; intro a S)
 refine wp_ret (fr1 S Tryz.results224 ?_)
 exact zzDf0
theorem zzDf2 {p : Prop} (h : p := by (congr 1; first | (rw [← hfp, eq2_end (by omega) (by omega)]; done) | (rw [← hfp, eq2_drop hx hyt, (by assumption : p x.1 x.2 y = false), Bool.false_and]; done) | (rw [eq2_len]; omega) | trace_state)) : p := h
theorem eqVDCt (F : Heap) (l : Vf) (v : Value) (h : TrS F 4 VhR v l) (fs : List FD) (v2 : Value) (h2 : LiM F 3 FdR v2 fs) (fid : FuncId) (fi ca : List Value) [hfn : HasFn Tryz.prog fid] (p : VH → Vf → FD → Bool)
  (hcl : ∀ k x y cs cs2, l.get? k = some x → fs[k]? = some y → VaC F cs x.1 x.2 → FdR F y cs2 → Ct Tryz.prog fid (fi ++ [.agg ⟨cs⟩, .agg ⟨cs2⟩] ++ ca) F [] (fun _ _ u => u = .bool (p x.1 x.2 y))) :
  Ct Tryz.prog 225 [v, v2, .func (.func fid) ⟨fi⟩ ⟨ca⟩] F [] (fun _ _ u => u = .bool (eq2 p l fs)) := by
 obtain ⟨ao, cap, rfl, hcap, hpos⟩ := h
 obtain ⟨ao2, cap2, rfl, hcap2, hpos2⟩ := h2
 refine Ct.enter Tryz.func225 rfl Tryz.ntmps225 rfl fun w0 a S => ?_
 (revert S a; refine go 13 ?_; intro Z hZ a S)
 refine wpc_sp S rfl ?_ ?_ <;> intro h
 ·(revert S a; refine go 4 ?_; intro a S)
  refine wp_ret (fr1 S Tryz.results225 ?_)
  exact zzDf2
 (revert S a; revert hZ Z; refine go 10 ?_; intro Z hZ a S)
 refine wpc_loop (fun m a w' => ∃ (k : Nat), m = l.len - k ∧ k ≤ l.len ∧ eq2 p (l.drop k) (fs.drop k) = eq2 p l fs ∧ St 32 [(0, .slice ao l.len cap), (1, .slice ao2 fs.length cap2), (2, .func (.func fid) ⟨fi⟩ ⟨ca⟩), (15, .slice ao l.len cap), (16, .int .i64 l.len), (17, .int .i64 k)] w0 F [] F [] a w') ?_ ?_
 ·(have hll : l.len = fs.length := (by omega); refine ⟨l.len, 0, by omega, Nat.zero_le _, rfl, ?_⟩; refine S.keep ?_; exact zk)
 (clear S; rintro m a w ⟨k, rfl, hkl, hfp, S⟩)
 (revert S a; refine go 5 ?_; intro Z hZ a S)
 refine wpc_sp S rfl ?_ ?_ <;> intro h
 ·(revert S a; revert hZ Z; refine go 4 ?_; intro Z hZ a S)
  (refine wp_seq_k ?_; intro Z hZ)
  (obtain ⟨b8, o8, hao, x, cs1, v1, hx, hc1, hw9, hT1⟩ := TrM.pos hpos (k := k) (by omega); rw [hao] at S; have hT1c := hT1; obtain ⟨a91, c91, rfl, -⟩ := hT1c; have hw9c := hw9.1; subst hw9c; (simp only [List.cons_append, List.nil_append] at hc1); obtain ⟨b9, o9, hao2, y, cs2, hyt, hc2, ⟨w3, rfl, hfs⟩⟩ := LiM.pos hpos2 (k := k) (by omega); rw [hao2] at S; have hfsc := hfs; obtain ⟨af, cf, rfl, -, -⟩ := hfsc)
  (revert S a; refine go 4 ?_; intro a S)
  (refine wpl_alloc S rfl rfl rfl rfl ?_; clear S a; intro b8 a w S)
  (revert S a; refine go 1 ?_; intro a S)
  (refine wso S rfl rfl ?_; clear S; intro w S)
  (revert S a; revert hZ Z; refine go 7 ?_; intro Z hZ a S)
  (refine wpl_alloc S rfl rfl rfl rfl ?_; clear S a; intro b9 a w S)
  (refine wso S rfl rfl ?_; clear S; intro w S)
  (revert S a; revert hZ Z; refine go 6 ?_; intro Z hZ a S)
  (refine wc0 S (hcl k x y _ _ hx hyt ⟨_, rfl, hT1, hw9.2⟩ ⟨_, rfl, hfs⟩) ?_; clear S a; intro v a w hv S; subst hv)
  (revert S a; revert hZ Z; refine go 3 ?_; intro a S)
  refine wpc_sp S rfl ?_ ?_ <;> intro h
  ·(revert S a; refine go 4 ?_; intro a S)
   refine wp_ret (fr1 S Tryz.results225 ?_)
   exact zzDf2
  (revert S a; revert hZ Z; refine go 6 ?_; intro a S)
  change ∃ m', _ ∧ _
  exact zzDf1
 (refine wp_exit ?_; conv => whnf)
 clear hZ Z
 (revert S a; revert hZ Z; refine go 5 ?_; intro a S)
 refine wp_ret (fr1 S Tryz.results225 ?_)
 exact zzDf2
theorem thin_size : ∀ l : Fo, l.size ≤ 1000000 → Thin l
 | .nil, _ => trivial
 | .cons nm ar r, h => by
  simp only [Fo.size] at h
  have := Fo.len_size ar
  exact ⟨by omega, thin_size ar (by omega), thin_size r (by omega)⟩
theorem thinT_size {t : Ty} (h : t.2.size ≤ 1000000) : ThinT t := by
 have := Fo.len_size t.2
 exact ⟨by omega, thin_size _ h⟩
def KThin (css : List KC) : Prop := ∀ c ∈ css, FThin c.fs
theorem findC_mem {css : List KC} {s : List UInt8} {c : KC} (h : findC css s = some c) : c ∈ css := List.mem_of_find?_eq_some h
theorem isT_1 {css : List KC} {h : VH} {L : Vf} {t : Ty} (hk : (h.k : Int) = 1) : isT css h L t = decide (t.1 = sBool) := by unfold isT; rw [if_pos (by omega)]
theorem isT_2 {css : List KC} {h : VH} {L : Vf} {t : Ty} (hk : (h.k : Int) = 2) : isT css h L t = decide (t.1 = sInt) := by unfold isT; rw [if_neg (by omega), if_pos (by omega)]
theorem isT_3 {css : List KC} {h : VH} {L : Vf} {t : Ty} (hk : (h.k : Int) = 3) : isT css h L t = decide (t.1 = sBig) := by unfold isT; rw [if_neg (by omega), if_neg (by omega), if_pos (by omega)]
theorem isT_4 {css : List KC} {h : VH} {L : Vf} {t : Ty} (hk : (h.k : Int) = 4) : isT css h L t = decide (t.1 = sText) := by unfold isT; rw [if_neg (by omega), if_neg (by omega), if_neg (by omega), if_pos (by omega)]
theorem isT_5 {css : List KC} {h : VH} {L : Vf} {t : Ty} (hk : (h.k : Int) = 5) : isT css h L t = (decide (t.1 = sTuple) && eq2 (isT css) L (tysOf t.2)) := by
 rw [← isAll_eq]; unfold isT; rw [if_neg (by omega), if_neg (by omega), if_neg (by omega), if_neg (by omega), if_pos (by omega)]
theorem isT_s {css : List KC} {h : VH} {L : Vf} {t : Ty} {c : KC} (hk : ¬ (h.k : Int) = 1 ∧ ¬ (h.k : Int) = 2 ∧ ¬ (h.k : Int) = 3 ∧ ¬ (h.k : Int) = 4 ∧ ¬ (h.k : Int) = 5) (hc : findC css h.s = some c) : isT css h L t = (decide (c.ty = t.1) && eq2 (fun h L (f : FD) => isT css h L (putT c.ps t.2 (f.tn, f.ta))) L c.fs) := by
 rw [← eq2_map (isT css) (fun f : FD => putT c.ps t.2 (f.tn, f.ta)), ← isAll_eq]; unfold isT; rw [if_neg (by omega), if_neg (by omega), if_neg (by omega), if_neg (by omega), if_neg (by omega), hc]
theorem isT_n {css : List KC} {h : VH} {L : Vf} {t : Ty} (hk : ¬ (h.k : Int) = 1 ∧ ¬ (h.k : Int) = 2 ∧ ¬ (h.k : Int) = 3 ∧ ¬ (h.k : Int) = 4 ∧ ¬ (h.k : Int) = 5) (hc : findC css h.s = none) : isT css h L t = false := by
 unfold isT; rw [if_neg (by omega), if_neg (by omega), if_neg (by omega), if_neg (by omega), if_neg (by omega), hc]
theorem beqD {s t : List UInt8} : (s == t) = decide (s = t) := by rw [Bool.eq_iff_iff, beq_iff_eq, decide_eq_true_eq]
def IsD (F : Heap) (tb : Nat) (css : List KC) (m : Nat) : Prop := ∀ (F' : Heap) (vh : VH) (L : Vf) (t : Ty) (cs cs2 : List Value), L.size < m → (∀ b o, F b = some o → F' b = some o) → VaC F' cs vh L → TyC F' cs2 t.1 t.2 → ThinT t →
 Ct Tryz.prog 183 [.pointer (some ⟨tb, 0, none⟩), .agg ⟨cs⟩, .agg ⟨cs2⟩] F' [] (fun _ _ u => u = .bool (isT css vh L t))
theorem is1Ct (F0 : Heap) (tb : Nat) (css : List KC) (m : Nat) (ih : IsD F0 tb css m) (F : Heap) (hF : ∀ b o, F0 b = some o → F b = some o) (bt bc bx : Nat) (ps : List (List UInt8)) (vp va : Value) (ar : Fo)
  (hbt : Cel F bt 0 (ptr tb)) (hbc : Cel F bc 1 vp) (hps : LiM F 1 StR vp ps) (hbx : Cel F bx 1 va) (har : SlF F va ar) (hth : Thin ar)
  (vh : VH) (L : Vf) (cs : List Value) (f : FD) (cs2 : List Value) (hm : L.size < m) (hV : VaC F cs vh L) (hR : FdR F f cs2) (hft : f.ta.len * 40 ≤ 140737488355328 ∧ Thin f.ta) :
  Ct Tryz.prog 226 ([] ++ [.agg ⟨cs⟩, .agg ⟨cs2⟩] ++ [.pointer (some ⟨bt, 0, none⟩), .pointer (some ⟨bc, 0, none⟩), .pointer (some ⟨bx, 0, none⟩)]) F [] (fun _ _ u => u = .bool (isT css vh L (putT ps ar (f.tn, f.ta)))) := by
 have hV0 := hV
 obtain ⟨v, rfl, ⟨ao, cap, rfl, hcap, hpos⟩, hsb⟩ := hV
 obtain ⟨v2, rfl, hfs⟩ := hR
 have hfsc := hfs
 obtain ⟨af, cf, rfl, -, -⟩ := hfsc
 have hsl := lim_sl hps
 obtain ⟨ap, cp, rfl, hpl, -⟩ := hps
 have harc := har
 obtain ⟨aa, ca, rfl, -, -⟩ := harc
 refine Ct.enter Tryz.func226 rfl Tryz.ntmps226 rfl fun w0 a S => ?_
 refine wp_sr fun Z hZ => ?_
 (refine wbx S ?_; clear S a; intro b5 a w S)
 (refine wbx S ?_; clear S a; intro b6 a w S)
 (revert S a; revert hZ Z; refine go 3 ?_; intro a S)
 (refine wp_seq_k ?_; intro Z hZ)
 (refine wpc_mixM [0, 1, 2, 3, 4, 5, 6, 7] [0, 1, 3, 5, 7] [] (.one 0 (.one 1 (.one 2 (.one 3 (.one 4 (.one 5 (.one 6 (.one 7 (.one 8 (.one 9 (.one 10 .nil))))))))))) [b5, b6] S mixed (by kernel_rfl) ?_; clear S; intro w S)
 (refine wlF S rfl (fun w' S => sv_loadF S rfl rfl hbt) ?_; clear S a; intro a S)
 (revert S a; refine go 4 ?_; intro a S)
 (refine wlF S rfl (fun w' S => sv_loadF S rfl rfl hbc) ?_; clear S a; intro a S)
 (revert S a; refine go 1 ?_; intro a S)
 (refine wlF S rfl (fun w' S => sv_loadF S rfl rfl hbx) ?_; clear S a; intro a S)
 refine wpm_eff rfl rfl (kwa S) ?_
 (refine wcF S (putCt F ps _ ar _ hsl (by omega) har hth (f.ta.size + 1) F f.tn f.ta _ (Nat.lt_succ_self _) (fun _ _ h => h) ⟨_, rfl, hfs⟩ hft.1 hft.2) ?_; clear S a; intro u9 F9 a w hv hF9 S; obtain ⟨a9, q9, c9, rfl, hs9⟩ := hv)
 (revert S a; refine go 2 ?_; intro a S)
 (refine wc0 S (ih F9 vh L (putT ps ar (f.tn, f.ta)) _ _ hm (fun b o h => hF9 _ _ (hF _ _ h)) (hV0.mono hF9) ⟨_, rfl, hs9⟩ (ThinT.put hth hft)) ?_; clear S a; intro v a w hv S; subst hv)
 (revert S a; revert hZ Z; refine go 6 ?_; intro a S)
 refine wp_ret (fr1 S Tryz.results226 ?_)
 rfl
theorem zzDfA0 {p : Prop} (h : p := by (congr 1; first | (rw [isT_1 (by omega)]; exact beqD) | (rw [isT_2 (by omega)]; exact beqD) | (rw [isT_3 (by omega)]; exact beqD) | (rw [isT_4 (by omega)]; exact beqD) | (rw [isT_5 (by omega)]; first | (rw [decide_eq_true (show (nm, ar).1 = sTuple by assumption), Bool.true_and]) | (rw [decide_eq_false (show ¬ (nm, ar).1 = sTuple by assumption), Bool.false_and])) | (rw [isT_n ⟨by omega, by omega, by omega, by omega, by omega⟩ (none_of (by assumption))]; done) | (rw [isT_s ⟨by omega, by omega, by omega, by omega, by omega⟩ (some_of hy (by assumption))]; first | (rw [decide_eq_true (show y.ty = (nm, ar).1 by assumption), Bool.true_and]; done) | (rw [decide_eq_false (show ¬ y.ty = (nm, ar).1 by assumption), Bool.false_and]; done)) | trace_state)) : p := h
theorem isDCt (F : Heap) (tb m1 m2 m3 : Nat) (ts : List TD) (css : List KC) (rs : List RD) (hT : TabS F tb m1 m2 m3 ts css rs) (hK : KThin css) : ∀ m, IsD F tb css m := by
 intro m
 induction m with
 | zero => intro F' vh L t cs cs2 hm; omega
 | succ m ih =>
 intro F' vh L t cs cs2 hm hF hV hty hth
 obtain ⟨nm, ar⟩ := t
 have hV0 := hV
 obtain ⟨v, rfl, hL, hsb⟩ := hV
 have hLc := hL
 obtain ⟨ao, cap, rfl, hcap, hpos⟩ := hLc
 replace hty : TyC F' cs2 nm ar := hty
 obtain ⟨v2, rfl, har⟩ := hty
 have harc := har
 obtain ⟨aa, ca, rfl, -, -⟩ := harc
 have hcc : Cel F' tb 1 (.map (some m2)) := (hT.mono hF).c 1 _ rfl
 obtain ⟨es, hes, hmm⟩ := (hT.mono hF).k
 refine Ct.enter Tryz.func183 rfl Tryz.ntmps183 rfl fun w0 a S => ?_
 refine wp_sr fun Z hZ => ?_
 (refine wbx S ?_; clear S a; intro b3 a w S)
 (refine wbx S ?_; clear S a; intro b4 a w S)
 (refine wbx S ?_; clear S a; intro b5 a w S)
 (revert S a; revert hZ Z; refine go 15 ?_; intro Z hZ a S)
 refine wpc_sp S rfl ?_ ?_ <;> intro h
 ·(revert S a; refine go 7 ?_; intro a S)
  refine wp_ret (fr1 S Tryz.results183 ?_)
  exact zzDfA0
 (revert S a; refine go 5 ?_; intro a S)
 refine wpc_sp S rfl ?_ ?_ <;> intro h
 ·(revert S a; refine go 7 ?_; intro a S)
  refine wp_ret (fr1 S Tryz.results183 ?_)
  exact zzDfA0
 (revert S a; refine go 5 ?_; intro a S)
 refine wpc_sp S rfl ?_ ?_ <;> intro h
 ·(revert S a; refine go 7 ?_; intro a S)
  refine wp_ret (fr1 S Tryz.results183 ?_)
  exact zzDfA0
 (revert S a; refine go 5 ?_; intro a S)
 refine wpc_sp S rfl ?_ ?_ <;> intro h
 ·(revert S a; refine go 7 ?_; intro a S)
  refine wp_ret (fr1 S Tryz.results183 ?_)
  exact zzDfA0
 (revert S a; refine go 5 ?_; intro a S)
 refine wpc_sp S rfl ?_ ?_ <;> intro h
 ·(revert S a; refine go 5 ?_; intro Z hZ a S)
  refine wgd S ?_ ?_
  ·(clear S; intro h S)
   (revert S a; refine go 12 ?_; intro a S)
   (refine wc0 S (eqVTCt F' L _ hL ar _ har 183 [.pointer (some ⟨tb, 0, none⟩)] [] (isT css) (fun k x y cs cs2 hx hy hV2 hT2 => by have h9 := Rose.size_get hx; exact ih F' x.1 x.2 y cs cs2 (by omega) hF hV2 hT2 (hth.2.get hy))) ?_; clear S a; intro v a w hv S; subst hv)
   (revert S a; revert hZ Z; refine go 4 ?_; intro a S)
   refine wp_ret (fr1 S Tryz.results183 ?_)
   exact zzDfA0
  (clear S a; intro h a S)
  (revert S a; revert hZ Z; refine go 10 ?_; intro a S)
  refine wp_ret (fr1 S Tryz.results183 ?_)
  exact zzDfA0
 refine wp_skip ?_
 (refine hZ _ _ ?_; clear hZ Z)
 (refine wp_seq_k ?_; intro Z hZ)
 (refine wpc_mixM [0, 1, 2, 3, 4, 5, 6, 7, 8, 9] [0, 3, 5, 6] [] (.one 0 (.one 1 (.one 2 (.one 3 (.one 4 (.one 5 (.one 6 (.one 7 (.one 8 (.one 9 (.one 10 (.one 11 (.one 12 .nil))))))))))))) [b3, b4] S mixed (by kernel_rfl) ?_; clear S; intro w S)
 (revert S a; refine go 3 ?_; intro a S)
 (refine wlF S rfl (fun w' S => sv_loadF S rfl rfl hcc) ?_; clear S a; intro a S)
 (revert S a; refine go 2 ?_; intro a S)
 (refine wlF S rfl (fun w' S => sv_lookupF (enc := kS) S rfl rfl rfl hes) ?_; clear S a; intro a S)
 (obtain ⟨y, ap, cp, ac, cc, hgd, hps, hfs, hy, his⟩ := get_kc hmm vh.s; rw [if_pos rfl, hgd, his] at S)
 (revert S a; refine go 4 ?_; intro a S)
 (refine wpl_alloc S rfl rfl rfl rfl ?_; clear S a; intro b7 a w S)
 (revert S a; refine go 2 ?_; intro a S)
 (refine wso S rfl rfl ?_; clear S; intro w S)
 (revert S a; revert hZ Z; refine go 6 ?_; intro a S)
 (refine wp_seq_k ?_; intro Z hZ)
 (replace S : St _ _ _ _ _ F' [[(b7, .cells ⟨[.string (bs y.ty), .slice ap y.ps.length cp, .int .i64 y.pl, .slice ac y.fs.length cc]⟩ 207 (0, 0))], [(b5, .cells ⟨[.string (bs nm), .slice aa ar.len ca]⟩ 49 (0, 0))], [(b3, .cells ⟨[.pointer (some ⟨tb, 0, none⟩)]⟩ 52 (0, 0))], [(b4, .cells ⟨[.int .u8 (vh.k : Int), .int .i64 vh.n, .string (bs vh.s), .slice ao L.len cap]⟩ 26 (0, 0))]] _ _ := St.permI S 4 rfl [0, 1, 3, 2] (by decide); have hle1 := add_le (G1 := []) S; replace S := St.freeze (G1 := []) S; (try simp only [List.nil_append] at S hle1); have hb70 : Cel (F'.add [(b7, .cells ⟨[.string (bs y.ty), .slice ap y.ps.length cp, .int .i64 y.pl, .slice ac y.fs.length cc]⟩ 207 (0, 0))]) b7 0 (.string (bs y.ty)) := ⟨_, _, _, Heap.add_new (p := (b7, _)) (List.mem_singleton.2 rfl) (by simp), rfl⟩; have hb71 : Cel (F'.add [(b7, .cells ⟨[.string (bs y.ty), .slice ap y.ps.length cp, .int .i64 y.pl, .slice ac y.fs.length cc]⟩ 207 (0, 0))]) b7 1 (.slice ap y.ps.length cp) := ⟨_, _, _, Heap.add_new (p := (b7, _)) (List.mem_singleton.2 rfl) (by simp), rfl⟩; have hb73 : Cel (F'.add [(b7, .cells ⟨[.string (bs y.ty), .slice ap y.ps.length cp, .int .i64 y.pl, .slice ac y.fs.length cc]⟩ 207 (0, 0))]) b7 3 (.slice ac y.fs.length cc) := ⟨_, _, _, Heap.add_new (p := (b7, _)) (List.mem_singleton.2 rfl) (by simp), rfl⟩; generalize (F'.add [(b7, .cells ⟨[.string (bs y.ty), .slice ap y.ps.length cp, .int .i64 y.pl, .slice ac y.fs.length cc]⟩ 207 (0, 0))]) = F1 at S hle1 hb70 hb71 hb73; have hle2 := add_le (G1 := []) S; replace S := St.freeze (G1 := []) S; (try simp only [List.nil_append] at S hle2); have hb50 : Cel (F1.add [(b5, .cells ⟨[.string (bs nm), .slice aa ar.len ca]⟩ 49 (0, 0))]) b5 0 (.string (bs nm)) := ⟨_, _, _, Heap.add_new (p := (b5, _)) (List.mem_singleton.2 rfl) (by simp), rfl⟩; have hb51 : Cel (F1.add [(b5, .cells ⟨[.string (bs nm), .slice aa ar.len ca]⟩ 49 (0, 0))]) b5 1 (.slice aa ar.len ca) := ⟨_, _, _, Heap.add_new (p := (b5, _)) (List.mem_singleton.2 rfl) (by simp), rfl⟩; generalize (F1.add [(b5, .cells ⟨[.string (bs nm), .slice aa ar.len ca]⟩ 49 (0, 0))]) = F2 at S hle2 hb50 hb51; have hle3 := add_le (G1 := []) S; replace S := St.freeze (G1 := []) S; (try simp only [List.nil_append] at S hle3); have hb30 : Cel (F2.add [(b3, .cells ⟨[.pointer (some ⟨tb, 0, none⟩)]⟩ 52 (0, 0))]) b3 0 (ptr tb) := ⟨_, _, _, Heap.add_new (p := (b3, _)) (List.mem_singleton.2 rfl) (by simp), rfl⟩; generalize (F2.add [(b3, .cells ⟨[.pointer (some ⟨tb, 0, none⟩)]⟩ 52 (0, 0))]) = F3 at S hle3 hb30; replace hb70 := (hb70.mono hle2).mono hle3; replace hb71 := (hb71.mono hle2).mono hle3; replace hb73 := (hb73.mono hle2).mono hle3; replace hb50 := hb50.mono hle3; replace hb51 := hb51.mono hle3; have hle13 : ∀ b o, F' b = some o → F3 b = some o := (fun b o h => hle3 _ _ (hle2 _ _ (hle1 _ _ h))))
 (revert S a; refine go 3 ?_; intro a S)
 refine wgd S ?_ ?_
 ·(clear S; intro h S)
  (revert S a; refine go 2 ?_; intro a S)
  (refine wv S (sv_loadF S rfl rfl hb70) ?_; clear S a; intro a S)
  (revert S a; refine go 3 ?_; intro a S)
  (refine wv S (sv_loadF S rfl rfl hb50) ?_; clear S a; intro a S)
  (revert S a; refine go 4 ?_; intro a S)
  refine wgd S ?_ ?_
  ·(clear S; intro h S)
   (revert S a; refine go 6 ?_; intro a S)
   (refine wv S (sv_loadF S rfl rfl hb73) ?_; clear S a; intro a S)
   (revert S a; refine go 3 ?_; intro a S)
   (have hyc : findC css vh.s = some y := some_of hy (by assumption); refine wc0 S (eqVDCt F3 L _ (hL.mono hle13) y.fs _ (hfs.mono hle13) 226 [] [.pointer (some ⟨b3, 0, none⟩), .pointer (some ⟨b7, 0, none⟩), .pointer (some ⟨b5, 0, none⟩)] (fun h L f => isT css h L (putT y.ps ar (f.tn, f.ta))) (fun k x f cs cs2 hx hf hV2 hR2 => by have h9 := Rose.size_get hx; exact is1Ct F tb css m ih F3 (fun b o h => hle13 _ _ (hF _ _ h)) b3 b7 b5 y.ps _ _ ar hb30 hb71 (hps.mono hle13) hb51 (har.mono hle13) hth.2 x.1 x.2 cs f cs2 (by omega) hV2 hR2 (hK y (findC_mem hyc) f (List.mem_of_getElem? hf)))) ?_; clear S a; intro v a w hv S; subst hv)
   (revert S a; revert hZ Z; refine go 4 ?_; intro a S)
   refine wp_ret (fr1 S Tryz.results183 ?_)
   exact zzDfA0
  (clear S a; intro h a S)
  (revert S a; revert hZ Z; refine go 9 ?_; intro a S)
  refine wp_ret (fr1 S Tryz.results183 ?_)
  exact zzDfA0
 (clear S a; intro h a S)
 (revert S a; revert hZ Z; refine go 16 ?_; intro a S)
 refine wp_ret (fr1 S Tryz.results183 ?_)
 exact zzDfA0
end Go.Proofs.YthnafdbebniapaaGreatDoor
