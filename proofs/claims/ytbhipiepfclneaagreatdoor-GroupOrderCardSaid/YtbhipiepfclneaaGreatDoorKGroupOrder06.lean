/- Walks. -/
import Derived.Test.YtbhipiepfclneaaGreatDoorKGroupOrder05
import Derived.Test.YtbhipiepfclneaaGreatDoorQ29
import Derived.Test.YtbhipiepfclneaaGreatDoorQ28
import Derived.Test.YtbhipiepfclneaaGreatDoorKGroupOrder02
import Derived.Test.YtbhipiepfclneaaGreatDoorQ14
import Derived.Test.YtbhipiepfclneaaGreatDoorQ09
import Derived.Test.YtbhipiepfclneaaGreatDoorKGroupOrderTy
import Derived.Test.YtbhipiepfclneaaGreatDoorQ12
import Derived.Test.YtbhipiepfclneaaGreatDoorKGroupOrder01
import Derived.Test.YtbhipiepfclneaaGreatDoorQ06
import Derived.Test.YtbhipiepfclneaaGreatDoorQ05
import Derived.Test.YtbhipiepfclneaaGreatDoorQ18
import Derived.Test.YtbhipiepfclneaaGreatDoorQ10
import Derived.Test.YtbhipiepfclneaaGreatDoorQ01
import Derived.Test.YtbhipiepfclneaaGreatDoorQ22
import Derived.Test.YtbhipiepfclneaaGreatDoorQ17
import Derived.Test.YtbhipiepfclneaaGreatDoorQ16
import Derived.Test.YtbhipiepfclneaaGreatDoorQ11
import Derived.Test.YtbhipiepfclneaaGreatDoorQ04
import Derived.Test.YtbhipiepfclneaaGreatDoorQ03
import Derived.Test.YtbhipiepfclneaaGreatDoorQ02
import Derived.Test.YtbhipiepfclneaaGreatDoorQShelf
import Derived.Test.YtbhipiepfclneaaGreatDoorQ21
import Derived.Test.YtbhipiepfclneaaGreatDoorQ20
import Derived.Test.YtbhipiepfclneaaGreatDoorQ19
import Derived.Test.YtbhipiepfclneaaGreatDoorQ15
import Derived.Test.YtbhipiepfclneaaGreatDoorQ13
set_option maxHeartbeats 8000000
namespace Go.Proofs.YtbhipiepfclneaaGreatDoor
open Go Go.Wk Go.Un Go.De Go.Num
set_option linter.unusedSimpArgs false
set_option linter.unusedVariables false
attribute [local irreducible] Go.wpList Go.Code.wp Go.wpStill Go.Wk.wpPre Go.bodyPost Go.Calls Go.Wk.Ct Go.Wk.OwnS Go.Wk.wpG Go.Wk.wpM
theorem txt_good : ∀ {r : Vf}, (txtG r).isSome = true → mayL r = true ∧ formL r = true
 | .nil, _ => ⟨rfl, rfl⟩
 | .cons h L r, hs => by
  unfold txtG at hs
  by_cases hc : checkV h L = 0
  ·rw [if_pos hc] at hs
   have hs2 : (txtG r).isSome = true := by cases hr : txtG r with | none => rw [hr] at hs; cases hs | some _ => rfl
   obtain ⟨h1, h2⟩ := txt_good hs2
   obtain ⟨h3, h4⟩ := check_form hc
   refine ⟨?_, ?_⟩
   ·unfold mayL at h1 ⊢
    rw [show anyR (fun h L => !mayV (h, L)) (.cons h L r) = (!mayV (h, L) || anyR (fun h L => !mayV (h, L)) r) from rfl, show mayV (h, L) = true from decide_eq_true hc]
    simpa using h1
   ·rw [formL_cons, h3, h4, h2]; rfl
  ·rw [if_neg hc] at hs; cases hs
theorem keys_nodup {aggs : List (List UInt8)} {x : GA} (hI : GInv aggs x) : (x.map (·.2.key)).Nodup := by
 have h1 := hI.nd
 have h2 := hI.all
 clear hI
 induction x with
 | nil => exact List.nodup_nil
 | cons p r ih =>
  rw [List.map_cons, List.nodup_cons] at h1 ⊢
  refine ⟨fun hm => ?_, ih h1.2 fun q hq => h2 q (List.mem_cons_of_mem _ hq)⟩
  obtain ⟨q, hq, e⟩ := List.mem_map.1 hm
  have k1 := (h2 p (List.mem_cons_self ..)).key
  have k2 := (h2 q (List.mem_cons_of_mem _ hq)).key
  rw [e, k1] at k2
  exact h1.1 (List.mem_map.2 ⟨q, hq, (Option.some.inj k2).symm⟩)
theorem keysCt (F : Heap) (bg : Nat) (av : Value) (gv : Gv) (gg : Grp) (aggs : List (List UInt8)) (x : GA) (hG : GsS bg av gv gg) (hX : GvR F x gv) (hI : GInv aggs x) (h0 : 0 < x.length) (hl : x.length ≤ 1000000000) :
  Ct Tryz.prog 25 [.pointer (some ⟨bg, 0, none⟩)] F [gg] (fun F' G' u => G' = [gg] ∧ ∃ Y : List Vf, Y.Perm (x.map (·.2.key)) ∧ Y.Pairwise (fun x y => 0 ≤ cmpL y x) ∧ LiM F' 1 RwR u Y) := by
 obtain ⟨bm, om, gw, rfl, hm, hw⟩ := hG
 have hK := KyR.of hX
 have hxl : (x.map (·.2.key)).length = x.length := List.length_map ..
 refine Ct.enter Tryz.func25 rfl Tryz.ntmps25 rfl fun w0 a S => ?_
 (revert S a; refine go 5 ?_; intro Z hZ a S)
 (refine wp_seq_k ?_; intro Z hZ)
 (replace S := spl3 S)
 (revert S a; refine go 2 ?_; intro a S)
 (refine wv S (sv_eqPtrSome S rfl rfl rfl) ?_; clear S a; intro a S)
 (revert S a; revert hZ Z; refine go 2 ?_; intro a S)
 refine wpc_false S rfl ?_
 (revert S a; revert hZ Z; refine go 12 ?_; intro Z hZ Z hZ a S)
 (refine wpl_rangeM (enc := kS) S rfl rfl rfl rfl rfl (by exact S.has inferInstance) hm ?_; clear S a; intro b12 oi a w hit S)
 (revert S a; revert hZ Z; refine go 3 ?_; intro a S)
 refine wpc_loop (fun m a w' => ∃ (lv : List (List UInt8 × Value)) (lw cu : List Vf) (v : Value) (g : Grp) (xs : List Value) (cr : Option (List UInt8 × Value)) (oi : Obj), m = lv.length ∧ KyR F lw lv ∧ (cu ++ lw).Perm (x.map (·.2.key)) ∧ ItO kS (gvM gv) bm om lv cr oi ∧ OwnS 32 1 v cu.length xs g ∧ LiC F 1 RwR xs cu ∧ St 24 [(3, v), (12, ptr b12)] w0 F (keys [(bg, .cells ⟨[av, .map (some bm)]⟩ 75 (0, 0)) :: (bm, om) :: gw]) F [g, [(b12, oi)], [(bg, .cells ⟨[av, .map (some bm)]⟩ 75 (0, 0))], [(bm, om)], gw] a w') ?_ ?_
 ·(refine ⟨_, _, _, [], .slice none 0 0, [], [], none, oi, rfl, hK, List.Perm.refl _, hit, OwnS.nil _ _, rfl, ?_⟩; replace S := S.nilg; refine S.keep ?_; exact zk)
 (clear S hit; rintro m a w ⟨lv, lw, cu, v, g, xs, cr, oi, rfl, hKl, hpm, hit, hown, hxs, S⟩; have hcu := hpm.length_eq; rw [List.length_append] at hcu)
 refine wp_sr fun Z hZ => ?_
 (refine wpl_next (enc := kS) S rfl rfl rfl rfl rfl (by exact S.has inferInstance) hit ?_; clear S a; intro y oi2 a w hnx S)
 (revert S a; revert hZ Z; refine go 4 ?_; intro Z hZ a S)
 refine wpc_sp S rfl ?_ ?_ <;> intro h
 ·(revert S a; revert hZ Z; refine go 3 ?_; intro a S)
  (refine wp_seq_k ?_; intro Z hZ)
  (obtain ⟨⟨pt, pv⟩, l1, l2, rfl, hpl, hit2⟩ := nx_some hnx (by assumption); subst hpl; obtain ⟨m1, r, m2, rfl, hK2, kv, be, hpe, hTr⟩ := hKl.split; (dsimp only at hpe); subst hpe; obtain ⟨aQ, cQ, rfl, -⟩ := id hTr)
  refine wp_region_lit ?_
  (refine wv S (sv_entryM (enc := kS) S rfl rfl (by exact S.has inferInstance) hit2) ?_; clear S a; intro a S)
  (revert S a; refine go 1 ?_; intro a S)
  (refine wpl_alloc S rfl rfl rfl rfl ?_; clear S a; intro b5 a w S)
  (refine wso S rfl rfl ?_; clear S; intro w S)
  (revert S a; revert hZ Z; refine go 6 ?_; intro a S)
  (refine wpl_append S rfl rfl rfl rfl rfl rfl rfl rfl rfl rfl rfl (fun _ => rfl) hown (by rfl) (by simp [Value.cells, splice, splice]) (by simp [Value.cells, Value.oneCell', splice, splice]) rfl (by rfl) (by rfl) rfl (by omega) (by omega) ?_; clear hown S a; intro v u g a w hown S)
  (revert S a; refine go 2 ?_; intro a S)
  change ∃ m', _ ∧ _
  (have hown2 : OwnS 32 1 _ (cu ++ [r]).length _ _ := (by rw [List.length_append]; exact hown); refine ⟨(l1 ++ l2).length, by (simp only [List.length_append, List.length_cons]; omega), l1 ++ l2, m1 ++ m2, cu ++ [r], _, _, _, _, _, rfl, hK2, ?_, hit2, hown2, LiC.app hxs (LiC.one rfl ⟨_, rfl, hTr⟩), ?_⟩; rotate_left 1; (replace S := St.pullB b5 S; replace S := S.drop1; (refine S.keep ?_; exact zk)); refine List.Perm.trans ?_ hpm; rw [List.append_assoc]; refine List.Perm.append_left _ ?_; rw [List.singleton_append]; exact List.perm_middle.symm)
 (refine wp_exit ?_; conv => whnf)
 clear hZ Z
 (refine hZ _ _ ?_; clear hZ Z)
 (refine wp_seq_k ?_; intro Z hZ)
 (have hlv := nx_none hnx (by assumption); subst hlv; obtain rfl := hKl.nil; rw [List.append_nil] at hpm; have hcl := hpm.length_eq; have hle := add_le (G1 := []) S; replace S := St.freeze (G1 := []) S; (simp only [List.nil_append] at S hle); have hLv := LiC.lim (F := F) hown hxs rfl hle (by omega); obtain ⟨aV, cV, rfl, -, -⟩ := id hLv; generalize F.add g = F4 at S hle hLv; have hgd : ∀ r ∈ cu, ∃ p ∈ x, p.2.key = r := (fun r hr => List.mem_map.1 (hpm.mem_iff.1 hr)))
 (revert S a; refine go 2 ?_; intro a S)
 (refine wcF S (sortVCt F4 _ cu hLv (fun r hr => by obtain ⟨p, hp, rfl⟩ := hgd r hr; exact (txt_good (by rw [(hI.all p hp).key]; rfl)).1) (fun r hr => by obtain ⟨p, hp, rfl⟩ := hgd r hr; exact ⟨(hI.all p hp).krow.ln, (hI.all p hp).krow.th⟩) (by omega) (hpm.nodup_iff.2 (keys_nodup hI)) (fun r hr s hs e => by obtain ⟨p, hp, rfl⟩ := hgd r hr; obtain ⟨q, hq, rfl⟩ := hgd s hs; exact cmpL_zero (txt_good (by rw [(hI.all p hp).key]; rfl)).2 (txt_good (by rw [(hI.all q hq).key]; rfl)).2 e) (by omega)) ?_; clear S a; intro v23 F5 a w hv hF5 S; obtain ⟨Y, hYp, hYs, hYL⟩ := hv)
 (revert S a; revert hZ Z; refine go 3 ?_; intro a S)
 refine wp_ret ?_
 (replace S := joi3 S.drop1)
 refine fin_ret S (results1 Tryz.results25 (RV.tmp S rfl)) ?_
 exact ⟨rfl, Y, hYp.trans hpm, hYs, hYL⟩
theorem sameL_self (l : Vf) : sameL l l = true := by
 have := sameV_iff (x := ((⟨0, 0, []⟩, l) : Vv)) (y := (⟨0, 0, []⟩, l))
 have h := this.2 rfl
 unfold sameV at h
 rw [Bool.and_eq_true] at h
 exact h.2
theorem sameRowsCt (F : Heap) (l : List Vf) (v u : Value) (hv : LiM F 1 RwR v l) (hu : LiM F 1 RwR u l) : Ct Tryz.prog 13 [v, u] F [] (fun _ _ u => u = .bool true) := by
 obtain ⟨ao, cap, rfl, hcap, hpos⟩ := hv
 obtain ⟨ao2, cap2, rfl, hcap2, hpos2⟩ := hu
 refine Ct.enter Tryz.func13 rfl Tryz.ntmps13 rfl fun w0 a S => ?_
 (revert S a; refine go 10 ?_; intro Z hZ Z hZ a S)
 (refine wv S (sv_lit (c := false) (sv_pure S rfl) (by simp)) ?_; clear S a; intro a S)
 (revert S a; revert hZ Z; refine go 2 ?_; intro a S)
 refine wpc_false S rfl ?_
 (revert S a; revert hZ Z; refine go 8 ?_; intro Z hZ a S)
 refine wpc_loop (fun q a' w' => ∃ (k : Nat), q = l.length - k ∧ k ≤ l.length ∧ St 27 [(0, .slice ao l.length cap), (1, .slice ao2 l.length cap2), (5, .int .i64 (k : Nat))] w0 F [] F [] a' w') ?_ ?_
 ·(refine ⟨_, 0, rfl, Nat.zero_le _, ?_⟩; refine S.keep ?_; exact zk)
 (clear S; rintro q a w ⟨k, rfl, hk, S⟩)
 (revert S a; refine go 8 ?_; intro Z hZ a S)
 refine wpc_sp S rfl ?_ ?_ <;> intro h
 ·(revert S a; revert hZ Z; refine go 4 ?_; intro Z hZ a S)
  (refine wp_seq_k ?_; intro Z hZ)
  (obtain ⟨b8, o8, hao, x, cs1, hx, hcc, v1, rfl, hT1⟩ := LiM.pos hpos (k := k) (by omega); obtain ⟨b9, o9, hao2, y, cs2, hy, hcc2, v2, rfl, hT2⟩ := LiM.pos hpos2 (k := k) (by omega); rw [hx] at hy; cases hy; have hc1 : Cel F b8 (o8 + k * 1) v1 := hcc 0 _ rfl; have hc2 : Cel F b9 (o9 + k * 1) v2 := hcc2 0 _ rfl; rw [hao, hao2] at S)
  (refine wpc_mixM [0, 1, 2, 3, 4, 5, 6, 7, 9] [3, 7] [] (.one 0 (.one 1 (.one 2 (.one 3 (.one 4 (.one 5 (.one 6 (.one 7 (.one 8 (.one 9 .nil)))))))))) [] S mixed (by kernel_rfl) ?_; clear S; intro w S)
  (revert S a; refine go 3 ?_; intro a S)
  (refine wlF S rfl (fun w' S => sv_loadF S rfl rfl hc1) ?_; clear S a; intro a S)
  (revert S a; refine go 3 ?_; intro a S)
  (refine wlF S rfl (fun w' S => sv_loadF S rfl rfl hc2) ?_; clear S a; intro a S)
  refine wpm_eff rfl rfl (kwa S) ?_
  (refine wc0 S (sameRowCt (sameCt x.size) F x x v1 v2 (Nat.le_refl _) hT1 hT2) ?_; clear S a; intro v25 a w hv S; rw [sameL_self] at hv; subst hv)
  refine wpList_nil ?_
  (refine wpm_v S rfl rfl rfl (want_none _ rfl) rfl rfl (fun w' S => sv_lit (c := false) (sv_pure S rfl) (by rfl)) ?_; clear S a; intro a S)
  (revert S a; revert hZ Z; refine go 2 ?_; intro a S)
  refine wpc_false S rfl ?_
  (revert S a; revert hZ Z; refine go 7 ?_; intro a S)
  change ∃ m', _ ∧ _
  (rw [← hao, ← hao2] at S; refine ⟨l.length - (k + 1), by omega, k + 1, rfl, by omega, ?_⟩; (refine S.keep ?_; exact zk))
 (refine wp_exit ?_; conv => whnf)
 clear hZ Z
 (revert S a; revert hZ Z; refine go 5 ?_; intro a S)
 refine wp_ret (fr1 S Tryz.results13 ?_)
 rfl
def rowD (aggs : List (List UInt8)) (ws : List (List UInt8 × Vf)) : Int × Vf :=
 match (List.range aggs.length).find? (fun i => decide ((rowA aggs ws i).1 ≠ 0)) with
 | some i => ((rowA aggs ws i).1, .nil)
 | none => (0, roseOf ((List.range aggs.length).map fun i => (rowA aggs ws i).2))
theorem rowD_err {aggs : List (List UInt8)} {ws : List (List UInt8 × Vf)} {i : Nat} (hi : i < aggs.length) (h0 : (rowA aggs ws i).1 ≠ 0) (h : ∀ j, j < i → (rowA aggs ws j).1 = 0) : rowD aggs ws = ((rowA aggs ws i).1, .nil) := by
 have : (List.range aggs.length).find? (fun i => decide ((rowA aggs ws i).1 ≠ 0)) = some i := by
  rw [List.find?_range_eq_some]
  exact ⟨decide_eq_true h0, List.mem_range.2 hi, fun j hj => by simp [h j hj]⟩
 unfold rowD
 rw [this]
theorem rowD_ok {aggs : List (List UInt8)} {ws : List (List UInt8 × Vf)} (h : ∀ j, j < aggs.length → (rowA aggs ws j).1 = 0) : rowD aggs ws = (0, roseOf ((List.range aggs.length).map fun i => (rowA aggs ws i).2)) := by
 have : (List.range aggs.length).find? (fun i => decide ((rowA aggs ws i).1 ≠ 0)) = none := by
  rw [List.find?_eq_none]
  intro j hj
  simp [h j (List.mem_range.1 hj)]
 unfold rowD
 rw [this]
section
variable {P : Program} {Q : Exit → Act → World → Prop} {n : Sz} {L : List (Nat × Value)} {w0 : World} {F0 : Heap} {K0 : List Nat} {F : Heap} {G : List Grp} {a : Act} {w : World}
variable {ops : Array Oper} {rest : List Oper} {o : Oper} {d : Nat} {x : Operand} {xs : Array Operand} {ts : Array TypeId} {f : FuncId} {fi ca vs args : List Value}
theorem wpl_gRowD {Gr : List Grp} {gg : Grp} {bg : Nat} {av : Value} {X : GA} {aggs : List (List UInt8)} {key : Vf} {kx : List UInt8} {e : En} [hf : HasFn P f] (S : St n L w0 F0 K0 F G a w) (hg : o.guard = none) (hd : o.dst = some d) (hn : Nat.blt d n.sz = true)
  (ho : o.op = .call { callee := .value x, args := xs, argTypes := ts }) (hx : ev L x = some (.func (.func f) ⟨fi⟩ ⟨ca⟩)) (hxs : evs L xs.toList = some vs) (hO : GO F bg av X gg) (C : ∀ gv, GsS bg av gv gg → GvR F X gv → Ct P f args F [gg] (fun _ G' u => RowG aggs X key gg G' u)) (ha : fi ++ vs ++ ca = args) (hp : G.flatten.Perm (gg :: Gr).flatten)
  (hk : txtG key = some kx) (he : alG X kx = some e)
  (k : ∀ v F' a' w', TrS F' 4 VhR v (rowD aggs e.ways).2 → (∀ b o, F b = some o → F' b = some o) → St n ((d, .tuple ⟨[v, .int .i64 (rowD aggs e.ways).1]⟩) :: L) w0 F0 K0 F' (gg :: Gr) a' w' → wpList P ops Q rest a' w') : wpList P ops Q (o :: rest) a w := by
 obtain ⟨gv, hG, hX⟩ := hO
 refine wpl_callOwn (Gs := [gg]) (Gr := Gr) S hg hd hn ho hx hxs (C gv hG hX) ha (hp.trans (by simp)) fun v G' a' w' hv S' => ?_
 unfold RowG at hv
 rw [hk] at hv
 simp only [he] at hv
 rcases hv with ⟨i, hi, h1, h3, rfl, rfl⟩ | ⟨h1, v, gO, rfl, rfl, h2⟩
 ·have e1 := rowD_err hi h1 h3
  exact k _ F a' w' (by rw [e1]; exact TrS.nil _ _ _) (fun _ _ h => h) (by rw [e1]; exact S')
 ·have e1 := rowD_ok h1
  obtain ⟨F', hF, hgn, S2⟩ := gsn_take S'
  exact k v F' a' w' (by rw [e1]; exact TrS.mono hgn h2) hF (by rw [e1]; exact S2)
end
def allR (r : Vf → Int × Vf) (Y : List Vf) : List Vf := Y.flatMap fun k => [k, (r k).2]
def worstR (r : Vf → Int × Vf) (Y : List Vf) : Int := Y.foldl (fun n k => if (r k).1 ≠ 0 then (r k).1 else n) 0
theorem keysAnyCt (F : Heap) (bg : Nat) (av : Value) (gv : Gv) (gg : Grp) (aggs : List (List UInt8)) (x : GA) (hG : GsS bg av gv gg) (hX : GvR F x gv) (hI : GInv aggs x) (hl : x.length ≤ 1000000000) :
  Ct Tryz.prog 25 [.pointer (some ⟨bg, 0, none⟩)] F [gg] (fun F' G' u => G' = [gg] ∧ ∃ Y : List Vf, Y.Perm (x.map (·.2.key)) ∧ Y.Pairwise (fun x y => 0 ≤ cmpL y x) ∧ LiM F' 1 RwR u Y) := by
 by_cases h0 : 0 < x.length
 ·exact keysCt F bg av gv gg aggs x hG hX hI h0 hl
 ·have hx : x = [] := List.length_eq_zero_iff.1 (by omega)
  subst hx
  have hg : gv = [] := by cases gv with | nil => rfl | cons _ _ => exact hX.elim
  subst hg
  exact (keysNilCt F bg av gg hG).mono fun F' G' u ⟨h1, h2⟩ => ⟨h2, [], List.Perm.refl _, List.Pairwise.nil, by rw [h1]; exact LiM.nil _ _ _⟩
def rowK (aggs : List (List UInt8)) (x : GA) (k : Vf) : Int × Vf := match txtG k with
 | some t => (match alG x t with | some e => rowD aggs e.ways | none => (5, .nil))
 | none => (4, .nil)
theorem alG_key {aggs : List (List UInt8)} {x : GA} (hI : GInv aggs x) {p : List UInt8 × En} (hp : p ∈ x) : alG x p.1 = some p.2 := by
 obtain ⟨x1, x2, rfl⟩ := List.append_of_mem hp
 refine alG_mid fun q hq => fun e => ?_
 have h := hI.nd
 rw [List.map_append, List.map_cons, List.nodup_append] at h
 exact h.2.2 q.1 (List.mem_map_of_mem hq) p.1 (List.mem_cons_self ..) e
theorem allR_snoc (r : Vf → Int × Vf) {Y : List Vf} {i : Nat} {k : Vf} (h : Y[i]? = some k) : allR r (Y.take (i + 1)) = allR r (Y.take i) ++ [k, (r k).2] := by
 unfold allR
 rw [List.take_add_one, h, List.flatMap_append]; simp
theorem worst_snoc (r : Vf → Int × Vf) {Y : List Vf} {i : Nat} {k : Vf} (h : Y[i]? = some k) : worstR r (Y.take (i + 1)) = if (r k).1 ≠ 0 then (r k).1 else worstR r (Y.take i) := by
 unfold worstR
 rw [List.take_add_one, h, List.foldl_append]; rfl
theorem allR_len (r : Vf → Int × Vf) : ∀ Y : List Vf, (allR r Y).length = 2 * Y.length
 | [] => rfl
 | k :: Y => by
  have := allR_len r Y
  unfold allR at this ⊢
  rw [List.flatMap_cons, List.length_append, this]
  simp only [List.length_cons, List.length_nil]
  omega
theorem zzSe0 {p : Prop} (h : p := by (rw [← hao] at S; replace S := swap2 S; have hxs2 : LiC F4 1 RwR _ (allR (rowK aggs x) (Y.take (i + 1))) := (by rw [allR_snoc _ hx]; exact LiC.app (hxs.mono hF4) ⟨[_], [_], rfl, rfl, ⟨_, rfl, hT1.mono hF4⟩, LiC.one rfl ⟨_, rfl, hRow⟩⟩); refine ⟨Y.length - (i + 1), by omega, i + 1, F4, _, _, _, rfl, by omega, (fun b o h => hF4 _ _ (hF3 _ _ h)), hO3.mono hF4, hown, hxs2, ?_⟩; rw [worst_snoc _ hx]; first | (rw [if_pos (by assumption)]; (refine S.keep ?_; exact zk); done) | (rw [if_neg (by omega)]; (refine S.keep ?_; exact zk); done) | trace_state)) : p := h
theorem allCt (F : Heap) (hT : TabF F) (hE : ErrF F) (bg : Nat) (av : Value) (gg : Grp) (aggs : List (List UInt8)) (x : GA) (hO : GO F bg av x gg) (hA : LiM F 1 StR av aggs) (h8 : aggs.length ≤ 8) (hkn : aggs.all knownS = true) (hI : GInv aggs x) (hl : x.length ≤ 1000000000) (hcn : ∀ p ∈ x, p.2.ways.length ≤ 1000000000) :
  Ct Tryz.prog 12 [.pointer (some ⟨bg, 0, none⟩)] F [gg] (fun F' G' u => G' = [gg] ∧ ∃ (Y : List Vf) (v : Value), Y.Perm (x.map (·.2.key)) ∧ Y.Pairwise (fun x y => 0 ≤ cmpL y x) ∧ u = .tuple ⟨[v, .int .i64 (worstR (rowK aggs x) Y)]⟩ ∧ LiM F' 1 RwR v (allR (rowK aggs x) Y)) := by
 refine Ct.enter Tryz.func12 rfl Tryz.ntmps12 rfl fun w0 a S => ?_
 (revert S a; refine go 11 ?_; intro Z hZ a S)
 (obtain ⟨gv, hG, hX⟩ := id hO; refine wpl_call (Gs := [gg]) (Gr := []) S rfl rfl rfl rfl rfl rfl (keysAnyCt F bg av gv gg aggs x hG hX hI hl) rfl (by simp) ?_; clear S a; intro v11 F2 G9 a w hv hF2 S; obtain ⟨rfl, Y, hYp, hYs, hYL⟩ := hv; obtain ⟨aY, cY, rfl, hcY, hpY⟩ := hYL; have hYl := hYp.length_eq; rw [List.length_map] at hYl)
 (revert S a; revert hZ Z; refine go 13 ?_; intro Z hZ a S)
 refine wpc_loop (fun q a' w' => ∃ (i : Nat) (F3 : Heap) (v : Value) (g : Grp) (xs : List Value), q = Y.length - i ∧ i ≤ Y.length ∧ (∀ b o, F2 b = some o → F3 b = some o) ∧ GO F3 bg av x gg ∧ OwnS 32 1 v (2 * i) xs g ∧ LiC F3 1 RwR xs (allR (rowK aggs x) (Y.take i)) ∧ St 40 [(0, .pointer (some ⟨bg, 0, none⟩)), (4, v), (5, .slice aY Y.length cY), (6, .int .i64 (worstR (rowK aggs x) (Y.take i))), (7, .int .i64 (i : Nat))] w0 F (keys [gg]) F3 [g, gg] a' w') ?_ ?_
 ·(refine ⟨_, 0, F2, .slice none 0 0, [], [], rfl, Nat.zero_le _, (fun _ _ h => h), hO.mono hF2, OwnS.nil _ _, rfl, ?_⟩; replace S : St _ _ _ _ _ F2 [[], gg] _ _ := ⟨S.fr, S.tr.perm (by simp)⟩; refine S.keep ?_; exact zk)
 (clear S; rintro q a w ⟨i, F3, v, g, xs, rfl, hi, hF3, hO3, hown, hxs, S⟩)
 (revert S a; refine go 8 ?_; intro Z hZ a S)
 refine wpc_sp S rfl ?_ ?_ <;> intro h
 ·(revert S a; revert hZ Z; refine go 4 ?_; intro Z hZ a S)
  (refine wp_seq_k ?_; intro Z hZ)
  (obtain ⟨b8, o8, hao, k, cs1, hx, hcc, v1, rfl, hT1⟩ := LiM.pos hpY (k := i) (by omega); have hc1 : Cel F3 b8 (o8 + i * 1) v1 := (hcc 0 _ rfl).mono hF3; replace hT1 := hT1.mono hF3; have hm3 : ∀ b o, F b = some o → F3 b = some o := (fun b o h => hF3 _ _ (hF2 _ _ h)); obtain ⟨p, hpx, hpk⟩ := List.mem_map.1 (hYp.mem_iff.1 (List.mem_of_getElem? hx)); have hkt : txtG k = some p.1 := (by rw [← hpk]; exact (hI.all p hpx).key); have hka := alG_key hI hpx; have hrk : rowK aggs x k = rowD aggs p.2.ways := (by unfold rowK; rw [hkt]; simp only [hka]); have hkr : RowB k := (by rw [← hpk]; exact (hI.all p hpx).krow); obtain ⟨aK, cK, rfl, -⟩ := id hT1; rw [hao] at S)
  (revert S a; refine go 5 ?_; intro a S)
  (refine wv S (sv_loadF S rfl rfl hc1) ?_; clear S a; intro a S)
  (refine wpl_gRowD (Gr := [g]) S rfl rfl rfl rfl rfl rfl hO3 (fun gv h1 h2 => rowGCt F3 (hT.mono hm3) (hE.mono hm3) bg av gv gg aggs x h1 (hA.mono hm3) h8 hkn h2 hI hcn k _ hT1 hkr) rfl (by show (g ++ (gg ++ [])).Perm (gg ++ (g ++ [])); rw [List.append_nil, List.append_nil]; exact List.perm_append_comm) hkt hka ?_; clear S a; intro vR F4 a w hRow hF4 S; rw [← hrk] at S hRow; obtain ⟨aR, cR, rfl, -⟩ := id hRow; replace hc1 := hc1.mono hF4)
  (revert S a; revert hZ Z; refine go 13 ?_; intro Z hZ a S)
  refine wpc_sp S rfl ?_ ?_ <;> intro h
  ·(revert S a; revert hZ Z; refine go 10 ?_; intro a S)
   (refine wv S (sv_loadF S rfl rfl hc1) ?_; clear S a; intro a S)
   (revert S a; refine go 1 ?_; intro a S)
   (refine wpl_append S rfl rfl rfl rfl rfl rfl rfl rfl rfl rfl rfl (fun _ => rfl) hown (by rfl) (by simp [Value.cells, splice, splice]) (by simp [Value.cells, Value.oneCell', splice, splice]) rfl (by rfl) (by rfl) rfl (by omega) (by omega) ?_; clear hown S a; intro v u g a w hown S)
   (revert S a; revert hZ Z; refine go 8 ?_; intro a S)
   change ∃ m', _ ∧ _
   exact zzSe0
  (revert S a; revert hZ Z; refine go 7 ?_; intro a S)
  (refine wv S (sv_loadF S rfl rfl hc1) ?_; clear S a; intro a S)
  (revert S a; refine go 1 ?_; intro a S)
  (refine wpl_append S rfl rfl rfl rfl rfl rfl rfl rfl rfl rfl rfl (fun _ => rfl) hown (by rfl) (by simp [Value.cells, splice, splice]) (by simp [Value.cells, Value.oneCell', splice, splice]) rfl (by rfl) (by rfl) rfl (by omega) (by omega) ?_; clear hown S a; intro v u g a w hown S)
  (revert S a; revert hZ Z; refine go 8 ?_; intro a S)
  change ∃ m', _ ∧ _
  exact zzSe0
 (refine wp_exit ?_; conv => whnf)
 clear hZ Z
 (refine hZ _ _ ?_; clear hZ Z)
 (refine wp_seq_k ?_; intro Z hZ)
 (obtain rfl : i = Y.length := (by omega); rw [List.take_length] at hxs S; have hle := add_le (G1 := []) S; replace S := St.freeze (G1 := []) S; (simp only [List.nil_append] at S hle); have hLv := LiC.lim (F := F3) hown hxs (allR_len _ _).symm hle (by omega); obtain ⟨aV, cV, rfl, -, -⟩ := id hLv; generalize F3.add g = F4 at S hle hLv)
 (revert S a; revert hZ Z; refine go 7 ?_; intro a S)
 refine wp_ret (fr2 S Tryz.results12 ?_)
 exact ⟨rfl, Y, _, hYp, hYs, rfl, hLv⟩
def hexV (c : UInt8) : Nat := if c.toNat ≤ 57 then c.toNat - 48 else c.toNat - 87
theorem hexV_D : ∀ n, n < 16 → hexV (hexD n) = n := by decide
def decB : List UInt8 → Option (UInt8 × List UInt8)
 | [] => none
 | c :: r => if c = 92 then (match r with
   | [] => none
   | x :: r2 => if x = 110 then some (10, r2) else if x = 116 then some (9, r2) else if x = 120 then (match r2 with | h :: l :: r3 => some (UInt8.ofNat (hexV h * 16 + hexV l), r3) | _ => none) else some (x, r2))
  else some (c, r)
theorem u8_of {c : UInt8} {n : Nat} (h : c.toNat = n) (hn : n < 256) : c = UInt8.ofNat n := by
 apply UInt8.toNat_inj.1
 rw [h, UInt8.toNat_ofNat', Nat.mod_eq_of_lt hn]
theorem dec_esc (c : UInt8) (r : List UInt8) : decB (escB c ++ r) = some (c, r) := by
 by_cases h1 : c.toNat = 34 ∨ c.toNat = 92
 ·rw [esc1 h1]
  rcases h1 with h | h
  ·have : c = 34 := u8_of h (by decide)
   subst this; rfl
  ·have : c = 92 := u8_of h (by decide)
   subst this; rfl
 ·by_cases h2 : c.toNat = 10
  ·rw [esc2 h2]
   have : c = 10 := u8_of h2 (by decide)
   subst this; rfl
  ·by_cases h3 : c.toNat = 9
   ·rw [esc3 h3]
    have : c = 9 := u8_of h3 (by decide)
    subst this; rfl
   ·by_cases h4 : 32 ≤ c.toNat ∧ c.toNat ≤ 126
    ·rw [esc4 ⟨h4.1, h4.2, by omega, by omega⟩]
     have hc : ¬ c = 92 := fun e => by subst e; exact h1 (.inr rfl)
     show (if c = 92 then _ else some (c, r)) = _
     rw [if_neg hc]
    ·rw [esc5 ⟨h4, by omega, by omega⟩]
     have hl := c.toNat_lt
     show some (UInt8.ofNat (hexV (hexD (c.toNat / 16)) * 16 + hexV (hexD (c.toNat % 16))), r) = _
     rw [hexV_D _ (by omega), hexV_D _ (by omega), show c.toNat / 16 * 16 + c.toNat % 16 = c.toNat by omega, UInt8.ofNat_toNat]
theorem esc_head (c : UInt8) : ∃ x q, escB c = x :: q ∧ x ≠ 34 := by
 by_cases h1 : c.toNat = 34 ∨ c.toNat = 92
 ·exact ⟨92, _, esc1 h1, by decide⟩
 ·by_cases h2 : c.toNat = 10
  ·exact ⟨92, _, esc2 h2, by decide⟩
  ·by_cases h3 : c.toNat = 9
   ·exact ⟨92, _, esc3 h3, by decide⟩
   ·by_cases h4 : 32 ≤ c.toNat ∧ c.toNat ≤ 126
    ·exact ⟨c, [], esc4 ⟨h4.1, h4.2, by omega, by omega⟩, fun e => by subst e; exact h1 (.inl rfl)⟩
    ·exact ⟨92, _, esc5 ⟨h4, by omega, by omega⟩, by decide⟩
theorem esc_back : ∀ {s t : List UInt8} {r q : List UInt8}, s.flatMap escB ++ 34 :: r = t.flatMap escB ++ 34 :: q → s = t ∧ r = q
 | [], [], r, q, h => ⟨rfl, (List.cons.inj h).2⟩
 | [], d :: t, r, q, h => by
  obtain ⟨x, y, e, hx⟩ := esc_head d
  rw [List.flatMap_cons, e] at h
  exact absurd (List.cons.inj h).1.symm hx
 | c :: s, [], r, q, h => by
  obtain ⟨x, y, e, hx⟩ := esc_head c
  rw [List.flatMap_cons, e] at h
  exact absurd (List.cons.inj h).1 hx
 | c :: s, d :: t, r, q, h => by
  rw [List.flatMap_cons, List.flatMap_cons, List.append_assoc, List.append_assoc] at h
  have h1 := congrArg decB h
  rw [dec_esc, dec_esc] at h1
  obtain ⟨e1, e2⟩ := Prod.mk.inj (Option.some.inj h1)
  obtain ⟨e3, e4⟩ := esc_back e2
  exact ⟨by rw [e1, e3], e4⟩
theorem quote_inj {s t r q : List UInt8} (h : quoteS s ++ r = quoteS t ++ q) : s = t ∧ r = q := by
 unfold quoteS at h
 simp only [List.append_assoc, List.singleton_append, List.cons_append, List.nil_append] at h
 exact esc_back (List.cons.inj h).2
def delB (c : UInt8) : Bool := decide (c.toNat = 44 ∨ c.toNat = 41 ∨ c.toNat = 59 ∨ c.toNat = 40)
theorem tok_inj : ∀ {s t r q : List UInt8} {d e : UInt8}, (∀ c ∈ s, delB c = false) → (∀ c ∈ t, delB c = false) → delB d = true → delB e = true → s ++ d :: r = t ++ e :: q → s = t ∧ d :: r = e :: q
 | [], [], r, q, d, e, _, _, _, _, h => ⟨rfl, h⟩
 | [], y :: t, r, q, d, e, _, ht, hd, _, h => by
  have := ht y (List.mem_cons_self ..)
  rw [← (List.cons.inj h).1, hd] at this
  cases this
 | x :: s, [], r, q, d, e, hs, _, _, he, h => by
  have := hs x (List.mem_cons_self ..)
  rw [(List.cons.inj h).1, he] at this
  cases this
 | x :: s, y :: t, r, q, d, e, hs, ht, hd, he, h => by
  obtain ⟨h1, h2⟩ := List.cons.inj h
  obtain ⟨h3, h4⟩ := tok_inj (fun c hc => hs c (List.mem_cons_of_mem _ hc)) (fun c hc => ht c (List.mem_cons_of_mem _ hc)) hd he h2
  exact ⟨by rw [h1, h3], h4⟩
theorem num_chars {s : List UInt8} (h : checkS s = 0) : ∀ c ∈ s, c.toNat = 45 ∨ (48 ≤ c.toNat ∧ c.toNat ≤ 57) := fun c hc => by
 obtain ⟨h1, -, -⟩ := check_digits h
 have key : ∀ c ∈ bodyS s, 48 ≤ c.toNat ∧ c.toNat ≤ 57 := fun c hc => by
  have := List.all_eq_true.1 h1 c hc
  unfold isD at this
  rwa [Bool.and_eq_true, decide_eq_true_eq, decide_eq_true_eq] at this
 unfold bodyS at key
 by_cases h45 : s.head? = some 45
 ·rw [if_pos h45] at key
  obtain ⟨r, rfl⟩ := List.head?_eq_some_iff.1 h45
  rcases List.mem_cons.1 hc with rfl | hc
  ·exact .inl rfl
  ·exact .inr (key c hc)
 ·rw [if_neg h45] at key
  exact .inr (key c hc)
theorem num_del {s : List UInt8} (h : checkS s = 0) : ∀ c ∈ s, delB c = false := fun c hc => by
 have := num_chars h c hc
 exact decide_eq_false (by omega)
theorem itoa_del {n : Int} (h : i64 n) : ∀ c ∈ Lib.itoa n, delB c = false := by
 rw [show_itoa h.1 h.2]
 exact num_del (show_ok (i64_show h)).1
theorem itoa_inj {n m : Int} (hn : i64 n) (hm : i64 m) (h : Lib.itoa n = Lib.itoa m) : n = m := by
 rw [show_itoa hn.1 hn.2, show_itoa hm.1 hm.2] at h
 have h2 := (show_ok (i64_show hn)).2
 have h3 := (show_ok (i64_show hm)).2
 rw [h, h3] at h2
 exact h2.symm
theorem bool_del (c : Bool) : ∀ x ∈ boolS c, delB x = false := by cases c <;> decide
theorem nameN_del {c : UInt8} (h : nameN c.toNat = true) : delB c = false := by
 unfold nameN at h
 exact decide_eq_false (by have := of_decide_eq_true h; omega)
theorem nameS_all {s : List UInt8} (h : nameS s = true) : (∀ c ∈ s, nameN c.toNat = true) ∧ 97 ≤ (s.getD 0 0).toNat ∧ (s.getD 0 0).toNat ≤ 122 ∧ s ≠ [] := by
 unfold nameS at h
 rw [Bool.and_eq_true, decide_eq_true_eq, List.all_eq_true] at h
 exact ⟨h.2, h.1.2.2.1, h.1.2.2.2, h.1.1⟩
theorem num_last {s : List UInt8} (h : checkS s = 0) : ∃ c, s.getLast? = some c ∧ 48 ≤ c.toNat ∧ c.toNat ≤ 57 := by
 obtain ⟨h1, -, h3⟩ := check_digits h
 have key : ∀ c ∈ bodyS s, 48 ≤ c.toNat ∧ c.toNat ≤ 57 := fun c hc => by
  have := List.all_eq_true.1 h1 c hc
  unfold isD at this
  rwa [Bool.and_eq_true, decide_eq_true_eq, decide_eq_true_eq] at this
 cases hb : (bodyS s).getLast? with
 | none => rw [List.getLast?_eq_none_iff] at hb; exact absurd hb h3
 | some c =>
  refine ⟨c, ?_, key c (List.mem_of_getLast? hb)⟩
  unfold bodyS at hb
  by_cases h45 : s.head? = some 45
  ·rw [if_pos h45] at hb
   obtain ⟨r, rfl⟩ := List.head?_eq_some_iff.1 h45
   rw [List.drop_one, List.tail_cons] at hb
   cases r with
   | nil => cases hb
   | cons x r => rw [List.getLast?_cons_cons]; exact hb
  ·rw [if_neg h45] at hb; exact hb
theorem num_head {s : List UInt8} (h : checkS s = 0) : ∃ c, s.head? = some c ∧ c.toNat ≤ 57 := by
 obtain ⟨c, hc, -⟩ := num_last h
 cases s with
 | nil => cases hc
 | cons x r =>
  refine ⟨x, rfl, ?_⟩
  have := num_chars h x (List.mem_cons_self ..)
  omega
theorem int_big {s t : List UInt8} (h : checkS s = 0) : s ≠ t ++ [98] := fun e => by
 obtain ⟨c, hc, h1, h2⟩ := num_last h
 rw [e, List.getLast?_append] at hc
 cases hc
 revert h2; decide
def tkH (h : VH) : List UInt8 := if h.k = 1 then boolS (decide (h.n = 1)) else if h.k = 2 then Lib.itoa h.n else if h.k = 3 then h.s ++ [98] else h.s
theorem head_bool (c : Bool) : ∃ x, (boolS c).head? = some x ∧ 97 ≤ x.toNat := by cases c <;> exact ⟨_, rfl, by decide⟩
theorem name_head {h : VH} {n : Nat} (hk : h.k = 6) (f : formH h n = true) : ∃ x, h.s.head? = some x ∧ 97 ≤ x.toNat := by
 unfold formH at f
 rw [if_neg (by omega), if_neg (by omega), if_neg (by omega), if_neg (by omega), if_neg (by omega), if_pos hk, Bool.and_eq_true, Bool.and_eq_true] at f
 obtain ⟨-, h1, -, h4⟩ := nameS_all f.2.1
 have h2 := (nameS_all f.2.1).2.1
 cases hs : h.s with
 | nil => rw [hs] at h4; exact absurd (by unfold De.cutA; simp) h4
 | cons x r =>
  refine ⟨x, rfl, ?_⟩
  rw [hs] at h2 h4
  unfold De.cutA at h2 h4
  split at h2
  ·rename_i h9
   rw [if_pos h9] at h4
   cases ht : (cutI (x :: r)).toNat with
   | zero => rw [ht] at h4; exact absurd rfl h4
   | succ m => rw [ht] at h2; exact h2
  ·exact h2
theorem itoa_head {n : Int} (h : i64 n) : ∃ c, (Lib.itoa n).head? = some c ∧ c.toNat ≤ 57 := by
 rw [show_itoa h.1 h.2]
 exact num_head (show_ok (i64_show h)).1
theorem big_head {s : List UInt8} (h : checkS s = 0) : ∃ c, (s ++ [98]).head? = some c ∧ c.toNat ≤ 57 := by
 obtain ⟨c, hc, h1⟩ := num_head h
 cases s with
 | nil => cases hc
 | cons x r => exact ⟨c, hc, h1⟩
theorem heads_ne {s t : List UInt8} {x y : UInt8} (hx : s.head? = some x) (hy : t.head? = some y) (h : x.toNat ≤ 57) (h2 : 97 ≤ y.toNat) : s ≠ t := fun e => by
 rw [e, hy] at hx
 cases hx
 omega
theorem big_f {h : VH} {n : Nat} (hk : h.k = 3) (f : formH h n = true) : h.n = 0 := by
 unfold formH at f
 rw [if_neg (by omega), if_neg (by omega), if_pos hk, Bool.and_eq_true, decide_eq_true_eq] at f
 exact f.2.1
theorem int_f {h : VH} {n : Nat} (hk : h.k = 2) (f : formH h n = true) : h.s = [] := by
 unfold formH at f
 rw [if_neg (by omega), if_pos hk, decide_eq_true_eq] at f
 exact f.1
theorem bool_f {h : VH} {n : Nat} (hk : h.k = 1) (f : formH h n = true) : (h.n = 0 ∨ h.n = 1) ∧ h.s = [] := by
 unfold formH at f
 rw [if_pos hk, decide_eq_true_eq] at f
 exact ⟨f.1, f.2.1⟩
theorem name_f {h : VH} {n : Nat} (hk : h.k = 6) (f : formH h n = true) : h.n = 0 ∧ h.s ≠ sTrue ∧ h.s ≠ sFalse := by
 unfold formH at f
 rw [if_neg (by omega), if_neg (by omega), if_neg (by omega), if_neg (by omega), if_neg (by omega), if_pos hk, Bool.and_eq_true, Bool.and_eq_true, decide_eq_true_eq] at f
 refine ⟨f.1, fun e => ?_, fun e => ?_⟩
 ·have := f.2.2
  rw [e] at this
  revert this; decide
 ·have := f.2.2
  rw [e] at this
  revert this; decide
theorem bool_inj {c d : Bool} (h : boolS c = boolS d) : c = d := by cases c <;> cases d <;> first | rfl | (revert h; decide)
theorem name_bool {h : VH} {n : Nat} (hk : h.k = 6) (f : formH h n = true) (c : Bool) : h.s ≠ boolS c := fun e => by
 obtain ⟨-, h1, h2⟩ := name_f hk f
 cases c
 ·exact h2 e
 ·exact h1 e
theorem vh_ext {h g : VH} (h1 : h.k = g.k) (h2 : h.n = g.n) (h3 : h.s = g.s) : h = g := by
 cases h; cases g; simp only at *; subst h1; subst h2; subst h3; rfl
def plainK (k : Nat) : Prop := k = 1 ∨ k = 2 ∨ k = 3 ∨ k = 6
theorem tk_inj {h g : VH} {n m : Nat} (oh : OkH h n) (og : OkH g m) (ph : plainK h.k) (pg : plainK g.k) (e : tkH h = tkH g) : h = g := by
 have low : ∀ {v : VH} {n : Nat}, OkH v n → (v.k = 2 ∨ v.k = 3) → ∃ c, (tkH v).head? = some c ∧ c.toNat ≤ 57 := by
  intro v n o hk
  unfold tkH
  rcases hk with hk | hk
  ·rw [if_neg (by omega), if_pos hk]; exact itoa_head o.i
  ·rw [if_neg (by omega), if_neg (by omega), if_pos hk]; exact big_head (o.b hk)
 have high : ∀ {v : VH} {n : Nat}, OkH v n → (v.k = 1 ∨ v.k = 6) → ∃ c, (tkH v).head? = some c ∧ 97 ≤ c.toNat := by
  intro v n o hk
  unfold tkH
  rcases hk with hk | hk
  ·rw [if_pos hk]; exact head_bool _
  ·rw [if_neg (by omega), if_neg (by omega), if_neg (by omega)]; exact name_head hk o.f
 have t1 : ∀ {v : VH}, v.k = 1 → tkH v = boolS (decide (v.n = 1)) := fun hk => by unfold tkH; rw [if_pos hk]
 have t2 : ∀ {v : VH}, v.k = 2 → tkH v = Lib.itoa v.n := fun hk => by unfold tkH; rw [if_neg (by omega), if_pos hk]
 have t3 : ∀ {v : VH}, v.k = 3 → tkH v = v.s ++ [98] := fun hk => by unfold tkH; rw [if_neg (by omega), if_neg (by omega), if_pos hk]
 have t6 : ∀ {v : VH}, v.k = 6 → tkH v = v.s := fun hk => by unfold tkH; rw [if_neg (by omega), if_neg (by omega), if_neg (by omega)]
 have cross : ∀ {v w : VH} {n m : Nat}, OkH v n → OkH w m → (v.k = 2 ∨ v.k = 3) → (w.k = 1 ∨ w.k = 6) → tkH v ≠ tkH w := by
  intro v w n m ov ow hv hw
  obtain ⟨x, hx, hx2⟩ := low ov hv
  obtain ⟨y, hy, hy2⟩ := high ow hw
  exact heads_ne hx hy hx2 hy2
 rcases ph with hk | hk | hk | hk <;> rcases pg with gk | gk | gk | gk
 ·rw [t1 hk, t1 gk] at e
  have e2 := bool_inj e
  obtain ⟨b1, s1⟩ := bool_f hk oh.f
  obtain ⟨b2, s2⟩ := bool_f gk og.f
  refine vh_ext (by omega) ?_ (by rw [s1, s2])
  by_cases h1 : h.n = 1
  ·rw [decide_eq_true h1] at e2
   rw [h1, of_decide_eq_true e2.symm]
  ·rw [decide_eq_false h1] at e2
   have := of_decide_eq_false e2.symm
   omega
 ·exact absurd e.symm (cross og oh (.inl gk) (.inl hk))
 ·exact absurd e.symm (cross og oh (.inr gk) (.inl hk))
 ·rw [t1 hk, t6 gk] at e; exact absurd e.symm (name_bool gk og.f _)
 ·exact absurd e (cross oh og (.inl hk) (.inl gk))
 ·rw [t2 hk, t2 gk] at e
  exact vh_ext (by omega) (itoa_inj oh.i og.i e) (by rw [int_f hk oh.f, int_f gk og.f])
 ·rw [t2 hk, t3 gk, show_itoa oh.i.1 oh.i.2] at e
  exact absurd e (int_big (show_ok (i64_show oh.i)).1)
 ·exact absurd e (cross oh og (.inl hk) (.inr gk))
 ·exact absurd e (cross oh og (.inr hk) (.inl gk))
 ·rw [t3 hk, t2 gk, show_itoa og.i.1 og.i.2] at e
  exact absurd e.symm (int_big (show_ok (i64_show og.i)).1)
 ·rw [t3 hk, t3 gk] at e
  exact vh_ext (by omega) (by rw [big_f hk oh.f, big_f gk og.f]) (List.append_cancel_right e)
 ·exact absurd e (cross oh og (.inr hk) (.inr gk))
 ·rw [t6 hk, t1 gk] at e; exact absurd e (name_bool hk oh.f _)
 ·exact absurd e.symm (cross og oh (.inl gk) (.inr hk))
 ·exact absurd e.symm (cross og oh (.inr gk) (.inr hk))
 ·rw [t6 hk, t6 gk] at e
  exact vh_ext (by omega) (by rw [(name_f hk oh.f).1, (name_f gk og.f).1]) e
end Go.Proofs.YtbhipiepfclneaaGreatDoor
