/- Walks. -/
import Derived.Test.YtgefmjghdijbfaaGreatDoorQ12
import Derived.Test.YtgefmjghdijbfaaGreatDoorKEvalValuesUpto02
import Derived.Test.YtgefmjghdijbfaaGreatDoorKEvalValuesUpto04
import Derived.ScopeJumps
set_option maxHeartbeats 32000000
set_option maxRecDepth 20000
namespace Go.Proofs.YtgefmjghdijbfaaGreatDoor
open Go Go.Wk Go.Un Go.De
set_option linter.unusedSimpArgs false
set_option linter.unusedVariables false
attribute [local irreducible] Go.wpList Go.Code.wp Go.wpStill Go.Wk.wpPre Go.bodyPost Go.Calls Go.Wk.Ct Go.Wk.OwnS Go.Wk.wpG Go.Wk.wpM
section
variable {α : Type} [DecidableEq α] {P : Program} {n : Sz} {L : List (Nat × Value)} {w0 : World} {F0 : Heap} {K0 : List Nat} {F : Heap} {G : List Grp} {a : Act} {w : World} {ops : Array Oper} {Q : Exit → Act → World → Prop} {rest : List Oper} {o : Oper}
open Classical in
theorem wpc_scope {c rest : Code} (l : Nat) (J : Nat → Act → World → Prop) (hf : findLabel c l = some (.seq .skip rest))
  (first : (∀ m a w, J m a w → rest.wp P (Exit.jump l (fun a w => ∃ m, J m a w) Q) a w) → c.wp P (Exit.jump l (fun a w => ∃ m, J m a w) Q) a w)
  (pass : ∀ m a w, J m a w → rest.wp P (Exit.jump l (fun a' w' => ∃ m', m' < m ∧ J m' a' w') Q) a w) : (Code.scope c).wp P Q a w := by
 let μ : Act → World → Nat := fun a w => if h : ∃ m, J m a w then Classical.choose (least h) else 0
 refine wp_scope_jumps l (fun a w => ∃ m, J m a w) μ hf (first fun m a w h => wp_mono (pass m a w h) fun e a' w' h' => ?_) fun a w hJ => ?_
 ·cases e <;> try exact h'
  obtain ⟨rfl, m', _, hJ'⟩ := h'
  exact ⟨rfl, m', hJ'⟩
 ·have hμ : J (μ a w) a w := by simp only [μ, dif_pos hJ]; exact (Classical.choose_spec (least hJ)).1
  refine wp_mono (wp_seq (wp_skip (show rest.wp P _ a w from pass _ a w hμ))) fun e a' w' h => ?_
  cases e <;> try exact h
  obtain ⟨rfl, m', hm, hJ'⟩ := h
  refine ⟨rfl, ⟨m', hJ'⟩, ?_⟩
  have : μ a' w' ≤ m' := by
   have hex : ∃ m, J m a' w' := ⟨m', hJ'⟩
   simp only [μ, dif_pos hex]
   exact (Classical.choose_spec (least hex)).2 m' hJ'
  omega
end
def HasD (b6 b5 mb : Nat) (es : List (List UInt8 × Value)) (k : List (List UInt8)) (m : Nat) : Prop := ∀ (F : Heap) (nm : List UInt8) (ar : Fo) (cs : List Value), ar.size < m → HasM F b6 b5 mb es k → TyC F cs nm ar →
 Ct Tryz.prog 176 ([] ++ [.agg ⟨cs⟩] ++ [.pointer (some ⟨b6, 0, none⟩), .pointer (some ⟨b5, 0, none⟩)]) F [] (fun _ _ u => u = .bool (hasT k (nm, ar)))
theorem full11Ct (b6 b5 mb : Nat) (es : List (List UInt8 × Value)) (k : List (List UInt8)) (m : Nat) (ih : HasD b6 b5 mb es k m) (F : Heap) (hM : HasM F b6 b5 mb es k) (nm : List UInt8) (ar : Fo) (v1 : Value) (hm : ar.size < m) (hs : SlF F v1 ar) :
  Ct Tryz.prog 178 ([] ++ [.agg ⟨[.string (bs nm), v1]⟩] ++ [.pointer (some ⟨b6, 0, none⟩)]) F [] (fun _ _ u => u = .bool (!hasT k (nm, ar))) := by
 have hs0 := hs
 obtain ⟨ao, cap, rfl, -, -⟩ := hs
 have hc6 := hM.c6
 refine Ct.enter Tryz.func178 rfl Tryz.ntmps178 rfl fun w0 a S => ?_
 refine wp_sr fun Z hZ => ?_
 (refine wbx S ?_; clear S a; intro b2 a w S)
 (revert S a; revert hZ Z; refine go 4 ?_; intro Z hZ a S)
 (refine wv S (sv_loadF S rfl rfl hc6) ?_; clear S a; intro a S)
 (revert S a; refine go 1 ?_; intro a S)
 (refine wc0 S (ih F nm ar _ hm hM ⟨_, rfl, hs0⟩) ?_; clear S a; intro v a w hv S; subst hv)
 (revert S a; revert hZ Z; refine go 4 ?_; intro a S)
 refine wp_ret (fr1 S Tryz.results178 ?_)
 rfl
theorem zzDeN0 {p : Prop} (h : p := by (congr 1; unfold hasT; first | (have htu : (nm, ar).1 = sTuple := (by assumption); rw [if_pos htu]; simp; done) | (have htu : ¬ (nm, ar).1 = sTuple := (by assumption); rw [if_neg htu]; first | (have hp : ¬ (nm, ar).1 ∈ k := (by rw [← List.count_pos_iff]; show ¬ 0 < k.count nm; omega); rw [decide_eq_false hp, Bool.false_or]) | (have hp : (nm, ar).1 ∈ k := (by rw [← List.count_pos_iff]; show 0 < k.count nm; omega); rw [decide_eq_true hp, Bool.true_or])) | trace_state)) : p := h
theorem hasCt (b6 b5 mb : Nat) (es : List (List UInt8 × Value)) (k : List (List UInt8)) : ∀ m, HasD b6 b5 mb es k m := by
 intro m
 induction m with
 | zero => intro F nm ar cs hm; omega
 | succ m ih =>
 intro F nm ar cs hm hM hT
 obtain ⟨v, rfl, hs⟩ := hT
 have hs0 := hs
 obtain ⟨ao, cap, rfl, -, -⟩ := hs
 have hc5 := hM.c5
 have hmb := hM.m
 have hE := hM.e
 refine Ct.enter Tryz.func176 rfl Tryz.ntmps176 rfl fun w0 a S => ?_
 refine wp_sr fun Z hZ => ?_
 (refine wbx S ?_; clear S a; intro b3 a w S)
 (revert S a; revert hZ Z; refine go 10 ?_; intro Z hZ a S)
 refine wpc_sp S rfl ?_ ?_ <;> intro h
 ·(revert S a; refine go 4 ?_; intro Z hZ a S)
  (refine wc0 S (containsTCt F ar _ hs0 178 [] [.pointer (some ⟨b6, 0, none⟩)] (fun y => !hasT k y) (fun j x v1 hx hs1 => full11Ct b6 b5 mb es k m ih F hM x.1 x.2 v1 (by have := Fo.size_get hx; omega) hs1)) ?_; clear S a; intro v a w hv S; subst hv; rw [any_has] at S)
  (revert S a; revert hZ Z; refine go 4 ?_; intro a S)
  refine wp_ret (fr1 S Tryz.results176 ?_)
  exact zzDeN0
 (revert S a; revert hZ Z; refine go 3 ?_; intro Z hZ a S)
 (refine wv S (sv_loadF S rfl rfl hc5) ?_; clear S a; intro a S)
 (revert S a; refine go 2 ?_; intro a S)
 (refine wv S (sv_lookupF (enc := kS) S rfl rfl rfl hmb) ?_; clear S a; intro a S)
 (rw [if_neg (by decide), hE nm] at S)
 (revert S a; refine go 2 ?_; intro a S)
 refine wgd S ?_ ?_
 ·(clear S; intro h S)
  (revert S a; refine go 4 ?_; intro a S)
  (refine wc0 S (paramCt F nm) ?_; clear S a; intro v a w hv S; subst hv)
  (revert S a; revert hZ Z; refine go 4 ?_; intro a S)
  refine wp_ret (fr1 S Tryz.results176 ?_)
  exact zzDeN0
 (clear S a; intro h a S)
 (revert S a; revert hZ Z; refine go 6 ?_; intro a S)
 refine wp_ret (fr1 S Tryz.results176 ?_)
 exact zzDeN0
theorem full2Ct (b6 b5 mb : Nat) (es : List (List UInt8 × Value)) (k : List (List UInt8)) (F : Heap) (hM : HasM F b6 b5 mb es k) (x : FD) (cs : List Value) (hR : FdR F x cs) :
  Ct Tryz.prog 179 ([] ++ [.agg ⟨cs⟩] ++ [.pointer (some ⟨b6, 0, none⟩)]) F [] (fun _ G' u => u = .bool (!hasT k (x.tn, x.ta)) ∧ G' = []) := by
 refine ct_nil ?_
 obtain ⟨v, rfl, hs⟩ := hR
 have hs0 := hs
 obtain ⟨ao, cap, rfl, -, -⟩ := hs
 have hc6 := hM.c6
 refine Ct.enter Tryz.func179 rfl Tryz.ntmps179 rfl fun w0 a S => ?_
 refine wp_sr fun Z hZ => ?_
 (refine wbx S ?_; clear S a; intro b2 a w S)
 (revert S a; revert hZ Z; refine go 4 ?_; intro Z hZ a S)
 (refine wv S (sv_loadF S rfl rfl hc6) ?_; clear S a; intro a S)
 (revert S a; refine go 2 ?_; intro a S)
 (refine wc0 S (hasCt b6 b5 mb es k (x.ta.size + 1) F x.tn x.ta _ (Nat.lt_succ_self _) hM ⟨_, rfl, hs0⟩) ?_; clear S a; intro v a w hv S; subst hv)
 (revert S a; revert hZ Z; refine go 4 ?_; intro a S)
 refine wp_ret (fr1 S Tryz.results179 ?_)
 rfl
theorem cnt0 : CntE (mSet (mSet (mSet (mSet [] sBool (.int .i64 1)) sInt (.int .i64 1)) sBig (.int .i64 1)) sText (.int .i64 1)) full0 := by
 have h0 : CntE [] [] := fun nm => rfl
 exact (((h0.set sBool).set sInt).set sBig).set sText
theorem zzDeN1 {p : Prop} (h : p := by (have hxx : x.nm ∉ k → tyOK k x = false := (by first | (intro h8; have h9 := hcn; unfold tyOK; rw [List.any_eq_false]; intro c hc; obtain ⟨jj, hjj⟩ := List.mem_iff_getElem?.1 hc; have hjl := (List.getElem?_eq_some_iff.1 hjj).1; rw [hcn jj c (by omega) hjj]; decide) | (intro h8; exfalso; rw [← List.count_pos_iff] at h8; omega)); rw [← hao] at S; replace S := S.drop1; refine ⟨l.length - (i + 1), by omega, i + 1, rfl, by omega, ?_, ?_⟩; rotate_left 1; (refine S.keep ?_; exact zk); intro j z h7 h8; rcases Nat.lt_or_eq_of_le (Nat.le_of_lt_succ h7) with h6 | h6; exact hcl j z h6 h8; subst h6; rw [hx] at h8; cases h8; exact hxx)) : p := h
theorem zzDeN2 {p : Prop} (h : p := by (have hclosed : Closed l k := (by intro x hx hn; obtain ⟨j, hj⟩ := List.mem_iff_getElem?.1 hx; have hjl := (List.getElem?_eq_some_iff.1 hj).1; exact hcl j x (by omega) hj hn); rw [fullE_of hR hclosed]; first | (rw [if_pos (by rw [List.all_eq_true]; intro x hx; obtain ⟨j, hj⟩ := List.mem_iff_getElem?.1 hx; have hjl := (List.getElem?_eq_some_iff.1 hj).1; exact decide_eq_true (hall j x (by omega) hj))]; exact errV_0) | (have hxx : x.nm ∉ k := (by rw [← List.count_pos_iff]; omega); rw [if_neg (by rw [List.all_eq_true]; intro h9; have := of_decide_eq_true (h9 x (List.mem_of_getElem? hx)); exact hxx this)]; exact errV_of (by decide)) | trace_state)) : p := h
theorem fullCt (F : Heap) (tbv : Value) (l : List TD) (v : Value) (h : LiM F 6 TdR v l) :
  Ct Tryz.prog 141 [tbv, v] F [] (fun _ _ u => ErrV (fullE l) u) := by
 obtain ⟨ao, cap, rfl, hcap, hpos⟩ := h
 refine Ct.enter Tryz.func141 rfl Tryz.ntmps141 rfl fun w0 a S => ?_
 (revert S a; refine go 4 ?_; intro a S)
 refine wpc_scope 0 (fun m a w' => ∃ (k : List (List UInt8)) (es : List (List UInt8 × Value)) (mb b5 b6 : Nat) (F2 : Heap), m = leftN l k ∧ Rch l k ∧ CntE es k ∧ (∀ b o, F b = some o → F2 b = some o) ∧ Cel F2 b6 0 (.func (.func 176) ⟨[]⟩ ⟨[.pointer (some ⟨b6, 0, none⟩), .pointer (some ⟨b5, 0, none⟩)]⟩) ∧ Cel F2 b5 0 (.map (some mb)) ∧ St 62 [(1, .slice ao l.length cap), (5, ptr b5), (6, ptr b6)] w0 F [] F2 [[(mb, mObj kS es)]] a w') rfl ?_ ?_
 ·(intro hpass)
  refine wp_sr fun Z hZ => ?_
  (refine wpl_makeMap kS S rfl rfl rfl rfl ?_; clear S a; intro b13 a w S)
  iterate 4 (refine wpl_mapIns (enc := kS) S rfl rfl rfl rfl rfl rfl ?_; clear S; intro w S)
  (revert S a; refine go 1 ?_; intro a S)
  (refine wpl_alloc S rfl rfl rfl rfl ?_; clear S a; intro b5 a w S)
  (refine wpl_store1 S rfl rfl rfl rfl rfl rfl (by first | (simp; done) | (simp [Value.cells]; done) | exact Nat.le_of_ble_eq_true rfl) ?_; clear S; intro w S)
  (revert S a; revert hZ Z; refine go 3 ?_; intro Z hZ a S)
  (refine wpl_alloc S rfl rfl rfl rfl ?_; clear S a; intro b6 a w S)
  (revert S a; revert hZ Z; refine go 4 ?_; intro Z hZ a S)
  (refine wpl_store1 S rfl rfl rfl rfl rfl rfl (by first | (simp; done) | (simp [Value.cells]; done) | exact Nat.le_of_ble_eq_true rfl) ?_; clear S; intro w S)
  (revert S a; revert hZ Z; refine go 2 ?_; intro a S)
  (refine wp_seq_k ?_; intro Z hZ)
  refine wp_label ?_
  (refine hZ _ _ ?_; clear hZ Z)
  (replace S : St _ _ _ _ _ F [[(b6, .cells ⟨[.func (.func 176) ⟨[]⟩ ⟨[.pointer (some ⟨b6, 0, none⟩), .pointer (some ⟨b5, 0, none⟩)]⟩]⟩ 225 (0, 0))], [(b5, .cells ⟨[.map (some b13)]⟩ 256 (0, 0))], [(b13, mObj kS (mSet (mSet (mSet (mSet [] sBool (.int .i64 1)) sInt (.int .i64 1)) sBig (.int .i64 1)) sText (.int .i64 1)))]] _ _ := S; have hle1 := add_le (G1 := []) S; replace S := St.freeze (G1 := []) S; (simp only [List.nil_append] at S hle1); have hb6 : Cel (F.add [(b6, .cells ⟨[.func (.func 176) ⟨[]⟩ ⟨[.pointer (some ⟨b6, 0, none⟩), .pointer (some ⟨b5, 0, none⟩)]⟩]⟩ 225 (0, 0))]) b6 0 (.func (.func 176) ⟨[]⟩ ⟨[.pointer (some ⟨b6, 0, none⟩), .pointer (some ⟨b5, 0, none⟩)]⟩) := ⟨_, _, _, Heap.add_new (p := (b6, _)) (List.mem_singleton.2 rfl) (by simp), rfl⟩; generalize (F.add [(b6, .cells ⟨[.func (.func 176) ⟨[]⟩ ⟨[.pointer (some ⟨b6, 0, none⟩), .pointer (some ⟨b5, 0, none⟩)]⟩]⟩ 225 (0, 0))]) = F1 at S hle1 hb6; have hle2 := add_le (G1 := []) S; replace S := St.freeze (G1 := []) S; (simp only [List.nil_append] at S hle2); have hb5 : Cel (F1.add [(b5, .cells ⟨[.map (some b13)]⟩ 256 (0, 0))]) b5 0 (.map (some b13)) := ⟨_, _, _, Heap.add_new (p := (b5, _)) (List.mem_singleton.2 rfl) (by simp), rfl⟩; generalize (F1.add [(b5, .cells ⟨[.map (some b13)]⟩ 256 (0, 0))]) = F2 at S hle2 hb5; refine hpass _ _ _ ⟨full0, _, b13, b5, b6, F2, rfl, .base, cnt0, fun b o h => hle2 _ _ (hle1 _ _ h), hb6.mono hle2, hb5, ?_⟩; refine S.keep ?_; exact zk)
 (clear S; rintro m a w ⟨k, es, mb, b5, b6, F2, rfl, hR, hE, hF2, hb6, hb5, S⟩)
 (revert S a; refine go 8 ?_; intro Z hZ a S)
 refine wpc_loop (fun m a w' => ∃ (i : Nat), m = l.length - i ∧ i ≤ l.length ∧ (∀ (j : Nat) (x : TD), j < i → l[j]? = some x → x.nm ∉ k → tyOK k x = false) ∧ St 62 [(1, .slice ao l.length cap), (5, ptr b5), (6, ptr b6), (16, .slice ao l.length cap), (17, .int .i64 l.length), (18, .int .i64 i)] w0 F [] F2 [[(mb, mObj kS es)]] a w') ?_ ?_
 ·(refine ⟨l.length, 0, by omega, Nat.zero_le _, fun j x h => absurd h (Nat.not_lt_zero _), ?_⟩; refine S.keep ?_; exact zk)
 (clear S; rintro m a w ⟨i, rfl, hil, hcl, S⟩; have hle : ∀ b o, F2 b = some o → (F2.add [(mb, mObj kS es)]) b = some o := add_le (G1 := []) S; have hmadd : (F2.add [(mb, mObj kS es)]) mb = some (mObj kS es) := Heap.add_new (p := (mb, _)) (List.mem_singleton.2 rfl) (by simp))
 (revert S a; refine go 5 ?_; intro Z hZ a S)
 refine wpc_sp S rfl ?_ ?_ <;> intro h
 ·(revert S a; revert hZ Z; refine go 4 ?_; intro Z hZ a S)
  (refine wp_seq_k ?_; intro Z hZ)
  (obtain ⟨b9, o9, hao, x, cs1, hx, hc1, ⟨w1, w2, rfl, hps, hcs⟩⟩ := LiM.pos hpos (k := i) (by omega); rw [hao] at S; replace hc1 := Cels.mono hF2 hc1; obtain ⟨ap, cp, rfl, -, -⟩ := hps; obtain ⟨ac, cc, rfl, hcc, hposc⟩ := hcs)
  (revert S a; refine go 3 ?_; intro a S)
  (refine wpl_alloc S rfl rfl rfl rfl ?_; clear S a; intro b8 a w S)
  (refine wso S rfl rfl ?_; clear S; intro w S)
  (revert S a; revert hZ Z; refine go 4 ?_; intro Z hZ Z hZ a S)
  (refine wv S (sv_loadF S rfl rfl hb5) ?_; clear S a; intro a S)
  (revert S a; refine go 2 ?_; intro a S)
  (refine wv S (sv_lookupO (enc := kS) S rfl rfl rfl) ?_; clear S a; intro a S)
  (rw [if_neg (by decide), hE x.nm] at S)
  (revert S a; revert hZ Z; refine go 3 ?_; intro a S)
  refine wpc_sp S rfl ?_ ?_ <;> intro h
  ·(refine wp_exit ?_; conv => whnf)
   clear hZ Z
   (revert S a; revert hZ Z; refine go 5 ?_; intro a S)
   change ∃ m', _ ∧ _
   exact zzDeN1
  refine wp_skip ?_
  (refine hZ _ _ ?_; clear hZ Z)
  (refine wp_seq_k ?_; intro Z hZ)
  (have hnk : x.nm ∉ k := (by rw [← List.count_pos_iff]; omega))
  (revert S a; revert hZ Z; refine go 8 ?_; intro a S)
  refine wpc_loop (fun m a w' => ∃ (i2 : Nat), m = x.cs.length - i2 ∧ i2 ≤ x.cs.length ∧ (∀ (j : Nat) (c : CD), j < i2 → x.cs[j]? = some c → consOK k c = false) ∧ St 62 [(1, .slice (some ⟨b9, o9, none⟩) l.length cap), (5, ptr b5), (6, ptr b6), (8, ptr b8), (16, .slice (some ⟨b9, o9, none⟩) l.length cap), (17, .int .i64 l.length), (18, .int .i64 i), (28, .slice ac x.cs.length cc), (29, .int .i64 x.cs.length), (30, .int .i64 i2)] w0 F [] F2 [[(b8, .cells ⟨[.int .i64 x.l, .int .i64 x.c, .bool x.pub, .string (bs x.nm), .slice ap x.ps.length cp, .slice ac x.cs.length cc]⟩ 97 (0, 0))], [(mb, mObj kS es)]] a w') ?_ ?_
  ·(refine ⟨x.cs.length, 0, by omega, Nat.zero_le _, fun j c h => absurd h (Nat.not_lt_zero _), ?_⟩; refine S.keep ?_; exact zk)
  (clear S; rintro m a w ⟨i2, rfl, hil2, hcn, S⟩)
  (revert S a; refine go 5 ?_; intro Z hZ a S)
  refine wpc_sp S rfl ?_ ?_ <;> intro h
  ·(revert S a; revert hZ Z; refine go 4 ?_; intro Z hZ a S)
   (refine wp_seq_k ?_; intro Z hZ)
   (obtain ⟨b11, o11, hao2, y, cs2, hy, hd1, ⟨w3, rfl, hfs⟩⟩ := LiM.pos hposc (k := i2) (by omega); rw [hao2] at S; replace hd1 := Cels.mono hF2 hd1; replace hfs := hfs.mono hF2; have hfsc := hfs; obtain ⟨af, cf, rfl, -, -⟩ := hfsc)
   (revert S a; refine go 3 ?_; intro a S)
   (refine wpl_alloc S rfl rfl rfl rfl ?_; clear S a; intro b10 a w S)
   (refine wso S rfl rfl ?_; clear S; intro w S)
   (revert S a; revert hZ Z; refine go 6 ?_; intro Z hZ a S)
   (refine wpl_callOwn (Gs := [[(mb, mObj kS es)]]) (Gr := [[(b10, _)], [(b8, _)]]) S rfl rfl rfl rfl rfl rfl (Ct.lend (containsDCt (F2.add [(mb, mObj kS es)]) y.fs _ (hfs.mono hle) 179 [] [.pointer (some ⟨b6, 0, none⟩)] (fun _ x => !hasT k (x.tn, x.ta)) (fun _ G => G = []) [] rfl (fun j z cs1 G9 hz hzR hG => by subst hG; exact full2Ct b6 b5 mb es k _ ⟨hb6.mono hle, hb5.mono hle, hmadd, hE⟩ z cs1 hzR))) rfl (by exact List.perm_append_comm (l₁ := [_, _]) (l₂ := [_])) ?_; clear S a; intro u9 G9 a w hv S; obtain ⟨rfl, rfl⟩ := hv; rw [anyP_has] at S; replace S : St _ _ _ _ _ F2 [[(b10, _)], [(b8, _)], [(mb, mObj kS es)]] _ _ := St.permI S 3 rfl [1, 2, 0] (by decide))
   (revert S a; revert hZ Z; refine go 3 ?_; intro a S)
   refine wpc_sp S rfl ?_ ?_ <;> intro h
   ·refine wp_sr fun Z hZ => ?_
    (refine wv S (sv_loadF S rfl rfl hb5) ?_; clear S a; intro a S)
    (revert S a; refine go 2 ?_; intro a S)
    (refine wv S (sv_lookupO (enc := kS) S rfl rfl rfl) ?_; clear S a; intro a S)
    (rw [if_neg (by decide), hE x.nm] at S)
    (revert S a; refine go 1 ?_; intro a S)
    (rw [show (((k.count x.nm : Nat) : Int) + 1) = ((k.count x.nm + 1 : Nat) : Int) from rfl] at S)
    (refine wpl_mapSet (enc := kS) S rfl rfl rfl rfl rfl rfl ?_; clear S; intro w S)
    (revert S a; revert hZ Z; refine go 2 ?_; intro a S)
    refine wp_goto ?_
    change _ ∧ ∃ m', _ ∧ _
    (have hok : consOK k y = true := (by assumption); have hto : tyOK k x = true := List.any_eq_true.2 ⟨y, List.mem_of_getElem? hy, hok⟩; have hmem := List.mem_of_getElem? hx; rw [← hao] at S; replace S := S.drop1.drop1; refine ⟨rfl, leftN l (k ++ [x.nm]), leftN_step hmem hnk, k ++ [x.nm], _, mb, b5, b6, F2, rfl, .step hR hmem hnk hto, hE.set x.nm, hF2, hb6, hb5, ?_⟩; refine S.keep ?_; exact zk)
   (revert S a; revert hZ Z; refine go 6 ?_; intro a S)
   change ∃ m', _ ∧ _
   (rw [← hao2] at S; replace S := S.drop1; refine ⟨x.cs.length - (i2 + 1), by omega, i2 + 1, rfl, by omega, ?_, ?_⟩; rotate_left 1; (refine S.keep ?_; exact zk); intro j z h7 h8; rcases Nat.lt_or_eq_of_le (Nat.le_of_lt_succ h7) with h6 | h6; exact hcn j z h6 h8; subst h6; rw [hy] at h8; cases h8; have hno : consOK k y = false := (by assumption); exact hno)
  (refine wp_exit ?_; conv => whnf)
  clear hZ Z
  (revert S a; revert hZ Z; refine go 5 ?_; intro a S)
  change ∃ m', _ ∧ _
  exact zzDeN1
 (refine wp_exit ?_; conv => whnf)
 clear hZ Z
 (revert S a; revert hZ Z; refine go 9 ?_; intro Z hZ a S)
 refine wpc_loop (fun m a w' => ∃ (i : Nat), m = l.length - i ∧ i ≤ l.length ∧ (∀ (j : Nat) (x : TD), j < i → l[j]? = some x → x.nm ∈ k) ∧ St 62 [(5, ptr b5), (46, .slice ao l.length cap), (47, .int .i64 l.length), (48, .int .i64 i)] w0 F [] F2 [[(mb, mObj kS es)]] a w') ?_ ?_
 ·(have hclosed : Closed l k := (by intro x hx hn; obtain ⟨j, hj⟩ := List.mem_iff_getElem?.1 hx; have hjl := (List.getElem?_eq_some_iff.1 hj).1; exact hcl j x (by omega) hj hn); refine ⟨l.length, 0, by omega, Nat.zero_le _, fun j x h => absurd h (Nat.not_lt_zero _), ?_⟩; refine S.keep ?_; exact zk)
 (clear S; rintro m a w ⟨i, rfl, hil, hall, S⟩)
 (revert S a; refine go 5 ?_; intro Z hZ a S)
 refine wpc_sp S rfl ?_ ?_ <;> intro h
 ·(revert S a; revert hZ Z; refine go 4 ?_; intro Z hZ a S)
  (refine wp_seq_k ?_; intro Z hZ)
  (obtain ⟨b9, o9, hao, x, cs1, hx, hc1, ⟨w1, w2, rfl, hps, hcs⟩⟩ := LiM.pos hpos (k := i) (by omega); rw [hao] at S; replace hc1 := Cels.mono hF2 hc1; obtain ⟨ap, cp, rfl, -, -⟩ := hps; obtain ⟨ac, cc, rfl, hcc, hposc⟩ := hcs)
  (revert S a; refine go 3 ?_; intro a S)
  (refine wpl_alloc S rfl rfl rfl rfl ?_; clear S a; intro b12 a w S)
  (refine wso S rfl rfl ?_; clear S; intro w S)
  (revert S a; revert hZ Z; refine go 3 ?_; intro Z hZ a S)
  (refine wv S (sv_loadF S rfl rfl hb5) ?_; clear S a; intro a S)
  (revert S a; refine go 2 ?_; intro a S)
  (refine wv S (sv_lookupO (enc := kS) S rfl rfl rfl) ?_; clear S a; intro a S)
  (rw [if_neg (by decide), hE x.nm] at S)
  (revert S a; revert hZ Z; refine go 3 ?_; intro a S)
  refine wpc_sp S rfl ?_ ?_ <;> intro h
  ·(revert S a; refine go 8 ?_; intro a S)
   refine wp_ret ?_
   change bodyPost _ _ _ _ _ _
   refine fin_ret S (results1 Tryz.results141 (RV.tmp S rfl)) ?_
   exact zzDeN2
  (revert S a; revert hZ Z; refine go 6 ?_; intro a S)
  change ∃ m', _ ∧ _
  (have hxx : x.nm ∈ k := (by rw [← List.count_pos_iff]; omega); rw [← hao] at S; replace S := S.drop1; refine ⟨l.length - (i + 1), by omega, i + 1, rfl, by omega, ?_, ?_⟩; rotate_left 1; (refine S.keep ?_; exact zk); intro j z h7 h8; rcases Nat.lt_or_eq_of_le (Nat.le_of_lt_succ h7) with h6 | h6; exact hall j z h6 h8; subst h6; rw [hx] at h8; cases h8; exact hxx)
 (refine wp_exit ?_; conv => whnf)
 clear hZ Z
 (revert S a; revert hZ Z; refine go 5 ?_; intro a S)
 refine wp_ret ?_
 change bodyPost _ _ _ _ _ _
 refine fin_ret S (results1 Tryz.results141 (RV.tmp S rfl)) ?_
 exact zzDeN2
theorem typed1Ct (F : Heap) (bx : Nat) (x : TD) (ap : Option Addr) (cp : Nat) (hc : Cel F bx 4 (.slice ap x.ps.length cp)) (hps : LiM F 1 StR (.slice ap x.ps.length cp) x.ps) : CbS F 140 [] [.pointer (some ⟨bx, 0, none⟩)] (fun s => decide (s ∈ x.ps)) := by
 unfold CbS
 intro F' s hF
 replace hc := hc.mono hF
 have hsl := lim_sl (hps.mono hF)
 have hb : x.ps.length ≤ 140737488355328 := by obtain ⟨_, _, e, hb, _⟩ := hps; exact hb.2
 refine Ct.enter Tryz.func140 rfl Tryz.ntmps140 rfl fun w0 a S => ?_
 (revert S a; refine go 6 ?_; intro Z hZ a S)
 (refine wv S (sv_loadF S rfl rfl hc) ?_; clear S a; intro a S)
 (revert S a; refine go 1 ?_; intro a S)
 (refine wc0 S (containsSCt F' x.ps s _ hsl (by omega)) ?_; clear S a; intro v a w hv S; subst hv)
 (revert S a; revert hZ Z; refine go 3 ?_; intro a S)
 refine wp_ret (fr1 S Tryz.results140 ?_)
 rfl
theorem dupE_cons (tn cn : List (List UInt8)) (x : TD) (r : List TD) : dupE tn cn (x :: r) = ((badT tn x || consBad cn x.cs) || dupE (tn ++ [x.nm]) (cn ++ x.cs.map CD.nm) r) := rfl
theorem consBad_cons (cn : List (List UInt8)) (c : CD) (r : List CD) : consBad cn (c :: r) = ((decide (c.nm ∈ cn) || twiceD c.fs) || consBad (cn ++ [c.nm]) r) := rfl
theorem consFE_cons (ts : List TD) (ps : List (List UInt8)) (c : CD) (r : List CD) : consFE ts ps (c :: r) = if fieldsE ts (fun s => decide (s ∈ ps)) c.fs ≠ 0 then fieldsE ts (fun s => decide (s ∈ ps)) c.fs else consFE ts ps r := rfl
theorem typesFE_cons (ts : List TD) (x : TD) (r : List TD) : typesFE ts (x :: r) = if consFE ts x.ps x.cs ≠ 0 then consFE ts x.ps x.cs else typesFE ts r := rfl
def TSz (l : List TD) : Prop := ∀ x ∈ l, x.cs.length ≤ 2000000 ∧ x.ps.length ≤ 2000000 ∧ ∀ c ∈ x.cs, FSz c.fs ∧ c.fs.length ≤ 2000000
theorem zzDeO0 {p : Prop} (h : p := by (first | (have h1 : b = true := (by assumption); have e9 : ((b || decide (y.nm ∈ cl.map KC.nm)) || twiceD y.fs) = true := (by rw [h1]; rfl); rw [e9]; refine ⟨trivial, ?_⟩; (refine S.keep ?_; exact zk); done) | (have h2 : y.nm ∈ cl.map KC.nm := (by assumption); have e9 : ((b || decide (y.nm ∈ cl.map KC.nm)) || twiceD y.fs) = true := (by rw [decide_eq_true h2, Bool.or_true]; rfl); rw [e9]; refine ⟨trivial, ?_⟩; (refine S.keep ?_; exact zk); done) | (have h1 : b = false := (by assumption); have h2 : ¬ y.nm ∈ cl.map KC.nm := (by assumption); have e9 : ((b || decide (y.nm ∈ cl.map KC.nm)) || twiceD y.fs) = twiceD y.fs := (by rw [h1, decide_eq_false h2]; rfl); rw [e9]; refine ⟨trivial, ?_⟩; (refine S.keep ?_; exact zk); done) | trace_state)) : p := h
theorem zzDeO1 {p : Prop} (h : p := by (first | (have hne : fieldsE l (fun s => decide (s ∈ x.ps)) y.fs ≠ 0 := (by first | assumption | simpa using h); have e1 : consFE l x.ps x.cs = fieldsE l (fun s => decide (s ∈ x.ps)) y.fs := (by rw [hce, drop_at hy, consFE_cons, if_pos hne]); have e2 : typesFE l l = fieldsE l (fun s => decide (s ∈ x.ps)) y.fs := (by rw [htf, drop_at hx, typesFE_cons, e1, if_pos hne]); have e9 : typedE l = fieldsE l (fun s => decide (s ∈ x.ps)) y.fs := (by unfold typedE; rw [if_neg (by rw [hdf]; decide), e2, if_pos hne]); rw [e9]; exact ⟨hv, fun h9 => absurd h9 hne⟩) | (have h9 := hTy; have e2 : typesFE l l = 0 := (by rw [htf, List.drop_eq_nil_of_le (by omega)]; rfl); have e9 : typedE l = fullE l := (by unfold typedE; rw [if_neg (by rw [hdf]; decide), if_neg (fun h => h e2)]); rw [e9]; exact ⟨hv, fun _ => ⟨rfl, hMS1.mono hF3, hMS2.mono hF3⟩⟩) | (have hb9 : b = true := (by assumption); have e9 : typedE l = 6 := (by unfold typedE; rw [if_pos (by rw [hdu, drop_at hx, dupE_cons, hcb, hb9, Bool.true_or, Bool.true_or])]); rw [e9]; exact ⟨errV_of (by decide), fun h9 => absurd h9 (by decide)⟩) | trace_state)) : p := h
theorem zzDeO2 {p : Prop} (h : p := by (first | (have h1 : x.nm ∈ (l.take i).map TD.nm := (by assumption); have e9 : badT ((l.take i).map TD.nm) x = true := (by unfold badT; rw [decide_eq_true h1]; rfl); rw [e9]; refine ⟨trivial, ?_⟩; (refine S.keep ?_; exact zk); done) | (have h1 : plainS x.nm = true := (by assumption); have e9 : badT ((l.take i).map TD.nm) x = true := (by unfold badT; rw [h1, Bool.or_true]; rfl); rw [e9]; refine ⟨trivial, ?_⟩; (refine S.keep ?_; exact zk); done) | (have h1 : x.nm = sTuple := (by assumption); have e9 : badT ((l.take i).map TD.nm) x = true := (by unfold badT; rw [decide_eq_true h1, Bool.or_true]; rfl); rw [e9]; refine ⟨trivial, ?_⟩; (refine S.keep ?_; exact zk); done) | (have h1 : ¬ x.nm ∈ (l.take i).map TD.nm := (by assumption); have h2 : plainS x.nm = false := (by assumption); have h3 : ¬ x.nm = sTuple := (by assumption); have e9 : badT ((l.take i).map TD.nm) x = parS x.nm := (by unfold badT; rw [decide_eq_false h1, h2, decide_eq_false h3]; rfl); rw [e9]; refine ⟨trivial, ?_⟩; (refine S.keep ?_; exact zk); done) | trace_state)) : p := h
theorem typedCt (F : Heap) (tb m1 m2 m3 : Nat) (hcc : Cels F tb 0 [.map (some m1), .map (some m2), .map (some m3)]) (l : List TD) (v : Value) (h : LiM F 6 TdR v l) (hsz : TSz l) :
    Ct Tryz.prog 95 [.pointer (some ⟨tb, 0, none⟩), v] F [[(m1, mObj kS [])], [(m2, mObj kS [])]] (fun F' G' u => ErrV (typedE l) u ∧ (typedE l = 0 → G' = [] ∧ MapS F' TdR TD.nm m1 l ∧ MapS F' KcR KC.nm m2 (consOf l))) := by
  have hl0 := h
  obtain ⟨ao, cap, rfl, hcap, hpos⟩ := h
  have hc1 : Cel F tb 0 (.map (some m1)) := hcc 0 _ rfl
  have hc2 : Cel F tb 1 (.map (some m2)) := hcc 1 _ rfl
  refine Ct.enter Tryz.func95 rfl Tryz.ntmps95 rfl fun w0 a S => ?_
  (revert S a; refine go 12 ?_; intro Z hZ a S)
  refine wpc_loop (fun m a w' => ∃ (i : Nat) (es1 es2 : List (List UInt8 × Value)), m = l.length - i ∧ i ≤ l.length ∧ MapM F TdR TD.nm es1 (l.take i) ∧ MapM F KcR KC.nm es2 (consOf (l.take i)) ∧ dupE [] [] l = dupE ((l.take i).map TD.nm) (cnames (l.take i)) (l.drop i) ∧ St 133 [(0, ptr tb), (1, .slice ao l.length cap), (18, .slice ao l.length cap), (19, .int .i64 l.length), (20, .int .i64 i)] w0 F [m1, m2] F [[(m1, mObj kS es1)], [(m2, mObj kS es2)]] a w') ?_ ?_
  · (refine ⟨l.length, 0, [], [], by omega, Nat.zero_le _, trivial, trivial, rfl, ?_⟩; refine S.keep ?_; exact zk)
  (clear S; rintro m a w ⟨i, es1, es2, rfl, hil, hm1, hm2, hdu, S⟩)
  (revert S a; refine go 5 ?_; intro Z hZ a S)
  refine wpc_sp S rfl ?_ ?_ <;> intro h
  · (revert S a; revert hZ Z; refine go 4 ?_; intro Z hZ a S)
    (refine wp_seq_k ?_; intro Z hZ)
    (obtain ⟨bq, oq, hao, x, cs1, hx, hd1, ⟨w1, w2, rfl, hps, hcs⟩⟩ := LiM.pos hpos (k := i) (by omega); rw [hao] at S; have hpsc := hps; have hcsc := hcs; obtain ⟨ap, cp, rfl, -, -⟩ := hpsc; obtain ⟨ac, cc, rfl, hcc9, hposc⟩ := hcsc; have hxsz := hsz x (List.mem_of_getElem? hx); have htk : l.take (i + 1) = l.take i ++ [x] := (by rw [List.take_add_one, hx]; rfl); obtain ⟨l1, hmm1, hl1⟩ := hm1.set (x := x) (cs := [.int .i64 x.l, .int .i64 x.c, .bool x.pub, .string (bs x.nm), .slice ap x.ps.length cp, .slice ac x.cs.length cc]) ⟨_, _, rfl, hps, hcs⟩)
    (revert S a; refine go 3 ?_; intro a S)
    (refine wpl_alloc S rfl rfl rfl rfl ?_; clear S a; intro b6 a w S)
    (refine wso S rfl rfl ?_; clear S; intro w S)
    (revert S a; revert hZ Z; refine go 2 ?_; intro a S)
    (refine wp_seq_k ?_; intro Z hZ)
    (refine wpc_mixM [0, 1, 2, 3, 4, 5, 6, 7, 8, 9] [3, 5, 6] [] (.one 0 (.one 1 (.one 2 (.one 3 (.one 4 (.one 5 (.one 6 (.one 7 (.one 8 (.one 9 (.one 10 (.one 11 (.one 12 .nil))))))))))))) [b6, m1] S mixed (by kernel_rfl) ?_; clear S; intro w S)
    (revert S a; refine go 3 ?_; intro a S)
    (refine wlF S rfl (fun w' S => sv_loadF S rfl rfl hc1) ?_; clear S a; intro a S)
    (revert S a; refine go 2 ?_; intro a S)
    (refine wpm_lateO m1 S rfl rfl rfl (want_none _ rfl) rfl rfl (fun w' S => sv_lookupO (enc := kS) S rfl rfl rfl) ?_; clear S a; intro a S)
    (obtain ⟨yy, ya, yb, yc, yd, hgd, -, -, -, -⟩ := get_td hm1 x.nm; rw [if_pos rfl, hgd, hm1.mem x.nm] at S)
    (revert S a; refine go 4 ?_; intro a S)
    (refine wpl_alloc S rfl rfl rfl rfl ?_; clear S a; intro b7 a w S)
    (revert S a; refine go 2 ?_; intro a S)
    (refine wso S rfl rfl ?_; clear S; intro w S)
    (revert S a; revert hZ Z; refine go 6 ?_; intro a S)
    (refine wp_seq_k ?_; intro Z hZ)
    replace hZ : ∀ (a' : Act) (w' : World), (True ∧ St 133 [(0, ptr tb), (1, .slice (some ⟨bq, oq, none⟩) l.length cap), (6, ptr b6), (8, .bool (badT ((l.take i).map TD.nm) x)), (18, .slice (some ⟨bq, oq, none⟩) l.length cap), (19, .int .i64 l.length), (20, .int .i64 i)] w0 F [m1, m2] F [[(b7, .cells ⟨[.int .i64 yy.l, .int .i64 yy.c, .bool yy.pub, .string (bs yy.nm), .slice ya yy.ps.length yb, .slice yc yy.cs.length yd]⟩ 97 (0, 0))], [(b6, .cells ⟨[.int .i64 x.l, .int .i64 x.c, .bool x.pub, .string (bs x.nm), .slice ap x.ps.length cp, .slice ac x.cs.length cc]⟩ 97 (0, 0))], [(m1, mObj kS es1)], [(m2, mObj kS es2)]] a' w') → Z a' w' := (by
     (intro a w hM; refine hZ _ _ ?_; clear hZ Z; clear S; obtain ⟨-, S⟩ := hM)
     (refine wp_seq_k ?_; intro Z hZ)
     (refine wpc_mixM [0, 1, 2, 3, 4, 5, 6] [3, 5, 6] [] (.one 0 (.one 1 (.one 2 (.one 3 (.one 4 (.one 5 (.one 6 (.one 7 .nil)))))))) [b6] S mixed (by kernel_rfl) ?_; clear S; intro w S)
     (revert S a; refine go 3 ?_; intro a S)
     (refine wlF S rfl (fun w' S => sv_loadF S rfl rfl hc1) ?_; clear S a; intro a S)
     (revert S a; refine go 4 ?_; intro a S)
     (refine wpl_mapSet (enc := kS) S rfl rfl rfl rfl rfl rfl ?_; clear S; intro w S)
     (revert S a; revert hZ Z; refine go 4 ?_; intro Z hZ a S)
     (refine wp_seq_k ?_; intro Z hZ)
     (replace S : St _ _ _ _ _ F [_, _, [(m1, mObj kS (mSet es1 x.nm (.agg ⟨[.int .i64 x.l, .int .i64 x.c, .bool x.pub, .string (bs x.nm), .slice ap x.ps.length cp, .slice ac x.cs.length cc]⟩)))], _] _ _ := S; generalize hes1n : mSet es1 x.nm (.agg ⟨[.int .i64 x.l, .int .i64 x.c, .bool x.pub, .string (bs x.nm), .slice ap x.ps.length cp, .slice ac x.cs.length cc]⟩) = es1n at S hmm1)
     (revert S a; revert hZ Z; refine go 8 ?_; intro a S)
     refine wpc_loop (fun m a w' => ∃ (j : Nat) (b : Bool) (es2 : List (List UInt8 × Value)) (cl : List KC), m = x.cs.length - j ∧ j ≤ x.cs.length ∧ MapM F KcR KC.nm es2 cl ∧ (b = false → cl = consOf (l.take i) ++ consFrom x 0 (x.cs.take j)) ∧ (badT ((l.take i).map TD.nm) x || consBad (cnames (l.take i)) x.cs) = (b || consBad (cnames (l.take i) ++ (x.cs.take j).map CD.nm) (x.cs.drop j)) ∧ St 133 [(0, ptr tb), (1, .slice (some ⟨bq, oq, none⟩) l.length cap), (6, ptr b6), (8, .bool b), (18, .slice (some ⟨bq, oq, none⟩) l.length cap), (19, .int .i64 l.length), (20, .int .i64 i), (58, .slice ac x.cs.length cc), (59, .int .i64 x.cs.length), (60, .int .i64 j)] w0 F [m1, m2] F [[(b7, .cells ⟨[.int .i64 yy.l, .int .i64 yy.c, .bool yy.pub, .string (bs yy.nm), .slice ya yy.ps.length yb, .slice yc yy.cs.length yd]⟩ 97 (0, 0))], [(b6, .cells ⟨[.int .i64 x.l, .int .i64 x.c, .bool x.pub, .string (bs x.nm), .slice ap x.ps.length cp, .slice ac x.cs.length cc]⟩ 97 (0, 0))], [(m1, mObj kS es1n)], [(m2, mObj kS es2)]] a w') ?_ ?_
     · (refine ⟨x.cs.length, 0, badT ((l.take i).map TD.nm) x, es2, consOf (l.take i), by omega, Nat.zero_le _, hm2, fun _ => by simp [consFrom], by simp, ?_⟩; first | ((refine S.keep ?_; exact zk); done) | (have hbd : badT ((l.take i).map TD.nm) x = _ := hbadv; rw [hbd]; refine S.keep ?_; exact zk))
     (clear S; rintro m a w ⟨j, b, es2, cl, rfl, hjl, hm2, hcl, hcb, S⟩)
     (revert S a; refine go 5 ?_; intro Z hZ a S)
     refine wpc_sp S rfl ?_ ?_ <;> intro h
     · (revert S a; revert hZ Z; refine go 4 ?_; intro Z hZ a S)
       (refine wp_seq_k ?_; intro Z hZ)
       (obtain ⟨bp, op, hao2, y, cs2, hy, he1, ⟨w3, rfl, hfs⟩⟩ := LiM.pos hposc (k := j) (by omega); rw [hao2] at S; have hfsc := hfs; obtain ⟨af, cf, rfl, -, -⟩ := hfsc; have hysz := hxsz.2.2 y (List.mem_of_getElem? hy); have htj : x.cs.take (j + 1) = x.cs.take j ++ [y] := (by rw [List.take_add_one, hy]; rfl); obtain ⟨cl2, hmm2, hcl2⟩ := hm2.set (x := (⟨y.nm, x.nm, x.ps, (j : Int), y.fs⟩ : KC)) (cs := [.string (bs x.nm), .slice ap x.ps.length cp, .int .i64 (j : Int), .slice af y.fs.length cf]) ⟨_, _, rfl, hps, hfs⟩)
       (revert S a; refine go 4 ?_; intro a S)
       (refine wpl_alloc S rfl rfl rfl rfl ?_; clear S a; intro b10 a w S)
       (revert S a; refine go 1 ?_; intro a S)
       (refine wso S rfl rfl ?_; clear S; intro w S)
       (revert S a; revert hZ Z; refine go 2 ?_; intro a S)
       (refine wp_seq_k ?_; intro Z hZ)
       (refine wpc_mixM [0, 1, 2, 3, 4, 5, 6, 7, 8, 9] [3, 5, 6] [] (.one 0 (.one 1 (.one 2 (.one 3 (.one 4 (.one 5 (.one 6 (.one 7 (.one 8 (.one 9 (.one 10 (.one 11 (.one 12 .nil))))))))))))) [b10, m2] S mixed (by kernel_rfl) ?_; clear S; intro w S)
       (revert S a; refine go 3 ?_; intro a S)
       (refine wlF S rfl (fun w' S => sv_loadF S rfl rfl hc2) ?_; clear S a; intro a S)
       (revert S a; refine go 2 ?_; intro a S)
       (refine wpm_lateO m2 S rfl rfl rfl (want_none _ rfl) rfl rfl (fun w' S => sv_lookupO (enc := kS) S rfl rfl rfl) ?_; clear S a; intro a S)
       (obtain ⟨zz, za, zb, zc, zd, hgd2, -, -, -, -⟩ := get_kc hm2 y.nm; rw [if_pos rfl, hgd2, hm2.mem y.nm] at S)
       (revert S a; refine go 4 ?_; intro a S)
       (refine wpl_alloc S rfl rfl rfl rfl ?_; clear S a; intro b11 a w S)
       (revert S a; refine go 2 ?_; intro a S)
       (refine wso S rfl rfl ?_; clear S; intro w S)
       (revert S a; revert hZ Z; refine go 6 ?_; intro a S)
       (refine wp_seq_k ?_; intro Z hZ)
       replace hZ : ∀ (a' : Act) (w' : World), (True ∧ St 133 [(0, ptr tb), (1, .slice (some ⟨bq, oq, none⟩) l.length cap), (6, ptr b6), (8, .bool ((b || decide (y.nm ∈ cl.map KC.nm)) || twiceD y.fs)), (9, .int .i64 j), (10, ptr b10), (18, .slice (some ⟨bq, oq, none⟩) l.length cap), (19, .int .i64 l.length), (20, .int .i64 i), (58, .slice (some ⟨bp, op, none⟩) x.cs.length cc), (59, .int .i64 x.cs.length), (60, .int .i64 j)] w0 F [m1, m2] F [[(b11, .cells ⟨[.string (bs zz.ty), .slice za zz.ps.length zb, .int .i64 zz.pl, .slice zc zz.fs.length zd]⟩ 199 (0, 0))], [(b10, .cells ⟨[.string (bs y.nm), .slice af y.fs.length cf]⟩ 93 (0, 0))], [(b7, .cells ⟨[.int .i64 yy.l, .int .i64 yy.c, .bool yy.pub, .string (bs yy.nm), .slice ya yy.ps.length yb, .slice yc yy.cs.length yd]⟩ 97 (0, 0))], [(b6, .cells ⟨[.int .i64 x.l, .int .i64 x.c, .bool x.pub, .string (bs x.nm), .slice ap x.ps.length cp, .slice (some ⟨bp, op, none⟩) x.cs.length cc]⟩ 97 (0, 0))], [(m1, mObj kS es1n)], [(m2, mObj kS es2)]] a' w') → Z a' w' := (by
        (intro a w hM; refine hZ _ _ ?_; clear hZ Z; clear S; obtain ⟨-, S⟩ := hM)
        (refine wpc_mixM [0, 1, 2, 3, 4, 5, 6, 7, 8, 9, 10, 11, 12, 13] [3, 5, 7, 9, 12] [] (.one 0 (.one 1 (.one 2 (.one 3 (.one 4 (.one 5 (.one 6 (.one 7 (.one 8 (.one 9 (.one 10 (.one 11 (.one 12 (.one 13 (.one 14 .nil))))))))))))))) [b10, b6] S mixed (by kernel_rfl) ?_; clear S; intro w S)
        (revert S a; refine go 3 ?_; intro a S)
        (refine wlF S rfl (fun w' S => sv_loadF S rfl rfl hc2) ?_; clear S a; intro a S)
        (revert S a; refine go 11 ?_; intro a S)
        (refine wpl_mapSet (enc := kS) S rfl rfl rfl rfl rfl rfl ?_; clear S; intro w S)
        (revert S a; revert hZ Z; refine go 3 ?_; intro a S)
        (replace S : St _ _ _ _ _ F [_, _, _, _, _, [(m2, mObj kS (mSet es2 y.nm (.agg ⟨[.string (bs x.nm), .slice ap x.ps.length cp, .int .i64 (j : Int), .slice af y.fs.length cf]⟩)))]] _ _ := S)
        (revert S a; refine go 4 ?_; intro a S)
        change ∃ m', _ ∧ _
        (rw [← hao2] at S; replace S := S.drop1.drop1; refine ⟨x.cs.length - (j + 1), by omega, j + 1, ((b || decide (y.nm ∈ cl.map KC.nm)) || twiceD y.fs), mSet es2 y.nm (.agg ⟨[.string (bs x.nm), .slice ap x.ps.length cp, .int .i64 (j : Int), .slice af y.fs.length cf]⟩), cl2, rfl, by omega, hmm2, ?_, ?_, ?_⟩; rotate_left 2; (refine S.keep ?_; exact zk); (intro h9; simp only [Bool.or_eq_false_iff, decide_eq_false_iff_not] at h9; rw [hcl2 h9.1.2, hcl h9.1.1, htj, consFrom_app, List.length_take, Nat.min_eq_left hjl, Nat.zero_add, List.append_assoc]); (rw [hcb, drop_at hy, consBad_cons, htj, List.map_append]; rcases Bool.eq_false_or_eq_true b with hb0 | hb0; (rw [hb0]; simp); (have h9 := hcl hb0; rw [h9, List.map_append, consOf_nm, consFrom_nm, hb0]; simp [Bool.or_assoc]))))
       (revert S a; refine go 3 ?_; intro a S)
       refine wgd S ?_ ?_
       · (clear S; intro h S)
         (revert S a; refine go 3 ?_; intro a S)
         refine wgd S ?_ ?_
         · (clear S; intro h S)
           (revert S a; refine go 4 ?_; intro a S)
           (refine wc0 S (twiceCt F y.fs _ hfs hysz.2) ?_; clear S a; intro v9 a w hv S; subst hv)
           (revert S a; refine go 3 ?_; intro a S)
           (refine hZ _ _ ?_)
           exact zzDeO0
         (clear S a; intro h a S)
         (revert S a; refine go 5 ?_; intro a S)
         (refine hZ _ _ ?_)
         exact zzDeO0
       (clear S a; intro h a S)
       (revert S a; refine go 8 ?_; intro a S)
       (refine hZ _ _ ?_)
       exact zzDeO0
     (refine wp_exit ?_; conv => whnf)
     clear hZ Z
     (revert S a; revert hZ Z; refine go 5 ?_; intro a S)
     refine wpc_sp S rfl ?_ ?_ <;> intro h
     · (revert S a; refine go 8 ?_; intro a S)
       refine wp_ret ?_
       (first | (have h9 := hy; replace S := S.drop1) | skip)
       refine fin_ret S (results1 Tryz.results95 (RV.tmp S rfl)) ?_
       exact zzDeO1
     (revert S a; revert hZ Z; refine go 6 ?_; intro a S)
     change ∃ m', _ ∧ _
     (have hb9 : b = false := (by assumption); subst hb9; rw [← hao] at S; replace S := S.drop1.drop1; have hjj : j = x.cs.length := (by omega); rw [List.drop_eq_nil_of_le (by omega), show consBad (cnames (l.take i) ++ (x.cs.take j).map CD.nm) [] = false from rfl] at hcb; have hnb : badT ((l.take i).map TD.nm) x = false ∧ consBad (cnames (l.take i)) x.cs = false := (by simpa using hcb); have hxn : x.nm ∉ (l.take i).map TD.nm := (by have h9 := hnb.1; unfold badT at h9; simp only [Bool.or_eq_false_iff, decide_eq_false_iff_not] at h9; exact h9.1.1.1); have e1 := hl1 hxn; have e2 := hcl rfl; rw [List.take_of_length_le (l := x.cs) (i := j) (by omega)] at e2; refine ⟨l.length - (i + 1), by omega, i + 1, _, _, rfl, by omega, (by rw [htk, ← e1]; exact hmm1), (by rw [htk, consOf_app, ← e2]; exact hm2), (by rw [hdu, drop_at hx, dupE_cons, hnb.1, hnb.2, htk, List.map_append, cnames_app]; rfl), ?_⟩; refine S.keep ?_; exact zk))
    (revert S a; refine go 3 ?_; intro a S)
    refine wgd S ?_ ?_
    · (clear S; intro h S)
      (revert S a; refine go 4 ?_; intro a S)
      (refine wc0 S (plainCt F x.nm) ?_; clear S a; intro v a w hv S; subst hv)
      (revert S a; refine go 2 ?_; intro a S)
      refine wgd S ?_ ?_
      · (clear S; intro h S)
        (revert S a; refine go 7 ?_; intro a S)
        refine wgd S ?_ ?_
        · (clear S; intro h S)
          (revert S a; refine go 4 ?_; intro a S)
          (refine wc0 S (paramCt F x.nm) ?_; clear S a; intro v a w hv S; subst hv)
          (revert S a; refine go 3 ?_; intro a S)
          (refine hZ _ _ ?_)
          exact zzDeO2
        (clear S a; intro h a S)
        (revert S a; refine go 5 ?_; intro a S)
        (refine hZ _ _ ?_)
        exact zzDeO2
      (clear S a; intro h a S)
      (revert S a; refine go 10 ?_; intro a S)
      (refine hZ _ _ ?_)
      exact zzDeO2
    (clear S a; intro h a S)
    (revert S a; refine go 15 ?_; intro a S)
    (refine hZ _ _ ?_)
    exact zzDeO2
  (refine wp_exit ?_; conv => whnf)
  clear hZ Z
  (revert S a; revert hZ Z; refine go 2 ?_; intro Z hZ a S)
  (refine wp_seq_k ?_; intro Z hZ)
  (have hii : i = l.length := (by omega); rw [List.take_of_length_le (by omega)] at hm1 hm2; have hdf : dupE [] [] l = false := (by rw [hdu, List.drop_eq_nil_of_le (by omega)]; rfl); have hle1 := add_le (G1 := []) S; replace S := St.freeze (G1 := []) S; (try simp only [List.nil_append] at S hle1); have hM1 : (F.add [(m1, mObj kS es1)]) m1 = some (mObj kS es1) := Heap.add_new (p := (m1, _)) (List.mem_singleton.2 rfl) (by simp); generalize (F.add [(m1, mObj kS es1)]) = F1 at S hle1 hM1; have hle2 := add_le (G1 := []) S; replace S := St.freeze (G1 := []) S; (try simp only [List.nil_append] at S hle2); have hM2 : (F1.add [(m2, mObj kS es2)]) m2 = some (mObj kS es2) := Heap.add_new (p := (m2, _)) (List.mem_singleton.2 rfl) (by simp); generalize (F1.add [(m2, mObj kS es2)]) = F2 at S hle2 hM2; have hF2 : ∀ b o, F b = some o → F2 b = some o := (fun b o h => hle2 _ _ (hle1 _ _ h)); have hMS1 : MapS F2 TdR TD.nm m1 l := ⟨es1, hle2 _ _ hM1, hm1.mono hF2⟩; have hMS2 : MapS F2 KcR KC.nm m2 (consOf l) := ⟨es2, hM2, hm2.mono hF2⟩; have hTy : TyS F2 tb m1 l := ⟨hc1.mono hF2, hMS1⟩; skip)
  (revert S a; revert hZ Z; refine go 7 ?_; intro a S)
  refine wpc_loop (fun m a w' => ∃ (i : Nat) (F3 : Heap), m = l.length - i ∧ i ≤ l.length ∧ (∀ b o, F2 b = some o → F3 b = some o) ∧ typesFE l l = typesFE l (l.drop i) ∧ St 133 [(0, ptr tb), (1, .slice ao l.length cap), (105, .slice ao l.length cap), (106, .int .i64 l.length), (107, .int .i64 i)] w0 F [m1, m2] F3 [] a w') ?_ ?_
  · (refine ⟨l.length, 0, F2, by omega, Nat.zero_le _, fun _ _ h => h, rfl, ?_⟩; refine S.keep ?_; exact zk)
  (clear S; rintro m a w ⟨i, F3, rfl, hil, hF3, htf, S⟩)
  (revert S a; refine go 5 ?_; intro Z hZ a S)
  refine wpc_sp S rfl ?_ ?_ <;> intro h
  · (revert S a; revert hZ Z; refine go 4 ?_; intro Z hZ a S)
    (refine wp_seq_k ?_; intro Z hZ)
    (obtain ⟨bq, oq, hao, x, cs1, hx, hd1, ⟨w1, w2, rfl, hps, hcs⟩⟩ := LiM.pos hpos (k := i) (by omega); rw [hao] at S; have hF23 : ∀ b o, F b = some o → F3 b = some o := (fun b o h => hF3 _ _ (hF2 _ _ h)); replace hd1 := Cels.mono hF23 hd1; replace hps := hps.mono hF23; replace hcs := hcs.mono hF23; have hpsc := hps; have hcsc := hcs; obtain ⟨ap, cp, rfl, -, -⟩ := hpsc; obtain ⟨ac, cc, rfl, hcc9, hposc⟩ := hcsc; have hxsz := hsz x (List.mem_of_getElem? hx))
    (revert S a; refine go 3 ?_; intro a S)
    (refine wpl_alloc S rfl rfl rfl rfl ?_; clear S a; intro b14 a w S)
    (refine wso S rfl rfl ?_; clear S; intro w S)
    (revert S a; revert hZ Z; refine go 2 ?_; intro a S)
    (refine wp_seq_k ?_; intro Z hZ)
    (replace S : St _ _ _ _ _ F3 [[(b14, .cells ⟨[.int .i64 x.l, .int .i64 x.c, .bool x.pub, .string (bs x.nm), .slice ap x.ps.length cp, .slice ac x.cs.length cc]⟩ 97 (0, 0))]] _ _ := S; have hF4 := add_le (G1 := []) S; replace S := St.freeze (G1 := []) S; (try simp only [List.nil_append] at S hF4); have hb14 : Cels (F3.add [(b14, .cells ⟨[.int .i64 x.l, .int .i64 x.c, .bool x.pub, .string (bs x.nm), .slice ap x.ps.length cp, .slice ac x.cs.length cc]⟩ 97 (0, 0))]) b14 0 [.int .i64 x.l, .int .i64 x.c, .bool x.pub, .string (bs x.nm), .slice ap x.ps.length cp, .slice ac x.cs.length cc] := (fun j u hj => ⟨_, _, _, Heap.add_new (p := (b14, _)) (List.mem_singleton.2 rfl) (by simp), by simpa using hj⟩); generalize (F3.add [(b14, .cells ⟨[.int .i64 x.l, .int .i64 x.c, .bool x.pub, .string (bs x.nm), .slice ap x.ps.length cp, .slice ac x.cs.length cc]⟩ 97 (0, 0))]) = F4 at S hF4 hb14; have hmay := typed1Ct F4 b14 x ap cp (hb14 4 _ rfl) (hps.mono hF4); have hc5 : Cel F4 b14 5 (.slice ac x.cs.length cc) := hb14 5 _ rfl; have hp45 : Cels F4 b14 0 [.int .i64 x.l, .int .i64 x.c] := hb14.take 2)
    (revert S a; refine go 2 ?_; intro a S)
    (refine wv S (sv_loadF S rfl rfl hc5) ?_; clear S a; intro a S)
    (revert S a; revert hZ Z; refine go 5 ?_; intro a S)
    refine wpc_loop (fun m a w' => ∃ (j : Nat), m = x.cs.length - j ∧ j ≤ x.cs.length ∧ consFE l x.ps x.cs = consFE l x.ps (x.cs.drop j) ∧ St 133 [(0, ptr tb), (1, .slice (some ⟨bq, oq, none⟩) l.length cap), (14, ptr b14), (105, .slice (some ⟨bq, oq, none⟩) l.length cap), (106, .int .i64 l.length), (107, .int .i64 i), (112, .slice ac x.cs.length cc), (113, .int .i64 x.cs.length), (114, .int .i64 j)] w0 F [m1, m2] F4 [] a w') ?_ ?_
    · (refine ⟨x.cs.length, 0, by omega, Nat.zero_le _, rfl, ?_⟩; refine S.keep ?_; exact zk)
    (clear S; rintro m a w ⟨j, rfl, hjl, hce, S⟩)
    (revert S a; refine go 5 ?_; intro Z hZ a S)
    refine wpc_sp S rfl ?_ ?_ <;> intro h
    · (revert S a; revert hZ Z; refine go 4 ?_; intro Z hZ a S)
      (refine wp_seq_k ?_; intro Z hZ)
      (obtain ⟨bp, op, hao2, y, cs2, hy, he1, ⟨w3, rfl, hfs⟩⟩ := LiM.pos hposc (k := j) (by omega); rw [hao2] at S; replace he1 := Cels.mono hF4 he1; replace hfs := hfs.mono hF4; have hfsc := hfs; obtain ⟨af, cf, rfl, -, -⟩ := hfsc; have hysz := hxsz.2.2 y (List.mem_of_getElem? hy))
      (revert S a; refine go 3 ?_; intro a S)
      (refine wpl_alloc S rfl rfl rfl rfl ?_; clear S a; intro b16 a w S)
      (refine wso S rfl rfl ?_; clear S; intro w S)
      (revert S a; revert hZ Z; refine go 7 ?_; intro Z hZ a S)
      (refine wv S (sv_loadAF S rfl rfl hp45 (by rfl)) ?_; clear S a; intro a S)
      (revert S a; refine go 1 ?_; intro a S)
      (refine wc0 S (fieldsCt F4 tb m1 l (hTy.mono (fun b o h => hF4 _ _ (hF3 _ _ h))) y.fs _ hfs hysz.1 x.l x.c (fun s => decide (s ∈ x.ps)) 140 [] [.pointer (some ⟨b14, 0, none⟩)] hmay) ?_; clear S a; intro v9 a w hv S)
      (revert S a; revert hZ Z; refine go 5 ?_; intro Z hZ a S)
      (refine wv S (sv_neErr S rfl rfl hv) ?_; clear S a; intro a S)
      (revert S a; revert hZ Z; refine go 2 ?_; intro a S)
      refine wpc_sp S rfl ?_ ?_ <;> intro h
      · (revert S a; refine go 5 ?_; intro a S)
        refine wp_ret ?_
        (first | (have h9 := hy; replace S := S.drop1) | skip)
        refine fin_ret S (results1 Tryz.results95 (RV.tmp S rfl)) ?_
        exact zzDeO1
      (revert S a; revert hZ Z; refine go 6 ?_; intro a S)
      change ∃ m', _ ∧ _
      (have hz : fieldsE l (fun s => decide (s ∈ x.ps)) y.fs = 0 := (by first | assumption | omega | (simp_all; done)); rw [← hao2] at S; replace S := S.drop1; refine ⟨x.cs.length - (j + 1), by omega, j + 1, rfl, by omega, (by rw [hce, drop_at hy, consFE_cons, if_neg (fun h => h hz)]), ?_⟩; refine S.keep ?_; exact zk)
    (refine wp_exit ?_; conv => whnf)
    clear hZ Z
    (revert S a; revert hZ Z; refine go 5 ?_; intro a S)
    change ∃ m', _ ∧ _
    (have hz : consFE l x.ps x.cs = 0 := (by rw [hce, List.drop_eq_nil_of_le (by omega)]; rfl); rw [← hao] at S; refine ⟨l.length - (i + 1), by omega, i + 1, F4, rfl, by omega, fun b o h => hF4 _ _ (hF3 _ _ h), (by rw [htf, drop_at hx, typesFE_cons, if_neg (fun h => h hz)]), ?_⟩; refine S.keep ?_; exact zk)
  (refine wp_exit ?_; conv => whnf)
  clear hZ Z
  (revert S a; revert hZ Z; refine go 4 ?_; intro Z hZ a S)
  (refine wc0 S (fullCt F3 _ l _ ((hl0.mono hF2).mono hF3)) ?_; clear S a; intro v9 a w hv S)
  (revert S a; revert hZ Z; refine go 3 ?_; intro a S)
  refine wp_ret ?_
  (first | (have h9 := hy; replace S := S.drop1) | skip)
  refine fin_ret S (results1 Tryz.results95 (RV.tmp S rfl)) ?_
  exact zzDeO1
end Go.Proofs.YtgefmjghdijbfaaGreatDoor
