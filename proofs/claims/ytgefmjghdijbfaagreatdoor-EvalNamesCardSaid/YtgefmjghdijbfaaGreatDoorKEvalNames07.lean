/- Walks. -/
import Derived.Test.YtgefmjghdijbfaaGreatDoorQ19
import Derived.Test.YtgefmjghdijbfaaGreatDoorKEvalNames02
import Derived.Test.YtgefmjghdijbfaaGreatDoorKEvalNames06
import Derived.ScopeJumps
import Derived.Test.YtgefmjghdijbfaaGreatDoorQ26
set_option maxHeartbeats 16000000
set_option maxRecDepth 20000
namespace Go.Proofs.YtgefmjghdijbfaaGreatDoor
open Go Go.Wk Go.Un Go.De
set_option linter.unusedSimpArgs false
set_option linter.unusedVariables false
attribute [local irreducible] Go.wpList Go.Code.wp Go.wpStill Go.Wk.wpPre Go.bodyPost Go.Calls Go.Wk.Ct Go.Wk.OwnS Go.Wk.wpG Go.Wk.wpM
section
variable {α : Type} [DecidableEq α] {P : Program} {n : Sz} {L : List (Nat × Value)} {w0 : World} {F0 : Heap} {K0 : List Nat} {F : Heap} {G : List Grp} {a : Act} {w : World} {ops : Array Oper} {Q : Exit → Act → World → Prop} {rest : List Oper} {o : Oper}
open Classical in
theorem wpc_scope {c rest : Code} (l : Nat) (J : Nat → Act → World → Prop) (hf : findLabel c l = some (.seq .skip rest))
  (first : (∀ m a w, J m a w → rest.wp P (Exit.jump l (fun a w => ∃ m, J m a w) Q) a w) → c.wp P (Exit.jump l (fun a w => ∃ m, J m a w) Q) a w)
  (pass : ∀ m a w, J m a w → rest.wp P (Exit.jump l (fun a' w' => ∃ m', m' < m ∧ J m' a' w') Q) a w) : (Code.scope c).wp P Q a w := by
 let μ : Act → World → Nat := fun a w => if h : ∃ m, J m a w then Classical.choose (least h) else 0
 refine wp_scope_jumps l (fun a w => ∃ m, J m a w) μ hf (first fun m a w h => wp_mono (pass m a w h) fun e a' w' h' => ?_) fun a w hJ => ?_
 ·cases e <;> try exact h'
  obtain ⟨rfl, m', _, hJ'⟩ := h'
  exact ⟨rfl, m', hJ'⟩
 ·have hμ : J (μ a w) a w := by simp only [μ, dif_pos hJ]; exact (Classical.choose_spec (least hJ)).1
  refine wp_mono (wp_seq (wp_skip (show rest.wp P _ a w from pass _ a w hμ))) fun e a' w' h => ?_
  cases e <;> try exact h
  obtain ⟨rfl, m', hm, hJ'⟩ := h
  refine ⟨rfl, ⟨m', hJ'⟩, ?_⟩
  have : μ a' w' ≤ m' := by
   have hex : ∃ m, J m a' w' := ⟨m', hJ'⟩
   simp only [μ, dif_pos hex]
   exact (Classical.choose_spec (least hex)).2 m' hJ'
  omega
end
def HasD (b6 b5 mb : Nat) (es : List (List UInt8 × Value)) (k : List (List UInt8)) (m : Nat) : Prop := ∀ (F : Heap) (nm : List UInt8) (ar : Fo) (cs : List Value), ar.size < m → HasM F b6 b5 mb es k → TyC F cs nm ar →
 Ct Tryz.prog 176 ([] ++ [.agg ⟨cs⟩] ++ [.pointer (some ⟨b6, 0, none⟩), .pointer (some ⟨b5, 0, none⟩)]) F [] (fun _ _ u => u = .bool (hasT k (nm, ar)))
theorem full11Ct (b6 b5 mb : Nat) (es : List (List UInt8 × Value)) (k : List (List UInt8)) (m : Nat) (ih : HasD b6 b5 mb es k m) (F : Heap) (hM : HasM F b6 b5 mb es k) (nm : List UInt8) (ar : Fo) (v1 : Value) (hm : ar.size < m) (hs : SlF F v1 ar) :
  Ct Tryz.prog 178 ([] ++ [.agg ⟨[.string (bs nm), v1]⟩] ++ [.pointer (some ⟨b6, 0, none⟩)]) F [] (fun _ _ u => u = .bool (!hasT k (nm, ar))) := by
 have hs0 := hs
 obtain ⟨ao, cap, rfl, -, -⟩ := hs
 have hc6 := hM.c6
 refine Ct.enter Tryz.func178 rfl Tryz.ntmps178 rfl fun w0 a S => ?_
 refine wp_sr fun Z hZ => ?_
 (refine wbx S ?_; clear S a; intro b2 a w S)
 (revert S a; revert hZ Z; refine go 4 ?_; intro Z hZ a S)
 (refine wv S (sv_loadF S rfl rfl hc6) ?_; clear S a; intro a S)
 (revert S a; refine go 1 ?_; intro a S)
 (refine wc0 S (ih F nm ar _ hm hM ⟨_, rfl, hs0⟩) ?_; clear S a; intro v a w hv S; subst hv)
 (revert S a; revert hZ Z; refine go 4 ?_; intro a S)
 refine wp_ret (fr1 S Tryz.results178 ?_)
 rfl
theorem zzDeN0 {p : Prop} (h : p := by (congr 1; unfold hasT; first | (have htu : (nm, ar).1 = sTuple := (by assumption); rw [if_pos htu]; simp; done) | (have htu : ¬ (nm, ar).1 = sTuple := (by assumption); rw [if_neg htu]; first | (have hp : ¬ (nm, ar).1 ∈ k := (by rw [← List.count_pos_iff]; show ¬ 0 < k.count nm; omega); rw [decide_eq_false hp, Bool.false_or]) | (have hp : (nm, ar).1 ∈ k := (by rw [← List.count_pos_iff]; show 0 < k.count nm; omega); rw [decide_eq_true hp, Bool.true_or])) | trace_state)) : p := h
theorem hasCt (b6 b5 mb : Nat) (es : List (List UInt8 × Value)) (k : List (List UInt8)) : ∀ m, HasD b6 b5 mb es k m := by
 intro m
 induction m with
 | zero => intro F nm ar cs hm; omega
 | succ m ih =>
 intro F nm ar cs hm hM hT
 obtain ⟨v, rfl, hs⟩ := hT
 have hs0 := hs
 obtain ⟨ao, cap, rfl, -, -⟩ := hs
 have hc5 := hM.c5
 have hmb := hM.m
 have hE := hM.e
 refine Ct.enter Tryz.func176 rfl Tryz.ntmps176 rfl fun w0 a S => ?_
 refine wp_sr fun Z hZ => ?_
 (refine wbx S ?_; clear S a; intro b3 a w S)
 (revert S a; revert hZ Z; refine go 10 ?_; intro Z hZ a S)
 refine wpc_sp S rfl ?_ ?_ <;> intro h
 ·(revert S a; refine go 4 ?_; intro Z hZ a S)
  (refine wc0 S (containsTCt F ar _ hs0 178 [] [.pointer (some ⟨b6, 0, none⟩)] (fun y => !hasT k y) (fun j x v1 hx hs1 => full11Ct b6 b5 mb es k m ih F hM x.1 x.2 v1 (by have := Fo.size_get hx; omega) hs1)) ?_; clear S a; intro v a w hv S; subst hv; rw [any_has] at S)
  (revert S a; revert hZ Z; refine go 4 ?_; intro a S)
  refine wp_ret (fr1 S Tryz.results176 ?_)
  exact zzDeN0
 (revert S a; revert hZ Z; refine go 3 ?_; intro Z hZ a S)
 (refine wv S (sv_loadF S rfl rfl hc5) ?_; clear S a; intro a S)
 (revert S a; refine go 2 ?_; intro a S)
 (refine wv S (sv_lookupF (enc := kS) S rfl rfl rfl hmb) ?_; clear S a; intro a S)
 (rw [if_neg (by decide), hE nm] at S)
 (revert S a; refine go 2 ?_; intro a S)
 refine wgd S ?_ ?_
 ·(clear S; intro h S)
  (revert S a; refine go 4 ?_; intro a S)
  (refine wc0 S (paramCt F nm) ?_; clear S a; intro v a w hv S; subst hv)
  (revert S a; revert hZ Z; refine go 4 ?_; intro a S)
  refine wp_ret (fr1 S Tryz.results176 ?_)
  exact zzDeN0
 (clear S a; intro h a S)
 (revert S a; revert hZ Z; refine go 6 ?_; intro a S)
 refine wp_ret (fr1 S Tryz.results176 ?_)
 exact zzDeN0
theorem full2Ct (b6 b5 mb : Nat) (es : List (List UInt8 × Value)) (k : List (List UInt8)) (F : Heap) (hM : HasM F b6 b5 mb es k) (x : FD) (cs : List Value) (hR : FdR F x cs) :
  Ct Tryz.prog 179 ([] ++ [.agg ⟨cs⟩] ++ [.pointer (some ⟨b6, 0, none⟩)]) F [] (fun _ G' u => u = .bool (!hasT k (x.tn, x.ta)) ∧ G' = []) := by
 refine ct_nil ?_
 obtain ⟨v, rfl, hs⟩ := hR
 have hs0 := hs
 obtain ⟨ao, cap, rfl, -, -⟩ := hs
 have hc6 := hM.c6
 refine Ct.enter Tryz.func179 rfl Tryz.ntmps179 rfl fun w0 a S => ?_
 refine wp_sr fun Z hZ => ?_
 (refine wbx S ?_; clear S a; intro b2 a w S)
 (revert S a; revert hZ Z; refine go 4 ?_; intro Z hZ a S)
 (refine wv S (sv_loadF S rfl rfl hc6) ?_; clear S a; intro a S)
 (revert S a; refine go 2 ?_; intro a S)
 (refine wc0 S (hasCt b6 b5 mb es k (x.ta.size + 1) F x.tn x.ta _ (Nat.lt_succ_self _) hM ⟨_, rfl, hs0⟩) ?_; clear S a; intro v a w hv S; subst hv)
 (revert S a; revert hZ Z; refine go 4 ?_; intro a S)
 refine wp_ret (fr1 S Tryz.results179 ?_)
 rfl
theorem cnt0 : CntE (mSet (mSet (mSet (mSet [] sBool (.int .i64 1)) sInt (.int .i64 1)) sBig (.int .i64 1)) sText (.int .i64 1)) full0 := by
 have h0 : CntE [] [] := fun nm => rfl
 exact (((h0.set sBool).set sInt).set sBig).set sText
theorem zzDeN1 {p : Prop} (h : p := by (have hxx : x.nm ∉ k → tyOK k x = false := (by first | (intro h8; have h9 := hcn; unfold tyOK; rw [List.any_eq_false]; intro c hc; obtain ⟨jj, hjj⟩ := List.mem_iff_getElem?.1 hc; have hjl := (List.getElem?_eq_some_iff.1 hjj).1; rw [hcn jj c (by omega) hjj]; decide) | (intro h8; exfalso; rw [← List.count_pos_iff] at h8; omega)); rw [← hao] at S; replace S := S.drop1; refine ⟨l.length - (i + 1), by omega, i + 1, rfl, by omega, ?_, ?_⟩; rotate_left 1; (refine S.keep ?_; exact zk); intro j z h7 h8; rcases Nat.lt_or_eq_of_le (Nat.le_of_lt_succ h7) with h6 | h6; exact hcl j z h6 h8; subst h6; rw [hx] at h8; cases h8; exact hxx)) : p := h
theorem zzDeN2 {p : Prop} (h : p := by (have hclosed : Closed l k := (by intro x hx hn; obtain ⟨j, hj⟩ := List.mem_iff_getElem?.1 hx; have hjl := (List.getElem?_eq_some_iff.1 hj).1; exact hcl j x (by omega) hj hn); rw [fullE_of hR hclosed]; first | (rw [if_pos (by rw [List.all_eq_true]; intro x hx; obtain ⟨j, hj⟩ := List.mem_iff_getElem?.1 hx; have hjl := (List.getElem?_eq_some_iff.1 hj).1; exact decide_eq_true (hall j x (by omega) hj))]; exact errV_0) | (have hxx : x.nm ∉ k := (by rw [← List.count_pos_iff]; omega); rw [if_neg (by rw [List.all_eq_true]; intro h9; have := of_decide_eq_true (h9 x (List.mem_of_getElem? hx)); exact hxx this)]; exact errV_of (by decide)) | trace_state)) : p := h
theorem fullCt (F : Heap) (tbv : Value) (l : List TD) (v : Value) (h : LiM F 6 TdR v l) :
  Ct Tryz.prog 141 [tbv, v] F [] (fun _ _ u => ErrV (fullE l) u) := by
 obtain ⟨ao, cap, rfl, hcap, hpos⟩ := h
 refine Ct.enter Tryz.func141 rfl Tryz.ntmps141 rfl fun w0 a S => ?_
 (revert S a; refine go 4 ?_; intro a S)
 refine wpc_scope 0 (fun m a w' => ∃ (k : List (List UInt8)) (es : List (List UInt8 × Value)) (mb b5 b6 : Nat) (F2 : Heap), m = leftN l k ∧ Rch l k ∧ CntE es k ∧ (∀ b o, F b = some o → F2 b = some o) ∧ Cel F2 b6 0 (.func (.func 176) ⟨[]⟩ ⟨[.pointer (some ⟨b6, 0, none⟩), .pointer (some ⟨b5, 0, none⟩)]⟩) ∧ Cel F2 b5 0 (.map (some mb)) ∧ St 62 [(1, .slice ao l.length cap), (5, ptr b5), (6, ptr b6)] w0 F [] F2 [[(mb, mObj kS es)]] a w') rfl ?_ ?_
 ·(intro hpass)
  refine wp_sr fun Z hZ => ?_
  (refine wpl_makeMap kS S rfl rfl rfl rfl ?_; clear S a; intro b13 a w S)
  iterate 4 (refine wpl_mapIns (enc := kS) S rfl rfl rfl rfl rfl rfl ?_; clear S; intro w S)
  (revert S a; refine go 1 ?_; intro a S)
  (refine wpl_alloc S rfl rfl rfl rfl ?_; clear S a; intro b5 a w S)
  (refine wpl_store1 S rfl rfl rfl rfl rfl rfl (by first | (simp; done) | (simp [Value.cells]; done) | exact Nat.le_of_ble_eq_true rfl) ?_; clear S; intro w S)
  (revert S a; revert hZ Z; refine go 3 ?_; intro Z hZ a S)
  (refine wpl_alloc S rfl rfl rfl rfl ?_; clear S a; intro b6 a w S)
  (revert S a; revert hZ Z; refine go 4 ?_; intro Z hZ a S)
  (refine wpl_store1 S rfl rfl rfl rfl rfl rfl (by first | (simp; done) | (simp [Value.cells]; done) | exact Nat.le_of_ble_eq_true rfl) ?_; clear S; intro w S)
  (revert S a; revert hZ Z; refine go 2 ?_; intro a S)
  (refine wp_seq_k ?_; intro Z hZ)
  refine wp_label ?_
  (refine hZ _ _ ?_; clear hZ Z)
  (replace S : St _ _ _ _ _ F [[(b6, .cells ⟨[.func (.func 176) ⟨[]⟩ ⟨[.pointer (some ⟨b6, 0, none⟩), .pointer (some ⟨b5, 0, none⟩)]⟩]⟩ 225 (0, 0))], [(b5, .cells ⟨[.map (some b13)]⟩ 256 (0, 0))], [(b13, mObj kS (mSet (mSet (mSet (mSet [] sBool (.int .i64 1)) sInt (.int .i64 1)) sBig (.int .i64 1)) sText (.int .i64 1)))]] _ _ := S; have hle1 := add_le (G1 := []) S; replace S := St.freeze (G1 := []) S; (simp only [List.nil_append] at S hle1); have hb6 : Cel (F.add [(b6, .cells ⟨[.func (.func 176) ⟨[]⟩ ⟨[.pointer (some ⟨b6, 0, none⟩), .pointer (some ⟨b5, 0, none⟩)]⟩]⟩ 225 (0, 0))]) b6 0 (.func (.func 176) ⟨[]⟩ ⟨[.pointer (some ⟨b6, 0, none⟩), .pointer (some ⟨b5, 0, none⟩)]⟩) := ⟨_, _, _, Heap.add_new (p := (b6, _)) (List.mem_singleton.2 rfl) (by simp), rfl⟩; generalize (F.add [(b6, .cells ⟨[.func (.func 176) ⟨[]⟩ ⟨[.pointer (some ⟨b6, 0, none⟩), .pointer (some ⟨b5, 0, none⟩)]⟩]⟩ 225 (0, 0))]) = F1 at S hle1 hb6; have hle2 := add_le (G1 := []) S; replace S := St.freeze (G1 := []) S; (simp only [List.nil_append] at S hle2); have hb5 : Cel (F1.add [(b5, .cells ⟨[.map (some b13)]⟩ 256 (0, 0))]) b5 0 (.map (some b13)) := ⟨_, _, _, Heap.add_new (p := (b5, _)) (List.mem_singleton.2 rfl) (by simp), rfl⟩; generalize (F1.add [(b5, .cells ⟨[.map (some b13)]⟩ 256 (0, 0))]) = F2 at S hle2 hb5; refine hpass _ _ _ ⟨full0, _, b13, b5, b6, F2, rfl, .base, cnt0, fun b o h => hle2 _ _ (hle1 _ _ h), hb6.mono hle2, hb5, ?_⟩; refine S.keep ?_; exact zk)
 (clear S; rintro m a w ⟨k, es, mb, b5, b6, F2, rfl, hR, hE, hF2, hb6, hb5, S⟩)
 (revert S a; refine go 8 ?_; intro Z hZ a S)
 refine wpc_loop (fun m a w' => ∃ (i : Nat), m = l.length - i ∧ i ≤ l.length ∧ (∀ (j : Nat) (x : TD), j < i → l[j]? = some x → x.nm ∉ k → tyOK k x = false) ∧ St 62 [(1, .slice ao l.length cap), (5, ptr b5), (6, ptr b6), (16, .slice ao l.length cap), (17, .int .i64 l.length), (18, .int .i64 i)] w0 F [] F2 [[(mb, mObj kS es)]] a w') ?_ ?_
 ·(refine ⟨l.length, 0, by omega, Nat.zero_le _, fun j x h => absurd h (Nat.not_lt_zero _), ?_⟩; refine S.keep ?_; exact zk)
 (clear S; rintro m a w ⟨i, rfl, hil, hcl, S⟩; have hle : ∀ b o, F2 b = some o → (F2.add [(mb, mObj kS es)]) b = some o := add_le (G1 := []) S; have hmadd : (F2.add [(mb, mObj kS es)]) mb = some (mObj kS es) := Heap.add_new (p := (mb, _)) (List.mem_singleton.2 rfl) (by simp))
 (revert S a; refine go 5 ?_; intro Z hZ a S)
 refine wpc_sp S rfl ?_ ?_ <;> intro h
 ·(revert S a; revert hZ Z; refine go 4 ?_; intro Z hZ a S)
  (refine wp_seq_k ?_; intro Z hZ)
  (obtain ⟨b9, o9, hao, x, cs1, hx, hc1, ⟨w1, w2, rfl, hps, hcs⟩⟩ := LiM.pos hpos (k := i) (by omega); rw [hao] at S; replace hc1 := Cels.mono hF2 hc1; obtain ⟨ap, cp, rfl, -, -⟩ := hps; obtain ⟨ac, cc, rfl, hcc, hposc⟩ := hcs)
  (revert S a; refine go 3 ?_; intro a S)
  (refine wpl_alloc S rfl rfl rfl rfl ?_; clear S a; intro b8 a w S)
  (refine wso S rfl rfl ?_; clear S; intro w S)
  (revert S a; revert hZ Z; refine go 4 ?_; intro Z hZ Z hZ a S)
  (refine wv S (sv_loadF S rfl rfl hb5) ?_; clear S a; intro a S)
  (revert S a; refine go 2 ?_; intro a S)
  (refine wv S (sv_lookupO (enc := kS) S rfl rfl rfl) ?_; clear S a; intro a S)
  (rw [if_neg (by decide), hE x.nm] at S)
  (revert S a; revert hZ Z; refine go 3 ?_; intro a S)
  refine wpc_sp S rfl ?_ ?_ <;> intro h
  ·(refine wp_exit ?_; conv => whnf)
   clear hZ Z
   (revert S a; revert hZ Z; refine go 5 ?_; intro a S)
   change ∃ m', _ ∧ _
   exact zzDeN1
  refine wp_skip ?_
  (refine hZ _ _ ?_; clear hZ Z)
  (refine wp_seq_k ?_; intro Z hZ)
  (have hnk : x.nm ∉ k := (by rw [← List.count_pos_iff]; omega))
  (revert S a; revert hZ Z; refine go 8 ?_; intro a S)
  refine wpc_loop (fun m a w' => ∃ (i2 : Nat), m = x.cs.length - i2 ∧ i2 ≤ x.cs.length ∧ (∀ (j : Nat) (c : CD), j < i2 → x.cs[j]? = some c → consOK k c = false) ∧ St 62 [(1, .slice (some ⟨b9, o9, none⟩) l.length cap), (5, ptr b5), (6, ptr b6), (8, ptr b8), (16, .slice (some ⟨b9, o9, none⟩) l.length cap), (17, .int .i64 l.length), (18, .int .i64 i), (28, .slice ac x.cs.length cc), (29, .int .i64 x.cs.length), (30, .int .i64 i2)] w0 F [] F2 [[(b8, .cells ⟨[.int .i64 x.l, .int .i64 x.c, .bool x.pub, .string (bs x.nm), .slice ap x.ps.length cp, .slice ac x.cs.length cc]⟩ 97 (0, 0))], [(mb, mObj kS es)]] a w') ?_ ?_
  ·(refine ⟨x.cs.length, 0, by omega, Nat.zero_le _, fun j c h => absurd h (Nat.not_lt_zero _), ?_⟩; refine S.keep ?_; exact zk)
  (clear S; rintro m a w ⟨i2, rfl, hil2, hcn, S⟩)
  (revert S a; refine go 5 ?_; intro Z hZ a S)
  refine wpc_sp S rfl ?_ ?_ <;> intro h
  ·(revert S a; revert hZ Z; refine go 4 ?_; intro Z hZ a S)
   (refine wp_seq_k ?_; intro Z hZ)
   (obtain ⟨b11, o11, hao2, y, cs2, hy, hd1, ⟨w3, rfl, hfs⟩⟩ := LiM.pos hposc (k := i2) (by omega); rw [hao2] at S; replace hd1 := Cels.mono hF2 hd1; replace hfs := hfs.mono hF2; have hfsc := hfs; obtain ⟨af, cf, rfl, -, -⟩ := hfsc)
   (revert S a; refine go 3 ?_; intro a S)
   (refine wpl_alloc S rfl rfl rfl rfl ?_; clear S a; intro b10 a w S)
   (refine wso S rfl rfl ?_; clear S; intro w S)
   (revert S a; revert hZ Z; refine go 6 ?_; intro Z hZ a S)
   (refine wpl_callOwn (Gs := [[(mb, mObj kS es)]]) (Gr := [[(b10, _)], [(b8, _)]]) S rfl rfl rfl rfl rfl rfl (Ct.lend (containsDCt (F2.add [(mb, mObj kS es)]) y.fs _ (hfs.mono hle) 179 [] [.pointer (some ⟨b6, 0, none⟩)] (fun _ x => !hasT k (x.tn, x.ta)) (fun _ G => G = []) [] rfl (fun j z cs1 G9 hz hzR hG => by subst hG; exact full2Ct b6 b5 mb es k _ ⟨hb6.mono hle, hb5.mono hle, hmadd, hE⟩ z cs1 hzR))) rfl (by exact List.perm_append_comm (l₁ := [_, _]) (l₂ := [_])) ?_; clear S a; intro u9 G9 a w hv S; obtain ⟨rfl, rfl⟩ := hv; rw [anyP_has] at S; replace S : St _ _ _ _ _ F2 [[(b10, _)], [(b8, _)], [(mb, mObj kS es)]] _ _ := St.permI S 3 rfl [1, 2, 0] (by decide))
   (revert S a; revert hZ Z; refine go 3 ?_; intro a S)
   refine wpc_sp S rfl ?_ ?_ <;> intro h
   ·refine wp_sr fun Z hZ => ?_
    (refine wv S (sv_loadF S rfl rfl hb5) ?_; clear S a; intro a S)
    (revert S a; refine go 2 ?_; intro a S)
    (refine wv S (sv_lookupO (enc := kS) S rfl rfl rfl) ?_; clear S a; intro a S)
    (rw [if_neg (by decide), hE x.nm] at S)
    (revert S a; refine go 1 ?_; intro a S)
    (rw [show (((k.count x.nm : Nat) : Int) + 1) = ((k.count x.nm + 1 : Nat) : Int) from rfl] at S)
    (refine wpl_mapSet (enc := kS) S rfl rfl rfl rfl rfl rfl ?_; clear S; intro w S)
    (revert S a; revert hZ Z; refine go 2 ?_; intro a S)
    refine wp_goto ?_
    change _ ∧ ∃ m', _ ∧ _
    (have hok : consOK k y = true := (by assumption); have hto : tyOK k x = true := List.any_eq_true.2 ⟨y, List.mem_of_getElem? hy, hok⟩; have hmem := List.mem_of_getElem? hx; rw [← hao] at S; replace S := S.drop1.drop1; refine ⟨rfl, leftN l (k ++ [x.nm]), leftN_step hmem hnk, k ++ [x.nm], _, mb, b5, b6, F2, rfl, .step hR hmem hnk hto, hE.set x.nm, hF2, hb6, hb5, ?_⟩; refine S.keep ?_; exact zk)
   (revert S a; revert hZ Z; refine go 6 ?_; intro a S)
   change ∃ m', _ ∧ _
   (rw [← hao2] at S; replace S := S.drop1; refine ⟨x.cs.length - (i2 + 1), by omega, i2 + 1, rfl, by omega, ?_, ?_⟩; rotate_left 1; (refine S.keep ?_; exact zk); intro j z h7 h8; rcases Nat.lt_or_eq_of_le (Nat.le_of_lt_succ h7) with h6 | h6; exact hcn j z h6 h8; subst h6; rw [hy] at h8; cases h8; have hno : consOK k y = false := (by assumption); exact hno)
  (refine wp_exit ?_; conv => whnf)
  clear hZ Z
  (revert S a; revert hZ Z; refine go 5 ?_; intro a S)
  change ∃ m', _ ∧ _
  exact zzDeN1
 (refine wp_exit ?_; conv => whnf)
 clear hZ Z
 (revert S a; revert hZ Z; refine go 9 ?_; intro Z hZ a S)
 refine wpc_loop (fun m a w' => ∃ (i : Nat), m = l.length - i ∧ i ≤ l.length ∧ (∀ (j : Nat) (x : TD), j < i → l[j]? = some x → x.nm ∈ k) ∧ St 62 [(5, ptr b5), (46, .slice ao l.length cap), (47, .int .i64 l.length), (48, .int .i64 i)] w0 F [] F2 [[(mb, mObj kS es)]] a w') ?_ ?_
 ·(have hclosed : Closed l k := (by intro x hx hn; obtain ⟨j, hj⟩ := List.mem_iff_getElem?.1 hx; have hjl := (List.getElem?_eq_some_iff.1 hj).1; exact hcl j x (by omega) hj hn); refine ⟨l.length, 0, by omega, Nat.zero_le _, fun j x h => absurd h (Nat.not_lt_zero _), ?_⟩; refine S.keep ?_; exact zk)
 (clear S; rintro m a w ⟨i, rfl, hil, hall, S⟩)
 (revert S a; refine go 5 ?_; intro Z hZ a S)
 refine wpc_sp S rfl ?_ ?_ <;> intro h
 ·(revert S a; revert hZ Z; refine go 4 ?_; intro Z hZ a S)
  (refine wp_seq_k ?_; intro Z hZ)
  (obtain ⟨b9, o9, hao, x, cs1, hx, hc1, ⟨w1, w2, rfl, hps, hcs⟩⟩ := LiM.pos hpos (k := i) (by omega); rw [hao] at S; replace hc1 := Cels.mono hF2 hc1; obtain ⟨ap, cp, rfl, -, -⟩ := hps; obtain ⟨ac, cc, rfl, hcc, hposc⟩ := hcs)
  (revert S a; refine go 3 ?_; intro a S)
  (refine wpl_alloc S rfl rfl rfl rfl ?_; clear S a; intro b12 a w S)
  (refine wso S rfl rfl ?_; clear S; intro w S)
  (revert S a; revert hZ Z; refine go 3 ?_; intro Z hZ a S)
  (refine wv S (sv_loadF S rfl rfl hb5) ?_; clear S a; intro a S)
  (revert S a; refine go 2 ?_; intro a S)
  (refine wv S (sv_lookupO (enc := kS) S rfl rfl rfl) ?_; clear S a; intro a S)
  (rw [if_neg (by decide), hE x.nm] at S)
  (revert S a; revert hZ Z; refine go 3 ?_; intro a S)
  refine wpc_sp S rfl ?_ ?_ <;> intro h
  ·(revert S a; refine go 8 ?_; intro a S)
   refine wp_ret ?_
   change bodyPost _ _ _ _ _ _
   refine fin_ret S (results1 Tryz.results141 (RV.tmp S rfl)) ?_
   exact zzDeN2
  (revert S a; revert hZ Z; refine go 6 ?_; intro a S)
  change ∃ m', _ ∧ _
  (have hxx : x.nm ∈ k := (by rw [← List.count_pos_iff]; omega); rw [← hao] at S; replace S := S.drop1; refine ⟨l.length - (i + 1), by omega, i + 1, rfl, by omega, ?_, ?_⟩; rotate_left 1; (refine S.keep ?_; exact zk); intro j z h7 h8; rcases Nat.lt_or_eq_of_le (Nat.le_of_lt_succ h7) with h6 | h6; exact hall j z h6 h8; subst h6; rw [hx] at h8; cases h8; exact hxx)
 (refine wp_exit ?_; conv => whnf)
 clear hZ Z
 (revert S a; revert hZ Z; refine go 5 ?_; intro a S)
 refine wp_ret ?_
 change bodyPost _ _ _ _ _ _
 refine fin_ret S (results1 Tryz.results141 (RV.tmp S rfl)) ?_
 exact zzDeN2
end Go.Proofs.YtgefmjghdijbfaaGreatDoor
