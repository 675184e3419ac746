/- Walks. -/
import Derived.Test.YtgefmjghdijbfaaGreatDoorKEvalValuesUpto02
import Derived.Test.YtgefmjghdijbfaaGreatDoorQ12
import Derived.Test.YtgefmjghdijbfaaGreatDoorQ11
import Derived.Test.YtgefmjghdijbfaaGreatDoorQ10
set_option maxHeartbeats 8000000
set_option maxRecDepth 20000
namespace Go.Proofs.YtgefmjghdijbfaaGreatDoor
open Go Go.Wk Go.Un Go.De
set_option linter.unusedSimpArgs false
set_option linter.unusedVariables false
attribute [local irreducible] Go.wpList Go.Code.wp Go.wpStill Go.Wk.wpPre Go.bodyPost Go.Calls Go.Wk.Ct Go.Wk.OwnS Go.Wk.wpG Go.Wk.wpM
theorem zzDeG0 {p : Prop} (h : p := by (first | (have hpf : p x = true := (by assumption); have e9 : anyF p l = true := (by rw [hfp, Fo.drop_get hx]; rw [anyF_cons]; rw [show p (x.1, x.2) = true from hpf, Bool.true_or]); rw [e9]; exact ⟨_, rfl, by simp⟩) | (have e9 : anyF p l = false := (by rw [hfp, Fo.drop_len (by omega)]; rfl); rw [e9]; exact ⟨_, rfl, by simp⟩) | trace_state)) : p := h
theorem indexTCt (F : Heap) (l : Fo) (v : Value) (h : SlF F v l) (fid : FuncId) (fi ca : List Value) [hfn : HasFn Tryz.prog fid] (p : Ty → Bool)
  (hcl : ∀ k x v1, l.get? k = some x → SlF F v1 x.2 → Ct Tryz.prog fid (fi ++ [.agg ⟨[.string (bs x.1), v1]⟩] ++ ca) F [] (fun _ _ u => u = .bool (p x))) :
  Ct Tryz.prog 215 [v, .func (.func fid) ⟨fi⟩ ⟨ca⟩] F [] (fun _ _ u => ∃ i : Int, u = .int .i64 i ∧ decide (0 ≤ i) = anyF p l) := by
 obtain ⟨ao, cap, rfl, hcap, hpos⟩ := h
 refine Ct.enter Tryz.func215 rfl Tryz.ntmps215 rfl fun w0 a S => ?_
 (revert S a; refine go 12 ?_; intro Z hZ a S)
 refine wpc_loop (fun m a w' => ∃ (k : Nat), m = l.len - k ∧ k ≤ l.len ∧ anyF p l = anyF p (l.drop k) ∧ St 19 [(0, .slice ao l.len cap), (1, .func (.func fid) ⟨fi⟩ ⟨ca⟩), (7, .int .i64 l.len), (8, .int .i64 k)] w0 F [] F [] a w') ?_ ?_
 ·(refine ⟨l.len, 0, by omega, Nat.zero_le _, rfl, ?_⟩; refine S.keep ?_; exact zk)
 (clear S; rintro m a w ⟨k, rfl, hkl, hfp, S⟩)
 (revert S a; refine go 5 ?_; intro Z hZ a S)
 refine wpc_sp S rfl ?_ ?_ <;> intro h
 ·(revert S a; revert hZ Z; refine go 9 ?_; intro Z hZ a S)
  (refine wp_seq_k ?_; intro Z hZ)
  (obtain ⟨b8, o8, rfl, x, v1, hx, hc1, hT1⟩ := FoM.pos hpos (k := k) (by omega))
  (revert S a; refine go 6 ?_; intro a S)
  (refine wc0 S (hcl k x v1 hx hT1) ?_; clear S a; intro v a w hv S; subst hv)
  (revert S a; revert hZ Z; refine go 2 ?_; intro a S)
  refine wpc_sp S rfl ?_ ?_ <;> intro h
  ·(revert S a; refine go 5 ?_; intro a S)
   refine wp_ret (fr1 S Tryz.results215 ?_)
   exact zzDeG0
  (revert S a; revert hZ Z; refine go 6 ?_; intro a S)
  change ∃ m', _ ∧ _
  (refine ⟨l.len - (k + 1), by omega, k + 1, rfl, by omega, ?_, ?_⟩; rotate_left 1; (refine S.keep ?_; exact zk); rw [hfp, Fo.drop_get hx]; rw [anyF_cons, (by assumption : p x = false), Bool.false_or])
 (refine wp_exit ?_; conv => whnf)
 clear hZ Z
 (revert S a; revert hZ Z; refine go 5 ?_; intro a S)
 refine wp_ret (fr1 S Tryz.results215 ?_)
 exact zzDeG0
theorem containsTCt (F : Heap) (l : Fo) (v : Value) (h : SlF F v l) (fid : FuncId) (fi ca : List Value) [hfn : HasFn Tryz.prog fid] (p : Ty → Bool)
  (hcl : ∀ k x v1, l.get? k = some x → SlF F v1 x.2 → Ct Tryz.prog fid (fi ++ [.agg ⟨[.string (bs x.1), v1]⟩] ++ ca) F [] (fun _ _ u => u = .bool (p x))) :
  Ct Tryz.prog 177 [v, .func (.func fid) ⟨fi⟩ ⟨ca⟩] F [] (fun _ _ u => u = .bool (anyF p l)) := by
 have hc := indexTCt F l v h fid fi ca p hcl
 obtain ⟨ao, cap, rfl, hcap, hpos⟩ := h
 refine Ct.enter Tryz.func177 rfl Tryz.ntmps177 rfl fun w0 a S => ?_
 (revert S a; refine go 7 ?_; intro Z hZ a S)
 (refine wc0 S hc ?_; clear S a; intro v a w hv S; obtain ⟨i9, rfl, hi9⟩ := hv)
 (revert S a; revert hZ Z; refine go 4 ?_; intro a S)
 refine wp_ret (fr1 S Tryz.results177 ?_)
 (rw [← hi9])
def WithinD (F : Heap) (fid : FuncId) (fi ca : List Value) (p : Ty → Bool) (m : Nat) : Prop := ∀ (F' : Heap) (nm : List UInt8) (ar : Fo) (cs : List Value), ar.size < m → (∀ b o, F b = some o → F' b = some o) → TyC F' cs nm ar →
 Ct Tryz.prog 174 [.agg ⟨cs⟩, .func (.func fid) ⟨fi⟩ ⟨ca⟩] F' [] (fun _ _ u => u = .bool (wiT p (nm, ar)))
theorem within1Ct (F : Heap) (fid : FuncId) [hfn : HasFn Tryz.prog fid] (fi ca : List Value) (p : Ty → Bool) (m : Nat) (ih : WithinD F fid fi ca p m) (F' : Heap) (hF : ∀ b o, F b = some o → F' b = some o) (bc : Nat) (hbc : Cel F' bc 0 (.func (.func fid) ⟨fi⟩ ⟨ca⟩)) (nm : List UInt8) (ar : Fo) (v1 : Value) (hm : ar.size < m) (hs : SlF F' v1 ar) :
  Ct Tryz.prog 214 ([] ++ [.agg ⟨[.string (bs nm), v1]⟩] ++ [.pointer (some ⟨bc, 0, none⟩)]) F' [] (fun _ _ u => u = .bool (wiT p (nm, ar))) := by
 have hs0 := hs
 obtain ⟨ao, cap, rfl, -, -⟩ := hs
 refine Ct.enter Tryz.func214 rfl Tryz.ntmps214 rfl fun w0 a S => ?_
 refine wp_sr fun Z hZ => ?_
 (refine wbx S ?_; clear S a; intro b2 a w S)
 (revert S a; revert hZ Z; refine go 5 ?_; intro Z hZ a S)
 (refine wv S (sv_loadF S rfl rfl hbc) ?_; clear S a; intro a S)
 (refine wc0 S (ih F' nm ar _ hm hF ⟨_, rfl, hs0⟩) ?_; clear S a; intro v a w hv S; subst hv)
 (revert S a; revert hZ Z; refine go 3 ?_; intro a S)
 refine wp_ret (fr1 S Tryz.results214 ?_)
 rfl
theorem zzDeG1 {p : Prop} (h : p := by (congr 1; show _ = (p (nm, ar) || wiL p ar); rw [← anyF_wi]; first | (rw [(by assumption : p (nm, ar) = false), Bool.false_or]) | (rw [(by assumption : p (nm, ar) = true), Bool.true_or]) | trace_state)) : p := h
theorem withinCt (F : Heap) (fid : FuncId) [hfn : HasFn Tryz.prog fid] (fi ca : List Value) (p : Ty → Bool) (hcb : CbT F fid fi ca p) : ∀ m, WithinD F fid fi ca p m := by
 intro m
 induction m with
 | zero => intro F' nm ar cs hm; omega
 | succ m ih =>
 intro F' nm ar cs hm hF hT
 have hT0 := hT
 obtain ⟨v, rfl, hs⟩ := hT
 have hs0 := hs
 obtain ⟨ao, cap, rfl, -, -⟩ := hs
 refine Ct.enter Tryz.func174 rfl Tryz.ntmps174 rfl fun w0 a S => ?_
 refine wp_sr fun Z hZ => ?_
 (refine wbx S ?_; clear S a; intro b2 a w S)
 (refine wbx S ?_; clear S a; intro b3 a w S)
 (revert S a; revert hZ Z; refine go 6 ?_; intro Z hZ a S)
 (refine wc0 S (hcb F' (nm, ar) _ hF hT0) ?_; clear S a; intro v a w hv S; subst hv)
 (revert S a; refine go 1 ?_; intro a S)
 refine wgd S ?_ ?_
 ·(clear S; intro h S)
  (revert S a; refine go 6 ?_; intro a S)
  (have hle := add_le (G1 := []) S; replace S := St.freeze (G1 := []) S; (simp only [List.nil_append] at S hle); have hb3 : Cel (F'.add [(b3, .cells ⟨[.func (.func fid) ⟨fi⟩ ⟨ca⟩]⟩ 225 (0, 0))]) b3 0 (.func (.func fid) ⟨fi⟩ ⟨ca⟩) := ⟨_, _, _, Heap.add_new (p := (b3, _)) (List.mem_singleton.2 rfl) (by simp), rfl⟩; replace S : St _ _ _ _ _ (F'.add [(b3, .cells ⟨[.func (.func fid) ⟨fi⟩ ⟨ca⟩]⟩ 225 (0, 0))]) _ _ _ := S; replace hle : ∀ b o, F' b = some o → (F'.add [(b3, .cells ⟨[.func (.func fid) ⟨fi⟩ ⟨ca⟩]⟩ 225 (0, 0))]) b = some o := hle; generalize (F'.add [(b3, .cells ⟨[.func (.func fid) ⟨fi⟩ ⟨ca⟩]⟩ 225 (0, 0))]) = F2 at S hle hb3; refine wc0 S (containsTCt F2 ar _ (hs0.mono hle) 214 [] [.pointer (some ⟨b3, 0, none⟩)] (wiT p) (fun k x v1 hx hs1 => within1Ct F fid fi ca p m ih F2 (fun b o h => hle _ _ (hF _ _ h)) b3 hb3 x.1 x.2 v1 (by have := Fo.size_get hx; omega) hs1)) ?_; clear S a; intro v a w hv S; subst hv)
  (revert S a; revert hZ Z; refine go 4 ?_; intro a S)
  refine wp_ret (fr1 S Tryz.results174 ?_)
  exact zzDeG1
 (clear S a; intro h a S)
 (revert S a; revert hZ Z; refine go 7 ?_; intro a S)
 refine wp_ret (fr1 S Tryz.results174 ?_)
 exact zzDeG1
theorem open1Ct (F : Heap) : CbT F 240 [] [] (fun y => parS y.1) := by
 unfold CbT
 intro F' x cs hF hT
 obtain ⟨v, rfl, hs⟩ := hT
 obtain ⟨ao, cap, rfl, -, -⟩ := hs
 refine Ct.enter Tryz.func240 rfl Tryz.ntmps240 rfl fun w0 a S => ?_
 refine wp_sr fun Z hZ => ?_
 (refine wbx S ?_; clear S a; intro b1 a w S)
 (revert S a; revert hZ Z; refine go 6 ?_; intro Z hZ a S)
 (refine wc0 S (paramCt F' x.1) ?_; clear S a; intro v a w hv S; subst hv)
 (revert S a; revert hZ Z; refine go 3 ?_; intro a S)
 refine wp_ret (fr1 S Tryz.results240 ?_)
 rfl
theorem openCt (F : Heap) (nm : List UInt8) (ar : Fo) (cs : List Value) (h : TyC F cs nm ar) : Ct Tryz.prog 213 [.agg ⟨cs⟩] F [] (fun _ _ u => u = .bool (openT (nm, ar))) := by
 have h0 := h
 obtain ⟨v, rfl, hs⟩ := h
 obtain ⟨ao, cap, rfl, -, -⟩ := hs
 refine Ct.enter Tryz.func213 rfl Tryz.ntmps213 rfl fun w0 a S => ?_
 refine wp_sr fun Z hZ => ?_
 (refine wbx S ?_; clear S a; intro b1 a w S)
 (revert S a; revert hZ Z; refine go 5 ?_; intro Z hZ a S)
 (refine wc0 S (withinCt F 240 [] [] _ (open1Ct F) (ar.size + 1) F nm ar _ (Nat.lt_succ_self _) (fun _ _ h => h) h0) ?_; clear S a; intro v a w hv S; subst hv)
 (revert S a; revert hZ Z; refine go 3 ?_; intro a S)
 refine wp_ret (fr1 S Tryz.results213 ?_)
 rfl
theorem depthCt (F : Heap) : ∀ (n : Nat) (nm : List UInt8) (ar : Fo) (cs : List Value), ar.size ≤ n → depthL ar ≤ 1000000000 → TyC F cs nm ar → Ct Tryz.prog 208 [.agg ⟨cs⟩] F [] (fun _ _ u => u = .int .i64 (depthT (nm, ar) : Nat)) := by
 intro n
 induction n using Nat.strongRecOn with
 | _ n ih =>
 intro nm ar cs hn hb h
 obtain ⟨v, rfl, ao, cap, rfl, hcap, hpos⟩ := h
 refine Ct.enter Tryz.func208 rfl Tryz.ntmps208 rfl fun w0 a S => ?_
 refine wp_sr fun Z hZ => ?_
 (refine wbx S ?_; clear S a; intro b1 a w S)
 (revert S a; revert hZ Z; refine go 16 ?_; intro Z hZ a S)
 refine wpc_loop (fun m a w' => ∃ (k p : Nat), m = ar.len - k ∧ k ≤ ar.len ∧ max p (depthL (ar.drop k)) = depthL ar ∧ p ≤ depthL ar ∧ St 20 [(1, ptr b1), (3, .int .i64 (p : Int)), (7, .slice ao ar.len cap), (8, .int .i64 ar.len), (9, .int .i64 k)] w0 F [] F [[(b1, .cells ⟨[.string (bs nm), .slice ao ar.len cap]⟩ 88 (0, 0))]] a w') ?_ ?_
 ·(refine ⟨ar.len, 0, 0, by omega, Nat.zero_le _, by rw [Nat.zero_max]; rfl, Nat.zero_le _, ?_⟩; refine S.keep ?_; exact zk)
 (clear S; rintro m a w ⟨k, p, rfl, hkl, hs, hp, S⟩)
 (revert S a; refine go 5 ?_; intro Z hZ a S)
 refine wpc_sp S rfl ?_ ?_ <;> intro h
 ·(revert S a; revert hZ Z; refine go 4 ?_; intro Z hZ a S)
  (refine wp_seq_k ?_; intro Z hZ)
  (obtain ⟨b8, o8, hao, x, v1, hx, hc1, hT1⟩ := FoM.pos hpos (k := k) (by omega); rw [hao] at S; have hxs := Fo.size_get hx; have hdd := depthL_get hx; have hdr := Fo.drop_get hx; have hT1c := hT1; obtain ⟨a91, c91, rfl, -⟩ := hT1c)
  (revert S a; refine go 3 ?_; intro a S)
  (refine wpl_alloc S rfl rfl rfl rfl ?_; clear S a; intro b5 a w S)
  (refine wso S rfl rfl ?_; clear S; intro w S)
  (revert S a; revert hZ Z; refine go 5 ?_; intro a S)
  (refine wc0 S (ih x.2.size (by omega) x.1 x.2 _ (Nat.le_refl _) (by omega) ⟨_, rfl, hT1⟩) ?_; clear S a; intro v a w hv S; subst hv)
  first | (refine wv S (sv_maxN S rfl rfl rfl) ?_; clear S a; intro a S) | (refine wv S (sv_max0 S rfl rfl rfl) ?_; clear S a; intro a S)
  (revert S a; revert hZ Z; refine go 7 ?_; intro a S)
  change ∃ m', _ ∧ _
  (rw [← hao] at S; replace S := S.drop1; refine ⟨ar.len - (k + 1), by omega, k + 1, max p (depthT x), rfl, by omega, ?_, ?_, ?_⟩; rotate_left 2; (refine S.keep ?_; exact zk); (rw [← hs, hdr]; unfold depthT; simp only [depthL]; omega); (unfold depthT; omega))
 (refine wp_exit ?_; conv => whnf)
 clear hZ Z
 (revert S a; revert hZ Z; refine go 7 ?_; intro a S)
 refine wp_ret (fr1 S Tryz.results208 ?_)
 (have hz : depthL (ar.drop k) = 0 := (by rw [Fo.drop_len (by omega)]; rfl); congr 1; unfold depthT; show (p : Int) + 1 = ((depthL ar + 1 : Nat) : Int); omega)
def zTD : TD := ⟨0, 0, false, [], [], []⟩
theorem get_td {F : Heap} {es : List (List UInt8 × Value)} {ts : List TD} (hm : MapM F TdR TD.nm es ts) (s : List UInt8) :
  ∃ (x : TD) (ap : Option Addr) (cp : Nat) (ac : Option Addr) (cc : Nat), (mGet es s).getD (.agg #[.int .i64 0, .int .i64 0, .bool false, .string { data := #[] }, .slice none 0 0, .slice none 0 0]) = .agg ⟨[.int .i64 x.l, .int .i64 x.c, .bool x.pub, .string (bs x.nm), .slice ap x.ps.length cp, .slice ac x.cs.length cc]⟩ ∧
   LiM F 1 StR (.slice ap x.ps.length cp) x.ps ∧ LiM F 2 CdR (.slice ac x.cs.length cc) x.cs ∧ (findT ts s = some x ∨ findT ts s = none ∧ x = zTD) ∧ (mGet es s).isSome = declS ts s := by
 rcases hm.get s with ⟨x, cs, h1, h2, v, u, rfl, h3, h4⟩ | ⟨h1, h2⟩
 ·have h3c := h3
  have h4c := h4
  obtain ⟨ap, cp, rfl, -, -⟩ := h3c
  obtain ⟨ac, cc, rfl, -, -⟩ := h4c
  exact ⟨x, ap, cp, ac, cc, by rw [h2]; rfl, h3, h4, .inl h1, by rw [h2]; unfold declS findT; rw [h1]; rfl⟩
 ·exact ⟨zTD, none, 0, none, 0, by rw [h2]; rfl, LiM.nil _ _ _, LiM.nil _ _ _, .inr ⟨h1, rfl⟩, by rw [h2]; unfold declS findT; rw [h1]; rfl⟩
theorem par_len {ts : List TD} {s : List UInt8} {x : TD} (h : findT ts s = some x ∨ findT ts s = none ∧ x = zTD) : parN ts s = x.ps.length := by
 unfold parN
 rcases h with h | ⟨h, rfl⟩ <;> rw [h]
 rfl
def CbS (F : Heap) (fid : FuncId) (fi ca : List Value) (p : List UInt8 → Bool) : Prop := ∀ (F' : Heap) (s : List UInt8), (∀ b o, F b = some o → F' b = some o) → Ct Tryz.prog fid (fi ++ [.string (bs s)] ++ ca) F' [] (fun _ _ u => u = .bool (p s))
theorem use1Ct (F : Heap) (tb m1 bt : Nat) (ts : List TD) (hT : TyS F tb m1 ts) (hbt : Cel F bt 0 (ptr tb)) : CbS F 206 [] [.pointer (some ⟨bt, 0, none⟩)] (declS ts) := by
 unfold CbS
 intro F' s hF
 replace hbt := hbt.mono hF
 obtain ⟨hc, es, hes, hm⟩ := hT.mono hF
 have hg := hm.get s
 refine Ct.enter Tryz.func206 rfl Tryz.ntmps206 rfl fun w0 a S => ?_
 (revert S a; refine go 5 ?_; intro Z hZ a S)
 (refine wv S (sv_loadF S rfl rfl hbt) ?_; clear S a; intro a S)
 (revert S a; refine go 2 ?_; intro a S)
 (refine wv S (sv_loadF S rfl rfl hc) ?_; clear S a; intro a S)
 (revert S a; refine go 1 ?_; intro a S)
 (refine wv S (sv_lookupF (enc := kS) S rfl rfl rfl hes) ?_; clear S a; intro a S)
 (obtain ⟨x, ap, cp, ac, cc, hgd, hps, hcs, hx, his⟩ := get_td hm s; rw [if_pos rfl, hgd, his] at S)
 (revert S a; refine go 3 ?_; intro a S)
 (refine wpl_alloc S rfl rfl rfl rfl ?_; clear S a; intro b4 a w S)
 (refine wso S rfl rfl ?_; clear S; intro w S)
 (revert S a; revert hZ Z; refine go 8 ?_; intro a S)
 refine wp_ret (fr1 S Tryz.results206 ?_)
 rfl
theorem beqN (n m : Nat) : ((n : Int) == (m : Int)) = decide (n = m) := by
 rw [Bool.eq_iff_iff, beq_iff_eq, decide_eq_true_eq]; omega
theorem ble16 (n : Nat) : decide ((n : Int) ≤ 16) = decide (n ≤ 16) := by
 rw [Bool.eq_iff_iff, decide_eq_true_eq, decide_eq_true_eq]; omega
theorem zzDeH0 {p : Prop} (h : p := by (congr 1; unfold countsT; first | (rw [if_pos (by first | exact .inl (by assumption) | exact .inr (by assumption))]; exact beqN _ 0) | (have hnp : ¬ (plainS (nm, ar).1 = true ∨ parS (nm, ar).1 = true) := (by rintro (h9 | h9) <;> simp_all); first | (have htu : (nm, ar).1 = sTuple := (by assumption); rw [if_neg hnp, if_pos htu]; first | (rw [show decide ((nm, ar).2.len ≠ 1) = true from decide_eq_true (show ar.len ≠ 1 by omega), Bool.true_and]; exact ble16 _) | (rw [show decide ((nm, ar).2.len ≠ 1) = false from decide_eq_false (show ¬ ar.len ≠ 1 by omega)]; rfl)) | (have hnt : ¬ (nm, ar).1 = sTuple := (by assumption); rw [if_neg hnp, if_neg hnt, par_len hx]; exact beqN _ _) | trace_state))) : p := h
theorem use2Ct (F : Heap) (tb m1 bt : Nat) (ts : List TD) (hT : TyS F tb m1 ts) (hbt : Cel F bt 0 (ptr tb)) : CbT F 207 [] [.pointer (some ⟨bt, 0, none⟩)] (countsT ts) := by
 unfold CbT
 intro F' x cs hF hty
 obtain ⟨nm, ar⟩ := x
 obtain ⟨v, rfl, hs⟩ := hty
 obtain ⟨ao, cap, rfl, hcap, -⟩ := hs
 replace hbt := hbt.mono hF
 obtain ⟨hc, es, hes, hm⟩ := hT.mono hF
 refine Ct.enter Tryz.func207 rfl Tryz.ntmps207 rfl fun w0 a S => ?_
 refine wp_sr fun Z hZ => ?_
 (refine wbx S ?_; clear S a; intro b2 a w S)
 (revert S a; revert hZ Z; refine go 15 ?_; intro Z hZ Z hZ a S)
 (refine wc0 S (plainCt F' nm) ?_; clear S a; intro v a w hv S; subst hv)
 (revert S a; refine go 1 ?_; intro a S)
 refine wgd S ?_ ?_
 ·(clear S; intro h S)
  (revert S a; refine go 4 ?_; intro a S)
  (refine wc0 S (paramCt F' nm) ?_; clear S a; intro v a w hv S; subst hv)
  (revert S a; revert hZ Z; refine go 4 ?_; intro a S)
  refine wpc_sp S rfl ?_ ?_ <;> intro h
  ·(revert S a; refine go 6 ?_; intro a S)
   refine wp_ret (fr1 S Tryz.results207 ?_)
   exact zzDeH0
  (revert S a; refine go 7 ?_; intro a S)
  refine wpc_sp S rfl ?_ ?_ <;> intro h
  ·(revert S a; refine go 4 ?_; intro Z hZ a S)
   refine wgd S ?_ ?_
   ·(clear S; intro h S)
    (revert S a; revert hZ Z; refine go 7 ?_; intro a S)
    refine wp_ret (fr1 S Tryz.results207 ?_)
    exact zzDeH0
   (clear S a; intro h a S)
   (revert S a; revert hZ Z; refine go 5 ?_; intro a S)
   refine wp_ret (fr1 S Tryz.results207 ?_)
   exact zzDeH0
  refine wp_skip ?_
  (refine hZ _ _ ?_; clear hZ Z)
  (refine wp_seq_k ?_; intro Z hZ)
  (refine wpc_mixM [0, 1, 2, 3, 4, 5, 6, 7, 8, 9, 10] [1, 4, 6, 7] [] (.one 0 (.one 1 (.one 2 (.one 3 (.one 4 (.one 5 (.one 6 (.one 7 (.one 8 (.one 9 (.one 10 (.one 11 .nil)))))))))))) [b2] S mixed (by kernel_rfl) ?_; clear S; intro w S)
  (revert S a; refine go 1 ?_; intro a S)
  (refine wlF S rfl (fun w' S => sv_loadF S rfl rfl hbt) ?_; clear S a; intro a S)
  (revert S a; refine go 2 ?_; intro a S)
  (refine wlF S rfl (fun w' S => sv_loadF S rfl rfl hc) ?_; clear S a; intro a S)
  (revert S a; refine go 2 ?_; intro a S)
  (refine wlF S rfl (fun w' S => sv_lookupF (enc := kS) S rfl rfl rfl hes) ?_; clear S a; intro a S)
  (obtain ⟨x, ap, cp, ac, cc, hgd, hps, hcs, hx, his⟩ := get_td hm nm; rw [if_neg (by decide), hgd] at S)
  (refine wpm_v S rfl rfl rfl (want_none _ rfl) rfl rfl (fun w' S => sv_field1 S rfl rfl rfl inferInstance rfl) ?_; clear S a; intro a S)
  (revert S a; revert hZ Z; refine go 7 ?_; intro a S)
  refine wp_ret (fr1 S Tryz.results207 ?_)
  exact zzDeH0
 (clear S a; intro h a S)
 (revert S a; revert hZ Z; refine go 6 ?_; intro a S)
 refine wpc_true S rfl ?_
 (revert S a; refine go 6 ?_; intro a S)
 refine wp_ret (fr1 S Tryz.results207 ?_)
 exact zzDeH0
theorem use3Ct (F : Heap) (bd : Nat) (ts : List TD) (fid : FuncId) [hfn : HasFn Tryz.prog fid] (fi ca : List Value) (hd : CbS F fid fi ca (declS ts)) (hbd : Cel F bd 0 (.func (.func fid) ⟨fi⟩ ⟨ca⟩)) : CbT F 209 [] [.pointer (some ⟨bd, 0, none⟩)] (nameT ts) := by
 unfold CbT
 intro F' x cs hF hty
 obtain ⟨nm, ar⟩ := x
 obtain ⟨v, rfl, hs⟩ := hty
 obtain ⟨ao, cap, rfl, hcap, -⟩ := hs
 replace hbd := hbd.mono hF
 refine Ct.enter Tryz.func209 rfl Tryz.ntmps209 rfl fun w0 a S => ?_
 refine wp_sr fun Z hZ => ?_
 (refine wbx S ?_; clear S a; intro b2 a w S)
 (revert S a; revert hZ Z; refine go 6 ?_; intro Z hZ a S)
 (refine wc0 S (plainCt F' nm) ?_; clear S a; intro v a w hv S; subst hv)
 (revert S a; refine go 2 ?_; intro a S)
 refine wgd S ?_ ?_
 ·(clear S; intro h S)
  (revert S a; refine go 4 ?_; intro a S)
  (refine wc0 S (paramCt F' nm) ?_; clear S a; intro v a w hv S; subst hv)
  (revert S a; refine go 4 ?_; intro a S)
  refine wgd S ?_ ?_
  ·(clear S; intro h S)
   (revert S a; refine go 7 ?_; intro a S)
   refine wgd S ?_ ?_
   ·(clear S; intro h S)
    (refine wv S (sv_loadF S rfl rfl hbd) ?_; clear S a; intro a S)
    (revert S a; refine go 5 ?_; intro a S)
    (refine wc0 S (hd F' nm hF) ?_; clear S a; intro v a w hv S; subst hv)
    (revert S a; revert hZ Z; refine go 6 ?_; intro a S)
    refine wp_ret (fr1 S Tryz.results209 ?_)
    (unfold nameT; congr 1; simp [sTuple, *])
   (clear S a; intro h a S)
   (revert S a; revert hZ Z; refine go 8 ?_; intro a S)
   refine wp_ret (fr1 S Tryz.results209 ?_)
   (unfold nameT; congr 1; simp [sTuple, *])
  (clear S a; intro h a S)
  (revert S a; revert hZ Z; refine go 13 ?_; intro a S)
  refine wp_ret (fr1 S Tryz.results209 ?_)
  (unfold nameT; congr 1; simp [sTuple, *])
 (clear S a; intro h a S)
 (revert S a; revert hZ Z; refine go 19 ?_; intro a S)
 refine wp_ret (fr1 S Tryz.results209 ?_)
 (unfold nameT; congr 1; simp [sTuple, *])
theorem use4Ct (F : Heap) (bd : Nat) (p : Ty → Bool) (fid : FuncId) [hfn : HasFn Tryz.prog fid] (fi ca : List Value) (hd : CbT F fid fi ca p) (hbd : Cel F bd 0 (.func (.func fid) ⟨fi⟩ ⟨ca⟩)) : CbT F 210 [] [.pointer (some ⟨bd, 0, none⟩)] (fun y => !p y) := by
 unfold CbT
 intro F' x cs hF hty
 obtain ⟨nm, ar⟩ := x
 have hty0 := hty
 obtain ⟨v, rfl, hs⟩ := hty
 obtain ⟨ao, cap, rfl, hcap, -⟩ := hs
 replace hbd := hbd.mono hF
 refine Ct.enter Tryz.func210 rfl Tryz.ntmps210 rfl fun w0 a S => ?_
 refine wp_sr fun Z hZ => ?_
 (refine wbx S ?_; clear S a; intro b2 a w S)
 (revert S a; revert hZ Z; refine go 4 ?_; intro Z hZ a S)
 (refine wv S (sv_loadF S rfl rfl hbd) ?_; clear S a; intro a S)
 (revert S a; refine go 1 ?_; intro a S)
 (refine wc0 S (hd F' (nm, ar) _ hF hty0) ?_; clear S a; intro v a w hv S; subst hv)
 (revert S a; revert hZ Z; refine go 4 ?_; intro a S)
 refine wp_ret (fr1 S Tryz.results210 ?_)
 rfl
theorem use51Ct (F : Heap) : CbT F 212 [] [] (fun z => !parS z.1 && openT z) := by
 unfold CbT
 intro F' x cs hF hty
 obtain ⟨nm, ar⟩ := x
 have hty0 := hty
 obtain ⟨v, rfl, hs⟩ := hty
 obtain ⟨ao, cap, rfl, hcap, -⟩ := hs
 refine Ct.enter Tryz.func212 rfl Tryz.ntmps212 rfl fun w0 a S => ?_
 refine wp_sr fun Z hZ => ?_
 (refine wbx S ?_; clear S a; intro b1 a w S)
 (revert S a; revert hZ Z; refine go 6 ?_; intro Z hZ a S)
 (refine wc0 S (paramCt F' nm) ?_; clear S a; intro v a w hv S; subst hv)
 (revert S a; refine go 2 ?_; intro a S)
 refine wgd S ?_ ?_
 ·(clear S; intro h S)
  (revert S a; refine go 2 ?_; intro a S)
  (refine wc0 S (openCt F' nm ar _ hty0) ?_; clear S a; intro v a w hv S; subst hv)
  (revert S a; revert hZ Z; refine go 4 ?_; intro a S)
  refine wp_ret (fr1 S Tryz.results212 ?_)
  (congr 1; simp [*])
 (clear S a; intro h a S)
 (revert S a; revert hZ Z; refine go 5 ?_; intro a S)
 refine wp_ret (fr1 S Tryz.results212 ?_)
 (congr 1; simp [*])
theorem use5Ct (F : Heap) (bd : Nat) (ts : List TD) (fid : FuncId) [hfn : HasFn Tryz.prog fid] (fi ca : List Value) (hd : CbS F fid fi ca (declS ts)) (hbd : Cel F bd 0 (.func (.func fid) ⟨fi⟩ ⟨ca⟩)) : CbT F 211 [] [.pointer (some ⟨bd, 0, none⟩)] (growT ts) := by
 unfold CbT
 intro F' x cs hF hty
 obtain ⟨nm, ar⟩ := x
 obtain ⟨v, rfl, hs⟩ := hty
 have hs0 := hs
 obtain ⟨ao, cap, rfl, hcap, -⟩ := hs
 replace hbd := hbd.mono hF
 refine Ct.enter Tryz.func211 rfl Tryz.ntmps211 rfl fun w0 a S => ?_
 refine wp_sr fun Z hZ => ?_
 (refine wbx S ?_; clear S a; intro b2 a w S)
 (revert S a; revert hZ Z; refine go 4 ?_; intro Z hZ a S)
 (refine wv S (sv_loadF S rfl rfl hbd) ?_; clear S a; intro a S)
 (revert S a; refine go 2 ?_; intro a S)
 (refine wc0 S (hd F' nm hF) ?_; clear S a; intro v a w hv S; subst hv)
 (revert S a; refine go 1 ?_; intro a S)
 refine wgd S ?_ ?_
 ·(clear S; intro h S)
  (revert S a; refine go 4 ?_; intro a S)
  (refine wc0 S (containsTCt F' ar _ hs0 212 [] [] _ (fun k y v1 hy hs1 => use51Ct F' F' y _ (fun _ _ h => h) ⟨v1, rfl, hs1⟩)) ?_; clear S a; intro v a w hv S; subst hv)
  (revert S a; revert hZ Z; refine go 4 ?_; intro a S)
  refine wp_ret (fr1 S Tryz.results211 ?_)
  (unfold growT; congr 1; simp [*])
 (clear S a; intro h a S)
 (revert S a; revert hZ Z; refine go 6 ?_; intro a S)
 refine wp_ret (fr1 S Tryz.results211 ?_)
 (unfold growT; congr 1; simp [*])
theorem zzDeH1 {p : Prop} (h : p := by (unfold useT; first | (rw [if_pos (by omega)]; done) | (rw [if_neg (by omega), if_pos (by assumption)]; done) | (rw [if_neg (by omega), if_neg (by simp [*]), if_pos (by assumption)]; done) | (rw [if_neg (by omega), if_neg (by simp [*]), if_neg (by simp [*]), if_pos (by assumption)]; done) | (rw [if_neg (by omega), if_neg (by simp [*]), if_neg (by simp [*]), if_neg (by simp [*])]; done) | trace_state)) : p := h
theorem useCt (F : Heap) (tb m1 : Nat) (ts : List TD) (hT : TyS F tb m1 ts) (nm : List UInt8) (ar : Fo) (cs : List Value) (hsz : depthL ar ≤ 100000000) (h : TyC F cs nm ar) : Ct Tryz.prog 173 [.pointer (some ⟨tb, 0, none⟩), .agg ⟨cs⟩] F [] (fun _ _ u => u = .int .i64 (useT ts (nm, ar))) := by
 have h0 := h
 obtain ⟨v, rfl, hs⟩ := h
 obtain ⟨ao, cap, rfl, hcap, -⟩ := hs
 refine Ct.enter Tryz.func173 rfl Tryz.ntmps173 rfl fun w0 a S => ?_
 refine wp_sr fun Z hZ => ?_
 (refine wbx S ?_; clear S a; intro b2 a w S)
 (refine wbx S ?_; clear S a; intro b3 a w S)
 (revert S a; revert hZ Z; refine go 5 ?_; intro Z hZ a S)
 (refine wpl_alloc S rfl rfl rfl rfl ?_; clear S a; intro b5 a w S)
 (refine wpl_store1 S rfl rfl rfl rfl rfl rfl (by first | (simp; done) | (simp [Value.cells]; done) | exact Nat.le_of_ble_eq_true rfl) ?_; clear S; intro w S)
 (revert S a; revert hZ Z; refine go 4 ?_; intro Z hZ a S)
 (refine wpl_alloc S rfl rfl rfl rfl ?_; clear S a; intro b6 a w S)
 (refine wpl_store1 S rfl rfl rfl rfl rfl rfl (by first | (simp; done) | (simp [Value.cells]; done) | exact Nat.le_of_ble_eq_true rfl) ?_; clear S; intro w S)
 (revert S a; revert hZ Z; refine go 4 ?_; intro Z hZ a S)
 (refine wp_seq_k ?_; intro Z hZ)
 (replace S : St _ _ _ _ _ F [[(b2, .cells ⟨[.pointer (some ⟨tb, 0, none⟩)]⟩ 40 (0, 0))], [(b5, .cells ⟨[.func (.func 206) ⟨[]⟩ ⟨[.pointer (some ⟨b2, 0, none⟩)]⟩]⟩ 148 (0, 0))], [(b6, .cells ⟨[.func (.func 207) ⟨[]⟩ ⟨[.pointer (some ⟨b2, 0, none⟩)]⟩]⟩ 225 (0, 0))], [(b3, .cells ⟨[.string (bs nm), .slice ao ar.len cap]⟩ 88 (0, 0))]] _ _ := St.permI S 4 rfl [3, 1, 0, 2] (by decide); have hle1 := add_le (G1 := []) S; replace S := St.freeze (G1 := []) S; (simp only [List.nil_append] at S hle1); have hb2 : Cel (F.add [(b2, .cells ⟨[.pointer (some ⟨tb, 0, none⟩)]⟩ 40 (0, 0))]) b2 0 (ptr tb) := ⟨_, _, _, Heap.add_new (p := (b2, _)) (List.mem_singleton.2 rfl) (by simp), rfl⟩; generalize (F.add [(b2, .cells ⟨[.pointer (some ⟨tb, 0, none⟩)]⟩ 40 (0, 0))]) = F1 at S hle1 hb2; have hle2 := add_le (G1 := []) S; replace S := St.freeze (G1 := []) S; (simp only [List.nil_append] at S hle2); have hb5 : Cel (F1.add [(b5, .cells ⟨[.func (.func 206) ⟨[]⟩ ⟨[.pointer (some ⟨b2, 0, none⟩)]⟩]⟩ 148 (0, 0))]) b5 0 (.func (.func 206) ⟨[]⟩ ⟨[.pointer (some ⟨b2, 0, none⟩)]⟩) := ⟨_, _, _, Heap.add_new (p := (b5, _)) (List.mem_singleton.2 rfl) (by simp), rfl⟩; generalize (F1.add [(b5, .cells ⟨[.func (.func 206) ⟨[]⟩ ⟨[.pointer (some ⟨b2, 0, none⟩)]⟩]⟩ 148 (0, 0))]) = F2 at S hle2 hb5; have hle3 := add_le (G1 := []) S; replace S := St.freeze (G1 := []) S; (simp only [List.nil_append] at S hle3); have hb6 : Cel (F2.add [(b6, .cells ⟨[.func (.func 207) ⟨[]⟩ ⟨[.pointer (some ⟨b2, 0, none⟩)]⟩]⟩ 225 (0, 0))]) b6 0 (.func (.func 207) ⟨[]⟩ ⟨[.pointer (some ⟨b2, 0, none⟩)]⟩) := ⟨_, _, _, Heap.add_new (p := (b6, _)) (List.mem_singleton.2 rfl) (by simp), rfl⟩; generalize (F2.add [(b6, .cells ⟨[.func (.func 207) ⟨[]⟩ ⟨[.pointer (some ⟨b2, 0, none⟩)]⟩]⟩ 225 (0, 0))]) = F3 at S hle3 hb6; replace hb5 := hb5.mono hle3; replace hb2 := (hb2.mono hle2).mono hle3; have hF3 : ∀ b o, F b = some o → F3 b = some o := (fun b o h => hle3 _ _ (hle2 _ _ (hle1 _ _ h))); have hT3 := hT.mono hF3; have h3 := h0.mono hF3; have hd1 := use1Ct F3 tb m1 b2 ts hT3 hb2; have hd2 := use2Ct F3 tb m1 b2 ts hT3 hb2)
 (revert S a; refine go 2 ?_; intro a S)
 (refine wc0 S (depthCt F3 ar.size nm ar _ (Nat.le_refl _) (by omega) h3) ?_; clear S a; intro v a w hv S; subst hv)
 (revert S a; revert hZ Z; refine go 4 ?_; intro a S)
 refine wpc_sp S rfl ?_ ?_ <;> intro h
 ·(revert S a; refine go 4 ?_; intro a S)
  refine wp_ret (fr1 S Tryz.results173 ?_)
  exact zzDeH1
 (revert S a; refine go 3 ?_; intro Z hZ a S)
 (refine wc0 S (withinCt F3 209 [] [.pointer (some ⟨b5, 0, none⟩)] _ (use3Ct F3 b5 ts _ [] _ hd1 hb5) (ar.size + 1) F3 nm ar _ (Nat.lt_succ_self _) (fun _ _ h => h) h3) ?_; clear S a; intro v a w hv S; subst hv)
 (revert S a; revert hZ Z; refine go 3 ?_; intro a S)
 refine wpc_sp S rfl ?_ ?_ <;> intro h
 ·(revert S a; refine go 4 ?_; intro a S)
  refine wp_ret (fr1 S Tryz.results173 ?_)
  exact zzDeH1
 (revert S a; refine go 3 ?_; intro Z hZ a S)
 (refine wc0 S (withinCt F3 210 [] [.pointer (some ⟨b6, 0, none⟩)] _ (use4Ct F3 b6 _ _ [] _ hd2 hb6) (ar.size + 1) F3 nm ar _ (Nat.lt_succ_self _) (fun _ _ h => h) h3) ?_; clear S a; intro v a w hv S; subst hv)
 (revert S a; revert hZ Z; refine go 3 ?_; intro a S)
 refine wpc_sp S rfl ?_ ?_ <;> intro h
 ·(revert S a; refine go 4 ?_; intro a S)
  refine wp_ret (fr1 S Tryz.results173 ?_)
  exact zzDeH1
 (revert S a; refine go 3 ?_; intro Z hZ a S)
 (refine wc0 S (withinCt F3 211 [] [.pointer (some ⟨b5, 0, none⟩)] _ (use5Ct F3 b5 ts _ [] _ hd1 hb5) (ar.size + 1) F3 nm ar _ (Nat.lt_succ_self _) (fun _ _ h => h) h3) ?_; clear S a; intro v a w hv S; subst hv)
 (revert S a; revert hZ Z; refine go 3 ?_; intro a S)
 refine wpc_sp S rfl ?_ ?_ <;> intro h
 ·(revert S a; refine go 4 ?_; intro a S)
  refine wp_ret (fr1 S Tryz.results173 ?_)
  exact zzDeH1
 (revert S a; revert hZ Z; refine go 6 ?_; intro a S)
 refine wp_ret (fr1 S Tryz.results173 ?_)
 exact zzDeH1
theorem zzDeI0 {p : Prop} (h : p := by (first | (have h9 := hown; rw [List.flatMap_nil, List.nil_append, Nat.zero_add] at hown; exact ⟨_, _, rfl, hown, hxc⟩) | (have hz : l = [] := (by cases l with | nil => rfl | cons x r => (exfalso; obtain ⟨b, o, e, -⟩ := hxp (by simp); have hno : ao.isNone = true := (by assumption); rw [e] at hno; cases hno)); subst hz; exact ⟨[], [], rfl, OwnS.nil _ _, rfl⟩) | trace_state)) : p := h
theorem cloneSCt (F : Heap) (v : Value) (l : List (List UInt8)) (h : LiM F 1 StR v l) (hl : l.length ≤ 2000000) : Ct Tryz.prog 47 [v] F [] (fun _ G' u => ∃ g xs, G' = [g] ∧ OwnS 9 1 u l.length xs g ∧ LiC F 1 StR xs l) := by
 obtain ⟨ao, cap, xs, rfl, hxc, hxp⟩ := h.flat
 have hxl := hxc.len
 have hx1 := hxc.one'
 refine Ct.enter Tryz.func47 rfl Tryz.ntmps47 rfl fun w0 a S => ?_
 (revert S a; refine go 10 ?_; intro Z hZ a S)
 refine wpc_sp S rfl ?_ ?_ <;> intro h
 ·(revert S a; refine go 4 ?_; intro a S)
  refine wp_ret ?_
  (first | (have h9 := hown; skip) | (replace S := S.nilg))
  refine fin_ret S (results1 Tryz.results47 (RV.tmp S rfl)) ?_
  exact zzDeI0
 (revert S a; revert hZ Z; refine go 3 ?_; intro Z hZ a S)
 (refine wpl_buildSlice S rfl rfl rfl rfl rfl rfl (by rfl) (by simp [Value.cells, splice, splice]) rfl (by rfl) (by rfl) ?_; clear S a; intro b5 a w hown S)
 (revert S a; refine go 1 ?_; intro a S)
 (refine wpl_appendSl S rfl rfl rfl rfl rfl rfl hown (by rfl) hxl hxp hx1 (by omega) (by omega) ?_; clear hown S a; intro v g a w hown S)
 (revert S a; revert hZ Z; refine go 3 ?_; intro a S)
 refine wp_ret ?_
 (first | (have h9 := hown; skip) | (replace S := S.nilg))
 refine fin_ret S (results1 Tryz.results47 (RV.tmp S rfl)) ?_
 exact zzDeI0
theorem cloneTCt (F : Heap) (v : Value) (l : List TD) (h : LiM F 6 TdR v l) (hl : l.length ≤ 2000000) : Ct Tryz.prog 45 [v] F [] (fun _ G' u => ∃ g xs, G' = [g] ∧ OwnS 97 6 u l.length xs g ∧ LiC F 6 TdR xs l) := by
 obtain ⟨ao, cap, xs, rfl, hxc, hxp⟩ := h.flat
 have hxl := hxc.len
 have hx1 := hxc.one'
 refine Ct.enter Tryz.func45 rfl Tryz.ntmps45 rfl fun w0 a S => ?_
 (revert S a; refine go 10 ?_; intro Z hZ a S)
 refine wpc_sp S rfl ?_ ?_ <;> intro h
 ·(revert S a; refine go 4 ?_; intro a S)
  refine wp_ret ?_
  (first | (have h9 := hown; skip) | (replace S := S.nilg))
  refine fin_ret S (results1 Tryz.results45 (RV.tmp S rfl)) ?_
  exact zzDeI0
 (revert S a; revert hZ Z; refine go 3 ?_; intro Z hZ a S)
 (refine wpl_buildSlice S rfl rfl rfl rfl rfl rfl (by rfl) (by simp [Value.cells, splice, splice]) rfl (by rfl) (by rfl) ?_; clear S a; intro b5 a w hown S)
 (revert S a; refine go 1 ?_; intro a S)
 (refine wpl_appendSl S rfl rfl rfl rfl rfl rfl hown (by rfl) hxl hxp hx1 (by omega) (by omega) ?_; clear hown S a; intro v g a w hown S)
 (revert S a; revert hZ Z; refine go 3 ?_; intro a S)
 refine wp_ret ?_
 (first | (have h9 := hown; skip) | (replace S := S.nilg))
 refine fin_ret S (results1 Tryz.results45 (RV.tmp S rfl)) ?_
 exact zzDeI0
theorem cloneRCt (F : Heap) (v : Value) (l : List RD) (h : LiM F 6 RdR v l) (hl : l.length ≤ 2000000) : Ct Tryz.prog 46 [v] F [] (fun _ G' u => ∃ g xs, G' = [g] ∧ OwnS 111 6 u l.length xs g ∧ LiC F 6 RdR xs l) := by
 obtain ⟨ao, cap, xs, rfl, hxc, hxp⟩ := h.flat
 have hxl := hxc.len
 have hx1 := hxc.one'
 refine Ct.enter Tryz.func46 rfl Tryz.ntmps46 rfl fun w0 a S => ?_
 (revert S a; refine go 10 ?_; intro Z hZ a S)
 refine wpc_sp S rfl ?_ ?_ <;> intro h
 ·(revert S a; refine go 4 ?_; intro a S)
  refine wp_ret ?_
  (first | (have h9 := hown; skip) | (replace S := S.nilg))
  refine fin_ret S (results1 Tryz.results46 (RV.tmp S rfl)) ?_
  exact zzDeI0
 (revert S a; revert hZ Z; refine go 3 ?_; intro Z hZ a S)
 (refine wpl_buildSlice S rfl rfl rfl rfl rfl rfl (by rfl) (by simp [Value.cells, splice, splice]) rfl (by rfl) (by rfl) ?_; clear S a; intro b5 a w hown S)
 (revert S a; refine go 1 ?_; intro a S)
 (refine wpl_appendSl S rfl rfl rfl rfl rfl rfl hown (by rfl) hxl hxp hx1 (by omega) (by omega) ?_; clear hown S a; intro v g a w hown S)
 (revert S a; revert hZ Z; refine go 3 ?_; intro a S)
 refine wp_ret ?_
 (first | (have h9 := hown; skip) | (replace S := S.nilg))
 refine fin_ret S (results1 Tryz.results46 (RV.tmp S rfl)) ?_
 exact zzDeI0
theorem cloneCCt (F : Heap) (v : Value) (l : List CD) (h : LiM F 2 CdR v l) (hl : l.length ≤ 2000000) : Ct Tryz.prog 48 [v] F [] (fun _ G' u => ∃ g xs, G' = [g] ∧ OwnS 93 2 u l.length xs g ∧ LiC F 2 CdR xs l) := by
 obtain ⟨ao, cap, xs, rfl, hxc, hxp⟩ := h.flat
 have hxl := hxc.len
 have hx1 := hxc.one'
 refine Ct.enter Tryz.func48 rfl Tryz.ntmps48 rfl fun w0 a S => ?_
 (revert S a; refine go 10 ?_; intro Z hZ a S)
 refine wpc_sp S rfl ?_ ?_ <;> intro h
 ·(revert S a; refine go 4 ?_; intro a S)
  refine wp_ret ?_
  (first | (have h9 := hown; skip) | (replace S := S.nilg))
  refine fin_ret S (results1 Tryz.results48 (RV.tmp S rfl)) ?_
  exact zzDeI0
 (revert S a; revert hZ Z; refine go 3 ?_; intro Z hZ a S)
 (refine wpl_buildSlice S rfl rfl rfl rfl rfl rfl (by rfl) (by simp [Value.cells, splice, splice]) rfl (by rfl) (by rfl) ?_; clear S a; intro b5 a w hown S)
 (revert S a; refine go 1 ?_; intro a S)
 (refine wpl_appendSl S rfl rfl rfl rfl rfl rfl hown (by rfl) hxl hxp hx1 (by omega) (by omega) ?_; clear hown S a; intro v g a w hown S)
 (revert S a; revert hZ Z; refine go 3 ?_; intro a S)
 refine wp_ret ?_
 (first | (have h9 := hown; skip) | (replace S := S.nilg))
 refine fin_ret S (results1 Tryz.results48 (RV.tmp S rfl)) ?_
 exact zzDeI0
theorem ownedCt (F : Heap) (l : List FD) (v : Value) (h : LiM F 3 FdR v l) (hl : l.length ≤ 2000000) (hth : FThin l) : Ct Tryz.prog 49 [v] F [] (fun F' _ u => LiM F' 3 FdR u l) := by
 obtain ⟨ao, cap, rfl, hcap, hpos⟩ := h
 refine Ct.enter Tryz.func49 rfl Tryz.ntmps49 rfl fun w0 a S => ?_
 (revert S a; refine go 16 ?_; intro Z hZ a S)
 refine wpc_loop (fun m a w' => ∃ (i : Nat) (v : Value) (g : Grp) (xs : List Value) (F3 : Heap), m = l.length - i ∧ i ≤ l.length ∧ (∀ b o, F b = some o → F3 b = some o) ∧ OwnS 90 3 v i xs g ∧ LiC F3 3 FdR xs (l.take i) ∧ St 23 [(3, v), (6, .slice ao l.length cap), (7, .int .i64 l.length), (8, .int .i64 i)] w0 F [] F3 [g] a w') ?_ ?_
 ·(replace S := S.nilg; refine ⟨l.length, 0, .slice none 0 0, [], [], F, by omega, Nat.zero_le _, fun _ _ h => h, OwnS.nil _ _, rfl, ?_⟩; refine S.keep ?_; exact zk)
 (clear S; rintro m a w ⟨i, v, g, xs, F3, rfl, hil, hF3, hown, hfc, S⟩)
 (revert S a; refine go 5 ?_; intro Z hZ a S)
 refine wpc_sp S rfl ?_ ?_ <;> intro h
 ·(revert S a; revert hZ Z; refine go 4 ?_; intro Z hZ a S)
  (refine wp_seq_k ?_; intro Z hZ)
  (obtain ⟨b8, o8, hao, x, cs1, hx, hc1, ⟨v1, rfl, hT1⟩⟩ := LiM.pos hpos (k := i) (by omega); rw [hao] at S; replace hc1 := Cels.mono hF3 hc1; replace hT1 := hT1.mono hF3; have hT1c := hT1; obtain ⟨a91, c91, rfl, -⟩ := hT1c; obtain ⟨hx40, hxth⟩ := hth x (List.mem_of_getElem? hx))
  (revert S a; refine go 3 ?_; intro a S)
  (refine wpl_alloc S rfl rfl rfl rfl ?_; clear S a; intro b5 a w S)
  (refine wso S rfl rfl ?_; clear S; intro w S)
  (revert S a; revert hZ Z; refine go 2 ?_; intro a S)
  (refine wpc_mixM [0, 1, 2, 3, 4, 6] [2, 4] [] (.one 0 (.one 1 (.one 2 (.one 3 (.one 4 (.one 5 (.one 6 (.one 7 (.one 8 (.one 9 .nil)))))))))) [b5] S mixed (by kernel_rfl) ?_; clear S; intro w S)
  (revert S a; refine go 6 ?_; intro a S)
  (refine wpl_call (Gs := []) (Gr := [[(b5, _)], g]) S rfl rfl rfl rfl rfl rfl (ownDCt (x.ta.size + 1) F3 x.tn x.ta _ (Nat.lt_succ_self _) ⟨_, rfl, hT1⟩ hx40 hxth) rfl (by exact List.Perm.refl _) ?_; clear S a; intro u9 F4 G4 a w hv hF4 S; obtain ⟨a4, q4, c4, rfl, hs4⟩ := hv; replace S : St _ _ _ _ _ F4 ([(b5, _)] :: g :: []) _ _ := ⟨S.fr, S.tr.sub (by rw [List.flatten_append]; exact List.sublist_append_right _ _)⟩)
  (revert S a; refine go 3 ?_; intro a S)
  (refine wpl_buildSlice S rfl rfl rfl rfl rfl rfl (by rfl) (by simp [Value.cells, splice, splice]) rfl (by rfl) (by rfl) ?_; clear S a; intro b19 a w hown2 S)
  (revert S a; refine go 2 ?_; intro a S)
  (refine wpl_appendOwn S rfl rfl rfl rfl rfl rfl hown hown2 (by rfl) (by simp [Value.cells, Value.oneCell', splice, splice]) (by omega) (by omega) ?_; clear hown S a; intro v g a w hown S)
  (revert S a; revert hZ Z; refine go 10 ?_; intro a S)
  change ∃ m', _ ∧ _
  (rw [← hao] at S; replace S := S.drop1; refine ⟨l.length - (i + 1), by omega, i + 1, _, _, _, F4, rfl, by omega, fun b o h => hF4 _ _ (hF3 _ _ h), hown, ?_, ?_⟩; rotate_left 1; (refine S.keep ?_; exact zk); (rw [List.take_add_one, hx]; exact LiC.app (hfc.mono hF4) (LiC.one rfl ⟨_, rfl, hs4⟩)))
 (refine wp_exit ?_; conv => whnf)
 clear hZ Z
 (revert S a; revert hZ Z; refine go 6 ?_; intro a S)
 refine wp_ret ?_
 (have hii : i = l.length := (by omega); have h9 := hown; have hle := add_le (G1 := []) S; replace S := St.freeze (G1 := []) S; (simp only [List.nil_append] at S hle))
 refine fin_ret S (results1 Tryz.results49 (RV.tmp S rfl)) ?_
 (rw [List.take_of_length_le (by omega)] at hfc; exact LiC.lim hown hfc (by omega) hle (by omega))
theorem zzDeI1 {p : Prop} (h : p := by (first | (have hpf : p (l.take k) x = true := (by assumption); have e9 : anyP p [] l = true := (by rw [hfp, drop_at hx]; show (p (l.take k) x || _) = true; rw [hpf, Bool.true_or]); rw [e9]; exact ⟨_, rfl, by simp⟩) | (have e9 : anyP p [] l = false := (by rw [hfp, List.drop_eq_nil_of_le (by omega)]; rfl); rw [e9]; exact ⟨_, rfl, by simp⟩) | trace_state)) : p := h
theorem indexDCt (F : Heap) (l : List FD) (v : Value) (h : LiM F 3 FdR v l) (fid : FuncId) (fi ca : List Value) [hfn : HasFn Tryz.prog fid] (p : List FD → FD → Bool) (Iv : List FD → List Grp → Prop) (G0 : List Grp) (h0 : Iv [] G0)
  (hcl : ∀ (k : Nat) (x : FD) (cs : List Value) (G : List Grp), l[k]? = some x → FdR F x cs → Iv (l.take k) G → Ct Tryz.prog fid (fi ++ [.agg ⟨cs⟩] ++ ca) F G (fun _ G' u => u = .bool (p (l.take k) x) ∧ Iv (l.take k ++ [x]) G')) :
  Ct Tryz.prog 129 [v, .func (.func fid) ⟨fi⟩ ⟨ca⟩] F G0 (fun _ G' u => ∃ i : Int, u = .int .i64 i ∧ decide (0 ≤ i) = anyP p [] l) := by
 obtain ⟨ao, cap, rfl, hcap, hpos⟩ := h
 refine Ct.enter Tryz.func129 rfl Tryz.ntmps129 rfl fun w0 a S => ?_
 (revert S a; refine go 12 ?_; intro Z hZ a S)
 refine wpc_loop (fun m a w' => ∃ (k : Nat) (GG : List Grp), m = l.length - k ∧ k ≤ l.length ∧ anyP p [] l = anyP p (l.take k) (l.drop k) ∧ Iv (l.take k) GG ∧ St 19 [(0, .slice ao l.length cap), (1, .func (.func fid) ⟨fi⟩ ⟨ca⟩), (7, .int .i64 l.length), (8, .int .i64 k)] w0 F (keys G0) F GG a w') ?_ ?_
 ·(refine ⟨l.length, 0, G0, by omega, Nat.zero_le _, rfl, h0, ?_⟩; refine S.keep ?_; exact zk)
 (clear S; rintro m a w ⟨k, GG, rfl, hkl, hfp, hI, S⟩)
 (revert S a; refine go 5 ?_; intro Z hZ a S)
 refine wpc_sp S rfl ?_ ?_ <;> intro h
 ·(revert S a; revert hZ Z; refine go 9 ?_; intro Z hZ a S)
  (refine wp_seq_k ?_; intro Z hZ)
  (obtain ⟨b8, o8, hao, x, cs1, hx, hc1, ⟨v1, rfl, hT1⟩⟩ := LiM.pos hpos (k := k) (by omega); rw [hao] at S)
  (revert S a; refine go 6 ?_; intro a S)
  (refine wpl_callOwn (Gs := GG) (Gr := []) S rfl rfl rfl rfl rfl rfl (hcl k x _ GG hx ⟨_, rfl, hT1⟩ hI) rfl (by simp) ?_; clear S a; intro u9 G9 a w hv S; obtain ⟨rfl, hI9⟩ := hv; rw [List.append_nil] at S)
  (revert S a; revert hZ Z; refine go 2 ?_; intro a S)
  refine wpc_sp S rfl ?_ ?_ <;> intro h
  ·(revert S a; refine go 5 ?_; intro a S)
   refine wp_ret (fr1 S Tryz.results129 ?_)
   exact zzDeI1
  (revert S a; revert hZ Z; refine go 6 ?_; intro a S)
  change ∃ m', _ ∧ _
  (rw [← hao] at S; have hpf : p (l.take k) x = false := (by assumption); refine ⟨l.length - (k + 1), by omega, k + 1, G9, rfl, by omega, ?_, ?_, ?_⟩; rotate_left 2; (refine S.keep ?_; exact zk); (rw [hfp, drop_at hx]; rw [show l.take (k + 1) = l.take k ++ [x] by rw [List.take_add_one, hx]; rfl]; show (p (l.take k) x || _) = _; rw [hpf, Bool.false_or]); (rw [show l.take (k + 1) = l.take k ++ [x] by rw [List.take_add_one, hx]; rfl]; exact hI9))
 (refine wp_exit ?_; conv => whnf)
 clear hZ Z
 (revert S a; revert hZ Z; refine go 5 ?_; intro a S)
 refine wp_ret (fr1 S Tryz.results129 ?_)
 exact zzDeI1
theorem containsDCt (F : Heap) (l : List FD) (v : Value) (h : LiM F 3 FdR v l) (fid : FuncId) (fi ca : List Value) [hfn : HasFn Tryz.prog fid] (p : List FD → FD → Bool) (Iv : List FD → List Grp → Prop) (G0 : List Grp) (h0 : Iv [] G0)
  (hcl : ∀ (k : Nat) (x : FD) (cs : List Value) (G : List Grp), l[k]? = some x → FdR F x cs → Iv (l.take k) G → Ct Tryz.prog fid (fi ++ [.agg ⟨cs⟩] ++ ca) F G (fun _ G' u => u = .bool (p (l.take k) x) ∧ Iv (l.take k ++ [x]) G')) :
  Ct Tryz.prog 171 [v, .func (.func fid) ⟨fi⟩ ⟨ca⟩] F G0 (fun _ _ u => u = .bool (anyP p [] l)) := by
 have hc := indexDCt F l v h fid fi ca p Iv G0 h0 hcl
 obtain ⟨ao, cap, rfl, hcap, hpos⟩ := h
 refine Ct.enter Tryz.func171 rfl Tryz.ntmps171 rfl fun w0 a S => ?_
 (revert S a; refine go 7 ?_; intro Z hZ a S)
 (refine wpl_callOwn (Gs := G0) (Gr := []) S rfl rfl rfl rfl rfl rfl hc rfl (by simp) ?_; clear S a; intro u9 G9 a w hv S; obtain ⟨i9, rfl, hi9⟩ := hv; rw [List.append_nil] at S)
 (revert S a; revert hZ Z; refine go 4 ?_; intro a S)
 refine wp_ret (fr1 S Tryz.results171 ?_)
 (rw [← hi9])
def TwI (bm mb : Nat) (pre : List FD) (G : List Grp) : Prop := ∃ es, G = [[(bm, .cells ⟨[.map (some mb)]⟩ 256 (0, 0))], [(mb, mObj kS es)]] ∧ CntE es (pre.map FD.nm)
theorem zzDeI2 {p : Prop} (h : p := by (have hE9 := hE.set x.nm; refine ⟨?_, _, rfl, (by rw [List.map_append]; exact hE9)⟩; congr 1; unfold twP; first | (have hne : ¬ x.nm = [] := (by assumption); rw [show decide (x.nm ≠ []) = true from decide_eq_true hne, Bool.true_and]; rw [Bool.eq_iff_iff, decide_eq_true_eq, decide_eq_true_eq, List.count_append, List.count_singleton]; simp only [BEq.rfl, if_true]; rw [← List.count_pos_iff]; omega) | (have hne : x.nm = [] := (by assumption); rw [show decide (x.nm ≠ []) = false from decide_eq_false (fun h9 => h9 hne), Bool.false_and]) | trace_state)) : p := h
theorem twice1Ct (F : Heap) (bm mb : Nat) (pre : List FD) (x : FD) (cs : List Value) (G : List Grp) (hR : FdR F x cs) (hpl : pre.length ≤ 2000000) (hI : TwI bm mb pre G) : Ct Tryz.prog 172 ([] ++ [.agg ⟨cs⟩] ++ [.pointer (some ⟨bm, 0, none⟩)]) F G (fun _ G' u => u = .bool (twP pre x) ∧ TwI bm mb (pre ++ [x]) G') := by
 obtain ⟨es, rfl, hE⟩ := hI
 obtain ⟨v, rfl, hs⟩ := hR
 obtain ⟨ao, cap, rfl, -, -⟩ := hs
 have hct : (pre.map FD.nm).count x.nm ≤ pre.length := by have := List.count_le_length (a := x.nm) (l := pre.map FD.nm); rw [List.length_map] at this; exact this
 refine Ct.enter Tryz.func172 rfl Tryz.ntmps172 rfl fun w0 a S => ?_
 refine wp_sr fun Z hZ => ?_
 (refine wbx S ?_; clear S a; intro b2 a w S)
 (revert S a; revert hZ Z; refine go 7 ?_; intro Z hZ a S)
 first | (refine wv S (sv_lookupO (enc := kS) S rfl rfl rfl) ?_; clear S a; intro a S) | (refine wv S (sv_lookupF (enc := kS) S rfl rfl rfl (by assumption)) ?_; clear S a; intro a S)
 (rw [if_neg (by decide), hE x.nm] at S)
 (revert S a; refine go 1 ?_; intro a S)
 (rw [show ((((pre.map FD.nm).count x.nm : Nat) : Int) + 1) = (((pre.map FD.nm).count x.nm + 1 : Nat) : Int) from rfl] at S)
 (refine wpl_mapSet (enc := kS) S rfl rfl rfl rfl rfl rfl ?_; clear S; intro w S)
 (revert S a; revert hZ Z; refine go 7 ?_; intro Z hZ a S)
 refine wgd S ?_ ?_
 ·(clear S; intro h S)
  (revert S a; refine go 6 ?_; intro a S)
  first | (refine wv S (sv_lookupO (enc := kS) S rfl rfl rfl) ?_; clear S a; intro a S) | (refine wv S (sv_lookupF (enc := kS) S rfl rfl rfl (by assumption)) ?_; clear S a; intro a S)
  (have hE2 := hE.set x.nm; rw [if_neg (by decide), hE2 x.nm] at S)
  (revert S a; revert hZ Z; refine go 6 ?_; intro a S)
  refine wp_ret ?_
  (replace S := S.drop1)
  refine fin_ret S (results1 Tryz.results172 (RV.tmp S rfl)) ?_
  exact zzDeI2
 (clear S a; intro h a S)
 (revert S a; revert hZ Z; refine go 8 ?_; intro a S)
 refine wp_ret ?_
 (replace S := S.drop1)
 refine fin_ret S (results1 Tryz.results172 (RV.tmp S rfl)) ?_
 exact zzDeI2
theorem twiceCt (F : Heap) (l : List FD) (v : Value) (h : LiM F 3 FdR v l) (hl : l.length ≤ 2000000) : Ct Tryz.prog 138 [v] F [] (fun _ _ u => u = .bool (twiceD l)) := by
 have h0 := h
 obtain ⟨ao, cap, rfl, hcap, hpos⟩ := h
 refine Ct.enter Tryz.func138 rfl Tryz.ntmps138 rfl fun w0 a S => ?_
 (revert S a; refine go 5 ?_; intro Z hZ a S)
 (refine wpl_makeMap kS S rfl rfl rfl rfl ?_; clear S a; intro b4 a w S)
 (refine wpl_alloc S rfl rfl rfl rfl ?_; clear S a; intro b3 a w S)
 (refine wpl_store1 S rfl rfl rfl rfl rfl rfl (by first | (simp; done) | (simp [Value.cells]; done) | exact Nat.le_of_ble_eq_true rfl) ?_; clear S; intro w S)
 (revert S a; revert hZ Z; refine go 5 ?_; intro Z hZ a S)
 (refine wpl_callOwn (Gs := [[(b3, _)], [(b4, _)]]) (Gr := []) S rfl rfl rfl rfl rfl rfl (containsDCt F l _ h0 172 [] [.pointer (some ⟨b3, 0, none⟩)] twP (TwI b3 b4) _ ⟨[], rfl, fun nm => rfl⟩ (fun k x cs G hx hR hI => twice1Ct F b3 b4 (l.take k) x cs G hR (by rw [List.length_take]; omega) hI)) rfl (by exact List.Perm.refl _) ?_; clear S a; intro u9 G9 a w hv S; subst hv)
 (revert S a; revert hZ Z; refine go 3 ?_; intro a S)
 refine wp_ret (fr1 S Tryz.results138 ?_)
 rfl
end Go.Proofs.YtgefmjghdijbfaaGreatDoor
