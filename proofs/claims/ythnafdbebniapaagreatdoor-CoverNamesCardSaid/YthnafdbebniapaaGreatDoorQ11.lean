/- Walks. -/
import Derived.Test.YthnafdbebniapaaGreatDoorQ10
set_option maxHeartbeats 8000000
set_option maxRecDepth 20000
namespace Go.Proofs.YthnafdbebniapaaGreatDoor
open Go Go.Wk Go.Un Go.De
set_option linter.unusedSimpArgs false
set_option linter.unusedVariables false
attribute [local irreducible] Go.wpList Go.Code.wp Go.wpStill Go.Wk.wpPre Go.bodyPost Go.Calls Go.Wk.Ct Go.Wk.OwnS Go.Wk.wpG Go.Wk.wpM
structure TyS (F : Heap) (tb m1 : Nat) (ts : List TD) : Prop where
  c : Cel F tb 0 (.map (some m1))
  m : MapS F TdR TD.nm m1 ts
theorem TyS.mono {F F' : Heap} {tb m1 : Nat} {ts : List TD} (hF : ∀ b o, F b = some o → F' b = some o) (h : TyS F tb m1 ts) : TyS F' tb m1 ts := ⟨h.c.mono hF, h.m.mono hF⟩
def zTD : TD := ⟨0, 0, false, [], [], []⟩
theorem get_td {F : Heap} {es : List (List UInt8 × Value)} {ts : List TD} (hm : MapM F TdR TD.nm es ts) (s : List UInt8) :
  ∃ (x : TD) (ap : Option Addr) (cp : Nat) (ac : Option Addr) (cc : Nat), (mGet es s).getD (.agg #[.int .i64 0, .int .i64 0, .bool false, .string { data := #[] }, .slice none 0 0, .slice none 0 0]) = .agg ⟨[.int .i64 x.l, .int .i64 x.c, .bool x.pub, .string (bs x.nm), .slice ap x.ps.length cp, .slice ac x.cs.length cc]⟩ ∧
   LiM F 1 StR (.slice ap x.ps.length cp) x.ps ∧ LiM F 2 CdR (.slice ac x.cs.length cc) x.cs ∧ (findT ts s = some x ∨ findT ts s = none ∧ x = zTD) ∧ (mGet es s).isSome = declS ts s := by
 rcases hm.get s with ⟨x, cs, h1, h2, v, u, rfl, h3, h4⟩ | ⟨h1, h2⟩
 ·have h3c := h3
  have h4c := h4
  obtain ⟨ap, cp, rfl, -, -⟩ := h3c
  obtain ⟨ac, cc, rfl, -, -⟩ := h4c
  exact ⟨x, ap, cp, ac, cc, by rw [h2]; rfl, h3, h4, .inl h1, by rw [h2]; unfold declS findT; rw [h1]; rfl⟩
 ·exact ⟨zTD, none, 0, none, 0, by rw [h2]; rfl, LiM.nil _ _ _, LiM.nil _ _ _, .inr ⟨h1, rfl⟩, by rw [h2]; unfold declS findT; rw [h1]; rfl⟩
theorem par_len {ts : List TD} {s : List UInt8} {x : TD} (h : findT ts s = some x ∨ findT ts s = none ∧ x = zTD) : parN ts s = x.ps.length := by
 unfold parN
 rcases h with h | ⟨h, rfl⟩ <;> rw [h]
 rfl
def CbS (F : Heap) (fid : FuncId) (fi ca : List Value) (p : List UInt8 → Bool) : Prop := ∀ (F' : Heap) (s : List UInt8), (∀ b o, F b = some o → F' b = some o) → Ct Tryz.prog fid (fi ++ [.string (bs s)] ++ ca) F' [] (fun _ _ u => u = .bool (p s))
theorem use1Ct (F : Heap) (tb m1 bt : Nat) (ts : List TD) (hT : TyS F tb m1 ts) (hbt : Cel F bt 0 (ptr tb)) : CbS F 174 [] [.pointer (some ⟨bt, 0, none⟩)] (declS ts) := by
 unfold CbS
 intro F' s hF
 replace hbt := hbt.mono hF
 obtain ⟨hc, es, hes, hm⟩ := hT.mono hF
 have hg := hm.get s
 refine Ct.enter Tryz.func174 rfl Tryz.ntmps174 rfl fun w0 a S => ?_
 (revert S a; refine go 5 ?_; intro Z hZ a S)
 (refine wv S (sv_loadF S rfl rfl hbt) ?_; clear S a; intro a S)
 (revert S a; refine go 2 ?_; intro a S)
 (refine wv S (sv_loadF S rfl rfl hc) ?_; clear S a; intro a S)
 (revert S a; refine go 1 ?_; intro a S)
 (refine wv S (sv_lookupF (enc := kS) S rfl rfl rfl hes) ?_; clear S a; intro a S)
 (obtain ⟨x, ap, cp, ac, cc, hgd, hps, hcs, hx, his⟩ := get_td hm s; rw [if_pos rfl, hgd, his] at S)
 (revert S a; refine go 3 ?_; intro a S)
 (refine wpl_alloc S rfl rfl rfl rfl ?_; clear S a; intro b4 a w S)
 (refine wso S rfl rfl ?_; clear S; intro w S)
 (revert S a; revert hZ Z; refine go 8 ?_; intro a S)
 refine wp_ret (fr1 S Tryz.results174 ?_)
 rfl
theorem beqN (n m : Nat) : ((n : Int) == (m : Int)) = decide (n = m) := by
 rw [Bool.eq_iff_iff, beq_iff_eq, decide_eq_true_eq]; omega
theorem ble16 (n : Nat) : decide ((n : Int) ≤ 16) = decide (n ≤ 16) := by
 rw [Bool.eq_iff_iff, decide_eq_true_eq, decide_eq_true_eq]; omega
theorem zzDeH0 {p : Prop} (h : p := by (congr 1; unfold countsT; first | (rw [if_pos (by first | exact .inl (by assumption) | exact .inr (by assumption))]; exact beqN _ 0) | (have hnp : ¬ (plainS (nm, ar).1 = true ∨ parS (nm, ar).1 = true) := (by rintro (h9 | h9) <;> simp_all); first | (have htu : (nm, ar).1 = sTuple := (by assumption); rw [if_neg hnp, if_pos htu]; first | (rw [show decide ((nm, ar).2.len ≠ 1) = true from decide_eq_true (show ar.len ≠ 1 by omega), Bool.true_and]; exact ble16 _) | (rw [show decide ((nm, ar).2.len ≠ 1) = false from decide_eq_false (show ¬ ar.len ≠ 1 by omega)]; rfl)) | (have hnt : ¬ (nm, ar).1 = sTuple := (by assumption); rw [if_neg hnp, if_neg hnt, par_len hx]; exact beqN _ _) | trace_state))) : p := h
theorem use2Ct (F : Heap) (tb m1 bt : Nat) (ts : List TD) (hT : TyS F tb m1 ts) (hbt : Cel F bt 0 (ptr tb)) : CbT F 175 [] [.pointer (some ⟨bt, 0, none⟩)] (countsT ts) := by
 unfold CbT
 intro F' x cs hF hty
 obtain ⟨nm, ar⟩ := x
 obtain ⟨v, rfl, hs⟩ := hty
 obtain ⟨ao, cap, rfl, hcap, -⟩ := hs
 replace hbt := hbt.mono hF
 obtain ⟨hc, es, hes, hm⟩ := hT.mono hF
 refine Ct.enter Tryz.func175 rfl Tryz.ntmps175 rfl fun w0 a S => ?_
 refine wp_sr fun Z hZ => ?_
 (refine wbx S ?_; clear S a; intro b2 a w S)
 (revert S a; revert hZ Z; refine go 15 ?_; intro Z hZ Z hZ a S)
 (refine wc0 S (plainCt F' nm) ?_; clear S a; intro v a w hv S; subst hv)
 (revert S a; refine go 1 ?_; intro a S)
 refine wgd S ?_ ?_
 ·(clear S; intro h S)
  (revert S a; refine go 4 ?_; intro a S)
  (refine wc0 S (paramCt F' nm) ?_; clear S a; intro v a w hv S; subst hv)
  (revert S a; revert hZ Z; refine go 4 ?_; intro a S)
  refine wpc_sp S rfl ?_ ?_ <;> intro h
  ·(revert S a; refine go 6 ?_; intro a S)
   refine wp_ret (fr1 S Tryz.results175 ?_)
   exact zzDeH0
  (revert S a; refine go 7 ?_; intro a S)
  refine wpc_sp S rfl ?_ ?_ <;> intro h
  ·(revert S a; refine go 4 ?_; intro Z hZ a S)
   refine wgd S ?_ ?_
   ·(clear S; intro h S)
    (revert S a; revert hZ Z; refine go 7 ?_; intro a S)
    refine wp_ret (fr1 S Tryz.results175 ?_)
    exact zzDeH0
   (clear S a; intro h a S)
   (revert S a; revert hZ Z; refine go 5 ?_; intro a S)
   refine wp_ret (fr1 S Tryz.results175 ?_)
   exact zzDeH0
  refine wp_skip ?_
  (refine hZ _ _ ?_; clear hZ Z)
  (refine wp_seq_k ?_; intro Z hZ)
  (refine wpc_mixM [0, 1, 2, 3, 4, 5, 6, 7, 8, 9, 10] [1, 4, 6, 7] [] (.one 0 (.one 1 (.one 2 (.one 3 (.one 4 (.one 5 (.one 6 (.one 7 (.one 8 (.one 9 (.one 10 (.one 11 .nil)))))))))))) [b2] S mixed (by kernel_rfl) ?_; clear S; intro w S)
  (revert S a; refine go 1 ?_; intro a S)
  (refine wlF S rfl (fun w' S => sv_loadF S rfl rfl hbt) ?_; clear S a; intro a S)
  (revert S a; refine go 2 ?_; intro a S)
  (refine wlF S rfl (fun w' S => sv_loadF S rfl rfl hc) ?_; clear S a; intro a S)
  (revert S a; refine go 2 ?_; intro a S)
  (refine wlF S rfl (fun w' S => sv_lookupF (enc := kS) S rfl rfl rfl hes) ?_; clear S a; intro a S)
  (obtain ⟨x, ap, cp, ac, cc, hgd, hps, hcs, hx, his⟩ := get_td hm nm; rw [if_neg (by decide), hgd] at S)
  (refine wpm_v S rfl rfl rfl (want_none _ rfl) rfl rfl (fun w' S => sv_field1 S rfl rfl rfl inferInstance rfl) ?_; clear S a; intro a S)
  (revert S a; revert hZ Z; refine go 7 ?_; intro a S)
  refine wp_ret (fr1 S Tryz.results175 ?_)
  exact zzDeH0
 (clear S a; intro h a S)
 (revert S a; revert hZ Z; refine go 6 ?_; intro a S)
 refine wpc_true S rfl ?_
 (revert S a; refine go 6 ?_; intro a S)
 refine wp_ret (fr1 S Tryz.results175 ?_)
 exact zzDeH0
theorem use3Ct (F : Heap) (bd : Nat) (ts : List TD) (fid : FuncId) [hfn : HasFn Tryz.prog fid] (fi ca : List Value) (hd : CbS F fid fi ca (declS ts)) (hbd : Cel F bd 0 (.func (.func fid) ⟨fi⟩ ⟨ca⟩)) : CbT F 178 [] [.pointer (some ⟨bd, 0, none⟩)] (nameT ts) := by
 unfold CbT
 intro F' x cs hF hty
 obtain ⟨nm, ar⟩ := x
 obtain ⟨v, rfl, hs⟩ := hty
 obtain ⟨ao, cap, rfl, hcap, -⟩ := hs
 replace hbd := hbd.mono hF
 refine Ct.enter Tryz.func178 rfl Tryz.ntmps178 rfl fun w0 a S => ?_
 refine wp_sr fun Z hZ => ?_
 (refine wbx S ?_; clear S a; intro b2 a w S)
 (revert S a; revert hZ Z; refine go 6 ?_; intro Z hZ a S)
 (refine wc0 S (plainCt F' nm) ?_; clear S a; intro v a w hv S; subst hv)
 (revert S a; refine go 2 ?_; intro a S)
 refine wgd S ?_ ?_
 ·(clear S; intro h S)
  (revert S a; refine go 4 ?_; intro a S)
  (refine wc0 S (paramCt F' nm) ?_; clear S a; intro v a w hv S; subst hv)
  (revert S a; refine go 4 ?_; intro a S)
  refine wgd S ?_ ?_
  ·(clear S; intro h S)
   (revert S a; refine go 7 ?_; intro a S)
   refine wgd S ?_ ?_
   ·(clear S; intro h S)
    (refine wv S (sv_loadF S rfl rfl hbd) ?_; clear S a; intro a S)
    (revert S a; refine go 5 ?_; intro a S)
    (refine wc0 S (hd F' nm hF) ?_; clear S a; intro v a w hv S; subst hv)
    (revert S a; revert hZ Z; refine go 6 ?_; intro a S)
    refine wp_ret (fr1 S Tryz.results178 ?_)
    (unfold nameT; congr 1; simp [sTuple, *])
   (clear S a; intro h a S)
   (revert S a; revert hZ Z; refine go 8 ?_; intro a S)
   refine wp_ret (fr1 S Tryz.results178 ?_)
   (unfold nameT; congr 1; simp [sTuple, *])
  (clear S a; intro h a S)
  (revert S a; revert hZ Z; refine go 13 ?_; intro a S)
  refine wp_ret (fr1 S Tryz.results178 ?_)
  (unfold nameT; congr 1; simp [sTuple, *])
 (clear S a; intro h a S)
 (revert S a; revert hZ Z; refine go 19 ?_; intro a S)
 refine wp_ret (fr1 S Tryz.results178 ?_)
 (unfold nameT; congr 1; simp [sTuple, *])
theorem use4Ct (F : Heap) (bd : Nat) (p : Ty → Bool) (fid : FuncId) [hfn : HasFn Tryz.prog fid] (fi ca : List Value) (hd : CbT F fid fi ca p) (hbd : Cel F bd 0 (.func (.func fid) ⟨fi⟩ ⟨ca⟩)) : CbT F 179 [] [.pointer (some ⟨bd, 0, none⟩)] (fun y => !p y) := by
 unfold CbT
 intro F' x cs hF hty
 obtain ⟨nm, ar⟩ := x
 have hty0 := hty
 obtain ⟨v, rfl, hs⟩ := hty
 obtain ⟨ao, cap, rfl, hcap, -⟩ := hs
 replace hbd := hbd.mono hF
 refine Ct.enter Tryz.func179 rfl Tryz.ntmps179 rfl fun w0 a S => ?_
 refine wp_sr fun Z hZ => ?_
 (refine wbx S ?_; clear S a; intro b2 a w S)
 (revert S a; revert hZ Z; refine go 4 ?_; intro Z hZ a S)
 (refine wv S (sv_loadF S rfl rfl hbd) ?_; clear S a; intro a S)
 (revert S a; refine go 1 ?_; intro a S)
 (refine wc0 S (hd F' (nm, ar) _ hF hty0) ?_; clear S a; intro v a w hv S; subst hv)
 (revert S a; revert hZ Z; refine go 4 ?_; intro a S)
 refine wp_ret (fr1 S Tryz.results179 ?_)
 rfl
theorem use51Ct (F : Heap) : CbT F 181 [] [] (fun z => !parS z.1 && openT z) := by
 unfold CbT
 intro F' x cs hF hty
 obtain ⟨nm, ar⟩ := x
 have hty0 := hty
 obtain ⟨v, rfl, hs⟩ := hty
 obtain ⟨ao, cap, rfl, hcap, -⟩ := hs
 refine Ct.enter Tryz.func181 rfl Tryz.ntmps181 rfl fun w0 a S => ?_
 refine wp_sr fun Z hZ => ?_
 (refine wbx S ?_; clear S a; intro b1 a w S)
 (revert S a; revert hZ Z; refine go 6 ?_; intro Z hZ a S)
 (refine wc0 S (paramCt F' nm) ?_; clear S a; intro v a w hv S; subst hv)
 (revert S a; refine go 2 ?_; intro a S)
 refine wgd S ?_ ?_
 ·(clear S; intro h S)
  (revert S a; refine go 2 ?_; intro a S)
  (refine wc0 S (openCt F' nm ar _ hty0) ?_; clear S a; intro v a w hv S; subst hv)
  (revert S a; revert hZ Z; refine go 4 ?_; intro a S)
  refine wp_ret (fr1 S Tryz.results181 ?_)
  (congr 1; simp [*])
 (clear S a; intro h a S)
 (revert S a; revert hZ Z; refine go 5 ?_; intro a S)
 refine wp_ret (fr1 S Tryz.results181 ?_)
 (congr 1; simp [*])
theorem use5Ct (F : Heap) (bd : Nat) (ts : List TD) (fid : FuncId) [hfn : HasFn Tryz.prog fid] (fi ca : List Value) (hd : CbS F fid fi ca (declS ts)) (hbd : Cel F bd 0 (.func (.func fid) ⟨fi⟩ ⟨ca⟩)) : CbT F 180 [] [.pointer (some ⟨bd, 0, none⟩)] (growT ts) := by
 unfold CbT
 intro F' x cs hF hty
 obtain ⟨nm, ar⟩ := x
 obtain ⟨v, rfl, hs⟩ := hty
 have hs0 := hs
 obtain ⟨ao, cap, rfl, hcap, -⟩ := hs
 replace hbd := hbd.mono hF
 refine Ct.enter Tryz.func180 rfl Tryz.ntmps180 rfl fun w0 a S => ?_
 refine wp_sr fun Z hZ => ?_
 (refine wbx S ?_; clear S a; intro b2 a w S)
 (revert S a; revert hZ Z; refine go 4 ?_; intro Z hZ a S)
 (refine wv S (sv_loadF S rfl rfl hbd) ?_; clear S a; intro a S)
 (revert S a; refine go 2 ?_; intro a S)
 (refine wc0 S (hd F' nm hF) ?_; clear S a; intro v a w hv S; subst hv)
 (revert S a; refine go 1 ?_; intro a S)
 refine wgd S ?_ ?_
 ·(clear S; intro h S)
  (revert S a; refine go 4 ?_; intro a S)
  (refine wc0 S (containsTCt F' ar _ hs0 181 [] [] _ (fun k y v1 hy hs1 => use51Ct F' F' y _ (fun _ _ h => h) ⟨v1, rfl, hs1⟩)) ?_; clear S a; intro v a w hv S; subst hv)
  (revert S a; revert hZ Z; refine go 4 ?_; intro a S)
  refine wp_ret (fr1 S Tryz.results180 ?_)
  (unfold growT; congr 1; simp [*])
 (clear S a; intro h a S)
 (revert S a; revert hZ Z; refine go 6 ?_; intro a S)
 refine wp_ret (fr1 S Tryz.results180 ?_)
 (unfold growT; congr 1; simp [*])
theorem zzDeH1 {p : Prop} (h : p := by (unfold useT; first | (rw [if_pos (by omega)]; done) | (rw [if_neg (by omega), if_pos (by assumption)]; done) | (rw [if_neg (by omega), if_neg (by simp [*]), if_pos (by assumption)]; done) | (rw [if_neg (by omega), if_neg (by simp [*]), if_neg (by simp [*]), if_pos (by assumption)]; done) | (rw [if_neg (by omega), if_neg (by simp [*]), if_neg (by simp [*]), if_neg (by simp [*])]; done) | trace_state)) : p := h
theorem useCt (F : Heap) (tb m1 : Nat) (ts : List TD) (hT : TyS F tb m1 ts) (nm : List UInt8) (ar : Fo) (cs : List Value) (hsz : depthL ar ≤ 100000000) (h : TyC F cs nm ar) : Ct Tryz.prog 125 [.pointer (some ⟨tb, 0, none⟩), .agg ⟨cs⟩] F [] (fun _ _ u => u = .int .i64 (useT ts (nm, ar))) := by
 have h0 := h
 obtain ⟨v, rfl, hs⟩ := h
 obtain ⟨ao, cap, rfl, hcap, -⟩ := hs
 refine Ct.enter Tryz.func125 rfl Tryz.ntmps125 rfl fun w0 a S => ?_
 refine wp_sr fun Z hZ => ?_
 (refine wbx S ?_; clear S a; intro b2 a w S)
 (refine wbx S ?_; clear S a; intro b3 a w S)
 (revert S a; revert hZ Z; refine go 5 ?_; intro Z hZ a S)
 (refine wpl_alloc S rfl rfl rfl rfl ?_; clear S a; intro b5 a w S)
 (refine wpl_store1 S rfl rfl rfl rfl rfl rfl (by first | (simp; done) | (simp [Value.cells]; done) | exact Nat.le_of_ble_eq_true rfl) ?_; clear S; intro w S)
 (revert S a; revert hZ Z; refine go 4 ?_; intro Z hZ a S)
 (refine wpl_alloc S rfl rfl rfl rfl ?_; clear S a; intro b6 a w S)
 (refine wpl_store1 S rfl rfl rfl rfl rfl rfl (by first | (simp; done) | (simp [Value.cells]; done) | exact Nat.le_of_ble_eq_true rfl) ?_; clear S; intro w S)
 (revert S a; revert hZ Z; refine go 4 ?_; intro Z hZ a S)
 (refine wp_seq_k ?_; intro Z hZ)
 (replace S : St _ _ _ _ _ F [[(b2, .cells ⟨[.pointer (some ⟨tb, 0, none⟩)]⟩ 52 (0, 0))], [(b5, .cells ⟨[.func (.func 174) ⟨[]⟩ ⟨[.pointer (some ⟨b2, 0, none⟩)]⟩]⟩ 194 (0, 0))], [(b6, .cells ⟨[.func (.func 175) ⟨[]⟩ ⟨[.pointer (some ⟨b2, 0, none⟩)]⟩]⟩ 144 (0, 0))], [(b3, .cells ⟨[.string (bs nm), .slice ao ar.len cap]⟩ 49 (0, 0))]] _ _ := St.permI S 4 rfl [3, 1, 0, 2] (by decide); have hle1 := add_le (G1 := []) S; replace S := St.freeze (G1 := []) S; (simp only [List.nil_append] at S hle1); have hb2 : Cel (F.add [(b2, .cells ⟨[.pointer (some ⟨tb, 0, none⟩)]⟩ 52 (0, 0))]) b2 0 (ptr tb) := ⟨_, _, _, Heap.add_new (p := (b2, _)) (List.mem_singleton.2 rfl) (by simp), rfl⟩; generalize (F.add [(b2, .cells ⟨[.pointer (some ⟨tb, 0, none⟩)]⟩ 52 (0, 0))]) = F1 at S hle1 hb2; have hle2 := add_le (G1 := []) S; replace S := St.freeze (G1 := []) S; (simp only [List.nil_append] at S hle2); have hb5 : Cel (F1.add [(b5, .cells ⟨[.func (.func 174) ⟨[]⟩ ⟨[.pointer (some ⟨b2, 0, none⟩)]⟩]⟩ 194 (0, 0))]) b5 0 (.func (.func 174) ⟨[]⟩ ⟨[.pointer (some ⟨b2, 0, none⟩)]⟩) := ⟨_, _, _, Heap.add_new (p := (b5, _)) (List.mem_singleton.2 rfl) (by simp), rfl⟩; generalize (F1.add [(b5, .cells ⟨[.func (.func 174) ⟨[]⟩ ⟨[.pointer (some ⟨b2, 0, none⟩)]⟩]⟩ 194 (0, 0))]) = F2 at S hle2 hb5; have hle3 := add_le (G1 := []) S; replace S := St.freeze (G1 := []) S; (simp only [List.nil_append] at S hle3); have hb6 : Cel (F2.add [(b6, .cells ⟨[.func (.func 175) ⟨[]⟩ ⟨[.pointer (some ⟨b2, 0, none⟩)]⟩]⟩ 144 (0, 0))]) b6 0 (.func (.func 175) ⟨[]⟩ ⟨[.pointer (some ⟨b2, 0, none⟩)]⟩) := ⟨_, _, _, Heap.add_new (p := (b6, _)) (List.mem_singleton.2 rfl) (by simp), rfl⟩; generalize (F2.add [(b6, .cells ⟨[.func (.func 175) ⟨[]⟩ ⟨[.pointer (some ⟨b2, 0, none⟩)]⟩]⟩ 144 (0, 0))]) = F3 at S hle3 hb6; replace hb5 := hb5.mono hle3; replace hb2 := (hb2.mono hle2).mono hle3; have hF3 : ∀ b o, F b = some o → F3 b = some o := (fun b o h => hle3 _ _ (hle2 _ _ (hle1 _ _ h))); have hT3 := hT.mono hF3; have h3 := h0.mono hF3; have hd1 := use1Ct F3 tb m1 b2 ts hT3 hb2; have hd2 := use2Ct F3 tb m1 b2 ts hT3 hb2)
 (revert S a; refine go 2 ?_; intro a S)
 (refine wc0 S (depthCt F3 ar.size nm ar _ (Nat.le_refl _) (by omega) h3) ?_; clear S a; intro v a w hv S; subst hv)
 (revert S a; revert hZ Z; refine go 4 ?_; intro a S)
 refine wpc_sp S rfl ?_ ?_ <;> intro h
 ·(revert S a; refine go 4 ?_; intro a S)
  refine wp_ret (fr1 S Tryz.results125 ?_)
  exact zzDeH1
 (revert S a; refine go 3 ?_; intro Z hZ a S)
 (refine wc0 S (withinCt F3 178 [] [.pointer (some ⟨b5, 0, none⟩)] _ (use3Ct F3 b5 ts _ [] _ hd1 hb5) (ar.size + 1) F3 nm ar _ (Nat.lt_succ_self _) (fun _ _ h => h) h3) ?_; clear S a; intro v a w hv S; subst hv)
 (revert S a; revert hZ Z; refine go 3 ?_; intro a S)
 refine wpc_sp S rfl ?_ ?_ <;> intro h
 ·(revert S a; refine go 4 ?_; intro a S)
  refine wp_ret (fr1 S Tryz.results125 ?_)
  exact zzDeH1
 (revert S a; refine go 3 ?_; intro Z hZ a S)
 (refine wc0 S (withinCt F3 179 [] [.pointer (some ⟨b6, 0, none⟩)] _ (use4Ct F3 b6 _ _ [] _ hd2 hb6) (ar.size + 1) F3 nm ar _ (Nat.lt_succ_self _) (fun _ _ h => h) h3) ?_; clear S a; intro v a w hv S; subst hv)
 (revert S a; revert hZ Z; refine go 3 ?_; intro a S)
 refine wpc_sp S rfl ?_ ?_ <;> intro h
 ·(revert S a; refine go 4 ?_; intro a S)
  refine wp_ret (fr1 S Tryz.results125 ?_)
  exact zzDeH1
 (revert S a; refine go 3 ?_; intro Z hZ a S)
 (refine wc0 S (withinCt F3 180 [] [.pointer (some ⟨b5, 0, none⟩)] _ (use5Ct F3 b5 ts _ [] _ hd1 hb5) (ar.size + 1) F3 nm ar _ (Nat.lt_succ_self _) (fun _ _ h => h) h3) ?_; clear S a; intro v a w hv S; subst hv)
 (revert S a; revert hZ Z; refine go 3 ?_; intro a S)
 refine wpc_sp S rfl ?_ ?_ <;> intro h
 ·(revert S a; refine go 4 ?_; intro a S)
  refine wp_ret (fr1 S Tryz.results125 ?_)
  exact zzDeH1
 (revert S a; revert hZ Z; refine go 6 ?_; intro a S)
 refine wp_ret (fr1 S Tryz.results125 ?_)
 exact zzDeH1
end Go.Proofs.YthnafdbebniapaaGreatDoor
namespace Go.De
open Go Go.Wk Go.Un
set_option linter.unusedSimpArgs false
set_option linter.unusedVariables false
def anyP (p : List FD → FD → Bool) : List FD → List FD → Bool
 | _, [] => false
 | pre, x :: r => p pre x || anyP p (pre ++ [x]) r
def twP (pre : List FD) (x : FD) : Bool := decide (x.nm ≠ []) && decide (x.nm ∈ pre.map FD.nm)
def twiceD (l : List FD) : Bool := anyP twP [] l
def fieldE (ts : List TD) (p : List UInt8 → Bool) (x : FD) : Int := if useT ts (x.tn, x.ta) ≠ 65 ∧ wiT (fun y => parS y.1 && !p y.1) (x.tn, x.ta) = true then 63 else useT ts (x.tn, x.ta)
def fieldsE (ts : List TD) (p : List UInt8 → Bool) : List FD → Int
 | [] => 0
 | x :: r => if fieldE ts p x ≠ 0 then fieldE ts p x else fieldsE ts p r
def findC (cs : List KC) (s : List UInt8) : Option KC := cs.find? fun x => decide (s = x.nm)
def findR (rs : List RD) (s : List UInt8) : Option RD := rs.find? fun x => decide (s = x.nm)
def exprE (css : List KC) (h : EH) (n : Nat) : Int := if h.k = 5 then (match findC css h.nm with | none => 63 | some c => if c.fs.length ≠ n then 70 else 0) else 0
def exprsE (css : List KC) : Ef → Int
 | .nil => 0
 | .cons h L r => if exprE css h L.len ≠ 0 then exprE css h L.len else if exprsE css L ≠ 0 then exprsE css L else exprsE css r
def litE (rs : List RD) (x : LT) : Int := if x.k = 1 ∨ x.k = 2 then (match findR rs x.rel with | none => 63 | some r => if r.fs.length ≠ x.args.len then 70 else 0) else 0
def bodyE (css : List KC) (rs : List RD) : List LT → Int
 | [] => 0
 | x :: r => if litE rs x ≠ 0 then litE rs x else if exprsE css x.args ≠ 0 then exprsE css x.args else bodyE css rs r
def ruleE (css : List KC) (rs : List RD) (x : RU) : Int := match findR rs x.rel with
 | none => 63
 | some r => if r.inp = true then 50 else if x.aggs.length ≠ x.args.len then 4 else if x.args.len ≠ r.fs.length then 70 else if exprsE css x.args ≠ 0 then exprsE css x.args else bodyE css rs x.body
def rulesE (css : List KC) (rs : List RD) : List RU → Int
 | [] => 0
 | x :: r => if ruleE css rs x ≠ 0 then ruleE css rs x else rulesE css rs r
def neversE (css : List KC) (rs : List RD) : List NV → Int
 | [] => 0
 | x :: r => if bodyE css rs x.body ≠ 0 then bodyE css rs x.body else neversE css rs r
theorem exprsE_cons (css : List KC) (h : EH) (L r : Ef) : exprsE css (.cons h L r) = if exprE css h L.len ≠ 0 then exprE css h L.len else if exprsE css L ≠ 0 then exprsE css L else exprsE css r := rfl
theorem exprE_no {css : List KC} {h : EH} {n : Nat} (h5 : h.k ≠ 5) : exprE css h n = 0 := by unfold exprE; rw [if_neg h5]
theorem exprE_none {css : List KC} {h : EH} {n : Nat} (h5 : h.k = 5) (hn : findC css h.nm = none) : exprE css h n = 63 := by unfold exprE; rw [if_pos h5, hn]
theorem exprE_some {css : List KC} {h : EH} {n : Nat} {c : KC} (h5 : h.k = 5) (hs : findC css h.nm = some c) : exprE css h n = if c.fs.length ≠ n then 70 else 0 := by unfold exprE; rw [if_pos h5, hs]
theorem litE_no {rs : List RD} {x : LT} (h5 : ¬ (x.k = 1 ∨ x.k = 2)) : litE rs x = 0 := by unfold litE; rw [if_neg h5]
theorem litE_none {rs : List RD} {x : LT} (h5 : x.k = 1 ∨ x.k = 2) (hn : findR rs x.rel = none) : litE rs x = 63 := by unfold litE; rw [if_pos h5, hn]
theorem litE_some {rs : List RD} {x : LT} {c : RD} (h5 : x.k = 1 ∨ x.k = 2) (hs : findR rs x.rel = some c) : litE rs x = if c.fs.length ≠ x.args.len then 70 else 0 := by unfold litE; rw [if_pos h5, hs]
theorem ruleE_none {css : List KC} {rs : List RD} {x : RU} (hn : findR rs x.rel = none) : ruleE css rs x = 63 := by unfold ruleE; rw [hn]
theorem ruleE_some {css : List KC} {rs : List RD} {x : RU} {r : RD} (hs : findR rs x.rel = some r) : ruleE css rs x = if r.inp = true then 50 else if x.aggs.length ≠ x.args.len then 4 else if x.args.len ≠ r.fs.length then 70 else if exprsE css x.args ≠ 0 then exprsE css x.args else bodyE css rs x.body := by unfold ruleE; rw [hs]
def relatedE (ts : List TD) : List (List UInt8) → List RD → Int
 | _, [] => 0
 | seen, x :: r => if x.nm ∈ seen ∨ twiceD x.fs = true then 6 else if fieldsE ts (fun _ => true) x.fs ≠ 0 then fieldsE ts (fun _ => true) x.fs else relatedE ts (seen ++ [x.nm]) r
def hasL (k : List (List UInt8)) : Fo → Bool
 | .nil => true
 | .cons nm ar r => (if nm = sTuple then hasL k ar else decide (nm ∈ k) || parS nm) && hasL k r
def hasT (k : List (List UInt8)) (a : Ty) : Bool := if a.1 = sTuple then hasL k a.2 else decide (a.1 ∈ k) || parS a.1
theorem hasL_cons (k : List (List UInt8)) (nm : List UInt8) (ar r : Fo) : hasL k (.cons nm ar r) = (hasT k (nm, ar) && hasL k r) := rfl
theorem any_has (k : List (List UInt8)) : ∀ l : Fo, anyF (fun y => !hasT k y) l = !hasL k l
 | .nil => rfl
 | .cons nm ar r => by rw [anyF_cons, any_has k r, hasL_cons, Bool.not_and]
def consOK (k : List (List UInt8)) (c : CD) : Bool := c.fs.all fun f => hasT k (f.tn, f.ta)
def tyOK (k : List (List UInt8)) (x : TD) : Bool := x.cs.any (consOK k)
theorem anyP_has (k : List (List UInt8)) : ∀ (l pre : List FD), anyP (fun _ x => !hasT k (x.tn, x.ta)) pre l = !(l.all fun f => hasT k (f.tn, f.ta))
 | [], _ => rfl
 | x :: r, pre => by
  show (!hasT k (x.tn, x.ta) || anyP _ (pre ++ [x]) r) = _
  rw [anyP_has k r, List.all_cons, Bool.not_and]
def full0 : List (List UInt8) := [sBool, sInt, sBig, sText]
inductive Rch (l : List TD) : List (List UInt8) → Prop
  | base : Rch l full0
  | step {k : List (List UInt8)} {x : TD} (h : Rch l k) (hx : x ∈ l) (hn : x.nm ∉ k) (ho : tyOK k x = true) : Rch l (k ++ [x.nm])
def Closed (l : List TD) (k : List (List UInt8)) : Prop := ∀ x ∈ l, x.nm ∉ k → tyOK k x = false
theorem hasL_mono {k k' : List (List UInt8)} (h : ∀ s ∈ k, s ∈ k') : ∀ {l : Fo}, hasL k l = true → hasL k' l = true
 | .nil, _ => rfl
 | .cons nm ar r, h1 => by
  unfold hasL at h1 ⊢
  rw [Bool.and_eq_true] at h1 ⊢
  refine ⟨?_, hasL_mono h h1.2⟩
  have h2 := h1.1
  split at h2
  ·rename_i e; rw [if_pos e]; exact hasL_mono h h2
  ·rename_i e
   rw [if_neg e]
   rw [Bool.or_eq_true, decide_eq_true_eq] at h2 ⊢
   exact h2.imp (h nm) id
theorem hasT_mono {k k' : List (List UInt8)} (h : ∀ s ∈ k, s ∈ k') {a : Ty} (h1 : hasT k a = true) : hasT k' a = true := by
 have := hasL_mono h (l := .cons a.1 a.2 .nil) (by rw [hasL_cons, h1]; rfl)
 rw [hasL_cons, Bool.and_eq_true] at this
 exact this.1
theorem tyOK_mono {k k' : List (List UInt8)} (h : ∀ s ∈ k, s ∈ k') {x : TD} (h1 : tyOK k x = true) : tyOK k' x = true := by
 unfold tyOK at *
 rw [List.any_eq_true] at *
 obtain ⟨c, hc, h2⟩ := h1
 refine ⟨c, hc, ?_⟩
 unfold consOK at *
 rw [List.all_eq_true] at *
 exact fun f hf => hasT_mono h (h2 f hf)
theorem Rch.base_sub {l : List TD} {k : List (List UInt8)} (h : Rch l k) : ∀ s ∈ full0, s ∈ k := by
 induction h with
 | base => exact fun s hs => hs
 | step _ _ _ _ ih => exact fun s hs => List.mem_append_left _ (ih s hs)
theorem rch_sub {l : List TD} {k k' : List (List UInt8)} (h : Rch l k) (h0 : ∀ s ∈ full0, s ∈ k') (hc : Closed l k') : ∀ s ∈ k, s ∈ k' := by
 induction h with
 | base => exact h0
 | @step k x hk hx hn ho ih =>
  intro s hs
  rcases List.mem_append.1 hs with hs | hs
  ·exact ih s hs
  ·rw [List.mem_singleton] at hs
   subst hs
   apply Classical.byContradiction
   intro hnm
   have := hc x hx hnm
   rw [tyOK_mono ih ho] at this
   cases this
def runK (l : List TD) : Nat → List (List UInt8) → List (List UInt8)
 | 0, k => k
 | n + 1, k => match l.find? fun x => !decide (x.nm ∈ k) && tyOK k x with
  | some x => runK l n (k ++ [x.nm])
  | none => k
theorem runK_rch {l : List TD} : ∀ (n : Nat) {k : List (List UInt8)}, Rch l k → Rch l (runK l n k)
 | 0, k, h => h
 | n + 1, k, h => by
  unfold runK
  cases hf : l.find? fun x => !decide (x.nm ∈ k) && tyOK k x with
  | none => exact h
  | some x =>
   have h1 := List.find?_some hf
   rw [Bool.and_eq_true, Bool.not_eq_true', decide_eq_false_iff_not] at h1
   exact runK_rch n (.step h (List.mem_of_find?_eq_some hf) h1.1 h1.2)
def leftN (l : List TD) (k : List (List UInt8)) : Nat := l.countP fun x => !decide (x.nm ∈ k)
theorem leftN_step {l : List TD} {k : List (List UInt8)} {x : TD} (hx : x ∈ l) (hn : x.nm ∉ k) : leftN l (k ++ [x.nm]) < leftN l k := by
 unfold leftN
 have hle : ∀ r : List TD, r.countP (fun y => !decide (y.nm ∈ k ++ [x.nm])) ≤ r.countP fun y => !decide (y.nm ∈ k) := fun r => by
  refine List.countP_mono_left fun y _ hy => ?_
  rw [Bool.not_eq_true', decide_eq_false_iff_not] at hy ⊢
  exact fun hm => hy (List.mem_append_left _ hm)
 induction l with
 | nil => cases hx
 | cons y r ih =>
  rw [List.countP_cons, List.countP_cons]
  by_cases e : y = x
  ·subst e
   have h1 : (!decide (y.nm ∈ k ++ [y.nm])) = false := by simp
   have h2 : (!decide (y.nm ∈ k)) = true := by simp [hn]
   rw [h1, h2]
   have := hle r
   simp only [if_true, Bool.false_eq_true, if_false]
   omega
  ·have h1 := ih ((List.mem_cons.1 hx).resolve_left fun h => e h.symm)
   have h2 : (if (!decide (y.nm ∈ k ++ [x.nm])) = true then 1 else 0) ≤ (if (!decide (y.nm ∈ k)) = true then 1 else 0) := by
    by_cases h3 : y.nm ∈ k
    ·have h4 : y.nm ∈ k ++ [x.nm] := List.mem_append_left _ h3
     simp [h3, h4]
    ·simp [h3]; split <;> omega
   omega
theorem runK_closed {l : List TD} : ∀ (n : Nat) {k : List (List UInt8)}, leftN l k ≤ n → Closed l (runK l n k)
 | 0, k, h => by
  intro x hx hn
  unfold leftN at h
  have h1 := List.countP_eq_zero.1 (Nat.le_zero.1 h) x hx
  rw [Bool.not_eq_true', decide_eq_false_iff_not] at h1
  exact absurd hn h1
 | n + 1, k, h => by
  unfold runK
  cases hf : l.find? fun x => !decide (x.nm ∈ k) && tyOK k x with
  | none =>
   intro x hx hn
   have h1 := List.find?_eq_none.1 hf x hx
   rw [Bool.and_eq_true, Bool.not_eq_true', decide_eq_false_iff_not] at h1
   cases ho : tyOK k x with
   | false => rfl
   | true => exact absurd ⟨hn, ho⟩ h1
  | some x =>
   have h1 := List.find?_some hf
   rw [Bool.and_eq_true, Bool.not_eq_true', decide_eq_false_iff_not] at h1
   have := leftN_step (List.mem_of_find?_eq_some hf) h1.1
   exact runK_closed n (by omega)
def fullK (l : List TD) : List (List UInt8) := runK l l.length full0
def fullE (l : List TD) : Int := if (l.all fun x => decide (x.nm ∈ fullK l)) = true then 0 else 5
theorem fullK_rch (l : List TD) : Rch l (fullK l) := runK_rch _ .base
theorem fullK_closed (l : List TD) : Closed l (fullK l) := runK_closed _ List.countP_le_length
theorem fullE_of {l : List TD} {k : List (List UInt8)} (h : Rch l k) (hc : Closed l k) : fullE l = if (l.all fun x => decide (x.nm ∈ k)) = true then 0 else 5 := by
 have h1 : ∀ s, s ∈ k ↔ s ∈ fullK l := fun s => ⟨rch_sub h (fullK_rch l).base_sub (fullK_closed l) s, rch_sub (fullK_rch l) h.base_sub hc s⟩
 unfold fullE
 rw [show (fun x : TD => decide (x.nm ∈ fullK l)) = fun x => decide (x.nm ∈ k) from funext fun x => by rw [Bool.eq_iff_iff, decide_eq_true_eq, decide_eq_true_eq, h1]]
def badT (tn : List (List UInt8)) (x : TD) : Bool := ((decide (x.nm ∈ tn) || plainS x.nm) || decide (x.nm = sTuple)) || parS x.nm
def consBad : List (List UInt8) → List CD → Bool
 | _, [] => false
 | cn, c :: r => (decide (c.nm ∈ cn) || twiceD c.fs) || consBad (cn ++ [c.nm]) r
def dupE : List (List UInt8) → List (List UInt8) → List TD → Bool
 | _, _, [] => false
 | tn, cn, x :: r => (badT tn x || consBad cn x.cs) || dupE (tn ++ [x.nm]) (cn ++ x.cs.map CD.nm) r
def consFE (ts : List TD) (ps : List (List UInt8)) : List CD → Int
 | [] => 0
 | c :: r => if fieldsE ts (fun s => decide (s ∈ ps)) c.fs ≠ 0 then fieldsE ts (fun s => decide (s ∈ ps)) c.fs else consFE ts ps r
def typesFE (ts : List TD) : List TD → Int
 | [] => 0
 | x :: r => if consFE ts x.ps x.cs ≠ 0 then consFE ts x.ps x.cs else typesFE ts r
def typedE (l : List TD) : Int := if dupE [] [] l = true then 6 else if typesFE l l ≠ 0 then typesFE l l else fullE l
def consFrom (x : TD) : Nat → List CD → List KC
 | _, [] => []
 | i, c :: r => ⟨c.nm, x.nm, x.ps, (i : Int), c.fs⟩ :: consFrom x (i + 1) r
def consOf (l : List TD) : List KC := l.flatMap fun x => consFrom x 0 x.cs
theorem consFrom_nm (x : TD) : ∀ (i : Nat) (l : List CD), (consFrom x i l).map KC.nm = l.map CD.nm
 | _, [] => rfl
 | i, c :: r => by show c.nm :: (consFrom x (i + 1) r).map KC.nm = _; rw [consFrom_nm x (i + 1) r]; rfl
theorem consFrom_app (x : TD) : ∀ (i : Nat) (l : List CD) (c : CD), consFrom x i (l ++ [c]) = consFrom x i l ++ [⟨c.nm, x.nm, x.ps, ((i + l.length : Nat) : Int), c.fs⟩]
 | i, [], c => rfl
 | i, d :: r, c => by
  show _ :: consFrom x (i + 1) (r ++ [c]) = _ :: (consFrom x (i + 1) r ++ _)
  rw [consFrom_app x (i + 1) r c, List.length_cons, show i + 1 + r.length = i + (r.length + 1) by omega]
theorem consOf_app (l : List TD) (x : TD) : consOf (l ++ [x]) = consOf l ++ consFrom x 0 x.cs := by unfold consOf; rw [List.flatMap_append]; simp
def cnames (l : List TD) : List (List UInt8) := l.flatMap fun x => x.cs.map CD.nm
theorem consOf_nm : ∀ l : List TD, (consOf l).map KC.nm = cnames l
 | [] => rfl
 | x :: r => by
  unfold consOf cnames
  rw [List.flatMap_cons, List.flatMap_cons, List.map_append, consFrom_nm]
  congr 1
  exact consOf_nm r
theorem cnames_app (l : List TD) (x : TD) : cnames (l ++ [x]) = cnames l ++ x.cs.map CD.nm := by unfold cnames; rw [List.flatMap_append]; simp
def takeE (M : MD) : Int := if typedE M.ts ≠ 0 then typedE M.ts else if relatedE M.ts [] M.rs ≠ 0 then relatedE M.ts [] M.rs else if rulesE (consOf M.ts) M.rs M.ru ≠ 0 then rulesE (consOf M.ts) M.rs M.ru else neversE (consOf M.ts) M.rs M.nv
end Go.De
