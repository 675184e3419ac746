/- Walks. -/
import Derived.Test.YthnafdbebniapaaGreatDoorQ13
import Derived.Test.YthnafdbebniapaaGreatDoorQ08
import Derived.ScopeJumps
set_option maxHeartbeats 16000000
set_option maxRecDepth 20000
namespace Go.Proofs.YthnafdbebniapaaGreatDoor
open Go Go.Wk Go.Un Go.De
set_option linter.unusedSimpArgs false
set_option linter.unusedVariables false
attribute [local irreducible] Go.wpList Go.Code.wp Go.wpStill Go.Wk.wpPre Go.bodyPost Go.Calls Go.Wk.Ct Go.Wk.OwnS Go.Wk.wpG Go.Wk.wpM
theorem related1Ct (F : Heap) : CbS F 143 [] [] (fun _ => true) := by
 unfold CbS
 intro F' s hF
 refine Ct.enter Tryz.func143 rfl Tryz.ntmps143 rfl fun w0 a S => ?_
 (revert S a; refine go 8 ?_; intro a S)
 refine wp_ret (fr1 S Tryz.results143 ?_)
 rfl
theorem relatedE_cons (ts : List TD) (seen : List (List UInt8)) (x : RD) (r : List RD) : relatedE ts seen (x :: r) = if x.nm ∈ seen ∨ twiceD x.fs = true then 6 else if fieldsE ts (fun _ => true) x.fs ≠ 0 then fieldsE ts (fun _ => true) x.fs else relatedE ts (seen ++ [x.nm]) r := rfl
theorem zzDeM0 {p : Prop} (h : p := by (first | (have hii : k = l.length := (by omega); have hz : relatedE ts [] l = 0 := (by rw [hfe, List.drop_eq_nil_of_le (by omega)]; rfl); rw [hz]; exact ⟨errV_0, fun _ => ⟨es, rfl, by rw [List.take_of_length_le (by omega)] at hm; exact hm⟩⟩) | (have h9 := hnb; have hne : fieldsE ts (fun _ => true) x.fs ≠ 0 := (by first | assumption | simpa using h); have e9 : relatedE ts [] l = fieldsE ts (fun _ => true) x.fs := (by rw [hfe, drop_at hx, relatedE_cons, if_neg hnb, if_pos hne]); rw [e9]; exact ⟨hv, fun h9 => absurd h9 hne⟩) | (have hb : x.nm ∈ (l.take k).map RD.nm ∨ twiceD x.fs = true := (by simp_all); have e9 : relatedE ts [] l = 6 := (by rw [hfe, drop_at hx, relatedE_cons, if_pos hb]); rw [e9]; exact ⟨errV_of (by decide), fun h9 => absurd h9 (by decide)⟩) | trace_state)) : p := h
theorem relatedCt (F : Heap) (tb m1 m3 : Nat) (ts : List TD) (hT : TyS F tb m1 ts) (hcc : Cel F tb 2 (.map (some m3))) (l : List RD) (v : Value) (h : LiM F 6 RdR v l) (hsz : ∀ x ∈ l, FSz x.fs ∧ x.fs.length ≤ 1000000) :
  Ct Tryz.prog 86 [.pointer (some ⟨tb, 0, none⟩), v] F [[(m3, mObj kS [])]] (fun _ G' u => ErrV (relatedE ts [] l) u ∧ (relatedE ts [] l = 0 → ∃ es, G' = [[(m3, mObj kS es)]] ∧ MapM F RdR RD.nm es l)) := by
 obtain ⟨ao, cap, rfl, hcap, hpos⟩ := h
 refine Ct.enter Tryz.func86 rfl Tryz.ntmps86 rfl fun w0 a S => ?_
 (revert S a; refine go 12 ?_; intro Z hZ a S)
 refine wpc_loop (fun m a w' => ∃ (k : Nat) (es : List (List UInt8 × Value)), m = l.length - k ∧ k ≤ l.length ∧ MapM F RdR RD.nm es (l.take k) ∧ relatedE ts [] l = relatedE ts ((l.take k).map RD.nm) (l.drop k) ∧ St 53 [(0, ptr tb), (10, .slice ao l.length cap), (11, .int .i64 l.length), (12, .int .i64 k)] w0 F [m3] F [[(m3, mObj kS es)]] a w') ?_ ?_
 ·(refine ⟨l.length, 0, [], by omega, Nat.zero_le _, trivial, rfl, ?_⟩; refine S.keep ?_; exact zk)
 (clear S; rintro m a w ⟨k, es, rfl, hkl, hm, hfe, S⟩)
 (revert S a; refine go 5 ?_; intro Z hZ a S)
 refine wpc_sp S rfl ?_ ?_ <;> intro h
 ·(revert S a; revert hZ Z; refine go 4 ?_; intro Z hZ a S)
  (refine wp_seq_k ?_; intro Z hZ)
  (obtain ⟨b8, o8, hao, x, cs1, hx, hc1, ⟨v1, rfl, hT1⟩⟩ := LiM.pos hpos (k := k) (by omega); rw [hao] at S; have hT1c := hT1; obtain ⟨a91, c91, rfl, -⟩ := hT1c; have hxsz := hsz x (List.mem_of_getElem? hx); have htk : l.take (k + 1) = l.take k ++ [x] := (by rw [List.take_add_one, hx]; rfl))
  (revert S a; refine go 3 ?_; intro a S)
  (refine wpl_alloc S rfl rfl rfl rfl ?_; clear S a; intro b6 a w S)
  (refine wso S rfl rfl ?_; clear S; intro w S)
  (revert S a; revert hZ Z; refine go 3 ?_; intro Z hZ a S)
  (refine wp_seq_k ?_; intro Z hZ)
  (refine wpc_mixM [0, 1, 2, 3, 4, 5, 6, 7, 8, 9] [3, 5, 6] [] (.one 0 (.one 1 (.one 2 (.one 3 (.one 4 (.one 5 (.one 6 (.one 7 (.one 8 (.one 9 (.one 10 (.one 11 (.one 12 .nil))))))))))))) [b6, m3] S mixed (by kernel_rfl) ?_; clear S; intro w S)
  (revert S a; refine go 3 ?_; intro a S)
  (refine wlF S rfl (fun w' S => sv_loadF S rfl rfl hcc) ?_; clear S a; intro a S)
  (revert S a; refine go 2 ?_; intro a S)
  (refine wpm_lateO m3 S rfl rfl rfl (want_none _ rfl) rfl rfl (fun w' S => sv_lookupO (enc := kS) S rfl rfl rfl) ?_; clear S a; intro a S)
  (obtain ⟨y, ac, cc, hgd, -, -, -⟩ := get_rd hm x.nm; rw [if_pos rfl, hgd, hm.mem x.nm] at S)
  (revert S a; refine go 4 ?_; intro a S)
  (refine wpl_alloc S rfl rfl rfl rfl ?_; clear S a; intro b7 a w S)
  (revert S a; refine go 2 ?_; intro a S)
  (refine wso S rfl rfl ?_; clear S; intro w S)
  (revert S a; revert hZ Z; refine go 9 ?_; intro Z hZ a S)
  refine wgd S ?_ ?_
  ·(clear S; intro h S)
   (revert S a; refine go 4 ?_; intro a S)
   (refine wc0 S (twiceCt F x.fs _ hT1 hxsz.2) ?_; clear S a; intro v9 a w hv S; subst hv)
   (revert S a; revert hZ Z; refine go 3 ?_; intro a S)
   refine wpc_sp S rfl ?_ ?_ <;> intro h
   ·(revert S a; refine go 8 ?_; intro a S)
    refine wp_ret ?_
    (first | (have h9 := hnb; replace S := S.drop1.drop1) | (have h9 := hx; replace S := S.drop1.drop1) | skip)
    refine fin_ret S (results1 Tryz.results86 (RV.tmp S rfl)) ?_
    exact zzDeM0
   (revert S a; revert hZ Z; refine go 2 ?_; intro a S)
   (refine wp_seq_k ?_; intro Z hZ)
   (have hnb : ¬ (x.nm ∈ (l.take k).map RD.nm ∨ twiceD x.fs = true) := (by rintro (h9 | h9) <;> simp_all); have hms : mSet es x.nm (.agg ⟨[.int .i64 x.l, .int .i64 x.c, .bool x.pub, .bool x.inp, .string (bs x.nm), .slice a91 x.fs.length c91]⟩) = es ++ [(x.nm, .agg ⟨[.int .i64 x.l, .int .i64 x.c, .bool x.pub, .bool x.inp, .string (bs x.nm), .slice a91 x.fs.length c91]⟩)] := mSet_new (by have h9 := hm.mem x.nm; rw [decide_eq_false (fun h8 => hnb (.inl h8))] at h9; exact none_of h9))
   (refine wpc_mixM [0, 1, 2, 3, 4, 5, 6] [3, 5, 6] [] (.one 0 (.one 1 (.one 2 (.one 3 (.one 4 (.one 5 (.one 6 (.one 7 .nil)))))))) [b6] S mixed (by kernel_rfl) ?_; clear S; intro w S)
   (revert S a; refine go 3 ?_; intro a S)
   (refine wlF S rfl (fun w' S => sv_loadF S rfl rfl hcc) ?_; clear S a; intro a S)
   (revert S a; refine go 4 ?_; intro a S)
   (refine wpl_mapSet (enc := kS) S rfl rfl rfl rfl rfl rfl ?_; clear S; intro w S)
   (revert S a; revert hZ Z; refine go 3 ?_; intro a S)
   (refine wp_seq_k ?_; intro Z hZ)
   (replace S : St _ _ _ _ _ F [_, _, [(m3, mObj kS (mSet es x.nm (.agg ⟨[.int .i64 x.l, .int .i64 x.c, .bool x.pub, .bool x.inp, .string (bs x.nm), .slice a91 x.fs.length c91]⟩)))]] _ _ := S; rw [hms] at S)
   (revert S a; refine go 6 ?_; intro a S)
   (refine wc0 S (fieldsCt F tb m1 ts hT x.fs _ hT1 hxsz.1 x.l x.c (fun _ => true) 143 [] [] (related1Ct F)) ?_; clear S a; intro v9 a w hv S)
   (revert S a; revert hZ Z; refine go 5 ?_; intro Z hZ a S)
   (refine wv S (sv_neErr S rfl rfl hv) ?_; clear S a; intro a S)
   (revert S a; revert hZ Z; refine go 2 ?_; intro a S)
   refine wpc_sp S rfl ?_ ?_ <;> intro h
   ·(revert S a; refine go 5 ?_; intro a S)
    refine wp_ret ?_
    (first | (have h9 := hnb; replace S := S.drop1.drop1) | (have h9 := hx; replace S := S.drop1.drop1) | skip)
    refine fin_ret S (results1 Tryz.results86 (RV.tmp S rfl)) ?_
    exact zzDeM0
   (revert S a; revert hZ Z; refine go 6 ?_; intro a S)
   change ∃ m', _ ∧ _
   (rw [← hao] at S; replace S := S.drop1.drop1; have hz2 : fieldsE ts (fun _ => true) x.fs = 0 := (by first | assumption | omega | (simp_all; done)); refine ⟨l.length - (k + 1), by omega, k + 1, _, rfl, by omega, (by rw [htk]; exact hm.app ⟨_, rfl, hT1⟩), (by rw [hfe, drop_at hx, relatedE_cons, if_neg hnb, if_neg (fun h => h hz2), htk, List.map_append]; rfl), ?_⟩; refine S.keep ?_; exact zk)
  (clear S a; intro h a S)
  (revert S a; revert hZ Z; refine go 5 ?_; intro a S)
  refine wpc_true S rfl ?_
  (revert S a; refine go 8 ?_; intro a S)
  refine wp_ret ?_
  (first | (have h9 := hnb; replace S := S.drop1.drop1) | (have h9 := hx; replace S := S.drop1.drop1) | skip)
  refine fin_ret S (results1 Tryz.results86 (RV.tmp S rfl)) ?_
  exact zzDeM0
 (refine wp_exit ?_; conv => whnf)
 clear hZ Z
 (revert S a; revert hZ Z; refine go 5 ?_; intro a S)
 refine wp_ret ?_
 (first | (have h9 := hnb; replace S := S.drop1.drop1) | (have h9 := hx; replace S := S.drop1.drop1) | skip)
 refine fin_ret S (results1 Tryz.results86 (RV.tmp S rfl)) ?_
 exact zzDeM0
end Go.Proofs.YthnafdbebniapaaGreatDoor
namespace Go.Wk
open Go
set_option linter.unusedVariables false
set_option linter.unusedSimpArgs false
section
variable {α : Type} [DecidableEq α] {P : Program} {n : Sz} {L : List (Nat × Value)} {w0 : World} {F0 : Heap} {K0 : List Nat} {F : Heap} {G : List Grp} {a : Act} {w : World} {ops : Array Oper} {Q : Exit → Act → World → Prop} {rest : List Oper} {o : Oper}
theorem wpl_mapIns {d : TypeDesc} {enc : α → Value} [hk : KeyK d enc] {t kt e : TypeId} {x y z : Operand} {b : Nat} {es : List (α × Value)} {R} {k : α} {v : Value} [ht : Und P t (.map kt e)] [hd : Und P kt d] [hh : Has G b (mObj enc es) R]
  (S : St n L w0 F0 K0 F G a w) (hg : o.guard = none) (ho : o.op = .insert t x y z) (hdst : o.dst = none) (hx : ev L x = some (.map (some b))) (hy : ev L y = some (enc k)) (hz : ev L z = some v)
  (kk : ∀ w', St n L w0 F0 K0 F (R [(b, mObj enc (mSet es k v))]) a w' → wpList P ops Q rest a w') : wpList P ops Q (o :: rest) a w := by
 refine wpList_plain hg fun K hK => ?_
 have hb := S.has hh
 have hr : (Instr.mapUpdate t (.map (some b)) (enc k) v).run P w = .ok () (w.putObj b (mObj enc (mSet es k v))) := by
  unfold Instr.mapUpdate
  have hg := run_getMap (P := P) hb
  have hc := hk.chk P w kt false k hd.h
  simp only [Sem.run_bind, run_underlying ht.h, Result.andThen_ok, hg, Sem.run_pure, hc, run_findKey (d := d) hd.h w es k]
  cases hf : List.findIdx? (fun p => decide (k = p.1)) es with
  | none =>
   have hn : mGet es k = none := by rw [mGet_idx, hf]; rfl
   simp only [Option.map_none, mSet_new hn, mObj, mEnt_append]
   simp only [mObj] at hb
   simp [setObj, Sem.run, hb, World.putObj, Array.set!]
  | some j =>
   obtain ⟨h1, h2, h3⟩ := mEnt_modify enc k v 0 es j hf
   simp only [Option.map_some, Sem.run_bind, mObj, List.getElem?_toArray, h2, Option.getD_some]
   unfold Instr.keyThatStays
   rw [if_pos (hk.bits k)]
   simp only [Sem.run_pure, Result.andThen_ok, List.modify_toArray, h1, h3]
   simp only [mObj] at hb
   simp [setObj, Sem.run, hb, World.putObj, Array.set!]
 unfold Oper.wp execOp
 rw [ho]
 simp [S.fr.eval hx, S.fr.eval hy, S.fr.eval hz, hr, Oper.upon_skip, hdst, Act.put]
 exact hK _ _ (kk _ (S.write hh rfl rfl rfl (by simp) (World.putObj_heap_same (heap_lt hb)) fun j hj => World.putObj_heap_other hj))
end
end Go.Wk
namespace Go.Proofs.YthnafdbebniapaaGreatDoor
open Go Go.Wk Go.Un Go.De
set_option linter.unusedSimpArgs false
set_option linter.unusedVariables false
attribute [local irreducible] Go.wpList Go.Code.wp Go.wpStill Go.Wk.wpPre Go.bodyPost Go.Calls Go.Wk.Ct Go.Wk.OwnS Go.Wk.wpG Go.Wk.wpM
section
variable {α : Type} [DecidableEq α] {P : Program} {n : Sz} {L : List (Nat × Value)} {w0 : World} {F0 : Heap} {K0 : List Nat} {F : Heap} {G : List Grp} {a : Act} {w : World} {ops : Array Oper} {Q : Exit → Act → World → Prop} {rest : List Oper} {o : Oper}
open Classical in
theorem wpc_scope {c rest : Code} (l : Nat) (J : Nat → Act → World → Prop) (hf : findLabel c l = some (.seq .skip rest))
  (first : (∀ m a w, J m a w → rest.wp P (Exit.jump l (fun a w => ∃ m, J m a w) Q) a w) → c.wp P (Exit.jump l (fun a w => ∃ m, J m a w) Q) a w)
  (pass : ∀ m a w, J m a w → rest.wp P (Exit.jump l (fun a' w' => ∃ m', m' < m ∧ J m' a' w') Q) a w) : (Code.scope c).wp P Q a w := by
 let μ : Act → World → Nat := fun a w => if h : ∃ m, J m a w then Classical.choose (least h) else 0
 refine wp_scope_jumps l (fun a w => ∃ m, J m a w) μ hf (first fun m a w h => wp_mono (pass m a w h) fun e a' w' h' => ?_) fun a w hJ => ?_
 ·cases e <;> try exact h'
  obtain ⟨rfl, m', _, hJ'⟩ := h'
  exact ⟨rfl, m', hJ'⟩
 ·have hμ : J (μ a w) a w := by simp only [μ, dif_pos hJ]; exact (Classical.choose_spec (least hJ)).1
  refine wp_mono (wp_seq (wp_skip (show rest.wp P _ a w from pass _ a w hμ))) fun e a' w' h => ?_
  cases e <;> try exact h
  obtain ⟨rfl, m', hm, hJ'⟩ := h
  refine ⟨rfl, ⟨m', hJ'⟩, ?_⟩
  have : μ a' w' ≤ m' := by
   have hex : ∃ m, J m a' w' := ⟨m', hJ'⟩
   simp only [μ, dif_pos hex]
   exact (Classical.choose_spec (least hex)).2 m' hJ'
  omega
end
structure HasM (F : Heap) (b6 b5 mb : Nat) (es : List (List UInt8 × Value)) (k : List (List UInt8)) : Prop where
  c6 : Cel F b6 0 (.func (.func 190) ⟨[]⟩ ⟨[.pointer (some ⟨b6, 0, none⟩), .pointer (some ⟨b5, 0, none⟩)]⟩)
  c5 : Cel F b5 0 (.map (some mb))
  m : F mb = some (mObj kS es)
  e : CntE es k
theorem HasM.mono {F F' : Heap} {b6 b5 mb : Nat} {es : List (List UInt8 × Value)} {k : List (List UInt8)} (hF : ∀ b o, F b = some o → F' b = some o) (h : HasM F b6 b5 mb es k) : HasM F' b6 b5 mb es k := ⟨h.c6.mono hF, h.c5.mono hF, hF _ _ h.m, h.e⟩
def HasD (b6 b5 mb : Nat) (es : List (List UInt8 × Value)) (k : List (List UInt8)) (m : Nat) : Prop := ∀ (F : Heap) (nm : List UInt8) (ar : Fo) (cs : List Value), ar.size < m → HasM F b6 b5 mb es k → TyC F cs nm ar →
 Ct Tryz.prog 190 ([] ++ [.agg ⟨cs⟩] ++ [.pointer (some ⟨b6, 0, none⟩), .pointer (some ⟨b5, 0, none⟩)]) F [] (fun _ _ u => u = .bool (hasT k (nm, ar)))
theorem full11Ct (b6 b5 mb : Nat) (es : List (List UInt8 × Value)) (k : List (List UInt8)) (m : Nat) (ih : HasD b6 b5 mb es k m) (F : Heap) (hM : HasM F b6 b5 mb es k) (nm : List UInt8) (ar : Fo) (v1 : Value) (hm : ar.size < m) (hs : SlF F v1 ar) :
  Ct Tryz.prog 191 ([] ++ [.agg ⟨[.string (bs nm), v1]⟩] ++ [.pointer (some ⟨b6, 0, none⟩)]) F [] (fun _ _ u => u = .bool (!hasT k (nm, ar))) := by
 have hs0 := hs
 obtain ⟨ao, cap, rfl, -, -⟩ := hs
 have hc6 := hM.c6
 refine Ct.enter Tryz.func191 rfl Tryz.ntmps191 rfl fun w0 a S => ?_
 refine wp_sr fun Z hZ => ?_
 (refine wbx S ?_; clear S a; intro b2 a w S)
 (revert S a; revert hZ Z; refine go 4 ?_; intro Z hZ a S)
 (refine wv S (sv_loadF S rfl rfl hc6) ?_; clear S a; intro a S)
 (revert S a; refine go 1 ?_; intro a S)
 (refine wc0 S (ih F nm ar _ hm hM ⟨_, rfl, hs0⟩) ?_; clear S a; intro v a w hv S; subst hv)
 (revert S a; revert hZ Z; refine go 4 ?_; intro a S)
 refine wp_ret (fr1 S Tryz.results191 ?_)
 rfl
theorem zzDeN0 {p : Prop} (h : p := by (congr 1; unfold hasT; first | (have htu : (nm, ar).1 = sTuple := (by assumption); rw [if_pos htu]; simp; done) | (have htu : ¬ (nm, ar).1 = sTuple := (by assumption); rw [if_neg htu]; first | (have hp : ¬ (nm, ar).1 ∈ k := (by rw [← List.count_pos_iff]; show ¬ 0 < k.count nm; omega); rw [decide_eq_false hp, Bool.false_or]) | (have hp : (nm, ar).1 ∈ k := (by rw [← List.count_pos_iff]; show 0 < k.count nm; omega); rw [decide_eq_true hp, Bool.true_or])) | trace_state)) : p := h
theorem hasCt (b6 b5 mb : Nat) (es : List (List UInt8 × Value)) (k : List (List UInt8)) : ∀ m, HasD b6 b5 mb es k m := by
 intro m
 induction m with
 | zero => intro F nm ar cs hm; omega
 | succ m ih =>
 intro F nm ar cs hm hM hT
 obtain ⟨v, rfl, hs⟩ := hT
 have hs0 := hs
 obtain ⟨ao, cap, rfl, -, -⟩ := hs
 have hc5 := hM.c5
 have hmb := hM.m
 have hE := hM.e
 refine Ct.enter Tryz.func190 rfl Tryz.ntmps190 rfl fun w0 a S => ?_
 refine wp_sr fun Z hZ => ?_
 (refine wbx S ?_; clear S a; intro b3 a w S)
 (revert S a; revert hZ Z; refine go 10 ?_; intro Z hZ a S)
 refine wpc_sp S rfl ?_ ?_ <;> intro h
 ·(revert S a; refine go 4 ?_; intro Z hZ a S)
  (refine wc0 S (containsTCt F ar _ hs0 191 [] [.pointer (some ⟨b6, 0, none⟩)] (fun y => !hasT k y) (fun j x v1 hx hs1 => full11Ct b6 b5 mb es k m ih F hM x.1 x.2 v1 (by have := Fo.size_get hx; omega) hs1)) ?_; clear S a; intro v a w hv S; subst hv; rw [any_has] at S)
  (revert S a; revert hZ Z; refine go 4 ?_; intro a S)
  refine wp_ret (fr1 S Tryz.results190 ?_)
  exact zzDeN0
 (revert S a; revert hZ Z; refine go 3 ?_; intro Z hZ a S)
 (refine wv S (sv_loadF S rfl rfl hc5) ?_; clear S a; intro a S)
 (revert S a; refine go 2 ?_; intro a S)
 (refine wv S (sv_lookupF (enc := kS) S rfl rfl rfl hmb) ?_; clear S a; intro a S)
 (rw [if_neg (by decide), hE nm] at S)
 (revert S a; refine go 2 ?_; intro a S)
 refine wgd S ?_ ?_
 ·(clear S; intro h S)
  (revert S a; refine go 4 ?_; intro a S)
  (refine wc0 S (paramCt F nm) ?_; clear S a; intro v a w hv S; subst hv)
  (revert S a; revert hZ Z; refine go 4 ?_; intro a S)
  refine wp_ret (fr1 S Tryz.results190 ?_)
  exact zzDeN0
 (clear S a; intro h a S)
 (revert S a; revert hZ Z; refine go 6 ?_; intro a S)
 refine wp_ret (fr1 S Tryz.results190 ?_)
 exact zzDeN0
theorem full2Ct (b6 b5 mb : Nat) (es : List (List UInt8 × Value)) (k : List (List UInt8)) (F : Heap) (hM : HasM F b6 b5 mb es k) (x : FD) (cs : List Value) (hR : FdR F x cs) :
  Ct Tryz.prog 192 ([] ++ [.agg ⟨cs⟩] ++ [.pointer (some ⟨b6, 0, none⟩)]) F [] (fun _ G' u => u = .bool (!hasT k (x.tn, x.ta)) ∧ G' = []) := by
 refine ct_nil ?_
 obtain ⟨v, rfl, hs⟩ := hR
 have hs0 := hs
 obtain ⟨ao, cap, rfl, -, -⟩ := hs
 have hc6 := hM.c6
 refine Ct.enter Tryz.func192 rfl Tryz.ntmps192 rfl fun w0 a S => ?_
 refine wp_sr fun Z hZ => ?_
 (refine wbx S ?_; clear S a; intro b2 a w S)
 (revert S a; revert hZ Z; refine go 4 ?_; intro Z hZ a S)
 (refine wv S (sv_loadF S rfl rfl hc6) ?_; clear S a; intro a S)
 (revert S a; refine go 2 ?_; intro a S)
 (refine wc0 S (hasCt b6 b5 mb es k (x.ta.size + 1) F x.tn x.ta _ (Nat.lt_succ_self _) hM ⟨_, rfl, hs0⟩) ?_; clear S a; intro v a w hv S; subst hv)
 (revert S a; revert hZ Z; refine go 4 ?_; intro a S)
 refine wp_ret (fr1 S Tryz.results192 ?_)
 rfl
theorem cnt0 : CntE (mSet (mSet (mSet (mSet [] sBool (.int .i64 1)) sInt (.int .i64 1)) sBig (.int .i64 1)) sText (.int .i64 1)) full0 := by
 have h0 : CntE [] [] := fun nm => rfl
 exact (((h0.set sBool).set sInt).set sBig).set sText
theorem zzDeN1 {p : Prop} (h : p := by (have hxx : x.nm ∉ k → tyOK k x = false := (by first | (intro h8; have h9 := hcn; unfold tyOK; rw [List.any_eq_false]; intro c hc; obtain ⟨jj, hjj⟩ := List.mem_iff_getElem?.1 hc; have hjl := (List.getElem?_eq_some_iff.1 hjj).1; rw [hcn jj c (by omega) hjj]; decide) | (intro h8; exfalso; rw [← List.count_pos_iff] at h8; omega)); rw [← hao] at S; replace S := S.drop1; refine ⟨l.length - (i + 1), by omega, i + 1, rfl, by omega, ?_, ?_⟩; rotate_left 1; (refine S.keep ?_; exact zk); intro j z h7 h8; rcases Nat.lt_or_eq_of_le (Nat.le_of_lt_succ h7) with h6 | h6; exact hcl j z h6 h8; subst h6; rw [hx] at h8; cases h8; exact hxx)) : p := h
theorem zzDeN2 {p : Prop} (h : p := by (have hclosed : Closed l k := (by intro x hx hn; obtain ⟨j, hj⟩ := List.mem_iff_getElem?.1 hx; have hjl := (List.getElem?_eq_some_iff.1 hj).1; exact hcl j x (by omega) hj hn); rw [fullE_of hR hclosed]; first | (rw [if_pos (by rw [List.all_eq_true]; intro x hx; obtain ⟨j, hj⟩ := List.mem_iff_getElem?.1 hx; have hjl := (List.getElem?_eq_some_iff.1 hj).1; exact decide_eq_true (hall j x (by omega) hj))]; exact errV_0) | (have hxx : x.nm ∉ k := (by rw [← List.count_pos_iff]; omega); rw [if_neg (by rw [List.all_eq_true]; intro h9; have := of_decide_eq_true (h9 x (List.mem_of_getElem? hx)); exact hxx this)]; exact errV_of (by decide)) | trace_state)) : p := h
theorem fullCt (F : Heap) (tbv : Value) (l : List TD) (v : Value) (h : LiM F 6 TdR v l) :
  Ct Tryz.prog 142 [tbv, v] F [] (fun _ _ u => ErrV (fullE l) u) := by
 obtain ⟨ao, cap, rfl, hcap, hpos⟩ := h
 refine Ct.enter Tryz.func142 rfl Tryz.ntmps142 rfl fun w0 a S => ?_
 (revert S a; refine go 4 ?_; intro a S)
 refine wpc_scope 0 (fun m a w' => ∃ (k : List (List UInt8)) (es : List (List UInt8 × Value)) (mb b5 b6 : Nat) (F2 : Heap), m = leftN l k ∧ Rch l k ∧ CntE es k ∧ (∀ b o, F b = some o → F2 b = some o) ∧ Cel F2 b6 0 (.func (.func 190) ⟨[]⟩ ⟨[.pointer (some ⟨b6, 0, none⟩), .pointer (some ⟨b5, 0, none⟩)]⟩) ∧ Cel F2 b5 0 (.map (some mb)) ∧ St 62 [(1, .slice ao l.length cap), (5, ptr b5), (6, ptr b6)] w0 F [] F2 [[(mb, mObj kS es)]] a w') rfl ?_ ?_
 ·(intro hpass)
  refine wp_sr fun Z hZ => ?_
  (refine wpl_makeMap kS S rfl rfl rfl rfl ?_; clear S a; intro b13 a w S)
  iterate 4 (refine wpl_mapIns (enc := kS) S rfl rfl rfl rfl rfl rfl ?_; clear S; intro w S)
  (revert S a; refine go 1 ?_; intro a S)
  (refine wpl_alloc S rfl rfl rfl rfl ?_; clear S a; intro b5 a w S)
  (refine wpl_store1 S rfl rfl rfl rfl rfl rfl (by first | (simp; done) | (simp [Value.cells]; done) | exact Nat.le_of_ble_eq_true rfl) ?_; clear S; intro w S)
  (revert S a; revert hZ Z; refine go 3 ?_; intro Z hZ a S)
  (refine wpl_alloc S rfl rfl rfl rfl ?_; clear S a; intro b6 a w S)
  (revert S a; revert hZ Z; refine go 4 ?_; intro Z hZ a S)
  (refine wpl_store1 S rfl rfl rfl rfl rfl rfl (by first | (simp; done) | (simp [Value.cells]; done) | exact Nat.le_of_ble_eq_true rfl) ?_; clear S; intro w S)
  (revert S a; revert hZ Z; refine go 2 ?_; intro a S)
  (refine wp_seq_k ?_; intro Z hZ)
  refine wp_label ?_
  (refine hZ _ _ ?_; clear hZ Z)
  (replace S : St _ _ _ _ _ F [[(b6, .cells ⟨[.func (.func 190) ⟨[]⟩ ⟨[.pointer (some ⟨b6, 0, none⟩), .pointer (some ⟨b5, 0, none⟩)]⟩]⟩ 144 (0, 0))], [(b5, .cells ⟨[.map (some b13)]⟩ 237 (0, 0))], [(b13, mObj kS (mSet (mSet (mSet (mSet [] sBool (.int .i64 1)) sInt (.int .i64 1)) sBig (.int .i64 1)) sText (.int .i64 1)))]] _ _ := S; have hle1 := add_le (G1 := []) S; replace S := St.freeze (G1 := []) S; (simp only [List.nil_append] at S hle1); have hb6 : Cel (F.add [(b6, .cells ⟨[.func (.func 190) ⟨[]⟩ ⟨[.pointer (some ⟨b6, 0, none⟩), .pointer (some ⟨b5, 0, none⟩)]⟩]⟩ 144 (0, 0))]) b6 0 (.func (.func 190) ⟨[]⟩ ⟨[.pointer (some ⟨b6, 0, none⟩), .pointer (some ⟨b5, 0, none⟩)]⟩) := ⟨_, _, _, Heap.add_new (p := (b6, _)) (List.mem_singleton.2 rfl) (by simp), rfl⟩; generalize (F.add [(b6, .cells ⟨[.func (.func 190) ⟨[]⟩ ⟨[.pointer (some ⟨b6, 0, none⟩), .pointer (some ⟨b5, 0, none⟩)]⟩]⟩ 144 (0, 0))]) = F1 at S hle1 hb6; have hle2 := add_le (G1 := []) S; replace S := St.freeze (G1 := []) S; (simp only [List.nil_append] at S hle2); have hb5 : Cel (F1.add [(b5, .cells ⟨[.map (some b13)]⟩ 237 (0, 0))]) b5 0 (.map (some b13)) := ⟨_, _, _, Heap.add_new (p := (b5, _)) (List.mem_singleton.2 rfl) (by simp), rfl⟩; generalize (F1.add [(b5, .cells ⟨[.map (some b13)]⟩ 237 (0, 0))]) = F2 at S hle2 hb5; refine hpass _ _ _ ⟨full0, _, b13, b5, b6, F2, rfl, .base, cnt0, fun b o h => hle2 _ _ (hle1 _ _ h), hb6.mono hle2, hb5, ?_⟩; refine S.keep ?_; exact zk)
 (clear S; rintro m a w ⟨k, es, mb, b5, b6, F2, rfl, hR, hE, hF2, hb6, hb5, S⟩)
 (revert S a; refine go 8 ?_; intro Z hZ a S)
 refine wpc_loop (fun m a w' => ∃ (i : Nat), m = l.length - i ∧ i ≤ l.length ∧ (∀ (j : Nat) (x : TD), j < i → l[j]? = some x → x.nm ∉ k → tyOK k x = false) ∧ St 62 [(1, .slice ao l.length cap), (5, ptr b5), (6, ptr b6), (16, .slice ao l.length cap), (17, .int .i64 l.length), (18, .int .i64 i)] w0 F [] F2 [[(mb, mObj kS es)]] a w') ?_ ?_
 ·(refine ⟨l.length, 0, by omega, Nat.zero_le _, fun j x h => absurd h (Nat.not_lt_zero _), ?_⟩; refine S.keep ?_; exact zk)
 (clear S; rintro m a w ⟨i, rfl, hil, hcl, S⟩; have hle : ∀ b o, F2 b = some o → (F2.add [(mb, mObj kS es)]) b = some o := add_le (G1 := []) S; have hmadd : (F2.add [(mb, mObj kS es)]) mb = some (mObj kS es) := Heap.add_new (p := (mb, _)) (List.mem_singleton.2 rfl) (by simp))
 (revert S a; refine go 5 ?_; intro Z hZ a S)
 refine wpc_sp S rfl ?_ ?_ <;> intro h
 ·(revert S a; revert hZ Z; refine go 4 ?_; intro Z hZ a S)
  (refine wp_seq_k ?_; intro Z hZ)
  (obtain ⟨b9, o9, hao, x, cs1, hx, hc1, ⟨w1, w2, rfl, hps, hcs⟩⟩ := LiM.pos hpos (k := i) (by omega); rw [hao] at S; replace hc1 := Cels.mono hF2 hc1; obtain ⟨ap, cp, rfl, -, -⟩ := hps; obtain ⟨ac, cc, rfl, hcc, hposc⟩ := hcs)
  (revert S a; refine go 3 ?_; intro a S)
  (refine wpl_alloc S rfl rfl rfl rfl ?_; clear S a; intro b8 a w S)
  (refine wso S rfl rfl ?_; clear S; intro w S)
  (revert S a; revert hZ Z; refine go 4 ?_; intro Z hZ Z hZ a S)
  (refine wv S (sv_loadF S rfl rfl hb5) ?_; clear S a; intro a S)
  (revert S a; refine go 2 ?_; intro a S)
  (refine wv S (sv_lookupO (enc := kS) S rfl rfl rfl) ?_; clear S a; intro a S)
  (rw [if_neg (by decide), hE x.nm] at S)
  (revert S a; revert hZ Z; refine go 3 ?_; intro a S)
  refine wpc_sp S rfl ?_ ?_ <;> intro h
  ·(refine wp_exit ?_; conv => whnf)
   clear hZ Z
   (revert S a; revert hZ Z; refine go 5 ?_; intro a S)
   change ∃ m', _ ∧ _
   exact zzDeN1
  refine wp_skip ?_
  (refine hZ _ _ ?_; clear hZ Z)
  (refine wp_seq_k ?_; intro Z hZ)
  (have hnk : x.nm ∉ k := (by rw [← List.count_pos_iff]; omega))
  (revert S a; revert hZ Z; refine go 8 ?_; intro a S)
  refine wpc_loop (fun m a w' => ∃ (i2 : Nat), m = x.cs.length - i2 ∧ i2 ≤ x.cs.length ∧ (∀ (j : Nat) (c : CD), j < i2 → x.cs[j]? = some c → consOK k c = false) ∧ St 62 [(1, .slice (some ⟨b9, o9, none⟩) l.length cap), (5, ptr b5), (6, ptr b6), (8, ptr b8), (16, .slice (some ⟨b9, o9, none⟩) l.length cap), (17, .int .i64 l.length), (18, .int .i64 i), (28, .slice ac x.cs.length cc), (29, .int .i64 x.cs.length), (30, .int .i64 i2)] w0 F [] F2 [[(b8, .cells ⟨[.int .i64 x.l, .int .i64 x.c, .bool x.pub, .string (bs x.nm), .slice ap x.ps.length cp, .slice ac x.cs.length cc]⟩ 69 (0, 0))], [(mb, mObj kS es)]] a w') ?_ ?_
  ·(refine ⟨x.cs.length, 0, by omega, Nat.zero_le _, fun j c h => absurd h (Nat.not_lt_zero _), ?_⟩; refine S.keep ?_; exact zk)
  (clear S; rintro m a w ⟨i2, rfl, hil2, hcn, S⟩)
  (revert S a; refine go 5 ?_; intro Z hZ a S)
  refine wpc_sp S rfl ?_ ?_ <;> intro h
  ·(revert S a; revert hZ Z; refine go 4 ?_; intro Z hZ a S)
   (refine wp_seq_k ?_; intro Z hZ)
   (obtain ⟨b11, o11, hao2, y, cs2, hy, hd1, ⟨w3, rfl, hfs⟩⟩ := LiM.pos hposc (k := i2) (by omega); rw [hao2] at S; replace hd1 := Cels.mono hF2 hd1; replace hfs := hfs.mono hF2; have hfsc := hfs; obtain ⟨af, cf, rfl, -, -⟩ := hfsc)
   (revert S a; refine go 3 ?_; intro a S)
   (refine wpl_alloc S rfl rfl rfl rfl ?_; clear S a; intro b10 a w S)
   (refine wso S rfl rfl ?_; clear S; intro w S)
   (revert S a; revert hZ Z; refine go 6 ?_; intro Z hZ a S)
   (refine wpl_callOwn (Gs := [[(mb, mObj kS es)]]) (Gr := [[(b10, _)], [(b8, _)]]) S rfl rfl rfl rfl rfl rfl (Ct.lend (containsDCt (F2.add [(mb, mObj kS es)]) y.fs _ (hfs.mono hle) 192 [] [.pointer (some ⟨b6, 0, none⟩)] (fun _ x => !hasT k (x.tn, x.ta)) (fun _ G => G = []) [] rfl (fun j z cs1 G9 hz hzR hG => by subst hG; exact full2Ct b6 b5 mb es k _ ⟨hb6.mono hle, hb5.mono hle, hmadd, hE⟩ z cs1 hzR))) rfl (by exact List.perm_append_comm (l₁ := [_, _]) (l₂ := [_])) ?_; clear S a; intro u9 G9 a w hv S; obtain ⟨rfl, rfl⟩ := hv; rw [anyP_has] at S; replace S : St _ _ _ _ _ F2 [[(b10, _)], [(b8, _)], [(mb, mObj kS es)]] _ _ := St.permI S 3 rfl [1, 2, 0] (by decide))
   (revert S a; revert hZ Z; refine go 3 ?_; intro a S)
   refine wpc_sp S rfl ?_ ?_ <;> intro h
   ·refine wp_sr fun Z hZ => ?_
    (refine wv S (sv_loadF S rfl rfl hb5) ?_; clear S a; intro a S)
    (revert S a; refine go 2 ?_; intro a S)
    (refine wv S (sv_lookupO (enc := kS) S rfl rfl rfl) ?_; clear S a; intro a S)
    (rw [if_neg (by decide), hE x.nm] at S)
    (revert S a; refine go 1 ?_; intro a S)
    (rw [show (((k.count x.nm : Nat) : Int) + 1) = ((k.count x.nm + 1 : Nat) : Int) from rfl] at S)
    (refine wpl_mapSet (enc := kS) S rfl rfl rfl rfl rfl rfl ?_; clear S; intro w S)
    (revert S a; revert hZ Z; refine go 2 ?_; intro a S)
    refine wp_goto ?_
    change _ ∧ ∃ m', _ ∧ _
    (have hok : consOK k y = true := (by assumption); have hto : tyOK k x = true := List.any_eq_true.2 ⟨y, List.mem_of_getElem? hy, hok⟩; have hmem := List.mem_of_getElem? hx; rw [← hao] at S; replace S := S.drop1.drop1; refine ⟨rfl, leftN l (k ++ [x.nm]), leftN_step hmem hnk, k ++ [x.nm], _, mb, b5, b6, F2, rfl, .step hR hmem hnk hto, hE.set x.nm, hF2, hb6, hb5, ?_⟩; refine S.keep ?_; exact zk)
   (revert S a; revert hZ Z; refine go 6 ?_; intro a S)
   change ∃ m', _ ∧ _
   (rw [← hao2] at S; replace S := S.drop1; refine ⟨x.cs.length - (i2 + 1), by omega, i2 + 1, rfl, by omega, ?_, ?_⟩; rotate_left 1; (refine S.keep ?_; exact zk); intro j z h7 h8; rcases Nat.lt_or_eq_of_le (Nat.le_of_lt_succ h7) with h6 | h6; exact hcn j z h6 h8; subst h6; rw [hy] at h8; cases h8; have hno : consOK k y = false := (by assumption); exact hno)
  (refine wp_exit ?_; conv => whnf)
  clear hZ Z
  (revert S a; revert hZ Z; refine go 5 ?_; intro a S)
  change ∃ m', _ ∧ _
  exact zzDeN1
 (refine wp_exit ?_; conv => whnf)
 clear hZ Z
 (revert S a; revert hZ Z; refine go 9 ?_; intro Z hZ a S)
 refine wpc_loop (fun m a w' => ∃ (i : Nat), m = l.length - i ∧ i ≤ l.length ∧ (∀ (j : Nat) (x : TD), j < i → l[j]? = some x → x.nm ∈ k) ∧ St 62 [(5, ptr b5), (46, .slice ao l.length cap), (47, .int .i64 l.length), (48, .int .i64 i)] w0 F [] F2 [[(mb, mObj kS es)]] a w') ?_ ?_
 ·(have hclosed : Closed l k := (by intro x hx hn; obtain ⟨j, hj⟩ := List.mem_iff_getElem?.1 hx; have hjl := (List.getElem?_eq_some_iff.1 hj).1; exact hcl j x (by omega) hj hn); refine ⟨l.length, 0, by omega, Nat.zero_le _, fun j x h => absurd h (Nat.not_lt_zero _), ?_⟩; refine S.keep ?_; exact zk)
 (clear S; rintro m a w ⟨i, rfl, hil, hall, S⟩)
 (revert S a; refine go 5 ?_; intro Z hZ a S)
 refine wpc_sp S rfl ?_ ?_ <;> intro h
 ·(revert S a; revert hZ Z; refine go 4 ?_; intro Z hZ a S)
  (refine wp_seq_k ?_; intro Z hZ)
  (obtain ⟨b9, o9, hao, x, cs1, hx, hc1, ⟨w1, w2, rfl, hps, hcs⟩⟩ := LiM.pos hpos (k := i) (by omega); rw [hao] at S; replace hc1 := Cels.mono hF2 hc1; obtain ⟨ap, cp, rfl, -, -⟩ := hps; obtain ⟨ac, cc, rfl, hcc, hposc⟩ := hcs)
  (revert S a; refine go 3 ?_; intro a S)
  (refine wpl_alloc S rfl rfl rfl rfl ?_; clear S a; intro b12 a w S)
  (refine wso S rfl rfl ?_; clear S; intro w S)
  (revert S a; revert hZ Z; refine go 3 ?_; intro Z hZ a S)
  (refine wv S (sv_loadF S rfl rfl hb5) ?_; clear S a; intro a S)
  (revert S a; refine go 2 ?_; intro a S)
  (refine wv S (sv_lookupO (enc := kS) S rfl rfl rfl) ?_; clear S a; intro a S)
  (rw [if_neg (by decide), hE x.nm] at S)
  (revert S a; revert hZ Z; refine go 3 ?_; intro a S)
  refine wpc_sp S rfl ?_ ?_ <;> intro h
  ·(revert S a; refine go 8 ?_; intro a S)
   refine wp_ret ?_
   change bodyPost _ _ _ _ _ _
   refine fin_ret S (results1 Tryz.results142 (RV.tmp S rfl)) ?_
   exact zzDeN2
  (revert S a; revert hZ Z; refine go 6 ?_; intro a S)
  change ∃ m', _ ∧ _
  (have hxx : x.nm ∈ k := (by rw [← List.count_pos_iff]; omega); rw [← hao] at S; replace S := S.drop1; refine ⟨l.length - (i + 1), by omega, i + 1, rfl, by omega, ?_, ?_⟩; rotate_left 1; (refine S.keep ?_; exact zk); intro j z h7 h8; rcases Nat.lt_or_eq_of_le (Nat.le_of_lt_succ h7) with h6 | h6; exact hall j z h6 h8; subst h6; rw [hx] at h8; cases h8; exact hxx)
 (refine wp_exit ?_; conv => whnf)
 clear hZ Z
 (revert S a; revert hZ Z; refine go 5 ?_; intro a S)
 refine wp_ret ?_
 change bodyPost _ _ _ _ _ _
 refine fin_ret S (results1 Tryz.results142 (RV.tmp S rfl)) ?_
 exact zzDeN2
end Go.Proofs.YthnafdbebniapaaGreatDoor
