/- Walks. -/
import Derived.Test.YtbhipiepfclneaaGreatDoorQ25
import Derived.Test.YtbhipiepfclneaaGreatDoorQ24
set_option maxHeartbeats 8000000
namespace Go.Proofs.YtbhipiepfclneaaGreatDoor
open Go Go.Wk Go.Un Go.De Go.Num
set_option linter.unusedSimpArgs false
set_option linter.unusedVariables false
attribute [local irreducible] Go.wpList Go.Code.wp Go.wpStill Go.Wk.wpPre Go.bodyPost Go.Calls Go.Wk.Ct Go.Wk.OwnS Go.Wk.wpG Go.Wk.wpM
section
variable {n : Sz} {L : List (Nat × Value)} {w0 : World} {F0 : Heap} {K0 : List Nat} {F : Heap} {R : List Grp} {p q r : Nat × Obj} {g g1 g2 : Grp} {a : Act} {w : World}
theorem joi5d (S : St n L w0 F0 K0 F ([p] :: [q] :: g1 :: [r] :: g2 :: R) a w) : St n L w0 F0 K0 F ((p :: q :: (g1 ++ g2)) :: R) a w := ⟨S.fr, S.tr.sub (by simp)⟩
end
theorem zzGf0 {p : Prop} (h : p := by (refine ⟨?_, rfl⟩; first | (rw [if_pos ⟨by assumption, by assumption⟩]) | (rw [if_neg (fun h9 => by obtain ⟨h8, h7⟩ := h9; simp_all)]) | trace_state)) : p := h
theorem delNoCt (F : Heap) (hT : TabF F) (bg : Nat) (av : Value) (gv : Gv) (gg : Grp) (hG : GsS bg av gv gg) (key way : Vf) (v1 v2 : Value) (h1 : TrS F 4 VhR v1 key) (h2 : TrS F 4 VhR v2 way) (r1 : RowB key) (r2 : RowB way)
  (hno : ∀ k9 w9, txtG key = some k9 → txtG way = some w9 → alG gv k9 = none) (hav : av.oneCell' = true) :
  Ct Tryz.prog 11 [.pointer (some ⟨bg, 0, none⟩), v1, v2] F [gg] (fun _ G' u => u = .int .i64 (if (txtG key).isSome = true ∧ (txtG way).isSome = true then 5 else 4) ∧ G' = [gg]) := by
 have t1 := textCtG F hT v1 key h1 r1.rg r1.wt
 have t2 := textCtG F hT v2 way h2 r2.rg r2.wt
 obtain ⟨bm, om, gw, rfl, hm, hw⟩ := hG
 obtain ⟨a1, c1, rfl, -⟩ := h1
 obtain ⟨a2, c2, rfl, -⟩ := h2
 refine Ct.enter Tryz.func11 rfl Tryz.ntmps11 rfl fun w0 a S => ?_
 (revert S a; refine go 5 ?_; intro Z hZ a S)
 (refine wp_seq_k ?_; intro Z hZ)
 (replace S := spl3 S)
 (revert S a; refine go 2 ?_; intro a S)
 (refine wv S (sv_eqPtrSome S rfl rfl rfl) ?_; clear S a; intro a S)
 (revert S a; revert hZ Z; refine go 2 ?_; intro a S)
 refine wpc_false S rfl ?_
 (revert S a; revert hZ Z; refine go 4 ?_; intro Z hZ a S)
 (refine wc0 S t1 ?_; clear S a; intro v9 a w hv S; subst hv; unfold tvV at S)
 (revert S a; revert hZ Z; refine go 9 ?_; intro Z hZ a S)
 (refine wc0 S t2 ?_; clear S a; intro v9 a w hv S; subst hv; unfold tvV at S)
 (revert S a; revert hZ Z; refine go 12 ?_; intro Z hZ Z hZ a S)
 refine wgd S ?_ ?_
 ·(clear S; intro h S)
  (revert S a; revert hZ Z; refine go 6 ?_; intro a S)
  refine wpc_sp S rfl ?_ ?_ <;> intro h
  ·(revert S a; refine go 4 ?_; intro a S)
   refine wp_ret ?_
   (first | (replace S := joi3 S.drop1) | (replace S := joi3 S))
   refine fin_ret S (results1 Tryz.results11 (RV.tmp S rfl)) ?_
   exact zzGf0
  refine wp_skip ?_
  (refine hZ _ _ ?_; clear hZ Z)
  (refine wp_seq_k ?_; intro Z hZ)
  (obtain ⟨k9, hk⟩ := Option.isSome_iff_exists.1 (by assumption : (txtG key).isSome = true); obtain ⟨w9, hw9⟩ := Option.isSome_iff_exists.1 (by assumption : (txtG way).isSome = true); have hmg : mGet (gvM gv) k9 = none := (by rw [mGet_gv, hno k9 w9 hk hw9]; rfl); rw [hk, hw9] at S)
  (revert S a; refine go 6 ?_; intro a S)
  (refine wv S (sv_lookP (enc := kS) (k := k9) S rfl rfl rfl hm) ?_; clear S a; intro a S; rw [hmg] at S)
  (refine wpl_alloc S rfl rfl rfl rfl ?_; clear S a; intro b11 a w S)
  (refine wso S rfl rfl ?_; clear S; intro w S)
  (revert S a; revert hZ Z; refine go 7 ?_; intro Z hZ Z hZ a S)
  (refine wv S (sv_lookNil (enc := kS) (k := w9) S rfl rfl rfl) ?_; clear S a; intro a S)
  (revert S a; revert hZ Z; refine go 9 ?_; intro Z hZ a S)
  (refine wv S (sv_lit (c := true) (sv_pure S rfl) (by rfl)) ?_; clear S a; intro a S)
  (revert S a; revert hZ Z; refine go 2 ?_; intro a S)
  refine wpc_true S rfl ?_
  (revert S a; refine go 4 ?_; intro a S)
  refine wp_ret ?_
  (first | (replace S := joi3 S.drop1) | (replace S := joi3 S))
  refine fin_ret S (results1 Tryz.results11 (RV.tmp S rfl)) ?_
  exact zzGf0
 (clear S a; intro h a S)
 (revert S a; revert hZ Z; refine go 4 ?_; intro a S)
 refine wpc_true S rfl ?_
 (revert S a; refine go 4 ?_; intro a S)
 refine wp_ret ?_
 (first | (replace S := joi3 S.drop1) | (replace S := joi3 S))
 refine fin_ret S (results1 Tryz.results11 (RV.tmp S rfl)) ?_
 exact zzGf0
theorem zzGf1 {p : Prop} (h : p := by (first | (exact .inl ⟨by assumption, rfl, rfl⟩) | (refine .inr ⟨by assumption, rfl, _, rfl, ?_⟩; first | (rw [if_pos (List.eq_nil_of_length_eq_zero hz), hdl]; exact ⟨bm, om2, g1 ++ g2, rfl, hm2, WaS.app hwb hwa⟩) | (have hnz : ¬ alD ews w9 = [] := (fun h9 => by have h8 := congrArg List.length h9; rw [List.length_nil] at h8; omega); rw [if_neg hnz, hup]; have hgv : gvM (x1 ++ (k9, (⟨.slice akv kvn ckv, eb, alD ews w9⟩ : Ev)) :: x2) = gvM (x1 ++ (k9, (⟨.slice akv kvn ckv, eb, ews⟩ : Ev)) :: x2) := (by unfold gvM; rw [List.map_append, List.map_append]; rfl); exact ⟨bm, om, g1 ++ (eb, ow2) :: g2, rfl, (by rw [hgv]; exact hm), WaS.join (e := ⟨.slice akv kvn ckv, eb, alD ews w9⟩) how2 hwb hwa⟩)) | trace_state)) : p := h
theorem delOldCt (F : Heap) (hT : TabF F) (bg : Nat) (av : Value) (gv : Gv) (gg : Grp) (hG : GsS bg av gv gg) (key way : Vf) (v1 v2 : Value) (h1 : TrS F 4 VhR v1 key) (h2 : TrS F 4 VhR v2 way) (r1 : RowB key) (r2 : RowB way)
  (k9 w9 : List UInt8) (hk : txtG key = some k9) (hw9 : txtG way = some w9) (e : Ev) (en : En) (hsome : alG gv k9 = some e) (hkv : TrS F 4 VhR e.kv en.key) (hav : av.oneCell' = true) :
  Ct Tryz.prog 11 [.pointer (some ⟨bg, 0, none⟩), v1, v2] F [gg] (fun _ G' u => ((alG e.ws w9).isSome = false ∧ u = .int .i64 5 ∧ G' = [gg]) ∨ ((alG e.ws w9).isSome = true ∧ u = .int .i64 0 ∧ ∃ gg', G' = [gg'] ∧ GsS bg av (if alD e.ws w9 = [] then alD gv k9 else alU gv k9 fun e => ⟨e.kv, e.b, alD e.ws w9⟩) gg')) := by
 have t1 := textCtG F hT v1 key h1 r1.rg r1.wt
 have t2 := textCtG F hT v2 way h2 r2.rg r2.wt
 rw [hk] at t1
 rw [hw9] at t2
 obtain ⟨bm, om, gw, rfl, hm, hw⟩ := hG
 obtain ⟨x1, x2, rfl, hx1, hup, hdl⟩ := alG_split hsome
 obtain ⟨g1, ow, g2, rfl, how, hwa, hwb⟩ := WaS.split hw
 have hmg : mGet (gvM (x1 ++ (k9, e) :: x2)) k9 = some (evV e) := by rw [mGet_gv, hsome]; rfl
 obtain ⟨kv, eb, ews⟩ := e
 obtain ⟨akv, ckv, rfl, -⟩ := hkv
 obtain ⟨a1, c1, rfl, -⟩ := h1
 obtain ⟨a2, c2, rfl, -⟩ := h2
 generalize en.key.len = kvn at hm hmg hsome hup hdl ⊢
 have hmw : mGet ews w9 = alG ews w9 := mGet_al ews w9
 refine Ct.enter Tryz.func11 rfl Tryz.ntmps11 rfl fun w0 a S => ?_
 (revert S a; refine go 5 ?_; intro Z hZ a S)
 (refine wp_seq_k ?_; intro Z hZ)
 (replace S := spl5 S)
 (revert S a; refine go 2 ?_; intro a S)
 (refine wv S (sv_eqPtrSome S rfl rfl rfl) ?_; clear S a; intro a S)
 (revert S a; revert hZ Z; refine go 2 ?_; intro a S)
 refine wpc_false S rfl ?_
 (revert S a; revert hZ Z; refine go 4 ?_; intro Z hZ a S)
 (refine wc0 S t1 ?_; clear S a; intro v9 a w hv S; subst hv; unfold tvV at S)
 (revert S a; revert hZ Z; refine go 9 ?_; intro Z hZ a S)
 (refine wc0 S t2 ?_; clear S a; intro v9 a w hv S; subst hv; unfold tvV at S)
 (revert S a; revert hZ Z; refine go 10 ?_; intro Z hZ Z hZ a S)
 (refine wv S (sv_lit (c := false) (sv_pure S rfl) (by rfl)) ?_; clear S a; intro a S)
 (revert S a; refine go 4 ?_; intro a S)
 (refine wv S (sv_lit (c := false) (sv_pure S rfl) (by rfl)) ?_; clear S a; intro a S)
 (revert S a; revert hZ Z; refine go 3 ?_; intro a S)
 refine wpc_false S rfl ?_
 (revert S a; revert hZ Z; refine go 8 ?_; intro Z hZ a S)
 (refine wv S (sv_lookP (enc := kS) (k := k9) S rfl rfl rfl hm) ?_; clear S a; intro a S; rw [hmg] at S; unfold evV at S)
 (refine wpl_alloc S rfl rfl rfl rfl ?_; clear S a; intro b11 a w S)
 (refine wso S rfl rfl ?_; clear S; intro w S)
 (revert S a; revert hZ Z; refine go 7 ?_; intro Z hZ Z hZ a S)
 (refine wv S (sv_lookP (enc := kS) (k := w9) S rfl rfl rfl how) ?_; clear S a; intro a S; rw [hmw] at S)
 (revert S a; revert hZ Z; refine go 12 ?_; intro a S)
 refine wpc_sp S rfl ?_ ?_ <;> intro h
 ·(revert S a; refine go 4 ?_; intro a S)
  refine wp_ret ?_
  (first | (have hz : (alD ews w9).length = 0 := (by omega); replace S := joi5d S.drop1) | (replace S := joi5 S.drop1))
  refine fin_ret S (results1 Tryz.results11 (RV.tmp S rfl)) ?_
  exact zzGf1
 (revert S a; revert hZ Z; refine go 6 ?_; intro Z hZ a S)
 (refine wpl_delP (enc := kS) (k := w9) S rfl rfl rfl rfl rfl rfl how ?_; clear S; intro ow2 w how2 S; rw [mDel_al] at how2)
 (revert S a; revert hZ Z; refine go 6 ?_; intro Z hZ Z hZ a S)
 (refine wv S (sv_lenMap (enc := kS) S rfl rfl rfl how2) ?_; clear S a; intro a S)
 (revert S a; revert hZ Z; refine go 3 ?_; intro a S)
 refine wpc_sp S rfl ?_ ?_ <;> intro h
 ·(revert S a; refine go 6 ?_; intro a S)
  (refine wpl_delP (enc := kS) (k := k9) S rfl rfl rfl rfl rfl rfl hm ?_; clear S; intro om2 w hm2 S; rw [mDel_gv, hdl] at hm2)
  (revert S a; revert hZ Z; refine go 6 ?_; intro a S)
  refine wp_ret ?_
  (first | (have hz : (alD ews w9).length = 0 := (by omega); replace S := joi5d S.drop1) | (replace S := joi5 S.drop1))
  refine fin_ret S (results1 Tryz.results11 (RV.tmp S rfl)) ?_
  exact zzGf1
 (revert S a; revert hZ Z; refine go 6 ?_; intro a S)
 refine wp_ret ?_
 (first | (have hz : (alD ews w9).length = 0 := (by omega); replace S := joi5d S.drop1) | (replace S := joi5 S.drop1))
 refine fin_ret S (results1 Tryz.results11 (RV.tmp S rfl)) ?_
 exact zzGf1
theorem bl_trans : ∀ {a b c : List UInt8}, Op.bytesLess a b = true → Op.bytesLess b c = true → Op.bytesLess a c = true
 | _, [], _, h, _ => by rename_i a _; cases a <;> simp [Op.bytesLess] at h
 | [], b :: y, [], _, h => by simp [Op.bytesLess] at h
 | [], b :: y, c :: z, _, _ => by simp [Op.bytesLess]
 | a :: x, b :: y, [], _, h => by simp [Op.bytesLess] at h
 | a :: x, b :: y, c :: z, h1, h2 => by
  simp only [Op.bytesLess, Bool.or_eq_true, decide_eq_true_eq, Bool.and_eq_true, beq_iff_eq, UInt8.lt_iff_toNat_lt] at h1 h2 ⊢
  rcases h1 with h1 | ⟨rfl, h1⟩
  ·rcases h2 with h2 | ⟨rfl, h2⟩
   ·exact .inl (by omega)
   ·exact .inl h1
  ·rcases h2 with h2 | ⟨rfl, h2⟩
   ·exact .inl h2
   ·exact .inr ⟨rfl, bl_trans h1 h2⟩
theorem bl_total : ∀ (a b : List UInt8), Op.bytesLess a b = false → Op.bytesLess b a = false → a = b
 | [], [], _, _ => rfl
 | [], b :: y, h, _ => by simp [Op.bytesLess] at h
 | a :: x, [], _, h => by simp [Op.bytesLess] at h
 | a :: x, b :: y, h1, h2 => by
  simp only [Op.bytesLess, Bool.or_eq_false_iff, decide_eq_false_iff_not, UInt8.lt_iff_toNat_lt] at h1 h2
  have e : a = b := UInt8.toNat_inj.1 (by omega)
  subst e
  have h3 : Op.bytesLess x y = false := by simpa using h1.2
  have h4 : Op.bytesLess y x = false := by simpa using h2.2
  rw [bl_total x y h3 h4]
theorem bl_irr : ∀ (a : List UInt8), Op.bytesLess a a = false
 | [] => rfl
 | a :: x => by simp [Op.bytesLess, bl_irr x]
structure Tri (p q r : Int) : Prop where
  t : p ≤ 0 → q ≤ 0 → r ≤ 0
  s1 : p < 0 → q ≤ 0 → r < 0
  s2 : p ≤ 0 → q < 0 → r < 0
theorem Tri.or2 {p q r p' q' r' : Int} (h : Tri p q r) (h2 : p = 0 → q = 0 → Tri p' q' r') : Tri (or2 p p') (or2 q q') (or2 r r') := by
 obtain ⟨t, s1, s2⟩ := h
 by_cases hp : p = 0
 ·by_cases hq : q = 0
  ·obtain ⟨t', s1', s2'⟩ := h2 hp hq
   subst hp; subst hq
   have := t (by omega) (by omega)
   unfold Go.Proofs.YtbhipiepfclneaaGreatDoor.or2
   by_cases hr : r = 0
   ·subst hr; exact ⟨by simpa using t', by simpa using s1', by simpa using s2'⟩
   ·rw [if_pos hr]; exact ⟨fun _ _ => this, fun _ _ => by omega, fun _ _ => by omega⟩
  ·subst hp
   unfold Go.Proofs.YtbhipiepfclneaaGreatDoor.or2
   rw [if_neg (by omega), if_pos hq]
   have := fun h => s2 (by omega : (0 : Int) ≤ 0) h
   refine ⟨fun _ h => ?_, fun _ h => ?_, fun _ h => ?_⟩ <;> (have h9 := this (by omega); rw [if_pos (by omega)]; omega)
 ·unfold Go.Proofs.YtbhipiepfclneaaGreatDoor.or2
  rw [if_pos hp]
  have hq : ∀ {x : Int}, (if q ≠ 0 then q else q') ≤ 0 → q ≤ 0 := fun h => by split at h <;> omega
  refine ⟨fun h1 h => ?_, fun h1 h => ?_, fun h1 h => ?_⟩ <;> (have h9 := s1 (by omega) (by split at h <;> omega); rw [if_pos (by omega)]; omega)
theorem Tri.swap {p q r : Int} (h : Tri p q r) : Tri q p r := ⟨fun a b => h.t b a, fun a b => h.s2 b a, fun a b => h.s1 b a⟩
theorem cI_tri (a b c : Int) : Tri (cI a b) (cI b c) (cI a c) := by
 constructor <;> intro h1 h2 <;> unfold cI at * <;> (repeat' split at h1) <;> (repeat' split at h2) <;> (repeat' split) <;> omega
theorem cI_anti (a b : Int) : cI a b = - cI b a := by unfold cI; (repeat' split) <;> omega
theorem cI_zero {a b : Int} (h : cI a b = 0) : a = b := by unfold cI at h; (repeat' split at h) <;> omega
theorem cS_le {s t : List UInt8} : cS s t ≤ 0 ↔ s = t ∨ Op.bytesLess s t = true := by
 unfold cS
 by_cases h : Op.bytesLess s t = true
 ·rw [if_pos h]; simp [h]
 ·rw [if_neg h]
  by_cases h2 : s = t
  ·rw [if_pos h2]; simp [h2]
  ·rw [if_neg h2]; simp [h, h2]
theorem cS_lt {s t : List UInt8} : cS s t < 0 ↔ Op.bytesLess s t = true := by
 unfold cS
 by_cases h : Op.bytesLess s t = true
 ·rw [if_pos h]; simp [h]
 ·rw [if_neg h]
  by_cases h2 : s = t
  ·rw [if_pos h2]; simp [h]
  ·rw [if_neg h2]; simp [h]
theorem cS_tri (a b c : List UInt8) : Tri (cS a b) (cS b c) (cS a c) where
 t h1 h2 := by
  rw [cS_le] at *
  rcases h1 with rfl | h1
  ·exact h2
  ·rcases h2 with rfl | h2
   ·exact .inr h1
   ·exact .inr (bl_trans h1 h2)
 s1 h1 h2 := by
  rw [cS_le] at h2
  rw [cS_lt] at *
  rcases h2 with rfl | h2
  ·exact h1
  ·exact bl_trans h1 h2
 s2 h1 h2 := by
  rw [cS_le] at h1
  rw [cS_lt] at *
  rcases h1 with rfl | h1
  ·exact h2
  ·exact bl_trans h1 h2
theorem cS_anti (s t : List UInt8) : cS s t = - cS t s := by
 unfold cS
 by_cases h : Op.bytesLess s t = true
 ·have h2 : ¬ Op.bytesLess t s = true := fun h2 => by have := bl_trans h h2; rw [bl_irr] at this; cases this
  have h3 : ¬ t = s := fun e => by rw [e, bl_irr] at h; cases h
  rw [if_pos h, if_neg h2, if_neg h3]
 ·by_cases h2 : Op.bytesLess t s = true
  ·have h3 : ¬ s = t := fun e => by rw [e, bl_irr] at h2; cases h2
   rw [if_neg h, if_neg h3, if_pos h2]; rfl
  ·have e : s = t := bl_total s t (by simpa using h) (by simpa using h2)
   subst e
   rw [if_neg h, if_pos rfl]; rfl
theorem cS_zero {s t : List UInt8} (h : cS s t = 0) : s = t := by
 unfold cS at h
 split at h
 ·cases h
 ·split at h
  ·assumption
  ·cases h
theorem or2_neg (a b : Int) : or2 (-a) (-b) = - or2 a b := by unfold or2; (repeat' split) <;> omega
theorem or2_zero {a b : Int} (h : or2 a b = 0) : a = 0 ∧ b = 0 := by unfold or2 at h; split at h <;> omega
theorem drop1_len {s : List UInt8} (h : s.take 1 = [45]) : (s.drop 1).length + 1 = s.length := by cases s with | nil => cases h | cons a r => rfl
theorem bigC_fuel : ∀ (n m : Nat) (s t : List UInt8), s.length + t.length < n → s.length + t.length < m → bigC n s t = bigC m s t
 | 0, _, s, t, h, _ => absurd h (Nat.not_lt_zero _)
 | _, 0, s, t, _, h => absurd h (Nat.not_lt_zero _)
 | n + 1, m + 1, s, t, h1, h2 => by
  unfold bigC
  by_cases h : s.take 1 = [45] ∧ t.take 1 = [45]
  ·rw [if_pos h, if_pos h]
   have e1 := drop1_len h.1
   have e2 := drop1_len h.2
   exact bigC_fuel n m _ _ (by omega) (by omega)
  ·rw [if_neg h, if_neg h]
theorem bigC_anti : ∀ (n : Nat) (s t : List UInt8), bigC n s t = - bigC n t s
 | 0, s, t => rfl
 | n + 1, s, t => by
  unfold bigC
  by_cases h1 : s.take 1 = [45]
  ·by_cases h2 : t.take 1 = [45]
   ·rw [if_pos ⟨h1, h2⟩, if_pos ⟨h2, h1⟩]; exact bigC_anti n _ _
   ·rw [if_neg fun h => h2 h.2, if_pos h1, if_neg fun h => h2 h.1, if_neg h2, if_pos h1]
  ·by_cases h2 : t.take 1 = [45]
   ·rw [if_neg fun h => h1 h.1, if_neg h1, if_pos h2, if_neg fun h => h1 h.2, if_pos h2]; rfl
   ·rw [if_neg fun h => h1 h.1, if_neg h1, if_neg h2, if_neg fun h => h2 h.1, if_neg h2, if_neg h1, cI_anti, cS_anti, or2_neg]
theorem bigC_tri : ∀ (n : Nat) (s t u : List UInt8), Tri (bigC n s t) (bigC n t u) (bigC n s u)
 | 0, s, t, u => ⟨fun _ _ => Int.le_refl _, fun h => absurd h (by decide : ¬ (0 : Int) < 0), fun _ h => absurd h (by decide : ¬ (0 : Int) < 0)⟩
 | n + 1, s, t, u => by
  unfold bigC
  by_cases h1 : s.take 1 = [45]
  ·by_cases h2 : t.take 1 = [45]
   ·by_cases h3 : u.take 1 = [45]
    ·rw [if_pos ⟨h1, h2⟩, if_pos ⟨h2, h3⟩, if_pos ⟨h1, h3⟩]
     exact (bigC_tri n (u.drop 1) (t.drop 1) (s.drop 1)).swap
    ·rw [if_pos ⟨h1, h2⟩, if_neg fun h => h3 h.2, if_pos h2, if_neg fun h => h3 h.2, if_pos h1]
     constructor <;> intros <;> omega
   ·rw [if_neg fun h => h2 h.2, if_pos h1, if_neg fun h => h2 h.1, if_neg h2]
    by_cases h3 : u.take 1 = [45]
    ·rw [if_pos h3]; constructor <;> intros <;> omega
    ·rw [if_neg h3, if_neg fun h => h3 h.2, if_pos h1]; constructor <;> intros <;> omega
  ·by_cases h2 : t.take 1 = [45]
   ·rw [if_neg fun h => h1 h.1, if_neg h1, if_pos h2]; constructor <;> intros <;> omega
   ·by_cases h3 : u.take 1 = [45]
    ·rw [if_neg fun h => h1 h.1, if_neg h1, if_neg h2, if_neg fun h => h2 h.1, if_neg h2, if_pos h3]; constructor <;> intros <;> omega
    ·rw [if_neg fun h => h1 h.1, if_neg h1, if_neg h2, if_neg fun h => h2 h.1, if_neg h2, if_neg h3, if_neg fun h => h1 h.1, if_neg h1, if_neg h3]
     exact (cI_tri _ _ _).or2 fun _ _ => cS_tri _ _ _
theorem bigC_zero : ∀ (n : Nat) (s t : List UInt8), s.length + t.length < n → bigC n s t = 0 → s = t
 | 0, s, t, h, _ => absurd h (Nat.not_lt_zero _)
 | n + 1, s, t, hn, h => by
  unfold bigC at h
  by_cases h1 : s.take 1 = [45] ∧ t.take 1 = [45]
  ·rw [if_pos h1] at h
   have e1 := drop1_len h1.1
   have e2 := drop1_len h1.2
   have h3 := bigC_zero n _ _ (by omega) h
   rw [← List.take_append_drop 1 s, ← List.take_append_drop 1 t, h1.1, h1.2, h3]
  ·rw [if_neg h1] at h
   split at h
   ·cases h
   ·split at h
    ·cases h
    ·exact cS_zero (or2_zero h).2
theorem bigsC_anti (s t : List UInt8) : bigsC s t = - bigsC t s := by
 unfold bigsC
 rw [bigC_anti, bigC_fuel (s.length + t.length + 1) (t.length + s.length + 1) t s (by omega) (by omega)]
theorem bigsC_tri (s t u : List UInt8) : Tri (bigsC s t) (bigsC t u) (bigsC s u) := by
 unfold bigsC
 rw [bigC_fuel (s.length + t.length + 1) (s.length + t.length + u.length + 1) s t (by omega) (by omega), bigC_fuel (t.length + u.length + 1) (s.length + t.length + u.length + 1) t u (by omega) (by omega), bigC_fuel (s.length + u.length + 1) (s.length + t.length + u.length + 1) s u (by omega) (by omega)]
 exact bigC_tri _ s t u
theorem bigsC_zero {s t : List UInt8} (h : bigsC s t = 0) : s = t := bigC_zero _ s t (by omega) h
def cmpB (h : VH) (L : Vf) (h2 : VH) (L2 : Vf) : Int := if h.k = 3 then bigsC h.s h2.s else if h.k = 4 then cS h.s h2.s else or2 (cI h.n h2.n) (or2 (cS h.s h2.s) (cmpL L L2))
theorem cmpH_B (h : VH) (L : Vf) (h2 : VH) (L2 : Vf) : cmpH h L h2 L2 = or2 (cI h.k h2.k) (if h.k = h2.k then cmpB h L h2 L2 else 0) := by
 unfold cmpH cmpB
 by_cases hk : h.k = h2.k
 ·rw [if_neg (by omega), if_pos hk]
  have : cI (h.k : Int) (h2.k : Int) = 0 := by unfold cI; rw [if_neg (by omega), if_neg (by omega)]
  rw [this]
  unfold or2; rw [if_neg (by omega : ¬ (0 : Int) ≠ 0)]
 ·rw [if_pos hk, if_neg hk]
  have : cI (h.k : Int) (h2.k : Int) ≠ 0 := fun e => hk (by have := cI_zero e; omega)
  unfold or2; rw [if_pos this]
theorem cmpL_anti : ∀ l m : Vf, cmpL l m = - cmpL m l
 | .nil, .nil => rfl
 | .nil, .cons _ _ _ => rfl
 | .cons _ _ _, .nil => rfl
 | .cons h L r, .cons h2 L2 r2 => by
  rw [cmpL_cons, cmpL_cons, cmpL_anti r r2, ← or2_neg]
  congr 1
  rw [cmpH_B, cmpH_B, cI_anti, ← or2_neg]
  congr 1
  by_cases hk : h.k = h2.k
  ·rw [if_pos hk, if_pos hk.symm]
   unfold cmpB
   rw [hk]
   split
   ·exact bigsC_anti _ _
   ·split
    ·exact cS_anti _ _
    ·rw [cI_anti, cS_anti, cmpL_anti L L2, or2_neg, or2_neg]
  ·rw [if_neg hk, if_neg (Ne.symm hk)]; rfl
theorem cmpL_tri : ∀ l m u : Vf, Tri (cmpL l m) (cmpL m u) (cmpL l u)
 | .nil, m, .cons _ _ _ => ⟨fun _ _ => (by decide : (-1 : Int) ≤ 0), fun _ _ => (by decide : (-1 : Int) < 0), fun _ _ => (by decide : (-1 : Int) < 0)⟩
 | .nil, .nil, .nil => ⟨fun _ _ => Int.le_refl _, fun h => absurd h (by decide : ¬ (0 : Int) < 0), fun _ h => absurd h (by decide : ¬ (0 : Int) < 0)⟩
 | .nil, .cons _ _ _, .nil => ⟨fun _ h => absurd h (by decide : ¬ (1 : Int) ≤ 0), fun _ h => absurd h (by decide : ¬ (1 : Int) ≤ 0), fun _ h => absurd h (by decide : ¬ (1 : Int) < 0)⟩
 | .cons _ _ _, .nil, u => ⟨fun h => absurd h (by decide : ¬ (1 : Int) ≤ 0), fun h => absurd h (by decide : ¬ (1 : Int) < 0), fun h => absurd h (by decide : ¬ (1 : Int) ≤ 0)⟩
 | .cons _ _ _, .cons _ _ _, .nil => ⟨fun _ h => absurd h (by decide : ¬ (1 : Int) ≤ 0), fun _ h => absurd h (by decide : ¬ (1 : Int) ≤ 0), fun _ h => absurd h (by decide : ¬ (1 : Int) < 0)⟩
 | .cons h L r, .cons h2 L2 r2, .cons h3 L3 r3 => by
  rw [cmpL_cons, cmpL_cons, cmpL_cons]
  refine Tri.or2 ?_ fun _ _ => cmpL_tri r r2 r3
  rw [cmpH_B, cmpH_B, cmpH_B]
  refine (cI_tri _ _ _).or2 fun e1 e2 => ?_
  have k1 : h.k = h2.k := by have := cI_zero e1; omega
  have k2 : h2.k = h3.k := by have := cI_zero e2; omega
  rw [if_pos k1, if_pos k2, if_pos (k1.trans k2)]
  unfold cmpB
  rw [k1, k2]
  split
  ·exact bigsC_tri _ _ _
  ·split
   ·exact cS_tri _ _ _
   ·exact (cI_tri _ _ _).or2 fun _ _ => (cS_tri _ _ _).or2 fun _ _ => cmpL_tri L L2 L3
theorem cmpL_zero : ∀ {l m : Vf}, formL l = true → formL m = true → cmpL l m = 0 → l = m
 | .nil, .nil, _, _, _ => rfl
 | .nil, .cons _ _ _, _, _, h => absurd h (by decide : ¬ (-1 : Int) = 0)
 | .cons _ _ _, .nil, _, _, h => absurd h (by decide : ¬ (1 : Int) = 0)
 | .cons h L r, .cons h2 L2 r2, f1, f2, e => by
  rw [cmpL_cons] at e
  obtain ⟨e1, e2⟩ := or2_zero e
  rw [formL_cons, Bool.and_eq_true, Bool.and_eq_true] at f1 f2
  rw [cmpL_zero f1.2 f2.2 e2]
  rw [cmpH_B] at e1
  obtain ⟨e3, e4⟩ := or2_zero e1
  have hk : h.k = h2.k := by have := cI_zero e3; omega
  rw [if_pos hk] at e4
  have g1 := f1.1.1
  have g2 := f2.1.1
  obtain ⟨k, n, s⟩ := h
  obtain ⟨k', n', s'⟩ := h2
  dsimp only at hk e4
  subst hk
  unfold cmpB at e4
  unfold formH at g1 g2
  dsimp only at e4 g1 g2
  have hnil : ∀ {L : Vf}, L.len = 0 → L = .nil := fun {L} h => by cases L with | nil => rfl | cons _ _ _ => exact absurd h (Nat.succ_ne_zero _)
  by_cases k3 : k = 3
  ·subst k3
   simp only [if_pos, Nat.reduceEqDiff, if_false, Bool.and_eq_true, decide_eq_true_eq] at e4 g1 g2
   rw [bigsC_zero e4, g1.2.1, g2.2.1, hnil g1.2.2, hnil g2.2.2]
  ·rw [if_neg k3] at e4
   by_cases k4 : k = 4
   ·subst k4
    simp only [if_pos, Nat.reduceEqDiff, if_false, decide_eq_true_eq] at e4 g1 g2
    rw [cS_zero e4, g1.1, g2.1, hnil g1.2, hnil g2.2]
   ·rw [if_neg k4] at e4
    obtain ⟨e5, e6⟩ := or2_zero e4
    obtain ⟨e7, e8⟩ := or2_zero e6
    rw [cI_zero e5, cS_zero e7, cmpL_zero f1.1.2 f2.1.2 e8]
theorem may_form {x : Vv} (h : mayV x = true) : formL (.cons x.1 x.2 .nil) = true := by
 have := check_form (of_decide_eq_true h)
 rw [formL_cons, this.1, this.2]; rfl
theorem cmpV_L {x y : Vv} (hx : mayV x = true) (hy : mayV y = true) : cmpV2 x y = cmpL (.cons x.1 x.2 .nil) (.cons y.1 y.2 .nil) := by
 unfold cmpV2
 rw [if_pos ⟨hx, hy⟩, cmpL_cons]
 show _ = or2 _ 0
 unfold or2
 split
 ·rfl
 ·omega
theorem cmpV_anti {x y : Vv} (hx : mayV x = true) (hy : mayV y = true) : cmpV2 x y = - cmpV2 y x := by rw [cmpV_L hx hy, cmpV_L hy hx]; exact cmpL_anti _ _
theorem cmpV_tri {x y z : Vv} (hx : mayV x = true) (hy : mayV y = true) (hz : mayV z = true) : Tri (cmpV2 x y) (cmpV2 y z) (cmpV2 x z) := by rw [cmpV_L hx hy, cmpV_L hy hz, cmpV_L hx hz]; exact cmpL_tri _ _ _
theorem cmpV_zero {x y : Vv} (hx : mayV x = true) (hy : mayV y = true) (h : cmpV2 x y = 0) : x = y := by
 rw [cmpV_L hx hy] at h
 have := cmpL_zero (may_form hx) (may_form hy) h
 injection this with h1 h2
 exact Prod.ext h1 h2
def IsBest (sg : Int) (l : List Vv) (m : Vv) : Prop := m ∈ l ∧ ∀ x ∈ l, sg * cmpV2 x m ≤ 0
theorem best_unique {sg : Int} (hs : sg = 1 ∨ sg = -1) {l l' : List Vv} {m m' : Vv} (hm : ∀ x ∈ l, mayV x = true) (hp : ∀ x, x ∈ l ↔ x ∈ l') (h : IsBest sg l m) (h' : IsBest sg l' m') : m = m' := by
 have h1 := h.2 m' ((hp _).2 h'.1)
 have h2 := h'.2 m ((hp _).1 h.1)
 have a := hm m h.1
 have b := hm m' ((hp _).2 h'.1)
 have h3 := cmpV_anti a b
 refine cmpV_zero a b ?_
 rcases hs with rfl | rfl <;> omega
theorem maxF_best {sg : Int} (hs : sg = 1 ∨ sg = -1) : ∀ (l : List Vv) (m : Vv), mayV m = true → (∀ x ∈ l, mayV x = true) → IsBest sg (m :: l) (maxF (sgF sg) m l)
 | [], m, hm, _ => ⟨List.mem_singleton.2 rfl, fun x hx => by
   rw [List.mem_singleton] at hx
   subst hx
   show sg * cmpV2 x x ≤ 0
   have := cmpV_anti hm hm
   rcases hs with rfl | rfl <;> omega⟩
 | x :: r, m, hm, h => by
  have hx := h x (List.mem_cons_self ..)
  have hr : ∀ y ∈ r, mayV y = true := fun y hy => h y (List.mem_cons_of_mem _ hy)
  rw [maxF]
  have a := cmpV_anti hx hm
  have b := cmpV_anti hx hx
  have c := cmpV_anti hm hm
  by_cases hc : 0 < sgF sg x m
  ·rw [if_pos hc]
   obtain ⟨h1, h2⟩ := maxF_best hs r x hx hr
   have h3 := h2 x (List.mem_cons_self ..)
   have hb : mayV (maxF (sgF sg) x r) = true := by
    rcases List.mem_cons.1 h1 with e | e
    ·rw [e]; exact hx
    ·exact hr _ e
   refine ⟨List.mem_cons_of_mem _ h1, fun y hy => ?_⟩
   rcases List.mem_cons.1 hy with rfl | hy
   ·unfold sgF at hc
    have t1 := cmpV_tri hm hx hb
    have t2 := cmpV_tri hb hx hm
    have d1 := cmpV_anti hb hx
    have d2 := cmpV_anti hb hm
    rcases hs with rfl | rfl
    ·have := t1.t (by omega) (by omega); omega
    ·have := t2.t (by omega) (by omega); omega
   ·exact h2 y hy
  ·rw [if_neg hc]
   obtain ⟨h1, h2⟩ := maxF_best hs r m hm hr
   have h3 := h2 m (List.mem_cons_self ..)
   have hb : mayV (maxF (sgF sg) m r) = true := by
    rcases List.mem_cons.1 h1 with e | e
    ·rw [e]; exact hm
    ·exact hr _ e
   refine ⟨(List.mem_cons.1 h1).elim (fun e => by rw [e]; exact List.mem_cons_self ..) fun e => List.mem_cons_of_mem _ (List.mem_cons_of_mem _ e), fun y hy => ?_⟩
   rcases List.mem_cons.1 hy with rfl | hy
   ·exact h3
   ·rcases List.mem_cons.1 hy with rfl | hy
    ·unfold sgF at hc
     have t1 := cmpV_tri hx hm hb
     have t2 := cmpV_tri hb hm hx
     have d1 := cmpV_anti hb hm
     have d2 := cmpV_anti hb hx
     rcases hs with rfl | rfl
     ·have := t1.t (by omega) (by omega); omega
     ·have := t2.t (by omega) (by omega); omega
    ·exact h2 y (List.mem_cons_of_mem _ hy)
def aggO (s : List UInt8) (l : List Vv) : Int × Vv :=
 if s = sCount then (0, intV l.length) else if s = sSum then sumF l else if s = sMin then (0, maxF (sgF (-1)) (l.headD zV) (l.drop 1)) else (0, maxF (sgF 1) (l.headD zV) (l.drop 1))
theorem best_of {sg : Int} (hs : sg = 1 ∨ sg = -1) {l : List Vv} (h0 : l ≠ []) (hm : ∀ x ∈ l, mayV x = true) : IsBest sg l (maxF (sgF sg) (l.headD zV) (l.drop 1)) := by
 cases l with
 | nil => exact absurd rfl h0
 | cons m r => exact maxF_best hs r m (hm m (List.mem_cons_self ..)) fun x hx => hm x (List.mem_cons_of_mem _ hx)
theorem best_perm {sg : Int} (hs : sg = 1 ∨ sg = -1) {l l' : List Vv} (h0 : l ≠ []) (hp : l.Perm l') (hm : ∀ x ∈ l, mayV x = true) : maxF (sgF sg) (l.headD zV) (l.drop 1) = maxF (sgF sg) (l'.headD zV) (l'.drop 1) := by
 have h0' : l' ≠ [] := fun e => h0 (by rw [e] at hp; exact hp.eq_nil)
 exact best_unique hs hm (fun x => hp.mem_iff) (best_of hs h0 hm) (best_of hs h0' fun x hx => hm x (hp.mem_iff.2 hx))
theorem sum_perm {l l' : List Int} (h : l.Perm l') : l.sum = l'.sum := by
 induction h with
 | nil => rfl
 | cons x _ ih => rw [List.sum_cons, List.sum_cons, ih]
 | swap x y l => simp only [List.sum_cons]; omega
 | trans _ _ h1 h2 => exact h1.trans h2
theorem aggO_perm {s : List UInt8} {l l' : List Vv} (h0 : l ≠ []) (hp : l.Perm l') (hm : ∀ x ∈ l, mayV x = true) (hk : s = sSum → ∀ x ∈ l, ∀ y ∈ l, x.1.k = y.1.k) : aggO s l = aggO s l' := by
 unfold aggO
 split
 ·rw [hp.length_eq]
 ·split
  ·rename_i hs
   have h0' : l' ≠ [] := fun e => h0 (by rw [e] at hp; exact hp.eq_nil)
   have e : (l.headD zV).1.k = (l'.headD zV).1.k := by
    cases l with
    | nil => exact absurd rfl h0
    | cons a r =>
     cases l' with
     | nil => exact absurd rfl h0'
     | cons b r' => exact hk hs a (List.mem_cons_self ..) b (hp.mem_iff.2 (List.mem_cons_self ..))
   unfold sumF
   rw [e, sum_perm (hp.map valN)]
  ·split
   ·rw [best_perm (.inr rfl) h0 hp hm]
   ·rw [best_perm (.inl rfl) h0 hp hm]
end Go.Proofs.YtbhipiepfclneaaGreatDoor
