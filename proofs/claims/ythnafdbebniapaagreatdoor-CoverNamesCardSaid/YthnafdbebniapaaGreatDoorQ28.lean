/- Walks. -/
import Derived.Test.YthnafdbebniapaaGreatDoorQ27
import Derived.Test.YthnafdbebniapaaGreatDoorQ24
import Derived.Test.YthnafdbebniapaaGreatDoorQ25
set_option maxHeartbeats 16000000
set_option maxRecDepth 20000
namespace Go.Proofs.YthnafdbebniapaaGreatDoor
open Go Go.Wk Go.Un Go.De Go.Cv
set_option linter.unusedSimpArgs false
set_option linter.unusedVariables false
attribute [local irreducible] Go.wpList Go.Code.wp Go.wpStill Go.Wk.wpPre Go.bodyPost Go.Calls Go.Wk.Ct Go.Wk.OwnS Go.Wk.wpG Go.Wk.wpM
def TyQ (F' : Heap) (u : Value) (ts : List TD) (s : List UInt8) : Prop := ∃ (y : TD) (a4 : Option Addr) (n4 c4 : Nat) (v5 : Value), u = .tuple ⟨[.agg ⟨[.int .i64 y.l, .int .i64 y.c, .bool y.pub, .string (bs y.nm), .slice a4 n4 c4, v5]⟩, .bool (declS ts s)]⟩ ∧ (findT ts s = some y ∨ findT ts s = none ∧ y = zTD) ∧ LiM F' 2 CdR v5 y.cs
theorem typeMCt (F : Heap) (tb m1 m2 m3 : Nat) (ts : List TD) (css : List KC) (rs : List RD) (hT : TabS F tb m1 m2 m3 ts css rs) (hK : TSz ts) (s : List UInt8) :
  Ct Tryz.prog 150 [.pointer (some ⟨tb, 0, none⟩), .string (bs s)] F [] (fun F' _ u => TyQ F' u ts s) := by
 have hcc : Cel F tb 0 (.map (some m1)) := hT.c 0 _ rfl
 obtain ⟨es, hes, hmm⟩ := hT.t
 refine Ct.enter Tryz.func150 rfl Tryz.ntmps150 rfl fun w0 a S => ?_
 refine wp_sr fun Z hZ => ?_
 (refine wpl_alloc S rfl rfl rfl rfl ?_; clear S a; intro b4 a w S)
 (revert S a; revert hZ Z; refine go 6 ?_; intro Z hZ Z hZ a S)
 (refine wv S (sv_lit (c := false) (sv_eqPtrSome S rfl rfl rfl) (by rfl)) ?_; clear S a; intro a S)
 (revert S a; revert hZ Z; refine go 2 ?_; intro a S)
 refine wpc_false S rfl ?_
 (revert S a; revert hZ Z; refine go 6 ?_; intro Z hZ a S)
 (refine wv S (sv_loadF S rfl rfl hcc) ?_; clear S a; intro a S)
 (revert S a; refine go 1 ?_; intro a S)
 (refine wv S (sv_lookupF (enc := kS) S rfl rfl rfl hes) ?_; clear S a; intro a S)
 (obtain ⟨y, ap, cp, ac, cc, hgd, hps, hcs, hy, his⟩ := get_td hmm s; obtain ⟨hy1, hy2, hy3⟩ := hK.of hy; rw [if_pos rfl, hgd, his] at S)
 (revert S a; refine go 3 ?_; intro a S)
 (refine wpl_alloc S rfl rfl rfl rfl ?_; clear S a; intro b6 a w S)
 (refine wso S rfl rfl ?_; clear S; intro w S)
 (revert S a; revert hZ Z; refine go 6 ?_; intro Z hZ a S)
 (refine wc0 S (cloneS0 F _ y.ps hps hy2) ?_; clear S a; intro v a w hv S; obtain ⟨a23, c23, rfl⟩ := hv)
 (revert S a; refine go 1 ?_; intro a S)
 (refine wpl_store1 S rfl rfl rfl rfl rfl rfl (by first | (simp; done) | (simp [Value.cells]; done) | exact Nat.le_of_ble_eq_true rfl) ?_; clear S; intro w S)
 (revert S a; revert hZ Z; refine go 5 ?_; intro Z hZ a S)
 (refine wpl_callNew S rfl rfl rfl rfl rfl rfl (cloneCCt F _ y.cs hcs hy1) rfl ?_; clear S a; intro vC G9 a w hv S; obtain ⟨gC, xC, rfl, hownC, hxC⟩ := hv; (simp only [List.singleton_append] at S))
 (revert S a; refine go 1 ?_; intro a S)
 (refine wpl_store1 S rfl rfl rfl rfl rfl hownC.oneCell (by first | (simp; done) | (simp [Value.cells]; done) | exact Nat.le_of_ble_eq_true rfl) ?_; clear S; intro w S)
 (revert S a; revert hZ Z; refine go 3 ?_; intro Z hZ a S)
 (refine wp_seq_k ?_; intro Z hZ)
 (have h9 := hownC.at; obtain ⟨aC0, cC0, rfl, -, -, -⟩ := h9)
 (revert S a; revert hZ Z; refine go 8 ?_; intro a S)
 refine wpc_loop (fun m a w' => ∃ (k : Nat) (vC : Value) (gC : Grp) (xC : List Value) (F5 : Heap), m = y.cs.length - k ∧ k ≤ y.cs.length ∧ (∀ b o, F b = some o → F5 b = some o) ∧ OwnS 92 2 vC y.cs.length xC gC ∧ LiC F5 2 CdR xC y.cs ∧ St 50 [(4, ptr b4), (6, ptr b6), (7, .bool (declS ts s)), (31, .int .i64 y.cs.length), (32, .int .i64 k)] w0 F [] F5 [gC, [(b6, .cells ⟨[.int .i64 y.l, .int .i64 y.c, .bool y.pub, .string (bs y.nm), .slice a23 y.ps.length c23, vC]⟩ 69 (0, 0))], [(b4, .cells ⟨[.int .i64 0, .int .i64 0, .bool false, .string (bs []), .slice none 0 0, .slice none 0 0]⟩ 69 (0, 0))]] a w') ?_ ?_
 ·(refine ⟨y.cs.length, 0, _, gC, xC, F, by omega, Nat.zero_le _, fun _ _ h => h, hownC, hxC, ?_⟩; refine S.keep ?_; exact zk)
 (clear S hownC hxC; rintro m a w ⟨k, vC, gC, xC, F5, rfl, hkl, hF5, hownC, hxC, S⟩)
 (revert S a; refine go 5 ?_; intro Z hZ a S)
 refine wpc_sp S rfl ?_ ?_ <;> intro h
 ·(revert S a; revert hZ Z; refine go 9 ?_; intro Z hZ a S)
  (obtain ⟨bC, capC, exC, rfl, rfl, hcq2, hcm2, hyl, hye⟩ := ownS_blkN hownC (by omega); obtain ⟨z, hz⟩ : ∃ z, y.cs[k]? = some z := ⟨_, List.getElem?_eq_getElem (by omega)⟩; obtain ⟨ya, cs3, yb, rfl, hyal, -, ⟨w4, rfl, hfs4⟩, hya, hyb⟩ := hxC.split hz; have hfsc := hfs4; obtain ⟨af, cf, rfl, -, -⟩ := hfsc; have hzsz := hy3 z (List.mem_of_getElem? hz))
  (refine wpc_mixM [0, 1, 2, 3, 4, 5, 6, 7, 8, 10, 11] [1, 4, 8] [12] (.one 0 (.one 1 (.one 2 (.one 3 (.one 4 (.one 5 (.one 6 (.one 7 (.one 8 (.one 9 (.one 10 (.one 11 (.one 12 .nil))))))))))))) [b6, bC] S mixed (by kernel_rfl) ?_; clear S; intro w S)
  (revert S a; refine go 8 ?_; intro a S)
  (refine wpm_lateO bC S rfl rfl rfl (want_none _ rfl) rfl rfl (fun w' S => sv_loadO S rfl rfl (get_mid (j := 1) (cs := [.string (bs z.nm), .slice af z.fs.length cf]) hyal rfl)) ?_; clear S a; intro a S)
  refine wpm_eff rfl rfl (kwa S) ?_
  (refine wcF S (ownedCt F5 z.fs _ hfs4 hzsz.2 hzsz.1.thin) ?_; clear S a; intro vf6 F6 a w hvf6 hF6 S)
  (revert S a; refine go 4 ?_; intro a S)
  (refine wpl_store1 S rfl rfl rfl rfl rfl (lim_one hvf6) (by simp only [List.length_append, List.length_cons, List.length_nil]; omega) ?_; clear S; intro w S; rw [set_mid _ hyal (by simp)] at S)
  refine wpList_nil ?_
  refine wpm_nil (fun h => absurd h (by decide)) ?_
  (revert S a; revert hZ Z; refine go 5 ?_; intro a S)
  change ∃ m', _ ∧ _
  (refine ⟨y.cs.length - (k + 1), by omega, k + 1, .slice (some ⟨bC, 0, none⟩) y.cs.length capC, _, _, F6, rfl, by omega, fun b o h => hF6 _ _ (hF5 _ _ h), ownS_mkN (b := bC) (cap := capC) (xs := ya ++ [.string (bs z.nm), vf6] ++ yb) (ex := exC) (by simp only [List.length_append, List.length_cons, List.length_nil] at hyl ⊢; omega) hcq2 hcm2 (by simp only [List.length_append, List.length_cons, List.length_nil] at hye ⊢; omega), LiC.join hz (hya.mono hF6) rfl ⟨_, rfl, hvf6⟩ (hyb.mono hF6), ?_⟩; refine S.keep ?_; exact zk)
 (refine wp_exit ?_; conv => whnf)
 clear hZ Z
 (refine hZ _ _ ?_; clear hZ Z)
 (refine wp_seq_k ?_; intro Z hZ)
 (have h9 := hownC.at; obtain ⟨aC9, cC9, rfl, -, -, -⟩ := h9)
 (revert S a; refine go 3 ?_; intro a S)
 (refine wso S rfl rfl ?_; clear S; intro w S)
 (revert S a; revert hZ Z; refine go 3 ?_; intro a S)
 refine wp_ret ?_
 (have h9 := hownC; have hle := add_le (G1 := []) S; replace S := St.freeze (G1 := []) S; (simp only [List.nil_append] at S hle); have hsl := y.cs.length)
 refine fin_ret S (results2 Tryz.results150 (RV.cellO S rfl (by rfl)) (RV.tmp S rfl)) ?_
 exact ⟨y, _, _, _, _, rfl, hy, LiC.lim hownC hxC rfl hle (by omega)⟩
def EsOK (es : List (List UInt8 × Value)) : Prop := ∀ p ∈ es, p.2 = .agg ⟨[.string (bs p.1), .slice none 0 0]⟩
theorem mget_form {es : List (List UInt8 × Value)} (h : EsOK es) (s : List UInt8) : ∃ t, (mGet es s).getD (.agg #[.string { data := #[] }, .slice none 0 0]) = .agg ⟨[.string (bs t), .slice none 0 0]⟩ := by
 unfold mGet
 cases hf : es.find? (fun p => decide (s = p.1)) with
 | none => exact ⟨[], rfl⟩
 | some p => exact ⟨p.1, h p (List.mem_of_find?_eq_some hf)⟩
theorem mall1Ct (F : Heap) (b5 mb : Nat) (hb5 : Cel F b5 0 (.map (some mb))) (es : List (List UInt8 × Value)) (hes : F mb = some (mObj kS es)) (hok : EsOK es) (nm : List UInt8) (vt : Value) (hvt : vt.oneCell' = true) :
  Ct Tryz.prog 151 ([] ++ [.agg ⟨[.string (bs nm), vt]⟩] ++ [.pointer (some ⟨b5, 0, none⟩)]) F [] (fun _ _ u => u = .bool (!(mGet es nm).isSome)) := by
 refine Ct.enter Tryz.func151 rfl Tryz.ntmps151 rfl fun w0 a S => ?_
 refine wp_sr fun Z hZ => ?_
 (refine wbx S ?_; clear S a; intro b2 a w S)
 (revert S a; revert hZ Z; refine go 4 ?_; intro Z hZ a S)
 (refine wv S (sv_loadF S rfl rfl hb5) ?_; clear S a; intro a S)
 (revert S a; refine go 2 ?_; intro a S)
 (refine wv S (sv_lookupF (enc := kS) S rfl rfl rfl hes) ?_; clear S a; intro a S)
 (obtain ⟨t9, ht9⟩ := mget_form hok nm; rw [if_pos rfl, ht9] at S)
 (revert S a; refine go 3 ?_; intro a S)
 (refine wpl_alloc S rfl rfl rfl rfl ?_; clear S a; intro b4 a w S)
 (refine wso S rfl rfl ?_; clear S; intro w S)
 (revert S a; revert hZ Z; refine go 9 ?_; intro a S)
 refine wp_ret (fr1 S Tryz.results151 ?_)
 rfl
def FmR (F : Heap) (f : Frm Ty) (cs : List Value) : Prop := ∃ v, cs = [.string (bs f.nm), v] ∧ SlF F v (foOf f.tys)
instance : Mon FmR := ⟨fun hF ⟨v, h1, h2⟩ => ⟨v, h1, h2.mono hF⟩⟩
def AllQ (F' : Heap) (u : Value) (es : List (List UInt8 × Value)) : Option (List (Frm Ty)) → Prop
 | none => u = .tuple ⟨[.slice none 0 0, .bool false]⟩
 | some fs => ∃ v, u = .tuple ⟨[v, .bool (fs.all fun f => (mGet es f.nm).isSome)]⟩ ∧ LiM F' 2 FmR v fs
theorem any_not {α : Type} (p : α → Bool) : ∀ l : List α, (!l.any fun x => !p x) = l.all p
 | [] => rfl
 | x :: r => by rw [List.any_cons, List.all_cons, ← any_not p r, Bool.not_or, Bool.not_not]
theorem allF_0 {ts : List TD} {css : List KC} {x : Ty} (h : x.1 = sInt ∨ x.1 = sBig ∨ x.1 = sText) : allF ts css x = none := by unfold allF; rw [if_pos h]
theorem allF_1 {ts : List TD} {css : List KC} {x : Ty} (h : x.1 = sBool) : allF ts css x = some [⟨sFalse, []⟩, ⟨sTrue, []⟩] := by unfold allF; rw [if_neg (by rw [h]; decide), if_pos h]
theorem allF_2 {ts : List TD} {css : List KC} {x : Ty} (h : x.1 = sTuple) : allF ts css x = some [⟨sUnit, tysOf x.2⟩] := by unfold allF; rw [if_neg (by rw [h]; decide), if_neg (by rw [h]; decide), if_pos h]
theorem allF_3 {ts : List TD} {css : List KC} {x : Ty} {y : TD} (h1 : ¬ x.1 = sInt) (h2 : ¬ x.1 = sBig) (h3 : ¬ x.1 = sText) (h4 : ¬ x.1 = sBool) (h5 : ¬ x.1 = sTuple) (hy : findT ts x.1 = some y ∨ findT ts x.1 = none ∧ y = zTD) : allF ts css x = some (y.cs.map fun c => ⟨c.nm, putsF css c.nm x.2⟩) := by
 unfold allF
 rw [if_neg (by rintro (h | h | h); exact h1 h; exact h2 h; exact h3 h), if_neg h4, if_neg h5]
 rcases hy with h | ⟨h, rfl⟩
 ·rw [h]
 ·rw [h]; rfl
theorem puts_x {css : List KC} {s : List UInt8} {x : KC} {ar : Fo} (h : findC css s = some x ∨ findC css s = none ∧ x = zKC) : (x.fs.map fun f => putT x.ps ar (f.tn, f.ta)) = putsF css s ar := by
 unfold putsF
 rcases h with h | ⟨h, rfl⟩
 ·rw [h]
 ·rw [h]; rfl
theorem zzCu0 {p : Prop} (h : p := by (first | (rw [allF_0 (.inl (by assumption))]; rfl) | (rw [allF_0 (.inr (.inl (by assumption)))]; rfl) | (rw [allF_0 (.inr (.inr (by assumption)))]; rfl) | (rw [hfs]; exact ⟨v, by rw [any_not], hL6⟩) | trace_state)) : p := h
theorem zzCu1 {p : Prop} (h : p := by (first | (replace S := St.headG (A := [_, _]) S; refine ⟨F, _, _, _, [⟨sFalse, []⟩, ⟨sTrue, []⟩], fun _ _ h => h, allF_1 (by assumption), by decide, hown, ⟨[_, _], _, rfl, rfl, ⟨_, rfl, SlF.nil _⟩, ⟨[_, _], [], rfl, rfl, ⟨_, rfl, SlF.nil _⟩, rfl⟩⟩, ?_⟩; (refine S.keep ?_; exact zk); done) | (replace S := St.headG (A := [_, _]) S; refine ⟨F, _, _, _, [⟨sUnit, tysOf t.2⟩], fun _ _ h => h, allF_2 (by assumption), by simp, hown, ⟨[_, _], [], rfl, rfl, ⟨_, rfl, by rw [fo_tys]; exact hva0⟩, rfl⟩, ?_⟩; (refine S.keep ?_; exact zk); done) | (have hii : k = y.cs.length := (by omega); subst hii; rw [List.take_length] at hxs; replace S := St.headG (A := [_, _]) S; refine ⟨F5, v, g, xs, y.cs.map fun c => ⟨c.nm, putsF (consOf ts) c.nm t.2⟩, hF5, allF_3 (by assumption) (by assumption) (by assumption) (by assumption) (by assumption) hy, by rw [List.length_map]; omega, by rw [List.length_map]; exact hown, hxs, ?_⟩; (refine S.keep ?_; exact zk)) | trace_state)) : p := h
theorem allCt (F : Heap) (tb : Nat) (ts : List TD) (hT : CTab F tb ts) (hTz : TSz ts) (t : Ty) (cs2 : List Value) (hty : TyC F cs2 t.1 t.2) (hth : ThinT t) (mb : Nat) (es : List (List UInt8 × Value)) (hes : F mb = some (mObj kS es)) (hok : EsOK es) :
    Ct Tryz.prog 99 [.agg ⟨[.pointer (some ⟨tb, 0, none⟩)]⟩, .agg ⟨cs2⟩, .map (some mb)] F [] (fun F' _ u => AllQ F' u es (allF ts (consOf ts) t)) := by
  obtain ⟨m1, m2, m3, rs, hTS, hKT, hKS, hKD⟩ := hT
  obtain ⟨va, rfl, hva⟩ := hty
  have hva0 := hva
  obtain ⟨aa, ca, rfl, hca, -⟩ := hva
  refine Ct.enter Tryz.func99 rfl Tryz.ntmps99 rfl fun w0 a S => ?_
  refine wp_sr fun Z hZ => ?_
  (refine wbx S ?_; clear S a; intro b3 a w S)
  (refine wbx S ?_; clear S a; intro b4 a w S)
  (refine wbx S ?_; clear S a; intro b5 a w S)
  (revert S a; revert hZ Z; refine go 8 ?_; intro a S)
  (refine wp_seq_k ?_; intro Z hZ)
  replace hZ : ∀ (a' : Act) (w' : World), (∃ (F5 : Heap) (v : Value) (g : Grp) (xs : List Value) (fs : List (Frm Ty)), (∀ b o, F b = some o → F5 b = some o) ∧ allF ts (consOf ts) t = some fs ∧ fs.length ≤ 1000000 ∧ OwnS 176 2 v fs.length xs g ∧ LiC F5 2 FmR xs fs ∧ St 70 [(5, ptr b5), (8, v)] w0 F [] F5 [g, [(b5, .cells ⟨[.map (some mb)]⟩ 184 (0, 0))]] a' w') → Z a' w' := (by
   (intro a w hM; refine hZ _ _ ?_; clear hZ Z; clear S; obtain ⟨F5, v, g, xs, fs, hF5, hfs, hfl, hown, hxs, S⟩ := hM)
   (revert S a; refine go 4 ?_; intro Z hZ a S)
   (have hle1 := add_le (G1 := []) S; replace S := St.freeze (G1 := []) S; (simp only [List.nil_append] at S hle1); have hL := LiC.lim hown hxs rfl hle1 (by omega); have S' := frz1 S; clear S; obtain ⟨F6, hle6, hb5, S⟩ := S'; have hF6 : ∀ b o, F b = some o → F6 b = some o := (fun b o h => hle6 _ _ (hle1 _ _ (hF5 _ _ h))); have hL6 := hL.mono hle6; have hc := cfFCt F6 _ fs.length _ hL6.sq 151 [] [.pointer (some ⟨b5, 0, none⟩)] (fun k => match fs[k]? with | some f => !(mGet es f.nm).isSome | none => false) (fun k cs hk ⟨f, hf, v9, e9, hv9⟩ => by rw [hf, e9]; exact mall1Ct F6 b5 mb ⟨_, _, _, hb5, rfl⟩ es (hF6 _ _ hes) hok f.nm v9 (slf_one hv9)); rw [anyN_list (q := fun f => !(mGet es f.nm).isSome) (fun k x hx => by rw [hx])] at hc; refine wc0 S hc ?_; clear S a hc; intro v9 a w hv S; subst hv)
   (revert S a; revert hZ Z; refine go 5 ?_; intro a S)
   refine wp_ret (fr2 S Tryz.results99 ?_)
   (first | (rw [allF_0 (.inl (by assumption))]; rfl) | (rw [allF_0 (.inr (.inl (by assumption)))]; rfl) | (rw [allF_0 (.inr (.inr (by assumption)))]; rfl) | (rw [hfs]; exact ⟨v, by rw [any_not], hL6⟩) | trace_state))
  (revert S a; refine go 12 ?_; intro Z hZ a S)
  refine wpc_split S rfl (fun h => ?_) (fun h => ?_)
  · (replace S := St.lit (d := 50) S rfl h; (try simp only [tq] at h))
    refine wp_skip ?_
    (refine hZ _ _ ?_; clear hZ Z)
    refine wpc_true S rfl ?_
    (revert S a; refine go 5 ?_; intro a S)
    refine wp_ret (fr2 S Tryz.results99 ?_)
    exact zzCu0
  (replace S := St.lit (d := 50) S rfl h; (try simp only [tq] at h))
  (revert S a; refine go 5 ?_; intro a S)
  refine wpc_split S rfl (fun h => ?_) (fun h => ?_)
  · (replace S := St.lit (d := 50) S rfl h; (try simp only [tq] at h))
    refine wp_skip ?_
    (refine hZ _ _ ?_; clear hZ Z)
    refine wpc_true S rfl ?_
    (revert S a; refine go 5 ?_; intro a S)
    refine wp_ret (fr2 S Tryz.results99 ?_)
    exact zzCu0
  (replace S := St.lit (d := 50) S rfl h; (try simp only [tq] at h))
  (revert S a; revert hZ Z; refine go 5 ?_; intro a S)
  refine wpc_split S rfl (fun h => ?_) (fun h => ?_)
  · (replace S := St.lit (d := 50) S rfl h; (try simp only [tq] at h))
    (revert S a; refine go 5 ?_; intro a S)
    refine wp_ret (fr2 S Tryz.results99 ?_)
    exact zzCu0
  (replace S := St.lit (d := 50) S rfl h; (try simp only [tq] at h))
  (revert S a; refine go 5 ?_; intro a S)
  refine wpc_sp S rfl ?_ ?_ <;> intro h
  · (revert S a; refine go 3 ?_; intro a S)
    (refine wpl_buildSlice S rfl rfl rfl rfl rfl rfl (by rfl) (by simp [Value.cells, splice, splice]) rfl (by rfl) (by rfl) ?_; clear S a; intro b58 a w hown S)
    (revert S a; refine go 2 ?_; intro a S)
    (refine hZ _ _ ?_)
    exact zzCu1
  (revert S a; refine go 5 ?_; intro a S)
  refine wpc_sp S rfl ?_ ?_ <;> intro h
  · (revert S a; refine go 4 ?_; intro a S)
    (refine wpl_buildSlice S rfl rfl rfl rfl rfl rfl (by rfl) (by simp [Value.cells, splice, splice]) rfl (by rfl) (by rfl) ?_; clear S a; intro b64 a w hown S)
    (revert S a; refine go 2 ?_; intro a S)
    (refine hZ _ _ ?_)
    exact zzCu1
  (revert S a; refine go 5 ?_; intro Z hZ a S)
  (refine wcF S (typeMCt F tb m1 m2 m3 ts (consOf ts) rs hTS hTz t.1) ?_; clear S a; intro u9 F9 a w hv9 hF9 S; obtain ⟨y, a4, n4, c4, v5, rfl, hy, hyc⟩ := hv9; have hysz := (TSz.of hTz hy).1; have hyc0 := hyc; obtain ⟨ac, cc, rfl, hcc, hcpos⟩ := hyc)
  (revert S a; refine go 3 ?_; intro a S)
  (refine wpl_alloc S rfl rfl rfl rfl ?_; clear S a; intro b9 a w S)
  (refine wso S rfl rfl ?_; clear S; intro w S)
  (revert S a; revert hZ Z; refine go 11 ?_; intro a S)
  refine wpc_loop (fun m a w' => ∃ (k : Nat) (v : Value) (g : Grp) (xs : List Value) (F5 : Heap), m = y.cs.length - k ∧ k ≤ y.cs.length ∧ (∀ b o, F b = some o → F5 b = some o) ∧ (∀ b o, F9 b = some o → F5 b = some o) ∧ OwnS 176 2 v k xs g ∧ LiC F5 2 FmR xs ((y.cs.take k).map fun c => (⟨c.nm, putsF (consOf ts) c.nm t.2⟩ : Frm Ty)) ∧ St 70 [(3, ptr b3), (4, ptr b4), (5, ptr b5), (8, v), (26, .slice ac y.cs.length cc), (27, .int .i64 y.cs.length), (28, .int .i64 k)] w0 F [] F5 [g, [(b5, .cells ⟨[.map (some mb)]⟩ 184 (0, 0))], [(b4, .cells ⟨[.string (bs t.1), .slice aa t.2.len ca]⟩ 49 (0, 0))], [(b3, .cells ⟨[.pointer (some ⟨tb, 0, none⟩)]⟩ 120 (0, 0))]] a w') ?_ ?_
  · (replace S := S.drop1; replace S := S.nilg; refine ⟨y.cs.length, 0, .slice none 0 0, [], [], F9, by omega, Nat.zero_le _, hF9, fun _ _ h => h, OwnS.nil _ _, rfl, ?_⟩; refine S.keep ?_; exact zk)
  (clear S; rintro m a w ⟨k, v, g, xs, F5, rfl, hkl, hF5, hF59, hown, hxs, S⟩)
  (revert S a; refine go 5 ?_; intro Z hZ a S)
  refine wpc_sp S rfl ?_ ?_ <;> intro h
  · (revert S a; revert hZ Z; refine go 4 ?_; intro Z hZ a S)
    (refine wp_seq_k ?_; intro Z hZ)
    (obtain ⟨b8, o8, hao, c, cs1, hx, hc1, ⟨v1, rfl, hf1⟩⟩ := LiM.pos hcpos (k := k) (by omega); rw [hao] at S; replace hc1 := Cels.mono hF59 hc1; have hf1c := hf1; obtain ⟨af1, cf1, rfl, -, -⟩ := hf1c)
    (revert S a; refine go 3 ?_; intro a S)
    (refine wpl_alloc S rfl rfl rfl rfl ?_; clear S a; intro b12 a w S)
    (refine wso S rfl rfl ?_; clear S; intro w S)
    (revert S a; revert hZ Z; refine go 7 ?_; intro Z hZ a S)
    (refine wcF S (consMCt F5 tb m1 m2 m3 ts (consOf ts) rs (hTS.mono hF5) hKS c.nm) ?_; clear S a; intro u8 F8 a w hv8 hF8 S; obtain ⟨x, a7, n7, c7, a4, c4, rfl, hfx, hps, hfs⟩ := hv8)
    (revert S a; refine go 3 ?_; intro a S)
    (refine wpl_alloc S rfl rfl rfl rfl ?_; clear S a; intro b13 a w S)
    (refine wso S rfl rfl ?_; clear S; intro w S)
    (revert S a; revert hZ Z; refine go 3 ?_; intro a S)
    (refine wpc_mixM [0, 1, 2, 3, 4, 6] [2, 3, 4] [] (.one 0 (.one 1 (.one 2 (.one 3 (.one 4 (.one 5 (.one 6 (.one 7 (.one 8 (.one 9 .nil)))))))))) [b12, b13, b4] S mixed (by kernel_rfl) ?_; clear S; intro w S)
    (revert S a; refine go 6 ?_; intro a S)
    (have hsz := hKS.of hfx; refine wcF S (cputCt F8 x t _ _ a4 c4 hps hfs (hva0.mono (fun b o h => hF8 _ _ (hF5 _ _ h))) hsz.1 hsz.2.1 hsz.2.2 hth.2) ?_; clear S a; intro u7 F7 a w hv7 hF7 S; rw [puts_x hfx] at hv7; have hv7c := hv7; obtain ⟨a77, c77, rfl, -, -⟩ := hv7c)
    (revert S a; refine go 3 ?_; intro a S)
    (refine wpl_buildSlice S rfl rfl rfl rfl rfl rfl (by rfl) (by simp [Value.cells, splice, splice]) rfl (by rfl) (by rfl) ?_; clear S a; intro b47 a w hown2 S)
    (revert S a; refine go 2 ?_; intro a S)
    (refine wpl_appendOwn S rfl rfl rfl rfl rfl rfl hown hown2 (by rfl) (by simp [Value.cells, Value.oneCell', splice, splice]) (by omega) (by omega) ?_; clear hown S a; intro v g a w hown S)
    (revert S a; revert hZ Z; refine go 10 ?_; intro a S)
    change ∃ m', _ ∧ _
    (rw [← hao] at S; replace S := S.drop1.drop1; refine ⟨y.cs.length - (k + 1), by omega, k + 1, v, g, xs ++ [.string (bs c.nm), .slice a77 (foOf (putsF (consOf ts) c.nm t.2)).len c77], F7, rfl, by omega, fun b o h => hF7 _ _ (hF8 _ _ (hF5 _ _ h)), fun b o h => hF7 _ _ (hF8 _ _ (hF59 _ _ h)), hown, ?_, ?_⟩; rotate_left 1; (refine S.keep ?_; exact zk); (rw [List.take_add_one, hx, List.map_append]; exact LiC.app (hxs.mono (fun b o h => hF7 _ _ (hF8 _ _ h))) (LiC.one rfl ⟨_, rfl, hv7⟩)))
  (refine wp_exit ?_; conv => whnf)
  (clear hZ Z; (refine hZ _ _ ?_))
  exact zzCu1
structure UG (xs : List Ty) (rows : List Ef) (q : Ef) : Prop where
  ty : ∀ x ∈ xs, ThinT x ∧ depthL x.2 ≤ 100000000
  xl : xs.length ≤ 100000000
  rw : ∀ r ∈ rows, RwOK r ∧ r.len = xs.length ∧ r.size ≤ 100000000
  rl : rows.length ≤ 100000000
  q : RwOK q ∧ q.len = xs.length ∧ q.size ≤ 100000000
def UR (ts : List TD) (css : List KC) : Nat → List Ty → List Ef → Ef → Prop
 | 0, _, _, _ => False
 | n + 1, [], rows, q => UG [] rows q
 | n + 1, x :: xs, rows, .nil => False
 | n + 1, x :: xs, rows, .cons h L r => UG (x :: xs) rows (.cons h L r) ∧ match hdO showV h with
  | some s => UR ts css n (kidF css h L.len x ++ xs) (specR showV ⟨s, kidF css h L.len x⟩ rows) (appR L r)
  | none => match allF ts css x with
   | none => UR ts css n xs (restR showV rows) r
   | some fs => if fs.all (fun f => decide (f.nm ∈ seenR showV rows)) = true then ∀ f ∈ fs, UR ts css n (f.tys ++ xs) (specR showV f rows) (anys f.tys.length r) else UR ts css n xs (restR showV rows) r
theorem UR.ug {ts : List TD} {css : List KC} : ∀ {n : Nat} {xs : List Ty} {rows : List Ef} {q : Ef}, UR ts css n xs rows q → UG xs rows q
 | n + 1, [], rows, q, h => h
 | n + 1, x :: xs, rows, .cons a L r, h => h.1
abbrev useC (ts : List TD) (n : Nat) (xs : List Ty) (rows : List Ef) (q : Ef) : Bool := useF showV (allF ts (consOf ts)) (kidF (consOf ts)) n xs rows q
def UseD (tb : Nat) (ts : List TD) (n : Nat) : Prop := ∀ (F : Heap) (v1 v2 v3 : Value) (xs : List Ty) (rows : List Ef) (q : Ef), TabF F → CTab F tb ts → SlF F v1 (foOf xs) → LiM F 1 RwR v2 rows → TrS F 9 EhR v3 q → UR ts (consOf ts) n xs rows q →
 Ct Tryz.prog 54 [.agg ⟨[.pointer (some ⟨tb, 0, none⟩)]⟩, v1, v2, v3] F [] (fun _ _ u => u = .bool (useC ts n xs rows q))
theorem tyR_fo {F : Heap} : ∀ {xs : List Value} {l : List Ty}, LiC F 2 TyR xs l → FoC F xs (foOf l)
 | xs, [], h => by rw [show xs = [] from h]; trivial
 | xs, x :: l, ⟨cs, r, h1, h2, ⟨v, h3, h4⟩, h5⟩ => by
  subst h3; subst h1
  exact ⟨rfl, h4, tyR_fo h5⟩
theorem lim_slf {F : Heap} {v : Value} {l : List Ty} (h : LiM F 2 TyR v l) : SlF F v (foOf l) := by
 obtain ⟨ao, cap, xs, rfl, h1, h2⟩ := h.flat
 obtain ⟨_, _, e, h3, _⟩ := h
 cases e
 refine ⟨ao, cap, by rw [foOf_len], ⟨by rw [foOf_len]; exact h3.1, by rw [foOf_len]; omega⟩, fun hp => ?_⟩
 obtain ⟨b, o, e, h4⟩ := h2 (by rw [foOf_len] at hp; exact hp)
 exact ⟨b, o, e, (tyR_fo h1).fom h4⟩
theorem slf_lim {F : Heap} {v : Value} {l : Fo} (h : SlF F v l) (hl : l.len ≤ 140737488355328) : LiM F 2 TyR v (tysOf l) := by
 obtain ⟨ao, cap, rfl, h1, h2⟩ := h
 refine ⟨ao, cap, by rw [tysOf_len], ⟨by rw [tysOf_len]; exact h1.1, by rw [tysOf_len]; exact hl⟩, fun hp => ?_⟩
 obtain ⟨b, o, e, h3⟩ := h2 (by rw [tysOf_len] at hp; exact hp)
 refine ⟨b, o, e, fun k x hx => ?_⟩
 rw [tysOf_get] at hx
 obtain ⟨cs, h4, h5, h6⟩ := h3.at hx
 exact ⟨cs, h4, h5, h6⟩
theorem slf_lim' {F : Heap} {v : Value} {l : List Ty} (h : SlF F v (foOf l)) (hl : l.length ≤ 140737488355328) : LiM F 2 TyR v l := by
 have := slf_lim h (by rw [foOf_len]; exact hl)
 rwa [tys_fo] at this
theorem cels_one {F : Heap} {b o : Nat} {v : Value} (h : Cel F b o v) : Cels F b o [v] := fun j u hj => by
 rcases j with - | j
 ·cases hj; exact h
 ·simp at hj
theorem cuse1Ct {tb : Nat} {ts : List TD} {n : Nat} (ih : UseD tb ts n) (F : Heap) (hT : TabF F) (hC : CTab F tb ts) (x : Ty) (xs : List Ty) (rows : List Ef) (eh : EH) (A r : Ef) (hu : UG (x :: xs) rows (.cons eh A r)) (v1 v2 v3 : Value) (h1 : SlF F v1 (foOf (x :: xs))) (h2 : LiM F 1 RwR v2 rows) (h3 : TrS F 9 EhR v3 (.cons eh A r))
  (d4 d5 d6 d7 : Nat) (hd4 : Cel F d4 0 (.pointer (some ⟨tb, 0, none⟩))) (hd5 : Cel F d5 0 v1) (hd6 : Cel F d6 0 v2) (hd7 : Cel F d7 0 v3) (f : Frm Ty) (cs : List Value) (hf : FmR F f cs) (hur : UR ts (consOf ts) n (f.tys ++ xs) (specR showV f rows) (asR showV f (.cons eh A r)).1) :
  Ct Tryz.prog 94 ([] ++ [.agg ⟨cs⟩] ++ [.pointer (some ⟨d7, 0, none⟩), .pointer (some ⟨d4, 0, none⟩), .pointer (some ⟨d5, 0, none⟩), .pointer (some ⟨d6, 0, none⟩)]) F [] (fun _ _ u => u = .bool (useC ts n (f.tys ++ xs) (specR showV f rows) (asR showV f (.cons eh A r)).1)) := by
 obtain ⟨vt, rfl, hvt⟩ := hf
 have hxl := hur.ug.xl
 rw [List.length_append] at hxl
 obtain ⟨⟨hbq, hpq⟩, hql, hqs⟩ := hu.q
 have hvt0 := hvt
 obtain ⟨at1, ct1, rfl, -, -⟩ := hvt
 have h1L := slf_lim' h1 (by have := hu.xl; omega)
 obtain ⟨a1, c1, rfl, h1c, -⟩ := id h1
 have h1t := lim_drop (i := 1) h1L (by simp)
 (simp only [List.drop_succ_cons, List.drop_zero] at h1t)
 have hlx : (foOf (x :: xs)).len = xs.length + 1 := by rw [foOf_len]; rfl
 have hfl : (foOf f.tys).len = f.tys.length := foOf_len _
 have hszc : (Rose.cons eh A r).size = A.size + r.size + 1 := rfl
 have hl2 := Rose.len_size r
 have hl3 := Rose.len_size A
 have h3c := h3
 obtain ⟨a3, c3, rfl, -, -⟩ := h3c
 have hrows : ∀ r ∈ rows, r ≠ .nil ∧ RwOK r ∧ (foOf f.tys).len + r.size ≤ 1000000000 := fun r hr => by
  obtain ⟨g1, g2, g3⟩ := hu.rw r hr
  refine ⟨fun e => ?_, g1, by omega⟩
  rw [e] at g2; cases g2
 refine Ct.enter Tryz.func94 rfl Tryz.ntmps94 rfl fun w0 a S => ?_
 refine wp_sr fun Z hZ => ?_
 (refine wbx S ?_; clear S a; intro b5 a w S)
 (revert S a; revert hZ Z; refine go 4 ?_; intro Z hZ a S)
 first | (refine wv S (sv_loadO S rfl rfl (by rfl)) ?_; clear S a; intro a S) | (refine wv S (sv_loadF S rfl rfl (by assumption)) ?_; clear S a; intro a S) | (refine wv S (sv_loadF S rfl rfl hd7) ?_; clear S a; intro a S) | (refine wv S (sv_loadF S rfl rfl hd5) ?_; clear S a; intro a S) | (refine wv S (sv_loadF S rfl rfl hd6) ?_; clear S a; intro a S)
 (revert S a; refine go 1 ?_; intro a S)
 (refine wpl_call (Gs := []) (Gr := [[(b5, _)]]) S rfl rfl rfl rfl rfl rfl (asCt F hT _ eh A r h3 f.nm _ (foOf f.tys) hvt0 hbq.1 hpq.1 (by omega)) rfl (by exact List.Perm.refl _) ?_; clear S a; intro v12 F9 G9 a w hv9 hF9 S; rw [tys_fo] at hv9; replace hv9 : AsQ _ _ _ (asR showV f (.cons eh A r)) := hv9; obtain ⟨v9, g9, x9, rfl, rfl, hown9, hx9⟩ := hv9; have hal := as_len f (.cons eh A r); replace S : St _ _ _ _ _ _ (g9 :: _) _ _ := S; have hle9 := add_le (G1 := []) S; replace S := St.freeze (G1 := []) S; replace S : St _ _ _ _ _ _ [[(b5, _)]] _ _ := S; have hR9 := own_tr hown9 hx9 hle9 (by rw [kids_len]; omega); clear hown9 hx9; obtain ⟨a9, q9, rfl⟩ := trs_slc hR9)
 (revert S a; revert hZ Z; refine go 7 ?_; intro a S)
 (refine wp_seq_k ?_; intro Z hZ)
 (have hG9 : ∀ b o, F b = some o → (F9.add g9) b = some o := (fun b o h => hle9 _ _ (hF9 _ _ h)); replace hd4 := cels_one (Cel.mono hG9 hd4); replace hd5 := Cel.mono hG9 hd5; replace hd6 := Cel.mono hG9 hd6)
 (refine wpc_mixM [0, 1, 2, 3, 4, 7, 8, 10] [0, 2, 3, 7, 8] [] (.one 0 (.one 1 (.one 2 (.one 3 (.one 4 (.one 7 (.one 8 (.one 10 (.one 5 (.one 6 (.one 9 (.one 11 (.one 12 .nil))))))))))))) [b5] S mixed (by kernel_rfl) ?_; clear S; intro w S)
 (refine wlF S rfl (fun w' S => sv_loadAF S rfl rfl hd4 rfl) ?_; clear S a; intro a S)
 (revert S a; refine go 2 ?_; intro a S)
 (refine wlF S rfl (fun w' S => sv_loadF S rfl rfl hd5) ?_; clear S a; intro a S)
 (refine wpm_v S rfl rfl rfl (want_none _ rfl) rfl rfl (fun w' S => sv_sliceSl_lo (i := 1) S rfl rfl rfl (by omega)) ?_; clear S a; intro a S)
 (refine wlF S rfl (fun w' S => sv_loadF S rfl rfl hd6) ?_; clear S a; intro a S)
 (revert S a; refine go 2 ?_; intro a S)
 refine wpm_eff rfl rfl (kwg S fun b o h => by first | exact h | solve_by_elim (maxDepth := 40)) ?_
 (refine wpl_buildSlice S rfl rfl rfl rfl rfl rfl (by rfl) (by simp [Value.cells, splice, splice]) rfl (by rfl) (by rfl) ?_; clear S a; intro b20 a w hown20 S; clear hown20; have S' := frz1 S; clear S; obtain ⟨F20, hle20, hb20, S⟩ := S')
 refine wpList_nil ?_
 refine wpm_eff rfl rfl (kwg S fun b o h => by first | exact h | solve_by_elim (maxDepth := 40)) ?_
 (refine wpl_call (Gs := []) (Gr := [[(b5, _)]]) S rfl rfl rfl rfl rfl rfl (concatTCt _ _ [f.tys, xs] (two_lim (by solve_by_elim (maxDepth := 40)) ((slf_lim' hvt0 (by omega)).mono (fun b o h => by solve_by_elim (maxDepth := 40))) (h1t.mono (fun b o h => by solve_by_elim (maxDepth := 40)))) (by simp; omega) (by simp)) rfl (by exact List.Perm.refl _) ?_; clear S a; intro v21 F21 G21 a w hv21 hF21 S; obtain ⟨g21, x21, rfl, hown21, hx21⟩ := hv21; replace S : St _ _ _ _ _ _ (g21 :: _) _ _ := S; have hle21 := add_le (G1 := []) S; replace S := St.freeze (G1 := []) S; replace S : St _ _ _ _ _ _ [[(b5, _)]] _ _ := S; have hL21 := LiC.lim hown21 (hx21.mono hF21) rfl hle21 (by simp; omega); clear hown21 hx21; rw [show [f.tys, xs].flatten = f.tys ++ xs by simp] at hL21; replace hL21 := lim_slf hL21)
 refine wpList_nil ?_
 refine wpm_eff rfl rfl (kwg S fun b o h => by first | exact h | solve_by_elim (maxDepth := 40)) ?_
 (refine wcF S (specialCt _ (hT.mono (fun b o h => by solve_by_elim (maxDepth := 40))) v2 rows (h2.mono (fun b o h => by solve_by_elim (maxDepth := 40))) f.nm _ (foOf f.tys) (hvt0.mono (fun b o h => by solve_by_elim (maxDepth := 40))) hrows (by have := hu.rl; omega)) ?_; clear S a; intro v24 F24 a w hv24 hF24 S; rw [tys_fo] at hv24; replace hv24 : LiM F24 1 RwR v24 (specR showV f rows) := hv24)
 refine wpList_nil ?_
 refine wpm_eff rfl rfl (kwg S fun b o h => by first | exact h | solve_by_elim (maxDepth := 40)) ?_
 (refine wc0 S (ih _ _ _ _ _ _ _ (hT.mono (fun b o h => by solve_by_elim (maxDepth := 40))) (hC.mono (fun b o h => by solve_by_elim (maxDepth := 40))) (hL21.mono (fun b o h => by solve_by_elim (maxDepth := 40))) (hv24.mono (fun b o h => by solve_by_elim (maxDepth := 40))) (hR9.mono (fun b o h => by solve_by_elim (maxDepth := 40))) hur) ?_; clear S a; intro v a w hv S; subst hv)
 refine wpList_nil ?_
 refine wpm_eff rfl rfl (kwg S fun b o h => by first | exact h | solve_by_elim (maxDepth := 40)) ?_
 (revert S a; refine go 2 ?_; intro a S)
 (refine wpm_nil (kwg S fun b o h => by first | exact h | solve_by_elim (maxDepth := 40)) (hZ _ _ ?_); clear hZ Z)
 refine wp_ret (fr1 S Tryz.results94 ?_)
 rfl
end Go.Proofs.YthnafdbebniapaaGreatDoor
