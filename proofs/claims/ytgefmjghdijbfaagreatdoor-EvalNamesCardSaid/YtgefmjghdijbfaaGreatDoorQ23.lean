/- Walks. -/
import Derived.Test.YtgefmjghdijbfaaGreatDoorQ22
import Derived.Test.YtgefmjghdijbfaaGreatDoorQ14
set_option maxHeartbeats 32000000
set_option maxRecDepth 20000
namespace Go.Proofs.YtgefmjghdijbfaaGreatDoor
open Go Go.Wk Go.Un Go.De Go.Num
set_option linter.unusedSimpArgs false
set_option linter.unusedVariables false
attribute [local irreducible] Go.wpList Go.Code.wp Go.wpStill Go.Wk.wpPre Go.bodyPost Go.Calls Go.Wk.Ct Go.Wk.OwnS Go.Wk.wpG Go.Wk.wpM
theorem listO_full : ∀ {l : List Ans}, ¬ (listO l).1 ≠ 0 → (listO l).2.length = l.length
 | [], _ => rfl
 | x :: r, h => by
  unfold listO at h ⊢
  split
  ·rename_i h1
   rw [if_pos h1] at h
   exact absurd h1 h
  ·rename_i h1
   rw [if_neg h1] at h
   split
   ·rename_i h2
    rw [if_pos h2] at h
    exact absurd h2 h
   ·rename_i h2
    simp only [List.length_cons, listO_full h2]
theorem kOr_yes {p q : Prop} [Decidable p] [Decidable q] (h : p) : true = decide (p ∨ q) := (decide_eq_true (.inl h)).symm
theorem kOr_no {p : Prop} [Decidable p] {a b : List UInt8} (h : ¬ p) : (a == b) = decide (p ∨ a = b) := by
 rw [beqL]
 by_cases h2 : a = b <;> simp [h, h2]
theorem kAt_yes {e : Int} {p : Bool} {a b : List UInt8} (h : e = 0) : (p == (a == b)) = decide (e = 0 ∧ p = decide (a = b)) := by
 rw [beqL]
 by_cases h2 : a = b <;> cases p <;> simp [h, h2]
theorem kAt_no {e : Int} {q : Prop} [Decidable q] (h : ¬ e = 0) : false = decide (e = 0 ∧ q) := (decide_eq_false fun e => h e.1).symm
theorem call_and {nm : List UInt8} {A : List Ans} (h : nm = sAnd ∨ nm = sOr) : callO nm A = if (truthO (nthA A 0)).2 = 0 ∧ (truthO (nthA A 0)).1 = decide (nm = sAnd) then (if (truthO (nthA A 1)).2 ≠ 0 then noA (truthO (nthA A 1)).2 else yesA (boolV (truthO (nthA A 1)).1)) else if (truthO (nthA A 0)).2 ≠ 0 then noA (truthO (nthA A 0)).2 else yesA (boolV (truthO (nthA A 0)).1) := by
 unfold callO
 rw [if_pos h]
theorem call_no {nm : List UInt8} {A : List Ans} (h : ¬ (nm = sAnd ∨ nm = sOr)) (h1 : (listO A).1 ≠ 0) : callO nm A = noA (listO A).1 := by
 unfold callO
 rw [if_neg h, if_pos h1]
theorem call_one {nm : List UInt8} {A : List Ans} {x : Vv} (h : ¬ (nm = sAnd ∨ nm = sOr)) (h1 : ¬ (listO A).1 ≠ 0) (hx : (listO A).2 = [x]) : callO nm A = op1 nm x := by
 unfold callO
 rw [if_neg h, if_neg h1, hx]
theorem call_two {nm : List UInt8} {A : List Ans} {x y : Vv} {f : Vv → Vv → Ans} (h : ¬ (nm = sAnd ∨ nm = sOr)) (h1 : ¬ (listO A).1 ≠ 0) (hx : (listO A).2 = [x, y]) (hf : op2 nm = some f) : callO nm A = f x y := by
 unfold callO
 rw [if_neg h, if_neg h1, hx]
 dsimp only
 rw [hf]
theorem len_two {l : List Vv} (h : l.length = 2) : ∃ x y, l = [x, y] := by
 match l, h with
 | [x, y], _ => exact ⟨x, y, rfl⟩
theorem form_call {h : EH} {n : Nat} (hk : h.k = 6) (hf : formK h n = true) : ((h.nm = sAnd ∨ h.nm = sOr) ∧ n = 2) ∨ (¬ (h.nm = sAnd ∨ h.nm = sOr) ∧ ((n = 1) ∨ (n = 2 ∧ ∃ f, op2 h.nm = some f))) := by
 unfold formK at hf
 rw [if_neg (by omega), if_neg (by omega), if_neg (by omega), if_neg (by omega), if_pos hk] at hf
 simp only [Bool.or_eq_true, Bool.and_eq_true, decide_eq_true_eq] at hf
 by_cases ha : h.nm = sAnd ∨ h.nm = sOr
 ·left
  refine ⟨ha, ?_⟩
  rcases hf with h1 | h1
  ·exact h1.2
  ·exfalso
   rcases ha with e | e <;> (rw [e] at h1; exact absurd h1.2 (by decide))
 ·right
  refine ⟨ha, ?_⟩
  rcases hf with h1 | h1
  ·right
   refine ⟨h1.2, ?_⟩
   rcases h1.1 with (h2 | h2) | h2
   ·exact o_some h2
   ·exact absurd (.inl h2) ha
   ·exact absurd (.inr h2) ha
  ·exact .inl h1.1
theorem zzEvJ0 {p : Prop} (h : p := by (first | ((conv => arg 3; rw [hcr, if_pos (by assumption)]); exact ans_no _ _) | ((conv => arg 3; rw [hcr, if_neg (by omega)]); exact ⟨_, rfl, vac_z _ (k := 1) (s := []) (by decide)⟩) | (rw [hpn (by assumption)]; exact ans_no _ _) | (rw [hp1 x (by omega) hbx]; exact ⟨_, rfl, _, rfl, hT8, hs8⟩) | (rw [hp2 x y f (by omega) hbx hf2]; exact ⟨_, rfl, _, rfl, hT8, hs8⟩) | trace_state)) : p := h
theorem zzEvJ1 {p : Prop} (h : p := by (apply Exists.intro; apply And.intro; rotate_left 1; (refine S.keep ?_; exact zk); first | exact kAt_yes (by assumption) | exact kAt_no (by assumption))) : p := h
theorem zzEvJ2 {p : Prop} (h : p := by (apply Exists.intro; apply And.intro; rotate_left 1; (refine S.keep ?_; exact zk); first | exact kOr_yes (by assumption) | exact kOr_no (by assumption))) : p := h
theorem callCt {n : Nat} (hE : EvC n) (F : Heap) (bm : Nat) (cs : List KC) (vs : List Bd) (eh : EH) (L : Ef) (xs : List Value) (hn : L.size ≤ n) (hM : Mac F bm cs vs) (hX : ExC F xs eh L) (hg : GE eh L) (hf : formEL L = true) (hk : eh.k = 6) (hfk : formK eh L.len = true) :
    Ct Tryz.prog 86 [ptr bm, .agg ⟨xs⟩] F [] (fun F' _ u => AnsR F' u (evE cs vs eh L)) := by
  have hfc := form_call hk hfk
  obtain ⟨a1, n1, c1, ao, cap, rfl, -, hL⟩ := exc_slc hX
  have hMc := hM
  obtain ⟨⟨tv, aov, capv, bt, es, hm0, hm1, hm2, hvs, hes, hops, hK⟩, hT, hEr, hGB⟩ := hM
  have hgl := listO_GV (evL_GV (cs := cs) hGB hg.2.2)
  have hlf := listO_full (l := evL cs vs L)
  rw [evL_len] at hlf
  have hLc := hL
  obtain ⟨_, _, e9, hcap, hpos⟩ := hLc
  cases e9
  have hg1 := hg.2.1.1
  rw [evE_call hk]
  refine Ct.enter Tryz.func86 rfl Tryz.ntmps86 rfl fun w0 a S => ?_
  refine wp_sr fun Z hZ => ?_
  (refine wbx S ?_; clear S a; intro b3 a w S)
  (refine wpl_alloc S rfl rfl rfl rfl ?_; clear S a; intro b4 a w S)
  (revert S a; revert hZ Z; refine go 4 ?_; intro Z hZ a S)
  (refine wp_seq_k ?_; intro Z hZ)
  replace hZ : ∀ (a' : Act) (w' : World), (∃ t : Bool, t = decide (eh.nm = sAnd ∨ eh.nm = sOr) ∧ St 91 [(0, ptr bm), (3, ptr b3), (4, ptr b4), (5, .int .i64 0), (17, .bool t)] w0 F [] F [[(b4, .cells ⟨[.int .u8 0, .int .i64 0, .string (bs []), .slice none 0 0]⟩ 33 (0, 0))], [(b3, .cells ⟨[.int .u8 (eh.k : Int), .int .i64 eh.l, .int .i64 eh.c, .string (bs eh.nm), .int .u8 (eh.v.k : Int), .int .i64 eh.v.n, .string (bs eh.v.s), .slice a1 n1 c1, .slice ao L.len cap]⟩ 36 (0, 0))]] a' w') → Z a' w' := (by
   (intro a w hM; refine hZ _ _ ?_; clear hZ Z; clear S; obtain ⟨t, rfl, S⟩ := hM)
   refine wpc_sp S rfl ?_ ?_ <;> intro h
   · (refine wp_seq_k ?_; intro Z hZ)
     (have hl2 : L.len = 2 := (by rcases hfc with h9 | h9; exact h9.2; exact absurd (by assumption) h9.1); obtain ⟨b80, o80, rfl, x, cs1, v1, hx, hc1, hR1, hT1⟩ := TrM.pos hpos (k := 0) (by omega); have hxs := Rose.size_get hx; have hX1 := exc_of hR1 hT1; obtain ⟨b81, o81, e81, y, cs2, v2, hy, hc2, hR2, hT2⟩ := TrM.pos hpos (k := 1) (by omega); cases e81; have hys := Rose.size_get hy; have hX2 := exc_of hR2 hT2; have hcx := mtruthCt hE F bm cs vs x.1 x.2 _ (by omega) hMc hX1 (GEl.get hg.2.2 hx) (formEL_get hf hx); have hcy := fun F' hF => mtruthCt hE F' bm cs vs y.1 y.2 _ (by omega) (hMc.mono hF) (hX2.mono hF) (GEl.get hg.2.2 hy) (formEL_get hf hy); obtain ⟨a5, n5, c5, ao5, cap5, he5, -, -⟩ := exc_slc hX1; obtain ⟨a6, n6, c6, ao6, cap6, he6, -, -⟩ := exc_slc hX2; rw [he5] at hc1 hcx; rw [he6] at hc2 hcy; have hca := call_and (A := evL cs vs L) (by assumption : eh.nm = sAnd ∨ eh.nm = sOr); rw [evL_at hx, evL_at hy] at hca; generalize truthO (evE cs vs x.1 x.2) = T0 at hcx hca; generalize truthO (evE cs vs y.1 y.2) = T1 at hcy hca; obtain ⟨p0, e0⟩ := T0; obtain ⟨p1, e1⟩ := T1; dsimp only at hcx hcy hca)
     (revert S a; refine go 6 ?_; intro a S)
     (refine wcF S hcx ?_; clear S a; intro u9 F4 a w hv hF4 S; subst hv)
     (revert S a; revert hZ Z; refine go 7 ?_; intro a S)
     (refine wp_seq_k ?_; intro Z hZ)
     replace hZ : ∀ (a' : Act) (w' : World), (∃ (r : Bool) (e3 : Int) (F6 : Heap), callO eh.nm (evL cs vs L) = (if e3 ≠ 0 then noA e3 else yesA (boolV r)) ∧ St 91 [(4, ptr b4), (5, .int .i64 0), (6, .bool r), (7, .int .i64 e3)] w0 F [] F6 [[(b4, .cells ⟨[.int .u8 0, .int .i64 0, .string (bs []), .slice none 0 0]⟩ 33 (0, 0))]] a' w') → Z a' w' := (by
      (intro a w hM; refine hZ _ _ ?_; clear hZ Z; clear S; obtain ⟨r, e3, F6, hcr, S⟩ := hM)
      (revert S a; refine go 6 ?_; intro Z hZ a S)
      refine wpc_sp S rfl ?_ ?_ <;> intro h
      · (revert S a; refine go 3 ?_; intro Z hZ a S)
        (refine wso S rfl rfl ?_; clear S; intro w S)
        (revert S a; revert hZ Z; refine go 3 ?_; intro a S)
        refine wp_ret (fin_ret S (results2 Tryz.results86 (RV.cellO S rfl (by rfl)) (RV.tmp S rfl)) ?_)
        exact zzEvJ0
      (revert S a; revert hZ Z; refine go 4 ?_; intro Z hZ a S)
      (refine wc0 S (eTruthCt F6 _) ?_; clear S a; intro v a w hv S; subst hv)
      (refine wso S rfl rfl ?_; clear S; intro w S)
      (revert S a; revert hZ Z; refine go 3 ?_; intro a S)
      refine wp_ret (fin_ret S (results2 Tryz.results86 (RV.cellO S rfl (by rfl)) (RV.tmp S rfl)) ?_)
      (first | ((conv => arg 3; rw [hcr, if_pos (by assumption)]); exact ans_no _ _) | ((conv => arg 3; rw [hcr, if_neg (by omega)]); exact ⟨_, rfl, vac_z _ (k := 1) (s := []) (by decide)⟩) | (rw [hpn (by assumption)]; exact ans_no _ _) | (rw [hp1 x (by omega) hbx]; exact ⟨_, rfl, _, rfl, hT8, hs8⟩) | (rw [hp2 x y f (by omega) hbx hf2]; exact ⟨_, rfl, _, rfl, hT8, hs8⟩) | trace_state))
     (refine wp_seq_k ?_; intro Z hZ)
     replace hZ : ∀ (a' : Act) (w' : World), (∃ t : Bool, t = decide (e0 = 0 ∧ p0 = decide (eh.nm = sAnd)) ∧ St 91 [(0, ptr bm), (3, ptr b3), (4, ptr b4), (5, .int .i64 0), (6, .bool p0), (7, .int .i64 e0), (35, .bool t)] w0 F [] F4 [[(b4, .cells ⟨[.int .u8 0, .int .i64 0, .string (bs []), .slice none 0 0]⟩ 33 (0, 0))], [(b3, .cells ⟨[.int .u8 (eh.k : Int), .int .i64 eh.l, .int .i64 eh.c, .string (bs eh.nm), .int .u8 (eh.v.k : Int), .int .i64 eh.v.n, .string (bs eh.v.s), .slice a1 n1 c1, .slice (some ⟨b80, o80, none⟩) L.len cap]⟩ 36 (0, 0))]] a' w') → Z a' w' := (by
      (intro a w hM; refine hZ _ _ ?_; clear hZ Z; clear S; obtain ⟨t, rfl, S⟩ := hM)
      refine wpc_sp S rfl ?_ ?_ <;> intro h
      · (revert S a; refine go 5 ?_; intro a S)
        (refine wv S (sv_loadAF S rfl rfl (Cels.mono hF4 hc2) rfl) ?_; clear S a; intro a S)
        (refine wcF S (hcy F4 hF4) ?_; clear S a; intro u8 F5 a w hv hF5 S; subst hv)
        (revert S a; refine go 6 ?_; intro a S)
        (refine hZ _ _ ?_)
        (replace S := St.pullB b3 S; replace S := S.drop1; first | (refine ⟨p1, e1, F5, by rw [hca, if_pos (by assumption)], ?_⟩; refine S.keep ?_; exact zk) | (refine ⟨p0, e0, F4, by rw [hca, if_neg (by assumption)], ?_⟩; refine S.keep ?_; exact zk))
      refine wp_skip ?_
      (refine hZ _ _ ?_)
      (replace S := St.pullB b3 S; replace S := S.drop1; first | (refine ⟨p1, e1, F5, by rw [hca, if_pos (by assumption)], ?_⟩; refine S.keep ?_; exact zk) | (refine ⟨p0, e0, F4, by rw [hca, if_neg (by assumption)], ?_⟩; refine S.keep ?_; exact zk)))
     (revert S a; refine go 4 ?_; intro a S)
     refine wgd S ?_ ?_
     · (clear S; intro h S)
       (revert S a; refine go 11 ?_; intro a S)
       (refine hZ _ _ ?_)
       exact zzEvJ1
     (clear S a; intro h a S)
     (revert S a; refine go 6 ?_; intro a S)
     (refine hZ _ _ ?_)
     exact zzEvJ1
   (revert S a; revert hZ Z; refine go 6 ?_; intro Z hZ a S)
   (have hn2 : ¬ (eh.nm = sAnd ∨ eh.nm = sOr) := (by assumption); refine wcF S (listCt hE F bm cs vs L _ hn hMc hL hg.2.2 hg.2.1.1 hf) ?_; clear S a; intro u7 F6 a w hv hF6 S; obtain ⟨v6, rfl, hT6⟩ := hv; have hT6c := hT6; obtain ⟨a6, c6, rfl, hcap6, hpos6⟩ := hT6c; have hpn := call_no (A := evL cs vs L) hn2; have hp1 := fun x => call_one (A := evL cs vs L) (x := x) hn2; have hp2 := fun x y f => call_two (A := evL cs vs L) (x := x) (y := y) (f := f) hn2; generalize listO (evL cs vs L) = B at S hT6 hgl hlf hpn hp1 hp2 hcap6 hpos6; rw [roseOf_len] at S)
   (revert S a; revert hZ Z; refine go 15 ?_; intro Z hZ a S)
   refine wpc_sp S rfl ?_ ?_ <;> intro h
   · (revert S a; refine go 3 ?_; intro Z hZ a S)
     (refine wso S rfl rfl ?_; clear S; intro w S)
     (revert S a; revert hZ Z; refine go 3 ?_; intro a S)
     refine wp_ret (fin_ret S (results2 Tryz.results86 (RV.cellO S rfl (by rfl)) (RV.tmp S rfl)) ?_)
     exact zzEvJ0
   (revert S a; refine go 7 ?_; intro a S)
   refine wpc_sp S rfl ?_ ?_ <;> intro h
   · (refine wp_seq_k ?_; intro Z hZ)
     (have hln := hlf (by omega); have hb1 : ∃ x, B.2 = [x] := List.length_eq_one_iff.1 (by omega); obtain ⟨x, hbx⟩ := hb1; rw [hbx] at hpos6; obtain ⟨b70, o70, rfl, z, cs7, v7, hz, hc7, hR7, hT7⟩ := TrM.pos hpos6 (k := 0) (by show 0 < 1; decide); cases hz; have hT7c := hT7; obtain ⟨a71, c71, rfl, -⟩ := hT7c; have hw7c := hR7.1; subst hw7c; (simp only [List.cons_append, List.nil_append] at hc7); have gx := hgl x (by rw [hbx]; exact List.mem_cons_self ..))
     (refine wpc_mixM [0, 1, 2, 3, 4, 6, 7] [1, 4] [] (.one 0 (.one 1 (.one 2 (.one 3 (.one 4 (.one 5 (.one 6 (.one 7 (.one 8 (.one 9 .nil)))))))))) [b3] S mixed (by kernel_rfl) ?_; clear S; intro w S)
     (revert S a; refine go 6 ?_; intro a S)
     (refine wcF S (oneCt F6 (hT.mono hF6) (hEr.mono hF6) eh.nm x _ gx ⟨_, rfl, hT7, hR7.2⟩) ?_; clear S a; intro u5 F8 a w hv hF8 S; obtain ⟨cs8, rfl, hV8⟩ := hv; obtain ⟨a8, c8, rfl, hT8, hs8⟩ := vac_slc hV8)
     (revert S a; refine go 4 ?_; intro a S)
     (refine wso S rfl rfl ?_; clear S; intro w S)
     (revert S a; revert hZ Z; refine go 6 ?_; intro a S)
     refine wp_ret (fin_ret S (results2 Tryz.results86 (RV.cellO S rfl (by rfl)) (RV.tmp S rfl)) ?_)
     exact zzEvJ0
   refine wp_skip ?_
   (refine hZ _ _ ?_; clear hZ Z)
   (refine wp_seq_k ?_; intro Z hZ)
   (have hln := hlf (by omega); have hl2 : L.len = 2 ∧ ∃ f, op2 eh.nm = some f := (by rcases hfc with h9 | ⟨-, h9⟩; exact absurd h9.1 hn2; rcases h9 with h9 | h9; omega; exact h9); obtain ⟨hl2, f, hf2⟩ := hl2; have hb1 : ∃ x y, B.2 = [x, y] := len_two (by omega); obtain ⟨x, y, hbx⟩ := hb1; rw [hbx] at hpos6; obtain ⟨b70, o70, rfl, z, cs7, v7, hz, hc7, hR7, hT7⟩ := TrM.pos hpos6 (k := 0) (by show 0 < 2; decide); cases hz; obtain ⟨b71, o71, e71, z, cs8, v8, hz, hc8, hR8, hT8⟩ := TrM.pos hpos6 (k := 1) (by show 1 < 2; decide); cases e71; cases hz; have hT7c := hT7; obtain ⟨a71, c71, rfl, -⟩ := hT7c; have hw7c := hR7.1; subst hw7c; (simp only [List.cons_append, List.nil_append] at hc7); have hT8c := hT8; obtain ⟨a72, c72, rfl, -⟩ := hT8c; have hw8c := hR8.1; subst hw8c; (simp only [List.cons_append, List.nil_append] at hc8); have gx := hgl x (by rw [hbx]; exact List.mem_cons_self ..); have gy := hgl y (by rw [hbx]; exact List.mem_cons_of_mem _ (List.mem_cons_self ..)); obtain ⟨u, hmg, fid, caf, rfl, hfn, hfc2⟩ : ∃ u, mGet es eh.nm = some u ∧ Op2 F u f := (by rcases hops.get eh.nm with ⟨f', u, h1, h2, h3⟩ | ⟨h1, h2⟩; (have e1 : op2 eh.nm = some f' := h1; rw [hf2] at e1; cases e1; exact ⟨u, h2, h3⟩); (have e1 : op2 eh.nm = none := h1; rw [hf2] at e1; cases e1)); haveI := hfn)
   (refine wpc_mixM [0, 1, 2, 3, 4, 5, 6, 7, 8, 9, 10, 11, 12, 14, 15] [3, 5, 6, 9, 12] [] (.one 0 (.one 1 (.one 2 (.one 3 (.one 4 (.one 5 (.one 6 (.one 7 (.one 8 (.one 9 (.one 10 (.one 11 (.one 12 (.one 13 (.one 14 (.one 15 (.one 16 (.one 17 .nil)))))))))))))))))) [b3] S mixed (by kernel_rfl) ?_; clear S; intro w S)
   (revert S a; refine go 3 ?_; intro a S)
   (refine wlF S rfl (fun w' S => sv_loadF S rfl rfl (hm2.mono hF6)) ?_; clear S a; intro a S)
   (revert S a; refine go 2 ?_; intro a S)
   (refine wlF S rfl (fun w' S => sv_lookupF (enc := kS) S rfl rfl rfl (hF6 _ _ hes)) ?_; clear S a; intro a S)
   (rw [hmg] at S)
   (revert S a; refine go 7 ?_; intro a S)
   (refine wcF S (hfc2 F6 hF6 x y _ _ gx gy ⟨_, rfl, hT7, hR7.2⟩ ⟨_, rfl, hT8, hR8.2⟩) ?_; clear S a; intro u5 F8 a w hv hF8 S; obtain ⟨cs8, rfl, hV8⟩ := hv; obtain ⟨a8, c8, rfl, hT8, hs8⟩ := vac_slc hV8)
   (revert S a; refine go 4 ?_; intro a S)
   (refine wso S rfl rfl ?_; clear S; intro w S)
   (revert S a; revert hZ Z; refine go 6 ?_; intro a S)
   refine wp_ret (fin_ret S (results2 Tryz.results86 (RV.cellO S rfl (by rfl)) (RV.tmp S rfl)) ?_)
   (first | ((conv => arg 3; rw [hcr, if_pos (by assumption)]); exact ans_no _ _) | ((conv => arg 3; rw [hcr, if_neg (by omega)]); exact ⟨_, rfl, vac_z _ (k := 1) (s := []) (by decide)⟩) | (rw [hpn (by assumption)]; exact ans_no _ _) | (rw [hp1 x (by omega) hbx]; exact ⟨_, rfl, _, rfl, hT8, hs8⟩) | (rw [hp2 x y f (by omega) hbx hf2]; exact ⟨_, rfl, _, rfl, hT8, hs8⟩) | trace_state))
  (revert S a; refine go 5 ?_; intro a S)
  refine wgd S ?_ ?_
  · (clear S; intro h S)
    (revert S a; refine go 7 ?_; intro a S)
    (refine hZ _ _ ?_)
    exact zzEvJ2
  (clear S a; intro h a S)
  (revert S a; refine go 4 ?_; intro a S)
  (refine hZ _ _ ?_)
  exact zzEvJ2
theorem evE_lit {cs : List KC} {vs : List Bd} {h : EH} {L : Ef} (hk : h.k = 1) : evE cs vs h L = yesA (h.v, h.vl) := by
 unfold evE evK
 rw [if_pos hk]
theorem evE_var0 {cs : List KC} {vs : List Bd} {h : EH} {L : Ef} (hk : h.k = 2) (hf : findB vs h.nm = none) : evE cs vs h L = noA 71 := by
 unfold evE evK
 rw [if_neg (by omega), if_pos hk, hf]
theorem evE_var {cs : List KC} {vs : List Bd} {h : EH} {L : Ef} {x : Bd} (hk : h.k = 2) (hf : findB vs h.nm = some x) : evE cs vs h L = yesA x.2 := by
 unfold evE evK
 rw [if_neg (by omega), if_pos hk, hf]
theorem evE_if {cs : List KC} {vs : List Bd} {h : EH} {L : Ef} {x y z : EH × Ef} (hk : h.k = 8) (hx : L.get? 0 = some x) (hy : L.get? 1 = some y) (hz : L.get? 2 = some z) : evE cs vs h L = if (truthO (evE cs vs x.1 x.2)).2 ≠ 0 then noA (truthO (evE cs vs x.1 x.2)).2 else if (truthO (evE cs vs x.1 x.2)).1 = true then evE cs vs y.1 y.2 else evE cs vs z.1 z.2 := by
 rw [← evL_at (cs := cs) (vs := vs) hx, ← evL_at (cs := cs) (vs := vs) hy, ← evL_at (cs := cs) (vs := vs) hz]
 conv => lhs; unfold evE evK
 rw [if_neg (by omega), if_neg (by omega), if_neg (by omega), if_neg (by omega), if_neg (by omega), if_pos hk]
theorem find_at {α : Type} (l : List α) (q : α → Bool) : (∃ (j : Nat) (x : α), idxN (atN l q) l.length = (j : Int) ∧ j < l.length ∧ l[j]? = some x ∧ l.find? q = some x) ∨ (l.find? q = none ∧ idxN (atN l q) l.length = -1) := by
 rcases idx_find l q with ⟨j, h1, h2, h3⟩ | ⟨h1, h2⟩
 ·refine .inl ⟨j, l[j], h2, h3, List.getElem?_eq_getElem h3, ?_⟩
  rw [List.findIdx?_eq_some_iff_getElem] at h1
  obtain ⟨_, h4, h5⟩ := h1
  rw [List.find?_eq_some_iff_getElem]
  exact ⟨h4, j, h3, rfl, fun i hi => by simpa using h5 i hi⟩
 ·refine .inr ⟨?_, h2⟩
  rw [List.findIdx?_eq_none_iff] at h1
  rw [List.find?_eq_none]
  intro x hx
  simp [h1 x hx]
theorem zzEvK0 {p : Prop} (h : p := by (first | (rw [hif, if_pos (by assumption)]; exact ans_no _ _) | (rw [hif, if_neg (by omega), if_pos (by assumption)]; exact ⟨_, rfl, _, rfl, hT4, hs4⟩) | (rw [hif, if_neg (by omega), if_neg (by rw [(by assumption : p0 = false)]; decide)]; exact ⟨_, rfl, _, rfl, hT4, hs4⟩) | (rw [evE_lit (by omega)]; exact ⟨_, rfl, _, rfl, hT4, hs4⟩) | (rw [evE_var (by omega) hfx]; exact ⟨_, rfl, _, rfl, hT8, hs8⟩) | (have hf0 : findB vs eh.nm = none := (by rcases hix with ⟨j, x, h9, -⟩ | ⟨h9, -⟩; omega; exact h9); rw [evE_var0 (by omega) hf0]; exact ans_no _ _) | (exact ⟨_, rfl, _, rfl, hT4, hs4⟩) | trace_state)) : p := h
theorem zzEvK1 {p : Prop} (h : p := by (apply Exists.intro; apply And.intro; rotate_left 1; (refine S.keep ?_; exact zk); (rw [Bool.eq_iff_iff, beq_iff_eq, decide_eq_true_eq]; omega))) : p := h
theorem evCt : ∀ n, EvC n := by
  intro n
  induction n with
  | zero => intro F bm cs vs h L xs hn; omega
  | succ n hE =>
  intro F bm cs vs eh L xs hn hM hX hg hf
  have hff : eh.k ≠ 1 → eh.k ≠ 2 → formK eh L.len = true ∧ formEL L = true := fun h1 h2 => by
    unfold formE at hf
    rw [if_neg h1, if_neg h2, Bool.and_eq_true] at hf
    exact hf
  have hkk : eh.k ≠ 1 → eh.k ≠ 2 → eh.k = 4 ∨ eh.k = 5 ∨ eh.k = 7 ∨ eh.k = 8 ∨ eh.k = 6 := fun h1 h2 => by
    have h3 := (hff h1 h2).1
    unfold formK at h3
    by_cases k4 : eh.k = 4
    · exact .inl k4
    by_cases k5 : eh.k = 5
    · exact .inr (.inl k5)
    by_cases k7 : eh.k = 7
    · exact .inr (.inr (.inl k7))
    by_cases k8 : eh.k = 8
    · exact .inr (.inr (.inr (.inl k8)))
    by_cases k6 : eh.k = 6
    · exact .inr (.inr (.inr (.inr k6)))
    · rw [if_neg k4, if_neg k5, if_neg k7, if_neg k8, if_neg k6] at h3
      cases h3
  have hXc := hX
  obtain ⟨a1, n1, c1, ao, cap, rfl, hvl, hL⟩ := exc_slc hX
  have hMc := hM
  obtain ⟨⟨tv, aov, capv, bt, es, hm0, hm1, hm2, hvs, hes, hops, hK⟩, hT, hEr, hGB⟩ := hM
  have hLc := hL
  obtain ⟨_, _, e9, hcap, hpos⟩ := hLc
  cases e9
  have hg1 := hg.2.1.1
  have hsv := hg.1.1.2
  have hzv : eh.vl.size ≤ 5000 := hg.1.2.2
  dsimp only at hsv
  refine Ct.enter Tryz.func34 rfl Tryz.ntmps34 rfl fun w0 a S => ?_
  refine wp_sr fun Z hZ => ?_
  (refine wbx S ?_; clear S a; intro b3 a w S)
  (refine wpl_alloc S rfl rfl rfl rfl ?_; clear S a; intro b4 a w S)
  (revert S a; revert hZ Z; refine go 15 ?_; intro Z hZ a S)
  refine wpc_sp S rfl ?_ ?_ <;> intro h
  · (revert S a; refine go 3 ?_; intro Z hZ a S)
    (refine wcF S (ownVCt eh.vl.size F eh.v eh.vl [.int .u8 (eh.v.k : Int), .int .i64 eh.v.n, .string (bs eh.v.s), .slice a1 n1 c1] (Nat.le_refl _) (by omega) ⟨_, rfl, hvl, by omega⟩) ?_; clear S a; intro u9 F4 a w hv hF4 S; obtain ⟨cs4, rfl, hV4⟩ := hv; obtain ⟨a4, c4, rfl, hT4, hs4⟩ := vac_slc hV4)
    (refine wso S rfl rfl ?_; clear S; intro w S)
    (revert S a; revert hZ Z; refine go 3 ?_; intro a S)
    refine wp_ret (fin_ret S (results2 Tryz.results34 (RV.cellO S rfl (by rfl)) (RV.tmp S rfl)) ?_)
    exact zzEvK0
  (revert S a; refine go 5 ?_; intro a S)
  refine wpc_sp S rfl ?_ ?_ <;> intro h
  · (revert S a; refine go 4 ?_; intro Z hZ a S)
    (refine wv S (sv_loadF S rfl rfl hm1) ?_; clear S a; intro a S)
    (revert S a; refine go 1 ?_; intro a S)
    (replace S := St.pullB b3 S; have S' := frz1 S; clear S; obtain ⟨F6, hle6, hb3, S⟩ := S'; have hb3n : Cel F6 b3 (0 + 3) (.string (bs eh.nm)) := ⟨_, _, _, hb3, rfl⟩; replace hvs := hvs.mono hle6; refine wc0 S (ixBCt F6 _ _ _ hvs.sq 82 [] [ptr b3] (atN vs fun x => decide (x.1 = eh.nm)) (fun k cs hk hC => by obtain ⟨f, hf1, hf2⟩ := hC; rw [atN_some hf1]; exact ev1Ct F6 eh.nm b3 hb3n f cs hf2)) ?_; clear S a; intro v a w hv S; subst hv)
    (have hix := find_at vs (fun x => decide (x.1 = eh.nm)); generalize idxN (atN vs fun x => decide (x.1 = eh.nm)) vs.length = ix at S hix)
    (revert S a; revert hZ Z; refine go 9 ?_; intro Z hZ a S)
    refine wpc_sp S rfl ?_ ?_ <;> intro h
    · (revert S a; refine go 2 ?_; intro Z hZ a S)
      (refine wso S rfl rfl ?_; clear S; intro w S)
      (revert S a; revert hZ Z; refine go 3 ?_; intro a S)
      refine wp_ret (fin_ret S (results2 Tryz.results34 (RV.cellO S rfl (by rfl)) (RV.tmp S rfl)) ?_)
      exact zzEvK0
    refine wp_skip ?_
    (refine hZ _ _ ?_; clear hZ Z)
    (refine wp_seq_k ?_; intro Z hZ)
    (have hixs : ∃ (j : Nat) (x : Bd), ix = (j : Int) ∧ j < vs.length ∧ vs[j]? = some x ∧ findB vs eh.nm = some x := (by rcases hix with h9 | ⟨-, h9⟩; exact h9; omega); obtain ⟨j, x, rfl, hj2, hjx, hfx⟩ := hixs; have hvc := hvs; obtain ⟨_, _, e7, hcap7, hpos7⟩ := hvc; cases e7; obtain ⟨b70, o70, rfl, z, cs7, hz, hc7, c7, rfl, hV7⟩ := LiM.pos hpos7 (k := j) (by omega); rw [hjx] at hz; cases hz; have hc8 := hc7.drop 1; have gx := hGB x (List.mem_of_getElem? hjx); obtain ⟨a4, c4, rfl, hT4, hs4⟩ := vac_slc hV7)
    (revert S a; refine go 4 ?_; intro a S)
    (refine wv S (sv_loadF S rfl rfl (hm1.mono hle6)) ?_; clear S a; intro a S)
    (revert S a; refine go 3 ?_; intro a S)
    (refine wv S (sv_loadAF S rfl rfl hc8 rfl) ?_; clear S a; intro a S)
    (refine wcF S (ownVCt x.2.2.size F6 x.2.1 x.2.2 _ (Nat.le_refl _) (Nat.le_trans gx.2.2 (by decide)) hV7) ?_; clear S a; intro u9 F7 a w hv hF7 S; obtain ⟨cs7, rfl, hV8⟩ := hv; obtain ⟨a8, c8, rfl, hT8, hs8⟩ := vac_slc hV8)
    (refine wso S rfl rfl ?_; clear S; intro w S)
    (revert S a; revert hZ Z; refine go 3 ?_; intro a S)
    refine wp_ret (fin_ret S (results2 Tryz.results34 (RV.cellO S rfl (by rfl)) (RV.tmp S rfl)) ?_)
    exact zzEvK0
  (refine wp_seq_k ?_; intro Z hZ)
  replace hZ : ∀ (a' : Act) (w' : World), (∃ t : Bool, t = decide (eh.k = 4 ∨ eh.k = 5) ∧ St 90 [(0, ptr bm), (3, ptr b3), (4, ptr b4), (5, .int .i64 0), (10, .int .u8 (eh.k : Int)), (36, .bool t)] w0 F [] F [[(b4, .cells ⟨[.int .u8 0, .int .i64 0, .string (bs []), .slice none 0 0]⟩ 33 (0, 0))], [(b3, .cells ⟨[.int .u8 (eh.k : Int), .int .i64 eh.l, .int .i64 eh.c, .string (bs eh.nm), .int .u8 (eh.v.k : Int), .int .i64 eh.v.n, .string (bs eh.v.s), .slice a1 n1 c1, .slice ao L.len cap]⟩ 36 (0, 0))]] a' w') → Z a' w' := (by
   (intro a w hM; refine hZ _ _ ?_; clear hZ Z; clear S; obtain ⟨t, rfl, S⟩ := hM)
   refine wpc_sp S rfl ?_ ?_ <;> intro h
   · (revert S a; refine go 3 ?_; intro Z hZ a S)
     (refine wcF S (wholeCt hE F bm cs vs eh L _ (by omega) hMc hXc hg (hff (by omega) (by omega)).2 (by omega)) ?_; clear S a; intro u9 F4 a w hv hF4 S; obtain ⟨cs4, rfl, hV4⟩ := hv; obtain ⟨a4, c4, rfl, hT4, hs4⟩ := vac_slc hV4)
     (revert S a; refine go 2 ?_; intro a S)
     (refine wso S rfl rfl ?_; clear S; intro w S)
     (revert S a; revert hZ Z; refine go 3 ?_; intro a S)
     refine wp_ret (fin_ret S (results2 Tryz.results34 (RV.cellO S rfl (by rfl)) (RV.tmp S rfl)) ?_)
     exact zzEvK0
   (revert S a; refine go 5 ?_; intro a S)
   refine wpc_sp S rfl ?_ ?_ <;> intro h
   · (revert S a; refine go 3 ?_; intro Z hZ a S)
     (refine wcF S (fieldCt hE F bm cs vs eh L _ (by omega) hMc hXc hg (hff (by omega) (by omega)).2 (by omega) (by have h9 := (hff (by omega) (by omega)).1; unfold formK at h9; rw [if_neg (by omega), if_neg (by omega), if_pos (by omega)] at h9; exact of_decide_eq_true h9)) ?_; clear S a; intro u9 F4 a w hv hF4 S; obtain ⟨cs4, rfl, hV4⟩ := hv; obtain ⟨a4, c4, rfl, hT4, hs4⟩ := vac_slc hV4)
     (revert S a; refine go 2 ?_; intro a S)
     (refine wso S rfl rfl ?_; clear S; intro w S)
     (revert S a; revert hZ Z; refine go 3 ?_; intro a S)
     refine wp_ret (fin_ret S (results2 Tryz.results34 (RV.cellO S rfl (by rfl)) (RV.tmp S rfl)) ?_)
     exact zzEvK0
   (revert S a; refine go 5 ?_; intro a S)
   refine wpc_sp S rfl ?_ ?_ <;> intro h
   · (refine wp_seq_k ?_; intro Z hZ)
     (have hk8 : eh.k = 8 := (by omega); have hl3 : L.len = 3 := (by have h9 := (hff (by omega) (by omega)).1; unfold formK at h9; rw [if_neg (by omega), if_neg (by omega), if_neg (by omega), if_pos hk8] at h9; exact of_decide_eq_true h9); have hfl := (hff (by omega) (by omega)).2; obtain ⟨b80, o80, rfl, x, cs1, v1, hx, hc1, hR1, hT1⟩ := TrM.pos hpos (k := 0) (by omega); have hxs := Rose.size_get hx; have hX1 := exc_of hR1 hT1; obtain ⟨b81, o81, e81, y, cs2, v2, hy, hc2, hR2, hT2⟩ := TrM.pos hpos (k := 1) (by omega); cases e81; have hys := Rose.size_get hy; have hX2 := exc_of hR2 hT2; obtain ⟨b82, o82, e82, z, cs3, v3, hz, hc3, hR3, hT3⟩ := TrM.pos hpos (k := 2) (by omega); cases e82; have hzs := Rose.size_get hz; have hX3 := exc_of hR3 hT3; have hcx := mtruthCt hE F bm cs vs x.1 x.2 _ (by omega) hMc hX1 (GEl.get hg.2.2 hx) (formEL_get hfl hx); have hcy := fun F' hF => hE F' bm cs vs y.1 y.2 _ (by omega) (hMc.mono hF) (hX2.mono hF) (GEl.get hg.2.2 hy) (formEL_get hfl hy); have hcz := fun F' hF => hE F' bm cs vs z.1 z.2 _ (by omega) (hMc.mono hF) (hX3.mono hF) (GEl.get hg.2.2 hz) (formEL_get hfl hz); obtain ⟨a5, n5, c5, ao5, cap5, he5, -, -⟩ := exc_slc hX1; obtain ⟨a6, n6, c6, ao6, cap6, he6, -, -⟩ := exc_slc hX2; obtain ⟨a7, n7, c7, ao7, cap7, he7, -, -⟩ := exc_slc hX3; rw [he5] at hc1 hcx; rw [he6] at hc2 hcy; rw [he7] at hc3 hcz; have hif := evE_if (cs := cs) (vs := vs) hk8 hx hy hz; generalize truthO (evE cs vs x.1 x.2) = T0 at hcx hif; obtain ⟨p0, e0⟩ := T0; dsimp only at hcx hif)
     (revert S a; refine go 6 ?_; intro a S)
     (refine wcF S hcx ?_; clear S a; intro u8 F5 a w hv hF5 S; subst hv)
     (revert S a; revert hZ Z; refine go 15 ?_; intro Z hZ a S)
     refine wpc_sp S rfl ?_ ?_ <;> intro h
     · (revert S a; refine go 3 ?_; intro Z hZ a S)
       (refine wso S rfl rfl ?_; clear S; intro w S)
       (revert S a; revert hZ Z; refine go 3 ?_; intro a S)
       refine wp_ret (fin_ret S (results2 Tryz.results34 (RV.cellO S rfl (by rfl)) (RV.tmp S rfl)) ?_)
       exact zzEvK0
     (revert S a; refine go 5 ?_; intro a S)
     refine wpc_sp S rfl ?_ ?_ <;> intro h
     · (revert S a; refine go 5 ?_; intro Z hZ a S)
       (refine wv S (sv_loadAF S rfl rfl (Cels.mono hF5 hc2) rfl) ?_; clear S a; intro a S)
       (refine wcF S (hcy F5 hF5) ?_; clear S a; intro u9 F4 a w hv hF4 S; obtain ⟨cs4, rfl, hV4⟩ := hv; obtain ⟨a4, c4, rfl, hT4, hs4⟩ := vac_slc hV4)
       (revert S a; refine go 2 ?_; intro a S)
       (refine wso S rfl rfl ?_; clear S; intro w S)
       (revert S a; revert hZ Z; refine go 3 ?_; intro a S)
       refine wp_ret (fin_ret S (results2 Tryz.results34 (RV.cellO S rfl (by rfl)) (RV.tmp S rfl)) ?_)
       exact zzEvK0
     (revert S a; revert hZ Z; refine go 7 ?_; intro Z hZ a S)
     (refine wv S (sv_loadAF S rfl rfl (Cels.mono hF5 hc3) rfl) ?_; clear S a; intro a S)
     (refine wcF S (hcz F5 hF5) ?_; clear S a; intro u9 F4 a w hv hF4 S; obtain ⟨cs4, rfl, hV4⟩ := hv; obtain ⟨a4, c4, rfl, hT4, hs4⟩ := vac_slc hV4)
     (revert S a; refine go 2 ?_; intro a S)
     (refine wso S rfl rfl ?_; clear S; intro w S)
     (revert S a; revert hZ Z; refine go 3 ?_; intro a S)
     refine wp_ret (fin_ret S (results2 Tryz.results34 (RV.cellO S rfl (by rfl)) (RV.tmp S rfl)) ?_)
     exact zzEvK0
   (revert S a; revert hZ Z; refine go 5 ?_; intro Z hZ a S)
   (refine wcF S (callCt hE F bm cs vs eh L _ (by omega) hMc hXc hg (hff (by omega) (by omega)).2 (by have h9 := hkk (by omega) (by omega); omega) (hff (by omega) (by omega)).1) ?_; clear S a; intro u9 F4 a w hv hF4 S; obtain ⟨cs4, rfl, hV4⟩ := hv; obtain ⟨a4, c4, rfl, hT4, hs4⟩ := vac_slc hV4)
   (revert S a; refine go 2 ?_; intro a S)
   (refine wso S rfl rfl ?_; clear S; intro w S)
   (revert S a; revert hZ Z; refine go 3 ?_; intro a S)
   refine wp_ret (fin_ret S (results2 Tryz.results34 (RV.cellO S rfl (by rfl)) (RV.tmp S rfl)) ?_)
   (first | (rw [hif, if_pos (by assumption)]; exact ans_no _ _) | (rw [hif, if_neg (by omega), if_pos (by assumption)]; exact ⟨_, rfl, _, rfl, hT4, hs4⟩) | (rw [hif, if_neg (by omega), if_neg (by rw [(by assumption : p0 = false)]; decide)]; exact ⟨_, rfl, _, rfl, hT4, hs4⟩) | (rw [evE_lit (by omega)]; exact ⟨_, rfl, _, rfl, hT4, hs4⟩) | (rw [evE_var (by omega) hfx]; exact ⟨_, rfl, _, rfl, hT8, hs8⟩) | (have hf0 : findB vs eh.nm = none := (by rcases hix with ⟨j, x, h9, -⟩ | ⟨h9, -⟩; omega; exact h9); rw [evE_var0 (by omega) hf0]; exact ans_no _ _) | (exact ⟨_, rfl, _, rfl, hT4, hs4⟩) | trace_state))
  (revert S a; refine go 5 ?_; intro a S)
  refine wpc_sp S rfl ?_ ?_ <;> intro h
  · refine wp_skip ?_
    (refine hZ _ _ ?_)
    exact zzEvK1
  (revert S a; refine go 4 ?_; intro a S)
  (refine hZ _ _ ?_)
  exact zzEvK1
theorem zzIx0 {p : Prop} (h : p := by (rw [hfp]; first | (rw [idxF_at (by omega), if_pos (by assumption)]; done) | (rw [idxF_end (by omega)]; done) | trace_state)) : p := h
theorem ixECt (F : Heap) (v : Value) (n : Nat) (C : Nat → List Value → Prop) (h : Sq F 9 v n C) (fid : FuncId) (fi ca : List Value) [hfn : HasFn Tryz.prog fid] (p : Nat → Bool)
  (hcl : ∀ k cs, k < n → C k cs → Ct Tryz.prog fid (fi ++ [.agg ⟨cs⟩] ++ ca) F [] (fun _ _ u => u = .bool (p k))) :
  Ct Tryz.prog 121 [v, .func (.func fid) ⟨fi⟩ ⟨ca⟩] F [] (fun _ _ u => u = .int .i64 (idxN p n)) := by
 obtain ⟨ao, cap, rfl, hcap, hpos⟩ := h
 refine Ct.enter Tryz.func121 rfl Tryz.ntmps121 rfl fun w0 a S => ?_
 (revert S a; refine go 12 ?_; intro Z hZ a S)
 refine wpc_loop (fun m a w' => ∃ (k : Nat), m = n - k ∧ k ≤ n ∧ idxN p n = idxF p k (n - k) ∧ St 19 [(0, .slice ao n cap), (1, .func (.func fid) ⟨fi⟩ ⟨ca⟩), (7, .int .i64 n), (8, .int .i64 k)] w0 F [] F [] a w') ?_ ?_
 ·(refine ⟨n, 0, by omega, Nat.zero_le _, rfl, ?_⟩; refine S.keep ?_; exact zk)
 (clear S; rintro m a w ⟨k, rfl, hkl, hfp, S⟩)
 (revert S a; refine go 5 ?_; intro Z hZ a S)
 refine wpc_sp S rfl ?_ ?_ <;> intro h
 ·(revert S a; revert hZ Z; refine go 9 ?_; intro Z hZ a S)
  (refine wp_seq_k ?_; intro Z hZ)
  (obtain ⟨b8, o8, rfl, cs1, hc1, hl1, hC⟩ := Sq.pos hpos (k := k) (by omega))
  (revert S a; refine go 5 ?_; intro a S)
  (refine wv S (sv_loadAF S rfl rfl hc1 hl1) ?_; clear S a; intro a S)
  (refine wc0 S (hcl k _ (by omega) hC) ?_; clear S a; intro v a w hv S; subst hv)
  (revert S a; revert hZ Z; refine go 2 ?_; intro a S)
  refine wpc_sp S rfl ?_ ?_ <;> intro h
  ·(revert S a; refine go 5 ?_; intro a S)
   refine wp_ret (fr1 S Tryz.results121 ?_)
   exact zzIx0
  (revert S a; revert hZ Z; refine go 6 ?_; intro a S)
  change ∃ m', _ ∧ _
  (refine ⟨n - (k + 1), by omega, k + 1, rfl, by omega, ?_, ?_⟩; rotate_left 1; (refine S.keep ?_; exact zk); rw [hfp, idxF_at (by omega), if_neg (by rw [(by assumption : p k = false)]; decide)])
 (refine wp_exit ?_; conv => whnf)
 clear hZ Z
 (revert S a; revert hZ Z; refine go 5 ?_; intro a S)
 refine wp_ret (fr1 S Tryz.results121 ?_)
 exact zzIx0
theorem cfECt (F : Heap) (v : Value) (n : Nat) (C : Nat → List Value → Prop) (h : Sq F 9 v n C) (fid : FuncId) (fi ca : List Value) [hfn : HasFn Tryz.prog fid] (p : Nat → Bool)
  (hcl : ∀ k cs, k < n → C k cs → Ct Tryz.prog fid (fi ++ [.agg ⟨cs⟩] ++ ca) F [] (fun _ _ u => u = .bool (p k))) :
  Ct Tryz.prog 75 [v, .func (.func fid) ⟨fi⟩ ⟨ca⟩] F [] (fun _ _ u => u = .bool (anyN p n)) := by
 have hc := ixECt F v n C h fid fi ca p hcl
 obtain ⟨ao, cap, rfl, hcap, hpos⟩ := h
 refine Ct.enter Tryz.func75 rfl Tryz.ntmps75 rfl fun w0 a S => ?_
 (revert S a; refine go 7 ?_; intro Z hZ a S)
 (refine wc0 S (hc) ?_; clear S a; intro v a w hv S; subst hv)
 (revert S a; revert hZ Z; refine go 4 ?_; intro a S)
 refine wp_ret (fr1 S Tryz.results75 ?_)
 rfl
end Go.Proofs.YtgefmjghdijbfaaGreatDoor
