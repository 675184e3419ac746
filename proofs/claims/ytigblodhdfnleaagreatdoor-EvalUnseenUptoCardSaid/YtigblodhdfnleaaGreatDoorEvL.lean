/- Walks: the machine's call. Walks: the machine's eval. Walks: deep, form: which expressions may be. -/
import Derived.Test.YtigblodhdfnleaaGreatDoorEvI
namespace Go.Proofs.YtigblodhdfnleaaGreatDoor
open Go Go.Wk Go.Un Go.De Go.Num
set_option linter.unusedSimpArgs false
set_option linter.unusedVariables false
attribute [local irreducible] Go.wpList Go.Code.wp Go.wpStill Go.Wk.wpPre Go.bodyPost Go.Calls Go.Wk.Ct Go.Wk.OwnS
attribute [local irreducible] Go.Wk.wpG Go.Wk.wpM

theorem listO_full : ∀ {l : List Ans}, ¬ (listO l).1 ≠ 0 → (listO l).2.length = l.length
  | [], _ => rfl
  | x :: r, h => by
    unfold listO at h ⊢
    split
    · rename_i h1
      rw [if_pos h1] at h
      exact absurd h1 h
    · rename_i h1
      rw [if_neg h1] at h
      split
      · rename_i h2
        rw [if_pos h2] at h
        exact absurd h2 h
      · rename_i h2
        simp only [List.length_cons, listO_full h2]
theorem kOr_yes {p q : Prop} [Decidable p] [Decidable q] (h : p) : true = decide (p ∨ q) := (decide_eq_true (.inl h)).symm
theorem kOr_no {p : Prop} [Decidable p] {a b : List UInt8} (h : ¬ p) : (a == b) = decide (p ∨ a = b) := by
  rw [beqL]
  by_cases h2 : a = b <;> simp [h, h2]
theorem kAt_yes {e : Int} {p : Bool} {a b : List UInt8} (h : e = 0) : (p == (a == b)) = decide (e = 0 ∧ p = decide (a = b)) := by
  rw [beqL]
  by_cases h2 : a = b <;> cases p <;> simp [h, h2]
theorem kAt_no {e : Int} {q : Prop} [Decidable q] (h : ¬ e = 0) : false = decide (e = 0 ∧ q) := (decide_eq_false fun e => h e.1).symm
theorem call_and {nm : List UInt8} {A : List Ans} (h : nm = sAnd ∨ nm = sOr) : callO nm A = if (truthO (nthA A 0)).2 = 0 ∧ (truthO (nthA A 0)).1 = decide (nm = sAnd) then (if (truthO (nthA A 1)).2 ≠ 0 then noA (truthO (nthA A 1)).2 else yesA (boolV (truthO (nthA A 1)).1)) else if (truthO (nthA A 0)).2 ≠ 0 then noA (truthO (nthA A 0)).2 else yesA (boolV (truthO (nthA A 0)).1) := by
  unfold callO
  rw [if_pos h]
theorem call_no {nm : List UInt8} {A : List Ans} (h : ¬ (nm = sAnd ∨ nm = sOr)) (h1 : (listO A).1 ≠ 0) : callO nm A = noA (listO A).1 := by
  unfold callO
  rw [if_neg h, if_pos h1]
theorem call_one {nm : List UInt8} {A : List Ans} {x : Vv} (h : ¬ (nm = sAnd ∨ nm = sOr)) (h1 : ¬ (listO A).1 ≠ 0) (hx : (listO A).2 = [x]) : callO nm A = op1 nm x := by
  unfold callO
  rw [if_neg h, if_neg h1, hx]
theorem call_two {nm : List UInt8} {A : List Ans} {x y : Vv} {f : Vv → Vv → Ans} (h : ¬ (nm = sAnd ∨ nm = sOr)) (h1 : ¬ (listO A).1 ≠ 0) (hx : (listO A).2 = [x, y]) (hf : op2 nm = some f) : callO nm A = f x y := by
  unfold callO
  rw [if_neg h, if_neg h1, hx]
  dsimp only
  rw [hf]
theorem len_two {l : List Vv} (h : l.length = 2) : ∃ x y, l = [x, y] := by
  match l, h with
  | [x, y], _ => exact ⟨x, y, rfl⟩
/-- What the form of a call says. -/
theorem form_call {h : EH} {n : Nat} (hk : h.k = 6) (hf : formK h n = true) : ((h.nm = sAnd ∨ h.nm = sOr) ∧ n = 2) ∨ (¬ (h.nm = sAnd ∨ h.nm = sOr) ∧ ((n = 1) ∨ (n = 2 ∧ ∃ f, op2 h.nm = some f))) := by
  unfold formK at hf
  rw [if_neg (by omega), if_neg (by omega), if_neg (by omega), if_neg (by omega), if_pos hk] at hf
  simp only [Bool.or_eq_true, Bool.and_eq_true, decide_eq_true_eq] at hf
  by_cases ha : h.nm = sAnd ∨ h.nm = sOr
  · left
    refine ⟨ha, ?_⟩
    rcases hf with h1 | h1
    · exact h1.2
    · exfalso
      rcases ha with e | e <;> (rw [e] at h1; exact absurd h1.2 (by decide))
  · right
    refine ⟨ha, ?_⟩
    rcases hf with h1 | h1
    · right
      refine ⟨h1.2, ?_⟩
      rcases h1.1 with (h2 | h2) | h2
      · exact o_some h2
      · exact absurd (.inl h2) ha
      · exact absurd (.inr h2) ha
    · exact .inl h1.1
theorem zzEvJ0 {p : Prop} (h : p := by (first | ((conv => arg 3; rw [hcr, if_pos (by assumption)]); exact ans_no _ _) | ((conv => arg 3; rw [hcr, if_neg (by omega)]); exact ⟨_, rfl, vac_z _ (k := 1) (s := []) (by decide)⟩) | (rw [hpn (by assumption)]; exact ans_no _ _) | (rw [hp1 x (by omega) hbx]; exact ⟨_, rfl, _, rfl, hT8, hs8⟩) | (rw [hp2 x y f (by omega) hbx hf2]; exact ⟨_, rfl, _, rfl, hT8, hs8⟩) | trace_state)) : p := h
theorem zzEvJ1 {p : Prop} (h : p := by (apply Exists.intro; apply And.intro; rotate_left 1; (refine S.keep ?_; repeat (first | exact trivial | refine ⟨rfl, ?_⟩)); first | exact kAt_yes (by assumption) | exact kAt_no (by assumption))) : p := h
theorem zzEvJ2 {p : Prop} (h : p := by (apply Exists.intro; apply And.intro; rotate_left 1; (refine S.keep ?_; repeat (first | exact trivial | refine ⟨rfl, ?_⟩)); first | exact kOr_yes (by assumption) | exact kOr_no (by assumption))) : p := h
set_option maxRecDepth 20000 in
set_option maxHeartbeats 32000000 in
theorem callCt {n : Nat} (hE : EvC n) (F : Heap) (bm : Nat) (cs : List KC) (vs : List Bd) (eh : EH) (L : Ef) (xs : List Value) (hn : L.size ≤ n) (hM : Mac F bm cs vs) (hX : ExC F xs eh L) (hg : GE eh L) (hf : formEL L = true) (hk : eh.k = 6) (hfk : formK eh L.len = true) :
    Ct Tryz.prog 64 [ptr bm, .agg ⟨xs⟩] F [] (fun F' _ u => AnsR F' u (evE cs vs eh L)) := by
  have hfc := form_call hk hfk
  obtain ⟨a1, n1, c1, ao, cap, rfl, -, hL⟩ := exc_slc hX
  have hMc := hM
  obtain ⟨⟨tv, aov, capv, bt, es, hm0, hm1, hm2, hvs, hes, hops, hK⟩, hT, hEr, hGB⟩ := hM
  have hgl := listO_GV (evL_GV (cs := cs) hGB hg.2.2)
  have hlf := listO_full (l := evL cs vs L)
  rw [evL_len] at hlf
  have hLc := hL
  obtain ⟨_, _, e9, hcap, hpos⟩ := hLc
  cases e9
  have hg1 := hg.2.1.1
  rw [evE_call hk]
  refine Ct.enter Tryz.func64 rfl Tryz.ntmps64 rfl fun w0 a S => ?_
  refine wp_sr fun Z hZ => ?_
  (refine wpl_box S rfl rfl rfl rfl rfl ?_; clear S a; intro b3 a w S)
  (refine wpl_alloc S rfl rfl rfl rfl ?_; clear S a; intro b4 a w S)
  (revert S a; revert hZ Z; refine go11 4 ?_; intro Z hZ a S)
  (refine wp_seq_k ?_; intro Z hZ)
  replace hZ : ∀ (a' : Act) (w' : World), (∃ t : Bool, t = decide (eh.nm = sAnd ∨ eh.nm = sOr) ∧ St 91 [(0, ptr bm), (3, ptr b3), (4, ptr b4), (5, .int .i64 0), (17, .bool t)] w0 F [] F [[(b4, .cells ⟨[.int .u8 0, .int .i64 0, .string (bs []), .slice none 0 0]⟩ 26 (0, 0))], [(b3, .cells ⟨[.int .u8 (eh.k : Int), .int .i64 eh.l, .int .i64 eh.c, .string (bs eh.nm), .int .u8 (eh.v.k : Int), .int .i64 eh.v.n, .string (bs eh.v.s), .slice a1 n1 c1, .slice ao L.len cap]⟩ 34 (0, 0))]] a' w') → Z a' w' := (by
   (intro a w hM; refine hZ _ _ ?_; clear hZ Z; clear S; obtain ⟨t, rfl, S⟩ := hM)
   refine wpc_split S rfl (fun h => ?_) (fun h => ?_)
   · (skip; (try simp only [tq] at h))
     (refine wp_seq_k ?_; intro Z hZ)
     (have hl2 : L.len = 2 := (by rcases hfc with h9 | h9; exact h9.2; exact absurd (by assumption) h9.1); obtain ⟨b80, o80, rfl, x, cs1, v1, hx, hc1, hR1, hT1⟩ := TrM.pos hpos (k := 0) (by omega); have hxs := Rose.size_get hx; have hX1 := exc_of hR1 hT1; obtain ⟨b81, o81, e81, y, cs2, v2, hy, hc2, hR2, hT2⟩ := TrM.pos hpos (k := 1) (by omega); cases e81; have hys := Rose.size_get hy; have hX2 := exc_of hR2 hT2; have hcx := mtruthCt hE F bm cs vs x.1 x.2 _ (by omega) hMc hX1 (GEl.get hg.2.2 hx) (formEL_get hf hx); have hcy := fun F' hF => mtruthCt hE F' bm cs vs y.1 y.2 _ (by omega) (hMc.mono hF) (hX2.mono hF) (GEl.get hg.2.2 hy) (formEL_get hf hy); obtain ⟨a5, n5, c5, ao5, cap5, he5, -, -⟩ := exc_slc hX1; obtain ⟨a6, n6, c6, ao6, cap6, he6, -, -⟩ := exc_slc hX2; rw [he5] at hc1 hcx; rw [he6] at hc2 hcy; have hca := call_and (A := evL cs vs L) (by assumption : eh.nm = sAnd ∨ eh.nm = sOr); rw [evL_at hx, evL_at hy] at hca; generalize truthO (evE cs vs x.1 x.2) = T0 at hcx hca; generalize truthO (evE cs vs y.1 y.2) = T1 at hcy hca; obtain ⟨p0, e0⟩ := T0; obtain ⟨p1, e1⟩ := T1; dsimp only at hcx hcy hca)
     (revert S a; refine go00 6 ?_; intro a S)
     (refine wpl_callF S rfl rfl rfl rfl rfl rfl hcx rfl ?_; clear S a; intro u9 F4 a w hv hF4 S; subst hv)
     (revert S a; revert hZ Z; refine go10 7 ?_; intro a S)
     (refine wp_seq_k ?_; intro Z hZ)
     replace hZ : ∀ (a' : Act) (w' : World), (∃ (r : Bool) (e3 : Int) (F6 : Heap), callO eh.nm (evL cs vs L) = (if e3 ≠ 0 then noA e3 else yesA (boolV r)) ∧ St 91 [(4, ptr b4), (5, .int .i64 0), (6, .bool r), (7, .int .i64 e3)] w0 F [] F6 [[(b4, .cells ⟨[.int .u8 0, .int .i64 0, .string (bs []), .slice none 0 0]⟩ 26 (0, 0))]] a' w') → Z a' w' := (by
      (intro a w hM; refine hZ _ _ ?_; clear hZ Z; clear S; obtain ⟨r, e3, F6, hcr, S⟩ := hM)
      (revert S a; refine go01 6 ?_; intro Z hZ a S)
      refine wpc_split S rfl (fun h => ?_) (fun h => ?_)
      · (skip; (try simp only [tq] at h))
        (revert S a; refine go01 3 ?_; intro Z hZ a S)
        (refine wpl_storeO S rfl rfl rfl rfl rfl (by rfl) (by simp [Value.cells, Value.oneCell', splice]) (by rfl) ?_; clear S; intro w S)
        (revert S a; revert hZ Z; refine go10 3 ?_; intro a S)
        refine wp_ret (fin_ret S (results2 Tryz.results64 (RV.cellO S rfl (by rfl)) (RV.tmp S rfl)) ?_)
        exact zzEvJ0
      (skip; (try simp only [tq] at h))
      (revert S a; revert hZ Z; refine go11 4 ?_; intro Z hZ a S)
      (refine wpl_call0 S rfl rfl rfl rfl rfl rfl (eTruthCt F6 _) rfl ?_; clear S a; intro v a w hv S; subst hv)
      (refine wpl_storeO S rfl rfl rfl rfl rfl (by rfl) (by simp [Value.cells, Value.oneCell', splice]) (by rfl) ?_; clear S; intro w S)
      (revert S a; revert hZ Z; refine go10 3 ?_; intro a S)
      refine wp_ret (fin_ret S (results2 Tryz.results64 (RV.cellO S rfl (by rfl)) (RV.tmp S rfl)) ?_)
      (first | ((conv => arg 3; rw [hcr, if_pos (by assumption)]); exact ans_no _ _) | ((conv => arg 3; rw [hcr, if_neg (by omega)]); exact ⟨_, rfl, vac_z _ (k := 1) (s := []) (by decide)⟩) | (rw [hpn (by assumption)]; exact ans_no _ _) | (rw [hp1 x (by omega) hbx]; exact ⟨_, rfl, _, rfl, hT8, hs8⟩) | (rw [hp2 x y f (by omega) hbx hf2]; exact ⟨_, rfl, _, rfl, hT8, hs8⟩) | trace_state))
     (refine wp_seq_k ?_; intro Z hZ)
     replace hZ : ∀ (a' : Act) (w' : World), (∃ t : Bool, t = decide (e0 = 0 ∧ p0 = decide (eh.nm = sAnd)) ∧ St 91 [(0, ptr bm), (3, ptr b3), (4, ptr b4), (5, .int .i64 0), (6, .bool p0), (7, .int .i64 e0), (35, .bool t)] w0 F [] F4 [[(b4, .cells ⟨[.int .u8 0, .int .i64 0, .string (bs []), .slice none 0 0]⟩ 26 (0, 0))], [(b3, .cells ⟨[.int .u8 (eh.k : Int), .int .i64 eh.l, .int .i64 eh.c, .string (bs eh.nm), .int .u8 (eh.v.k : Int), .int .i64 eh.v.n, .string (bs eh.v.s), .slice a1 n1 c1, .slice (some ⟨b80, o80, none⟩) L.len cap]⟩ 34 (0, 0))]] a' w') → Z a' w' := (by
      (intro a w hM; refine hZ _ _ ?_; clear hZ Z; clear S; obtain ⟨t, rfl, S⟩ := hM)
      refine wpc_split S rfl (fun h => ?_) (fun h => ?_)
      · (skip; (try simp only [tq] at h))
        (revert S a; refine go00 5 ?_; intro a S)
        (refine wpl_v S rfl rfl rfl (sv_loadAF S rfl rfl (Cels.mono hF4 hc2) rfl) ?_; clear S a; intro a S)
        (refine wpl_callF S rfl rfl rfl rfl rfl rfl (hcy F4 hF4) rfl ?_; clear S a; intro u8 F5 a w hv hF5 S; subst hv)
        (revert S a; refine go00 6 ?_; intro a S)
        (refine hZ _ _ ?_)
        (replace S := St.pullB b3 S; replace S := S.drop1; first | (refine ⟨p1, e1, F5, by rw [hca, if_pos (by assumption)], ?_⟩; refine S.keep ?_; repeat (first | exact trivial | refine ⟨rfl, ?_⟩)) | (refine ⟨p0, e0, F4, by rw [hca, if_neg (by assumption)], ?_⟩; refine S.keep ?_; repeat (first | exact trivial | refine ⟨rfl, ?_⟩)))
      (skip; (try simp only [tq] at h))
      refine wp_skip ?_
      (refine hZ _ _ ?_)
      (replace S := St.pullB b3 S; replace S := S.drop1; first | (refine ⟨p1, e1, F5, by rw [hca, if_pos (by assumption)], ?_⟩; refine S.keep ?_; repeat (first | exact trivial | refine ⟨rfl, ?_⟩)) | (refine ⟨p0, e0, F4, by rw [hca, if_neg (by assumption)], ?_⟩; refine S.keep ?_; repeat (first | exact trivial | refine ⟨rfl, ?_⟩))))
     (revert S a; refine go00 4 ?_; intro a S)
     refine wpl_guard S rfl rfl rfl rfl rfl ?_ ?_
     · (clear S; intro h S; (try simp only [tq] at h))
       (revert S a; refine go00 11 ?_; intro a S)
       (refine hZ _ _ ?_)
       exact zzEvJ1
     (intro h; clear S a; intro a S; (try simp only [tq] at h))
     (revert S a; refine go00 6 ?_; intro a S)
     (refine hZ _ _ ?_)
     exact zzEvJ1
   (skip; (try simp only [tq] at h))
   (revert S a; revert hZ Z; refine go11 6 ?_; intro Z hZ a S)
   (have hn2 : ¬ (eh.nm = sAnd ∨ eh.nm = sOr) := (by assumption); refine wpl_callF S rfl rfl rfl rfl rfl rfl (listCt hE F bm cs vs L _ hn hMc hL hg.2.2 hg.2.1.1 hf) rfl ?_; clear S a; intro u7 F6 a w hv hF6 S; obtain ⟨v6, rfl, hT6⟩ := hv; have hT6c := hT6; obtain ⟨a6, c6, rfl, hcap6, hpos6⟩ := hT6c; have hpn := call_no (A := evL cs vs L) hn2; have hp1 := fun x => call_one (A := evL cs vs L) (x := x) hn2; have hp2 := fun x y f => call_two (A := evL cs vs L) (x := x) (y := y) (f := f) hn2; generalize listO (evL cs vs L) = B at S hT6 hgl hlf hpn hp1 hp2 hcap6 hpos6; rw [roseOf_len] at S)
   (revert S a; revert hZ Z; refine go11 15 ?_; intro Z hZ a S)
   refine wpc_split S rfl (fun h => ?_) (fun h => ?_)
   · (skip; (try simp only [tq] at h))
     (revert S a; refine go01 3 ?_; intro Z hZ a S)
     (refine wpl_storeO S rfl rfl rfl rfl rfl (by rfl) (by simp [Value.cells, Value.oneCell', splice]) (by rfl) ?_; clear S; intro w S)
     (revert S a; revert hZ Z; refine go10 3 ?_; intro a S)
     refine wp_ret (fin_ret S (results2 Tryz.results64 (RV.cellO S rfl (by rfl)) (RV.tmp S rfl)) ?_)
     exact zzEvJ0
   (skip; (try simp only [tq] at h))
   (revert S a; refine go00 7 ?_; intro a S)
   refine wpc_split S rfl (fun h => ?_) (fun h => ?_)
   · (skip; (try simp only [tq] at h))
     (refine wp_seq_k ?_; intro Z hZ)
     (have hln := hlf (by omega); have hb1 : ∃ x, B.2 = [x] := List.length_eq_one_iff.1 (by omega); obtain ⟨x, hbx⟩ := hb1; rw [hbx] at hpos6; obtain ⟨b70, o70, rfl, z, cs7, v7, hz, hc7, hR7, hT7⟩ := TrM.pos hpos6 (k := 0) (by show 0 < 1; decide); cases hz; have hT7c := hT7; obtain ⟨a71, c71, rfl, -⟩ := hT7c; have hw7c := hR7.1; subst hw7c; (simp only [List.cons_append, List.nil_append] at hc7); have gx := hgl x (by rw [hbx]; exact List.mem_cons_self ..))
     (refine wpc_mixM [0, 1, 2, 3, 4, 6, 7] [1, 4] [] (.one 0 (.one 1 (.one 2 (.one 3 (.one 4 (.one 5 (.one 6 (.one 7 (.one 8 (.one 9 .nil)))))))))) [b3] S mixed (by kernel_rfl) ?_; clear S; intro w S)
     (refine wpm_f S rfl rfl rfl (want_none _ rfl) rfl rfl ?_; clear S a; intro a S)
     (refine wpm_o b3 S rfl rfl rfl (want_none _ rfl) rfl rfl ?_; clear S a; intro a S)
     (refine wpm_p S rfl rfl rfl (want_none _ rfl) rfl rfl ?_; clear S a; intro a S)
     (refine wpm_i S rfl rfl rfl (want_none _ rfl) rfl rfl ?_; clear S a; intro a S)
     first | (refine wpm_lateF S rfl rfl rfl (want_none _ rfl) rfl rfl (fun w' S => sv_loadF S rfl rfl (by assumption)) ?_; clear S a; intro a S) | (refine wpm_lateF S rfl rfl rfl (want_none _ rfl) rfl rfl (fun w' S => sv_loadAF S rfl rfl (by assumption) (by rfl)) ?_; clear S a; intro a S)
     refine wpm_eff rfl rfl (kwa S) ?_
     (refine wpl_callF S rfl rfl rfl rfl rfl rfl (oneCt F6 (hT.mono hF6) (hEr.mono hF6) eh.nm x _ gx ⟨_, rfl, hT7, hR7.2⟩) rfl ?_; clear S a; intro u5 F8 a w hv hF8 S; obtain ⟨cs8, rfl, hV8⟩ := hv; obtain ⟨a8, c8, rfl, hT8, hs8⟩ := vac_slc hV8)
     refine wpList_nil ?_
     iterate 2 (refine wpm_p S rfl rfl rfl (want_none _ rfl) rfl rfl ?_; clear S a; intro a S)
     refine wpm_eff rfl rfl (kwa S) ?_
     (refine wpl_storeO S rfl rfl rfl rfl rfl (by rfl) (by simp [Value.cells, Value.oneCell', splice]) (by rfl) ?_; clear S; intro w S)
     refine wpList_nil ?_
     refine wpm_eff rfl rfl (kwa S) ?_
     (revert S a; refine go00 2 ?_; intro a S)
     (refine wpm_nil (kwa S) (hZ _ _ ?_); clear hZ Z)
     refine wp_ret (fin_ret S (results2 Tryz.results64 (RV.cellO S rfl (by rfl)) (RV.tmp S rfl)) ?_)
     exact zzEvJ0
   (skip; (try simp only [tq] at h))
   refine wp_skip ?_
   (refine hZ _ _ ?_; clear hZ Z)
   (refine wp_seq_k ?_; intro Z hZ)
   (have hln := hlf (by omega); have hl2 : L.len = 2 ∧ ∃ f, op2 eh.nm = some f := (by rcases hfc with h9 | ⟨-, h9⟩; exact absurd h9.1 hn2; rcases h9 with h9 | h9; omega; exact h9); obtain ⟨hl2, f, hf2⟩ := hl2; have hb1 : ∃ x y, B.2 = [x, y] := len_two (by omega); obtain ⟨x, y, hbx⟩ := hb1; rw [hbx] at hpos6; obtain ⟨b70, o70, rfl, z, cs7, v7, hz, hc7, hR7, hT7⟩ := TrM.pos hpos6 (k := 0) (by show 0 < 2; decide); cases hz; obtain ⟨b71, o71, e71, z, cs8, v8, hz, hc8, hR8, hT8⟩ := TrM.pos hpos6 (k := 1) (by show 1 < 2; decide); cases e71; cases hz; have hT7c := hT7; obtain ⟨a71, c71, rfl, -⟩ := hT7c; have hw7c := hR7.1; subst hw7c; (simp only [List.cons_append, List.nil_append] at hc7); have hT8c := hT8; obtain ⟨a72, c72, rfl, -⟩ := hT8c; have hw8c := hR8.1; subst hw8c; (simp only [List.cons_append, List.nil_append] at hc8); have gx := hgl x (by rw [hbx]; exact List.mem_cons_self ..); have gy := hgl y (by rw [hbx]; exact List.mem_cons_of_mem _ (List.mem_cons_self ..)); obtain ⟨u, hmg, fid, caf, rfl, hfn, hfc2⟩ : ∃ u, mGet es eh.nm = some u ∧ Op2 F u f := (by rcases hops.get eh.nm with ⟨f', u, h1, h2, h3⟩ | ⟨h1, h2⟩; (have e1 : op2 eh.nm = some f' := h1; rw [hf2] at e1; cases e1; exact ⟨u, h2, h3⟩); (have e1 : op2 eh.nm = none := h1; rw [hf2] at e1; cases e1)); haveI := hfn)
   (refine wpc_mixM [0, 1, 2, 3, 4, 5, 6, 7, 8, 9, 10, 11, 12, 14, 15] [3, 5, 6, 9, 12] [] (.one 0 (.one 1 (.one 2 (.one 3 (.one 4 (.one 5 (.one 6 (.one 7 (.one 8 (.one 9 (.one 10 (.one 11 (.one 12 (.one 13 (.one 14 (.one 15 (.one 16 (.one 17 .nil)))))))))))))))))) [b3] S mixed (by kernel_rfl) ?_; clear S; intro w S)
   (refine wpm_p S rfl rfl rfl (want_none _ rfl) rfl rfl ?_; clear S a; intro a S)
   (refine wpm_s S rfl rfl rfl (want_none _ rfl) rfl rfl ?_; clear S a; intro a S)
   (refine wpm_f S rfl rfl rfl (want_none _ rfl) rfl rfl ?_; clear S a; intro a S)
   (refine wpm_lateF S rfl rfl rfl (want_none _ rfl) rfl rfl (fun w' S => sv_loadF S rfl rfl (hm2.mono hF6)) ?_; clear S a; intro a S)
   (refine wpm_f S rfl rfl rfl (want_none _ rfl) rfl rfl ?_; clear S a; intro a S)
   (refine wpm_o b3 S rfl rfl rfl (want_none _ rfl) rfl rfl ?_; clear S a; intro a S)
   (refine wpm_lateF S rfl rfl rfl (want_none _ rfl) rfl rfl (fun w' S => sv_lookupF (enc := kS) S rfl rfl rfl (hF6 _ _ hes)) ?_; clear S a; intro a S)
   (rw [hmg] at S)
   (refine wpm_p S rfl rfl rfl (want_none _ rfl) rfl rfl ?_; clear S a; intro a S)
   (refine wpm_i S rfl rfl rfl (want_none _ rfl) rfl rfl ?_; clear S a; intro a S)
   first | (refine wpm_lateF S rfl rfl rfl (want_none _ rfl) rfl rfl (fun w' S => sv_loadF S rfl rfl (by assumption)) ?_; clear S a; intro a S) | (refine wpm_lateF S rfl rfl rfl (want_none _ rfl) rfl rfl (fun w' S => sv_loadAF S rfl rfl (by assumption) (by rfl)) ?_; clear S a; intro a S)
   (refine wpm_p S rfl rfl rfl (want_none _ rfl) rfl rfl ?_; clear S a; intro a S)
   (refine wpm_i S rfl rfl rfl (want_none _ rfl) rfl rfl ?_; clear S a; intro a S)
   first | (refine wpm_lateF S rfl rfl rfl (want_none _ rfl) rfl rfl (fun w' S => sv_loadF S rfl rfl (by assumption)) ?_; clear S a; intro a S) | (refine wpm_lateF S rfl rfl rfl (want_none _ rfl) rfl rfl (fun w' S => sv_loadAF S rfl rfl (by assumption) (by rfl)) ?_; clear S a; intro a S)
   refine wpm_eff rfl rfl (kwa S) ?_
   (refine wpl_callF S rfl rfl rfl rfl rfl rfl (hfc2 F6 hF6 x y _ _ gx gy ⟨_, rfl, hT7, hR7.2⟩ ⟨_, rfl, hT8, hR8.2⟩) rfl ?_; clear S a; intro u5 F8 a w hv hF8 S; obtain ⟨cs8, rfl, hV8⟩ := hv; obtain ⟨a8, c8, rfl, hT8, hs8⟩ := vac_slc hV8)
   refine wpList_nil ?_
   iterate 2 (refine wpm_p S rfl rfl rfl (want_none _ rfl) rfl rfl ?_; clear S a; intro a S)
   refine wpm_eff rfl rfl (kwa S) ?_
   (refine wpl_storeO S rfl rfl rfl rfl rfl (by rfl) (by simp [Value.cells, Value.oneCell', splice]) (by rfl) ?_; clear S; intro w S)
   refine wpList_nil ?_
   refine wpm_eff rfl rfl (kwa S) ?_
   (revert S a; refine go00 2 ?_; intro a S)
   (refine wpm_nil (kwa S) (hZ _ _ ?_); clear hZ Z)
   refine wp_ret (fin_ret S (results2 Tryz.results64 (RV.cellO S rfl (by rfl)) (RV.tmp S rfl)) ?_)
   (first | ((conv => arg 3; rw [hcr, if_pos (by assumption)]); exact ans_no _ _) | ((conv => arg 3; rw [hcr, if_neg (by omega)]); exact ⟨_, rfl, vac_z _ (k := 1) (s := []) (by decide)⟩) | (rw [hpn (by assumption)]; exact ans_no _ _) | (rw [hp1 x (by omega) hbx]; exact ⟨_, rfl, _, rfl, hT8, hs8⟩) | (rw [hp2 x y f (by omega) hbx hf2]; exact ⟨_, rfl, _, rfl, hT8, hs8⟩) | trace_state))
  (revert S a; refine go00 5 ?_; intro a S)
  refine wpl_guard S rfl rfl rfl rfl rfl ?_ ?_
  · (clear S; intro h S; (try simp only [tq] at h))
    (revert S a; refine go00 7 ?_; intro a S)
    (refine hZ _ _ ?_)
    exact zzEvJ2
  (intro h; clear S a; intro a S; (try simp only [tq] at h))
  (revert S a; refine go00 4 ?_; intro a S)
  (refine hZ _ _ ?_)
  exact zzEvJ2
end Go.Proofs.YtigblodhdfnleaaGreatDoor
namespace Go.Proofs.YtigblodhdfnleaaGreatDoor
open Go Go.Wk Go.Un Go.De Go.Num
set_option linter.unusedSimpArgs false
set_option linter.unusedVariables false
attribute [local irreducible] Go.wpList Go.Code.wp Go.wpStill Go.Wk.wpPre Go.bodyPost Go.Calls Go.Wk.Ct Go.Wk.OwnS
attribute [local irreducible] Go.Wk.wpG Go.Wk.wpM

theorem evE_lit {cs : List KC} {vs : List Bd} {h : EH} {L : Ef} (hk : h.k = 1) : evE cs vs h L = yesA (h.v, h.vl) := by
  unfold evE evK
  rw [if_pos hk]
theorem evE_var0 {cs : List KC} {vs : List Bd} {h : EH} {L : Ef} (hk : h.k = 2) (hf : findB vs h.nm = none) : evE cs vs h L = noA 71 := by
  unfold evE evK
  rw [if_neg (by omega), if_pos hk, hf]
theorem evE_var {cs : List KC} {vs : List Bd} {h : EH} {L : Ef} {x : Bd} (hk : h.k = 2) (hf : findB vs h.nm = some x) : evE cs vs h L = yesA x.2 := by
  unfold evE evK
  rw [if_neg (by omega), if_pos hk, hf]
theorem evE_if {cs : List KC} {vs : List Bd} {h : EH} {L : Ef} {x y z : EH × Ef} (hk : h.k = 8) (hx : L.get? 0 = some x) (hy : L.get? 1 = some y) (hz : L.get? 2 = some z) : evE cs vs h L = if (truthO (evE cs vs x.1 x.2)).2 ≠ 0 then noA (truthO (evE cs vs x.1 x.2)).2 else if (truthO (evE cs vs x.1 x.2)).1 = true then evE cs vs y.1 y.2 else evE cs vs z.1 z.2 := by
  rw [← evL_at (cs := cs) (vs := vs) hx, ← evL_at (cs := cs) (vs := vs) hy, ← evL_at (cs := cs) (vs := vs) hz]
  conv => lhs; unfold evE evK
  rw [if_neg (by omega), if_neg (by omega), if_neg (by omega), if_neg (by omega), if_neg (by omega), if_pos hk]
theorem find_at {α : Type} (l : List α) (q : α → Bool) : (∃ (j : Nat) (x : α), idxN (atN l q) l.length = (j : Int) ∧ j < l.length ∧ l[j]? = some x ∧ l.find? q = some x) ∨ (l.find? q = none ∧ idxN (atN l q) l.length = -1) := by
  rcases idx_find l q with ⟨j, h1, h2, h3⟩ | ⟨h1, h2⟩
  · refine .inl ⟨j, l[j], h2, h3, List.getElem?_eq_getElem h3, ?_⟩
    rw [List.findIdx?_eq_some_iff_getElem] at h1
    obtain ⟨_, h4, h5⟩ := h1
    rw [List.find?_eq_some_iff_getElem]
    exact ⟨h4, j, h3, rfl, fun i hi => by simpa using h5 i hi⟩
  · refine .inr ⟨?_, h2⟩
    rw [List.findIdx?_eq_none_iff] at h1
    rw [List.find?_eq_none]
    intro x hx
    simp [h1 x hx]
theorem zzEvK0 {p : Prop} (h : p := by (first | (rw [hif, if_pos (by assumption)]; exact ans_no _ _) | (rw [hif, if_neg (by omega), if_pos (by assumption)]; exact ⟨_, rfl, _, rfl, hT4, hs4⟩) | (rw [hif, if_neg (by omega), if_neg (by rw [(by assumption : p0 = false)]; decide)]; exact ⟨_, rfl, _, rfl, hT4, hs4⟩) | (rw [evE_lit (by omega)]; exact ⟨_, rfl, _, rfl, hT4, hs4⟩) | (rw [evE_var (by omega) hfx]; exact ⟨_, rfl, _, rfl, hT8, hs8⟩) | (have hf0 : findB vs eh.nm = none := (by rcases hix with ⟨j, x, h9, -⟩ | ⟨h9, -⟩; omega; exact h9); rw [evE_var0 (by omega) hf0]; exact ans_no _ _) | (exact ⟨_, rfl, _, rfl, hT4, hs4⟩) | trace_state)) : p := h
theorem zzEvK1 {p : Prop} (h : p := by (apply Exists.intro; apply And.intro; rotate_left 1; (refine S.keep ?_; repeat (first | exact trivial | refine ⟨rfl, ?_⟩)); (rw [Bool.eq_iff_iff, beq_iff_eq, decide_eq_true_eq]; omega))) : p := h
set_option maxRecDepth 20000 in
set_option maxHeartbeats 32000000 in
theorem evCt : ∀ n, EvC n := by
  intro n
  induction n with
  | zero => intro F bm cs vs h L xs hn; omega
  | succ n hE =>
  intro F bm cs vs eh L xs hn hM hX hg hf
  have hff : eh.k ≠ 1 → eh.k ≠ 2 → formK eh L.len = true ∧ formEL L = true := fun h1 h2 => by
    unfold formE at hf
    rw [if_neg h1, if_neg h2, Bool.and_eq_true] at hf
    exact hf
  have hkk : eh.k ≠ 1 → eh.k ≠ 2 → eh.k = 4 ∨ eh.k = 5 ∨ eh.k = 7 ∨ eh.k = 8 ∨ eh.k = 6 := fun h1 h2 => by
    have h3 := (hff h1 h2).1
    unfold formK at h3
    by_cases k4 : eh.k = 4
    · exact .inl k4
    by_cases k5 : eh.k = 5
    · exact .inr (.inl k5)
    by_cases k7 : eh.k = 7
    · exact .inr (.inr (.inl k7))
    by_cases k8 : eh.k = 8
    · exact .inr (.inr (.inr (.inl k8)))
    by_cases k6 : eh.k = 6
    · exact .inr (.inr (.inr (.inr k6)))
    · rw [if_neg k4, if_neg k5, if_neg k7, if_neg k8, if_neg k6] at h3
      cases h3
  have hXc := hX
  obtain ⟨a1, n1, c1, ao, cap, rfl, hvl, hL⟩ := exc_slc hX
  have hMc := hM
  obtain ⟨⟨tv, aov, capv, bt, es, hm0, hm1, hm2, hvs, hes, hops, hK⟩, hT, hEr, hGB⟩ := hM
  have hLc := hL
  obtain ⟨_, _, e9, hcap, hpos⟩ := hLc
  cases e9
  have hg1 := hg.2.1.1
  have hsv := hg.1.1.2
  have hzv : eh.vl.size ≤ 5000 := hg.1.2.2
  dsimp only at hsv
  refine Ct.enter Tryz.func25 rfl Tryz.ntmps25 rfl fun w0 a S => ?_
  refine wp_sr fun Z hZ => ?_
  (refine wpl_box S rfl rfl rfl rfl rfl ?_; clear S a; intro b3 a w S)
  (refine wpl_alloc S rfl rfl rfl rfl ?_; clear S a; intro b4 a w S)
  (revert S a; revert hZ Z; refine go11 15 ?_; intro Z hZ a S)
  refine wpc_split S rfl (fun h => ?_) (fun h => ?_)
  · (skip; (try simp only [tq] at h))
    (revert S a; refine go01 3 ?_; intro Z hZ a S)
    (refine wpl_callF S rfl rfl rfl rfl rfl rfl (ownVCt eh.vl.size F eh.v eh.vl [.int .u8 (eh.v.k : Int), .int .i64 eh.v.n, .string (bs eh.v.s), .slice a1 n1 c1] (Nat.le_refl _) (by omega) ⟨_, rfl, hvl, by omega⟩) rfl ?_; clear S a; intro u9 F4 a w hv hF4 S; obtain ⟨cs4, rfl, hV4⟩ := hv; obtain ⟨a4, c4, rfl, hT4, hs4⟩ := vac_slc hV4)
    (refine wpl_storeO S rfl rfl rfl rfl rfl (by rfl) (by simp [Value.cells, Value.oneCell', splice]) (by rfl) ?_; clear S; intro w S)
    (revert S a; revert hZ Z; refine go10 3 ?_; intro a S)
    refine wp_ret (fin_ret S (results2 Tryz.results25 (RV.cellO S rfl (by rfl)) (RV.tmp S rfl)) ?_)
    exact zzEvK0
  (skip; (try simp only [tq] at h))
  (revert S a; refine go00 5 ?_; intro a S)
  refine wpc_split S rfl (fun h => ?_) (fun h => ?_)
  · (skip; (try simp only [tq] at h))
    (revert S a; refine go01 4 ?_; intro Z hZ a S)
    (refine wpl_v S rfl rfl rfl (sv_loadF S rfl rfl hm1) ?_; clear S a; intro a S)
    (revert S a; refine go00 1 ?_; intro a S)
    (replace S := St.pullB b3 S; have S' := frz1 S; clear S; obtain ⟨F6, hle6, hb3, S⟩ := S'; have hb3n : Cel F6 b3 (0 + 3) (.string (bs eh.nm)) := ⟨_, _, _, hb3, rfl⟩; replace hvs := hvs.mono hle6; refine wpl_call0 S rfl rfl rfl rfl rfl rfl (ixBCt F6 _ _ _ hvs.sq 60 [] [ptr b3] (atN vs fun x => decide (x.1 = eh.nm)) (fun k cs hk hC => by obtain ⟨f, hf1, hf2⟩ := hC; rw [atN_some hf1]; exact ev1Ct F6 eh.nm b3 hb3n f cs hf2)) rfl ?_; clear S a; intro v a w hv S; subst hv)
    (have hix := find_at vs (fun x => decide (x.1 = eh.nm)); generalize idxN (atN vs fun x => decide (x.1 = eh.nm)) vs.length = ix at S hix)
    (revert S a; revert hZ Z; refine go11 9 ?_; intro Z hZ a S)
    refine wpc_split S rfl (fun h => ?_) (fun h => ?_)
    · (skip; (try simp only [tq] at h))
      (revert S a; refine go01 2 ?_; intro Z hZ a S)
      (refine wpl_storeO S rfl rfl rfl rfl rfl (by rfl) (by simp [Value.cells, Value.oneCell', splice]) (by rfl) ?_; clear S; intro w S)
      (revert S a; revert hZ Z; refine go10 3 ?_; intro a S)
      refine wp_ret (fin_ret S (results2 Tryz.results25 (RV.cellO S rfl (by rfl)) (RV.tmp S rfl)) ?_)
      exact zzEvK0
    (skip; (try simp only [tq] at h))
    refine wp_skip ?_
    (refine hZ _ _ ?_; clear hZ Z)
    (refine wp_seq_k ?_; intro Z hZ)
    (have hixs : ∃ (j : Nat) (x : Bd), ix = (j : Int) ∧ j < vs.length ∧ vs[j]? = some x ∧ findB vs eh.nm = some x := (by rcases hix with h9 | ⟨-, h9⟩; exact h9; omega); obtain ⟨j, x, rfl, hj2, hjx, hfx⟩ := hixs; have hvc := hvs; obtain ⟨_, _, e7, hcap7, hpos7⟩ := hvc; cases e7; obtain ⟨b70, o70, rfl, z, cs7, hz, hc7, c7, rfl, hV7⟩ := LiM.pos hpos7 (k := j) (by omega); rw [hjx] at hz; cases hz; have hc8 := hc7.drop 1; have gx := hGB x (List.mem_of_getElem? hjx); obtain ⟨a4, c4, rfl, hT4, hs4⟩ := vac_slc hV7)
    (revert S a; refine go00 4 ?_; intro a S)
    (refine wpl_v S rfl rfl rfl (sv_loadF S rfl rfl (hm1.mono hle6)) ?_; clear S a; intro a S)
    (revert S a; refine go00 3 ?_; intro a S)
    (refine wpl_v S rfl rfl rfl (sv_loadAF S rfl rfl hc8 rfl) ?_; clear S a; intro a S)
    (refine wpl_callF S rfl rfl rfl rfl rfl rfl (ownVCt x.2.2.size F6 x.2.1 x.2.2 _ (Nat.le_refl _) (Nat.le_trans gx.2.2 (by decide)) hV7) rfl ?_; clear S a; intro u9 F7 a w hv hF7 S; obtain ⟨cs7, rfl, hV8⟩ := hv; obtain ⟨a8, c8, rfl, hT8, hs8⟩ := vac_slc hV8)
    (refine wpl_storeO S rfl rfl rfl rfl rfl (by rfl) (by simp [Value.cells, Value.oneCell', splice]) (by rfl) ?_; clear S; intro w S)
    (revert S a; revert hZ Z; refine go10 3 ?_; intro a S)
    refine wp_ret (fin_ret S (results2 Tryz.results25 (RV.cellO S rfl (by rfl)) (RV.tmp S rfl)) ?_)
    exact zzEvK0
  (skip; (try simp only [tq] at h))
  (refine wp_seq_k ?_; intro Z hZ)
  replace hZ : ∀ (a' : Act) (w' : World), (∃ t : Bool, t = decide (eh.k = 4 ∨ eh.k = 5) ∧ St 90 [(0, ptr bm), (3, ptr b3), (4, ptr b4), (5, .int .i64 0), (10, .int .u8 (eh.k : Int)), (36, .bool t)] w0 F [] F [[(b4, .cells ⟨[.int .u8 0, .int .i64 0, .string (bs []), .slice none 0 0]⟩ 26 (0, 0))], [(b3, .cells ⟨[.int .u8 (eh.k : Int), .int .i64 eh.l, .int .i64 eh.c, .string (bs eh.nm), .int .u8 (eh.v.k : Int), .int .i64 eh.v.n, .string (bs eh.v.s), .slice a1 n1 c1, .slice ao L.len cap]⟩ 34 (0, 0))]] a' w') → Z a' w' := (by
   (intro a w hM; refine hZ _ _ ?_; clear hZ Z; clear S; obtain ⟨t, rfl, S⟩ := hM)
   refine wpc_split S rfl (fun h => ?_) (fun h => ?_)
   · (skip; (try simp only [tq] at h))
     (revert S a; refine go01 3 ?_; intro Z hZ a S)
     (refine wpl_callF S rfl rfl rfl rfl rfl rfl (wholeCt hE F bm cs vs eh L _ (by omega) hMc hXc hg (hff (by omega) (by omega)).2 (by omega)) rfl ?_; clear S a; intro u9 F4 a w hv hF4 S; obtain ⟨cs4, rfl, hV4⟩ := hv; obtain ⟨a4, c4, rfl, hT4, hs4⟩ := vac_slc hV4)
     (revert S a; refine go00 2 ?_; intro a S)
     (refine wpl_storeO S rfl rfl rfl rfl rfl (by rfl) (by simp [Value.cells, Value.oneCell', splice]) (by rfl) ?_; clear S; intro w S)
     (revert S a; revert hZ Z; refine go10 3 ?_; intro a S)
     refine wp_ret (fin_ret S (results2 Tryz.results25 (RV.cellO S rfl (by rfl)) (RV.tmp S rfl)) ?_)
     exact zzEvK0
   (skip; (try simp only [tq] at h))
   (revert S a; refine go00 5 ?_; intro a S)
   refine wpc_split S rfl (fun h => ?_) (fun h => ?_)
   · (skip; (try simp only [tq] at h))
     (revert S a; refine go01 3 ?_; intro Z hZ a S)
     (refine wpl_callF S rfl rfl rfl rfl rfl rfl (fieldCt hE F bm cs vs eh L _ (by omega) hMc hXc hg (hff (by omega) (by omega)).2 (by omega) (by have h9 := (hff (by omega) (by omega)).1; unfold formK at h9; rw [if_neg (by omega), if_neg (by omega), if_pos (by omega)] at h9; exact of_decide_eq_true h9)) rfl ?_; clear S a; intro u9 F4 a w hv hF4 S; obtain ⟨cs4, rfl, hV4⟩ := hv; obtain ⟨a4, c4, rfl, hT4, hs4⟩ := vac_slc hV4)
     (revert S a; refine go00 2 ?_; intro a S)
     (refine wpl_storeO S rfl rfl rfl rfl rfl (by rfl) (by simp [Value.cells, Value.oneCell', splice]) (by rfl) ?_; clear S; intro w S)
     (revert S a; revert hZ Z; refine go10 3 ?_; intro a S)
     refine wp_ret (fin_ret S (results2 Tryz.results25 (RV.cellO S rfl (by rfl)) (RV.tmp S rfl)) ?_)
     exact zzEvK0
   (skip; (try simp only [tq] at h))
   (revert S a; refine go00 5 ?_; intro a S)
   refine wpc_split S rfl (fun h => ?_) (fun h => ?_)
   · (skip; (try simp only [tq] at h))
     (refine wp_seq_k ?_; intro Z hZ)
     (have hk8 : eh.k = 8 := (by omega); have hl3 : L.len = 3 := (by have h9 := (hff (by omega) (by omega)).1; unfold formK at h9; rw [if_neg (by omega), if_neg (by omega), if_neg (by omega), if_pos hk8] at h9; exact of_decide_eq_true h9); have hfl := (hff (by omega) (by omega)).2; obtain ⟨b80, o80, rfl, x, cs1, v1, hx, hc1, hR1, hT1⟩ := TrM.pos hpos (k := 0) (by omega); have hxs := Rose.size_get hx; have hX1 := exc_of hR1 hT1; obtain ⟨b81, o81, e81, y, cs2, v2, hy, hc2, hR2, hT2⟩ := TrM.pos hpos (k := 1) (by omega); cases e81; have hys := Rose.size_get hy; have hX2 := exc_of hR2 hT2; obtain ⟨b82, o82, e82, z, cs3, v3, hz, hc3, hR3, hT3⟩ := TrM.pos hpos (k := 2) (by omega); cases e82; have hzs := Rose.size_get hz; have hX3 := exc_of hR3 hT3; have hcx := mtruthCt hE F bm cs vs x.1 x.2 _ (by omega) hMc hX1 (GEl.get hg.2.2 hx) (formEL_get hfl hx); have hcy := fun F' hF => hE F' bm cs vs y.1 y.2 _ (by omega) (hMc.mono hF) (hX2.mono hF) (GEl.get hg.2.2 hy) (formEL_get hfl hy); have hcz := fun F' hF => hE F' bm cs vs z.1 z.2 _ (by omega) (hMc.mono hF) (hX3.mono hF) (GEl.get hg.2.2 hz) (formEL_get hfl hz); obtain ⟨a5, n5, c5, ao5, cap5, he5, -, -⟩ := exc_slc hX1; obtain ⟨a6, n6, c6, ao6, cap6, he6, -, -⟩ := exc_slc hX2; obtain ⟨a7, n7, c7, ao7, cap7, he7, -, -⟩ := exc_slc hX3; rw [he5] at hc1 hcx; rw [he6] at hc2 hcy; rw [he7] at hc3 hcz; have hif := evE_if (cs := cs) (vs := vs) hk8 hx hy hz; generalize truthO (evE cs vs x.1 x.2) = T0 at hcx hif; obtain ⟨p0, e0⟩ := T0; dsimp only at hcx hif)
     (revert S a; refine go00 6 ?_; intro a S)
     (refine wpl_callF S rfl rfl rfl rfl rfl rfl hcx rfl ?_; clear S a; intro u8 F5 a w hv hF5 S; subst hv)
     (revert S a; revert hZ Z; refine go11 15 ?_; intro Z hZ a S)
     refine wpc_split S rfl (fun h => ?_) (fun h => ?_)
     · (skip; (try simp only [tq] at h))
       (revert S a; refine go01 3 ?_; intro Z hZ a S)
       (refine wpl_storeO S rfl rfl rfl rfl rfl (by rfl) (by simp [Value.cells, Value.oneCell', splice]) (by rfl) ?_; clear S; intro w S)
       (revert S a; revert hZ Z; refine go10 3 ?_; intro a S)
       refine wp_ret (fin_ret S (results2 Tryz.results25 (RV.cellO S rfl (by rfl)) (RV.tmp S rfl)) ?_)
       exact zzEvK0
     (skip; (try simp only [tq] at h))
     (revert S a; refine go00 5 ?_; intro a S)
     refine wpc_split S rfl (fun h => ?_) (fun h => ?_)
     · (skip; (try simp only [tq] at h))
       (revert S a; refine go01 5 ?_; intro Z hZ a S)
       (refine wpl_v S rfl rfl rfl (sv_loadAF S rfl rfl (Cels.mono hF5 hc2) rfl) ?_; clear S a; intro a S)
       (refine wpl_callF S rfl rfl rfl rfl rfl rfl (hcy F5 hF5) rfl ?_; clear S a; intro u9 F4 a w hv hF4 S; obtain ⟨cs4, rfl, hV4⟩ := hv; obtain ⟨a4, c4, rfl, hT4, hs4⟩ := vac_slc hV4)
       (revert S a; refine go00 2 ?_; intro a S)
       (refine wpl_storeO S rfl rfl rfl rfl rfl (by rfl) (by simp [Value.cells, Value.oneCell', splice]) (by rfl) ?_; clear S; intro w S)
       (revert S a; revert hZ Z; refine go10 3 ?_; intro a S)
       refine wp_ret (fin_ret S (results2 Tryz.results25 (RV.cellO S rfl (by rfl)) (RV.tmp S rfl)) ?_)
       exact zzEvK0
     (skip; (try simp only [tq] at h))
     (revert S a; revert hZ Z; refine go11 7 ?_; intro Z hZ a S)
     (refine wpl_v S rfl rfl rfl (sv_loadAF S rfl rfl (Cels.mono hF5 hc3) rfl) ?_; clear S a; intro a S)
     (refine wpl_callF S rfl rfl rfl rfl rfl rfl (hcz F5 hF5) rfl ?_; clear S a; intro u9 F4 a w hv hF4 S; obtain ⟨cs4, rfl, hV4⟩ := hv; obtain ⟨a4, c4, rfl, hT4, hs4⟩ := vac_slc hV4)
     (revert S a; refine go00 2 ?_; intro a S)
     (refine wpl_storeO S rfl rfl rfl rfl rfl (by rfl) (by simp [Value.cells, Value.oneCell', splice]) (by rfl) ?_; clear S; intro w S)
     (revert S a; revert hZ Z; refine go10 3 ?_; intro a S)
     refine wp_ret (fin_ret S (results2 Tryz.results25 (RV.cellO S rfl (by rfl)) (RV.tmp S rfl)) ?_)
     exact zzEvK0
   (skip; (try simp only [tq] at h))
   (revert S a; revert hZ Z; refine go11 5 ?_; intro Z hZ a S)
   (refine wpl_callF S rfl rfl rfl rfl rfl rfl (callCt hE F bm cs vs eh L _ (by omega) hMc hXc hg (hff (by omega) (by omega)).2 (by have h9 := hkk (by omega) (by omega); omega) (hff (by omega) (by omega)).1) rfl ?_; clear S a; intro u9 F4 a w hv hF4 S; obtain ⟨cs4, rfl, hV4⟩ := hv; obtain ⟨a4, c4, rfl, hT4, hs4⟩ := vac_slc hV4)
   (revert S a; refine go00 2 ?_; intro a S)
   (refine wpl_storeO S rfl rfl rfl rfl rfl (by rfl) (by simp [Value.cells, Value.oneCell', splice]) (by rfl) ?_; clear S; intro w S)
   (revert S a; revert hZ Z; refine go10 3 ?_; intro a S)
   refine wp_ret (fin_ret S (results2 Tryz.results25 (RV.cellO S rfl (by rfl)) (RV.tmp S rfl)) ?_)
   (first | (rw [hif, if_pos (by assumption)]; exact ans_no _ _) | (rw [hif, if_neg (by omega), if_pos (by assumption)]; exact ⟨_, rfl, _, rfl, hT4, hs4⟩) | (rw [hif, if_neg (by omega), if_neg (by rw [(by assumption : p0 = false)]; decide)]; exact ⟨_, rfl, _, rfl, hT4, hs4⟩) | (rw [evE_lit (by omega)]; exact ⟨_, rfl, _, rfl, hT4, hs4⟩) | (rw [evE_var (by omega) hfx]; exact ⟨_, rfl, _, rfl, hT8, hs8⟩) | (have hf0 : findB vs eh.nm = none := (by rcases hix with ⟨j, x, h9, -⟩ | ⟨h9, -⟩; omega; exact h9); rw [evE_var0 (by omega) hf0]; exact ans_no _ _) | (exact ⟨_, rfl, _, rfl, hT4, hs4⟩) | trace_state))
  (revert S a; refine go00 5 ?_; intro a S)
  refine wpc_split S rfl (fun h => ?_) (fun h => ?_)
  · (skip; (try simp only [tq] at h))
    refine wp_skip ?_
    (refine hZ _ _ ?_)
    exact zzEvK1
  (skip; (try simp only [tq] at h))
  (revert S a; refine go00 4 ?_; intro a S)
  (refine hZ _ _ ?_)
  exact zzEvK1
end Go.Proofs.YtigblodhdfnleaaGreatDoor
namespace Go.Proofs.YtigblodhdfnleaaGreatDoor
open Go Go.Wk Go.Un Go.De Go.Num
set_option linter.unusedSimpArgs false
set_option linter.unusedVariables false
attribute [local irreducible] Go.wpList Go.Code.wp Go.wpStill Go.Wk.wpPre Go.bodyPost Go.Calls Go.Wk.Ct Go.Wk.OwnS
attribute [local irreducible] Go.Wk.wpG Go.Wk.wpM

/-! ### plain -/
def Zs (a : Ans) : Prop := a.1 ≠ 0 → a.2 = zV
theorem Zs_no (e : Int) : Zs (noA e) := fun _ => rfl
theorem Zs_yes (v : Vv) : Zs (yesA v) := fun h => absurd rfl h
theorem Zs_if {p : Prop} [Decidable p] {a b : Ans} (ha : Zs a) (hb : Zs b) : Zs (if p then a else b) := by
  by_cases hp : p
  · rw [if_pos hp]; exact ha
  · rw [if_neg hp]; exact hb
theorem Zs_nth : ∀ {l : List Ans} (k : Nat), (∀ a ∈ l, Zs a) → Zs (nthA l k)
  | [], _, _ => Zs_no 0
  | a :: r, 0, h => h a (List.mem_cons_self ..)
  | a :: r, k + 1, h => Zs_nth (l := r) k fun b hb => h b (List.mem_cons_of_mem _ hb)
theorem Zs_op2 {s : List UInt8} {f : Vv → Vv → Ans} (h : op2 s = some f) (x y : Vv) : Zs (f x y) := by
  unfold op2 at h
  rw [Option.map_eq_some_iff] at h
  obtain ⟨p, h1, rfl⟩ := h
  have h2 := List.mem_of_find?_eq_some h1
  unfold ops2 at h2
  simp only [List.mem_cons, List.not_mem_nil, or_false] at h2
  rcases h2 with rfl | rfl | rfl | rfl | rfl | rfl | rfl | rfl | rfl | rfl | rfl | rfl
  all_goals first
    | exact Zs_if (Zs_if (Zs_no _) (Zs_yes _)) (Zs_if (Zs_if (Zs_no _) (Zs_yes _)) (Zs_no _))
    | exact Zs_if (Zs_no _) (Zs_if (Zs_no _) (Zs_yes _))
    | exact Zs_yes _
theorem Zs_op1 (s : List UInt8) (x : Vv) : Zs (op1 s x) :=
  Zs_if (Zs_yes _) (Zs_if (Zs_if (Zs_yes _) (Zs_no _)) (Zs_if (Zs_yes _) (Zs_if (Zs_yes _) (Zs_if (Zs_yes _) (Zs_if (Zs_if (Zs_yes _) (Zs_no _)) (Zs_no _))))))
theorem Zs_parts (q : VH) (l : List Ans) : Zs (partsO q l) := Zs_if (Zs_no _) (Zs_if (Zs_no _) (Zs_if (Zs_no _) (Zs_yes _)))
theorem Zs_field (cs : List KC) (nm : List UInt8) (v : Vv) : Zs (fieldO cs nm v) := by
  unfold fieldO
  refine Zs_if (Zs_no _) ?_
  split
  · exact Zs_no _
  · refine Zs_if (Zs_no _) ?_
    split
    · exact Zs_no _
    · split
      · exact Zs_no _
      · exact Zs_yes _
theorem Zs_evK {cs : List KC} {vs : List Bd} {h : EH} {l : List Ans} (hl : ∀ a ∈ l, Zs a) : Zs (evK cs vs h l) := by
  unfold evK
  refine Zs_if (Zs_yes _) (Zs_if ?_ (Zs_if (Zs_parts _ _) (Zs_if ?_ (Zs_if (Zs_if (Zs_no _) (Zs_field _ _ _)) (Zs_if (Zs_if (Zs_no _) (Zs_if (Zs_nth _ hl) (Zs_nth _ hl))) (Zs_if (Zs_if (Zs_if (Zs_no _) (Zs_yes _)) (Zs_if (Zs_no _) (Zs_yes _))) (Zs_if (Zs_no _) ?_)))))))
  · split
    · exact Zs_no _
    · exact Zs_yes _
  · split
    · exact Zs_no _
    · exact Zs_if (Zs_no _) (Zs_parts _ _)
  · split
    · exact Zs_op1 _ _
    · split
      · rename_i f ho; exact Zs_op2 ho _ _
      · exact Zs_no _
    · exact Zs_no _
theorem Zs_evL {cs : List KC} {vs : List Bd} : ∀ (L : Ef), ∀ a ∈ evL cs vs L, Zs a
  | .nil, a, ha => by cases ha
  | .cons h L r, a, ha => by
    rcases List.mem_cons.1 ha with rfl | ha
    · exact Zs_evK (Zs_evL L)
    · exact Zs_evL r a ha
theorem evE_no {cs : List KC} {vs : List Bd} {h : EH} {L : Ef} (he : (evE cs vs h L).1 ≠ 0) : evE cs vs h L = noA (evE cs vs h L).1 := by
  have := Zs_evK (cs := cs) (vs := vs) (h := h) (Zs_evL L) he
  exact Prod.ext rfl this
def atR {α : Type} (l : Rose α) (q : α → Rose α → Bool) (k : Nat) : Bool := match l.get? k with | some x => q x.1 x.2 | none => false
theorem atR_some {α : Type} {l : Rose α} {q : α → Rose α → Bool} {k : Nat} {x : α × Rose α} (h : l.get? k = some x) : atR l q k = q x.1 x.2 := by unfold atR; rw [h]
theorem deepL_any (d : Int) : ∀ L : Ef, deepL L d = anyR (fun _ L' => deepE L' d) L
  | .nil => rfl
  | .cons h L r => by
    show ((decide (64 < d) || deepL L (d + 1)) || deepL r d) = (deepE L d || anyR (fun _ L' => deepE L' d) r)
    rw [deepL_any d r]; rfl
theorem formEL_any : ∀ L : Ef, formEL L = !anyR (fun h L' => !formE h L') L
  | .nil => rfl
  | .cons h L r => by
    show (formE h L && formEL r) = !(!formE h L || anyR (fun h L' => !formE h L') r)
    rw [formEL_any r]
    cases formE h L <;> simp
/-! ### walks -/
def DpC (n : Nat) : Prop := ∀ (F : Heap) (h : EH) (L : Ef) (xs : List Value) (d : Int), L.size < n → ExC F xs h L → 0 ≤ d → d ≤ 65 → Ct Tryz.prog 20 [.agg ⟨xs⟩, .int .i64 d] F [] (fun _ _ u => u = .bool (deepE L d))
theorem deep1Ct {n : Nat} (hD : DpC n) (F : Heap) (b : Nat) (d : Int) (h : EH) (L : Ef) (xs : List Value) (hb : Cel F b 0 (.int .i64 d)) (h0 : 0 ≤ d) (h1 : d ≤ 64) (hn : L.size < n) (hX : ExC F xs h L) : Ct Tryz.prog 54 ([] ++ [.agg ⟨xs⟩] ++ [ptr b]) F [] (fun _ _ u => u = .bool (deepE L (d + 1))) := by
  have hc := hD F h L xs (d + 1) hn hX (by omega) (by omega)
  obtain ⟨a1, n1, c1, ao, cap, rfl, -, -⟩ := exc_slc hX
  refine Ct.enter Tryz.func54 rfl Tryz.ntmps54 rfl fun w0 a S => ?_
  refine wp_sr fun Z hZ => ?_
  (refine wpl_box S rfl rfl rfl rfl rfl ?_; clear S a; intro b2 a w S)
  (revert S a; revert hZ Z; refine go11 5 ?_; intro Z hZ a S)
  (refine wpl_v S rfl rfl rfl (sv_loadF S rfl rfl hb) ?_; clear S a; intro a S)
  (revert S a; refine go00 1 ?_; intro a S)
  (refine wpl_call0 S rfl rfl rfl rfl rfl rfl (hc) rfl ?_; clear S a; intro v a w hv S; subst hv)
  (revert S a; revert hZ Z; refine go10 3 ?_; intro a S)
  refine wp_ret (fin_ret S (results1 Tryz.results54 (RV.tmp S rfl)) ?_)
  rfl
theorem zzEvL0 {p : Prop} (h : p := by (congr 1; show _ = (decide (64 < d) || deepL L (d + 1)); first | (rw [decide_eq_true (by omega)]; rfl) | (rw [decide_eq_false (by omega), Bool.false_or, deepL_any]; exact anyN_rose (fun k x hx => atR_some hx)) | trace_state)) : p := h
set_option maxHeartbeats 8000000 in
theorem deepCt : ∀ n, DpC n := by
  intro n
  induction n with
  | zero => intro F h L xs d hn; omega
  | succ n ih =>
  intro F eh L xs d hn hX h0 h1
  obtain ⟨a1, n1, c1, ao, cap, rfl, -, hL⟩ := exc_slc hX
  refine Ct.enter Tryz.func20 rfl Tryz.ntmps20 rfl fun w0 a S => ?_
  refine wp_sr fun Z hZ => ?_
  (refine wpl_box S rfl rfl rfl rfl rfl ?_; clear S a; intro b2 a w S)
  (refine wpl_box S rfl rfl rfl rfl rfl ?_; clear S a; intro b3 a w S)
  (revert S a; revert hZ Z; refine go11 7 ?_; intro Z hZ a S)
  refine wpl_guard S rfl rfl rfl rfl rfl ?_ ?_
  · (clear S; intro h S; (try simp only [tq] at h))
    (revert S a; refine go00 6 ?_; intro a S)
    (have hd64 : d ≤ 64 := (by omega); replace S := St.pullB b3 S; have S' := frz1 S; clear S; obtain ⟨F6, hle6, hb3, S⟩ := S'; have hb3n : Cel F6 b3 0 (.int .i64 d) := ⟨_, _, _, hb3, rfl⟩; replace hL := hL.mono hle6; refine wpl_call0 S rfl rfl rfl rfl rfl rfl (cfECt F6 _ _ _ hL.sq 54 [] [ptr b3] (atR L fun _ L' => deepE L' (d + 1)) (fun k cs hk hC => by obtain ⟨x, c1, u, hx, rfl, hR, hT⟩ := hC; rw [atR_some hx]; have hxs := Rose.size_get hx; exact deep1Ct ih F6 b3 d x.1 x.2 _ hb3n h0 hd64 (by omega) (exc_of hR hT))) rfl ?_; clear S a; intro v a w hv S; subst hv)
    (revert S a; revert hZ Z; refine go10 4 ?_; intro a S)
    refine wp_ret (fin_ret S (results1 Tryz.results20 (RV.tmp S rfl)) ?_)
    exact zzEvL0
  (intro h; clear S a; intro a S; (try simp only [tq] at h))
  (revert S a; revert hZ Z; refine go10 7 ?_; intro a S)
  refine wp_ret (fin_ret S (results1 Tryz.results20 (RV.tmp S rfl)) ?_)
  exact zzEvL0
theorem zzEvL1 {p : Prop} (h : p := by (rw [hfp]; first | (rw [idxF_at (by omega), if_pos (by rw [atN_some hx, decide_eq_true_eq]; assumption)]; done) | (rw [idxF_end (by omega)]; done) | trace_state)) : p := h
/-- Is a text one of a list? -/
theorem indexS2Ct (F : Heap) (l : List (List UInt8)) (s : List UInt8) (v : Value) (h : LiM F 1 StR v l) : Ct Tryz.prog 82 [v, .string (bs s)] F [] (fun _ _ u => u = .int .i64 (idxN (atN l fun x => decide (s = x)) l.length)) := by
  obtain ⟨ao, cap, rfl, hcap, hpos⟩ := h
  refine Ct.enter Tryz.func82 rfl Tryz.ntmps82 rfl fun w0 a S => ?_
  (revert S a; refine go01 12 ?_; intro Z hZ a S)
  refine wpc_loop (fun m a w' => ∃ (k : Nat), m = l.length - k ∧ k ≤ l.length ∧ idxN (atN l fun x => decide (s = x)) l.length = idxF (atN l fun x => decide (s = x)) k (l.length - k) ∧ St 19 [(0, .slice ao l.length cap), (1, .string (bs s)), (7, .int .i64 l.length), (8, .int .i64 k)] w0 F [] F [] a w') ?_ ?_
  · (refine ⟨l.length, 0, by omega, Nat.zero_le _, rfl, ?_⟩; refine S.keep ?_; repeat (first | exact trivial | refine ⟨rfl, ?_⟩))
  (clear S; rintro m a w ⟨k, rfl, hkl, hfp, S⟩)
  (revert S a; refine go01 5 ?_; intro Z hZ a S)
  refine wpc_split S rfl (fun h => ?_) (fun h => ?_)
  · (skip; (try simp only [tq] at h))
    (revert S a; revert hZ Z; refine go11 9 ?_; intro Z hZ a S)
    (refine wp_seq_k ?_; intro Z hZ)
    (obtain ⟨b8, o8, rfl, x, cs1, hx, hc1, rfl⟩ := LiM.pos hpos (k := k) (by omega))
    (revert S a; refine go00 5 ?_; intro a S)
    (refine wpl_v S rfl rfl rfl (sv_loadF S rfl rfl (hc1 0 _ rfl)) ?_; clear S a; intro a S)
    (revert S a; revert hZ Z; refine go10 3 ?_; intro a S)
    refine wpc_split S rfl (fun h => ?_) (fun h => ?_)
    · (skip; (try simp only [tq] at h))
      (revert S a; refine go00 5 ?_; intro a S)
      refine wp_ret (fin_ret S (results1 Tryz.results82 (RV.tmp S rfl)) ?_)
      exact zzEvL1
    (skip; (try simp only [tq] at h))
    (revert S a; revert hZ Z; refine go10 6 ?_; intro a S)
    change ∃ m', _ ∧ _
    (refine ⟨l.length - (k + 1), by omega, k + 1, rfl, by omega, ?_, ?_⟩; rotate_left 1; (refine S.keep ?_; repeat (first | exact trivial | refine ⟨rfl, ?_⟩)); rw [hfp, idxF_at (by omega), if_neg (by rw [atN_some hx, decide_eq_true_eq]; assumption)])
  (skip; (try simp only [tq] at h))
  (refine wp_exit ?_; conv => whnf)
  clear hZ Z
  (revert S a; revert hZ Z; refine go10 5 ?_; intro a S)
  refine wp_ret (fin_ret S (results1 Tryz.results82 (RV.tmp S rfl)) ?_)
  exact zzEvL1
theorem containsS2Ct (F : Heap) (l : List (List UInt8)) (s : List UInt8) (v : Value) (h : LiM F 1 StR v l) : Ct Tryz.prog 55 [v, .string (bs s)] F [] (fun _ _ u => u = .bool (decide (s ∈ l))) := by
  have hc := indexS2Ct F l s v h
  obtain ⟨ao, cap, rfl, hcap, hpos⟩ := h
  refine Ct.enter Tryz.func55 rfl Tryz.ntmps55 rfl fun w0 a S => ?_
  (revert S a; refine go01 7 ?_; intro Z hZ a S)
  (refine wpl_call0 S rfl rfl rfl rfl rfl rfl (hc) rfl ?_; clear S a; intro v a w hv S; subst hv)
  (revert S a; revert hZ Z; refine go10 4 ?_; intro a S)
  refine wp_ret (fin_ret S (results1 Tryz.results55 (RV.tmp S rfl)) ?_)
  (congr 1; show anyN (atN l fun x => decide (s = x)) l.length = _; rw [anyN_list (q := fun x => decide (s = x)) (fun k x hx => atN_some hx), Bool.eq_iff_iff, List.any_eq_true, decide_eq_true_eq]; exact ⟨fun ⟨x, h1, h2⟩ => (by rw [of_decide_eq_true h2]; exact h1), fun h1 => ⟨s, h1, decide_eq_true rfl⟩⟩)
end Go.Proofs.YtigblodhdfnleaaGreatDoor
