/- Walks: form, Eval. The walk of Eval. The plain law of EvalPaper: ints and bigs come to the same; sums, products, and, or, not, texts put together the other way about or otherwise. Walks: Same of values; what the law makes; comes. -/
import Derived.Test.YtigblodhdfnleaaGreatDoorEvL
import Derived.Test.YtigblodhdfnleaaGreatDoorEv
namespace Go.Proofs.YtigblodhdfnleaaGreatDoor
open Go Go.Wk Go.Un Go.De Go.Num
set_option linter.unusedSimpArgs false
set_option linter.unusedVariables false
attribute [local irreducible] Go.wpList Go.Code.wp Go.wpStill Go.Wk.wpPre Go.bodyPost Go.Calls Go.Wk.Ct Go.Wk.OwnS
attribute [local irreducible] Go.Wk.wpG Go.Wk.wpM

theorem fK4 {h : EH} {n : Nat} (k : h.k = 4) : formK h n = (decide (n ≠ 1) && decide (n ≤ 16)) := by unfold formK; rw [if_pos k]
theorem fK5 {h : EH} {n : Nat} (k : h.k = 5) : formK h n = true := by unfold formK; rw [if_neg (by omega), if_pos k]
theorem fK7 {h : EH} {n : Nat} (k : h.k = 7) : formK h n = decide (n = 1) := by unfold formK; rw [if_neg (by omega), if_neg (by omega), if_pos k]
theorem fK8 {h : EH} {n : Nat} (k : h.k = 8) : formK h n = decide (n = 3) := by unfold formK; rw [if_neg (by omega), if_neg (by omega), if_neg (by omega), if_pos k]
theorem fK6 {h : EH} {n : Nat} (k : h.k = 6) : formK h n = (((((op2 h.nm).isSome || decide (h.nm = sAnd)) || decide (h.nm = sOr)) && decide (n = 2)) || (decide (n = 1) && decide (h.nm ∈ ones))) := by unfold formK; rw [if_neg (by omega), if_neg (by omega), if_neg (by omega), if_neg (by omega), if_pos k]
theorem fK0 {h : EH} {n : Nat} (k : h.k ≠ 4 ∧ h.k ≠ 5 ∧ h.k ≠ 7 ∧ h.k ≠ 8 ∧ h.k ≠ 6) : formK h n = false := by unfold formK; rw [if_neg k.1, if_neg k.2.1, if_neg k.2.2.1, if_neg k.2.2.2.1, if_neg k.2.2.2.2]
theorem formE_k {h : EH} {L : Ef} (h1 : h.k ≠ 1) (h2 : h.k ≠ 2) : formE h L = (formK h L.len && formEL L) := by unfold formE; rw [if_neg h1, if_neg h2]
def FmC (n : Nat) : Prop := ∀ (F : Heap) (bm : Nat) (cs : List KC) (vs : List Bd) (h : EH) (L : Ef) (xs : List Value), L.size < n → Mac F bm cs vs → ExC F xs h L → GE h L → Ct Tryz.prog 21 [ptr bm, .agg ⟨xs⟩] F [] (fun _ _ u => u = .bool (formE h L))
theorem form1Ct {n : Nat} (hD : FmC n) (F : Heap) (b bm : Nat) (cs : List KC) (vs : List Bd) (h : EH) (L : Ef) (xs : List Value) (hb : Cel F b 0 (ptr bm)) (hM : Mac F bm cs vs) (hn : L.size < n) (hX : ExC F xs h L) (hg : GE h L) : Ct Tryz.prog 56 ([] ++ [.agg ⟨xs⟩] ++ [ptr b]) F [] (fun _ _ u => u = .bool (!formE h L)) := by
  have hc := hD F bm cs vs h L xs hn hM hX hg
  obtain ⟨a1, n1, c1, ao, cap, rfl, -, -⟩ := exc_slc hX
  refine Ct.enter Tryz.func56 rfl Tryz.ntmps56 rfl fun w0 a S => ?_
  refine wp_sr fun Z hZ => ?_
  (refine wpl_box S rfl rfl rfl rfl rfl ?_; clear S a; intro b2 a w S)
  (revert S a; revert hZ Z; refine go11 4 ?_; intro Z hZ a S)
  (refine wpl_v S rfl rfl rfl (sv_loadF S rfl rfl hb) ?_; clear S a; intro a S)
  (revert S a; refine go00 1 ?_; intro a S)
  (refine wpl_call0 S rfl rfl rfl rfl rfl rfl (hc) rfl ?_; clear S a; intro v a w hv S; subst hv)
  (revert S a; revert hZ Z; refine go10 4 ?_; intro a S)
  refine wp_ret (fin_ret S (results1 Tryz.results56 (RV.tmp S rfl)) ?_)
  rfl
theorem ones_lim {F : Heap} {b : Nat} {e : TypeId} {R} (h : F b = some (.cells ⟨[.string (bs sNot), .string (bs sNeg), .string (bs sLen), .string (bs sBig), .string (bs sInt)]⟩ e R)) : LiM F 1 StR (.slice (some ⟨b, 0, none⟩) 5 5) ones := by
  refine ⟨_, _, rfl, ⟨Nat.le_refl 5, show 5 ≤ _ by decide⟩, fun _ => ⟨b, 0, rfl, fun k z hz => ?_⟩⟩
  match k, hz with
  | 0, hz => cases hz; exact ⟨_, fun j u hj => ⟨_, _, _, h, by match j, hj with | 0, hj => exact hj⟩, rfl, rfl⟩
  | 1, hz => cases hz; exact ⟨_, fun j u hj => ⟨_, _, _, h, by match j, hj with | 0, hj => exact hj⟩, rfl, rfl⟩
  | 2, hz => cases hz; exact ⟨_, fun j u hj => ⟨_, _, _, h, by match j, hj with | 0, hj => exact hj⟩, rfl, rfl⟩
  | 3, hz => cases hz; exact ⟨_, fun j u hj => ⟨_, _, _, h, by match j, hj with | 0, hj => exact hj⟩, rfl, rfl⟩
  | 4, hz => cases hz; exact ⟨_, fun j u hj => ⟨_, _, _, h, by match j, hj with | 0, hj => exact hj⟩, rfl, rfl⟩
theorem ops_some {F : Heap} {es : List (List UInt8 × Value)} (h : OpsM F es ops2) (s : List UInt8) : (mGet es s).isSome = (op2 s).isSome := by
  rcases h.get s with ⟨f, u, h1, h2, -⟩ | ⟨h1, h2⟩
  · rw [h2, show op2 s = some f from h1]; rfl
  · rw [h2, show op2 s = none from h1]; rfl
theorem zzEvM0 {p : Prop} (h : p := by (congr 1; first | (rw [formE_k hk1 hk2, ← ht6, (by assumption : t6 = true), Bool.true_and, formEL_any, anyN_rose (q := fun h L' => !formE h L') (fun k x hx => atR_some hx)]; done) | (rw [formE_k hk1 hk2, ← ht6, (by assumption : t6 = false), Bool.false_and]; done) | (unfold formE; first | (rw [if_pos (by omega)]; rfl) | (rw [if_neg (by omega), if_pos (by omega)]; done)) | trace_state)) : p := h
theorem zzEvM1 {p : Prop} (h : p := by ((first | (refine ⟨F5, ?_⟩; apply Exists.intro; refine ⟨hle5, ?_⟩; apply And.intro) | (refine ⟨F, ?_⟩; apply Exists.intro; refine ⟨fun _ _ h => h, ?_⟩; apply And.intro)); rotate_left 1; (refine ⟨⟨by omega, by omega⟩, ?_⟩; refine S.keep ?_; repeat (first | exact trivial | refine ⟨rfl, ?_⟩)); first | (rw [fK5 (by omega)]; done) | (rw [fK7 (by omega), Bool.eq_iff_iff, beq_iff_eq, decide_eq_true_eq]; omega) | (rw [fK8 (by omega), Bool.eq_iff_iff, beq_iff_eq, decide_eq_true_eq]; omega) | (rw [fK4 (by omega), decide_eq_false (show ¬ L.len ≠ 1 by omega)]; rfl) | (rw [fK4 (by omega), decide_eq_true (show L.len ≠ 1 by omega), Bool.true_and, Bool.eq_iff_iff, decide_eq_true_eq, decide_eq_true_eq]; omega) | (rw [fK0 (by omega)]; done) | (rw [fK6 (by omega), ← ht8, (by assumption : t8 = true), decide_eq_true (show L.len = 2 by omega)]; rfl) | (rw [fK6 (by omega), decide_eq_false (show ¬ L.len = 2 by omega), Bool.and_false, Bool.false_or]; first | (rw [decide_eq_true (show L.len = 1 by omega), Bool.true_and]; done) | (rw [decide_eq_false (show ¬ L.len = 1 by omega)]; rfl)) | (rw [fK6 (by omega), ← ht8, (by assumption : t8 = false), Bool.false_and, Bool.false_or]; first | (rw [decide_eq_true (show L.len = 1 by omega), Bool.true_and]; done) | (rw [decide_eq_false (show ¬ L.len = 1 by omega)]; rfl)) | trace_state)) : p := h
theorem zzEvM2 {p : Prop} (h : p := by (apply Exists.intro; apply And.intro; rotate_left 1; (refine S.keep ?_; repeat (first | exact trivial | refine ⟨rfl, ?_⟩)); first | (simp only [*, Bool.true_or, Bool.false_or, Bool.or_true, decide_true, beqL]; done) | (rw [beqL, (by assumption : (op2 eh.nm).isSome = false), decide_eq_false (show ¬ eh.nm = sAnd by assumption)]; rfl) | (rw [(by assumption : (op2 eh.nm).isSome = false), decide_eq_true (show eh.nm = sAnd by assumption)]; rfl) | (rw [(by assumption : (op2 eh.nm).isSome = true)]; rfl) | trace_state)) : p := h
set_option maxRecDepth 20000 in
set_option maxHeartbeats 32000000 in
theorem formCt : ∀ n, FmC n := by
  intro n
  induction n with
  | zero => intro F bm cs vs h L xs hn; omega
  | succ n ih =>
  intro F bm cs vs eh L xs hn hM hX hg
  have hMc := hM
  obtain ⟨a1, n1, c1, ao, cap, rfl, hvl, hL⟩ := exc_slc hX
  obtain ⟨⟨tv, aov, capv, bt, es, hm0, hm1, hm2, hvs, hes, hops, hK⟩, hT, hEr, hGB⟩ := hM
  have hsv : eh.v.s.length ≤ 200000 := hg.1.1.2
  have hzv : eh.vl.size ≤ 5000 := hg.1.2.2
  have hck := checkVCt F eh.v eh.vl [.int .u8 (eh.v.k : Int), .int .i64 eh.v.n, .string (bs eh.v.s), .slice a1 n1 c1] (by omega) ⟨_, rfl, hvl, by omega⟩
  refine Ct.enter Tryz.func21 rfl Tryz.ntmps21 rfl fun w0 a S => ?_
  refine wp_sr fun Z hZ => ?_
  (refine wpl_box S rfl rfl rfl rfl rfl ?_; clear S a; intro b2 a w S)
  (refine wpl_box S rfl rfl rfl rfl rfl ?_; clear S a; intro b3 a w S)
  (revert S a; revert hZ Z; refine go10 14 ?_; intro a S)
  (refine wp_seq_k ?_; intro Z hZ)
  replace hZ : ∀ (a' : Act) (w' : World), (∃ (F3 : Heap) (t : Bool), (∀ b o, F b = some o → F3 b = some o) ∧ t = formK eh L.len ∧ (eh.k ≠ 1 ∧ eh.k ≠ 2) ∧ St 86 [(2, ptr b2), (3, ptr b3), (4, .bool false), (6, .bool t)] w0 F [] F3 [[(b3, .cells ⟨[.int .u8 (eh.k : Int), .int .i64 eh.l, .int .i64 eh.c, .string (bs eh.nm), .int .u8 (eh.v.k : Int), .int .i64 eh.v.n, .string (bs eh.v.s), .slice a1 n1 c1, .slice ao L.len cap]⟩ 34 (0, 0))], [(b2, .cells ⟨[ptr bm]⟩ 54 (0, 0))]] a' w') → Z a' w' := (by
   (intro a w hM; refine hZ _ _ ?_; clear hZ Z; clear S; obtain ⟨F3, t6, hF3, ht6, ⟨hk1, hk2⟩, S⟩ := hM)
   (revert S a; refine go01 3 ?_; intro Z hZ a S)
   refine wpl_guard S rfl rfl rfl rfl rfl ?_ ?_
   · (clear S; intro h S; (try simp only [tq] at h))
     (revert S a; refine go00 6 ?_; intro a S)
     (replace S := St.pullB b2 S; have S' := frz1 S; clear S; obtain ⟨F6, hle6, hb2, S⟩ := S'; have hb2n : Cel F6 b2 0 (ptr bm) := ⟨_, _, _, hb2, rfl⟩; replace hL := (hL.mono hF3).mono hle6; refine wpl_call0 S rfl rfl rfl rfl rfl rfl (cfECt F6 _ _ _ hL.sq 56 [] [ptr b2] (atR L fun h L' => !formE h L') (fun k cs' hk hC => by obtain ⟨x, c1, u, hx, rfl, hR, hT⟩ := hC; rw [atR_some hx]; have hxs := Rose.size_get hx; exact form1Ct ih F6 b2 bm cs vs x.1 x.2 _ hb2n ((hMc.mono hF3).mono hle6) (by omega) (exc_of hR hT) (GEl.get hg.2.2 hx))) rfl ?_; clear S a; intro v a w hv S; subst hv)
     (revert S a; revert hZ Z; refine go10 6 ?_; intro a S)
     refine wp_ret (fin_ret S (results1 Tryz.results21 (RV.tmp S rfl)) ?_)
     exact zzEvM0
   (intro h; clear S a; intro a S; (try simp only [tq] at h))
   (revert S a; revert hZ Z; refine go10 8 ?_; intro a S)
   refine wp_ret (fin_ret S (results1 Tryz.results21 (RV.tmp S rfl)) ?_)
   (congr 1; first | (rw [formE_k hk1 hk2, ← ht6, (by assumption : t6 = true), Bool.true_and, formEL_any, anyN_rose (q := fun h L' => !formE h L') (fun k x hx => atR_some hx)]; done) | (rw [formE_k hk1 hk2, ← ht6, (by assumption : t6 = false), Bool.false_and]; done) | (unfold formE; first | (rw [if_pos (by omega)]; rfl) | (rw [if_neg (by omega), if_pos (by omega)]; done)) | trace_state))
  (revert S a; refine go00 11 ?_; intro a S)
  refine wpc_split S rfl (fun h => ?_) (fun h => ?_)
  · (skip; (try simp only [tq] at h))
    (revert S a; refine go01 3 ?_; intro Z hZ a S)
    (refine wpl_call0 S rfl rfl rfl rfl rfl rfl (hck) rfl ?_; clear S a; intro v a w hv S; subst hv)
    (revert S a; revert hZ Z; refine go10 4 ?_; intro a S)
    refine wp_ret (fin_ret S (results1 Tryz.results21 (RV.tmp S rfl)) ?_)
    exact zzEvM0
  (skip; (try simp only [tq] at h))
  (revert S a; refine go00 5 ?_; intro a S)
  refine wpc_split S rfl (fun h => ?_) (fun h => ?_)
  · (skip; (try simp only [tq] at h))
    (revert S a; refine go00 4 ?_; intro a S)
    refine wp_ret (fin_ret S (results1 Tryz.results21 (RV.tmp S rfl)) ?_)
    exact zzEvM0
  (skip; (try simp only [tq] at h))
  (revert S a; refine go00 5 ?_; intro a S)
  refine wpc_split S rfl (fun h => ?_) (fun h => ?_)
  · (skip; (try simp only [tq] at h))
    (revert S a; refine go00 4 ?_; intro a S)
    refine wpl_guard S rfl rfl rfl rfl rfl ?_ ?_
    · (clear S; intro h S; (try simp only [tq] at h))
      (revert S a; refine go00 6 ?_; intro a S)
      (refine hZ _ _ ?_)
      exact zzEvM1
    (intro h; clear S a; intro a S; (try simp only [tq] at h))
    (revert S a; refine go00 4 ?_; intro a S)
    (refine hZ _ _ ?_)
    exact zzEvM1
  (skip; (try simp only [tq] at h))
  (revert S a; refine go00 5 ?_; intro a S)
  refine wpc_split S rfl (fun h => ?_) (fun h => ?_)
  · (skip; (try simp only [tq] at h))
    (revert S a; refine go00 3 ?_; intro a S)
    (refine hZ _ _ ?_)
    exact zzEvM1
  (skip; (try simp only [tq] at h))
  (revert S a; refine go00 5 ?_; intro a S)
  refine wpc_split S rfl (fun h => ?_) (fun h => ?_)
  · (skip; (try simp only [tq] at h))
    (revert S a; refine go00 5 ?_; intro a S)
    (refine hZ _ _ ?_)
    exact zzEvM1
  (skip; (try simp only [tq] at h))
  (revert S a; refine go00 5 ?_; intro a S)
  refine wpc_split S rfl (fun h => ?_) (fun h => ?_)
  · (skip; (try simp only [tq] at h))
    (revert S a; refine go00 5 ?_; intro a S)
    (refine hZ _ _ ?_)
    exact zzEvM1
  (skip; (try simp only [tq] at h))
  (revert S a; refine go00 5 ?_; intro a S)
  refine wpc_split S rfl (fun h => ?_) (fun h => ?_)
  · (skip; (try simp only [tq] at h))
    (refine wp_seq_k ?_; intro Z hZ)
    (refine wpc_mixM [0, 1, 2, 3, 4, 5, 6, 7, 8, 9] [0, 3, 5, 6] [] (.one 0 (.one 1 (.one 2 (.one 3 (.one 4 (.one 5 (.one 6 (.one 7 (.one 8 (.one 9 (.one 10 (.one 11 .nil)))))))))))) [b2, b3] S mixed (by kernel_rfl) ?_; clear S; intro w S)
    (refine wpm_o b2 S rfl rfl rfl (want_none _ rfl) rfl rfl ?_; clear S a; intro a S)
    (refine wpm_s S rfl rfl rfl (want_none _ rfl) rfl rfl ?_; clear S a; intro a S)
    (refine wpm_f S rfl rfl rfl (want_none _ rfl) rfl rfl ?_; clear S a; intro a S)
    (refine wpm_lateF S rfl rfl rfl (want_none _ rfl) rfl rfl (fun w' S => sv_loadF S rfl rfl hm2) ?_; clear S a; intro a S)
    (refine wpm_f S rfl rfl rfl (want_none _ rfl) rfl rfl ?_; clear S a; intro a S)
    (refine wpm_o b3 S rfl rfl rfl (want_none _ rfl) rfl rfl ?_; clear S a; intro a S)
    (refine wpm_lateF S rfl rfl rfl (want_none _ rfl) rfl rfl (fun w' S => sv_lookupF (enc := kS) S rfl rfl rfl hes) ?_; clear S a; intro a S)
    (rw [if_pos rfl, ops_some hops] at S; generalize (mGet es eh.nm).getD _ = gf at S)
    iterate 3 (refine wpm_p S rfl rfl rfl (want_none _ rfl) rfl rfl ?_; clear S a; intro a S)
    refine wpm_eff rfl rfl (kwa S) ?_
    (revert S a; refine go00 2 ?_; intro a S)
    refine wpm_eff rfl rfl (kwa S) ?_
    (revert S a; refine go00 2 ?_; intro a S)
    (refine wpm_nil (kwa S) (hZ _ _ ?_); clear hZ Z; refine wp_seq_k fun Z hZ => ?_)
    replace hZ : ∀ (a' : Act) (w' : World), (∃ (t : Bool), t = (((op2 eh.nm).isSome || decide (eh.nm = sAnd)) || decide (eh.nm = sOr)) ∧ St 86 [(2, ptr b2), (3, ptr b3), (4, .bool false), (5, .int .i64 L.len), (8, .bool t)] w0 F [] F [[(b3, .cells ⟨[.int .u8 (eh.k : Int), .int .i64 eh.l, .int .i64 eh.c, .string (bs eh.nm), .int .u8 (eh.v.k : Int), .int .i64 eh.v.n, .string (bs eh.v.s), .slice a1 n1 c1, .slice ao L.len cap]⟩ 34 (0, 0))], [(b2, .cells ⟨[ptr bm]⟩ 54 (0, 0))]] a' w') → Z a' w' := (by
     (intro a w hM; refine hZ _ _ ?_; clear hZ Z; clear S; obtain ⟨t8, ht8, S⟩ := hM)
     (revert S a; refine go00 3 ?_; intro a S)
     refine wpl_guard S rfl rfl rfl rfl rfl ?_ ?_
     · (clear S; intro h S; (try simp only [tq] at h))
       (revert S a; refine go00 5 ?_; intro a S)
       refine wpl_guard S rfl rfl rfl rfl rfl ?_ ?_
       · (clear S; intro h S; (try simp only [tq] at h))
         (revert S a; refine go00 5 ?_; intro a S)
         refine wpl_guard S rfl rfl rfl rfl rfl ?_ ?_
         · (clear S; intro h S; (try simp only [tq] at h))
           (refine wpl_buildSlice S rfl rfl rfl rfl rfl rfl (by rfl) (by simp [Value.cells, splice, splice]) rfl (by rfl) (by rfl) ?_; clear S a; intro b72 a w hown S)
           (revert S a; refine go00 5 ?_; intro a S)
           (replace S := St.pullB b72 S; have S' := frz1 S; clear S; obtain ⟨F5, hle5, hb72, S⟩ := S'; refine wpl_call0 S rfl rfl rfl rfl rfl rfl (containsS2Ct F5 ones eh.nm _ (ones_lim hb72)) rfl ?_; clear S a; intro v a w hv S; subst hv)
           (revert S a; refine go00 5 ?_; intro a S)
           (refine hZ _ _ ?_)
           exact zzEvM1
         (intro h; clear S a; intro a S; (try simp only [tq] at h))
         (revert S a; refine go00 8 ?_; intro a S)
         (refine hZ _ _ ?_)
         exact zzEvM1
       (intro h; clear S a; intro a S; (try simp only [tq] at h))
       (revert S a; refine go00 2 ?_; intro a S)
       iterate 4 (refine wpl_skipU S rfl rfl rfl rfl rfl ?_; clear S a; intro a S)
       (revert S a; refine go00 4 ?_; intro a S)
       (refine hZ _ _ ?_)
       exact zzEvM1
     (intro h; clear S a; intro a S; (try simp only [tq] at h))
     (revert S a; refine go00 9 ?_; intro a S)
     refine wpl_guard S rfl rfl rfl rfl rfl ?_ ?_
     · (clear S; intro h S; (try simp only [tq] at h))
       (refine wpl_buildSlice S rfl rfl rfl rfl rfl rfl (by rfl) (by simp [Value.cells, splice, splice]) rfl (by rfl) (by rfl) ?_; clear S a; intro b72 a w hown S)
       (revert S a; refine go00 5 ?_; intro a S)
       (replace S := St.pullB b72 S; have S' := frz1 S; clear S; obtain ⟨F5, hle5, hb72, S⟩ := S'; refine wpl_call0 S rfl rfl rfl rfl rfl rfl (containsS2Ct F5 ones eh.nm _ (ones_lim hb72)) rfl ?_; clear S a; intro v a w hv S; subst hv)
       (revert S a; refine go00 5 ?_; intro a S)
       (refine hZ _ _ ?_)
       exact zzEvM1
     (intro h; clear S a; intro a S; (try simp only [tq] at h))
     (revert S a; refine go00 8 ?_; intro a S)
     (refine hZ _ _ ?_)
     ((first | (refine ⟨F5, ?_⟩; apply Exists.intro; refine ⟨hle5, ?_⟩; apply And.intro) | (refine ⟨F, ?_⟩; apply Exists.intro; refine ⟨fun _ _ h => h, ?_⟩; apply And.intro)); rotate_left 1; (refine ⟨⟨by omega, by omega⟩, ?_⟩; refine S.keep ?_; repeat (first | exact trivial | refine ⟨rfl, ?_⟩)); first | (rw [fK5 (by omega)]; done) | (rw [fK7 (by omega), Bool.eq_iff_iff, beq_iff_eq, decide_eq_true_eq]; omega) | (rw [fK8 (by omega), Bool.eq_iff_iff, beq_iff_eq, decide_eq_true_eq]; omega) | (rw [fK4 (by omega), decide_eq_false (show ¬ L.len ≠ 1 by omega)]; rfl) | (rw [fK4 (by omega), decide_eq_true (show L.len ≠ 1 by omega), Bool.true_and, Bool.eq_iff_iff, decide_eq_true_eq, decide_eq_true_eq]; omega) | (rw [fK0 (by omega)]; done) | (rw [fK6 (by omega), ← ht8, (by assumption : t8 = true), decide_eq_true (show L.len = 2 by omega)]; rfl) | (rw [fK6 (by omega), decide_eq_false (show ¬ L.len = 2 by omega), Bool.and_false, Bool.false_or]; first | (rw [decide_eq_true (show L.len = 1 by omega), Bool.true_and]; done) | (rw [decide_eq_false (show ¬ L.len = 1 by omega)]; rfl)) | (rw [fK6 (by omega), ← ht8, (by assumption : t8 = false), Bool.false_and, Bool.false_or]; first | (rw [decide_eq_true (show L.len = 1 by omega), Bool.true_and]; done) | (rw [decide_eq_false (show ¬ L.len = 1 by omega)]; rfl)) | trace_state))
    (revert S a; refine go00 3 ?_; intro a S)
    refine wpl_guard S rfl rfl rfl rfl rfl ?_ ?_
    · (clear S; intro h S; (try simp only [tq] at h))
      (revert S a; refine go00 7 ?_; intro a S)
      refine wpl_guard S rfl rfl rfl rfl rfl ?_ ?_
      · (clear S; intro h S; (try simp only [tq] at h))
        (revert S a; refine go00 8 ?_; intro a S)
        (refine hZ _ _ ?_)
        exact zzEvM2
      (intro h; clear S a; intro a S; (try simp only [tq] at h))
      (revert S a; refine go00 5 ?_; intro a S)
      (refine hZ _ _ ?_)
      exact zzEvM2
    (intro h; clear S a; intro a S; (try simp only [tq] at h))
    (revert S a; refine go00 10 ?_; intro a S)
    (refine hZ _ _ ?_)
    exact zzEvM2
  (skip; (try simp only [tq] at h))
  refine wp_skip ?_
  (refine hZ _ _ ?_)
  exact zzEvM1
end Go.Proofs.YtigblodhdfnleaaGreatDoor
namespace Go.Proofs.YtigblodhdfnleaaGreatDoor
open Go Go.Wk Go.Un Go.De Go.Num
set_option linter.unusedSimpArgs false
set_option linter.unusedVariables false
attribute [local irreducible] Go.wpList Go.Code.wp Go.wpStill Go.Wk.wpPre Go.bodyPost Go.Calls Go.Wk.Ct Go.Wk.OwnS
attribute [local irreducible] Go.Wk.wpG Go.Wk.wpM

theorem evl1Ct (F : Heap) (x : Bd) (cs : List Value) (gx : GV x.2) (hf : BdR F x cs) : Ct Tryz.prog 23 ([] ++ [.agg ⟨cs⟩] ++ []) F [] (fun _ _ u => u = .bool (!mayV x.2)) := by
  obtain ⟨c, rfl, hV⟩ := hf
  have hck := checkVCt F x.2.1 x.2.2 c (Nat.le_trans gx.2.2 (by decide)) hV
  obtain ⟨a4, c4, rfl, hT4, hs4⟩ := vac_slc hV
  refine Ct.enter Tryz.func23 rfl Tryz.ntmps23 rfl fun w0 a S => ?_
  refine wp_sr fun Z hZ => ?_
  (refine wpl_box S rfl rfl rfl rfl rfl ?_; clear S a; intro b1 a w S)
  (revert S a; revert hZ Z; refine go11 6 ?_; intro Z hZ a S)
  (refine wpl_call0 S rfl rfl rfl rfl rfl rfl (hck) rfl ?_; clear S a; intro v a w hv S; subst hv)
  (revert S a; revert hZ Z; refine go10 4 ?_; intro a S)
  refine wp_ret (fin_ret S (results1 Tryz.results23 (RV.tmp S rfl)) ?_)
  rfl
theorem all_any (vs : List Bd) : (vs.all fun x => mayV x.2) = !(vs.any fun x => !mayV x.2) := by
  induction vs with
  | nil => rfl
  | cons x r ih => rw [List.all_cons, List.any_cons, ih]; cases mayV x.2 <;> simp
theorem zzEvN0 {p : Prop} (h : p := by (unfold evalO; rw [all_any]; first | (rw [if_pos (by assumption)]; exact ans_no _ _) | (rw [if_neg (by rw [(by assumption : deepE L 1 = false)]; decide)]; first | (rw [if_pos (by assumption)]; exact ans_no _ _) | (rw [if_neg (by rw [hfe]; decide), if_neg (by rw [(by assumption : (vs.any fun x => !mayV x.2) = false)]; decide)]; first | (rw [hno (by assumption)]; exact ans_no _ _) | (have he0 : (evE css vs eh L).1 = 0 := (by omega); refine ⟨_, ?_, hV7⟩; rw [he0]; rfl)) | (rw [if_neg (by rw [(by assumption : formE eh L = true)]; decide), if_pos (by rw [(by assumption : (vs.any fun x => !mayV x.2) = true)]; rfl)]; exact ans_no _ _)) | trace_state)) : p := h
set_option maxRecDepth 20000 in
set_option maxHeartbeats 16000000 in
theorem evalCt (F : Heap) (hT : TabF F) (hE : ErrF F) (tv : Option Addr) (css : List KC) (hK : ∀ (F' : Heap) (nm : List UInt8), (∀ b o, F b = some o → F' b = some o) → Ct Tryz.prog 86 [.pointer tv, .string (bs nm)] F' [] (fun F2 _ u => ConsR F2 u (findC css nm)))
    (vs : List Bd) (vv : Value) (hvs : LiM F 5 BdR vv vs) (hGB : GVB vs) (eh : EH) (L : Ef) (xs : List Value) (hX : ExC F xs eh L) (hg : GE eh L) :
    Ct Tryz.prog 6 [.pointer tv, .agg ⟨xs⟩, vv] F [] (fun F' _ u => AnsR F' u (evalO css vs eh L)) := by
  have hXc := hX
  obtain ⟨a1, n1, c1, ao, cap, rfl, -, -⟩ := exc_slc hX
  have hvc := hvs
  obtain ⟨aov, capv, rfl, -, -⟩ := hvc
  have han : anyN (atN vs fun x => !mayV x.2) vs.length = vs.any fun x => !mayV x.2 := anyN_list (fun k x hx => atN_some hx)
  have hgv := evE_GV (cs := css) hGB hg
  have hno := evE_no (cs := css) (vs := vs) (h := eh) (L := L)
  refine Ct.enter Tryz.func6 rfl Tryz.ntmps6 rfl fun w0 a S => ?_
  refine wp_sr fun Z hZ => ?_
  (refine wpl_box S rfl rfl rfl rfl rfl ?_; clear S a; intro b4 a w S)
  (refine wpl_alloc S rfl rfl rfl rfl ?_; clear S a; intro b6 a w S)
  (revert S a; revert hZ Z; refine go11 6 ?_; intro Z hZ a S)
  (refine wpl_callF S rfl rfl rfl rfl rfl rfl (operatorsCt F hT) rfl ?_; clear S a; intro u9 F4 a w hv hF4 S; obtain ⟨bt, es, rfl, hes, hops⟩ := hv)
  (revert S a; refine go00 1 ?_; intro a S)
  (refine wpl_box S rfl rfl rfl rfl rfl ?_; clear S a; intro b15 a w S)
  (revert S a; revert hZ Z; refine go11 5 ?_; intro Z hZ a S)
  (refine wp_seq_k ?_; intro Z hZ)
  (replace S := St.pullB b15 S; have S' := frz1 S; clear S; obtain ⟨F5, hle5, hb15, S⟩ := S'; have hF5 : ∀ b o, F b = some o → F5 b = some o := fun b o h => hle5 _ _ (hF4 _ _ h); have hM : Mac F5 b15 css vs := ⟨⟨tv, aov, capv, bt, es, ⟨_, _, _, hb15, rfl⟩, ⟨_, _, _, hb15, rfl⟩, ⟨_, _, _, hb15, rfl⟩, hvs.mono hF5, hle5 _ _ hes, hops.mono hle5, fun F' nm h => hK F' nm fun b o h9 => h _ _ (hF5 _ _ h9)⟩, hT.mono hF5, hE.mono hF5, hGB⟩; replace hXc := hXc.mono hF5)
  (revert S a; refine go00 2 ?_; intro a S)
  (refine wpl_call0 S rfl rfl rfl rfl rfl rfl (deepCt (L.size + 1) F5 eh L _ 1 (Nat.lt_succ_self _) hXc (by decide) (by decide)) rfl ?_; clear S a; intro v a w hv S; subst hv)
  (revert S a; revert hZ Z; refine go10 3 ?_; intro a S)
  refine wpc_split S rfl (fun h => ?_) (fun h => ?_)
  · (skip; (try simp only [tq] at h))
    (revert S a; refine go01 2 ?_; intro Z hZ a S)
    (refine wpl_storeO S rfl rfl rfl rfl rfl (by rfl) (by simp [Value.cells, Value.oneCell', splice]) (by rfl) ?_; clear S; intro w S)
    (revert S a; revert hZ Z; refine go10 3 ?_; intro a S)
    refine wp_ret (fin_ret S (results2 Tryz.results6 (RV.cellO S rfl (by rfl)) (RV.tmp S rfl)) ?_)
    exact zzEvN0
  (skip; (try simp only [tq] at h))
  (revert S a; refine go01 3 ?_; intro Z hZ a S)
  (refine wpl_call0 S rfl rfl rfl rfl rfl rfl (formCt (L.size + 1) F5 b15 css vs eh L _ (Nat.lt_succ_self _) hM hXc hg) rfl ?_; clear S a; intro v a w hv S; subst hv)
  (revert S a; revert hZ Z; refine go10 4 ?_; intro a S)
  refine wpc_split S rfl (fun h => ?_) (fun h => ?_)
  · (skip; (try simp only [tq] at h))
    (revert S a; refine go01 2 ?_; intro Z hZ a S)
    (refine wpl_storeO S rfl rfl rfl rfl rfl (by rfl) (by simp [Value.cells, Value.oneCell', splice]) (by rfl) ?_; clear S; intro w S)
    (revert S a; revert hZ Z; refine go10 3 ?_; intro a S)
    refine wp_ret (fin_ret S (results2 Tryz.results6 (RV.cellO S rfl (by rfl)) (RV.tmp S rfl)) ?_)
    exact zzEvN0
  (skip; (try simp only [tq] at h))
  (revert S a; refine go01 2 ?_; intro Z hZ a S)
  (refine wpl_call0 S rfl rfl rfl rfl rfl rfl (cfBCt F5 _ _ _ (hvs.mono hF5).sq 23 [] [] (atN vs fun x => !mayV x.2) (fun k cs hk hC => by obtain ⟨x, hx, hR⟩ := hC; rw [atN_some hx]; exact evl1Ct F5 x cs (hGB x (List.mem_of_getElem? hx)) hR)) rfl ?_; clear S a; intro v a w hv S; subst hv; rw [han] at S)
  (revert S a; revert hZ Z; refine go10 3 ?_; intro a S)
  refine wpc_split S rfl (fun h => ?_) (fun h => ?_)
  · (skip; (try simp only [tq] at h))
    (revert S a; refine go01 2 ?_; intro Z hZ a S)
    (refine wpl_storeO S rfl rfl rfl rfl rfl (by rfl) (by simp [Value.cells, Value.oneCell', splice]) (by rfl) ?_; clear S; intro w S)
    (revert S a; revert hZ Z; refine go10 3 ?_; intro a S)
    refine wp_ret (fin_ret S (results2 Tryz.results6 (RV.cellO S rfl (by rfl)) (RV.tmp S rfl)) ?_)
    exact zzEvN0
  (skip; (try simp only [tq] at h))
  (revert S a; revert hZ Z; refine go11 5 ?_; intro Z hZ a S)
  (have hfe : formE eh L = true := (by assumption); refine wpl_callF S rfl rfl rfl rfl rfl rfl (evCt (L.size + 1) F5 b15 css vs eh L _ (Nat.lt_succ_self _) hM hXc hg hfe) rfl ?_; clear S a; intro u8 F6 a w hv hF6 S; obtain ⟨cs6, rfl, hV6⟩ := hv; have hV6c := hV6; obtain ⟨a6, c6, rfl, hT6, hs6⟩ := vac_slc hV6)
  (revert S a; refine go00 3 ?_; intro a S)
  (refine wpl_alloc S rfl rfl rfl rfl ?_; clear S a; intro b9 a w S)
  (refine wpl_storeO S rfl rfl rfl rfl rfl (by rfl) (by simp [Value.cells, Value.oneCell', splice]) (by rfl) ?_; clear S; intro w S)
  (revert S a; revert hZ Z; refine go11 9 ?_; intro Z hZ a S)
  refine wpc_split S rfl (fun h => ?_) (fun h => ?_)
  · (skip; (try simp only [tq] at h))
    (revert S a; refine go01 3 ?_; intro Z hZ a S)
    (refine wpl_storeO S rfl rfl rfl rfl rfl (by rfl) (by simp [Value.cells, Value.oneCell', splice]) (by rfl) ?_; clear S; intro w S)
    (revert S a; revert hZ Z; refine go10 3 ?_; intro a S)
    refine wp_ret (fin_ret S (results2 Tryz.results6 (RV.cellO S rfl (by rfl)) (RV.tmp S rfl)) ?_)
    exact zzEvN0
  (skip; (try simp only [tq] at h))
  (revert S a; revert hZ Z; refine go11 4 ?_; intro Z hZ a S)
  (refine wpl_callF S rfl rfl rfl rfl rfl rfl (ownVCt _ F6 _ _ _ (Nat.le_refl _) (Nat.le_trans hgv.2.2 (by decide)) hV6c) rfl ?_; clear S a; intro u7 F7 a w hv hF7 S; obtain ⟨cs7, rfl, hV7⟩ := hv; have hV7c := hV7; obtain ⟨a7, c7, rfl, hT7, hs7⟩ := vac_slc hV7)
  (refine wpl_storeO S rfl rfl rfl rfl rfl (by rfl) (by simp [Value.cells, Value.oneCell', splice]) (by rfl) ?_; clear S; intro w S)
  (revert S a; revert hZ Z; refine go10 3 ?_; intro a S)
  refine wp_ret (fin_ret S (results2 Tryz.results6 (RV.cellO S rfl (by rfl)) (RV.tmp S rfl)) ?_)
  exact zzEvN0
end Go.Proofs.YtigblodhdfnleaaGreatDoor
namespace Go.Proofs.YtigblodhdfnleaaGreatDoor
open Go Go.Wk Go.Un Go.De Go.Num
set_option linter.unusedSimpArgs false
set_option linter.unusedVariables false

abbrev Ex := EH × Ef
def litX (v : Vv) : Ex := (⟨1, 0, 0, [], v.1, v.2⟩, .nil)
def callH (s : List UInt8) : EH := ⟨6, 0, 0, s, ⟨0, 0, []⟩, .nil⟩
def callX1 (s : List UInt8) (x : Ex) : Ex := (callH s, .cons x.1 x.2 .nil)
def callX2 (s : List UInt8) (x y : Ex) : Ex := (callH s, .cons x.1 x.2 (.cons y.1 y.2 .nil))
def ifX (x y z : Ex) : Ex := (⟨8, 0, 0, [], ⟨0, 0, []⟩, .nil⟩, .cons x.1 x.2 (.cons y.1 y.2 (.cons z.1 z.2 .nil)))
/-! ### ints and bigs -/
def opn (k : Nat) : List UInt8 := if k = 0 then [43] else if k = 1 then [45] else if k = 2 then [42] else if k = 3 then [47] else [37]
def zO (k : Nat) (a b : Int) : Int := if k = 0 then a + b else if k = 1 then a - b else if k = 2 then a * b else if k = 3 then a.tdiv b else a.tmod b
theorem tmod_in {a b : Int} (ha : in64 a) : in64 (a.tmod b) := by
  have h1 : (a.tmod b).natAbs ≤ a.natAbs := by rw [Int.natAbs_tmod]; exact Nat.mod_le _ _
  unfold in64 at *
  by_cases h0 : 0 ≤ a
  · have := Int.tmod_nonneg b h0
    omega
  · have h := Int.tmod_nonneg b (show 0 ≤ -a by omega)
    rw [Int.neg_tmod] at h
    omega
theorem intO_eq {k : Nat} (hk : k ≤ 4) {a b : Int} (ha : in64 a) : intO k a b = if 3 ≤ k ∧ b = 0 then (0, 81) else if in64 (zO k a b) then (zO k a b, 0) else (0, 80) := by
  match k, hk with
  | 0, _ => rfl
  | 1, _ => rfl
  | 2, _ => rfl
  | 3, _ =>
    show (if b = 0 then ((0 : Int), (81 : Int)) else if in64 (a.tdiv b) then (a.tdiv b, 0) else (0, 80)) = _
    by_cases h : b = 0
    · rw [if_pos h, if_pos ⟨by decide, h⟩]
    · rw [if_neg h, if_neg (show ¬ (3 ≤ 3 ∧ b = 0) from fun h9 => h h9.2)]; rfl
  | 4, _ =>
    show (if b = 0 then ((0 : Int), (81 : Int)) else (a.tmod b, 0)) = _
    by_cases h : b = 0
    · rw [if_pos h, if_pos ⟨by decide, h⟩]
    · rw [if_neg h, if_neg (fun h9 => h h9.2), show zO 4 a b = a.tmod b from rfl, if_pos (tmod_in ha)]
theorem numO_int (k : Nat) (a b : Int) : numO k (intV a) (intV b) = if (intO k a b).2 ≠ 0 then noA (intO k a b).2 else yesA (intV (intO k a b).1) := rfl
theorem numO_ok {k : Nat} (hk : k ≤ 4) {a b : Int} (ha : in64 a) (h : (numO k (intV a) (intV b)).1 = 0) : numO k (intV a) (intV b) = yesA (intV (zO k a b)) ∧ in64 (zO k a b) ∧ (3 ≤ k → b ≠ 0) := by
  rw [numO_int, intO_eq hk ha] at h ⊢
  by_cases h1 : 3 ≤ k ∧ b = 0
  · rw [if_pos h1] at h; exact absurd h (by decide)
  rw [if_neg h1] at h ⊢
  by_cases h2 : in64 (zO k a b)
  · rw [if_pos h2, if_neg (fun h : (0 : Int) ≠ 0 => h rfl)]
    exact ⟨rfl, h2, fun h3 h4 => h1 ⟨h3, h4⟩⟩
  · rw [if_neg h2] at h; exact absurd h (by decide)
/-! ### the same otherwise -/
def bo2 (f : Vv → Vv → Ans) (x y : Ans) : Ans := if x.1 ≠ 0 then noA x.1 else if y.1 ≠ 0 then noA y.1 else f x.2 y.2
def bo1 (s : List UInt8) (x : Ans) : Ans := if x.1 ≠ 0 then noA x.1 else op1 s x.2
theorem b2_ok {f : Vv → Vv → Ans} {x y : Ans} (h : (bo2 f x y).1 = 0) : x.1 = 0 ∧ y.1 = 0 ∧ bo2 f x y = f x.2 y.2 ∧ (f x.2 y.2).1 = 0 := by
  unfold bo2 at h ⊢
  by_cases hx : x.1 ≠ 0
  · rw [if_pos hx] at h; exact absurd h hx
  rw [if_neg hx] at h ⊢
  by_cases hy : y.1 ≠ 0
  · rw [if_pos hy] at h; exact absurd h hy
  rw [if_neg hy] at h ⊢
  exact ⟨by simpa using hx, by simpa using hy, rfl, h⟩
theorem b1_ok {s : List UInt8} {x : Ans} (h : (bo1 s x).1 = 0) : x.1 = 0 ∧ bo1 s x = op1 s x.2 ∧ (op1 s x.2).1 = 0 := by
  unfold bo1 at h ⊢
  by_cases hx : x.1 ≠ 0
  · rw [if_pos hx] at h; exact absurd h hx
  rw [if_neg hx] at h ⊢
  exact ⟨by simpa using hx, rfl, h⟩
/-- Of two ints that are known. -/
theorem n2_ok {k : Nat} (hk : k ≤ 4) {x y : Ans} {a b : Int} (hx : x.1 = 0 → x.2 = intV a ∧ in64 a) (hy : y.1 = 0 → y.2 = intV b ∧ in64 b) (h : (bo2 (numO k) x y).1 = 0) :
    x.1 = 0 ∧ y.1 = 0 ∧ (bo2 (numO k) x y).2 = intV (zO k a b) ∧ in64 (zO k a b) ∧ (3 ≤ k → b ≠ 0) := by
  obtain ⟨h1, h2, h3, h4⟩ := b2_ok h
  obtain ⟨e1, i1⟩ := hx h1
  obtain ⟨e2, i2⟩ := hy h2
  rw [e1, e2] at h4 h3
  obtain ⟨g1, g2, g3⟩ := numO_ok hk i1 h4
  exact ⟨h1, h2, by rw [h3, g1]; rfl, g2, g3⟩
def K (x : Ans) (a : Int) : Prop := x.1 = 0 → x.2 = intV a ∧ in64 a
theorem K.lit {a : Int} (ha : in64 a) : K (yesA (intV a)) a := fun _ => ⟨rfl, ha⟩
theorem K.neg {x : Ans} {a : Int} (hx : K x a) : K (bo1 sNeg x) (0 - a) := fun h => by
  obtain ⟨h1, h2, h3⟩ := b1_ok h
  obtain ⟨e1, i1⟩ := hx h1
  rw [e1] at h2 h3
  have e : op1 sNeg (intV a) = if in64 (0 - a) then yesA (intV (0 - a)) else noA 80 := rfl
  rw [e] at h2 h3
  by_cases hi : in64 (0 - a)
  · rw [if_pos hi] at h2
    rw [h2]
    exact ⟨rfl, hi⟩
  · rw [if_neg hi] at h3; exact absurd h3 (by decide)
theorem K.same {x y : Ans} {a b : Int} (hx : K x a) (hy : K y b) (e : a = b) (h1 : x.1 = 0) (h2 : y.1 = 0) : x.2 = y.2 := by rw [(hx h1).1, (hy h2).1, e]
theorem K.quo {x y : Ans} {a b : Int} (hx : K x a) (hy : K y b) (h : (bo2 (numO 3) x y).1 = 0) : b ≠ 0 := (n2_ok (by decide) hx hy h).2.2.2.2 (by decide)
/-! order -/
/-! the pairs -/
section
variable {a b c : Int} (ha : in64 a) (hb : in64 b) (hc : in64 c)
include ha hb
include hc
end
def KT (x : Ans) (s : List UInt8) : Prop := x.1 = 0 → x.2 = textV s
theorem KT.lit (s : List UInt8) : KT (yesA (textV s)) s := fun _ => rfl
theorem KT.len {x : Ans} {s : List UInt8} (hx : KT x s) (hl : s.length ≤ 1000000) : K (bo1 sLen x) s.length := fun h => by
  obtain ⟨h1, h2, h3⟩ := b1_ok h
  rw [hx h1] at h2 h3
  have e : op1 sLen (textV s) = yesA (intV s.length) := rfl
  rw [h2, e]
  exact ⟨rfl, by unfold in64; omega⟩
end Go.Proofs.YtigblodhdfnleaaGreatDoor
namespace Go.Proofs.YtigblodhdfnleaaGreatDoor
open Go Go.Wk Go.Un Go.De Go.Num
set_option linter.unusedSimpArgs false
set_option linter.unusedVariables false
attribute [local irreducible] Go.wpList Go.Code.wp Go.wpStill Go.Wk.wpPre Go.bodyPost Go.Calls Go.Wk.Ct Go.Wk.OwnS
attribute [local irreducible] Go.Wk.wpG Go.Wk.wpM

/-! ### the same -/
def sameH (h h2 : VH) : Bool := decide (h.k = h2.k) && (decide (h.n = h2.n) && decide (h.s = h2.s))
def sameL : Vf → Vf → Bool
  | .nil, .nil => true
  | .cons h L r, .cons h2 L2 r2 => (sameH h h2 && sameL L L2) && sameL r r2
  | _, _ => false
def sameV (x y : Vv) : Bool := sameH x.1 y.1 && sameL x.2 y.2
theorem sameH_iff {h h2 : VH} : sameH h h2 = true ↔ h = h2 := by
  unfold sameH
  simp only [Bool.and_eq_true, decide_eq_true_eq]
  obtain ⟨a, b, c⟩ := h
  obtain ⟨a2, b2, c2⟩ := h2
  simp
theorem sameL_iff : ∀ {l m : Vf}, sameL l m = true ↔ l = m
  | .nil, .nil => by simp [sameL]
  | .nil, .cons _ _ _ => by simp [sameL]
  | .cons _ _ _, .nil => by simp [sameL]
  | .cons h L r, .cons h2 L2 r2 => by
    unfold sameL
    rw [Bool.and_eq_true, Bool.and_eq_true, sameH_iff, sameL_iff (l := L), sameL_iff (l := r)]
    constructor
    · rintro ⟨⟨rfl, rfl⟩, rfl⟩; rfl
    · intro e; cases e; exact ⟨⟨rfl, rfl⟩, rfl⟩
theorem sameV_iff {x y : Vv} : sameV x y = true ↔ x = y := by
  unfold sameV
  rw [Bool.and_eq_true, sameH_iff, sameL_iff]
  exact ⟨fun h => Prod.ext h.1 h.2, fun h => by rw [h]; exact ⟨rfl, rfl⟩⟩
theorem sameL_len : ∀ {l m : Vf}, l.len ≠ m.len → sameL l m = false
  | .nil, .nil, h => absurd rfl h
  | .nil, .cons _ _ _, _ => rfl
  | .cons _ _ _, .nil, _ => rfl
  | .cons h L r, .cons h2 L2 r2, hn => by
    unfold sameL
    rw [sameL_len (l := r) (m := r2) (fun e => hn (by show r.len + 1 = r2.len + 1; rw [e])), Bool.and_false]
theorem sameL_drop {l m : Vf} {k : Nat} {x y : Vv} (hx : l.get? k = some x) (hy : m.get? k = some y) : sameL (l.drop k) (m.drop k) = (sameV x y && sameL (l.drop (k + 1)) (m.drop (k + 1))) := by
  rw [Rose.drop_get hx, Rose.drop_get hy]; rfl
def SmC (n : Nat) : Prop := ∀ (F : Heap) (x y : Vv) (cs cs2 : List Value), x.2.size < n → VaC F cs x.1 x.2 → VaC F cs2 y.1 y.2 → Ct Tryz.prog 10 [.agg ⟨cs⟩, .agg ⟨cs2⟩] F [] (fun _ _ u => u = .bool (sameV x y))
theorem zzEvO0 {p : Prop} (h : p := by (congr 1; first | (rw [sameL_len (by omega)]; done) | (rw [← hfp, Rose.drop_len (by omega), Rose.drop_len (by omega)]; rfl) | (rw [← hfp, sameL_drop hx hy, (by assumption : sameV x y = false), Bool.false_and]; done) | trace_state)) : p := h
set_option maxHeartbeats 8000000 in
theorem sameRowCt {n : Nat} (hC : SmC n) (F : Heap) (l m : Vf) (v u : Value) (hn : l.size ≤ n) (hv : TrS F 4 VhR v l) (hu : TrS F 4 VhR u m) : Ct Tryz.prog 27 [v, u] F [] (fun _ _ u => u = .bool (sameL l m)) := by
  obtain ⟨ao, cap, rfl, hcap, hpos⟩ := hv
  obtain ⟨ao2, cap2, rfl, hcap2, hpos2⟩ := hu
  refine Ct.enter Tryz.func27 rfl Tryz.ntmps27 rfl fun w0 a S => ?_
  (revert S a; refine go01 13 ?_; intro Z hZ a S)
  refine wpc_split S rfl (fun h => ?_) (fun h => ?_)
  · (skip; (try simp only [tq] at h))
    (revert S a; refine go00 4 ?_; intro a S)
    refine wp_ret (fin_ret S (results1 Tryz.results27 (RV.tmp S rfl)) ?_)
    exact zzEvO0
  (skip; (try simp only [tq] at h))
  (revert S a; revert hZ Z; refine go11 8 ?_; intro Z hZ a S)
  refine wpc_loop (fun q a w' => ∃ (k : Nat), q = l.len - k ∧ k ≤ l.len ∧ sameL (l.drop k) (m.drop k) = sameL l m ∧ St 27 [(0, .slice ao l.len cap), (1, .slice ao2 m.len cap2), (5, .int .i64 k)] w0 F [] F [] a w') ?_ ?_
  · (have hlm : l.len = m.len := (by omega); refine ⟨l.len, 0, by omega, Nat.zero_le _, rfl, ?_⟩; refine S.keep ?_; repeat (first | exact trivial | refine ⟨rfl, ?_⟩))
  (clear S; rintro q a w ⟨k, rfl, hkl, hfp, S⟩)
  (revert S a; refine go01 8 ?_; intro Z hZ a S)
  refine wpc_split S rfl (fun h => ?_) (fun h => ?_)
  · (skip; (try simp only [tq] at h))
    (revert S a; revert hZ Z; refine go11 4 ?_; intro Z hZ a S)
    (refine wp_seq_k ?_; intro Z hZ)
    (obtain ⟨b8, o8, hao, x, cs1, v1, hx, hc1, hw9, hT1⟩ := TrM.pos hpos (k := k) (by omega); rw [hao] at S; have hxs := Rose.size_get hx; have hT1c := hT1; obtain ⟨a91, c91, rfl, -⟩ := hT1c; have hw9c := hw9.1; subst hw9c; (simp only [List.cons_append, List.nil_append] at hc1); obtain ⟨b9, o9, hao2, y, cs2, v2, hy, hc2, hw8, hT2⟩ := TrM.pos hpos2 (k := k) (by omega); rw [hao2] at S; have hT2c := hT2; obtain ⟨a92, c92, rfl, -⟩ := hT2c; have hw8c := hw8.1; subst hw8c; (simp only [List.cons_append, List.nil_append] at hc2))
    (refine wpc_mixM [0, 1, 2, 3, 4, 5, 6, 7, 9] [3, 7] [] (.one 0 (.one 1 (.one 2 (.one 3 (.one 4 (.one 5 (.one 6 (.one 7 (.one 8 (.one 9 .nil)))))))))) [] S mixed (by kernel_rfl) ?_; clear S; intro w S)
    iterate 2 (refine wpm_p S rfl rfl rfl (want_none _ rfl) rfl rfl ?_; clear S a; intro a S)
    (refine wpm_i S rfl rfl rfl (want_none _ rfl) rfl rfl ?_; clear S a; intro a S)
    first | (refine wpm_lateF S rfl rfl rfl (want_none _ rfl) rfl rfl (fun w' S => sv_loadF S rfl rfl (by assumption)) ?_; clear S a; intro a S) | (refine wpm_lateF S rfl rfl rfl (want_none _ rfl) rfl rfl (fun w' S => sv_loadAF S rfl rfl (by assumption) (by rfl)) ?_; clear S a; intro a S)
    iterate 2 (refine wpm_p S rfl rfl rfl (want_none _ rfl) rfl rfl ?_; clear S a; intro a S)
    (refine wpm_i S rfl rfl rfl (want_none _ rfl) rfl rfl ?_; clear S a; intro a S)
    first | (refine wpm_lateF S rfl rfl rfl (want_none _ rfl) rfl rfl (fun w' S => sv_loadF S rfl rfl (by assumption)) ?_; clear S a; intro a S) | (refine wpm_lateF S rfl rfl rfl (want_none _ rfl) rfl rfl (fun w' S => sv_loadAF S rfl rfl (by assumption) (by rfl)) ?_; clear S a; intro a S)
    refine wpm_eff rfl rfl (kwa S) ?_
    (refine wpl_call0 S rfl rfl rfl rfl rfl rfl (hC F x y _ _ (by omega) ⟨_, rfl, hT1, hw9.2⟩ ⟨_, rfl, hT2, hw8.2⟩) rfl ?_; clear S a; intro v a w hv S; subst hv)
    refine wpList_nil ?_
    (refine wpm_p S rfl rfl rfl (want_none _ rfl) rfl rfl ?_; clear S a; intro a S)
    (refine wpm_nil (kwa S) (hZ _ _ ?_); clear hZ Z)
    refine wpc_split S rfl (fun h => ?_) (fun h => ?_)
    · (skip; (try simp only [tq] at h))
      (revert S a; refine go00 4 ?_; intro a S)
      refine wp_ret (fin_ret S (results1 Tryz.results27 (RV.tmp S rfl)) ?_)
      exact zzEvO0
    (skip; (try simp only [tq] at h))
    (revert S a; revert hZ Z; refine go10 7 ?_; intro a S)
    change ∃ m', _ ∧ _
    (rw [← hao, ← hao2] at S; refine ⟨l.len - (k + 1), by omega, k + 1, rfl, by omega, ?_, ?_⟩; rotate_left 1; (refine S.keep ?_; repeat (first | exact trivial | refine ⟨rfl, ?_⟩)); rw [← hfp, sameL_drop hx hy, (by assumption : sameV x y = true), Bool.true_and])
  (skip; (try simp only [tq] at h))
  (refine wp_exit ?_; conv => whnf)
  clear hZ Z
  (revert S a; revert hZ Z; refine go10 5 ?_; intro a S)
  refine wp_ret (fin_ret S (results1 Tryz.results27 (RV.tmp S rfl)) ?_)
  exact zzEvO0
theorem zzEvO1 {p : Prop} (h : p := by (congr 1; show _ = (decide (xk = yk) && (decide (xn = yn) && decide (xs = ys)) && sameL xl yl); first | (rw [decide_eq_true (show xk = yk by omega), decide_eq_true (show xn = yn by assumption), decide_eq_true (show xs = ys by assumption)]; rfl) | (rw [decide_eq_false (show ¬ xk = yk by omega)]; rfl) | (rw [decide_eq_false (show ¬ xn = yn by assumption), Bool.false_and, Bool.and_false, Bool.false_and]; done) | (rw [decide_eq_false (show ¬ xs = ys by assumption), Bool.and_false, Bool.and_false, Bool.false_and]; done) | trace_state)) : p := h
set_option maxHeartbeats 8000000 in
theorem sameCt : ∀ n, SmC n := by
  intro n
  induction n with
  | zero => intro F x y cs cs2 hn; omega
  | succ n ih =>
  intro F x y cs cs2 hn hV hV2
  obtain ⟨⟨xk, xn, xs⟩, xl⟩ := x
  obtain ⟨⟨yk, yn, ys⟩, yl⟩ := y
  obtain ⟨v1, rfl, hT1, hs1⟩ := hV
  obtain ⟨v2, rfl, hT2, hs2⟩ := hV2
  dsimp only at *
  have hr := sameRowCt ih F xl yl v1 v2 (by omega) hT1 hT2
  obtain ⟨a1, c1, rfl, -⟩ := hT1
  obtain ⟨a2, c2, rfl, -⟩ := hT2
  refine Ct.enter Tryz.func10 rfl Tryz.ntmps10 rfl fun w0 a S => ?_
  refine wp_sr fun Z hZ => ?_
  (refine wpl_box S rfl rfl rfl rfl rfl ?_; clear S a; intro b2 a w S)
  (refine wpl_box S rfl rfl rfl rfl rfl ?_; clear S a; intro b3 a w S)
  (revert S a; revert hZ Z; refine go11 10 ?_; intro Z hZ a S)
  refine wpl_guard S rfl rfl rfl rfl rfl ?_ ?_
  · (clear S; intro h S; (try simp only [tq] at h))
    (revert S a; refine go00 11 ?_; intro a S)
    refine wpl_guard S rfl rfl rfl rfl rfl ?_ ?_
    · (clear S; intro h S; (try simp only [tq] at h))
      (revert S a; refine go00 11 ?_; intro a S)
      refine wpl_guard S rfl rfl rfl rfl rfl ?_ ?_
      · (clear S; intro h S; (try simp only [tq] at h))
        (revert S a; refine go00 8 ?_; intro a S)
        (refine wpl_call0 S rfl rfl rfl rfl rfl rfl (hr) rfl ?_; clear S a; intro v a w hv S; subst hv)
        (revert S a; revert hZ Z; refine go10 4 ?_; intro a S)
        refine wp_ret (fin_ret S (results1 Tryz.results10 (RV.tmp S rfl)) ?_)
        exact zzEvO1
      (intro h; clear S a; intro a S; (try simp only [tq] at h))
      (revert S a; revert hZ Z; refine go10 8 ?_; intro a S)
      refine wp_ret (fin_ret S (results1 Tryz.results10 (RV.tmp S rfl)) ?_)
      exact zzEvO1
    (intro h; clear S a; intro a S; (try simp only [tq] at h))
    (revert S a; revert hZ Z; refine go10 15 ?_; intro a S)
    refine wp_ret (fin_ret S (results1 Tryz.results10 (RV.tmp S rfl)) ?_)
    exact zzEvO1
  (intro h; clear S a; intro a S; (try simp only [tq] at h))
  (revert S a; revert hZ Z; refine go10 22 ?_; intro a S)
  refine wp_ret (fin_ret S (results1 Tryz.results10 (RV.tmp S rfl)) ?_)
  exact zzEvO1
/-! ### what is made -/
abbrev RvR := RoR 4 VhR
abbrev ReR := RoR 9 EhR
theorem ror_leaf (F : Heap) (k : Nat) (n : Int) (s : List UInt8) (hs : s.length ≤ 140737488355328) : RvR F (⟨k, n, s⟩, .nil) [.int .u8 (k : Int), .int .i64 n, .string (bs s), .slice none 0 0] := ⟨[_, _, _], _, rfl, rfl, ⟨rfl, hs⟩, TrS.nil _ _ _⟩
theorem ror_exc {F : Heap} {cs : List Value} {x : Ex} (h : ReR F x cs) : ExC F cs x.1 x.2 := by
  obtain ⟨c, v, rfl, -, h1, h2⟩ := h
  exact exc_of h1 h2
theorem exc_ror {F : Heap} {cs : List Value} {x : Ex} (h : ExC F cs x.1 x.2) : ReR F x cs := by
  obtain ⟨w, v, rfl, h1, h2⟩ := h
  exact ⟨[_, _, _, _, _, _, _, _], v, rfl, rfl, ⟨w, rfl, h1⟩, h2⟩
theorem lnumCt (F : Heap) (n : Int) : Ct Tryz.prog 9 [.int .i64 n] F [] (fun F' _ u => ∃ cs, u = .agg ⟨cs⟩ ∧ cs.length = 4 ∧ RvR F' (intV n) cs) := by
  refine Ct.enter Tryz.func9 rfl Tryz.ntmps9 rfl fun w0 a S => ?_
  refine wp_sr fun Z hZ => ?_
  (refine wpl_alloc S rfl rfl rfl rfl ?_; clear S a; intro b2 a w S)
  (revert S a; revert hZ Z; refine go11 5 ?_; intro Z hZ a S)
  (refine wpl_storeO S rfl rfl rfl rfl rfl (by rfl) (by simp [Value.cells, Value.oneCell', splice]) (by rfl) ?_; clear S; intro w S)
  (refine wpList_nil (hZ _ _ ?_); clear hZ Z)
  refine wp_ret (fin_ret S (results1 Tryz.results9 (RV.cellO S rfl (by rfl))) ?_)
  (exact ⟨_, rfl, rfl, ror_leaf _ 2 n [] (by decide)⟩)
theorem lhugeCt (F : Heap) (s : List UInt8) (hs : s.length ≤ 140737488355328) : Ct Tryz.prog 18 [.string (bs s)] F [] (fun F' _ u => ∃ cs, u = .agg ⟨cs⟩ ∧ cs.length = 4 ∧ RvR F' (bigV s) cs) := by
  refine Ct.enter Tryz.func18 rfl Tryz.ntmps18 rfl fun w0 a S => ?_
  refine wp_sr fun Z hZ => ?_
  (refine wpl_alloc S rfl rfl rfl rfl ?_; clear S a; intro b2 a w S)
  (revert S a; revert hZ Z; refine go11 5 ?_; intro Z hZ a S)
  (refine wpl_storeO S rfl rfl rfl rfl rfl (by rfl) (by simp [Value.cells, Value.oneCell', splice]) (by rfl) ?_; clear S; intro w S)
  (refine wpList_nil (hZ _ _ ?_); clear hZ Z)
  refine wp_ret (fin_ret S (results1 Tryz.results18 (RV.cellO S rfl (by rfl))) ?_)
  (exact ⟨_, rfl, rfl, ror_leaf _ 3 0 s hs⟩)
theorem ltextCt (F : Heap) (s : List UInt8) (hs : s.length ≤ 140737488355328) : Ct Tryz.prog 12 [.string (bs s)] F [] (fun F' _ u => ∃ cs, u = .agg ⟨cs⟩ ∧ cs.length = 4 ∧ RvR F' (textV s) cs) := by
  refine Ct.enter Tryz.func12 rfl Tryz.ntmps12 rfl fun w0 a S => ?_
  refine wp_sr fun Z hZ => ?_
  (refine wpl_alloc S rfl rfl rfl rfl ?_; clear S a; intro b2 a w S)
  (revert S a; revert hZ Z; refine go11 5 ?_; intro Z hZ a S)
  (refine wpl_storeO S rfl rfl rfl rfl rfl (by rfl) (by simp [Value.cells, Value.oneCell', splice]) (by rfl) ?_; clear S; intro w S)
  (refine wpList_nil (hZ _ _ ?_); clear hZ Z)
  refine wp_ret (fin_ret S (results1 Tryz.results12 (RV.cellO S rfl (by rfl))) ?_)
  (exact ⟨_, rfl, rfl, ror_leaf _ 4 0 s hs⟩)
theorem ltruthCt (F : Heap) (b : Bool) : Ct Tryz.prog 11 [.bool b] F [] (fun F' _ u => ∃ cs, u = .agg ⟨cs⟩ ∧ cs.length = 4 ∧ RvR F' (boolV b) cs) := by
  refine Ct.enter Tryz.func11 rfl Tryz.ntmps11 rfl fun w0 a S => ?_
  refine wp_sr fun Z hZ => ?_
  (refine wpl_alloc S rfl rfl rfl rfl ?_; clear S a; intro b2 a w S)
  (revert S a; revert hZ Z; refine go11 7 ?_; intro Z hZ a S)
  refine wpc_split S rfl (fun h => ?_) (fun h => ?_)
  · (skip; (try simp only [tq] at h))
    (revert S a; refine go01 2 ?_; intro Z hZ a S)
    (refine wpl_storeO S rfl rfl rfl rfl rfl (by rfl) (by simp [Value.cells, Value.oneCell', splice]) (by rfl) ?_; clear S; intro w S)
    (revert S a; revert hZ Z; refine go10 2 ?_; intro a S)
    refine wp_ret (fin_ret S (results1 Tryz.results11 (RV.cellO S rfl (by rfl))) ?_)
    (subst h; exact ⟨_, rfl, rfl, ror_leaf _ 1 _ [] (by decide)⟩)
  (skip; (try simp only [tq] at h))
  (revert S a; revert hZ Z; refine go11 4 ?_; intro Z hZ a S)
  (refine wpl_storeO S rfl rfl rfl rfl rfl (by rfl) (by simp [Value.cells, Value.oneCell', splice]) (by rfl) ?_; clear S; intro w S)
  (refine wpList_nil (hZ _ _ ?_); clear hZ Z)
  refine wp_ret (fin_ret S (results1 Tryz.results11 (RV.cellO S rfl (by rfl))) ?_)
  (subst h; exact ⟨_, rfl, rfl, ror_leaf _ 1 _ [] (by decide)⟩)
theorem llitCt (F : Heap) (v : Vv) (cs : List Value) (h : RvR F v cs) : Ct Tryz.prog 8 [.agg ⟨cs⟩] F [] (fun F' _ u => ∃ cs, u = .agg ⟨cs⟩ ∧ cs.length = 9 ∧ ReR F' (litX v) cs) := by
  obtain ⟨c, w, rfl, -, ⟨rfl, hs⟩, hT⟩ := h
  have hTc := hT
  obtain ⟨a1, c1, rfl, -⟩ := hTc
  refine Ct.enter Tryz.func8 rfl Tryz.ntmps8 rfl fun w0 a S => ?_
  refine wp_sr fun Z hZ => ?_
  (refine wpl_box S rfl rfl rfl rfl rfl ?_; clear S a; intro b1 a w S)
  (refine wpl_alloc S rfl rfl rfl rfl ?_; clear S a; intro b2 a w S)
  (revert S a; revert hZ Z; refine go11 5 ?_; intro Z hZ a S)
  (refine wpl_storeO S rfl rfl rfl rfl rfl (by rfl) (by simp [Value.cells, Value.oneCell', splice]) (by rfl) ?_; clear S; intro w S)
  (refine wpList_nil (hZ _ _ ?_); clear hZ Z)
  refine wp_ret (fin_ret S (results1 Tryz.results8 (RV.cellO S rfl (by rfl))) ?_)
  (exact ⟨_, rfl, rfl, [_, _, _, _, _, _, _, _], _, rfl, rfl, ⟨_, rfl, hT⟩, TrS.nil _ _ _⟩)
theorem lcallCt (F : Heap) (s : List UInt8) (L : Ef) (v : Value) (h : TrS F 9 EhR v L) : Ct Tryz.prog 7 [.string (bs s), v] F [] (fun F' _ u => ∃ cs, u = .agg ⟨cs⟩ ∧ cs.length = 9 ∧ ReR F' (callH s, L) cs) := by
  have hTc := h
  obtain ⟨a1, c1, rfl, -⟩ := hTc
  refine Ct.enter Tryz.func7 rfl Tryz.ntmps7 rfl fun w0 a S => ?_
  refine wp_sr fun Z hZ => ?_
  (refine wpl_alloc S rfl rfl rfl rfl ?_; clear S a; intro b4 a w S)
  (revert S a; revert hZ Z; refine go11 6 ?_; intro Z hZ a S)
  (refine wpl_storeO S rfl rfl rfl rfl rfl (by rfl) (by simp [Value.cells, Value.oneCell', splice]) (by rfl) ?_; clear S; intro w S)
  (refine wpList_nil (hZ _ _ ?_); clear hZ Z)
  refine wp_ret (fin_ret S (results1 Tryz.results7 (RV.cellO S rfl (by rfl))) ?_)
  (exact ⟨_, rfl, rfl, [_, _, _, _, _, _, _, _], _, rfl, rfl, ⟨_, rfl, TrS.nil _ _ _⟩, h⟩)
/-! ### comes -/
theorem cons0Ct (F : Heap) (s : List UInt8) : Ct Tryz.prog 86 [.pointer none, .string (bs s)] F [] (fun F2 _ u => ConsR F2 u none) := by
  refine Ct.enter Tryz.func86 rfl Tryz.ntmps86 rfl fun w0 a S => ?_
  refine wp_sr fun Z hZ => ?_
  (refine wpl_alloc S rfl rfl rfl rfl ?_; clear S a; intro b4 a w S)
  (revert S a; revert hZ Z; refine go12 6 ?_; intro Z hZ Z hZ a S)
  (refine wpl_v S rfl rfl rfl (sv_lit (c := true) (sv_eqPtrNil S rfl rfl rfl) (by rfl)) ?_; clear S a; intro a S)
  (refine wpList_nil (hZ _ _ ?_); clear hZ Z)
  refine wpc_true S rfl ?_
  (revert S a; refine go01 2 ?_; intro Z hZ a S)
  (refine wpl_storeO S rfl rfl rfl rfl rfl (by rfl) (by simp [Value.cells, Value.oneCell', splice]) (by rfl) ?_; clear S; intro w S)
  (revert S a; revert hZ Z; refine go10 3 ?_; intro a S)
  refine wp_ret (fin_ret S (results2 Tryz.results86 (RV.cellO S rfl (by rfl)) (RV.tmp S rfl)) ?_)
  (exact ⟨[], none, 0, 0, 0, none, 0, 0, rfl, fun y h => by cases h⟩)
/-- What Eval tells where there is no table, and no binding. -/
theorem eval0Ct (F : Heap) (hT : TabF F) (hE : ErrF F) (x : Ex) (cs : List Value) (hX : ReR F x cs) (hg : GE x.1 x.2) : Ct Tryz.prog 6 [.pointer none, .agg ⟨cs⟩, .slice none 0 0] F [] (fun F' _ u => AnsR F' u (evalO [] [] x.1 x.2)) :=
  evalCt F hT hE none [] (fun F' nm _ => cons0Ct F' nm) [] _ (LiM.nil _ _ _) (fun x hx => by cases hx) x.1 x.2 cs (ror_exc hX) hg
def comesB (x : Ex) (v : Vv) (e : Int) : Bool := decide ((evalO [] [] x.1 x.2).1 = e) && sameV (evalO [] [] x.1 x.2).2 v
set_option maxHeartbeats 8000000 in
theorem comesCt (F : Heap) (hT : TabF F) (hE : ErrF F) (x : Ex) (cs : List Value) (hX : ReR F x cs) (hg : GE x.1 x.2) (v : Vv) (cv : List Value) (hv : RvR F v cv) (e : Int) : Ct Tryz.prog 17 [.agg ⟨cs⟩, .agg ⟨cv⟩, .int .i64 e] F [] (fun _ _ u => u = .bool (comesB x v e)) := by
  have hev := eval0Ct F hT hE x cs hX hg
  obtain ⟨a1, n1, c1, ao, cap, rfl, -, -⟩ := exc_slc (ror_exc hX)
  obtain ⟨a2, c2, rfl, hT2, hs2⟩ := vac_slc (ror_vac hv)
  unfold comesB
  generalize evalO [] [] x.1 x.2 = A at hev ⊢
  refine Ct.enter Tryz.func17 rfl Tryz.ntmps17 rfl fun w0 a S => ?_
  refine wp_sr fun Z hZ => ?_
  (refine wpl_box S rfl rfl rfl rfl rfl ?_; clear S a; intro b3 a w S)
  (refine wpl_box S rfl rfl rfl rfl rfl ?_; clear S a; intro b4 a w S)
  (revert S a; revert hZ Z; refine go11 5 ?_; intro Z hZ a S)
  (refine wpl_callF S rfl rfl rfl rfl rfl rfl hev rfl ?_; clear S a; intro u9 F4 a w hv9 hF4 S; obtain ⟨cs4, rfl, hV4⟩ := hv9; obtain ⟨a4, c4, rfl, hT4, hs4⟩ := vac_slc hV4)
  (revert S a; refine go00 3 ?_; intro a S)
  (refine wpl_alloc S rfl rfl rfl rfl ?_; clear S a; intro b7 a w S)
  (refine wpl_storeO S rfl rfl rfl rfl rfl (by rfl) (by simp [Value.cells, Value.oneCell', splice]) (by rfl) ?_; clear S; intro w S)
  (revert S a; revert hZ Z; refine go11 8 ?_; intro Z hZ a S)
  refine wpl_guard S rfl rfl rfl rfl rfl ?_ ?_
  · (clear S; intro h S; (try simp only [tq] at h))
    (revert S a; refine go00 4 ?_; intro a S)
    (refine wpl_call0 S rfl rfl rfl rfl rfl rfl (sameCt (A.2.2.size + 1) F4 A.2 v _ _ (Nat.lt_succ_self _) ⟨_, rfl, hT4, hs4⟩ ⟨_, rfl, hT2.mono hF4, hs2⟩) rfl ?_; clear S a; intro v a w hv S; subst hv)
    (revert S a; revert hZ Z; refine go10 4 ?_; intro a S)
    refine wp_ret (fin_ret S (results1 Tryz.results17 (RV.tmp S rfl)) ?_)
    (congr 1; first | (rw [decide_eq_true (by omega)]; rfl) | (rw [decide_eq_false (by omega)]; rfl) | trace_state)
  (intro h; clear S a; intro a S; (try simp only [tq] at h))
  (revert S a; revert hZ Z; refine go10 6 ?_; intro a S)
  refine wp_ret (fin_ret S (results1 Tryz.results17 (RV.tmp S rfl)) ?_)
  (congr 1; first | (rw [decide_eq_true (by omega)]; rfl) | (rw [decide_eq_false (by omega)]; rfl) | trace_state)
end Go.Proofs.YtigblodhdfnleaaGreatDoor
