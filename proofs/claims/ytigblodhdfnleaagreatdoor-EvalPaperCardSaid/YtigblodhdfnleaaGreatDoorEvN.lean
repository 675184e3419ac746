/- Walks: form, Eval. The walk of Eval. -/
import Derived.Test.YtigblodhdfnleaaGreatDoorEvL
namespace Go.Proofs.YtigblodhdfnleaaGreatDoor
open Go Go.Wk Go.Un Go.De Go.Num
set_option linter.unusedSimpArgs false
set_option linter.unusedVariables false
attribute [local irreducible] Go.wpList Go.Code.wp Go.wpStill Go.Wk.wpPre Go.bodyPost Go.Calls Go.Wk.Ct Go.Wk.OwnS
attribute [local irreducible] Go.Wk.wpG Go.Wk.wpM

theorem fK4 {h : EH} {n : Nat} (k : h.k = 4) : formK h n = (decide (n ≠ 1) && decide (n ≤ 16)) := by unfold formK; rw [if_pos k]
theorem fK5 {h : EH} {n : Nat} (k : h.k = 5) : formK h n = true := by unfold formK; rw [if_neg (by omega), if_pos k]
theorem fK7 {h : EH} {n : Nat} (k : h.k = 7) : formK h n = decide (n = 1) := by unfold formK; rw [if_neg (by omega), if_neg (by omega), if_pos k]
theorem fK8 {h : EH} {n : Nat} (k : h.k = 8) : formK h n = decide (n = 3) := by unfold formK; rw [if_neg (by omega), if_neg (by omega), if_neg (by omega), if_pos k]
theorem fK6 {h : EH} {n : Nat} (k : h.k = 6) : formK h n = (((((op2 h.nm).isSome || decide (h.nm = sAnd)) || decide (h.nm = sOr)) && decide (n = 2)) || (decide (n = 1) && decide (h.nm ∈ ones))) := by unfold formK; rw [if_neg (by omega), if_neg (by omega), if_neg (by omega), if_neg (by omega), if_pos k]
theorem fK0 {h : EH} {n : Nat} (k : h.k ≠ 4 ∧ h.k ≠ 5 ∧ h.k ≠ 7 ∧ h.k ≠ 8 ∧ h.k ≠ 6) : formK h n = false := by unfold formK; rw [if_neg k.1, if_neg k.2.1, if_neg k.2.2.1, if_neg k.2.2.2.1, if_neg k.2.2.2.2]
theorem formE_k {h : EH} {L : Ef} (h1 : h.k ≠ 1) (h2 : h.k ≠ 2) : formE h L = (formK h L.len && formEL L) := by unfold formE; rw [if_neg h1, if_neg h2]
def FmC (n : Nat) : Prop := ∀ (F : Heap) (bm : Nat) (cs : List KC) (vs : List Bd) (h : EH) (L : Ef) (xs : List Value), L.size < n → Mac F bm cs vs → ExC F xs h L → GE h L → Ct Tryz.prog 21 [ptr bm, .agg ⟨xs⟩] F [] (fun _ _ u => u = .bool (formE h L))
theorem form1Ct {n : Nat} (hD : FmC n) (F : Heap) (b bm : Nat) (cs : List KC) (vs : List Bd) (h : EH) (L : Ef) (xs : List Value) (hb : Cel F b 0 (ptr bm)) (hM : Mac F bm cs vs) (hn : L.size < n) (hX : ExC F xs h L) (hg : GE h L) : Ct Tryz.prog 56 ([] ++ [.agg ⟨xs⟩] ++ [ptr b]) F [] (fun _ _ u => u = .bool (!formE h L)) := by
  have hc := hD F bm cs vs h L xs hn hM hX hg
  obtain ⟨a1, n1, c1, ao, cap, rfl, -, -⟩ := exc_slc hX
  refine Ct.enter Tryz.func56 rfl Tryz.ntmps56 rfl fun w0 a S => ?_
  refine wp_sr fun Kq1 hKq1 => ?_
  (refine wpl_box S rfl rfl rfl rfl rfl ?_; clear S a; intro b2 a w S)
  (refine wpl_p S rfl rfl rfl ?_; clear S a; intro a S)
  (refine wpList_nil (hKq1 _ _ (wp_sr fun Kq2 hKq2 => ?_)); try clear hKq1 Kq1)
  (refine wpl_v S rfl rfl rfl (sv_loadF S rfl rfl hb) ?_; clear S a; intro a S)
  (refine wpl_l S rfl rfl rfl ?_; clear S a; intro a S)
  (refine wpl_call0 S rfl rfl rfl rfl rfl rfl (hc) rfl ?_; clear S a; intro v a w hv S; subst hv)
  iterate 2 (refine wpl_p S rfl rfl rfl ?_; clear S a; intro a S)
  (refine wpList_nil (hKq2 _ _ ?_); try clear hKq2 Kq2)
  exact wp_ret (fin_ret S (results1 Tryz.results56 (RV.tmp S rfl)) rfl)
theorem ones_lim {F : Heap} {b : Nat} {e : TypeId} {R} (h : F b = some (.cells ⟨[.string (bs sNot), .string (bs sNeg), .string (bs sLen), .string (bs sBig), .string (bs sInt)]⟩ e R)) : LiM F 1 StR (.slice (some ⟨b, 0, none⟩) 5 5) ones := by
  refine ⟨_, _, rfl, ⟨Nat.le_refl 5, show 5 ≤ _ by decide⟩, fun _ => ⟨b, 0, rfl, fun k z hz => ?_⟩⟩
  match k, hz with
  | 0, hz => cases hz; exact ⟨_, fun j u hj => ⟨_, _, _, h, by match j, hj with | 0, hj => exact hj⟩, rfl, rfl⟩
  | 1, hz => cases hz; exact ⟨_, fun j u hj => ⟨_, _, _, h, by match j, hj with | 0, hj => exact hj⟩, rfl, rfl⟩
  | 2, hz => cases hz; exact ⟨_, fun j u hj => ⟨_, _, _, h, by match j, hj with | 0, hj => exact hj⟩, rfl, rfl⟩
  | 3, hz => cases hz; exact ⟨_, fun j u hj => ⟨_, _, _, h, by match j, hj with | 0, hj => exact hj⟩, rfl, rfl⟩
  | 4, hz => cases hz; exact ⟨_, fun j u hj => ⟨_, _, _, h, by match j, hj with | 0, hj => exact hj⟩, rfl, rfl⟩
theorem ops_some {F : Heap} {es : List (List UInt8 × Value)} (h : OpsM F es ops2) (s : List UInt8) : (mGet es s).isSome = (op2 s).isSome := by
  rcases h.get s with ⟨f, u, h1, h2, -⟩ | ⟨h1, h2⟩
  · rw [h2, show op2 s = some f from h1]; rfl
  · rw [h2, show op2 s = none from h1]; rfl
set_option maxRecDepth 20000 in
set_option maxHeartbeats 32000000 in
theorem formCt : ∀ n, FmC n := by
  intro n
  induction n with
  | zero => intro F bm cs vs h L xs hn; omega
  | succ n ih =>
  intro F bm cs vs eh L xs hn hM hX hg
  have hMc := hM
  obtain ⟨a1, n1, c1, ao, cap, rfl, hvl, hL⟩ := exc_slc hX
  obtain ⟨⟨tv, aov, capv, bt, es, hm0, hm1, hm2, hvs, hes, hops, hK⟩, hT, hEr, hGB⟩ := hM
  have hsv : eh.v.s.length ≤ 200000 := hg.1.1.2
  have hzv : eh.vl.size ≤ 5000 := hg.1.2.2
  have hck := checkVCt F eh.v eh.vl [.int .u8 (eh.v.k : Int), .int .i64 eh.v.n, .string (bs eh.v.s), .slice a1 n1 c1] (by omega) ⟨_, rfl, hvl, by omega⟩
  refine Ct.enter Tryz.func21 rfl Tryz.ntmps21 rfl fun w0 a S => ?_
  refine wp_sr fun Kq1 hKq1 => ?_
  (refine wpl_box S rfl rfl rfl rfl rfl ?_; clear S a; intro b2 a w S)
  (refine wpl_box S rfl rfl rfl rfl rfl ?_; clear S a; intro b3 a w S)
  (refine wpl_p S rfl rfl rfl ?_; clear S a; intro a S)
  (refine wpList_nil (hKq1 _ _ (wp_sr fun Kq2 hKq2 => ?_)); try clear hKq1 Kq1)
  (refine wpl_f S rfl rfl rfl ?_; clear S a; intro a S)
  (refine wpl_l S rfl rfl rfl ?_; clear S a; intro a S)
  (refine wpl_n S rfl rfl rfl ?_; clear S a; intro a S)
  (refine wpl_p S rfl rfl rfl ?_; clear S a; intro a S)
  (refine wpList_nil (hKq2 _ _ (wp_sr fun Kq3 hKq3 => ?_)); try clear hKq2 Kq2)
  (refine wpl_p S rfl rfl rfl ?_; clear S a; intro a S)
  (refine wpList_nil (hKq3 _ _ (wp_seq_k fun Kq4 hKq4 => ?_)); try clear hKq3 Kq3)
  replace hKq4 : ∀ (a' : Act) (w' : World), (∃ (F3 : Heap) (t : Bool), (∀ b o, F b = some o → F3 b = some o) ∧ t = formK eh L.len ∧ (eh.k ≠ 1 ∧ eh.k ≠ 2) ∧ St 86 [(2, ptr b2), (3, ptr b3), (4, .bool false), (6, .bool t)] w0 F [] F3 [[(b3, .cells ⟨[.int .u8 (eh.k : Int), .int .i64 eh.l, .int .i64 eh.c, .string (bs eh.nm), .int .u8 (eh.v.k : Int), .int .i64 eh.v.n, .string (bs eh.v.s), .slice a1 n1 c1, .slice ao L.len cap]⟩ 34 (0, 0))], [(b2, .cells ⟨[ptr bm]⟩ 54 (0, 0))]] a' w') → Kq4 a' w' := (by
   (intro a w hM; refine hKq4 _ _ ?_; clear hKq4 Kq4; clear S; obtain ⟨F3, t6, hF3, ht6, ⟨hk1, hk2⟩, S⟩ := hM)
   refine wp_sr fun Kq5 hKq5 => ?_
   iterate 2 (refine wpl_p S rfl rfl rfl ?_; clear S a; intro a S)
   refine wpl_guard S rfl rfl rfl rfl rfl ?_ ?_
   · (intro h S'; clear S; have S := S'; clear S'; (try simp only [tq] at h))
     (refine wpl_f S rfl rfl rfl ?_; clear S a; intro a S)
     refine wpl_take S rfl rfl rfl ?_
     (refine wpl_l S rfl rfl rfl ?_; clear S a; intro a S)
     refine wpl_take S rfl rfl rfl ?_
     (refine wpl_p S rfl rfl rfl ?_; clear S a; intro a S)
     refine wpl_take S rfl rfl rfl ?_
     (replace S := St.pullB b2 S; have S' := frz1 S; clear S; obtain ⟨F6, hle6, hb2, S⟩ := S'; have hb2n : Cel F6 b2 0 (ptr bm) := ⟨_, _, _, hb2, rfl⟩; replace hL := (hL.mono hF3).mono hle6; refine wpl_call0 S rfl rfl rfl rfl rfl rfl (cfECt F6 _ _ _ hL.sq 56 [] [ptr b2] (atR L fun h L' => !formE h L') (fun k cs' hk hC => by obtain ⟨x, c1, u, hx, rfl, hR, hT⟩ := hC; rw [atR_some hx]; have hxs := Rose.size_get hx; exact form1Ct ih F6 b2 bm cs vs x.1 x.2 _ hb2n ((hMc.mono hF3).mono hle6) (by omega) (exc_of hR hT) (GEl.get hg.2.2 hx))) rfl ?_; clear S a; intro v a w hv S; subst hv)
     refine wpl_take S rfl rfl rfl ?_
     iterate 3 (refine wpl_p S rfl rfl rfl ?_; clear S a; intro a S)
     (refine wpList_nil (hKq5 _ _ ?_); try clear hKq5 Kq5)
     refine wp_ret (fin_ret S (results1 Tryz.results21 (RV.tmp S rfl)) ?_)
     (congr 1; first | (rw [formE_k hk1 hk2, ← ht6, (by assumption : t6 = true), Bool.true_and, formEL_any, anyN_rose (q := fun h L' => !formE h L') (fun k x hx => atR_some hx)]; done) | (rw [formE_k hk1 hk2, ← ht6, (by assumption : t6 = false), Bool.false_and]; done) | (unfold formE; first | (rw [if_pos (by omega)]; rfl) | (rw [if_neg (by omega), if_pos (by omega)]; done)) | trace_state)
   (intro h; clear S a; intro a S; (try simp only [tq] at h))
   iterate 4 (refine wpl_skip S rfl rfl rfl rfl rfl ?_; clear S a; intro a S)
   iterate 2 (refine wpl_p S rfl rfl rfl ?_; clear S a; intro a S)
   (refine wpList_nil (hKq5 _ _ ?_); try clear hKq5 Kq5)
   refine wp_ret (fin_ret S (results1 Tryz.results21 (RV.tmp S rfl)) ?_)
   (congr 1; first | (rw [formE_k hk1 hk2, ← ht6, (by assumption : t6 = true), Bool.true_and, formEL_any, anyN_rose (q := fun h L' => !formE h L') (fun k x hx => atR_some hx)]; done) | (rw [formE_k hk1 hk2, ← ht6, (by assumption : t6 = false), Bool.false_and]; done) | (unfold formE; first | (rw [if_pos (by omega)]; rfl) | (rw [if_neg (by omega), if_pos (by omega)]; done)) | trace_state))
  refine wp_sr fun Kq6 hKq6 => ?_
  (refine wpl_f S rfl rfl rfl ?_; clear S a; intro a S)
  (refine wpl_l S rfl rfl rfl ?_; clear S a; intro a S)
  (refine wpList_nil (hKq6 _ _ ?_); try clear hKq6 Kq6)
  refine wp_block ?_
  refine wp_sr fun Kq7 hKq7 => ?_
  iterate 2 (refine wpl_p S rfl rfl rfl ?_; clear S a; intro a S)
  (refine wpList_nil (hKq7 _ _ ?_); try clear hKq7 Kq7)
  refine wpc_split S rfl (fun h => ?_) (fun h => ?_)
  · (skip; (try simp only [tq] at h))
    refine wp_sr fun Kq8 hKq8 => ?_
    (refine wpl_f S rfl rfl rfl ?_; clear S a; intro a S)
    (refine wpl_l S rfl rfl rfl ?_; clear S a; intro a S)
    (refine wpl_call0 S rfl rfl rfl rfl rfl rfl (hck) rfl ?_; clear S a; intro v a w hv S; subst hv)
    iterate 2 (refine wpl_p S rfl rfl rfl ?_; clear S a; intro a S)
    (refine wpList_nil (hKq8 _ _ ?_); try clear hKq8 Kq8)
    refine wp_ret (fin_ret S (results1 Tryz.results21 (RV.tmp S rfl)) ?_)
    (congr 1; first | (rw [formE_k hk1 hk2, ← ht6, (by assumption : t6 = true), Bool.true_and, formEL_any, anyN_rose (q := fun h L' => !formE h L') (fun k x hx => atR_some hx)]; done) | (rw [formE_k hk1 hk2, ← ht6, (by assumption : t6 = false), Bool.false_and]; done) | (unfold formE; first | (rw [if_pos (by omega)]; rfl) | (rw [if_neg (by omega), if_pos (by omega)]; done)) | trace_state)
  (skip; (try simp only [tq] at h))
  refine wp_sr fun Kq8 hKq8 => ?_
  iterate 2 (refine wpl_p S rfl rfl rfl ?_; clear S a; intro a S)
  (refine wpList_nil (hKq8 _ _ ?_); try clear hKq8 Kq8)
  refine wpc_split S rfl (fun h => ?_) (fun h => ?_)
  · (skip; (try simp only [tq] at h))
    refine wp_sr fun Kq9 hKq9 => ?_
    (refine wpl_p S rfl rfl rfl ?_; clear S a; intro a S)
    (refine wpList_nil (hKq9 _ _ ?_); try clear hKq9 Kq9)
    refine wp_ret (fin_ret S (results1 Tryz.results21 (RV.tmp S rfl)) ?_)
    (congr 1; first | (rw [formE_k hk1 hk2, ← ht6, (by assumption : t6 = true), Bool.true_and, formEL_any, anyN_rose (q := fun h L' => !formE h L') (fun k x hx => atR_some hx)]; done) | (rw [formE_k hk1 hk2, ← ht6, (by assumption : t6 = false), Bool.false_and]; done) | (unfold formE; first | (rw [if_pos (by omega)]; rfl) | (rw [if_neg (by omega), if_pos (by omega)]; done)) | trace_state)
  (skip; (try simp only [tq] at h))
  refine wp_sr fun Kq9 hKq9 => ?_
  iterate 2 (refine wpl_p S rfl rfl rfl ?_; clear S a; intro a S)
  (refine wpList_nil (hKq9 _ _ ?_); try clear hKq9 Kq9)
  refine wpc_split S rfl (fun h => ?_) (fun h => ?_)
  · (skip; (try simp only [tq] at h))
    refine wp_region_lit ?_
    iterate 3 (refine wpl_p S rfl rfl rfl ?_; clear S a; intro a S)
    refine wpl_guard S rfl rfl rfl rfl rfl ?_ ?_
    · (intro h S'; clear S; have S := S'; clear S'; (try simp only [tq] at h))
      (refine wpl_p S rfl rfl rfl ?_; clear S a; intro a S)
      refine wpl_take S rfl rfl rfl ?_
      iterate 3 (refine wpl_p S rfl rfl rfl ?_; clear S a; intro a S)
      refine wpList_nil ?_
      (refine hKq4 _ _ ?_)
      ((first | (refine ⟨F5, ?_⟩; apply Exists.intro; refine ⟨hle5, ?_⟩; apply And.intro) | (refine ⟨F, ?_⟩; apply Exists.intro; refine ⟨fun _ _ h => h, ?_⟩; apply And.intro)); rotate_left 1; (refine ⟨⟨by omega, by omega⟩, ?_⟩; refine S.keep ?_; repeat (first | exact trivial | refine ⟨rfl, ?_⟩)); first | (rw [fK5 (by omega)]; done) | (rw [fK7 (by omega), Bool.eq_iff_iff, beq_iff_eq, decide_eq_true_eq]; omega) | (rw [fK8 (by omega), Bool.eq_iff_iff, beq_iff_eq, decide_eq_true_eq]; omega) | (rw [fK4 (by omega), decide_eq_false (show ¬ L.len ≠ 1 by omega)]; rfl) | (rw [fK4 (by omega), decide_eq_true (show L.len ≠ 1 by omega), Bool.true_and, Bool.eq_iff_iff, decide_eq_true_eq, decide_eq_true_eq]; omega) | (rw [fK0 (by omega)]; done) | (rw [fK6 (by omega), ← ht8, (by assumption : t8 = true), decide_eq_true (show L.len = 2 by omega)]; rfl) | (rw [fK6 (by omega), decide_eq_false (show ¬ L.len = 2 by omega), Bool.and_false, Bool.false_or]; first | (rw [decide_eq_true (show L.len = 1 by omega), Bool.true_and]; done) | (rw [decide_eq_false (show ¬ L.len = 1 by omega)]; rfl)) | (rw [fK6 (by omega), ← ht8, (by assumption : t8 = false), Bool.false_and, Bool.false_or]; first | (rw [decide_eq_true (show L.len = 1 by omega), Bool.true_and]; done) | (rw [decide_eq_false (show ¬ L.len = 1 by omega)]; rfl)) | trace_state)
    (intro h; clear S a; intro a S; (try simp only [tq] at h))
    (refine wpl_skip S rfl rfl rfl rfl rfl ?_; clear S a; intro a S)
    iterate 2 (refine wpl_p S rfl rfl rfl ?_; clear S a; intro a S)
    refine wpList_nil ?_
    (refine hKq4 _ _ ?_)
    ((first | (refine ⟨F5, ?_⟩; apply Exists.intro; refine ⟨hle5, ?_⟩; apply And.intro) | (refine ⟨F, ?_⟩; apply Exists.intro; refine ⟨fun _ _ h => h, ?_⟩; apply And.intro)); rotate_left 1; (refine ⟨⟨by omega, by omega⟩, ?_⟩; refine S.keep ?_; repeat (first | exact trivial | refine ⟨rfl, ?_⟩)); first | (rw [fK5 (by omega)]; done) | (rw [fK7 (by omega), Bool.eq_iff_iff, beq_iff_eq, decide_eq_true_eq]; omega) | (rw [fK8 (by omega), Bool.eq_iff_iff, beq_iff_eq, decide_eq_true_eq]; omega) | (rw [fK4 (by omega), decide_eq_false (show ¬ L.len ≠ 1 by omega)]; rfl) | (rw [fK4 (by omega), decide_eq_true (show L.len ≠ 1 by omega), Bool.true_and, Bool.eq_iff_iff, decide_eq_true_eq, decide_eq_true_eq]; omega) | (rw [fK0 (by omega)]; done) | (rw [fK6 (by omega), ← ht8, (by assumption : t8 = true), decide_eq_true (show L.len = 2 by omega)]; rfl) | (rw [fK6 (by omega), decide_eq_false (show ¬ L.len = 2 by omega), Bool.and_false, Bool.false_or]; first | (rw [decide_eq_true (show L.len = 1 by omega), Bool.true_and]; done) | (rw [decide_eq_false (show ¬ L.len = 1 by omega)]; rfl)) | (rw [fK6 (by omega), ← ht8, (by assumption : t8 = false), Bool.false_and, Bool.false_or]; first | (rw [decide_eq_true (show L.len = 1 by omega), Bool.true_and]; done) | (rw [decide_eq_false (show ¬ L.len = 1 by omega)]; rfl)) | trace_state)
  (skip; (try simp only [tq] at h))
  refine wp_sr fun Kq10 hKq10 => ?_
  iterate 2 (refine wpl_p S rfl rfl rfl ?_; clear S a; intro a S)
  (refine wpList_nil (hKq10 _ _ ?_); try clear hKq10 Kq10)
  refine wpc_split S rfl (fun h => ?_) (fun h => ?_)
  · (skip; (try simp only [tq] at h))
    refine wp_region_lit ?_
    (refine wpl_p S rfl rfl rfl ?_; clear S a; intro a S)
    refine wpList_nil ?_
    (refine hKq4 _ _ ?_)
    ((first | (refine ⟨F5, ?_⟩; apply Exists.intro; refine ⟨hle5, ?_⟩; apply And.intro) | (refine ⟨F, ?_⟩; apply Exists.intro; refine ⟨fun _ _ h => h, ?_⟩; apply And.intro)); rotate_left 1; (refine ⟨⟨by omega, by omega⟩, ?_⟩; refine S.keep ?_; repeat (first | exact trivial | refine ⟨rfl, ?_⟩)); first | (rw [fK5 (by omega)]; done) | (rw [fK7 (by omega), Bool.eq_iff_iff, beq_iff_eq, decide_eq_true_eq]; omega) | (rw [fK8 (by omega), Bool.eq_iff_iff, beq_iff_eq, decide_eq_true_eq]; omega) | (rw [fK4 (by omega), decide_eq_false (show ¬ L.len ≠ 1 by omega)]; rfl) | (rw [fK4 (by omega), decide_eq_true (show L.len ≠ 1 by omega), Bool.true_and, Bool.eq_iff_iff, decide_eq_true_eq, decide_eq_true_eq]; omega) | (rw [fK0 (by omega)]; done) | (rw [fK6 (by omega), ← ht8, (by assumption : t8 = true), decide_eq_true (show L.len = 2 by omega)]; rfl) | (rw [fK6 (by omega), decide_eq_false (show ¬ L.len = 2 by omega), Bool.and_false, Bool.false_or]; first | (rw [decide_eq_true (show L.len = 1 by omega), Bool.true_and]; done) | (rw [decide_eq_false (show ¬ L.len = 1 by omega)]; rfl)) | (rw [fK6 (by omega), ← ht8, (by assumption : t8 = false), Bool.false_and, Bool.false_or]; first | (rw [decide_eq_true (show L.len = 1 by omega), Bool.true_and]; done) | (rw [decide_eq_false (show ¬ L.len = 1 by omega)]; rfl)) | trace_state)
  (skip; (try simp only [tq] at h))
  refine wp_sr fun Kq11 hKq11 => ?_
  iterate 2 (refine wpl_p S rfl rfl rfl ?_; clear S a; intro a S)
  (refine wpList_nil (hKq11 _ _ ?_); try clear hKq11 Kq11)
  refine wpc_split S rfl (fun h => ?_) (fun h => ?_)
  · (skip; (try simp only [tq] at h))
    refine wp_region_lit ?_
    iterate 3 (refine wpl_p S rfl rfl rfl ?_; clear S a; intro a S)
    refine wpList_nil ?_
    (refine hKq4 _ _ ?_)
    ((first | (refine ⟨F5, ?_⟩; apply Exists.intro; refine ⟨hle5, ?_⟩; apply And.intro) | (refine ⟨F, ?_⟩; apply Exists.intro; refine ⟨fun _ _ h => h, ?_⟩; apply And.intro)); rotate_left 1; (refine ⟨⟨by omega, by omega⟩, ?_⟩; refine S.keep ?_; repeat (first | exact trivial | refine ⟨rfl, ?_⟩)); first | (rw [fK5 (by omega)]; done) | (rw [fK7 (by omega), Bool.eq_iff_iff, beq_iff_eq, decide_eq_true_eq]; omega) | (rw [fK8 (by omega), Bool.eq_iff_iff, beq_iff_eq, decide_eq_true_eq]; omega) | (rw [fK4 (by omega), decide_eq_false (show ¬ L.len ≠ 1 by omega)]; rfl) | (rw [fK4 (by omega), decide_eq_true (show L.len ≠ 1 by omega), Bool.true_and, Bool.eq_iff_iff, decide_eq_true_eq, decide_eq_true_eq]; omega) | (rw [fK0 (by omega)]; done) | (rw [fK6 (by omega), ← ht8, (by assumption : t8 = true), decide_eq_true (show L.len = 2 by omega)]; rfl) | (rw [fK6 (by omega), decide_eq_false (show ¬ L.len = 2 by omega), Bool.and_false, Bool.false_or]; first | (rw [decide_eq_true (show L.len = 1 by omega), Bool.true_and]; done) | (rw [decide_eq_false (show ¬ L.len = 1 by omega)]; rfl)) | (rw [fK6 (by omega), ← ht8, (by assumption : t8 = false), Bool.false_and, Bool.false_or]; first | (rw [decide_eq_true (show L.len = 1 by omega), Bool.true_and]; done) | (rw [decide_eq_false (show ¬ L.len = 1 by omega)]; rfl)) | trace_state)
  (skip; (try simp only [tq] at h))
  refine wp_sr fun Kq12 hKq12 => ?_
  iterate 2 (refine wpl_p S rfl rfl rfl ?_; clear S a; intro a S)
  (refine wpList_nil (hKq12 _ _ ?_); try clear hKq12 Kq12)
  refine wpc_split S rfl (fun h => ?_) (fun h => ?_)
  · (skip; (try simp only [tq] at h))
    refine wp_region_lit ?_
    iterate 3 (refine wpl_p S rfl rfl rfl ?_; clear S a; intro a S)
    refine wpList_nil ?_
    (refine hKq4 _ _ ?_)
    ((first | (refine ⟨F5, ?_⟩; apply Exists.intro; refine ⟨hle5, ?_⟩; apply And.intro) | (refine ⟨F, ?_⟩; apply Exists.intro; refine ⟨fun _ _ h => h, ?_⟩; apply And.intro)); rotate_left 1; (refine ⟨⟨by omega, by omega⟩, ?_⟩; refine S.keep ?_; repeat (first | exact trivial | refine ⟨rfl, ?_⟩)); first | (rw [fK5 (by omega)]; done) | (rw [fK7 (by omega), Bool.eq_iff_iff, beq_iff_eq, decide_eq_true_eq]; omega) | (rw [fK8 (by omega), Bool.eq_iff_iff, beq_iff_eq, decide_eq_true_eq]; omega) | (rw [fK4 (by omega), decide_eq_false (show ¬ L.len ≠ 1 by omega)]; rfl) | (rw [fK4 (by omega), decide_eq_true (show L.len ≠ 1 by omega), Bool.true_and, Bool.eq_iff_iff, decide_eq_true_eq, decide_eq_true_eq]; omega) | (rw [fK0 (by omega)]; done) | (rw [fK6 (by omega), ← ht8, (by assumption : t8 = true), decide_eq_true (show L.len = 2 by omega)]; rfl) | (rw [fK6 (by omega), decide_eq_false (show ¬ L.len = 2 by omega), Bool.and_false, Bool.false_or]; first | (rw [decide_eq_true (show L.len = 1 by omega), Bool.true_and]; done) | (rw [decide_eq_false (show ¬ L.len = 1 by omega)]; rfl)) | (rw [fK6 (by omega), ← ht8, (by assumption : t8 = false), Bool.false_and, Bool.false_or]; first | (rw [decide_eq_true (show L.len = 1 by omega), Bool.true_and]; done) | (rw [decide_eq_false (show ¬ L.len = 1 by omega)]; rfl)) | trace_state)
  (skip; (try simp only [tq] at h))
  refine wp_sr fun Kq13 hKq13 => ?_
  iterate 2 (refine wpl_p S rfl rfl rfl ?_; clear S a; intro a S)
  (refine wpList_nil (hKq13 _ _ ?_); try clear hKq13 Kq13)
  refine wpc_split S rfl (fun h => ?_) (fun h => ?_)
  · (skip; (try simp only [tq] at h))
    (refine wp_seq_k ?_; intro Kq14 hKq14)
    (refine wpc_mixM [0, 1, 2, 3, 4, 5, 6, 7, 8, 9] [0, 3, 5, 6] [] (.one 0 (.one 1 (.one 2 (.one 3 (.one 4 (.one 5 (.one 6 (.one 7 (.one 8 (.one 9 (.one 10 (.one 11 .nil)))))))))))) [b2, b3] S mixed (by kernel_rfl) ?_; clear S; intro w S)
    (refine wpm_o b2 S rfl rfl rfl (want_none _ rfl) rfl rfl ?_; clear S a; intro a S)
    (refine wpm_s S rfl rfl rfl (want_none _ rfl) rfl rfl ?_; clear S a; intro a S)
    (refine wpm_f S rfl rfl rfl (want_none _ rfl) rfl rfl ?_; clear S a; intro a S)
    (refine wpm_lateF S rfl rfl rfl (want_none _ rfl) rfl rfl (fun w' S => sv_loadF S rfl rfl hm2) ?_; clear S a; intro a S)
    (refine wpm_f S rfl rfl rfl (want_none _ rfl) rfl rfl ?_; clear S a; intro a S)
    (refine wpm_o b3 S rfl rfl rfl (want_none _ rfl) rfl rfl ?_; clear S a; intro a S)
    (refine wpm_lateF S rfl rfl rfl (want_none _ rfl) rfl rfl (fun w' S => sv_lookupF (enc := kS) S rfl rfl rfl hes) ?_; clear S a; intro a S)
    (rw [if_pos rfl, ops_some hops] at S; generalize (mGet es eh.nm).getD _ = gf at S)
    iterate 3 (refine wpm_p S rfl rfl rfl (want_none _ rfl) rfl rfl ?_; clear S a; intro a S)
    refine wpm_eff rfl rfl (kwa S) ?_
    (refine wpl_p S rfl rfl rfl ?_; clear S a; intro a S)
    refine wpList_nil ?_
    refine wpm_eff rfl rfl (kwa S) ?_
    (refine wpl_p S rfl rfl rfl ?_; clear S a; intro a S)
    refine wpList_nil ?_
    (refine wpm_nil (kwa S) (hKq14 _ _ (wp_seq_k fun Kq15 hKq15 => ?_)); try clear hKq14 Kq14)
    replace hKq15 : ∀ (a' : Act) (w' : World), (∃ (t : Bool), t = (((op2 eh.nm).isSome || decide (eh.nm = sAnd)) || decide (eh.nm = sOr)) ∧ St 86 [(2, ptr b2), (3, ptr b3), (4, .bool false), (5, .int .i64 L.len), (8, .bool t)] w0 F [] F [[(b3, .cells ⟨[.int .u8 (eh.k : Int), .int .i64 eh.l, .int .i64 eh.c, .string (bs eh.nm), .int .u8 (eh.v.k : Int), .int .i64 eh.v.n, .string (bs eh.v.s), .slice a1 n1 c1, .slice ao L.len cap]⟩ 34 (0, 0))], [(b2, .cells ⟨[ptr bm]⟩ 54 (0, 0))]] a' w') → Kq15 a' w' := (by
     (intro a w hM; refine hKq15 _ _ ?_; clear hKq15 Kq15; clear S; obtain ⟨t8, ht8, S⟩ := hM)
     refine wp_region_lit ?_
     iterate 2 (refine wpl_p S rfl rfl rfl ?_; clear S a; intro a S)
     refine wpl_guard S rfl rfl rfl rfl rfl ?_ ?_
     · (intro h S'; clear S; have S := S'; clear S'; (try simp only [tq] at h))
       (refine wpl_p S rfl rfl rfl ?_; clear S a; intro a S)
       refine wpl_take S rfl rfl rfl ?_
       iterate 3 (refine wpl_p S rfl rfl rfl ?_; clear S a; intro a S)
       refine wpl_guard S rfl rfl rfl rfl rfl ?_ ?_
       · (intro h S'; clear S; have S := S'; clear S'; (try simp only [tq] at h))
         (refine wpl_p S rfl rfl rfl ?_; clear S a; intro a S)
         refine wpl_take S rfl rfl rfl ?_
         (refine wpl_p S rfl rfl rfl ?_; clear S a; intro a S)
         refine wpl_take S rfl rfl rfl ?_
         (refine wpl_p S rfl rfl rfl ?_; clear S a; intro a S)
         refine wpl_guard S rfl rfl rfl rfl rfl ?_ ?_
         · (intro h S'; clear S; have S := S'; clear S'; (try simp only [tq] at h))
           (refine wpl_buildSlice S rfl rfl rfl rfl rfl rfl (by rfl) (by simp [Value.cells, splice, splice]) rfl (by rfl) (by rfl) ?_; clear S a; intro b72 a w hown S)
           refine wpl_take S rfl rfl rfl ?_
           (refine wpl_f S rfl rfl rfl ?_; clear S a; intro a S)
           refine wpl_take S rfl rfl rfl ?_
           (refine wpl_l S rfl rfl rfl ?_; clear S a; intro a S)
           refine wpl_take S rfl rfl rfl ?_
           (replace S := St.pullB b72 S; have S' := frz1 S; clear S; obtain ⟨F5, hle5, hb72, S⟩ := S'; refine wpl_call0 S rfl rfl rfl rfl rfl rfl (containsS2Ct F5 ones eh.nm _ (ones_lim hb72)) rfl ?_; clear S a; intro v a w hv S; subst hv)
           refine wpl_take S rfl rfl rfl ?_
           iterate 3 (refine wpl_p S rfl rfl rfl ?_; clear S a; intro a S)
           refine wpList_nil ?_
           (refine hKq4 _ _ ?_)
           ((first | (refine ⟨F5, ?_⟩; apply Exists.intro; refine ⟨hle5, ?_⟩; apply And.intro) | (refine ⟨F, ?_⟩; apply Exists.intro; refine ⟨fun _ _ h => h, ?_⟩; apply And.intro)); rotate_left 1; (refine ⟨⟨by omega, by omega⟩, ?_⟩; refine S.keep ?_; repeat (first | exact trivial | refine ⟨rfl, ?_⟩)); first | (rw [fK5 (by omega)]; done) | (rw [fK7 (by omega), Bool.eq_iff_iff, beq_iff_eq, decide_eq_true_eq]; omega) | (rw [fK8 (by omega), Bool.eq_iff_iff, beq_iff_eq, decide_eq_true_eq]; omega) | (rw [fK4 (by omega), decide_eq_false (show ¬ L.len ≠ 1 by omega)]; rfl) | (rw [fK4 (by omega), decide_eq_true (show L.len ≠ 1 by omega), Bool.true_and, Bool.eq_iff_iff, decide_eq_true_eq, decide_eq_true_eq]; omega) | (rw [fK0 (by omega)]; done) | (rw [fK6 (by omega), ← ht8, (by assumption : t8 = true), decide_eq_true (show L.len = 2 by omega)]; rfl) | (rw [fK6 (by omega), decide_eq_false (show ¬ L.len = 2 by omega), Bool.and_false, Bool.false_or]; first | (rw [decide_eq_true (show L.len = 1 by omega), Bool.true_and]; done) | (rw [decide_eq_false (show ¬ L.len = 1 by omega)]; rfl)) | (rw [fK6 (by omega), ← ht8, (by assumption : t8 = false), Bool.false_and, Bool.false_or]; first | (rw [decide_eq_true (show L.len = 1 by omega), Bool.true_and]; done) | (rw [decide_eq_false (show ¬ L.len = 1 by omega)]; rfl)) | trace_state)
         (intro h; clear S a; intro a S; (try simp only [tq] at h))
         iterate 3 (refine wpl_skip S rfl rfl rfl rfl rfl ?_; clear S a; intro a S)
         refine wpl_take S rfl rfl rfl ?_
         iterate 3 (refine wpl_p S rfl rfl rfl ?_; clear S a; intro a S)
         refine wpList_nil ?_
         (refine hKq4 _ _ ?_)
         ((first | (refine ⟨F5, ?_⟩; apply Exists.intro; refine ⟨hle5, ?_⟩; apply And.intro) | (refine ⟨F, ?_⟩; apply Exists.intro; refine ⟨fun _ _ h => h, ?_⟩; apply And.intro)); rotate_left 1; (refine ⟨⟨by omega, by omega⟩, ?_⟩; refine S.keep ?_; repeat (first | exact trivial | refine ⟨rfl, ?_⟩)); first | (rw [fK5 (by omega)]; done) | (rw [fK7 (by omega), Bool.eq_iff_iff, beq_iff_eq, decide_eq_true_eq]; omega) | (rw [fK8 (by omega), Bool.eq_iff_iff, beq_iff_eq, decide_eq_true_eq]; omega) | (rw [fK4 (by omega), decide_eq_false (show ¬ L.len ≠ 1 by omega)]; rfl) | (rw [fK4 (by omega), decide_eq_true (show L.len ≠ 1 by omega), Bool.true_and, Bool.eq_iff_iff, decide_eq_true_eq, decide_eq_true_eq]; omega) | (rw [fK0 (by omega)]; done) | (rw [fK6 (by omega), ← ht8, (by assumption : t8 = true), decide_eq_true (show L.len = 2 by omega)]; rfl) | (rw [fK6 (by omega), decide_eq_false (show ¬ L.len = 2 by omega), Bool.and_false, Bool.false_or]; first | (rw [decide_eq_true (show L.len = 1 by omega), Bool.true_and]; done) | (rw [decide_eq_false (show ¬ L.len = 1 by omega)]; rfl)) | (rw [fK6 (by omega), ← ht8, (by assumption : t8 = false), Bool.false_and, Bool.false_or]; first | (rw [decide_eq_true (show L.len = 1 by omega), Bool.true_and]; done) | (rw [decide_eq_false (show ¬ L.len = 1 by omega)]; rfl)) | trace_state)
       (intro h; clear S a; intro a S; (try simp only [tq] at h))
       iterate 2 (refine wpl_skip S rfl rfl rfl rfl rfl ?_; clear S a; intro a S)
       iterate 4 (refine wpl_skipU S rfl rfl rfl rfl rfl ?_; clear S a; intro a S)
       (refine wpl_skip S rfl rfl rfl rfl rfl ?_; clear S a; intro a S)
       iterate 2 (refine wpl_p S rfl rfl rfl ?_; clear S a; intro a S)
       refine wpList_nil ?_
       (refine hKq4 _ _ ?_)
       ((first | (refine ⟨F5, ?_⟩; apply Exists.intro; refine ⟨hle5, ?_⟩; apply And.intro) | (refine ⟨F, ?_⟩; apply Exists.intro; refine ⟨fun _ _ h => h, ?_⟩; apply And.intro)); rotate_left 1; (refine ⟨⟨by omega, by omega⟩, ?_⟩; refine S.keep ?_; repeat (first | exact trivial | refine ⟨rfl, ?_⟩)); first | (rw [fK5 (by omega)]; done) | (rw [fK7 (by omega), Bool.eq_iff_iff, beq_iff_eq, decide_eq_true_eq]; omega) | (rw [fK8 (by omega), Bool.eq_iff_iff, beq_iff_eq, decide_eq_true_eq]; omega) | (rw [fK4 (by omega), decide_eq_false (show ¬ L.len ≠ 1 by omega)]; rfl) | (rw [fK4 (by omega), decide_eq_true (show L.len ≠ 1 by omega), Bool.true_and, Bool.eq_iff_iff, decide_eq_true_eq, decide_eq_true_eq]; omega) | (rw [fK0 (by omega)]; done) | (rw [fK6 (by omega), ← ht8, (by assumption : t8 = true), decide_eq_true (show L.len = 2 by omega)]; rfl) | (rw [fK6 (by omega), decide_eq_false (show ¬ L.len = 2 by omega), Bool.and_false, Bool.false_or]; first | (rw [decide_eq_true (show L.len = 1 by omega), Bool.true_and]; done) | (rw [decide_eq_false (show ¬ L.len = 1 by omega)]; rfl)) | (rw [fK6 (by omega), ← ht8, (by assumption : t8 = false), Bool.false_and, Bool.false_or]; first | (rw [decide_eq_true (show L.len = 1 by omega), Bool.true_and]; done) | (rw [decide_eq_false (show ¬ L.len = 1 by omega)]; rfl)) | trace_state)
     (intro h; clear S a; intro a S; (try simp only [tq] at h))
     (refine wpl_skip S rfl rfl rfl rfl rfl ?_; clear S a; intro a S)
     iterate 2 (refine wpl_p S rfl rfl rfl ?_; clear S a; intro a S)
     refine wpl_take S rfl rfl rfl ?_
     (refine wpl_p S rfl rfl rfl ?_; clear S a; intro a S)
     refine wpl_take S rfl rfl rfl ?_
     (refine wpl_p S rfl rfl rfl ?_; clear S a; intro a S)
     refine wpl_take S rfl rfl rfl ?_
     (refine wpl_p S rfl rfl rfl ?_; clear S a; intro a S)
     refine wpl_guard S rfl rfl rfl rfl rfl ?_ ?_
     · (intro h S'; clear S; have S := S'; clear S'; (try simp only [tq] at h))
       (refine wpl_buildSlice S rfl rfl rfl rfl rfl rfl (by rfl) (by simp [Value.cells, splice, splice]) rfl (by rfl) (by rfl) ?_; clear S a; intro b72 a w hown S)
       refine wpl_take S rfl rfl rfl ?_
       (refine wpl_f S rfl rfl rfl ?_; clear S a; intro a S)
       refine wpl_take S rfl rfl rfl ?_
       (refine wpl_l S rfl rfl rfl ?_; clear S a; intro a S)
       refine wpl_take S rfl rfl rfl ?_
       (replace S := St.pullB b72 S; have S' := frz1 S; clear S; obtain ⟨F5, hle5, hb72, S⟩ := S'; refine wpl_call0 S rfl rfl rfl rfl rfl rfl (containsS2Ct F5 ones eh.nm _ (ones_lim hb72)) rfl ?_; clear S a; intro v a w hv S; subst hv)
       refine wpl_take S rfl rfl rfl ?_
       iterate 3 (refine wpl_p S rfl rfl rfl ?_; clear S a; intro a S)
       refine wpList_nil ?_
       (refine hKq4 _ _ ?_)
       ((first | (refine ⟨F5, ?_⟩; apply Exists.intro; refine ⟨hle5, ?_⟩; apply And.intro) | (refine ⟨F, ?_⟩; apply Exists.intro; refine ⟨fun _ _ h => h, ?_⟩; apply And.intro)); rotate_left 1; (refine ⟨⟨by omega, by omega⟩, ?_⟩; refine S.keep ?_; repeat (first | exact trivial | refine ⟨rfl, ?_⟩)); first | (rw [fK5 (by omega)]; done) | (rw [fK7 (by omega), Bool.eq_iff_iff, beq_iff_eq, decide_eq_true_eq]; omega) | (rw [fK8 (by omega), Bool.eq_iff_iff, beq_iff_eq, decide_eq_true_eq]; omega) | (rw [fK4 (by omega), decide_eq_false (show ¬ L.len ≠ 1 by omega)]; rfl) | (rw [fK4 (by omega), decide_eq_true (show L.len ≠ 1 by omega), Bool.true_and, Bool.eq_iff_iff, decide_eq_true_eq, decide_eq_true_eq]; omega) | (rw [fK0 (by omega)]; done) | (rw [fK6 (by omega), ← ht8, (by assumption : t8 = true), decide_eq_true (show L.len = 2 by omega)]; rfl) | (rw [fK6 (by omega), decide_eq_false (show ¬ L.len = 2 by omega), Bool.and_false, Bool.false_or]; first | (rw [decide_eq_true (show L.len = 1 by omega), Bool.true_and]; done) | (rw [decide_eq_false (show ¬ L.len = 1 by omega)]; rfl)) | (rw [fK6 (by omega), ← ht8, (by assumption : t8 = false), Bool.false_and, Bool.false_or]; first | (rw [decide_eq_true (show L.len = 1 by omega), Bool.true_and]; done) | (rw [decide_eq_false (show ¬ L.len = 1 by omega)]; rfl)) | trace_state)
     (intro h; clear S a; intro a S; (try simp only [tq] at h))
     iterate 3 (refine wpl_skip S rfl rfl rfl rfl rfl ?_; clear S a; intro a S)
     refine wpl_take S rfl rfl rfl ?_
     iterate 3 (refine wpl_p S rfl rfl rfl ?_; clear S a; intro a S)
     refine wpList_nil ?_
     (refine hKq4 _ _ ?_)
     ((first | (refine ⟨F5, ?_⟩; apply Exists.intro; refine ⟨hle5, ?_⟩; apply And.intro) | (refine ⟨F, ?_⟩; apply Exists.intro; refine ⟨fun _ _ h => h, ?_⟩; apply And.intro)); rotate_left 1; (refine ⟨⟨by omega, by omega⟩, ?_⟩; refine S.keep ?_; repeat (first | exact trivial | refine ⟨rfl, ?_⟩)); first | (rw [fK5 (by omega)]; done) | (rw [fK7 (by omega), Bool.eq_iff_iff, beq_iff_eq, decide_eq_true_eq]; omega) | (rw [fK8 (by omega), Bool.eq_iff_iff, beq_iff_eq, decide_eq_true_eq]; omega) | (rw [fK4 (by omega), decide_eq_false (show ¬ L.len ≠ 1 by omega)]; rfl) | (rw [fK4 (by omega), decide_eq_true (show L.len ≠ 1 by omega), Bool.true_and, Bool.eq_iff_iff, decide_eq_true_eq, decide_eq_true_eq]; omega) | (rw [fK0 (by omega)]; done) | (rw [fK6 (by omega), ← ht8, (by assumption : t8 = true), decide_eq_true (show L.len = 2 by omega)]; rfl) | (rw [fK6 (by omega), decide_eq_false (show ¬ L.len = 2 by omega), Bool.and_false, Bool.false_or]; first | (rw [decide_eq_true (show L.len = 1 by omega), Bool.true_and]; done) | (rw [decide_eq_false (show ¬ L.len = 1 by omega)]; rfl)) | (rw [fK6 (by omega), ← ht8, (by assumption : t8 = false), Bool.false_and, Bool.false_or]; first | (rw [decide_eq_true (show L.len = 1 by omega), Bool.true_and]; done) | (rw [decide_eq_false (show ¬ L.len = 1 by omega)]; rfl)) | trace_state))
    refine wp_region_lit ?_
    iterate 2 (refine wpl_p S rfl rfl rfl ?_; clear S a; intro a S)
    refine wpl_guard S rfl rfl rfl rfl rfl ?_ ?_
    · (intro h S'; clear S; have S := S'; clear S'; (try simp only [tq] at h))
      (refine wpl_f S rfl rfl rfl ?_; clear S a; intro a S)
      refine wpl_take S rfl rfl rfl ?_
      (refine wpl_l S rfl rfl rfl ?_; clear S a; intro a S)
      refine wpl_take S rfl rfl rfl ?_
      iterate 3 (refine wpl_p S rfl rfl rfl ?_; clear S a; intro a S)
      refine wpl_guard S rfl rfl rfl rfl rfl ?_ ?_
      · (intro h S'; clear S; have S := S'; clear S'; (try simp only [tq] at h))
        (refine wpl_f S rfl rfl rfl ?_; clear S a; intro a S)
        refine wpl_take S rfl rfl rfl ?_
        (refine wpl_l S rfl rfl rfl ?_; clear S a; intro a S)
        refine wpl_take S rfl rfl rfl ?_
        iterate 3 (refine wpl_p S rfl rfl rfl ?_; clear S a; intro a S)
        refine wpList_nil ?_
        (refine hKq15 _ _ ?_)
        (apply Exists.intro; apply And.intro; rotate_left 1; (refine S.keep ?_; repeat (first | exact trivial | refine ⟨rfl, ?_⟩)); first | (simp only [*, Bool.true_or, Bool.false_or, Bool.or_true, decide_true, beqL]; done) | (rw [beqL, (by assumption : (op2 eh.nm).isSome = false), decide_eq_false (show ¬ eh.nm = sAnd by assumption)]; rfl) | (rw [(by assumption : (op2 eh.nm).isSome = false), decide_eq_true (show eh.nm = sAnd by assumption)]; rfl) | (rw [(by assumption : (op2 eh.nm).isSome = true)]; rfl) | trace_state)
      (intro h; clear S a; intro a S; (try simp only [tq] at h))
      iterate 2 (refine wpl_skip S rfl rfl rfl rfl rfl ?_; clear S a; intro a S)
      iterate 2 (refine wpl_p S rfl rfl rfl ?_; clear S a; intro a S)
      refine wpList_nil ?_
      (refine hKq15 _ _ ?_)
      (apply Exists.intro; apply And.intro; rotate_left 1; (refine S.keep ?_; repeat (first | exact trivial | refine ⟨rfl, ?_⟩)); first | (simp only [*, Bool.true_or, Bool.false_or, Bool.or_true, decide_true, beqL]; done) | (rw [beqL, (by assumption : (op2 eh.nm).isSome = false), decide_eq_false (show ¬ eh.nm = sAnd by assumption)]; rfl) | (rw [(by assumption : (op2 eh.nm).isSome = false), decide_eq_true (show eh.nm = sAnd by assumption)]; rfl) | (rw [(by assumption : (op2 eh.nm).isSome = true)]; rfl) | trace_state)
    (intro h; clear S a; intro a S; (try simp only [tq] at h))
    iterate 2 (refine wpl_skip S rfl rfl rfl rfl rfl ?_; clear S a; intro a S)
    iterate 2 (refine wpl_p S rfl rfl rfl ?_; clear S a; intro a S)
    iterate 3 (refine wpl_skip S rfl rfl rfl rfl rfl ?_; clear S a; intro a S)
    iterate 2 (refine wpl_p S rfl rfl rfl ?_; clear S a; intro a S)
    refine wpList_nil ?_
    (refine hKq15 _ _ ?_)
    (apply Exists.intro; apply And.intro; rotate_left 1; (refine S.keep ?_; repeat (first | exact trivial | refine ⟨rfl, ?_⟩)); first | (simp only [*, Bool.true_or, Bool.false_or, Bool.or_true, decide_true, beqL]; done) | (rw [beqL, (by assumption : (op2 eh.nm).isSome = false), decide_eq_false (show ¬ eh.nm = sAnd by assumption)]; rfl) | (rw [(by assumption : (op2 eh.nm).isSome = false), decide_eq_true (show eh.nm = sAnd by assumption)]; rfl) | (rw [(by assumption : (op2 eh.nm).isSome = true)]; rfl) | trace_state)
  (skip; (try simp only [tq] at h))
  refine wp_skip ?_
  (refine hKq4 _ _ ?_)
  ((first | (refine ⟨F5, ?_⟩; apply Exists.intro; refine ⟨hle5, ?_⟩; apply And.intro) | (refine ⟨F, ?_⟩; apply Exists.intro; refine ⟨fun _ _ h => h, ?_⟩; apply And.intro)); rotate_left 1; (refine ⟨⟨by omega, by omega⟩, ?_⟩; refine S.keep ?_; repeat (first | exact trivial | refine ⟨rfl, ?_⟩)); first | (rw [fK5 (by omega)]; done) | (rw [fK7 (by omega), Bool.eq_iff_iff, beq_iff_eq, decide_eq_true_eq]; omega) | (rw [fK8 (by omega), Bool.eq_iff_iff, beq_iff_eq, decide_eq_true_eq]; omega) | (rw [fK4 (by omega), decide_eq_false (show ¬ L.len ≠ 1 by omega)]; rfl) | (rw [fK4 (by omega), decide_eq_true (show L.len ≠ 1 by omega), Bool.true_and, Bool.eq_iff_iff, decide_eq_true_eq, decide_eq_true_eq]; omega) | (rw [fK0 (by omega)]; done) | (rw [fK6 (by omega), ← ht8, (by assumption : t8 = true), decide_eq_true (show L.len = 2 by omega)]; rfl) | (rw [fK6 (by omega), decide_eq_false (show ¬ L.len = 2 by omega), Bool.and_false, Bool.false_or]; first | (rw [decide_eq_true (show L.len = 1 by omega), Bool.true_and]; done) | (rw [decide_eq_false (show ¬ L.len = 1 by omega)]; rfl)) | (rw [fK6 (by omega), ← ht8, (by assumption : t8 = false), Bool.false_and, Bool.false_or]; first | (rw [decide_eq_true (show L.len = 1 by omega), Bool.true_and]; done) | (rw [decide_eq_false (show ¬ L.len = 1 by omega)]; rfl)) | trace_state)
end Go.Proofs.YtigblodhdfnleaaGreatDoor
namespace Go.Proofs.YtigblodhdfnleaaGreatDoor
open Go Go.Wk Go.Un Go.De Go.Num
set_option linter.unusedSimpArgs false
set_option linter.unusedVariables false
attribute [local irreducible] Go.wpList Go.Code.wp Go.wpStill Go.Wk.wpPre Go.bodyPost Go.Calls Go.Wk.Ct Go.Wk.OwnS
attribute [local irreducible] Go.Wk.wpG Go.Wk.wpM

theorem evl1Ct (F : Heap) (x : Bd) (cs : List Value) (gx : GV x.2) (hf : BdR F x cs) : Ct Tryz.prog 23 ([] ++ [.agg ⟨cs⟩] ++ []) F [] (fun _ _ u => u = .bool (!mayV x.2)) := by
  obtain ⟨c, rfl, hV⟩ := hf
  have hck := checkVCt F x.2.1 x.2.2 c (Nat.le_trans gx.2.2 (by decide)) hV
  obtain ⟨a4, c4, rfl, hT4, hs4⟩ := vac_slc hV
  refine Ct.enter Tryz.func23 rfl Tryz.ntmps23 rfl fun w0 a S => ?_
  refine wp_sr fun Kq1 hKq1 => ?_
  (refine wpl_box S rfl rfl rfl rfl rfl ?_; clear S a; intro b1 a w S)
  (refine wpl_p S rfl rfl rfl ?_; clear S a; intro a S)
  (refine wpList_nil (hKq1 _ _ (wp_sr fun Kq2 hKq2 => ?_)); try clear hKq1 Kq1)
  (refine wpl_f S rfl rfl rfl ?_; clear S a; intro a S)
  (refine wpl_l S rfl rfl rfl ?_; clear S a; intro a S)
  (refine wpl_call0 S rfl rfl rfl rfl rfl rfl (hck) rfl ?_; clear S a; intro v a w hv S; subst hv)
  iterate 2 (refine wpl_p S rfl rfl rfl ?_; clear S a; intro a S)
  (refine wpList_nil (hKq2 _ _ ?_); try clear hKq2 Kq2)
  exact wp_ret (fin_ret S (results1 Tryz.results23 (RV.tmp S rfl)) rfl)
theorem all_any (vs : List Bd) : (vs.all fun x => mayV x.2) = !(vs.any fun x => !mayV x.2) := by
  induction vs with
  | nil => rfl
  | cons x r ih => rw [List.all_cons, List.any_cons, ih]; cases mayV x.2 <;> simp
set_option maxRecDepth 20000 in
set_option maxHeartbeats 16000000 in
theorem evalCt (F : Heap) (hT : TabF F) (hE : ErrF F) (tv : Option Addr) (css : List KC) (hK : ∀ (F' : Heap) (nm : List UInt8), (∀ b o, F b = some o → F' b = some o) → Ct Tryz.prog 86 [.pointer tv, .string (bs nm)] F' [] (fun F2 _ u => ConsR F2 u (findC css nm)))
    (vs : List Bd) (vv : Value) (hvs : LiM F 5 BdR vv vs) (hGB : GVB vs) (eh : EH) (L : Ef) (xs : List Value) (hX : ExC F xs eh L) (hg : GE eh L) :
    Ct Tryz.prog 6 [.pointer tv, .agg ⟨xs⟩, vv] F [] (fun F' _ u => AnsR F' u (evalO css vs eh L)) := by
  have hXc := hX
  obtain ⟨a1, n1, c1, ao, cap, rfl, -, -⟩ := exc_slc hX
  have hvc := hvs
  obtain ⟨aov, capv, rfl, -, -⟩ := hvc
  have han : anyN (atN vs fun x => !mayV x.2) vs.length = vs.any fun x => !mayV x.2 := anyN_list (fun k x hx => atN_some hx)
  have hgv := evE_GV (cs := css) hGB hg
  have hno := evE_no (cs := css) (vs := vs) (h := eh) (L := L)
  refine Ct.enter Tryz.func6 rfl Tryz.ntmps6 rfl fun w0 a S => ?_
  refine wp_sr fun Kq1 hKq1 => ?_
  (refine wpl_box S rfl rfl rfl rfl rfl ?_; clear S a; intro b4 a w S)
  (refine wpl_alloc S rfl rfl rfl rfl ?_; clear S a; intro b6 a w S)
  (refine wpl_p S rfl rfl rfl ?_; clear S a; intro a S)
  (refine wpList_nil (hKq1 _ _ (wp_sr fun Kq2 hKq2 => ?_)); try clear hKq1 Kq1)
  iterate 2 (refine wpl_p S rfl rfl rfl ?_; clear S a; intro a S)
  (refine wpl_callF S rfl rfl rfl rfl rfl rfl (operatorsCt F hT) rfl ?_; clear S a; intro u9 F4 a w hv hF4 S; obtain ⟨bt, es, rfl, hes, hops⟩ := hv)
  (refine wpl_b S rfl rfl rfl ?_; clear S a; intro a S)
  (refine wpl_box S rfl rfl rfl rfl rfl ?_; clear S a; intro b15 a w S)
  (refine wpl_p S rfl rfl rfl ?_; clear S a; intro a S)
  (refine wpList_nil (hKq2 _ _ (wp_seq_k fun Kq3 hKq3 => ?_)); try clear hKq2 Kq2)
  refine wp_block ?_
  (refine wp_seq_k ?_; intro Kq4 hKq4)
  (replace S := St.pullB b15 S; have S' := frz1 S; clear S; obtain ⟨F5, hle5, hb15, S⟩ := S'; have hF5 : ∀ b o, F b = some o → F5 b = some o := fun b o h => hle5 _ _ (hF4 _ _ h); have hM : Mac F5 b15 css vs := ⟨⟨tv, aov, capv, bt, es, ⟨_, _, _, hb15, rfl⟩, ⟨_, _, _, hb15, rfl⟩, ⟨_, _, _, hb15, rfl⟩, hvs.mono hF5, hle5 _ _ hes, hops.mono hle5, fun F' nm h => hK F' nm fun b o h9 => h _ _ (hF5 _ _ h9)⟩, hT.mono hF5, hE.mono hF5, hGB⟩; replace hXc := hXc.mono hF5)
  refine wp_region_lit ?_
  (refine wpl_l S rfl rfl rfl ?_; clear S a; intro a S)
  (refine wpl_call0 S rfl rfl rfl rfl rfl rfl (deepCt (L.size + 1) F5 eh L _ 1 (Nat.lt_succ_self _) hXc (by decide) (by decide)) rfl ?_; clear S a; intro v a w hv S; subst hv)
  (refine wpl_p S rfl rfl rfl ?_; clear S a; intro a S)
  (refine wpList_nil (hKq4 _ _ ?_); try clear hKq4 Kq4)
  refine wpc_split S rfl (fun h => ?_) (fun h => ?_)
  · (skip; (try simp only [tq] at h))
    refine wp_sr fun Kq5 hKq5 => ?_
    (refine wpl_b S rfl rfl rfl ?_; clear S a; intro a S)
    (refine wpl_storeO S rfl rfl rfl rfl rfl (by rfl) (by simp [Value.cells, Value.oneCell', splice]) (by rfl) ?_; clear S; intro w S)
    (refine wpl_p S rfl rfl rfl ?_; clear S a; intro a S)
    (refine wpList_nil (hKq5 _ _ ?_); try clear hKq5 Kq5)
    refine wp_ret (fin_ret S (results2 Tryz.results6 (RV.cellO S rfl (by rfl)) (RV.tmp S rfl)) ?_)
    (unfold evalO; rw [all_any]; first | (rw [if_pos (by assumption)]; exact ans_no _ _) | (rw [if_neg (by rw [(by assumption : deepE L 1 = false)]; decide)]; first | (rw [if_pos (by assumption)]; exact ans_no _ _) | (rw [if_neg (by rw [hfe]; decide), if_neg (by rw [(by assumption : (vs.any fun x => !mayV x.2) = false)]; decide)]; first | (rw [hno (by assumption)]; exact ans_no _ _) | (have he0 : (evE css vs eh L).1 = 0 := (by omega); refine ⟨_, ?_, hV7⟩; rw [he0]; rfl)) | (rw [if_neg (by rw [(by assumption : formE eh L = true)]; decide), if_pos (by rw [(by assumption : (vs.any fun x => !mayV x.2) = true)]; rfl)]; exact ans_no _ _)) | trace_state)
  (skip; (try simp only [tq] at h))
  refine wp_sr fun Kq5 hKq5 => ?_
  (refine wpl_p S rfl rfl rfl ?_; clear S a; intro a S)
  (refine wpl_l S rfl rfl rfl ?_; clear S a; intro a S)
  (refine wpl_call0 S rfl rfl rfl rfl rfl rfl (formCt (L.size + 1) F5 b15 css vs eh L _ (Nat.lt_succ_self _) hM hXc hg) rfl ?_; clear S a; intro v a w hv S; subst hv)
  iterate 2 (refine wpl_p S rfl rfl rfl ?_; clear S a; intro a S)
  (refine wpList_nil (hKq5 _ _ ?_); try clear hKq5 Kq5)
  refine wpc_split S rfl (fun h => ?_) (fun h => ?_)
  · (skip; (try simp only [tq] at h))
    refine wp_sr fun Kq6 hKq6 => ?_
    (refine wpl_b S rfl rfl rfl ?_; clear S a; intro a S)
    (refine wpl_storeO S rfl rfl rfl rfl rfl (by rfl) (by simp [Value.cells, Value.oneCell', splice]) (by rfl) ?_; clear S; intro w S)
    (refine wpl_p S rfl rfl rfl ?_; clear S a; intro a S)
    (refine wpList_nil (hKq6 _ _ ?_); try clear hKq6 Kq6)
    refine wp_ret (fin_ret S (results2 Tryz.results6 (RV.cellO S rfl (by rfl)) (RV.tmp S rfl)) ?_)
    (unfold evalO; rw [all_any]; first | (rw [if_pos (by assumption)]; exact ans_no _ _) | (rw [if_neg (by rw [(by assumption : deepE L 1 = false)]; decide)]; first | (rw [if_pos (by assumption)]; exact ans_no _ _) | (rw [if_neg (by rw [hfe]; decide), if_neg (by rw [(by assumption : (vs.any fun x => !mayV x.2) = false)]; decide)]; first | (rw [hno (by assumption)]; exact ans_no _ _) | (have he0 : (evE css vs eh L).1 = 0 := (by omega); refine ⟨_, ?_, hV7⟩; rw [he0]; rfl)) | (rw [if_neg (by rw [(by assumption : formE eh L = true)]; decide), if_pos (by rw [(by assumption : (vs.any fun x => !mayV x.2) = true)]; rfl)]; exact ans_no _ _)) | trace_state)
  (skip; (try simp only [tq] at h))
  refine wp_sr fun Kq6 hKq6 => ?_
  (refine wpl_p S rfl rfl rfl ?_; clear S a; intro a S)
  (refine wpl_call0 S rfl rfl rfl rfl rfl rfl (cfBCt F5 _ _ _ (hvs.mono hF5).sq 23 [] [] (atN vs fun x => !mayV x.2) (fun k cs hk hC => by obtain ⟨x, hx, hR⟩ := hC; rw [atN_some hx]; exact evl1Ct F5 x cs (hGB x (List.mem_of_getElem? hx)) hR)) rfl ?_; clear S a; intro v a w hv S; subst hv; rw [han] at S)
  (refine wpl_p S rfl rfl rfl ?_; clear S a; intro a S)
  (refine wpList_nil (hKq6 _ _ ?_); try clear hKq6 Kq6)
  refine wpc_split S rfl (fun h => ?_) (fun h => ?_)
  · (skip; (try simp only [tq] at h))
    refine wp_sr fun Kq7 hKq7 => ?_
    (refine wpl_b S rfl rfl rfl ?_; clear S a; intro a S)
    (refine wpl_storeO S rfl rfl rfl rfl rfl (by rfl) (by simp [Value.cells, Value.oneCell', splice]) (by rfl) ?_; clear S; intro w S)
    (refine wpl_p S rfl rfl rfl ?_; clear S a; intro a S)
    (refine wpList_nil (hKq7 _ _ ?_); try clear hKq7 Kq7)
    refine wp_ret (fin_ret S (results2 Tryz.results6 (RV.cellO S rfl (by rfl)) (RV.tmp S rfl)) ?_)
    (unfold evalO; rw [all_any]; first | (rw [if_pos (by assumption)]; exact ans_no _ _) | (rw [if_neg (by rw [(by assumption : deepE L 1 = false)]; decide)]; first | (rw [if_pos (by assumption)]; exact ans_no _ _) | (rw [if_neg (by rw [hfe]; decide), if_neg (by rw [(by assumption : (vs.any fun x => !mayV x.2) = false)]; decide)]; first | (rw [hno (by assumption)]; exact ans_no _ _) | (have he0 : (evE css vs eh L).1 = 0 := (by omega); refine ⟨_, ?_, hV7⟩; rw [he0]; rfl)) | (rw [if_neg (by rw [(by assumption : formE eh L = true)]; decide), if_pos (by rw [(by assumption : (vs.any fun x => !mayV x.2) = true)]; rfl)]; exact ans_no _ _)) | trace_state)
  (skip; (try simp only [tq] at h))
  refine wp_skip ?_
  (refine hKq3 _ _ ?_; try (clear hKq3 Kq3))
  refine wp_sr fun Kq7 hKq7 => ?_
  (refine wpl_p S rfl rfl rfl ?_; clear S a; intro a S)
  (refine wpl_l S rfl rfl rfl ?_; clear S a; intro a S)
  (have hfe : formE eh L = true := (by assumption); refine wpl_callF S rfl rfl rfl rfl rfl rfl (evCt (L.size + 1) F5 b15 css vs eh L _ (Nat.lt_succ_self _) hM hXc hg hfe) rfl ?_; clear S a; intro u8 F6 a w hv hF6 S; obtain ⟨cs6, rfl, hV6⟩ := hv; have hV6c := hV6; obtain ⟨a6, c6, rfl, hT6, hs6⟩ := vac_slc hV6)
  iterate 3 (refine wpl_p S rfl rfl rfl ?_; clear S a; intro a S)
  (refine wpl_alloc S rfl rfl rfl rfl ?_; clear S a; intro b9 a w S)
  (refine wpl_storeO S rfl rfl rfl rfl rfl (by rfl) (by simp [Value.cells, Value.oneCell', splice]) (by rfl) ?_; clear S; intro w S)
  (refine wpl_p S rfl rfl rfl ?_; clear S a; intro a S)
  (refine wpList_nil (hKq7 _ _ (wp_seq_k fun Kq8 hKq8 => ?_)); try clear hKq7 Kq7)
  refine wp_sr fun Kq9 hKq9 => ?_
  iterate 2 (refine wpl_p S rfl rfl rfl ?_; clear S a; intro a S)
  (refine wpList_nil (hKq9 _ _ ?_); try clear hKq9 Kq9)
  refine wpc_split S rfl (fun h => ?_) (fun h => ?_)
  · (skip; (try simp only [tq] at h))
    refine wp_sr fun Kq10 hKq10 => ?_
    (refine wpl_b S rfl rfl rfl ?_; clear S a; intro a S)
    (refine wpl_p S rfl rfl rfl ?_; clear S a; intro a S)
    (refine wpl_storeO S rfl rfl rfl rfl rfl (by rfl) (by simp [Value.cells, Value.oneCell', splice]) (by rfl) ?_; clear S; intro w S)
    (refine wpl_p S rfl rfl rfl ?_; clear S a; intro a S)
    (refine wpList_nil (hKq10 _ _ ?_); try clear hKq10 Kq10)
    refine wp_ret (fin_ret S (results2 Tryz.results6 (RV.cellO S rfl (by rfl)) (RV.tmp S rfl)) ?_)
    (unfold evalO; rw [all_any]; first | (rw [if_pos (by assumption)]; exact ans_no _ _) | (rw [if_neg (by rw [(by assumption : deepE L 1 = false)]; decide)]; first | (rw [if_pos (by assumption)]; exact ans_no _ _) | (rw [if_neg (by rw [hfe]; decide), if_neg (by rw [(by assumption : (vs.any fun x => !mayV x.2) = false)]; decide)]; first | (rw [hno (by assumption)]; exact ans_no _ _) | (have he0 : (evE css vs eh L).1 = 0 := (by omega); refine ⟨_, ?_, hV7⟩; rw [he0]; rfl)) | (rw [if_neg (by rw [(by assumption : formE eh L = true)]; decide), if_pos (by rw [(by assumption : (vs.any fun x => !mayV x.2) = true)]; rfl)]; exact ans_no _ _)) | trace_state)
  (skip; (try simp only [tq] at h))
  refine wp_skip ?_
  (refine hKq8 _ _ ?_; try (clear hKq8 Kq8))
  refine wp_sr fun Kq10 hKq10 => ?_
  (refine wpl_l S rfl rfl rfl ?_; clear S a; intro a S)
  (refine wpl_callF S rfl rfl rfl rfl rfl rfl (ownVCt _ F6 _ _ _ (Nat.le_refl _) (Nat.le_trans hgv.2.2 (by decide)) hV6c) rfl ?_; clear S a; intro u7 F7 a w hv hF7 S; obtain ⟨cs7, rfl, hV7⟩ := hv; have hV7c := hV7; obtain ⟨a7, c7, rfl, hT7, hs7⟩ := vac_slc hV7)
  (refine wpl_storeO S rfl rfl rfl rfl rfl (by rfl) (by simp [Value.cells, Value.oneCell', splice]) (by rfl) ?_; clear S; intro w S)
  (refine wpl_p S rfl rfl rfl ?_; clear S a; intro a S)
  (refine wpList_nil (hKq10 _ _ ?_); try clear hKq10 Kq10)
  refine wp_ret (fin_ret S (results2 Tryz.results6 (RV.cellO S rfl (by rfl)) (RV.tmp S rfl)) ?_)
  (unfold evalO; rw [all_any]; first | (rw [if_pos (by assumption)]; exact ans_no _ _) | (rw [if_neg (by rw [(by assumption : deepE L 1 = false)]; decide)]; first | (rw [if_pos (by assumption)]; exact ans_no _ _) | (rw [if_neg (by rw [hfe]; decide), if_neg (by rw [(by assumption : (vs.any fun x => !mayV x.2) = false)]; decide)]; first | (rw [hno (by assumption)]; exact ans_no _ _) | (have he0 : (evE css vs eh L).1 = 0 := (by omega); refine ⟨_, ?_, hV7⟩; rw [he0]; rfl)) | (rw [if_neg (by rw [(by assumption : formE eh L = true)]; decide), if_pos (by rw [(by assumption : (vs.any fun x => !mayV x.2) = true)]; rfl)]; exact ans_no _ _)) | trace_state)
end Go.Proofs.YtigblodhdfnleaaGreatDoor
