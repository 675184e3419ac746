/- Walks. -/
import Derived.Test.YtgefmjghdijbfaaGreatDoorKEvalValuesUpto09
import Derived.Test.YtgefmjghdijbfaaGreatDoorKEvalValuesUpto02
set_option maxHeartbeats 16000000
namespace Go.Proofs.YtgefmjghdijbfaaGreatDoor
open Go Go.Wk Go.Un Go.De Go.Cv
set_option linter.unusedSimpArgs false
set_option linter.unusedVariables false
attribute [local irreducible] Go.wpList Go.Code.wp Go.wpStill Go.Wk.wpPre Go.bodyPost Go.Calls Go.Wk.Ct Go.Wk.OwnS Go.Wk.wpG Go.Wk.wpM
theorem wiT_any (p : Ty → Bool) (nm : List UInt8) (ar : Fo) : wiT p (nm, ar) = (p (nm, ar) || anyF (wiT p) ar) := by
 show (p (nm, ar) || wiL _ ar) = _
 rw [← anyF_wi]
theorem zzRtB0 {p : Prop} (h : p := by (congr 1; rw [← hfp]; first | (rw [any_end (by omega)]; simp; done) | (rw [(by assumption : q = false)]; rfl) | trace_state)) : p := h
theorem zzRtB1 {p : Prop} (h : p := by (replace S := S.drop1; apply Exists.intro; refine ⟨?_, ?_⟩; rotate_left 1; (refine S.keep ?_; exact zk); (unfold nameT sTuple; rw [Bool.eq_iff_iff]; simp [*]))) : p := h
theorem rnamesCt (tp : Nat) (ts : List TD) (F : Heap) (hT : RTab F tp ts) : ∀ (n : Nat) (nm : List UInt8) (ar : Fo) (cs : List Value), ar.size ≤ n → TyC F cs nm ar → Ct Tryz.prog 145 [.pointer (some ⟨tp, 0, none⟩), .agg ⟨cs⟩] F [] (fun _ _ u => u = .bool (!wiT (nameT ts) (nm, ar))) := by
  intro n
  induction n using Nat.strongRecOn with
  | _ n ih =>
  intro nm ar cs hn h
  obtain ⟨v, rfl, ao, cap, rfl, hcap, hpos⟩ := h
  refine Ct.enter Tryz.func145 rfl Tryz.ntmps145 rfl fun w0 a S => ?_
  refine wp_sr fun Z hZ => ?_
  (refine wbx S ?_; clear S a; intro b3 a w S)
  (revert S a; revert hZ Z; refine go 7 ?_; intro Z hZ a S)
  (refine wc0 S (Ct.mono (rtypeCt F tp ts hT nm) fun _ _ u hq => rq_0 hq) ?_; clear S a; intro v13 a w hv S; obtain ⟨y, ap, cp, ac, cc, rfl, hy⟩ := hv)
  (revert S a; refine go 3 ?_; intro a S)
  (refine wpl_alloc S rfl rfl rfl rfl ?_; clear S a; intro b5 a w S)
  (refine wso S rfl rfl ?_; clear S; intro w S)
  (revert S a; revert hZ Z; refine go 3 ?_; intro a S)
  (refine wp_seq_k ?_; intro Z hZ)
  replace hZ : ∀ (a' : Act) (w' : World), (∃ (q : Bool), q = (!nameT ts (nm, ar)) ∧ St 50 [(0, ptr tp), (3, ptr b3), (7, .bool q)] w0 F [] F [[(b3, .cells ⟨[.string (bs nm), .slice ao ar.len cap]⟩ 88 (0, 0))]] a' w') → Z a' w' := (by
   (intro a w hM; refine hZ _ _ ?_; clear hZ Z; clear S; obtain ⟨q, hq, S⟩ := hM)
   (revert S a; refine go 6 ?_; intro Z hZ a S)
   refine wpc_loop (fun m a w' => ∃ (k : Nat) (q : Bool), m = ar.len - k ∧ k ≤ ar.len ∧ (q && !anyF (wiT (nameT ts)) (ar.drop k)) = (!wiT (nameT ts) (nm, ar)) ∧ St 50 [(0, ptr tp), (3, ptr b3), (7, .bool q), (8, .int .i64 k)] w0 F [] F [[(b3, .cells ⟨[.string (bs nm), .slice ao ar.len cap]⟩ 88 (0, 0))]] a w') ?_ ?_
   · (refine ⟨ar.len, 0, q, by omega, Nat.zero_le _, by rw [hq, wiT_any, Bool.not_or]; rfl, ?_⟩; refine S.keep ?_; exact zk)
   (clear S; rintro m a w ⟨k, q, rfl, hkl, hfp, S⟩)
   (revert S a; refine go 8 ?_; intro Z hZ Z hZ a S)
   refine wgd S ?_ ?_
   · (clear S; intro h S)
     (revert S a; revert hZ Z; refine go 4 ?_; intro a S)
     refine wpc_sp S rfl ?_ ?_ <;> intro h
     · (revert S a; revert hZ Z; refine go 4 ?_; intro Z hZ a S)
       (obtain ⟨b8, o8, hao, x, v1, hx, hc1, hT1⟩ := FoM.pos hpos (k := k) (by omega); rw [hao] at S; have hxs := Fo.size_get hx; obtain ⟨a91, c91, rfl, -⟩ := id hT1)
       (revert S a; refine go 7 ?_; intro a S)
       (refine wc0 S (ih x.2.size (by omega) x.1 x.2 _ (Nat.le_refl _) ⟨_, rfl, hT1⟩) ?_; clear S a; intro v a w hv S; subst hv)
       (revert S a; revert hZ Z; refine go 8 ?_; intro a S)
       change ∃ m', _ ∧ _
       (rw [← hao] at S; refine ⟨ar.len - (k + 1), by omega, k + 1, !wiT (nameT ts) (x.1, x.2), rfl, by omega, ?_, ?_⟩; rotate_left 1; (refine S.keep ?_; exact zk); (rw [← hfp, any_drop hx, (by assumption : q = true), Bool.true_and, Bool.not_or]))
     (refine wp_exit ?_; conv => whnf)
     clear hZ Z
     (revert S a; revert hZ Z; refine go 6 ?_; intro a S)
     refine wp_ret (fr1 S Tryz.results145 ?_)
     exact zzRtB0
   (clear S a; intro h a S)
   (revert S a; revert hZ Z; refine go 3 ?_; intro a S)
   refine wpc_false S rfl ?_
   (refine wp_exit ?_; conv => whnf)
   clear hZ Z
   (revert S a; revert hZ Z; refine go 6 ?_; intro a S)
   refine wp_ret (fr1 S Tryz.results145 ?_)
   (congr 1; rw [← hfp]; first | (rw [any_end (by omega)]; simp; done) | (rw [(by assumption : q = false)]; rfl) | trace_state))
  (revert S a; refine go 3 ?_; intro a S)
  refine wgd S ?_ ?_
  · (clear S; intro h S)
    (revert S a; refine go 4 ?_; intro a S)
    (refine wc0 S (rplainCt _ nm) ?_; clear S a; intro v a w hv S; subst hv)
    (revert S a; refine go 2 ?_; intro a S)
    refine wgd S ?_ ?_
    · (clear S; intro h S)
      (revert S a; refine go 7 ?_; intro a S)
      refine wgd S ?_ ?_
      · (clear S; intro h S)
        (revert S a; refine go 4 ?_; intro a S)
        (refine wc0 S (refParamCt _ nm) ?_; clear S a; intro v a w hv S; subst hv)
        (revert S a; refine go 3 ?_; intro a S)
        (refine hZ _ _ ?_)
        exact zzRtB1
      (clear S a; intro h a S)
      (revert S a; refine go 5 ?_; intro a S)
      (refine hZ _ _ ?_)
      exact zzRtB1
    (clear S a; intro h a S)
    (revert S a; refine go 10 ?_; intro a S)
    (refine hZ _ _ ?_)
    exact zzRtB1
  (clear S a; intro h a S)
  (revert S a; refine go 15 ?_; intro a S)
  (refine hZ _ _ ?_)
  exact zzRtB1
theorem rc_1 {ts : List TD} {nm : List UInt8} {ar : Fo} (h : plainS nm = true ∨ parS nm = true) : rCount ts (nm, ar) = decide (ar.len = 0) := by unfold rCount; rw [if_pos h]
theorem rc_2 {ts : List TD} {nm : List UInt8} {ar : Fo} (h1 : plainS nm = false) (h2 : parS nm = false) (h3 : nm = sTuple) : rCount ts (nm, ar) = (decide (ar.len ≠ 1) && decide (ar.len ≤ 16)) := by unfold rCount; rw [if_neg (by rw [h1, h2]; simp), if_pos h3]
theorem rc_3 {ts : List TD} {nm : List UInt8} {ar : Fo} {y : TD} (h1 : plainS nm = false) (h2 : parS nm = false) (h3 : ¬ nm = sTuple) (h4 : declS ts nm = true) (hy : findT ts nm = some y ∨ findT ts nm = none ∧ y = zTD) : rCount ts (nm, ar) = decide (ar.len = y.ps.length) := by
 unfold rCount
 rw [if_neg (by rw [h1, h2]; simp), if_neg h3]
 show (declS ts nm && decide (ar.len = parN ts nm)) = _
 rw [h4, Bool.true_and]
 unfold parN
 unfold declS at h4
 rcases hy with h | ⟨h, -⟩
 ·rw [h]
 ·rw [h] at h4; cases h4
theorem rc_4 {ts : List TD} {nm : List UInt8} {ar : Fo} (h1 : plainS nm = false) (h2 : parS nm = false) (h3 : ¬ nm = sTuple) (h4 : declS ts nm = false) : rCount ts (nm, ar) = false := by
 unfold rCount
 rw [if_neg (by rw [h1, h2]; simp), if_neg h3]
 show (declS ts nm && _) = _
 rw [h4]; rfl
theorem beqNN (a b : Nat) : ((a : Int) == (b : Int)) = decide (a = b) := by rw [Bool.eq_iff_iff, beq_iff_eq, decide_eq_true_eq]; omega
theorem zzRtB2 {p : Prop} (h : p := by (replace S := S.drop1; apply Exists.intro; refine ⟨?_, ?_⟩; rotate_left 1; (refine S.keep ?_; exact zk); (first | (rw [rc_1 (.inl (by assumption))]; exact beqNN _ 0) | (rw [rc_1 (.inr (by assumption))]; exact beqNN _ 0) | (rw [rc_2 (by assumption) (by assumption) (by assumption), Bool.eq_iff_iff]; simp; omega) | (rw [rc_3 (by assumption) (by assumption) (by assumption) (by assumption) hy]; exact beqNN _ _) | (rw [rc_4 (by assumption) (by assumption) (by assumption) (by assumption)]; done) | trace_state))) : p := h
theorem rcountsCt (tp : Nat) (ts : List TD) (F : Heap) (hT : RTab F tp ts) : ∀ (n : Nat) (nm : List UInt8) (ar : Fo) (cs : List Value), ar.size ≤ n → TyC F cs nm ar → Ct Tryz.prog 146 [.pointer (some ⟨tp, 0, none⟩), .agg ⟨cs⟩] F [] (fun _ _ u => u = .bool (!wiT (fun y => !rCount ts y) (nm, ar))) := by
  intro n
  induction n using Nat.strongRecOn with
  | _ n ih =>
  intro nm ar cs hn h
  obtain ⟨v, rfl, ao, cap, rfl, hcap, hpos⟩ := h
  refine Ct.enter Tryz.func146 rfl Tryz.ntmps146 rfl fun w0 a S => ?_
  refine wp_sr fun Z hZ => ?_
  (refine wbx S ?_; clear S a; intro b3 a w S)
  (revert S a; revert hZ Z; refine go 18 ?_; intro Z hZ a S)
  (refine wc0 S (Ct.mono (rtypeCt F tp ts hT nm) fun _ _ u hq => rq_0 hq) ?_; clear S a; intro v13 a w hv S; obtain ⟨y, ap, cp, ac, cc, rfl, hy⟩ := hv)
  (revert S a; refine go 3 ?_; intro a S)
  (refine wpl_alloc S rfl rfl rfl rfl ?_; clear S a; intro b7 a w S)
  (refine wso S rfl rfl ?_; clear S; intro w S)
  (revert S a; revert hZ Z; refine go 3 ?_; intro a S)
  (refine wp_seq_k ?_; intro Z hZ)
  replace hZ : ∀ (a' : Act) (w' : World), (∃ (q : Bool), q = rCount ts (nm, ar) ∧ St 64 [(0, ptr tp), (3, ptr b3), (5, .int .i64 ar.len), (6, .bool q)] w0 F [] F [[(b3, .cells ⟨[.string (bs nm), .slice ao ar.len cap]⟩ 88 (0, 0))]] a' w') → Z a' w' := (by
   (intro a w hM; refine hZ _ _ ?_; clear hZ Z; clear S; obtain ⟨q, hq, S⟩ := hM)
   (revert S a; refine go 6 ?_; intro Z hZ a S)
   refine wpc_loop (fun m a w' => ∃ (k : Nat) (q : Bool), m = ar.len - k ∧ k ≤ ar.len ∧ (q && !anyF (wiT (fun y => !rCount ts y)) (ar.drop k)) = (!wiT (fun y => !rCount ts y) (nm, ar)) ∧ St 64 [(0, ptr tp), (3, ptr b3), (5, .int .i64 ar.len), (6, .bool q), (9, .int .i64 k)] w0 F [] F [[(b3, .cells ⟨[.string (bs nm), .slice ao ar.len cap]⟩ 88 (0, 0))]] a w') ?_ ?_
   · (refine ⟨ar.len, 0, q, by omega, Nat.zero_le _, by rw [hq, wiT_any, Bool.not_or, Bool.not_not]; rfl, ?_⟩; refine S.keep ?_; exact zk)
   (clear S; rintro m a w ⟨k, q, rfl, hkl, hfp, S⟩)
   (revert S a; refine go 6 ?_; intro Z hZ Z hZ a S)
   refine wgd S ?_ ?_
   · (clear S; intro h S)
     (revert S a; revert hZ Z; refine go 4 ?_; intro a S)
     refine wpc_sp S rfl ?_ ?_ <;> intro h
     · (revert S a; revert hZ Z; refine go 4 ?_; intro Z hZ a S)
       (obtain ⟨b8, o8, hao, x, v1, hx, hc1, hT1⟩ := FoM.pos hpos (k := k) (by omega); rw [hao] at S; have hxs := Fo.size_get hx; obtain ⟨a91, c91, rfl, -⟩ := id hT1)
       (revert S a; refine go 7 ?_; intro a S)
       (refine wc0 S (ih x.2.size (by omega) x.1 x.2 _ (Nat.le_refl _) ⟨_, rfl, hT1⟩) ?_; clear S a; intro v a w hv S; subst hv)
       (revert S a; revert hZ Z; refine go 8 ?_; intro a S)
       change ∃ m', _ ∧ _
       (rw [← hao] at S; refine ⟨ar.len - (k + 1), by omega, k + 1, !wiT (fun y => !rCount ts y) (x.1, x.2), rfl, by omega, ?_, ?_⟩; rotate_left 1; (refine S.keep ?_; exact zk); (rw [← hfp, any_drop hx, (by assumption : q = true), Bool.true_and, Bool.not_or]))
     (refine wp_exit ?_; conv => whnf)
     clear hZ Z
     (revert S a; revert hZ Z; refine go 6 ?_; intro a S)
     refine wp_ret (fr1 S Tryz.results146 ?_)
     exact zzRtB0
   (clear S a; intro h a S)
   (revert S a; revert hZ Z; refine go 3 ?_; intro a S)
   refine wpc_false S rfl ?_
   (refine wp_exit ?_; conv => whnf)
   clear hZ Z
   (revert S a; revert hZ Z; refine go 6 ?_; intro a S)
   refine wp_ret (fr1 S Tryz.results146 ?_)
   (congr 1; rw [← hfp]; first | (rw [any_end (by omega)]; simp; done) | (rw [(by assumption : q = false)]; rfl) | trace_state))
  (revert S a; refine go 4 ?_; intro Z hZ a S)
  (refine wc0 S (rplainCt _ nm) ?_; clear S a; intro v a w hv S; subst hv)
  (revert S a; refine go 1 ?_; intro a S)
  refine wgd S ?_ ?_
  · (clear S; intro h S)
    (revert S a; refine go 4 ?_; intro a S)
    (refine wc0 S (refParamCt _ nm) ?_; clear S a; intro v a w hv S; subst hv)
    (revert S a; revert hZ Z; refine go 4 ?_; intro a S)
    refine wpc_sp S rfl ?_ ?_ <;> intro h
    · (revert S a; refine go 5 ?_; intro a S)
      (refine hZ _ _ ?_)
      exact zzRtB2
    (revert S a; refine go 7 ?_; intro a S)
    refine wpc_sp S rfl ?_ ?_ <;> intro h
    · (revert S a; refine go 4 ?_; intro a S)
      refine wgd S ?_ ?_
      · (clear S; intro h S)
        (revert S a; refine go 6 ?_; intro a S)
        (refine hZ _ _ ?_)
        exact zzRtB2
      (clear S a; intro h a S)
      (revert S a; refine go 4 ?_; intro a S)
      (refine hZ _ _ ?_)
      exact zzRtB2
    (revert S a; refine go 5 ?_; intro a S)
    refine wpc_sp S rfl ?_ ?_ <;> intro h
    · (revert S a; refine go 8 ?_; intro a S)
      (refine hZ _ _ ?_)
      exact zzRtB2
    refine wp_skip ?_
    (refine hZ _ _ ?_)
    exact zzRtB2
  (clear S a; intro h a S)
  (revert S a; revert hZ Z; refine go 6 ?_; intro a S)
  refine wpc_true S rfl ?_
  (revert S a; refine go 5 ?_; intro a S)
  (refine hZ _ _ ?_)
  exact zzRtB2
def gwF (ts : List TD) (nm : List UInt8) (z : Ty) : Bool := wiT (growT ts) z || (declS ts nm && (!parS z.1 && openT z))
theorem gw_any (ts : List TD) (nm : List UInt8) : ∀ ar : Fo, anyF (gwF ts nm) ar = (anyF (wiT (growT ts)) ar || (declS ts nm && anyF (fun z => !parS z.1 && openT z) ar))
 | .nil => by show false = (false || (_ && false)); simp
 | .cons s l r => by
  rw [anyF_cons, anyF_cons, anyF_cons, gw_any ts nm r]
  unfold gwF
  cases wiT (growT ts) (s, l) <;> cases declS ts nm <;> cases (!parS (s, l).1 && openT (s, l)) <;> cases anyF (wiT (growT ts)) r <;> simp
theorem grow_any (ts : List TD) (nm : List UInt8) (ar : Fo) : wiT (growT ts) (nm, ar) = anyF (gwF ts nm) ar := by
 rw [wiT_any, gw_any]
 show ((declS ts nm && _) || _) = _
 rw [Bool.or_comm]
theorem zzRtB3 {p : Prop} (h : p := by (congr 1; rw [← hfp]; first | (rw [any_end (by omega)]; done) | (rw [any_drop hx, ← hq, (by assumption : q = true)]; rfl) | trace_state)) : p := h
theorem zzRtB4 {p : Prop} (h : p := by (rw [← hao] at S; refine ⟨x, ?_⟩; apply Exists.intro; refine ⟨hx, ?_, ?_⟩; rotate_left 1; (refine S.keep ?_; exact zk); (unfold gwF; simp [*]; done))) : p := h
theorem rgrowsCt (tp : Nat) (ts : List TD) (F : Heap) (hT : RTab F tp ts) : ∀ (n : Nat) (nm : List UInt8) (ar : Fo) (cs : List Value), ar.size ≤ n → TyC F cs nm ar → Ct Tryz.prog 147 [.pointer (some ⟨tp, 0, none⟩), .agg ⟨cs⟩] F [] (fun _ _ u => u = .bool (wiT (growT ts) (nm, ar))) := by
  intro n
  induction n using Nat.strongRecOn with
  | _ n ih =>
  intro nm ar cs hn h
  obtain ⟨v, rfl, ao, cap, rfl, hcap, hpos⟩ := h
  refine Ct.enter Tryz.func147 rfl Tryz.ntmps147 rfl fun w0 a S => ?_
  refine wp_sr fun Z hZ => ?_
  (refine wbx S ?_; clear S a; intro b3 a w S)
  (revert S a; revert hZ Z; refine go 6 ?_; intro Z hZ a S)
  first | (refine wv S (sv_loadO S rfl rfl (by rfl)) ?_; clear S a; intro a S) | (refine wv S (sv_loadF S rfl rfl (by assumption)) ?_; clear S a; intro a S) | (refine wv S (sv_loadF S rfl rfl hc91) ?_; clear S a; intro a S)
  (refine wc0 S (Ct.mono (rtypeCt F tp ts hT nm) fun _ _ u hq => rq_0 hq) ?_; clear S a; intro v13 a w hv S; obtain ⟨y, ap, cp, ac, cc, rfl, hy⟩ := hv)
  (revert S a; refine go 3 ?_; intro a S)
  (refine wpl_alloc S rfl rfl rfl rfl ?_; clear S a; intro b5 a w S)
  (refine wso S rfl rfl ?_; clear S; intro w S)
  (revert S a; revert hZ Z; refine go 9 ?_; intro Z hZ a S)
  refine wpc_loop (fun m a w' => ∃ (k : Nat), m = ar.len - k ∧ k ≤ ar.len ∧ anyF (gwF ts nm) (ar.drop k) = wiT (growT ts) (nm, ar) ∧ St 51 [(0, ptr tp), (3, ptr b3), (6, .bool (declS ts nm)), (7, .int .i64 k)] w0 F [] F [[(b3, .cells ⟨[.string (bs nm), .slice ao ar.len cap]⟩ 88 (0, 0))]] a w') ?_ ?_
  · (replace S := S.drop1; refine ⟨ar.len, 0, by omega, Nat.zero_le _, (grow_any ts nm ar).symm, ?_⟩; refine S.keep ?_; exact zk)
  (clear S; rintro m a w ⟨k, rfl, hkl, hfp, S⟩)
  (revert S a; refine go 4 ?_; intro Z hZ Z hZ a S)
  first | (refine wv S (sv_loadO S rfl rfl (by rfl)) ?_; clear S a; intro a S) | (refine wv S (sv_loadF S rfl rfl (by assumption)) ?_; clear S a; intro a S) | (refine wv S (sv_loadF S rfl rfl hc91) ?_; clear S a; intro a S)
  (revert S a; revert hZ Z; refine go 4 ?_; intro a S)
  refine wpc_sp S rfl ?_ ?_ <;> intro h
  · (revert S a; revert hZ Z; refine go 4 ?_; intro Z hZ a S)
    (refine wp_seq_k ?_; intro Z hZ)
    replace hZ : ∀ (a' : Act) (w' : World), (∃ (x : Ty) (q : Bool), ar.get? k = some x ∧ q = gwF ts nm x ∧ St 51 [(0, ptr tp), (3, ptr b3), (6, .bool (declS ts nm)), (7, .int .i64 k), (50, .bool q)] w0 F [] F [[(b3, .cells ⟨[.string (bs nm), .slice ao ar.len cap]⟩ 88 (0, 0))]] a' w') → Z a' w' := (by
     (intro a w hM; refine hZ _ _ ?_; clear hZ Z; clear S; obtain ⟨x, q, hx, hq, S⟩ := hM)
     refine wpc_sp S rfl ?_ ?_ <;> intro h
     · (revert S a; refine go 4 ?_; intro a S)
       refine wp_ret (fr1 S Tryz.results147 ?_)
       exact zzRtB3
     (revert S a; revert hZ Z; refine go 7 ?_; intro a S)
     change ∃ m', _ ∧ _
     (refine ⟨ar.len - (k + 1), by omega, k + 1, rfl, by omega, ?_, ?_⟩; rotate_left 1; (refine S.keep ?_; exact zk); (rw [← hfp, any_drop hx, ← hq, (by assumption : q = false), Bool.false_or])))
    (obtain ⟨b8, o8, hao, x, v1, hx, hc1, hT1⟩ := FoM.pos hpos (k := k) (by omega); rw [hao] at S; have hxs := Fo.size_get hx; obtain ⟨a91, c91, rfl, -⟩ := id hT1; have hc91 : Cel F b8 (o8 + k * 2) (.string (bs x.1)) := hc1 0 _ rfl)
    (revert S a; refine go 3 ?_; intro a S)
    first | (refine wv S (sv_loadO S rfl rfl (by rfl)) ?_; clear S a; intro a S) | (refine wv S (sv_loadF S rfl rfl (by assumption)) ?_; clear S a; intro a S) | (refine wv S (sv_loadF S rfl rfl hc91) ?_; clear S a; intro a S)
    (revert S a; refine go 3 ?_; intro a S)
    (refine wc0 S (ih x.2.size (by omega) x.1 x.2 _ (Nat.le_refl _) ⟨_, rfl, hT1⟩) ?_; clear S a; intro v a w hv S; subst hv)
    (revert S a; refine go 1 ?_; intro a S)
    refine wgd S ?_ ?_
    · (clear S; intro h S)
      (revert S a; refine go 3 ?_; intro a S)
      refine wgd S ?_ ?_
      · (clear S; intro h S)
        (revert S a; refine go 2 ?_; intro a S)
        first | (refine wv S (sv_loadO S rfl rfl (by rfl)) ?_; clear S a; intro a S) | (refine wv S (sv_loadF S rfl rfl (by assumption)) ?_; clear S a; intro a S) | (refine wv S (sv_loadF S rfl rfl hc91) ?_; clear S a; intro a S)
        (revert S a; refine go 7 ?_; intro a S)
        first | (refine wv S (sv_loadO S rfl rfl (by rfl)) ?_; clear S a; intro a S) | (refine wv S (sv_loadF S rfl rfl (by assumption)) ?_; clear S a; intro a S) | (refine wv S (sv_loadF S rfl rfl hc91) ?_; clear S a; intro a S)
        refine wpl_take S rfl rfl rfl ?_
        (refine wc0 S (refParamCt _ x.1) ?_; clear S a; intro v a w hv S; subst hv)
        (revert S a; refine go 6 ?_; intro a S)
        refine wgd S ?_ ?_
        · (clear S; intro h S)
          (revert S a; refine go 2 ?_; intro a S)
          first | (refine wv S (sv_loadO S rfl rfl (by rfl)) ?_; clear S a; intro a S) | (refine wv S (sv_loadF S rfl rfl (by assumption)) ?_; clear S a; intro a S) | (refine wv S (sv_loadF S rfl rfl hc91) ?_; clear S a; intro a S)
          (revert S a; refine go 7 ?_; intro a S)
          (refine wc0 S (rclosedCt F x.2.size x.1 x.2 _ (Nat.le_refl _) ⟨_, rfl, hT1⟩) ?_; clear S a; intro v a w hv S; subst hv)
          (revert S a; refine go 6 ?_; intro a S)
          (refine hZ _ _ ?_)
          exact zzRtB4
        (clear S a; intro h a S)
        (revert S a; refine go 10 ?_; intro a S)
        (refine hZ _ _ ?_)
        exact zzRtB4
      (clear S a; intro h a S)
      (revert S a; refine go 22 ?_; intro a S)
      (refine hZ _ _ ?_)
      exact zzRtB4
    (clear S a; intro h a S)
    (revert S a; refine go 21 ?_; intro a S)
    (refine hZ _ _ ?_)
    exact zzRtB4
  (refine wp_exit ?_; conv => whnf)
  clear hZ Z
  (revert S a; revert hZ Z; refine go 5 ?_; intro a S)
  refine wp_ret (fr1 S Tryz.results147 ?_)
  exact zzRtB3
theorem ruseCt (tp : Nat) (ts : List TD) (F : Heap) (hT : RTab F tp ts) (nm : List UInt8) (ar : Fo) (cs : List Value) (h : TyC F cs nm ar) (hd : depthL ar ≤ 1000000000) : Ct Tryz.prog 103 [.pointer (some ⟨tp, 0, none⟩), .agg ⟨cs⟩] F [] (fun _ _ u => u = .int .i64 (useT ts (nm, ar))) := by
 rw [← rUse_eq]
 have h0 := h
 obtain ⟨v, rfl, ao, cap, rfl, hcap, hpos⟩ := h
 refine Ct.enter Tryz.func103 rfl Tryz.ntmps103 rfl fun w0 a S => ?_
 refine wp_sr fun Z hZ => ?_
 (refine wbx S ?_; clear S a; intro b3 a w S)
 (revert S a; revert hZ Z; refine go 7 ?_; intro Z hZ Z hZ a S)
 (refine wc0 S (rdepthCt F ar.size nm ar _ (Nat.le_refl _) hd h0) ?_; clear S a; intro v a w hv S; subst hv)
 (revert S a; revert hZ Z; refine go 4 ?_; intro a S)
 refine wpc_sp S rfl ?_ ?_ <;> intro h
 ·(revert S a; refine go 4 ?_; intro a S)
  refine wp_ret (fr1 S Tryz.results103 ?_)
  (congr 1; unfold rUse; first | (rw [if_pos (by omega)]; done) | (rw [if_neg (by omega)]; simp [*]; done) | trace_state)
 (revert S a; refine go 3 ?_; intro Z hZ a S)
 (refine wc0 S (rnamesCt tp ts F hT ar.size nm ar _ (Nat.le_refl _) h0) ?_; clear S a; intro v a w hv S; subst hv)
 (revert S a; revert hZ Z; refine go 4 ?_; intro a S)
 refine wpc_sp S rfl ?_ ?_ <;> intro h
 ·(revert S a; refine go 4 ?_; intro a S)
  refine wp_ret (fr1 S Tryz.results103 ?_)
  (congr 1; unfold rUse; first | (rw [if_pos (by omega)]; done) | (rw [if_neg (by omega)]; simp [*]; done) | trace_state)
 (revert S a; refine go 3 ?_; intro Z hZ a S)
 (refine wc0 S (rcountsCt tp ts F hT ar.size nm ar _ (Nat.le_refl _) h0) ?_; clear S a; intro v a w hv S; subst hv)
 (revert S a; revert hZ Z; refine go 4 ?_; intro a S)
 refine wpc_sp S rfl ?_ ?_ <;> intro h
 ·(revert S a; refine go 4 ?_; intro a S)
  refine wp_ret (fr1 S Tryz.results103 ?_)
  (congr 1; unfold rUse; first | (rw [if_pos (by omega)]; done) | (rw [if_neg (by omega)]; simp [*]; done) | trace_state)
 (revert S a; refine go 3 ?_; intro Z hZ a S)
 (refine wc0 S (rgrowsCt tp ts F hT ar.size nm ar _ (Nat.le_refl _) h0) ?_; clear S a; intro v a w hv S; subst hv)
 (revert S a; revert hZ Z; refine go 3 ?_; intro a S)
 refine wpc_sp S rfl ?_ ?_ <;> intro h
 ·(revert S a; refine go 4 ?_; intro a S)
  refine wp_ret (fr1 S Tryz.results103 ?_)
  (congr 1; unfold rUse; first | (rw [if_pos (by omega)]; done) | (rw [if_neg (by omega)]; simp [*]; done) | trace_state)
 (revert S a; revert hZ Z; refine go 6 ?_; intro a S)
 refine wp_ret (fr1 S Tryz.results103 ?_)
 (congr 1; unfold rUse; first | (rw [if_pos (by omega)]; done) | (rw [if_neg (by omega)]; simp [*]; done) | trace_state)
def frP (ps : List (List UInt8)) (y : Ty) : Bool := parS y.1 && !decide (y.1 ∈ ps)
theorem zzRtB5 {p : Prop} (h : p := by (congr 1; rw [wiT_any, ← hq]; first | (rw [(by assumption : q = true)]; rfl) | (rw [(by assumption : q = false), Bool.false_or, hfp]; first | (rw [any_end (by omega)]; done) | (rw [any_drop hx, (by assumption : wiT (frP ps) (x.1, x.2) = true)]; rfl)) | trace_state)) : p := h
theorem rfreeCt (F : Heap) (ps : List (List UInt8)) (vp : Value) (hps : SlC F vp ps.length (strs ps)) (hpl : ps.length ≤ 9223372036854775807) : ∀ (n : Nat) (nm : List UInt8) (ar : Fo) (cs : List Value), ar.size ≤ n → TyC F cs nm ar → Ct Tryz.prog 104 [.agg ⟨cs⟩, vp] F [] (fun _ _ u => u = .bool (wiT (frP ps) (nm, ar))) := by
  intro n
  induction n using Nat.strongRecOn with
  | _ n ih =>
  intro nm ar cs hn h
  obtain ⟨v, rfl, ao, cap, rfl, hcap, hpos⟩ := h
  refine Ct.enter Tryz.func104 rfl Tryz.ntmps104 rfl fun w0 a S => ?_
  refine wp_sr fun Z hZ => ?_
  (refine wbx S ?_; clear S a; intro b2 a w S)
  (revert S a; revert hZ Z; refine go 4 ?_; intro Z hZ a S)
  (refine wp_seq_k ?_; intro Z hZ)
  replace hZ : ∀ (a' : Act) (w' : World), (∃ (q : Bool), q = frP ps (nm, ar) ∧ St 30 [(1, vp), (2, ptr b2), (15, .bool q)] w0 F [] F [[(b2, .cells ⟨[.string (bs nm), .slice ao ar.len cap]⟩ 88 (0, 0))]] a' w') → Z a' w' := (by
   (intro a w hM; refine hZ _ _ ?_; clear hZ Z; clear S; obtain ⟨q, hq, S⟩ := hM)
   refine wpc_sp S rfl ?_ ?_ <;> intro h
   · (revert S a; refine go 4 ?_; intro a S)
     refine wp_ret (fr1 S Tryz.results104 ?_)
     exact zzRtB5
   (revert S a; revert hZ Z; refine go 8 ?_; intro Z hZ a S)
   refine wpc_loop (fun m a w' => ∃ (k : Nat), m = ar.len - k ∧ k ≤ ar.len ∧ anyF (wiT (frP ps)) ar = anyF (wiT (frP ps)) (ar.drop k) ∧ St 30 [(1, vp), (2, ptr b2), (5, .int .i64 k)] w0 F [] F [[(b2, .cells ⟨[.string (bs nm), .slice ao ar.len cap]⟩ 88 (0, 0))]] a w') ?_ ?_
   · (refine ⟨ar.len, 0, by omega, Nat.zero_le _, rfl, ?_⟩; refine S.keep ?_; exact zk)
   (clear S; rintro m a w ⟨k, rfl, hkl, hfp, S⟩)
   (revert S a; refine go 9 ?_; intro Z hZ a S)
   refine wpc_sp S rfl ?_ ?_ <;> intro h
   · (revert S a; revert hZ Z; refine go 4 ?_; intro Z hZ a S)
     (refine wp_seq_k ?_; intro Z hZ)
     (obtain ⟨b8, o8, hao, x, v1, hx, hc1, hT1⟩ := FoM.pos hpos (k := k) (by omega); rw [hao] at S; have hxs := Fo.size_get hx; obtain ⟨a91, c91, rfl, -⟩ := id hT1)
     (revert S a; refine go 7 ?_; intro a S)
     (refine wc0 S (ih x.2.size (by omega) x.1 x.2 _ (Nat.le_refl _) ⟨_, rfl, hT1⟩) ?_; clear S a; intro v a w hv S; subst hv)
     (revert S a; revert hZ Z; refine go 2 ?_; intro a S)
     refine wpc_sp S rfl ?_ ?_ <;> intro h
     · (revert S a; refine go 4 ?_; intro a S)
       refine wp_ret (fr1 S Tryz.results104 ?_)
       exact zzRtB5
     (revert S a; revert hZ Z; refine go 7 ?_; intro a S)
     change ∃ m', _ ∧ _
     (rw [← hao] at S; refine ⟨ar.len - (k + 1), by omega, k + 1, rfl, by omega, ?_, ?_⟩; rotate_left 1; (refine S.keep ?_; exact zk); (rw [hfp, any_drop hx, (by assumption : wiT (frP ps) (x.1, x.2) = false), Bool.false_or]))
   (refine wp_exit ?_; conv => whnf)
   clear hZ Z
   (revert S a; revert hZ Z; refine go 5 ?_; intro a S)
   refine wp_ret (fr1 S Tryz.results104 ?_)
   (congr 1; rw [wiT_any, ← hq]; first | (rw [(by assumption : q = true)]; rfl) | (rw [(by assumption : q = false), Bool.false_or, hfp]; first | (rw [any_end (by omega)]; done) | (rw [any_drop hx, (by assumption : wiT (frP ps) (x.1, x.2) = true)]; rfl)) | trace_state))
  (revert S a; refine go 3 ?_; intro a S)
  (refine wc0 S (refParamCt F nm) ?_; clear S a; intro v a w hv S; subst hv)
  (revert S a; refine go 1 ?_; intro a S)
  refine wgd S ?_ ?_
  · (clear S; intro h S)
    (revert S a; refine go 6 ?_; intro a S)
    (refine wc0 S (rinCt F ps nm vp hps hpl) ?_; clear S a; intro v a w hv S; subst hv)
    (revert S a; refine go 4 ?_; intro a S)
    (refine hZ _ _ ?_)
    (apply Exists.intro; refine ⟨?_, ?_⟩; rotate_left 1; (refine S.keep ?_; exact zk); (unfold frP; simp [*]; done))
  (clear S a; intro h a S)
  (revert S a; refine go 6 ?_; intro a S)
  (refine hZ _ _ ?_)
  (apply Exists.intro; refine ⟨?_, ?_⟩; rotate_left 1; (refine S.keep ?_; exact zk); (unfold frP; simp [*]; done))
theorem td_at {F : Heap} {ao : Option Addr} {n cap : Nat} {ts : List TD} {i : Nat} {x : TD} (h : LiM F 6 TdR (.slice ao n cap) ts) (hx : ts[i]? = some x) : ∃ (b o : Nat) (ap : Option Addr) (cp : Nat) (ac : Option Addr) (cc : Nat), ao = some ⟨b, o, none⟩ ∧ Cels F b (o + i * 6) [.int .i64 x.l, .int .i64 x.c, .bool x.pub, .string (bs x.nm), .slice ap x.ps.length cp, .slice ac x.cs.length cc] ∧ LiM F 1 StR (.slice ap x.ps.length cp) x.ps ∧ LiM F 2 CdR (.slice ac x.cs.length cc) x.cs := by
 obtain ⟨_, _, e, hb, h2⟩ := h
 cases e
 obtain ⟨b, o, rfl, h3⟩ := h2 (by have := (List.getElem?_eq_some_iff.1 hx).1; omega)
 obtain ⟨cs, h4, h5, v, u, rfl, h6, h7⟩ := h3 i x hx
 obtain ⟨a1, c1, rfl, -, -⟩ := id h6
 obtain ⟨a2, c2, rfl, -, -⟩ := id h7
 exact ⟨b, o, a1, c1, a2, c2, rfl, h4, h6, h7⟩
theorem cd_at {F : Heap} {ao : Option Addr} {n cap : Nat} {l : List CD} {i : Nat} {x : CD} (h : LiM F 2 CdR (.slice ao n cap) l) (hx : l[i]? = some x) : ∃ (b o : Nat) (af : Option Addr) (cf : Nat), ao = some ⟨b, o, none⟩ ∧ Cels F b (o + i * 2) [.string (bs x.nm), .slice af x.fs.length cf] ∧ LiM F 3 FdR (.slice af x.fs.length cf) x.fs := by
 obtain ⟨_, _, e, hb, h2⟩ := h
 cases e
 obtain ⟨b, o, rfl, h3⟩ := h2 (by have := (List.getElem?_eq_some_iff.1 hx).1; omega)
 obtain ⟨cs, h4, h5, v, rfl, h6⟩ := h3 i x hx
 obtain ⟨a1, c1, rfl, -, -⟩ := id h6
 exact ⟨b, o, a1, c1, rfl, h4, h6⟩
theorem fd_at {F : Heap} {ao : Option Addr} {n cap : Nat} {l : List FD} {i : Nat} {x : FD} (h : LiM F 3 FdR (.slice ao n cap) l) (hx : l[i]? = some x) : ∃ (b o : Nat) (aa : Option Addr) (ca : Nat), ao = some ⟨b, o, none⟩ ∧ Cels F b (o + i * 3) [.string (bs x.nm), .string (bs x.tn), .slice aa x.ta.len ca] ∧ SlF F (.slice aa x.ta.len ca) x.ta := by
 obtain ⟨_, _, e, hb, h2⟩ := h
 cases e
 obtain ⟨b, o, rfl, h3⟩ := h2 (by have := (List.getElem?_eq_some_iff.1 hx).1; omega)
 obtain ⟨cs, h4, h5, v, rfl, h6⟩ := h3 i x hx
 obtain ⟨a1, c1, rfl, -, -⟩ := id h6
 exact ⟨b, o, a1, c1, rfl, h4, h6⟩
theorem at_ex {α : Type} {l : List α} {k : Nat} (h : k < l.length) : ∃ x, l[k]? = some x := ⟨_, List.getElem?_eq_getElem h⟩
theorem fd_ty {F : Heap} {b o : Nat} {x y z : Value} (h : Cels F b o [x, y, z]) : Cels F b (o + 1) [y, z] := fun j u hj => by
 have := h (j + 1) u hj
 rw [show o + (j + 1) = o + 1 + j by omega] at this
 exact this
theorem twice_at {l : List FD} {i : Nat} {x : FD} (hx : l[i]? = some x) : anyP twP (l.take i) (l.drop i) = (twP (l.take i) x || anyP twP (l.take (i + 1)) (l.drop (i + 1))) := by
 obtain ⟨h1, h2⟩ := List.getElem?_eq_some_iff.1 hx
 rw [List.drop_eq_getElem_cons h1, h2, List.take_add_one, hx]
 rfl
theorem tw_no {l : List FD} {i k : Nat} {x : FD} (hno : x.nm ≠ [] → x.nm ∉ (l.take k).map FD.nm) (h : i ≤ k ∧ k ≤ i) : twP (l.take i) x = false := by
 have e : i = k := by omega
 subst e
 unfold twP
 by_cases h1 : x.nm = []
 ·rw [decide_eq_false (by simpa using h1), Bool.false_and]
 ·rw [decide_eq_false (hno h1), Bool.and_false]
theorem tw_step {l : List FD} {i k : Nat} {x y : FD} {q : Bool} (hx : l[i]? = some x) (hy : l[k]? = some y) (hno : ∀ x, l[i]? = some x → x.nm ≠ [] → x.nm ∉ (l.take k).map FD.nm) (hq : q = (decide (x.nm ≠ []) && decide (x.nm = y.nm))) (h : q = false) : ∀ x, l[i]? = some x → x.nm ≠ [] → x.nm ∉ (l.take (k + 1)).map FD.nm := by
 intro z hz h1 h2
 rw [hx] at hz
 cases hz
 rw [List.take_add_one, hy, List.map_append] at h2
 rcases List.mem_append.1 h2 with h2 | h2
 ·exact hno x hx h1 h2
 ·have h3 : x.nm = y.nm := by simpa using h2
  rw [h, decide_eq_true h1, decide_eq_true h3] at hq
  cases hq
theorem tw_yes {l : List FD} {i k : Nat} {x y : FD} {q : Bool} (hy : l[k]? = some y) (hk : k < i) (hq : q = (decide (x.nm ≠ []) && decide (x.nm = y.nm))) (h : q = true) : twP (l.take i) x = true := by
 rw [h] at hq
 have h2 := hq.symm
 rw [Bool.and_eq_true, decide_eq_true_eq, decide_eq_true_eq] at h2
 unfold twP
 rw [decide_eq_true h2.1, Bool.true_and, decide_eq_true_eq, h2.2]
 refine List.mem_map.2 ⟨y, ?_, rfl⟩
 refine List.mem_of_getElem? (i := k) ?_
 rw [List.getElem?_take, if_pos hk]; exact hy
theorem zzRtC0 {p : Prop} (h : p := by (congr 1; rw [hfp]; first | (rw [List.drop_of_length_le (by omega)]; rfl) | (rw [twice_at hx, show twP (l.take i) x = true from tw_yes hy (by omega) hq (by assumption), Bool.true_or]; done) | trace_state)) : p := h
theorem zzRtC1 {p : Prop} (h : p := by (rw [← hao] at S; refine ⟨x, y, ?_⟩; apply Exists.intro; refine ⟨hx, hy, ?_, ?_⟩; rotate_left 1; (refine S.keep ?_; exact zk); (rw [Bool.eq_iff_iff]; simp [*]; done))) : p := h
theorem rtwiceCt (F : Heap) (l : List FD) (v : Value) (hL : LiM F 3 FdR v l) : Ct Tryz.prog 102 [v] F [] (fun _ _ u => u = .bool (twiceD l)) := by
  obtain ⟨ao, cap, rfl, hcap, -⟩ := id hL
  refine Ct.enter Tryz.func102 rfl Tryz.ntmps102 rfl fun w0 a S => ?_
  (revert S a; refine go 10 ?_; intro Z hZ a S)
  refine wpc_loop (fun m a w' => ∃ (i : Nat), m = l.length - i ∧ i ≤ l.length ∧ twiceD l = anyP twP (l.take i) (l.drop i) ∧ St 35 [(0, .slice ao l.length cap), (3, .int .i64 i)] w0 F [] F [] a w') ?_ ?_
  · (refine ⟨l.length, 0, by omega, Nat.zero_le _, rfl, ?_⟩; refine S.keep ?_; exact zk)
  (clear S; rintro m a w ⟨i, rfl, hil, hfp, S⟩)
  (revert S a; refine go 8 ?_; intro Z hZ a S)
  refine wpc_sp S rfl ?_ ?_ <;> intro h
  · (revert S a; revert hZ Z; refine go 9 ?_; intro Z hZ a S)
    refine wpc_loop (fun m a w' => ∃ (k : Nat), m = i - k ∧ k ≤ i ∧ (∀ x, l[i]? = some x → x.nm ≠ [] → x.nm ∉ (l.take k).map FD.nm) ∧ St 35 [(0, .slice ao l.length cap), (3, .int .i64 i), (4, .int .i64 k)] w0 F [] F [] a w') ?_ ?_
    · (refine ⟨i, 0, by omega, Nat.zero_le _, fun x hx h1 h2 => (by simp at h2), ?_⟩; refine S.keep ?_; exact zk)
    (clear S; rintro m a w ⟨k, rfl, hki, hno, S⟩)
    (revert S a; refine go 7 ?_; intro Z hZ a S)
    refine wpc_sp S rfl ?_ ?_ <;> intro h
    · (revert S a; revert hZ Z; refine go 4 ?_; intro Z hZ a S)
      (refine wp_seq_k ?_; intro Z hZ)
      replace hZ : ∀ (a' : Act) (w' : World), (∃ (x y : FD) (q : Bool), l[i]? = some x ∧ l[k]? = some y ∧ q = (decide (x.nm ≠ []) && decide (x.nm = y.nm)) ∧ St 35 [(0, .slice ao l.length cap), (3, .int .i64 i), (4, .int .i64 k), (34, .bool q)] w0 F [] F [] a' w') → Z a' w' := (by
       (intro a w hM; refine hZ _ _ ?_; clear hZ Z; clear S; obtain ⟨x, y, q, hx, hy, hq, S⟩ := hM)
       refine wpc_sp S rfl ?_ ?_ <;> intro h
       · (revert S a; refine go 4 ?_; intro a S)
         refine wp_ret (fr1 S Tryz.results102 ?_)
         exact zzRtC0
       (revert S a; revert hZ Z; refine go 7 ?_; intro a S)
       change ∃ m', _ ∧ _
       (refine ⟨i - (k + 1), by omega, k + 1, rfl, by omega, ?_, ?_⟩; rotate_left 1; (refine S.keep ?_; exact zk); exact tw_step hx hy hno hq (by assumption)))
      (obtain ⟨x, hx⟩ := at_ex (l := l) (k := i) (by omega); obtain ⟨y, hy⟩ := at_ex (l := l) (k := k) (by omega); obtain ⟨b8, o8, a8, c8, hao, hcx, -⟩ := fd_at hL hx; obtain ⟨b9, o9, a9, c9, hao9, hcy, -⟩ := fd_at hL hy; have e9 := hao.symm.trans hao9; cases e9; rw [hao] at S; have hcx0 : Cel F b8 (o8 + i * 3) _ := hcx 0 _ rfl; have hcy0 : Cel F b8 (o8 + k * 3) _ := hcy 0 _ rfl)
      (refine wpc_mixM [0, 1, 2, 3, 4, 5, 6, 7, 8, 9, 10, 11, 12, 13, 14, 15, 16, 17, 18] [4, 11, 16] [] (.one 0 (.one 1 (.one 2 (.one 3 (.one 4 (.one 5 (.one 6 (.one 7 (.one 8 (.one 9 (.one 10 (.one 11 (.one 12 (.one 13 (.one 14 (.one 15 (.one 16 (.one 17 (.one 18 .nil))))))))))))))))))) [] S mixed (by kernel_rfl) ?_; clear S; intro w S)
      (revert S a; refine go 4 ?_; intro a S)
      (refine wlF S rfl (fun w' S => sv_loadF S rfl rfl hcx0) ?_; clear S a; intro a S)
      (revert S a; refine go 2 ?_; intro a S)
      refine St.pt 22 true S rfl ?_ ?_ <;> clear S <;> intro h S
      · (revert S a; refine go 4 ?_; intro a S)
        (refine wlF S rfl (fun w' S => sv_loadF S rfl rfl hcx0) ?_; clear S a; intro a S)
        (revert S a; refine go 4 ?_; intro a S)
        (refine wlF S rfl (fun w' S => sv_loadF S rfl rfl hcy0) ?_; clear S a; intro a S)
        (revert S a; refine go 3 ?_; intro a S)
        (refine hZ _ _ ?_)
        exact zzRtC1
      (revert S a; refine go 13 ?_; intro a S)
      (refine hZ _ _ ?_)
      exact zzRtC1
    (refine wp_exit ?_; conv => whnf)
    clear hZ Z
    (revert S a; revert hZ Z; refine go 6 ?_; intro a S)
    change ∃ m', _ ∧ _
    (obtain ⟨x, hx⟩ := at_ex (l := l) (k := i) (by omega); refine ⟨l.length - (i + 1), by omega, i + 1, rfl, by omega, ?_, ?_⟩; rotate_left 1; (refine S.keep ?_; exact zk); (rw [hfp, twice_at hx, show twP (l.take i) x = false from tw_no (hno x hx) (by omega), Bool.false_or]))
  (refine wp_exit ?_; conv => whnf)
  clear hZ Z
  (revert S a; revert hZ Z; refine go 5 ?_; intro a S)
  refine wp_ret (fr1 S Tryz.results102 ?_)
  exact zzRtC0
theorem has_tup {k : List (List UInt8)} {nm : List UInt8} {ar : Fo} (h : nm = sTuple) : hasT (full0 ++ k) (nm, ar) = hasL (full0 ++ k) ar := by unfold hasT; rw [if_pos h]
theorem has_no {k : List (List UInt8)} {nm : List UInt8} {ar : Fo} (h : ¬ nm = sTuple) (h1 : plainS nm = false) (h2 : parS nm = false) : hasT (full0 ++ k) (nm, ar) = decide (nm ∈ k) := by
 unfold hasT
 rw [if_neg h]
 show (decide (nm ∈ full0 ++ k) || parS nm) = _
 rw [h2, Bool.or_false, Bool.eq_iff_iff, decide_eq_true_eq, decide_eq_true_eq, List.mem_append]
 refine ⟨fun h3 => h3.elim (fun h4 => ?_) id, .inr⟩
 exfalso
 unfold plainS at h1
 unfold full0 at h4
 simp only [Bool.or_eq_false_iff, decide_eq_false_iff_not] at h1
 simp at h4
 rcases h4 with h4 | h4 | h4 | h4
 ·exact h1.1.1.1 h4
 ·exact h1.1.1.2 h4
 ·exact h1.1.2 h4
 ·exact h1.2 h4
theorem has_yes {k : List (List UInt8)} {nm : List UInt8} {ar : Fo} (h : plainS nm = true ∨ parS nm = true) : hasT (full0 ++ k) (nm, ar) = true := by
 have hn : ¬ nm = sTuple := by
  intro e
  subst e
  rcases h with h | h <;> revert h <;> decide
 unfold hasT
 rw [if_neg hn]
 show (decide (nm ∈ full0 ++ k) || parS nm) = true
 rcases h with h | h
 ·unfold plainS at h
  simp only [Bool.or_eq_true, decide_eq_true_eq] at h
  rw [Bool.or_eq_true, decide_eq_true_eq]
  left
  rw [List.mem_append]
  left
  unfold full0
  simp
  rcases h with ((h | h) | h) | h
  ·exact .inl h
  ·exact .inr (.inl h)
  ·exact .inr (.inr (.inl h))
  ·exact .inr (.inr (.inr h))
 ·rw [h, Bool.or_true]
theorem hasL_at {k : List (List UInt8)} {l : Fo} {i : Nat} {x : Ty} (hx : l.get? i = some x) : hasL k (l.drop i) = (hasT k x && hasL k (l.drop (i + 1))) := by rw [Fo.drop_get hx]; rfl
theorem zzRtC2 {p : Prop} (h : p := by (congr 1; first | (rw [has_yes (by have h9 : q = true := (by assumption); rw [h9] at hq; simpa using hq.symm)]; done) | (have h8 : plainS nm = false ∧ parS nm = false := (by have h9 : q = false := (by assumption); rw [h9] at hq; simpa using hq.symm); first | (rw [has_no (by assumption) h8.1 h8.2]; done) | (rw [has_tup (by first | assumption | (apply Classical.byContradiction; assumption)), hfp]; first | (rw [Fo.drop_len (by omega)]; rfl) | (rw [hasL_at hx, show hasT (full0 ++ ks) x = false from by assumption]; rfl))) | trace_state)) : p := h
theorem rfullCt (F : Heap) (ks : List (List UInt8)) (vk : Value) (hks : SlC F vk ks.length (strs ks)) (hkl : ks.length ≤ 9223372036854775807) : ∀ (n : Nat) (nm : List UInt8) (ar : Fo) (cs : List Value), ar.size ≤ n → TyC F cs nm ar → Ct Tryz.prog 182 [.agg ⟨cs⟩, vk] F [] (fun _ _ u => u = .bool (hasT (full0 ++ ks) (nm, ar))) := by
  intro n
  induction n using Nat.strongRecOn with
  | _ n ih =>
  intro nm ar cs hn h
  obtain ⟨v, rfl, ao, cap, rfl, hcap, hpos⟩ := h
  refine Ct.enter Tryz.func182 rfl Tryz.ntmps182 rfl fun w0 a S => ?_
  refine wp_sr fun Z hZ => ?_
  (refine wbx S ?_; clear S a; intro b2 a w S)
  (revert S a; revert hZ Z; refine go 4 ?_; intro Z hZ a S)
  (refine wp_seq_k ?_; intro Z hZ)
  replace hZ : ∀ (a' : Act) (w' : World), (∃ (q : Bool), q = (plainS nm || parS nm) ∧ St 36 [(1, vk), (2, ptr b2), (13, .bool q)] w0 F [] F [[(b2, .cells ⟨[.string (bs nm), .slice ao ar.len cap]⟩ 88 (0, 0))]] a' w') → Z a' w' := (by
   (intro a w hM; refine hZ _ _ ?_; clear hZ Z; clear S; obtain ⟨q, hq, S⟩ := hM)
   refine wpc_sp S rfl ?_ ?_ <;> intro h
   · (revert S a; refine go 4 ?_; intro a S)
     refine wp_ret (fr1 S Tryz.results182 ?_)
     exact zzRtC2
   (revert S a; revert hZ Z; refine go 9 ?_; intro Z hZ a S)
   refine wpc_sp S rfl ?_ ?_ <;> intro h
   · (revert S a; refine go 4 ?_; intro Z hZ a S)
     (refine wc0 S (rinCt F ks nm vk hks hkl) ?_; clear S a; intro v a w hv S; subst hv)
     (revert S a; revert hZ Z; refine go 3 ?_; intro a S)
     refine wp_ret (fr1 S Tryz.results182 ?_)
     exact zzRtC2
   (revert S a; revert hZ Z; refine go 8 ?_; intro Z hZ a S)
   refine wpc_loop (fun m a w' => ∃ (k : Nat), m = ar.len - k ∧ k ≤ ar.len ∧ hasL (full0 ++ ks) ar = hasL (full0 ++ ks) (ar.drop k) ∧ St 36 [(1, vk), (2, ptr b2), (5, .int .i64 k)] w0 F [] F [[(b2, .cells ⟨[.string (bs nm), .slice ao ar.len cap]⟩ 88 (0, 0))]] a w') ?_ ?_
   · (refine ⟨ar.len, 0, by omega, Nat.zero_le _, rfl, ?_⟩; refine S.keep ?_; exact zk)
   (clear S; rintro m a w ⟨k, rfl, hkl2, hfp, S⟩)
   (revert S a; refine go 9 ?_; intro Z hZ a S)
   refine wpc_sp S rfl ?_ ?_ <;> intro h
   · (revert S a; revert hZ Z; refine go 4 ?_; intro Z hZ a S)
     (refine wp_seq_k ?_; intro Z hZ)
     (obtain ⟨b8, o8, hao, x, v1, hx, hc1, hT1⟩ := FoM.pos hpos (k := k) (by omega); rw [hao] at S; have hxs := Fo.size_get hx; obtain ⟨a91, c91, rfl, -⟩ := id hT1)
     (revert S a; refine go 7 ?_; intro a S)
     (refine wc0 S (ih x.2.size (by omega) x.1 x.2 _ (Nat.le_refl _) ⟨_, rfl, hT1⟩) ?_; clear S a; intro v a w hv S; subst hv)
     (revert S a; revert hZ Z; refine go 3 ?_; intro a S)
     refine wpc_sp S rfl ?_ ?_ <;> intro h
     · (revert S a; refine go 4 ?_; intro a S)
       refine wp_ret (fr1 S Tryz.results182 ?_)
       exact zzRtC2
     (revert S a; revert hZ Z; refine go 7 ?_; intro a S)
     change ∃ m', _ ∧ _
     (rw [← hao] at S; refine ⟨ar.len - (k + 1), by omega, k + 1, rfl, by omega, ?_, ?_⟩; rotate_left 1; (refine S.keep ?_; exact zk); (rw [hfp, hasL_at hx, show hasT (full0 ++ ks) x = true from by assumption, Bool.true_and]))
   (refine wp_exit ?_; conv => whnf)
   clear hZ Z
   (revert S a; revert hZ Z; refine go 5 ?_; intro a S)
   refine wp_ret (fr1 S Tryz.results182 ?_)
   (congr 1; first | (rw [has_yes (by have h9 : q = true := (by assumption); rw [h9] at hq; simpa using hq.symm)]; done) | (have h8 : plainS nm = false ∧ parS nm = false := (by have h9 : q = false := (by assumption); rw [h9] at hq; simpa using hq.symm); first | (rw [has_no (by assumption) h8.1 h8.2]; done) | (rw [has_tup (by first | assumption | (apply Classical.byContradiction; assumption)), hfp]; first | (rw [Fo.drop_len (by omega)]; rfl) | (rw [hasL_at hx, show hasT (full0 ++ ks) x = false from by assumption]; rfl))) | trace_state))
  (revert S a; refine go 3 ?_; intro a S)
  (refine wc0 S (rplainCt F nm) ?_; clear S a; intro v a w hv S; subst hv)
  (revert S a; refine go 1 ?_; intro a S)
  refine wgd S ?_ ?_
  · (clear S; intro h S)
    (revert S a; refine go 4 ?_; intro a S)
    (refine wc0 S (refParamCt F nm) ?_; clear S a; intro v a w hv S; subst hv)
    (revert S a; refine go 2 ?_; intro a S)
    (refine hZ _ _ ?_)
    (apply Exists.intro; refine ⟨?_, ?_⟩; rotate_left 1; (refine S.keep ?_; exact zk); (simp [*]; done))
  (clear S a; intro h a S)
  (revert S a; refine go 4 ?_; intro a S)
  (refine hZ _ _ ?_)
  (apply Exists.intro; refine ⟨?_, ?_⟩; rotate_left 1; (refine S.keep ?_; exact zk); (simp [*]; done))
theorem cons_at {k : List (List UInt8)} {l : List CD} {i : Nat} {c : CD} (hx : l[i]? = some c) : (l.take (i + 1)).any (consOK k) = ((l.take i).any (consOK k) || consOK k c) := by rw [List.take_add_one, hx, List.any_append]; simp
theorem fall_at {k : List (List UInt8)} {l : List FD} {i : Nat} {f : FD} (hx : l[i]? = some f) : ((l.take (i + 1)).all fun f => hasT k (f.tn, f.ta)) = (((l.take i).all fun f => hasT k (f.tn, f.ta)) && hasT k (f.tn, f.ta)) := by rw [List.take_add_one, hx, List.all_append]; simp
theorem stepR_at {ts : List TD} {k : List (List UInt8)} {i : Nat} {x : TD} (hx : ts[i]? = some x) : stepR (ts.take (i + 1)) k = stepR (ts.take i) k ++ (if tyOK (full0 ++ k) x = true then [x.nm] else []) := by
 unfold stepR
 rw [List.take_add_one, hx, List.filter_append, List.map_append]
 congr 1
 by_cases h : tyOK (full0 ++ k) x = true
 ·rw [if_pos h]; simp [h]
 ·rw [if_neg h]; simp [h]
theorem ty_of {k : List (List UInt8)} {x : TD} {n : Nat} {q : Bool} (hq : q = (x.cs.take n).any (consOK (full0 ++ k))) (h : x.cs.length ≤ n) : tyOK (full0 ++ k) x = q := by rw [hq, List.take_of_length_le h]; rfl
theorem stepR_len (ts : List TD) (k : List (List UInt8)) : (stepR ts k).length ≤ ts.length := by unfold stepR; rw [List.length_map]; exact List.length_filter_le _ _
theorem zzRtC3 {p : Prop} (h : p := by (rw [← haf] at S; refine ⟨c.fs.length - (j + 1), by omega, c, af, cf, j + 1, ?_⟩; apply Exists.intro; refine ⟨rfl, hc, by omega, hfs, ?_, ?_⟩; rotate_left 1; (refine S.keep ?_; exact zk); (rw [fall_at hf, ← hq9]; first | (rw [(by assumption : q9 = true), Bool.true_and]; done) | (rw [(by assumption : q9 = false), Bool.false_and]; done) | trace_state))) : p := h
theorem zzRtC4 {p : Prop} (h : p := by (have e9 : consOK (full0 ++ ks) c = q9 := (by rw [hq9, List.take_of_length_le (by omega)]; rfl); refine ⟨x.cs.length - (k + 1), by omega, x, k + 1, ?_⟩; apply Exists.intro; refine ⟨rfl, hx, by omega, ?_, ?_⟩; rotate_left 1; (refine S.keep ?_; exact zk); (rw [cons_at hc, e9, ← hq]; first | (rw [(by assumption : q = true), Bool.true_or]; done) | (rw [(by assumption : q = false), Bool.false_or]; done) | trace_state))) : p := h
theorem zzRtC5 {p : Prop} (h : p := by (first | (have hb : q = true := (by assumption); have e9 := ty_of hq (by omega); rw [hb] at e9; refine ⟨ts.length - (i + 1), by omega, i + 1, v, g, rfl, by omega, ?_, ?_⟩; rotate_left 1; (refine S.keep ?_; exact zk); (rw [stepR_at hx, if_pos e9, List.length_append]; unfold strs at hown ⊢; rw [List.map_append]; exact hown)) | (have hb : q = false := (by assumption); have e9 := ty_of hq (by omega); rw [hb] at e9; refine ⟨ts.length - (i + 1), by omega, i + 1, v, g, rfl, by omega, ?_, ?_⟩; rotate_left 1; (refine S.keep ?_; exact zk); (rw [stepR_at hx, if_neg (by rw [e9]; decide), List.append_nil]; exact hown)) | trace_state)) : p := h
theorem rstepCt (F : Heap) (tp : Nat) (ts : List TD) (hT : RTab F tp ts) (htl : ts.length ≤ 2000000) (ks : List (List UInt8)) (vk : Value) (hks : SlC F vk ks.length (strs ks)) (hkn : ks.length ≤ 9223372036854775807) :
  Ct Tryz.prog 148 [.pointer (some ⟨tp, 0, none⟩), vk] F [] (fun _ G' u => ∃ g, G' = [g] ∧ OwnS 9 1 u (stepR ts ks).length (strs (stepR ts ks)) g) := by
 obtain ⟨ao, cap, hc2, hL⟩ := hT
 refine Ct.enter Tryz.func148 rfl Tryz.ntmps148 rfl fun w0 a S => ?_
 (revert S a; refine go 14 ?_; intro Z hZ a S)
 refine wpc_loop (fun m a w' => ∃ (i : Nat) (v : Value) (g : Grp), m = ts.length - i ∧ i ≤ ts.length ∧ OwnS 9 1 v (stepR (ts.take i) ks).length (strs (stepR (ts.take i) ks)) g ∧ St 83 [(0, ptr tp), (1, vk), (5, v), (6, .int .i64 i)] w0 F [] F [g] a w') ?_ ?_
 ·(replace S := S.nilg; refine ⟨ts.length, 0, .slice none 0 0, [], by omega, Nat.zero_le _, OwnS.nil _ _, ?_⟩; refine S.keep ?_; exact zk)
 (clear S; rintro m a w ⟨i, v, g, rfl, hil, hown, S⟩)
 (revert S a; refine go 7 ?_; intro Z hZ Z hZ a S)
 first | (refine wv S (sv_loadO S rfl rfl (by rfl)) ?_; clear S a; intro a S) | (refine wv S (sv_loadF S rfl rfl (by assumption)) ?_; clear S a; intro a S) | (refine wv S (sv_loadF S rfl rfl hc2) ?_; clear S a; intro a S)
 (revert S a; revert hZ Z; refine go 4 ?_; intro a S)
 refine wpc_sp S rfl ?_ ?_ <;> intro h
 ·(revert S a; revert hZ Z; refine go 9 ?_; intro Z hZ Z hZ a S)
  (revert S a; refine go 5 ?_; intro a S)
  refine wpc_loop (fun m a w' => ∃ (x : TD) (k : Nat) (q : Bool), m = x.cs.length - k ∧ ts[i]? = some x ∧ k ≤ x.cs.length ∧ q = (x.cs.take k).any (consOK (full0 ++ ks)) ∧ St 83 [(0, ptr tp), (1, vk), (5, v), (6, .int .i64 i), (7, .bool q), (8, .int .i64 k)] w0 F [] F [g] a w') ?_ ?_
  ·(obtain ⟨x, hx⟩ := at_ex (l := ts) (k := i) (by omega); refine ⟨x.cs.length, x, 0, false, by omega, hx, Nat.zero_le _, rfl, ?_⟩; refine S.keep ?_; exact zk)
  (clear S; rintro m a w ⟨x, k, q, rfl, hx, hkl, hq, S⟩; obtain ⟨b8, o8, ap8, cp8, ac8, cc8, hao, hcx, -, hcs⟩ := td_at hL hx; obtain ⟨_, _, _, hcb, -⟩ := id hcs; have hcx5 : Cel F b8 (o8 + i * 6 + 5) _ := hcx 5 _ rfl; have hcx3 : Cel F b8 (o8 + i * 6 + 3) _ := hcx 3 _ rfl; rw [hao] at hc2)
  (revert S a; refine go 7 ?_; intro Z hZ Z hZ a S)
  first | (refine wv S (sv_loadO S rfl rfl (by rfl)) ?_; clear S a; intro a S) | (refine wv S (sv_loadF S rfl rfl (by assumption)) ?_; clear S a; intro a S) | (refine wv S (sv_loadF S rfl rfl hc2) ?_; clear S a; intro a S)
  (revert S a; refine go 3 ?_; intro a S)
  (refine wv S (sv_loadF S rfl rfl hcx5) ?_; clear S a; intro a S)
  (revert S a; revert hZ Z; refine go 4 ?_; intro a S)
  refine wpc_sp S rfl ?_ ?_ <;> intro h
  ·(revert S a; revert hZ Z; refine go 8 ?_; intro Z hZ a S)
   (refine wp_seq_k ?_; intro Z hZ)
   (obtain ⟨c, hc⟩ := at_ex (l := x.cs) (k := k) (by omega); obtain ⟨b9, o9, af9, cf9, hac, hcc, hfs⟩ := cd_at hcs hc; rw [hac] at hcx5; have hcc1 : Cel F b9 (o9 + k * 2 + 1) _ := hcc 1 _ rfl)
   (revert S a; refine go 5 ?_; intro a S)
   first | (refine wv S (sv_loadO S rfl rfl (by rfl)) ?_; clear S a; intro a S) | (refine wv S (sv_loadF S rfl rfl (by assumption)) ?_; clear S a; intro a S) | (refine wv S (sv_loadF S rfl rfl hc2) ?_; clear S a; intro a S)
   (revert S a; refine go 3 ?_; intro a S)
   (refine wv S (sv_loadF S rfl rfl hcx5) ?_; clear S a; intro a S)
   (revert S a; refine go 3 ?_; intro a S)
   (refine wv S (sv_loadF S rfl rfl hcc1) ?_; clear S a; intro a S)
   (revert S a; revert hZ Z; refine go 9 ?_; intro Z hZ a S)
   refine wpc_loop (fun m a w' => ∃ (c : CD) (af : Option Addr) (cf j : Nat) (q9 : Bool), m = c.fs.length - j ∧ x.cs[k]? = some c ∧ j ≤ c.fs.length ∧ LiM F 3 FdR (.slice af c.fs.length cf) c.fs ∧ q9 = ((c.fs.take j).all fun f => hasT (full0 ++ ks) (f.tn, f.ta)) ∧ St 83 [(0, ptr tp), (1, vk), (5, v), (6, .int .i64 i), (7, .bool q), (8, .int .i64 k), (9, .bool q9), (10, .slice af c.fs.length cf), (11, .int .i64 j)] w0 F [] F [g] a w') ?_ ?_
   ·(refine ⟨c.fs.length, c, af9, cf9, 0, true, by omega, hc, Nat.zero_le _, hfs, rfl, ?_⟩; refine S.keep ?_; exact zk)
   (clear S; rintro m a w ⟨c, af, cf, j, q9, rfl, hc, hjl, hfs, hq9, S⟩; obtain ⟨_, _, _, hfb, -⟩ := id hfs)
   (revert S a; refine go 8 ?_; intro Z hZ a S)
   refine wpc_sp S rfl ?_ ?_ <;> intro h
   ·(revert S a; revert hZ Z; refine go 4 ?_; intro Z hZ a S)
    (obtain ⟨f, hf⟩ := at_ex (l := c.fs) (k := j) (by omega); obtain ⟨b7, o7, aa7, ca7, haf, hcf, hfa⟩ := fd_at hfs hf; rw [haf] at S; have hcf1 := fd_ty hcf)
    (revert S a; refine go 3 ?_; intro a S)
    refine wgd S ?_ ?_
    ·(clear S; intro h S)
     (revert S a; refine go 8 ?_; intro a S)
     (refine wv S (sv_loadAF S rfl rfl hcf1 rfl) ?_; clear S a; intro a S)
     (revert S a; refine go 3 ?_; intro a S)
     (refine wc0 S (rfullCt F ks vk hks hkn f.ta.size f.tn f.ta _ (Nat.le_refl _) ⟨_, rfl, hfa⟩) ?_; clear S a; intro v63 a w hv S; subst hv)
     (revert S a; revert hZ Z; refine go 9 ?_; intro a S)
     change ∃ m', _ ∧ _
     exact zzRtC3
    (clear S a; intro h a S)
    (revert S a; revert hZ Z; refine go 15 ?_; intro a S)
    change ∃ m', _ ∧ _
    exact zzRtC3
   (refine wp_exit ?_; conv => whnf)
   clear hZ Z
   (revert S a; revert hZ Z; refine go 4 ?_; intro a S)
   refine wgd S ?_ ?_
   ·(clear S; intro h S)
    (revert S a; revert hZ Z; refine go 10 ?_; intro a S)
    change ∃ m', _ ∧ _
    exact zzRtC4
   (clear S a; intro h a S)
   (revert S a; revert hZ Z; refine go 9 ?_; intro a S)
   change ∃ m', _ ∧ _
   exact zzRtC4
  (refine wp_exit ?_; conv => whnf)
  clear hZ Z
  (revert S a; revert hZ Z; refine go 5 ?_; intro a S)
  refine wpc_sp S rfl ?_ ?_ <;> intro h
  ·(obtain ⟨aoK, capK, rfl, -⟩ := hown.at; have hsl := stepR_len (ts.take i) ks; rw [List.length_take] at hsl)
   (revert S a; refine go 6 ?_; intro a S)
   first | (refine wv S (sv_loadO S rfl rfl (by rfl)) ?_; clear S a; intro a S) | (refine wv S (sv_loadF S rfl rfl (by assumption)) ?_; clear S a; intro a S) | (refine wv S (sv_loadF S rfl rfl hc2) ?_; clear S a; intro a S)
   (revert S a; refine go 3 ?_; intro a S)
   (refine wv S (sv_loadF S rfl rfl hcx3) ?_; clear S a; intro a S)
   (refine wpl_append S rfl rfl rfl rfl rfl rfl rfl rfl rfl rfl rfl (fun _ => rfl) hown (by rfl) (by simp [Value.cells, splice, splice]) (by simp [Value.cells, Value.oneCell', splice, splice]) rfl (by rfl) (by rfl) rfl (by omega) (by omega) ?_; clear hown S a; intro v u g a w hown S)
   (revert S a; revert hZ Z; refine go 8 ?_; intro a S)
   change ∃ m', _ ∧ _
   exact zzRtC5
  (revert S a; revert hZ Z; refine go 7 ?_; intro a S)
  change ∃ m', _ ∧ _
  exact zzRtC5
 (refine wp_exit ?_; conv => whnf)
 clear hZ Z
 (revert S a; revert hZ Z; refine go 6 ?_; intro a S)
 refine wp_ret (fr1 S Tryz.results148 ?_)
 (rw [List.take_of_length_le (by omega)] at hown; exact ⟨_, rfl, hown⟩)
end Go.Proofs.YtgefmjghdijbfaaGreatDoor
