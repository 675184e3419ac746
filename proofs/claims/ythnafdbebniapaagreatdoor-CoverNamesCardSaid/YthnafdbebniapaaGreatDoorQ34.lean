/- Walks. -/
import Derived.Test.YthnafdbebniapaaGreatDoorQ33
set_option maxHeartbeats 4000000
namespace Go.Proofs.YthnafdbebniapaaGreatDoor
open Go Go.Wk Go.Un Go.De Go.Cv
set_option linter.unusedSimpArgs false
set_option linter.unusedVariables false
attribute [local irreducible] Go.wpList Go.Code.wp Go.wpStill Go.Wk.wpPre Go.bodyPost Go.Calls Go.Wk.Ct Go.Wk.OwnS Go.Wk.wpG Go.Wk.wpM
theorem wiT_any (p : Ty → Bool) (nm : List UInt8) (ar : Fo) : wiT p (nm, ar) = (p (nm, ar) || anyF (wiT p) ar) := by
 show (p (nm, ar) || wiL _ ar) = _
 rw [← anyF_wi]
theorem zzRtB0 {p : Prop} (h : p := by (congr 1; rw [← hfp]; first | (rw [any_end (by omega)]; simp; done) | (rw [(by assumption : q = false)]; rfl) | trace_state)) : p := h
theorem zzRtB1 {p : Prop} (h : p := by (replace S := S.drop1; apply Exists.intro; refine ⟨?_, ?_⟩; rotate_left 1; (refine S.keep ?_; exact zk); (unfold nameT sTuple; rw [Bool.eq_iff_iff]; simp [*]))) : p := h
theorem rnamesCt (tp : Nat) (ts : List TD) (F : Heap) (hT : RTab F tp ts) : ∀ (n : Nat) (nm : List UInt8) (ar : Fo) (cs : List Value), ar.size ≤ n → TyC F cs nm ar → Ct Tryz.prog 170 [.pointer (some ⟨tp, 0, none⟩), .agg ⟨cs⟩] F [] (fun _ _ u => u = .bool (!wiT (nameT ts) (nm, ar))) := by
  intro n
  induction n using Nat.strongRecOn with
  | _ n ih =>
  intro nm ar cs hn h
  obtain ⟨v, rfl, ao, cap, rfl, hcap, hpos⟩ := h
  refine Ct.enter Tryz.func170 rfl Tryz.ntmps170 rfl fun w0 a S => ?_
  refine wp_sr fun Z hZ => ?_
  (refine wbx S ?_; clear S a; intro b3 a w S)
  (revert S a; revert hZ Z; refine go 7 ?_; intro Z hZ a S)
  (refine wc0 S (Ct.mono (rtypeCt F tp ts hT nm) fun _ _ u hq => rq_0 hq) ?_; clear S a; intro v13 a w hv S; obtain ⟨y, ap, cp, ac, cc, rfl, hy⟩ := hv)
  (revert S a; refine go 3 ?_; intro a S)
  (refine wpl_alloc S rfl rfl rfl rfl ?_; clear S a; intro b5 a w S)
  (refine wso S rfl rfl ?_; clear S; intro w S)
  (revert S a; revert hZ Z; refine go 3 ?_; intro a S)
  (refine wp_seq_k ?_; intro Z hZ)
  replace hZ : ∀ (a' : Act) (w' : World), (∃ (q : Bool), q = (!nameT ts (nm, ar)) ∧ St 50 [(0, ptr tp), (3, ptr b3), (7, .bool q)] w0 F [] F [[(b3, .cells ⟨[.string (bs nm), .slice ao ar.len cap]⟩ 49 (0, 0))]] a' w') → Z a' w' := (by
   (intro a w hM; refine hZ _ _ ?_; clear hZ Z; clear S; obtain ⟨q, hq, S⟩ := hM)
   (revert S a; refine go 6 ?_; intro Z hZ a S)
   refine wpc_loop (fun m a w' => ∃ (k : Nat) (q : Bool), m = ar.len - k ∧ k ≤ ar.len ∧ (q && !anyF (wiT (nameT ts)) (ar.drop k)) = (!wiT (nameT ts) (nm, ar)) ∧ St 50 [(0, ptr tp), (3, ptr b3), (7, .bool q), (8, .int .i64 k)] w0 F [] F [[(b3, .cells ⟨[.string (bs nm), .slice ao ar.len cap]⟩ 49 (0, 0))]] a w') ?_ ?_
   · (refine ⟨ar.len, 0, q, by omega, Nat.zero_le _, by rw [hq, wiT_any, Bool.not_or]; rfl, ?_⟩; refine S.keep ?_; exact zk)
   (clear S; rintro m a w ⟨k, q, rfl, hkl, hfp, S⟩)
   (revert S a; refine go 8 ?_; intro Z hZ Z hZ a S)
   refine wgd S ?_ ?_
   · (clear S; intro h S)
     (revert S a; revert hZ Z; refine go 4 ?_; intro a S)
     refine wpc_sp S rfl ?_ ?_ <;> intro h
     · (revert S a; revert hZ Z; refine go 4 ?_; intro Z hZ a S)
       (obtain ⟨b8, o8, hao, x, v1, hx, hc1, hT1⟩ := FoM.pos hpos (k := k) (by omega); rw [hao] at S; have hxs := Fo.size_get hx; obtain ⟨a91, c91, rfl, -⟩ := id hT1)
       (revert S a; refine go 7 ?_; intro a S)
       (refine wc0 S (ih x.2.size (by omega) x.1 x.2 _ (Nat.le_refl _) ⟨_, rfl, hT1⟩) ?_; clear S a; intro v a w hv S; subst hv)
       (revert S a; revert hZ Z; refine go 8 ?_; intro a S)
       change ∃ m', _ ∧ _
       (rw [← hao] at S; refine ⟨ar.len - (k + 1), by omega, k + 1, !wiT (nameT ts) (x.1, x.2), rfl, by omega, ?_, ?_⟩; rotate_left 1; (refine S.keep ?_; exact zk); (rw [← hfp, any_drop hx, (by assumption : q = true), Bool.true_and, Bool.not_or]))
     (refine wp_exit ?_; conv => whnf)
     clear hZ Z
     (revert S a; revert hZ Z; refine go 6 ?_; intro a S)
     refine wp_ret (fr1 S Tryz.results170 ?_)
     exact zzRtB0
   (clear S a; intro h a S)
   (revert S a; revert hZ Z; refine go 3 ?_; intro a S)
   refine wpc_false S rfl ?_
   (refine wp_exit ?_; conv => whnf)
   clear hZ Z
   (revert S a; revert hZ Z; refine go 6 ?_; intro a S)
   refine wp_ret (fr1 S Tryz.results170 ?_)
   (congr 1; rw [← hfp]; first | (rw [any_end (by omega)]; simp; done) | (rw [(by assumption : q = false)]; rfl) | trace_state))
  (revert S a; refine go 3 ?_; intro a S)
  refine wgd S ?_ ?_
  · (clear S; intro h S)
    (revert S a; refine go 4 ?_; intro a S)
    (refine wc0 S (rplainCt _ nm) ?_; clear S a; intro v a w hv S; subst hv)
    (revert S a; refine go 2 ?_; intro a S)
    refine wgd S ?_ ?_
    · (clear S; intro h S)
      (revert S a; refine go 7 ?_; intro a S)
      refine wgd S ?_ ?_
      · (clear S; intro h S)
        (revert S a; refine go 4 ?_; intro a S)
        (refine wc0 S (refParamCt _ nm) ?_; clear S a; intro v a w hv S; subst hv)
        (revert S a; refine go 3 ?_; intro a S)
        (refine hZ _ _ ?_)
        exact zzRtB1
      (clear S a; intro h a S)
      (revert S a; refine go 5 ?_; intro a S)
      (refine hZ _ _ ?_)
      exact zzRtB1
    (clear S a; intro h a S)
    (revert S a; refine go 10 ?_; intro a S)
    (refine hZ _ _ ?_)
    exact zzRtB1
  (clear S a; intro h a S)
  (revert S a; refine go 15 ?_; intro a S)
  (refine hZ _ _ ?_)
  exact zzRtB1
theorem rc_1 {ts : List TD} {nm : List UInt8} {ar : Fo} (h : plainS nm = true ∨ parS nm = true) : rCount ts (nm, ar) = decide (ar.len = 0) := by unfold rCount; rw [if_pos h]
theorem rc_2 {ts : List TD} {nm : List UInt8} {ar : Fo} (h1 : plainS nm = false) (h2 : parS nm = false) (h3 : nm = sTuple) : rCount ts (nm, ar) = (decide (ar.len ≠ 1) && decide (ar.len ≤ 16)) := by unfold rCount; rw [if_neg (by rw [h1, h2]; simp), if_pos h3]
theorem rc_3 {ts : List TD} {nm : List UInt8} {ar : Fo} {y : TD} (h1 : plainS nm = false) (h2 : parS nm = false) (h3 : ¬ nm = sTuple) (h4 : declS ts nm = true) (hy : findT ts nm = some y ∨ findT ts nm = none ∧ y = zTD) : rCount ts (nm, ar) = decide (ar.len = y.ps.length) := by
 unfold rCount
 rw [if_neg (by rw [h1, h2]; simp), if_neg h3]
 show (declS ts nm && decide (ar.len = parN ts nm)) = _
 rw [h4, Bool.true_and]
 unfold parN
 unfold declS at h4
 rcases hy with h | ⟨h, -⟩
 ·rw [h]
 ·rw [h] at h4; cases h4
theorem rc_4 {ts : List TD} {nm : List UInt8} {ar : Fo} (h1 : plainS nm = false) (h2 : parS nm = false) (h3 : ¬ nm = sTuple) (h4 : declS ts nm = false) : rCount ts (nm, ar) = false := by
 unfold rCount
 rw [if_neg (by rw [h1, h2]; simp), if_neg h3]
 show (declS ts nm && _) = _
 rw [h4]; rfl
theorem beqNN (a b : Nat) : ((a : Int) == (b : Int)) = decide (a = b) := by rw [Bool.eq_iff_iff, beq_iff_eq, decide_eq_true_eq]; omega
theorem zzRtB2 {p : Prop} (h : p := by (replace S := S.drop1; apply Exists.intro; refine ⟨?_, ?_⟩; rotate_left 1; (refine S.keep ?_; exact zk); (first | (rw [rc_1 (.inl (by assumption))]; exact beqNN _ 0) | (rw [rc_1 (.inr (by assumption))]; exact beqNN _ 0) | (rw [rc_2 (by assumption) (by assumption) (by assumption), Bool.eq_iff_iff]; simp; omega) | (rw [rc_3 (by assumption) (by assumption) (by assumption) (by assumption) hy]; exact beqNN _ _) | (rw [rc_4 (by assumption) (by assumption) (by assumption) (by assumption)]; done) | trace_state))) : p := h
theorem rcountsCt (tp : Nat) (ts : List TD) (F : Heap) (hT : RTab F tp ts) : ∀ (n : Nat) (nm : List UInt8) (ar : Fo) (cs : List Value), ar.size ≤ n → TyC F cs nm ar → Ct Tryz.prog 171 [.pointer (some ⟨tp, 0, none⟩), .agg ⟨cs⟩] F [] (fun _ _ u => u = .bool (!wiT (fun y => !rCount ts y) (nm, ar))) := by
  intro n
  induction n using Nat.strongRecOn with
  | _ n ih =>
  intro nm ar cs hn h
  obtain ⟨v, rfl, ao, cap, rfl, hcap, hpos⟩ := h
  refine Ct.enter Tryz.func171 rfl Tryz.ntmps171 rfl fun w0 a S => ?_
  refine wp_sr fun Z hZ => ?_
  (refine wbx S ?_; clear S a; intro b3 a w S)
  (revert S a; revert hZ Z; refine go 18 ?_; intro Z hZ a S)
  (refine wc0 S (Ct.mono (rtypeCt F tp ts hT nm) fun _ _ u hq => rq_0 hq) ?_; clear S a; intro v13 a w hv S; obtain ⟨y, ap, cp, ac, cc, rfl, hy⟩ := hv)
  (revert S a; refine go 3 ?_; intro a S)
  (refine wpl_alloc S rfl rfl rfl rfl ?_; clear S a; intro b7 a w S)
  (refine wso S rfl rfl ?_; clear S; intro w S)
  (revert S a; revert hZ Z; refine go 3 ?_; intro a S)
  (refine wp_seq_k ?_; intro Z hZ)
  replace hZ : ∀ (a' : Act) (w' : World), (∃ (q : Bool), q = rCount ts (nm, ar) ∧ St 64 [(0, ptr tp), (3, ptr b3), (5, .int .i64 ar.len), (6, .bool q)] w0 F [] F [[(b3, .cells ⟨[.string (bs nm), .slice ao ar.len cap]⟩ 49 (0, 0))]] a' w') → Z a' w' := (by
   (intro a w hM; refine hZ _ _ ?_; clear hZ Z; clear S; obtain ⟨q, hq, S⟩ := hM)
   (revert S a; refine go 6 ?_; intro Z hZ a S)
   refine wpc_loop (fun m a w' => ∃ (k : Nat) (q : Bool), m = ar.len - k ∧ k ≤ ar.len ∧ (q && !anyF (wiT (fun y => !rCount ts y)) (ar.drop k)) = (!wiT (fun y => !rCount ts y) (nm, ar)) ∧ St 64 [(0, ptr tp), (3, ptr b3), (5, .int .i64 ar.len), (6, .bool q), (9, .int .i64 k)] w0 F [] F [[(b3, .cells ⟨[.string (bs nm), .slice ao ar.len cap]⟩ 49 (0, 0))]] a w') ?_ ?_
   · (refine ⟨ar.len, 0, q, by omega, Nat.zero_le _, by rw [hq, wiT_any, Bool.not_or, Bool.not_not]; rfl, ?_⟩; refine S.keep ?_; exact zk)
   (clear S; rintro m a w ⟨k, q, rfl, hkl, hfp, S⟩)
   (revert S a; refine go 6 ?_; intro Z hZ Z hZ a S)
   refine wgd S ?_ ?_
   · (clear S; intro h S)
     (revert S a; revert hZ Z; refine go 4 ?_; intro a S)
     refine wpc_sp S rfl ?_ ?_ <;> intro h
     · (revert S a; revert hZ Z; refine go 4 ?_; intro Z hZ a S)
       (obtain ⟨b8, o8, hao, x, v1, hx, hc1, hT1⟩ := FoM.pos hpos (k := k) (by omega); rw [hao] at S; have hxs := Fo.size_get hx; obtain ⟨a91, c91, rfl, -⟩ := id hT1)
       (revert S a; refine go 7 ?_; intro a S)
       (refine wc0 S (ih x.2.size (by omega) x.1 x.2 _ (Nat.le_refl _) ⟨_, rfl, hT1⟩) ?_; clear S a; intro v a w hv S; subst hv)
       (revert S a; revert hZ Z; refine go 8 ?_; intro a S)
       change ∃ m', _ ∧ _
       (rw [← hao] at S; refine ⟨ar.len - (k + 1), by omega, k + 1, !wiT (fun y => !rCount ts y) (x.1, x.2), rfl, by omega, ?_, ?_⟩; rotate_left 1; (refine S.keep ?_; exact zk); (rw [← hfp, any_drop hx, (by assumption : q = true), Bool.true_and, Bool.not_or]))
     (refine wp_exit ?_; conv => whnf)
     clear hZ Z
     (revert S a; revert hZ Z; refine go 6 ?_; intro a S)
     refine wp_ret (fr1 S Tryz.results171 ?_)
     exact zzRtB0
   (clear S a; intro h a S)
   (revert S a; revert hZ Z; refine go 3 ?_; intro a S)
   refine wpc_false S rfl ?_
   (refine wp_exit ?_; conv => whnf)
   clear hZ Z
   (revert S a; revert hZ Z; refine go 6 ?_; intro a S)
   refine wp_ret (fr1 S Tryz.results171 ?_)
   (congr 1; rw [← hfp]; first | (rw [any_end (by omega)]; simp; done) | (rw [(by assumption : q = false)]; rfl) | trace_state))
  (revert S a; refine go 4 ?_; intro Z hZ a S)
  (refine wc0 S (rplainCt _ nm) ?_; clear S a; intro v a w hv S; subst hv)
  (revert S a; refine go 1 ?_; intro a S)
  refine wgd S ?_ ?_
  · (clear S; intro h S)
    (revert S a; refine go 4 ?_; intro a S)
    (refine wc0 S (refParamCt _ nm) ?_; clear S a; intro v a w hv S; subst hv)
    (revert S a; revert hZ Z; refine go 4 ?_; intro a S)
    refine wpc_sp S rfl ?_ ?_ <;> intro h
    · (revert S a; refine go 5 ?_; intro a S)
      (refine hZ _ _ ?_)
      exact zzRtB2
    (revert S a; refine go 7 ?_; intro a S)
    refine wpc_sp S rfl ?_ ?_ <;> intro h
    · (revert S a; refine go 4 ?_; intro a S)
      refine wgd S ?_ ?_
      · (clear S; intro h S)
        (revert S a; refine go 6 ?_; intro a S)
        (refine hZ _ _ ?_)
        exact zzRtB2
      (clear S a; intro h a S)
      (revert S a; refine go 4 ?_; intro a S)
      (refine hZ _ _ ?_)
      exact zzRtB2
    (revert S a; refine go 5 ?_; intro a S)
    refine wpc_sp S rfl ?_ ?_ <;> intro h
    · (revert S a; refine go 8 ?_; intro a S)
      (refine hZ _ _ ?_)
      exact zzRtB2
    refine wp_skip ?_
    (refine hZ _ _ ?_)
    exact zzRtB2
  (clear S a; intro h a S)
  (revert S a; revert hZ Z; refine go 6 ?_; intro a S)
  refine wpc_true S rfl ?_
  (revert S a; refine go 5 ?_; intro a S)
  (refine hZ _ _ ?_)
  exact zzRtB2
def gwF (ts : List TD) (nm : List UInt8) (z : Ty) : Bool := wiT (growT ts) z || (declS ts nm && (!parS z.1 && openT z))
theorem gw_any (ts : List TD) (nm : List UInt8) : ∀ ar : Fo, anyF (gwF ts nm) ar = (anyF (wiT (growT ts)) ar || (declS ts nm && anyF (fun z => !parS z.1 && openT z) ar))
 | .nil => by show false = (false || (_ && false)); simp
 | .cons s l r => by
  rw [anyF_cons, anyF_cons, anyF_cons, gw_any ts nm r]
  unfold gwF
  cases wiT (growT ts) (s, l) <;> cases declS ts nm <;> cases (!parS (s, l).1 && openT (s, l)) <;> cases anyF (wiT (growT ts)) r <;> simp
theorem grow_any (ts : List TD) (nm : List UInt8) (ar : Fo) : wiT (growT ts) (nm, ar) = anyF (gwF ts nm) ar := by
 rw [wiT_any, gw_any]
 show ((declS ts nm && _) || _) = _
 rw [Bool.or_comm]
theorem zzRtB3 {p : Prop} (h : p := by (congr 1; rw [← hfp]; first | (rw [any_end (by omega)]; done) | (rw [any_drop hx, ← hq, (by assumption : q = true)]; rfl) | trace_state)) : p := h
theorem zzRtB4 {p : Prop} (h : p := by (rw [← hao] at S; refine ⟨x, ?_⟩; apply Exists.intro; refine ⟨hx, ?_, ?_⟩; rotate_left 1; (refine S.keep ?_; exact zk); (unfold gwF; simp [*]; done))) : p := h
theorem rgrowsCt (tp : Nat) (ts : List TD) (F : Heap) (hT : RTab F tp ts) : ∀ (n : Nat) (nm : List UInt8) (ar : Fo) (cs : List Value), ar.size ≤ n → TyC F cs nm ar → Ct Tryz.prog 172 [.pointer (some ⟨tp, 0, none⟩), .agg ⟨cs⟩] F [] (fun _ _ u => u = .bool (wiT (growT ts) (nm, ar))) := by
  intro n
  induction n using Nat.strongRecOn with
  | _ n ih =>
  intro nm ar cs hn h
  obtain ⟨v, rfl, ao, cap, rfl, hcap, hpos⟩ := h
  refine Ct.enter Tryz.func172 rfl Tryz.ntmps172 rfl fun w0 a S => ?_
  refine wp_sr fun Z hZ => ?_
  (refine wbx S ?_; clear S a; intro b3 a w S)
  (revert S a; revert hZ Z; refine go 6 ?_; intro Z hZ a S)
  first | (refine wv S (sv_loadO S rfl rfl (by rfl)) ?_; clear S a; intro a S) | (refine wv S (sv_loadF S rfl rfl (by assumption)) ?_; clear S a; intro a S) | (refine wv S (sv_loadF S rfl rfl hc91) ?_; clear S a; intro a S)
  (refine wc0 S (Ct.mono (rtypeCt F tp ts hT nm) fun _ _ u hq => rq_0 hq) ?_; clear S a; intro v13 a w hv S; obtain ⟨y, ap, cp, ac, cc, rfl, hy⟩ := hv)
  (revert S a; refine go 3 ?_; intro a S)
  (refine wpl_alloc S rfl rfl rfl rfl ?_; clear S a; intro b5 a w S)
  (refine wso S rfl rfl ?_; clear S; intro w S)
  (revert S a; revert hZ Z; refine go 9 ?_; intro Z hZ a S)
  refine wpc_loop (fun m a w' => ∃ (k : Nat), m = ar.len - k ∧ k ≤ ar.len ∧ anyF (gwF ts nm) (ar.drop k) = wiT (growT ts) (nm, ar) ∧ St 51 [(0, ptr tp), (3, ptr b3), (6, .bool (declS ts nm)), (7, .int .i64 k)] w0 F [] F [[(b3, .cells ⟨[.string (bs nm), .slice ao ar.len cap]⟩ 49 (0, 0))]] a w') ?_ ?_
  · (replace S := S.drop1; refine ⟨ar.len, 0, by omega, Nat.zero_le _, (grow_any ts nm ar).symm, ?_⟩; refine S.keep ?_; exact zk)
  (clear S; rintro m a w ⟨k, rfl, hkl, hfp, S⟩)
  (revert S a; refine go 4 ?_; intro Z hZ Z hZ a S)
  first | (refine wv S (sv_loadO S rfl rfl (by rfl)) ?_; clear S a; intro a S) | (refine wv S (sv_loadF S rfl rfl (by assumption)) ?_; clear S a; intro a S) | (refine wv S (sv_loadF S rfl rfl hc91) ?_; clear S a; intro a S)
  (revert S a; revert hZ Z; refine go 4 ?_; intro a S)
  refine wpc_sp S rfl ?_ ?_ <;> intro h
  · (revert S a; revert hZ Z; refine go 4 ?_; intro Z hZ a S)
    (refine wp_seq_k ?_; intro Z hZ)
    replace hZ : ∀ (a' : Act) (w' : World), (∃ (x : Ty) (q : Bool), ar.get? k = some x ∧ q = gwF ts nm x ∧ St 51 [(0, ptr tp), (3, ptr b3), (6, .bool (declS ts nm)), (7, .int .i64 k), (50, .bool q)] w0 F [] F [[(b3, .cells ⟨[.string (bs nm), .slice ao ar.len cap]⟩ 49 (0, 0))]] a' w') → Z a' w' := (by
     (intro a w hM; refine hZ _ _ ?_; clear hZ Z; clear S; obtain ⟨x, q, hx, hq, S⟩ := hM)
     refine wpc_sp S rfl ?_ ?_ <;> intro h
     · (revert S a; refine go 4 ?_; intro a S)
       refine wp_ret (fr1 S Tryz.results172 ?_)
       exact zzRtB3
     (revert S a; revert hZ Z; refine go 7 ?_; intro a S)
     change ∃ m', _ ∧ _
     (refine ⟨ar.len - (k + 1), by omega, k + 1, rfl, by omega, ?_, ?_⟩; rotate_left 1; (refine S.keep ?_; exact zk); (rw [← hfp, any_drop hx, ← hq, (by assumption : q = false), Bool.false_or])))
    (obtain ⟨b8, o8, hao, x, v1, hx, hc1, hT1⟩ := FoM.pos hpos (k := k) (by omega); rw [hao] at S; have hxs := Fo.size_get hx; obtain ⟨a91, c91, rfl, -⟩ := id hT1; have hc91 : Cel F b8 (o8 + k * 2) (.string (bs x.1)) := hc1 0 _ rfl)
    (revert S a; refine go 3 ?_; intro a S)
    first | (refine wv S (sv_loadO S rfl rfl (by rfl)) ?_; clear S a; intro a S) | (refine wv S (sv_loadF S rfl rfl (by assumption)) ?_; clear S a; intro a S) | (refine wv S (sv_loadF S rfl rfl hc91) ?_; clear S a; intro a S)
    (revert S a; refine go 3 ?_; intro a S)
    (refine wc0 S (ih x.2.size (by omega) x.1 x.2 _ (Nat.le_refl _) ⟨_, rfl, hT1⟩) ?_; clear S a; intro v a w hv S; subst hv)
    (revert S a; refine go 1 ?_; intro a S)
    refine wgd S ?_ ?_
    · (clear S; intro h S)
      (revert S a; refine go 3 ?_; intro a S)
      refine wgd S ?_ ?_
      · (clear S; intro h S)
        (revert S a; refine go 2 ?_; intro a S)
        first | (refine wv S (sv_loadO S rfl rfl (by rfl)) ?_; clear S a; intro a S) | (refine wv S (sv_loadF S rfl rfl (by assumption)) ?_; clear S a; intro a S) | (refine wv S (sv_loadF S rfl rfl hc91) ?_; clear S a; intro a S)
        (revert S a; refine go 7 ?_; intro a S)
        first | (refine wv S (sv_loadO S rfl rfl (by rfl)) ?_; clear S a; intro a S) | (refine wv S (sv_loadF S rfl rfl (by assumption)) ?_; clear S a; intro a S) | (refine wv S (sv_loadF S rfl rfl hc91) ?_; clear S a; intro a S)
        refine wpl_take S rfl rfl rfl ?_
        (refine wc0 S (refParamCt _ x.1) ?_; clear S a; intro v a w hv S; subst hv)
        (revert S a; refine go 6 ?_; intro a S)
        refine wgd S ?_ ?_
        · (clear S; intro h S)
          (revert S a; refine go 2 ?_; intro a S)
          first | (refine wv S (sv_loadO S rfl rfl (by rfl)) ?_; clear S a; intro a S) | (refine wv S (sv_loadF S rfl rfl (by assumption)) ?_; clear S a; intro a S) | (refine wv S (sv_loadF S rfl rfl hc91) ?_; clear S a; intro a S)
          (revert S a; refine go 7 ?_; intro a S)
          (refine wc0 S (rclosedCt F x.2.size x.1 x.2 _ (Nat.le_refl _) ⟨_, rfl, hT1⟩) ?_; clear S a; intro v a w hv S; subst hv)
          (revert S a; refine go 6 ?_; intro a S)
          (refine hZ _ _ ?_)
          exact zzRtB4
        (clear S a; intro h a S)
        (revert S a; refine go 10 ?_; intro a S)
        (refine hZ _ _ ?_)
        exact zzRtB4
      (clear S a; intro h a S)
      (revert S a; refine go 22 ?_; intro a S)
      (refine hZ _ _ ?_)
      exact zzRtB4
    (clear S a; intro h a S)
    (revert S a; refine go 21 ?_; intro a S)
    (refine hZ _ _ ?_)
    exact zzRtB4
  (refine wp_exit ?_; conv => whnf)
  clear hZ Z
  (revert S a; revert hZ Z; refine go 5 ?_; intro a S)
  refine wp_ret (fr1 S Tryz.results172 ?_)
  exact zzRtB3
theorem ruseCt (tp : Nat) (ts : List TD) (F : Heap) (hT : RTab F tp ts) (nm : List UInt8) (ar : Fo) (cs : List Value) (h : TyC F cs nm ar) (hd : depthL ar ≤ 1000000000) : Ct Tryz.prog 120 [.pointer (some ⟨tp, 0, none⟩), .agg ⟨cs⟩] F [] (fun _ _ u => u = .int .i64 (useT ts (nm, ar))) := by
 rw [← rUse_eq]
 have h0 := h
 obtain ⟨v, rfl, ao, cap, rfl, hcap, hpos⟩ := h
 refine Ct.enter Tryz.func120 rfl Tryz.ntmps120 rfl fun w0 a S => ?_
 refine wp_sr fun Z hZ => ?_
 (refine wbx S ?_; clear S a; intro b3 a w S)
 (revert S a; revert hZ Z; refine go 7 ?_; intro Z hZ Z hZ a S)
 (refine wc0 S (rdepthCt F ar.size nm ar _ (Nat.le_refl _) hd h0) ?_; clear S a; intro v a w hv S; subst hv)
 (revert S a; revert hZ Z; refine go 4 ?_; intro a S)
 refine wpc_sp S rfl ?_ ?_ <;> intro h
 ·(revert S a; refine go 4 ?_; intro a S)
  refine wp_ret (fr1 S Tryz.results120 ?_)
  (congr 1; unfold rUse; first | (rw [if_pos (by omega)]; done) | (rw [if_neg (by omega)]; simp [*]; done) | trace_state)
 (revert S a; refine go 3 ?_; intro Z hZ a S)
 (refine wc0 S (rnamesCt tp ts F hT ar.size nm ar _ (Nat.le_refl _) h0) ?_; clear S a; intro v a w hv S; subst hv)
 (revert S a; revert hZ Z; refine go 4 ?_; intro a S)
 refine wpc_sp S rfl ?_ ?_ <;> intro h
 ·(revert S a; refine go 4 ?_; intro a S)
  refine wp_ret (fr1 S Tryz.results120 ?_)
  (congr 1; unfold rUse; first | (rw [if_pos (by omega)]; done) | (rw [if_neg (by omega)]; simp [*]; done) | trace_state)
 (revert S a; refine go 3 ?_; intro Z hZ a S)
 (refine wc0 S (rcountsCt tp ts F hT ar.size nm ar _ (Nat.le_refl _) h0) ?_; clear S a; intro v a w hv S; subst hv)
 (revert S a; revert hZ Z; refine go 4 ?_; intro a S)
 refine wpc_sp S rfl ?_ ?_ <;> intro h
 ·(revert S a; refine go 4 ?_; intro a S)
  refine wp_ret (fr1 S Tryz.results120 ?_)
  (congr 1; unfold rUse; first | (rw [if_pos (by omega)]; done) | (rw [if_neg (by omega)]; simp [*]; done) | trace_state)
 (revert S a; refine go 3 ?_; intro Z hZ a S)
 (refine wc0 S (rgrowsCt tp ts F hT ar.size nm ar _ (Nat.le_refl _) h0) ?_; clear S a; intro v a w hv S; subst hv)
 (revert S a; revert hZ Z; refine go 3 ?_; intro a S)
 refine wpc_sp S rfl ?_ ?_ <;> intro h
 ·(revert S a; refine go 4 ?_; intro a S)
  refine wp_ret (fr1 S Tryz.results120 ?_)
  (congr 1; unfold rUse; first | (rw [if_pos (by omega)]; done) | (rw [if_neg (by omega)]; simp [*]; done) | trace_state)
 (revert S a; revert hZ Z; refine go 6 ?_; intro a S)
 refine wp_ret (fr1 S Tryz.results120 ?_)
 (congr 1; unfold rUse; first | (rw [if_pos (by omega)]; done) | (rw [if_neg (by omega)]; simp [*]; done) | trace_state)
def frP (ps : List (List UInt8)) (y : Ty) : Bool := parS y.1 && !decide (y.1 ∈ ps)
theorem zzRtB5 {p : Prop} (h : p := by (congr 1; rw [wiT_any, ← hq]; first | (rw [(by assumption : q = true)]; rfl) | (rw [(by assumption : q = false), Bool.false_or, hfp]; first | (rw [any_end (by omega)]; done) | (rw [any_drop hx, (by assumption : wiT (frP ps) (x.1, x.2) = true)]; rfl)) | trace_state)) : p := h
theorem rfreeCt (F : Heap) (ps : List (List UInt8)) (vp : Value) (hps : SlC F vp ps.length (strs ps)) (hpl : ps.length ≤ 9223372036854775807) : ∀ (n : Nat) (nm : List UInt8) (ar : Fo) (cs : List Value), ar.size ≤ n → TyC F cs nm ar → Ct Tryz.prog 121 [.agg ⟨cs⟩, vp] F [] (fun _ _ u => u = .bool (wiT (frP ps) (nm, ar))) := by
  intro n
  induction n using Nat.strongRecOn with
  | _ n ih =>
  intro nm ar cs hn h
  obtain ⟨v, rfl, ao, cap, rfl, hcap, hpos⟩ := h
  refine Ct.enter Tryz.func121 rfl Tryz.ntmps121 rfl fun w0 a S => ?_
  refine wp_sr fun Z hZ => ?_
  (refine wbx S ?_; clear S a; intro b2 a w S)
  (revert S a; revert hZ Z; refine go 4 ?_; intro Z hZ a S)
  (refine wp_seq_k ?_; intro Z hZ)
  replace hZ : ∀ (a' : Act) (w' : World), (∃ (q : Bool), q = frP ps (nm, ar) ∧ St 30 [(1, vp), (2, ptr b2), (15, .bool q)] w0 F [] F [[(b2, .cells ⟨[.string (bs nm), .slice ao ar.len cap]⟩ 49 (0, 0))]] a' w') → Z a' w' := (by
   (intro a w hM; refine hZ _ _ ?_; clear hZ Z; clear S; obtain ⟨q, hq, S⟩ := hM)
   refine wpc_sp S rfl ?_ ?_ <;> intro h
   · (revert S a; refine go 4 ?_; intro a S)
     refine wp_ret (fr1 S Tryz.results121 ?_)
     exact zzRtB5
   (revert S a; revert hZ Z; refine go 8 ?_; intro Z hZ a S)
   refine wpc_loop (fun m a w' => ∃ (k : Nat), m = ar.len - k ∧ k ≤ ar.len ∧ anyF (wiT (frP ps)) ar = anyF (wiT (frP ps)) (ar.drop k) ∧ St 30 [(1, vp), (2, ptr b2), (5, .int .i64 k)] w0 F [] F [[(b2, .cells ⟨[.string (bs nm), .slice ao ar.len cap]⟩ 49 (0, 0))]] a w') ?_ ?_
   · (refine ⟨ar.len, 0, by omega, Nat.zero_le _, rfl, ?_⟩; refine S.keep ?_; exact zk)
   (clear S; rintro m a w ⟨k, rfl, hkl, hfp, S⟩)
   (revert S a; refine go 9 ?_; intro Z hZ a S)
   refine wpc_sp S rfl ?_ ?_ <;> intro h
   · (revert S a; revert hZ Z; refine go 4 ?_; intro Z hZ a S)
     (refine wp_seq_k ?_; intro Z hZ)
     (obtain ⟨b8, o8, hao, x, v1, hx, hc1, hT1⟩ := FoM.pos hpos (k := k) (by omega); rw [hao] at S; have hxs := Fo.size_get hx; obtain ⟨a91, c91, rfl, -⟩ := id hT1)
     (revert S a; refine go 7 ?_; intro a S)
     (refine wc0 S (ih x.2.size (by omega) x.1 x.2 _ (Nat.le_refl _) ⟨_, rfl, hT1⟩) ?_; clear S a; intro v a w hv S; subst hv)
     (revert S a; revert hZ Z; refine go 2 ?_; intro a S)
     refine wpc_sp S rfl ?_ ?_ <;> intro h
     · (revert S a; refine go 4 ?_; intro a S)
       refine wp_ret (fr1 S Tryz.results121 ?_)
       exact zzRtB5
     (revert S a; revert hZ Z; refine go 7 ?_; intro a S)
     change ∃ m', _ ∧ _
     (rw [← hao] at S; refine ⟨ar.len - (k + 1), by omega, k + 1, rfl, by omega, ?_, ?_⟩; rotate_left 1; (refine S.keep ?_; exact zk); (rw [hfp, any_drop hx, (by assumption : wiT (frP ps) (x.1, x.2) = false), Bool.false_or]))
   (refine wp_exit ?_; conv => whnf)
   clear hZ Z
   (revert S a; revert hZ Z; refine go 5 ?_; intro a S)
   refine wp_ret (fr1 S Tryz.results121 ?_)
   (congr 1; rw [wiT_any, ← hq]; first | (rw [(by assumption : q = true)]; rfl) | (rw [(by assumption : q = false), Bool.false_or, hfp]; first | (rw [any_end (by omega)]; done) | (rw [any_drop hx, (by assumption : wiT (frP ps) (x.1, x.2) = true)]; rfl)) | trace_state))
  (revert S a; refine go 3 ?_; intro a S)
  (refine wc0 S (refParamCt F nm) ?_; clear S a; intro v a w hv S; subst hv)
  (revert S a; refine go 1 ?_; intro a S)
  refine wgd S ?_ ?_
  · (clear S; intro h S)
    (revert S a; refine go 6 ?_; intro a S)
    (refine wc0 S (rinCt F ps nm vp hps hpl) ?_; clear S a; intro v a w hv S; subst hv)
    (revert S a; refine go 4 ?_; intro a S)
    (refine hZ _ _ ?_)
    (apply Exists.intro; refine ⟨?_, ?_⟩; rotate_left 1; (refine S.keep ?_; exact zk); (unfold frP; simp [*]; done))
  (clear S a; intro h a S)
  (revert S a; refine go 6 ?_; intro a S)
  (refine hZ _ _ ?_)
  (apply Exists.intro; refine ⟨?_, ?_⟩; rotate_left 1; (refine S.keep ?_; exact zk); (unfold frP; simp [*]; done))
end Go.Proofs.YthnafdbebniapaaGreatDoor
