/- Walks. -/
import Derived.Test.YthnafdbebniapaaGreatDoorQ17
import Derived.Test.YthnafdbebniapaaGreatDoorQ08
import Derived.Test.YthnafdbebniapaaGreatDoorQ21
import Derived.Test.YthnafdbebniapaaGreatDoorQ19
import Derived.Test.YthnafdbebniapaaGreatDoorQ12
import Derived.Test.YthnafdbebniapaaGreatDoorQ30
set_option maxHeartbeats 8000000
namespace Go.Proofs.YthnafdbebniapaaGreatDoor
open Go Go.Wk Go.Un Go.De
set_option linter.unusedSimpArgs false
set_option linter.unusedVariables false
attribute [local irreducible] Go.wpList Go.Code.wp Go.wpStill Go.Wk.wpPre Go.bodyPost Go.Calls Go.Wk.Ct Go.Wk.OwnS Go.Wk.wpG Go.Wk.wpM
def cI (a b : Int) : Int := if a < b then -1 else if b < a then 1 else 0
def cS (s t : List UInt8) : Int := if Op.bytesLess s t = true then -1 else if s = t then 0 else 1
def or2 (a b : Int) : Int := if a ≠ 0 then a else b
def bigC : Nat → List UInt8 → List UInt8 → Int
 | 0, _, _ => 0
 | n + 1, s, t => if s.take 1 = [45] ∧ t.take 1 = [45] then bigC n (t.drop 1) (s.drop 1) else if s.take 1 = [45] then -1 else if t.take 1 = [45] then 1 else or2 (cI s.length t.length) (cS s t)
def bigsC (s t : List UInt8) : Int := bigC (s.length + t.length + 1) s t
def cmpL : Vf → Vf → Int
 | .nil, .nil => 0
 | .nil, .cons _ _ _ => -1
 | .cons _ _ _, .nil => 1
 | .cons h L r, .cons h2 L2 r2 => or2 (if h.k ≠ h2.k then cI h.k h2.k else if h.k = 3 then bigsC h.s h2.s else if h.k = 4 then cS h.s h2.s else or2 (cI h.n h2.n) (or2 (cS h.s h2.s) (cmpL L L2))) (cmpL r r2)
def cmpH (h : VH) (L : Vf) (h2 : VH) (L2 : Vf) : Int := if h.k ≠ h2.k then cI h.k h2.k else if h.k = 3 then bigsC h.s h2.s else if h.k = 4 then cS h.s h2.s else or2 (cI h.n h2.n) (or2 (cS h.s h2.s) (cmpL L L2))
def mayV (v : VH × Vf) : Bool := decide (checkV v.1 v.2 = 0)
def cmpV2 (a b : VH × Vf) : Int := if mayV a = true ∧ mayV b = true then cmpH a.1 a.2 b.1 b.2 else if mayV a = mayV b then 0 else if mayV a = true then -1 else 1
abbrev Vv := VH × Vf
abbrev Bd := List UInt8 × Vv
def findB (vs : List Bd) (s : List UInt8) : Option Bd := vs.find? fun x => decide (x.1 = s)
def sameH (h h2 : VH) : Bool := decide (h.k = h2.k) && (decide (h.n = h2.n) && decide (h.s = h2.s))
def sameL : Vf → Vf → Bool
 | .nil, .nil => true
 | .cons h L r, .cons h2 L2 r2 => (sameH h h2 && sameL L L2) && sameL r r2
 | _, _ => false
def sameV (x y : Vv) : Bool := sameH x.1 y.1 && sameL x.2 y.2
theorem sameL_len : ∀ {l m : Vf}, l.len ≠ m.len → sameL l m = false
 | .nil, .nil, h => absurd rfl h
 | .nil, .cons _ _ _, _ => rfl
 | .cons _ _ _, .nil, _ => rfl
 | .cons h L r, .cons h2 L2 r2, hn => by
  unfold sameL
  rw [sameL_len (l := r) (m := r2) (fun e => hn (by show r.len + 1 = r2.len + 1; rw [e])), Bool.and_false]
theorem sameL_drop {l m : Vf} {k : Nat} {x y : Vv} (hx : l.get? k = some x) (hy : m.get? k = some y) : sameL (l.drop k) (m.drop k) = (sameV x y && sameL (l.drop (k + 1)) (m.drop (k + 1))) := by
 rw [Rose.drop_get hx, Rose.drop_get hy]; rfl
def hasP (s p : List UInt8) : Bool := if p.length ≤ s.length then s.take p.length == p else false
theorem hasPfxCt (s p : List UInt8) (F : Heap) (hs : s.length ≤ 140737488355328) (hp : p.length ≤ 140737488355328) : Ct Tryz.prog 227 [.string (bs s), .string (bs p)] F [] (fun _ _ u => u = .bool (hasP s p)) := by
 refine Ct.enter Tryz.func227 rfl Tryz.ntmps227 rfl fun w0 a S => ?_
 (revert S a; refine go 11 ?_; intro Z hZ a S)
 refine wgd S ?_ ?_
 ·(clear S; intro h S)
  (revert S a; refine go 6 ?_; intro a S)
  (refine wv S (sv_sliceS_hi S rfl rfl rfl (by first | omega | (simp only [List.length_append, List.length_cons, List.length_nil]; omega))) ?_; clear S a; intro a S)
  (revert S a; revert hZ Z; refine go 8 ?_; intro a S)
  refine wp_ret (fr1 S Tryz.results227 ?_)
  (unfold hasP; first | (rw [if_pos h]; rfl) | (rw [if_neg (by omega)]))
 (clear S a; intro h a S)
 (revert S a; revert hZ Z; refine go 9 ?_; intro a S)
 refine wp_ret (fr1 S Tryz.results227 ?_)
 (unfold hasP; first | (rw [if_pos h]; rfl) | (rw [if_neg (by omega)]))
theorem isNaN3 (x : Int) (F : Heap) : Ct Tryz.prog 258 [.int .u8 x] F [] (fun _ _ u => u = .bool false) := by
 refine Ct.enter Tryz.func258 rfl Tryz.ntmps258 rfl fun w0 a S => ?_
 (revert S a; refine go 11 ?_; intro a S)
 refine wp_ret (fr1 S Tryz.results258 ?_)
 (simp)
theorem isNaN4 (s : List UInt8) (F : Heap) : Ct Tryz.prog 260 [.string (bs s)] F [] (fun _ _ u => u = .bool false) := by
 refine Ct.enter Tryz.func260 rfl Tryz.ntmps260 rfl fun w0 a S => ?_
 (revert S a; refine go 11 ?_; intro a S)
 refine wp_ret (fr1 S Tryz.results260 ?_)
 (simp)
theorem compare3 (x y : Int) (F : Heap) : Ct Tryz.prog 243 [.int .u8 x, .int .u8 y] F [] (fun _ _ u => u = .int .i64 (cmpI x y)) := by
 refine Ct.enter Tryz.func243 rfl Tryz.ntmps243 rfl fun w0 a S => ?_
 (revert S a; refine go 6 ?_; intro Z hZ a S)
 (refine wc0 S (isNaN3 _ F) ?_; clear S a; intro v a w hv S; subst hv)
 (revert S a; revert hZ Z; refine go 5 ?_; intro Z hZ a S)
 (refine wc0 S (isNaN3 _ F) ?_; clear S a; intro v a w hv S; subst hv)
 (revert S a; revert hZ Z; refine go 8 ?_; intro Z hZ a S)
 refine wpc_split S rfl (fun h => ?_) (fun h => ?_)
 ·(skip; (try simp only [tq] at h); cases h)
 (skip; (try simp only [tq] at h))
 (revert S a; revert hZ Z; refine go 7 ?_; intro Z hZ a S)
 refine wpc_split S rfl (fun h => ?_) (fun h => ?_)
 ·(skip; (try simp only [tq] at h); cases h)
 (skip; (try simp only [tq] at h))
 (revert S a; revert hZ Z; refine go 9 ?_; intro Z hZ a S)
 refine wpc_sp S rfl ?_ ?_ <;> intro h
 ·(revert S a; refine go 4 ?_; intro a S)
  refine wp_ret (fr1 S Tryz.results243 ?_)
  (unfold cmpI; (repeat (first | rw [if_pos (by assumption)] | rw [if_neg (by omega)])))
 (revert S a; revert hZ Z; refine go 9 ?_; intro Z hZ a S)
 refine wpc_sp S rfl ?_ ?_ <;> intro h
 ·(revert S a; refine go 4 ?_; intro a S)
  refine wp_ret (fr1 S Tryz.results243 ?_)
  (unfold cmpI; (repeat (first | rw [if_pos (by assumption)] | rw [if_neg (by omega)])))
 (revert S a; revert hZ Z; refine go 6 ?_; intro a S)
 refine wp_ret (fr1 S Tryz.results243 ?_)
 (unfold cmpI; (repeat (first | rw [if_pos (by assumption)] | rw [if_neg (by omega)])))
theorem compare4 (s t : List UInt8) (F : Heap) : Ct Tryz.prog 245 [.string (bs s), .string (bs t)] F [] (fun _ _ u => u = .int .i64 (cS s t)) := by
 refine Ct.enter Tryz.func245 rfl Tryz.ntmps245 rfl fun w0 a S => ?_
 (revert S a; refine go 6 ?_; intro Z hZ a S)
 (refine wc0 S (isNaN4 _ F) ?_; clear S a; intro v a w hv S; subst hv)
 (revert S a; revert hZ Z; refine go 5 ?_; intro Z hZ a S)
 (refine wc0 S (isNaN4 _ F) ?_; clear S a; intro v a w hv S; subst hv)
 (revert S a; revert hZ Z; refine go 8 ?_; intro Z hZ a S)
 refine wpc_split S rfl (fun h => ?_) (fun h => ?_)
 ·(skip; (try simp only [tq] at h); cases h)
 (skip; (try simp only [tq] at h))
 (revert S a; revert hZ Z; refine go 7 ?_; intro Z hZ a S)
 refine wpc_split S rfl (fun h => ?_) (fun h => ?_)
 ·(skip; (try simp only [tq] at h); cases h)
 (skip; (try simp only [tq] at h))
 (revert S a; revert hZ Z; refine go 9 ?_; intro Z hZ a S)
 refine wpc_sp S rfl ?_ ?_ <;> intro h
 ·(revert S a; refine go 4 ?_; intro a S)
  refine wp_ret (fr1 S Tryz.results245 ?_)
  (unfold cS; congr 1; simp_all)
 (revert S a; revert hZ Z; refine go 6 ?_; intro Z hZ Z hZ a S)
 (refine wv S (sv_gtrS S rfl rfl rfl) ?_; clear S a; intro a S)
 (revert S a; revert hZ Z; refine go 2 ?_; intro a S)
 refine wpc_sp S rfl ?_ ?_ <;> intro h
 ·(revert S a; refine go 4 ?_; intro a S)
  refine wp_ret (fr1 S Tryz.results245 ?_)
  (unfold cS; congr 1; simp_all)
 (revert S a; revert hZ Z; refine go 6 ?_; intro a S)
 refine wp_ret (fr1 S Tryz.results245 ?_)
 (unfold cS; congr 1; simp_all)
def IntR (_ : Heap) (x : Int) (cs : List Value) : Prop := cs = [.int .i64 x]
theorem zzCm0 {p : Prop} (h : p := by (congr 1; rw [← hfp]; first | (rw [drop_at hx]; show _ = or2 x _; unfold or2; rw [if_pos (by omega)]; done) | (rw [List.drop_eq_nil_of_le (by omega)]; rfl) | trace_state)) : p := h
theorem orN (F : Heap) (v : Value) (l : List Int) (hl : l.length ≤ 10) (h : LiM F 1 IntR v l) : Ct Tryz.prog 246 [v] F [] (fun _ _ u => u = .int .i64 (l.foldr or2 0)) := by
 obtain ⟨ao, cap, rfl, hcap, hpos⟩ := h
 refine Ct.enter Tryz.func246 rfl Tryz.ntmps246 rfl fun w0 a S => ?_
 (revert S a; refine go 16 ?_; intro Z hZ a S)
 refine wpc_loop (fun m a w' => ∃ (k : Nat), m = l.length - k ∧ k ≤ l.length ∧ (l.drop k).foldr or2 0 = l.foldr or2 0 ∧ St 18 [(3, .int .i64 0), (6, .slice ao l.length cap), (7, .int .i64 l.length), (8, .int .i64 k)] w0 F [] F [] a w') ?_ ?_
 ·(refine ⟨l.length, 0, by omega, Nat.zero_le _, rfl, ?_⟩; refine S.keep ?_; exact zk)
 (clear S; rintro m a w ⟨k, rfl, hkl, hfp, S⟩)
 (revert S a; refine go 5 ?_; intro Z hZ a S)
 refine wpc_sp S rfl ?_ ?_ <;> intro h
 ·(revert S a; revert hZ Z; refine go 4 ?_; intro Z hZ a S)
  (refine wp_seq_k ?_; intro Z hZ)
  (obtain ⟨b8, o8, rfl, x, cs1, hx, hc1, rfl⟩ := LiM.pos hpos (k := k) (by omega))
  (revert S a; refine go 2 ?_; intro a S)
  (refine wv S (sv_loadF S rfl rfl (hc1 0 _ rfl)) ?_; clear S a; intro a S)
  (revert S a; revert hZ Z; refine go 9 ?_; intro a S)
  refine wpc_sp S rfl ?_ ?_ <;> intro h
  ·(revert S a; refine go 5 ?_; intro a S)
   refine wp_ret (fr1 S Tryz.results246 ?_)
   exact zzCm0
  (revert S a; revert hZ Z; refine go 6 ?_; intro a S)
  change ∃ m', _ ∧ _
  (refine ⟨l.length - (k + 1), by omega, k + 1, rfl, by omega, ?_, ?_⟩; rotate_left 1; (refine S.keep ?_; exact zk); rw [← hfp, drop_at hx]; show _ = or2 x _; unfold or2; rw [if_neg (by omega)])
 (refine wp_exit ?_; conv => whnf)
 clear hZ Z
 (revert S a; revert hZ Z; refine go 6 ?_; intro a S)
 refine wp_ret (fr1 S Tryz.results246 ?_)
 exact zzCm0
theorem hasP_dash (s : List UInt8) : hasP s [45] = decide (s.take 1 = [45]) := by
 unfold hasP
 cases s with
 | nil => rfl
 | cons c r => simp; rfl
theorem prefCt (F : Heap) (s : List UInt8) (hs : s.length ≤ 140737488355328) : Ct Tryz.prog 185 [.string (bs s), .string (bs [45])] F [] (fun _ _ u => u = .bool (decide (s.take 1 = [45]))) := by
 rw [← hasP_dash]
 refine Ct.enter Tryz.func185 rfl Tryz.ntmps185 rfl fun w0 a S => ?_
 (revert S a; refine go 7 ?_; intro Z hZ a S)
 (refine wc0 S (hasPfxCt s [45] F hs (by decide)) ?_; clear S a; intro v a w hv S; subst hv)
 (revert S a; revert hZ Z; refine go 3 ?_; intro a S)
 refine wp_ret (fr1 S Tryz.results185 ?_)
 rfl
theorem take1_len {s : List UInt8} (h : s.take 1 = [45]) : 1 ≤ s.length := by
 cases s with
 | nil => cases h
 | cons c r => simp
theorem lim2 {F : Heap} {b : Nat} {x y : Int} {e : TypeId} {R} (h : F b = some (.cells ⟨[.int .i64 x, .int .i64 y]⟩ e R)) : LiM F 1 IntR (.slice (some ⟨b, 0, none⟩) 2 2) [x, y] := by
 refine ⟨_, _, rfl, ⟨Nat.le_refl 2, show 2 ≤ _ by decide⟩, fun _ => ⟨b, 0, rfl, fun k z hz => ?_⟩⟩
 match k, hz with
 | 0, hz => cases hz; exact ⟨_, fun j u hj => ⟨_, _, _, h, by match j, hj with | 0, hj => exact hj⟩, rfl, rfl⟩
 | 1, hz => cases hz; exact ⟨_, fun j u hj => ⟨_, _, _, h, by match j, hj with | 0, hj => exact hj⟩, rfl, rfl⟩
theorem lim3 {F : Heap} {b : Nat} {x y z : Int} {e : TypeId} {R} (h : F b = some (.cells ⟨[.int .i64 x, .int .i64 y, .int .i64 z]⟩ e R)) : LiM F 1 IntR (.slice (some ⟨b, 0, none⟩) 3 3) [x, y, z] := by
 refine ⟨_, _, rfl, ⟨Nat.le_refl 3, show 3 ≤ _ by decide⟩, fun _ => ⟨b, 0, rfl, fun k z hz => ?_⟩⟩
 match k, hz with
 | 0, hz => cases hz; exact ⟨_, fun j u hj => ⟨_, _, _, h, by match j, hj with | 0, hj => exact hj⟩, rfl, rfl⟩
 | 1, hz => cases hz; exact ⟨_, fun j u hj => ⟨_, _, _, h, by match j, hj with | 0, hj => exact hj⟩, rfl, rfl⟩
 | 2, hz => cases hz; exact ⟨_, fun j u hj => ⟨_, _, _, h, by match j, hj with | 0, hj => exact hj⟩, rfl, rfl⟩
theorem or2_z (x : Int) : or2 x 0 = x := by unfold or2; split <;> omega
theorem zzCm1 {p : Prop} (h : p := by (congr 1; show _ = (if s.take 1 = [45] ∧ t.take 1 = [45] then bigC n (t.drop 1) (s.drop 1) else if s.take 1 = [45] then -1 else if t.take 1 = [45] then 1 else or2 (cI s.length t.length) (cS s t)); first | (rw [if_pos (show s.take 1 = [45] ∧ t.take 1 = [45] from ⟨by assumption, by assumption⟩)]; done) | (rw [if_neg (by simp_all), if_pos (by assumption)]; done) | (rw [if_neg (by simp_all), if_neg (by simp_all), if_pos (by assumption)]; done) | (rw [if_neg (by simp_all), if_neg (by simp_all), if_neg (by simp_all)]; show or2 _ (or2 _ 0) = _; rw [or2_z]; rfl) | trace_state)) : p := h
theorem bigsCt : ∀ (n : Nat) (F : Heap) (s t : List UInt8), s.length + t.length < n → s.length ≤ 140737488355328 → t.length ≤ 140737488355328 → Ct Tryz.prog 244 [.string (bs s), .string (bs t)] F [] (fun _ _ u => u = .int .i64 (bigC n s t)) := by
 intro n
 induction n with
 | zero => intro F s t h; omega
 | succ n ih =>
 intro F s t hn hs ht
 have hps := prefCt F s hs
 have hpt := prefCt F t ht
 refine Ct.enter Tryz.func244 rfl Tryz.ntmps244 rfl fun w0 a S => ?_
 (revert S a; refine go 6 ?_; intro Z hZ a S)
 (refine wc0 S hps ?_; clear S a; intro v a w hv S; subst hv)
 (revert S a; refine go 1 ?_; intro a S)
 (refine wc0 S hpt ?_; clear S a; intro v a w hv S; subst hv)
 (revert S a; revert hZ Z; refine go 9 ?_; intro Z hZ Z hZ a S)
 refine wgd S ?_ ?_
 ·(clear S; intro h S)
  (revert S a; revert hZ Z; refine go 5 ?_; intro a S)
  refine wpc_sp S rfl ?_ ?_ <;> intro h
  ·(refine wp_seq_k ?_; intro Z hZ)
   (have l1 := take1_len (by assumption : s.take 1 = [45]); have l2 := take1_len (by assumption : t.take 1 = [45]))
   (refine wpc_mixM [0, 1, 2, 3] [] [] (.one 0 (.one 1 (.one 2 (.one 3 (.one 4 (.one 5 .nil)))))) [] S mixed (by kernel_rfl) ?_; clear S; intro w S)
   (revert S a; refine go 1 ?_; intro a S)
   (refine wpm_v S rfl rfl rfl (want_none _ rfl) rfl rfl (fun w' S => sv_sliceS_lo S rfl rfl rfl (by first | omega | (simp only [List.length_append, List.length_cons, List.length_nil]; omega))) ?_; clear S a; intro a S)
   (revert S a; refine go 1 ?_; intro a S)
   (refine wpm_v S rfl rfl rfl (want_none _ rfl) rfl rfl (fun w' S => sv_sliceS_lo S rfl rfl rfl (by first | omega | (simp only [List.length_append, List.length_cons, List.length_nil]; omega))) ?_; clear S a; intro a S)
   refine wpm_eff rfl rfl (kwa S) ?_
   (refine wc0 S (ih F (t.drop 1) (s.drop 1) (by simp; omega) (by simp; omega) (by simp; omega)) ?_; clear S a; intro v a w hv S; subst hv)
   (revert S a; revert hZ Z; refine go 6 ?_; intro a S)
   refine wp_ret (fr1 S Tryz.results244 ?_)
   exact zzCm1
  (revert S a; refine go 5 ?_; intro a S)
  refine wpc_sp S rfl ?_ ?_ <;> intro h
  ·(revert S a; refine go 4 ?_; intro a S)
   refine wp_ret (fr1 S Tryz.results244 ?_)
   exact zzCm1
  (revert S a; refine go 5 ?_; intro a S)
  refine wpc_sp S rfl ?_ ?_ <;> intro h
  ·(revert S a; refine go 4 ?_; intro a S)
   refine wp_ret (fr1 S Tryz.results244 ?_)
   exact zzCm1
  (revert S a; revert hZ Z; refine go 7 ?_; intro Z hZ a S)
  (refine wc0 S (compare1 _ _ F) ?_; clear S a; intro v a w hv S; subst hv)
  (revert S a; refine go 2 ?_; intro a S)
  (refine wc0 S (compare4 s t F) ?_; clear S a; intro v a w hv S; subst hv)
  (refine wpl_buildSlice S rfl rfl rfl rfl rfl rfl (by rfl) (by simp [Value.cells, splice, splice]) rfl (by rfl) (by rfl) ?_; clear S a; intro b33 a w hown S)
  (replace S := St.pullB b33 S; have S' := frz1 S; clear S; obtain ⟨F5, hle5, hb33, S⟩ := S'; refine wc0 S (orN F5 _ [cmpI s.length t.length, cS s t] (show 2 ≤ 10 by decide) (lim2 hb33)) ?_; clear S a; intro v a w hv S; subst hv)
  (revert S a; revert hZ Z; refine go 3 ?_; intro a S)
  refine wp_ret (fr1 S Tryz.results244 ?_)
  exact zzCm1
 (clear S a; intro h a S)
 (revert S a; revert hZ Z; refine go 4 ?_; intro a S)
 refine wpc_false S rfl ?_
 (revert S a; refine go 5 ?_; intro a S)
 refine wpc_sp S rfl ?_ ?_ <;> intro h
 ·(revert S a; refine go 4 ?_; intro a S)
  refine wp_ret (fr1 S Tryz.results244 ?_)
  exact zzCm1
 (revert S a; refine go 5 ?_; intro a S)
 refine wpc_sp S rfl ?_ ?_ <;> intro h
 ·(revert S a; refine go 4 ?_; intro a S)
  refine wp_ret (fr1 S Tryz.results244 ?_)
  exact zzCm1
 (revert S a; revert hZ Z; refine go 7 ?_; intro Z hZ a S)
 (refine wc0 S (compare1 _ _ F) ?_; clear S a; intro v a w hv S; subst hv)
 (revert S a; refine go 2 ?_; intro a S)
 (refine wc0 S (compare4 s t F) ?_; clear S a; intro v a w hv S; subst hv)
 (refine wpl_buildSlice S rfl rfl rfl rfl rfl rfl (by rfl) (by simp [Value.cells, splice, splice]) rfl (by rfl) (by rfl) ?_; clear S a; intro b33 a w hown S)
 (replace S := St.pullB b33 S; have S' := frz1 S; clear S; obtain ⟨F5, hle5, hb33, S⟩ := S'; refine wc0 S (orN F5 _ [cmpI s.length t.length, cS s t] (show 2 ≤ 10 by decide) (lim2 hb33)) ?_; clear S a; intro v a w hv S; subst hv)
 (revert S a; revert hZ Z; refine go 3 ?_; intro a S)
 refine wp_ret (fr1 S Tryz.results244 ?_)
 exact zzCm1
def CmpC (n : Nat) : Prop := ∀ (F : Heap) (h : VH) (L : Vf) (h2 : VH) (L2 : Vf) (cs cs2 : List Value), L.size < n → VaC F cs h L → VaC F cs2 h2 L2 → Ct Tryz.prog 219 [.agg ⟨cs⟩, .agg ⟨cs2⟩] F [] (fun _ _ u => u = .int .i64 (cmpH h L h2 L2))
theorem rows1Ct {n : Nat} (hC : CmpC n) (F : Heap) (h : VH) (L : Vf) (h2 : VH) (L2 : Vf) (cs cs2 : List Value) (hn : L.size < n) (hV : VaC F cs h L) (hV2 : VaC F cs2 h2 L2) : Ct Tryz.prog 218 [.agg ⟨cs⟩, .agg ⟨cs2⟩] F [] (fun _ _ u => u = .int .i64 (cmpH h L h2 L2)) := by
 have hc := hC F h L h2 L2 cs cs2 hn hV hV2
 obtain ⟨v1, rfl, ⟨a1, c1, rfl, -⟩, -⟩ := hV
 obtain ⟨v2, rfl, ⟨a2, c2, rfl, -⟩, -⟩ := hV2
 refine Ct.enter Tryz.func218 rfl Tryz.ntmps218 rfl fun w0 a S => ?_
 refine wp_sr fun Z hZ => ?_
 (refine wbx S ?_; clear S a; intro b2 a w S)
 (refine wbx S ?_; clear S a; intro b3 a w S)
 (revert S a; revert hZ Z; refine go 6 ?_; intro Z hZ a S)
 (refine wc0 S (hc) ?_; clear S a; intro v a w hv S; subst hv)
 (revert S a; revert hZ Z; refine go 3 ?_; intro a S)
 refine wp_ret (fr1 S Tryz.results218 ?_)
 rfl
theorem cmpL_drop {l m : Vf} {k : Nat} {x y : VH × Vf} (hx : l.get? k = some x) (hy : m.get? k = some y) : cmpL (l.drop k) (m.drop k) = or2 (cmpH x.1 x.2 y.1 y.2) (cmpL (l.drop (k + 1)) (m.drop (k + 1))) := by
 rw [Rose.drop_get hx, Rose.drop_get hy]; rfl
theorem cmpL_lend {l m : Vf} {k : Nat} {x : VH × Vf} (hx : l.get? k = some x) (hm : m.len ≤ k) : cmpL (l.drop k) (m.drop k) = 1 := by
 rw [Rose.drop_get hx, Rose.drop_len hm]; rfl
theorem cmpL_end {l m : Vf} {k : Nat} (hl : l.len ≤ k) : cmpL (l.drop k) (m.drop k) = if k < m.len then -1 else 0 := by
 rw [Rose.drop_len hl]
 by_cases hm : k < m.len
 ·obtain ⟨y, hy⟩ := Rose.get_lt hm
  rw [Rose.drop_get hy, if_pos hm]; rfl
 ·rw [Rose.drop_len (by omega), if_neg hm]; rfl
theorem zzCm2 {p : Prop} (h : p := by (congr 1; rw [← hfp]; first | (rw [cmpL_lend hx (by omega)]; done) | (rw [cmpL_drop hx hy]; unfold or2; rw [if_pos (by omega)]; done) | (rw [cmpL_end (by omega), if_pos (by omega)]; done) | (rw [cmpL_end (by omega), if_neg (by omega)]; done) | trace_state)) : p := h
theorem cfCt {n : Nat} (hC : CmpC n) (F : Heap) (l m : Vf) (v u : Value) (hn : l.size ≤ n) (hv : TrS F 4 VhR v l) (hu : TrS F 4 VhR u m) : Ct Tryz.prog 217 [v, u, .func (.func 218) ⟨[]⟩ ⟨[]⟩] F [] (fun _ _ u => u = .int .i64 (cmpL l m)) := by
 obtain ⟨ao, cap, rfl, hcap, hpos⟩ := hv
 obtain ⟨ao2, cap2, rfl, hcap2, hpos2⟩ := hu
 refine Ct.enter Tryz.func217 rfl Tryz.ntmps217 rfl fun w0 a S => ?_
 (revert S a; refine go 12 ?_; intro Z hZ a S)
 refine wpc_loop (fun q a w' => ∃ (k : Nat), q = l.len - k ∧ k ≤ l.len ∧ cmpL (l.drop k) (m.drop k) = cmpL l m ∧ St 39 [(0, .slice ao l.len cap), (1, .slice ao2 m.len cap2), (2, .func (.func 218) ⟨[]⟩ ⟨[]⟩), (11, .slice ao l.len cap), (12, .int .i64 l.len), (13, .int .i64 k)] w0 F [] F [] a w') ?_ ?_
 ·(refine ⟨l.len, 0, by omega, Nat.zero_le _, rfl, ?_⟩; refine S.keep ?_; exact zk)
 (clear S; rintro q a w ⟨k, rfl, hkl, hfp, S⟩)
 (revert S a; refine go 5 ?_; intro Z hZ a S)
 refine wpc_sp S rfl ?_ ?_ <;> intro h
 ·(revert S a; revert hZ Z; refine go 4 ?_; intro Z hZ a S)
  (refine wp_seq_k ?_; intro Z hZ)
  (obtain ⟨b8, o8, hao, x, cs1, v1, hx, hc1, hw9, hT1⟩ := TrM.pos hpos (k := k) (by omega); rw [hao] at S; have hxs := Rose.size_get hx; have hT1c := hT1; obtain ⟨a91, c91, rfl, -⟩ := hT1c; have hw9c := hw9.1; subst hw9c; (simp only [List.cons_append, List.nil_append] at hc1))
  (revert S a; refine go 4 ?_; intro a S)
  (refine wpl_alloc S rfl rfl rfl rfl ?_; clear S a; intro b8 a w S)
  (revert S a; refine go 1 ?_; intro a S)
  (refine wso S rfl rfl ?_; clear S; intro w S)
  (revert S a; revert hZ Z; refine go 10 ?_; intro Z hZ a S)
  refine wpc_sp S rfl ?_ ?_ <;> intro h
  ·(revert S a; refine go 4 ?_; intro a S)
   refine wp_ret (fr1 S Tryz.results217 ?_)
   exact zzCm2
  refine wp_skip ?_
  (refine hZ _ _ ?_; clear hZ Z)
  (refine wp_seq_k ?_; intro Z hZ)
  (obtain ⟨b9, o9, hao2, y, cs2, v2, hy, hc2, hw8, hT2⟩ := TrM.pos hpos2 (k := k) (by omega); rw [hao2] at S; have hT2c := hT2; obtain ⟨a92, c92, rfl, -⟩ := hT2c; have hw8c := hw8.1; subst hw8c; (simp only [List.cons_append, List.nil_append] at hc2))
  (revert S a; refine go 5 ?_; intro a S)
  (refine wpl_alloc S rfl rfl rfl rfl ?_; clear S a; intro b9 a w S)
  (refine wso S rfl rfl ?_; clear S; intro w S)
  (revert S a; revert hZ Z; refine go 6 ?_; intro Z hZ a S)
  (refine wc0 S (rows1Ct hC F x.1 x.2 y.1 y.2 _ _ (by omega) ⟨_, rfl, hT1, hw9.2⟩ ⟨_, rfl, hT2, hw8.2⟩) ?_; clear S a; intro v a w hv S; subst hv)
  (revert S a; revert hZ Z; refine go 8 ?_; intro a S)
  refine wpc_sp S rfl ?_ ?_ <;> intro h
  ·(revert S a; refine go 5 ?_; intro a S)
   refine wp_ret (fr1 S Tryz.results217 ?_)
   exact zzCm2
  (revert S a; revert hZ Z; refine go 6 ?_; intro a S)
  change ∃ m', _ ∧ _
  (rw [← hao, ← hao2] at S; replace S := S.drop1.drop1; refine ⟨l.len - (k + 1), by omega, k + 1, rfl, by omega, ?_, ?_⟩; rotate_left 1; (refine S.keep ?_; exact zk); rw [← hfp, cmpL_drop hx hy]; unfold or2; rw [if_neg (by omega)])
 (refine wp_exit ?_; conv => whnf)
 clear hZ Z
 (revert S a; revert hZ Z; refine go 10 ?_; intro Z hZ a S)
 refine wpc_sp S rfl ?_ ?_ <;> intro h
 ·(revert S a; refine go 4 ?_; intro a S)
  refine wp_ret (fr1 S Tryz.results217 ?_)
  exact zzCm2
 (revert S a; revert hZ Z; refine go 6 ?_; intro a S)
 refine wp_ret (fr1 S Tryz.results217 ?_)
 exact zzCm2
theorem rowsCt {n : Nat} (hC : CmpC n) (F : Heap) (l m : Vf) (v u : Value) (hn : l.size ≤ n) (hv : TrS F 4 VhR v l) (hu : TrS F 4 VhR u m) : Ct Tryz.prog 165 [v, u] F [] (fun _ _ u => u = .int .i64 (cmpL l m)) := by
 have hc := cfCt hC F l m v u hn hv hu
 obtain ⟨ao, cap, rfl, hcap, hpos⟩ := hv
 obtain ⟨ao2, cap2, rfl, hcap2, hpos2⟩ := hu
 refine Ct.enter Tryz.func165 rfl Tryz.ntmps165 rfl fun w0 a S => ?_
 (revert S a; refine go 7 ?_; intro Z hZ a S)
 (refine wc0 S (hc) ?_; clear S a; intro v a w hv S; subst hv)
 (revert S a; revert hZ Z; refine go 3 ?_; intro a S)
 refine wp_ret (fr1 S Tryz.results165 ?_)
 rfl
theorem cmpI_ne {a b : Nat} : cmpI (a : Int) (b : Int) ≠ 0 ↔ a ≠ b := by unfold cmpI; split <;> (try split) <;> omega
theorem zzCm3 {p : Prop} (h : p := by (congr 1; unfold cmpH; first | (rw [if_pos (cmpI_ne.1 (by assumption))]; rfl) | (have hk : ¬ vh.k ≠ vh2.k := (fun h9 => absurd (cmpI_ne.2 h9) (by omega)); rw [if_neg hk]; first | (rw [if_pos (by omega)]; rfl) | (rw [if_neg (by omega), if_pos (by omega)]; done) | (rw [if_neg (by omega), if_neg (by omega)]; show or2 _ (or2 _ (or2 _ 0)) = _; rw [or2_z]; rfl)) | trace_state)) : p := h
theorem cmpCt : ∀ n, CmpC n := by
 intro n
 induction n with
 | zero => intro F h L h2 L2 cs cs2 hn; omega
 | succ n ih =>
 intro F vh L vh2 L2 cs cs2 hn hV hV2
 obtain ⟨v1, rfl, hT1, hs1⟩ := hV
 obtain ⟨v2, rfl, hT2, hs2⟩ := hV2
 have hr := rowsCt ih F L L2 v1 v2 (by omega) hT1 hT2
 obtain ⟨a1, c1, rfl, -⟩ := hT1
 obtain ⟨a2, c2, rfl, -⟩ := hT2
 refine Ct.enter Tryz.func219 rfl Tryz.ntmps219 rfl fun w0 a S => ?_
 refine wp_sr fun Z hZ => ?_
 (refine wbx S ?_; clear S a; intro b2 a w S)
 (refine wbx S ?_; clear S a; intro b3 a w S)
 (revert S a; revert hZ Z; refine go 9 ?_; intro Z hZ Z hZ a S)
 (refine wc0 S (compare3 _ _ F) ?_; clear S a; intro v a w hv S; subst hv)
 (revert S a; revert hZ Z; refine go 8 ?_; intro a S)
 refine wpc_sp S rfl ?_ ?_ <;> intro h
 ·(revert S a; refine go 5 ?_; intro a S)
  refine wp_ret (fr1 S Tryz.results219 ?_)
  exact zzCm3
 (revert S a; revert hZ Z; refine go 14 ?_; intro Z hZ a S)
 refine wpc_sp S rfl ?_ ?_ <;> intro h
 ·(revert S a; refine go 5 ?_; intro Z hZ a S)
  (refine wc0 S (bigsCt (vh.s.length + vh2.s.length + 1) F vh.s vh2.s (by omega) hs1 hs2) ?_; clear S a; intro v a w hv S; subst hv)
  (revert S a; revert hZ Z; refine go 3 ?_; intro a S)
  refine wp_ret (fr1 S Tryz.results219 ?_)
  exact zzCm3
 (revert S a; refine go 5 ?_; intro a S)
 refine wpc_sp S rfl ?_ ?_ <;> intro h
 ·(revert S a; refine go 5 ?_; intro Z hZ a S)
  (refine wc0 S (compare4 vh.s vh2.s F) ?_; clear S a; intro v a w hv S; subst hv)
  (revert S a; revert hZ Z; refine go 3 ?_; intro a S)
  refine wp_ret (fr1 S Tryz.results219 ?_)
  exact zzCm3
 refine wp_skip ?_
 (refine hZ _ _ ?_; clear hZ Z)
 (refine wp_seq_k ?_; intro Z hZ)
 (refine wpc_mixM [0, 1, 2, 3, 5, 6, 7, 8, 10, 11, 12, 13] [1, 3, 6, 8, 11, 13] [] (.one 0 (.one 1 (.one 2 (.one 3 (.one 5 (.one 6 (.one 7 (.one 8 (.one 10 (.one 11 (.one 12 (.one 13 (.one 4 (.one 9 (.one 14 (.one 15 (.one 16 (.one 17 .nil)))))))))))))))))) [b2, b3] S mixed (by kernel_rfl) ?_; clear S; intro w S)
 (revert S a; refine go 13 ?_; intro a S)
 (refine wc0 S (compare2 _ _ F) ?_; clear S a; intro v a w hv S; subst hv)
 (revert S a; refine go 2 ?_; intro a S)
 (refine wc0 S (compare4 vh.s vh2.s F) ?_; clear S a; intro v a w hv S; subst hv)
 (revert S a; refine go 2 ?_; intro a S)
 (refine wc0 S (hr) ?_; clear S a; intro v a w hv S; subst hv)
 (revert S a; refine go 2 ?_; intro a S)
 (refine wpl_buildSlice S rfl rfl rfl rfl rfl rfl (by rfl) (by simp [Value.cells, splice, splice]) rfl (by rfl) (by rfl) ?_; clear S a; intro b45 a w hown S)
 (revert S a; refine go 2 ?_; intro a S)
 (replace S := St.pullB b45 S; have S' := frz1 S; clear S; obtain ⟨F5, hle5, hb45, S⟩ := S'; refine wc0 S (orN F5 _ [cmpI vh.n vh2.n, cS vh.s vh2.s, cmpL L L2] (show 3 ≤ 10 by decide) (lim3 hb45)) ?_; clear S a; intro v a w hv S; subst hv)
 (revert S a; revert hZ Z; refine go 6 ?_; intro a S)
 refine wp_ret (fr1 S Tryz.results219 ?_)
 exact zzCm3
theorem may1Ct (F : Heap) (h : VH) (L : Vf) (cs : List Value) (hV : VaC F cs h L) : Ct Tryz.prog 216 [.agg ⟨cs⟩] F [] (fun _ _ u => u = .bool (!mayV (h, L))) := by
 have hc := checkUCt F h L cs hV
 obtain ⟨v1, rfl, ⟨a1, c1, rfl, -⟩, -⟩ := hV
 refine Ct.enter Tryz.func216 rfl Tryz.ntmps216 rfl fun w0 a S => ?_
 refine wp_sr fun Z hZ => ?_
 (refine wbx S ?_; clear S a; intro b1 a w S)
 (revert S a; revert hZ Z; refine go 5 ?_; intro Z hZ a S)
 (refine wc0 S (hc) ?_; clear S a; intro v a w hv S; subst hv)
 (revert S a; revert hZ Z; refine go 4 ?_; intro a S)
 refine wp_ret (fr1 S Tryz.results216 ?_)
 rfl
def mayL (l : Vf) : Bool := !anyR (fun h L => !mayV (h, L)) l
theorem mayUCt (F : Heap) (l : Vf) (v : Value) (h : TrS F 4 VhR v l) : Ct Tryz.prog 163 [v] F [] (fun _ _ u => u = .bool (mayL l)) := by
 have hc := cfVCt F v l.len _ h.sq 216 [] [] (fun k => match l.get? k with | some x => !mayV x | none => false) (fun k cs hk ⟨x, c1, u, hx, hcs, hR, hT⟩ => by
  rw [hx]
  exact may1Ct F x.1 x.2 cs (ror_vac ⟨c1, u, hcs, by rw [hR.1]; rfl, hR, hT⟩))
 rw [anyN_rose (q := fun h L => !mayV (h, L)) (fun k x hx => by rw [hx])] at hc
 obtain ⟨a1, c1, rfl, -⟩ := h
 refine Ct.enter Tryz.func163 rfl Tryz.ntmps163 rfl fun w0 a S => ?_
 (revert S a; refine go 6 ?_; intro Z hZ a S)
 (refine wc0 S (hc) ?_; clear S a; intro v a w hv S; subst hv)
 (revert S a; revert hZ Z; refine go 4 ?_; intro a S)
 refine wp_ret (fr1 S Tryz.results163 ?_)
 rfl
theorem zzCm4 {p : Prop} (h : p := by (first | (rw [if_pos (by assumption)]; done) | (rw [if_neg (by assumption), if_pos (by assumption)]; done) | (rw [if_neg (by assumption), if_neg (by simp_all)]; done) | trace_state)) : p := h
theorem lastCt (F : Heap) (p q : Bool) : Ct Tryz.prog 164 [.bool p, .bool q] F [] (fun _ _ u => u = .int .i64 (if p = q then 0 else if p = true then -1 else 1)) := by
 refine Ct.enter Tryz.func164 rfl Tryz.ntmps164 rfl fun w0 a S => ?_
 (revert S a; refine go 13 ?_; intro Z hZ a S)
 refine wpc_sp S rfl ?_ ?_ <;> intro h
 ·(revert S a; refine go 4 ?_; intro a S)
  refine wp_ret (fr1 S Tryz.results164 ?_)
  exact zzCm4
 (revert S a; refine go 5 ?_; intro a S)
 refine wpc_sp S rfl ?_ ?_ <;> intro h
 ·(revert S a; refine go 4 ?_; intro a S)
  refine wp_ret (fr1 S Tryz.results164 ?_)
  exact zzCm4
 (revert S a; revert hZ Z; refine go 6 ?_; intro a S)
 refine wp_ret (fr1 S Tryz.results164 ?_)
 exact zzCm4
theorem zzCm5 {p : Prop} (h : p := by (congr 1; first | (rw [if_pos (show mayL l = true ∧ mayL m = true by simp_all)]; done) | (rw [if_neg (show ¬ (mayL l = true ∧ mayL m = true) by simp_all)]; done) | trace_state)) : p := h
theorem cmpRowsCt (F : Heap) (l m : Vf) (v u : Value) (hv : TrS F 4 VhR v l) (hu : TrS F 4 VhR u m) : Ct Tryz.prog 106 [v, u] F [] (fun _ _ u => u = .int .i64 (if mayL l = true ∧ mayL m = true then cmpL l m else if mayL l = mayL m then 0 else if mayL l = true then -1 else 1)) := by
 have h1 := mayUCt F l v hv
 have h2 := mayUCt F m u hu
 have h3 := rowsCt (cmpCt l.size) F l m v u (Nat.le_refl _) hv hu
 obtain ⟨a1, c1, rfl, -⟩ := hv
 obtain ⟨a2, c2, rfl, -⟩ := hu
 refine Ct.enter Tryz.func106 rfl Tryz.ntmps106 rfl fun w0 a S => ?_
 (revert S a; refine go 7 ?_; intro Z hZ Z hZ a S)
 (refine wc0 S h1 ?_; clear S a; intro v a w hv S; subst hv)
 (revert S a; refine go 1 ?_; intro a S)
 (refine wc0 S h2 ?_; clear S a; intro v a w hv S; subst hv)
 (revert S a; revert hZ Z; refine go 8 ?_; intro Z hZ a S)
 refine wgd S ?_ ?_
 ·(clear S; intro h S)
  (revert S a; revert hZ Z; refine go 6 ?_; intro a S)
  refine wpc_sp S rfl ?_ ?_ <;> intro h
  ·(revert S a; refine go 3 ?_; intro Z hZ a S)
   (refine wc0 S (lastCt F _ _) ?_; clear S a; intro v a w hv S; subst hv)
   (revert S a; revert hZ Z; refine go 3 ?_; intro a S)
   refine wp_ret (fr1 S Tryz.results106 ?_)
   exact zzCm5
  (revert S a; revert hZ Z; refine go 5 ?_; intro Z hZ a S)
  (refine wc0 S (h3) ?_; clear S a; intro v a w hv S; subst hv)
  (revert S a; revert hZ Z; refine go 3 ?_; intro a S)
  refine wp_ret (fr1 S Tryz.results106 ?_)
  exact zzCm5
 (clear S a; intro h a S)
 (revert S a; revert hZ Z; refine go 4 ?_; intro a S)
 refine wpc_true S rfl ?_
 (revert S a; refine go 3 ?_; intro Z hZ a S)
 (refine wc0 S (lastCt F _ _) ?_; clear S a; intro v a w hv S; subst hv)
 (revert S a; revert hZ Z; refine go 3 ?_; intro a S)
 refine wp_ret (fr1 S Tryz.results106 ?_)
 exact zzCm5
theorem mayL1 (h : VH) (L : Vf) : mayL (.cons h L .nil) = mayV (h, L) := by
 unfold mayL anyR anyR
 rw [Bool.or_false, Bool.not_not]
theorem cmpUCt (F : Heap) (x y : Vv) (cx cy : List Value) (hx : VaC F cx x.1 x.2) (hy : VaC F cy y.1 y.2) : Ct Tryz.prog 60 [.agg ⟨cx⟩, .agg ⟨cy⟩] F [] (fun _ _ u => u = .int .i64 (cmpV2 x y)) := by
 have ex := vac_ror hx
 have ey := vac_ror hy
 obtain ⟨v1, rfl, ⟨a1, c1, rfl, -⟩, -⟩ := hx
 obtain ⟨v2, rfl, ⟨a2, c2, rfl, -⟩, -⟩ := hy
 refine Ct.enter Tryz.func60 rfl Tryz.ntmps60 rfl fun w0 a S => ?_
 refine wp_sr fun Z hZ => ?_
 (refine wbx S ?_; clear S a; intro b2 a w S)
 (refine wbx S ?_; clear S a; intro b3 a w S)
 (revert S a; revert hZ Z; refine go 5 ?_; intro Z hZ a S)
 (refine wpl_buildSlice S rfl rfl rfl rfl rfl rfl (by rfl) (by simp [Value.cells, splice, splice]) rfl (by rfl) (by rfl) ?_; clear S a; intro b6 a w hown S)
 (revert S a; refine go 1 ?_; intro a S)
 (refine wpl_buildSlice S rfl rfl rfl rfl rfl rfl (by rfl) (by simp [Value.cells, splice, splice]) rfl (by rfl) (by rfl) ?_; clear S a; intro b8 a w hown S)
 (replace S := St.pullB b6 S; replace S := St.pullB b8 S; have S' := frzAll [(b8, _), (b6, _)] S; clear S; obtain ⟨F5, hle5, hbl, S⟩ := S'; have h6 := hbl _ (List.mem_cons_of_mem _ (List.mem_cons_self ..)); have h8 := hbl _ (List.mem_cons_self ..); have t6 : TrS F5 4 VhR (.slice (some ⟨b6, 0, none⟩) 1 1) (.cons x.1 x.2 .nil) := trs_lim (l := [x]) (lim_of (l := [x]) h6 (LiC.one rfl (Mon.h hle5 ex)) (show 1 ≤ _ by decide)); have t8 : TrS F5 4 VhR (.slice (some ⟨b8, 0, none⟩) 1 1) (.cons y.1 y.2 .nil) := trs_lim (l := [y]) (lim_of (l := [y]) h8 (LiC.one rfl (Mon.h hle5 ey)) (show 1 ≤ _ by decide)); refine wc0 S (cmpRowsCt F5 _ _ _ _ t6 t8) ?_; clear S a; intro v a w hv S; subst hv)
 (revert S a; revert hZ Z; refine go 3 ?_; intro a S)
 refine wp_ret (fr1 S Tryz.results60 ?_)
 (congr 1; rw [mayL1, mayL1]; unfold cmpV2; rw [show cmpL (.cons x.1 x.2 .nil) (.cons y.1 y.2 .nil) = cmpH x.1 x.2 y.1 y.2 from or2_z _])
theorem VH.ext' {a b : VH} (h1 : a.k = b.k) (h2 : a.n = b.n) (h3 : a.s = b.s) : a = b := by
 cases a; cases b; cases h1; cases h2; cases h3; rfl
def mtH (ih : Vf → List Bd → Option (List Bd)) (h : EH) (n : Nat) (v : Vv) (l : List Bd) : Option (List Bd) :=
 if h.k = 3 then some l
 else if h.k = 1 then (if cmpV2 (h.v, h.vl) v = 0 then some l else none)
 else if h.k = 2 then (match findB l h.nm with | some b => if cmpV2 b.2 v = 0 then some l else none | none => some (l ++ [(h.nm, v)]))
 else if (h.k = 4 ∧ v.1.k ≠ 5) ∨ (h.k = 5 ∧ (v.1.k ≠ 6 ∨ v.1.s ≠ h.nm)) ∨ n ≠ v.2.len then none else ih v.2 l
def mtL : Ef → Vf → List Bd → Option (List Bd)
 | .nil, _, l => some l
 | .cons h L r, .cons v VL w, l => (mtH (mtL L) h L.len (v, VL) l).bind (mtL r w)
 | .cons _ _ _, .nil, l => none
def mtE (h : EH) (L : Ef) (v : Vv) (l : List Bd) : Option (List Bd) := mtH (mtL L) h L.len v l
theorem mtL_cons (h : EH) (L r : Ef) (v : VH) (VL w : Vf) (l : List Bd) : mtL (.cons h L r) (.cons v VL w) l = (mtE h L (v, VL) l).bind (mtL r w) := rfl
end Go.Proofs.YthnafdbebniapaaGreatDoor
