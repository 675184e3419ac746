/- Walks. -/
import Derived.Test.YtgefmjghdijbfaaGreatDoorQ11
import Derived.Test.YtgefmjghdijbfaaGreatDoorQ07
import Derived.Test.YtgefmjghdijbfaaGreatDoorQ08
import Derived.Test.YtgefmjghdijbfaaGreatDoorQ09
import Derived.Test.YtgefmjghdijbfaaGreatDoorQTy
import Derived.ScopeJumps
import Derived.WalkKit
import Derived.LaidEql
import Derived.Stop.Asserts
import Derived.RowKitTokens
set_option maxHeartbeats 8000000
namespace Go.Proofs.YtgefmjghdijbfaaGreatDoor
open Go Go.Wk Go.Un Go.De
set_option linter.unusedSimpArgs false
set_option linter.unusedVariables false
attribute [local irreducible] Go.wpList Go.Code.wp Go.wpStill Go.Wk.wpPre Go.bodyPost Go.Calls Go.Wk.Ct Go.Wk.OwnS Go.Wk.wpG Go.Wk.wpM
theorem isNaN3 (x : Int) (F : Heap) : Ct Tryz.prog 264 [.int .u8 x] F [] (fun _ _ u => u = .bool false) := by
 refine Ct.enter Tryz.func264 rfl Tryz.ntmps264 rfl fun w0 a S => ?_
 (revert S a; refine go 11 ?_; intro a S)
 refine wp_ret (fr1 S Tryz.results264 ?_)
 (simp)
theorem isNaN4 (s : List UInt8) (F : Heap) : Ct Tryz.prog 265 [.string (bs s)] F [] (fun _ _ u => u = .bool false) := by
 refine Ct.enter Tryz.func265 rfl Tryz.ntmps265 rfl fun w0 a S => ?_
 (revert S a; refine go 11 ?_; intro a S)
 refine wp_ret (fr1 S Tryz.results265 ?_)
 (simp)
theorem compare3 (x y : Int) (F : Heap) : Ct Tryz.prog 248 [.int .u8 x, .int .u8 y] F [] (fun _ _ u => u = .int .i64 (cmpI x y)) := by
 refine Ct.enter Tryz.func248 rfl Tryz.ntmps248 rfl fun w0 a S => ?_
 (revert S a; refine go 6 ?_; intro Z hZ a S)
 (refine wc0 S (isNaN3 _ F) ?_; clear S a; intro v a w hv S; subst hv)
 (revert S a; revert hZ Z; refine go 5 ?_; intro Z hZ a S)
 (refine wc0 S (isNaN3 _ F) ?_; clear S a; intro v a w hv S; subst hv)
 (revert S a; revert hZ Z; refine go 8 ?_; intro Z hZ a S)
 refine wpc_split S rfl (fun h => ?_) (fun h => ?_)
 ·(skip; (try simp only [tq] at h); cases h)
 (skip; (try simp only [tq] at h))
 (revert S a; revert hZ Z; refine go 7 ?_; intro Z hZ a S)
 refine wpc_split S rfl (fun h => ?_) (fun h => ?_)
 ·(skip; (try simp only [tq] at h); cases h)
 (skip; (try simp only [tq] at h))
 (revert S a; revert hZ Z; refine go 9 ?_; intro Z hZ a S)
 refine wpc_sp S rfl ?_ ?_ <;> intro h
 ·(revert S a; refine go 4 ?_; intro a S)
  refine wp_ret (fr1 S Tryz.results248 ?_)
  (unfold cmpI; (repeat (first | rw [if_pos (by assumption)] | rw [if_neg (by omega)])))
 (revert S a; revert hZ Z; refine go 9 ?_; intro Z hZ a S)
 refine wpc_sp S rfl ?_ ?_ <;> intro h
 ·(revert S a; refine go 4 ?_; intro a S)
  refine wp_ret (fr1 S Tryz.results248 ?_)
  (unfold cmpI; (repeat (first | rw [if_pos (by assumption)] | rw [if_neg (by omega)])))
 (revert S a; revert hZ Z; refine go 6 ?_; intro a S)
 refine wp_ret (fr1 S Tryz.results248 ?_)
 (unfold cmpI; (repeat (first | rw [if_pos (by assumption)] | rw [if_neg (by omega)])))
theorem compare4 (s t : List UInt8) (F : Heap) : Ct Tryz.prog 250 [.string (bs s), .string (bs t)] F [] (fun _ _ u => u = .int .i64 (cS s t)) := by
 refine Ct.enter Tryz.func250 rfl Tryz.ntmps250 rfl fun w0 a S => ?_
 (revert S a; refine go 6 ?_; intro Z hZ a S)
 (refine wc0 S (isNaN4 _ F) ?_; clear S a; intro v a w hv S; subst hv)
 (revert S a; revert hZ Z; refine go 5 ?_; intro Z hZ a S)
 (refine wc0 S (isNaN4 _ F) ?_; clear S a; intro v a w hv S; subst hv)
 (revert S a; revert hZ Z; refine go 8 ?_; intro Z hZ a S)
 refine wpc_split S rfl (fun h => ?_) (fun h => ?_)
 ·(skip; (try simp only [tq] at h); cases h)
 (skip; (try simp only [tq] at h))
 (revert S a; revert hZ Z; refine go 7 ?_; intro Z hZ a S)
 refine wpc_split S rfl (fun h => ?_) (fun h => ?_)
 ·(skip; (try simp only [tq] at h); cases h)
 (skip; (try simp only [tq] at h))
 (revert S a; revert hZ Z; refine go 9 ?_; intro Z hZ a S)
 refine wpc_sp S rfl ?_ ?_ <;> intro h
 ·(revert S a; refine go 4 ?_; intro a S)
  refine wp_ret (fr1 S Tryz.results250 ?_)
  (unfold cS; congr 1; simp_all)
 (revert S a; revert hZ Z; refine go 6 ?_; intro Z hZ Z hZ a S)
 (refine wv S (sv_gtrS S rfl rfl rfl) ?_; clear S a; intro a S)
 (revert S a; revert hZ Z; refine go 2 ?_; intro a S)
 refine wpc_sp S rfl ?_ ?_ <;> intro h
 ·(revert S a; refine go 4 ?_; intro a S)
  refine wp_ret (fr1 S Tryz.results250 ?_)
  (unfold cS; congr 1; simp_all)
 (revert S a; revert hZ Z; refine go 6 ?_; intro a S)
 refine wp_ret (fr1 S Tryz.results250 ?_)
 (unfold cS; congr 1; simp_all)
def IntR (_ : Heap) (x : Int) (cs : List Value) : Prop := cs = [.int .i64 x]
theorem zzCm0 {p : Prop} (h : p := by (congr 1; rw [← hfp]; first | (rw [drop_at hx]; show _ = or2 x _; unfold or2; rw [if_pos (by omega)]; done) | (rw [List.drop_eq_nil_of_le (by omega)]; rfl) | trace_state)) : p := h
theorem orN (F : Heap) (v : Value) (l : List Int) (hl : l.length ≤ 10) (h : LiM F 1 IntR v l) : Ct Tryz.prog 251 [v] F [] (fun _ _ u => u = .int .i64 (l.foldr or2 0)) := by
 obtain ⟨ao, cap, rfl, hcap, hpos⟩ := h
 refine Ct.enter Tryz.func251 rfl Tryz.ntmps251 rfl fun w0 a S => ?_
 (revert S a; refine go 16 ?_; intro Z hZ a S)
 refine wpc_loop (fun m a w' => ∃ (k : Nat), m = l.length - k ∧ k ≤ l.length ∧ (l.drop k).foldr or2 0 = l.foldr or2 0 ∧ St 18 [(3, .int .i64 0), (6, .slice ao l.length cap), (7, .int .i64 l.length), (8, .int .i64 k)] w0 F [] F [] a w') ?_ ?_
 ·(refine ⟨l.length, 0, by omega, Nat.zero_le _, rfl, ?_⟩; refine S.keep ?_; exact zk)
 (clear S; rintro m a w ⟨k, rfl, hkl, hfp, S⟩)
 (revert S a; refine go 5 ?_; intro Z hZ a S)
 refine wpc_sp S rfl ?_ ?_ <;> intro h
 ·(revert S a; revert hZ Z; refine go 4 ?_; intro Z hZ a S)
  (refine wp_seq_k ?_; intro Z hZ)
  (obtain ⟨b8, o8, rfl, x, cs1, hx, hc1, rfl⟩ := LiM.pos hpos (k := k) (by omega))
  (revert S a; refine go 2 ?_; intro a S)
  (refine wv S (sv_loadF S rfl rfl (hc1 0 _ rfl)) ?_; clear S a; intro a S)
  (revert S a; revert hZ Z; refine go 9 ?_; intro a S)
  refine wpc_sp S rfl ?_ ?_ <;> intro h
  ·(revert S a; refine go 5 ?_; intro a S)
   refine wp_ret (fr1 S Tryz.results251 ?_)
   exact zzCm0
  (revert S a; revert hZ Z; refine go 6 ?_; intro a S)
  change ∃ m', _ ∧ _
  (refine ⟨l.length - (k + 1), by omega, k + 1, rfl, by omega, ?_, ?_⟩; rotate_left 1; (refine S.keep ?_; exact zk); rw [← hfp, drop_at hx]; show _ = or2 x _; unfold or2; rw [if_neg (by omega)])
 (refine wp_exit ?_; conv => whnf)
 clear hZ Z
 (revert S a; revert hZ Z; refine go 6 ?_; intro a S)
 refine wp_ret (fr1 S Tryz.results251 ?_)
 exact zzCm0
theorem hasP_dash (s : List UInt8) : hasP s [45] = decide (s.take 1 = [45]) := by
 unfold hasP
 cases s with
 | nil => rfl
 | cons c r => simp; rfl
theorem prefCt (F : Heap) (s : List UInt8) (hs : s.length ≤ 140737488355328) : Ct Tryz.prog 170 [.string (bs s), .string (bs [45])] F [] (fun _ _ u => u = .bool (decide (s.take 1 = [45]))) := by
 rw [← hasP_dash]
 refine Ct.enter Tryz.func170 rfl Tryz.ntmps170 rfl fun w0 a S => ?_
 (revert S a; refine go 7 ?_; intro Z hZ a S)
 (refine wc0 S (hasPfxCt s [45] F hs (by decide)) ?_; clear S a; intro v a w hv S; subst hv)
 (revert S a; revert hZ Z; refine go 3 ?_; intro a S)
 refine wp_ret (fr1 S Tryz.results170 ?_)
 rfl
theorem take1_len {s : List UInt8} (h : s.take 1 = [45]) : 1 ≤ s.length := by
 cases s with
 | nil => cases h
 | cons c r => simp
theorem lim2 {F : Heap} {b : Nat} {x y : Int} {e : TypeId} {R} (h : F b = some (.cells ⟨[.int .i64 x, .int .i64 y]⟩ e R)) : LiM F 1 IntR (.slice (some ⟨b, 0, none⟩) 2 2) [x, y] := by
 refine ⟨_, _, rfl, ⟨Nat.le_refl 2, show 2 ≤ _ by decide⟩, fun _ => ⟨b, 0, rfl, fun k z hz => ?_⟩⟩
 match k, hz with
 | 0, hz => cases hz; exact ⟨_, fun j u hj => ⟨_, _, _, h, by match j, hj with | 0, hj => exact hj⟩, rfl, rfl⟩
 | 1, hz => cases hz; exact ⟨_, fun j u hj => ⟨_, _, _, h, by match j, hj with | 0, hj => exact hj⟩, rfl, rfl⟩
theorem lim3 {F : Heap} {b : Nat} {x y z : Int} {e : TypeId} {R} (h : F b = some (.cells ⟨[.int .i64 x, .int .i64 y, .int .i64 z]⟩ e R)) : LiM F 1 IntR (.slice (some ⟨b, 0, none⟩) 3 3) [x, y, z] := by
 refine ⟨_, _, rfl, ⟨Nat.le_refl 3, show 3 ≤ _ by decide⟩, fun _ => ⟨b, 0, rfl, fun k z hz => ?_⟩⟩
 match k, hz with
 | 0, hz => cases hz; exact ⟨_, fun j u hj => ⟨_, _, _, h, by match j, hj with | 0, hj => exact hj⟩, rfl, rfl⟩
 | 1, hz => cases hz; exact ⟨_, fun j u hj => ⟨_, _, _, h, by match j, hj with | 0, hj => exact hj⟩, rfl, rfl⟩
 | 2, hz => cases hz; exact ⟨_, fun j u hj => ⟨_, _, _, h, by match j, hj with | 0, hj => exact hj⟩, rfl, rfl⟩
theorem or2_z (x : Int) : or2 x 0 = x := by unfold or2; split <;> omega
theorem zzCm1 {p : Prop} (h : p := by (congr 1; show _ = (if s.take 1 = [45] ∧ t.take 1 = [45] then bigC n (t.drop 1) (s.drop 1) else if s.take 1 = [45] then -1 else if t.take 1 = [45] then 1 else or2 (cI s.length t.length) (cS s t)); first | (rw [if_pos (show s.take 1 = [45] ∧ t.take 1 = [45] from ⟨by assumption, by assumption⟩)]; done) | (rw [if_neg (by simp_all), if_pos (by assumption)]; done) | (rw [if_neg (by simp_all), if_neg (by simp_all), if_pos (by assumption)]; done) | (rw [if_neg (by simp_all), if_neg (by simp_all), if_neg (by simp_all)]; show or2 _ (or2 _ 0) = _; rw [or2_z]; rfl) | trace_state)) : p := h
theorem bigsCt : ∀ (n : Nat) (F : Heap) (s t : List UInt8), s.length + t.length < n → s.length ≤ 140737488355328 → t.length ≤ 140737488355328 → Ct Tryz.prog 249 [.string (bs s), .string (bs t)] F [] (fun _ _ u => u = .int .i64 (bigC n s t)) := by
 intro n
 induction n with
 | zero => intro F s t h; omega
 | succ n ih =>
 intro F s t hn hs ht
 have hps := prefCt F s hs
 have hpt := prefCt F t ht
 refine Ct.enter Tryz.func249 rfl Tryz.ntmps249 rfl fun w0 a S => ?_
 (revert S a; refine go 6 ?_; intro Z hZ a S)
 (refine wc0 S hps ?_; clear S a; intro v a w hv S; subst hv)
 (revert S a; refine go 1 ?_; intro a S)
 (refine wc0 S hpt ?_; clear S a; intro v a w hv S; subst hv)
 (revert S a; revert hZ Z; refine go 9 ?_; intro Z hZ Z hZ a S)
 refine wgd S ?_ ?_
 ·(clear S; intro h S)
  (revert S a; revert hZ Z; refine go 5 ?_; intro a S)
  refine wpc_sp S rfl ?_ ?_ <;> intro h
  ·(refine wp_seq_k ?_; intro Z hZ)
   (have l1 := take1_len (by assumption : s.take 1 = [45]); have l2 := take1_len (by assumption : t.take 1 = [45]))
   (refine wpc_mixM [0, 1, 2, 3] [] [] (.one 0 (.one 1 (.one 2 (.one 3 (.one 4 (.one 5 .nil)))))) [] S mixed (by kernel_rfl) ?_; clear S; intro w S)
   (revert S a; refine go 1 ?_; intro a S)
   (refine wpm_v S rfl rfl rfl (want_none _ rfl) rfl rfl (fun w' S => sv_sliceS_lo S rfl rfl rfl (by first | omega | (simp only [List.length_append, List.length_cons, List.length_nil]; omega))) ?_; clear S a; intro a S)
   (revert S a; refine go 1 ?_; intro a S)
   (refine wpm_v S rfl rfl rfl (want_none _ rfl) rfl rfl (fun w' S => sv_sliceS_lo S rfl rfl rfl (by first | omega | (simp only [List.length_append, List.length_cons, List.length_nil]; omega))) ?_; clear S a; intro a S)
   refine wpm_eff rfl rfl (kwa S) ?_
   (refine wc0 S (ih F (t.drop 1) (s.drop 1) (by simp; omega) (by simp; omega) (by simp; omega)) ?_; clear S a; intro v a w hv S; subst hv)
   (revert S a; revert hZ Z; refine go 6 ?_; intro a S)
   refine wp_ret (fr1 S Tryz.results249 ?_)
   exact zzCm1
  (revert S a; refine go 5 ?_; intro a S)
  refine wpc_sp S rfl ?_ ?_ <;> intro h
  ·(revert S a; refine go 4 ?_; intro a S)
   refine wp_ret (fr1 S Tryz.results249 ?_)
   exact zzCm1
  (revert S a; refine go 5 ?_; intro a S)
  refine wpc_sp S rfl ?_ ?_ <;> intro h
  ·(revert S a; refine go 4 ?_; intro a S)
   refine wp_ret (fr1 S Tryz.results249 ?_)
   exact zzCm1
  (revert S a; revert hZ Z; refine go 7 ?_; intro Z hZ a S)
  (refine wc0 S (compare1 _ _ F) ?_; clear S a; intro v a w hv S; subst hv)
  (revert S a; refine go 2 ?_; intro a S)
  (refine wc0 S (compare4 s t F) ?_; clear S a; intro v a w hv S; subst hv)
  (refine wpl_buildSlice S rfl rfl rfl rfl rfl rfl (by rfl) (by simp [Value.cells, splice, splice]) rfl (by rfl) (by rfl) ?_; clear S a; intro b33 a w hown S)
  (replace S := St.pullB b33 S; have S' := frz1 S; clear S; obtain ⟨F5, hle5, hb33, S⟩ := S'; refine wc0 S (orN F5 _ [cmpI s.length t.length, cS s t] (show 2 ≤ 10 by decide) (lim2 hb33)) ?_; clear S a; intro v a w hv S; subst hv)
  (revert S a; revert hZ Z; refine go 3 ?_; intro a S)
  refine wp_ret (fr1 S Tryz.results249 ?_)
  exact zzCm1
 (clear S a; intro h a S)
 (revert S a; revert hZ Z; refine go 4 ?_; intro a S)
 refine wpc_false S rfl ?_
 (revert S a; refine go 5 ?_; intro a S)
 refine wpc_sp S rfl ?_ ?_ <;> intro h
 ·(revert S a; refine go 4 ?_; intro a S)
  refine wp_ret (fr1 S Tryz.results249 ?_)
  exact zzCm1
 (revert S a; refine go 5 ?_; intro a S)
 refine wpc_sp S rfl ?_ ?_ <;> intro h
 ·(revert S a; refine go 4 ?_; intro a S)
  refine wp_ret (fr1 S Tryz.results249 ?_)
  exact zzCm1
 (revert S a; revert hZ Z; refine go 7 ?_; intro Z hZ a S)
 (refine wc0 S (compare1 _ _ F) ?_; clear S a; intro v a w hv S; subst hv)
 (revert S a; refine go 2 ?_; intro a S)
 (refine wc0 S (compare4 s t F) ?_; clear S a; intro v a w hv S; subst hv)
 (refine wpl_buildSlice S rfl rfl rfl rfl rfl rfl (by rfl) (by simp [Value.cells, splice, splice]) rfl (by rfl) (by rfl) ?_; clear S a; intro b33 a w hown S)
 (replace S := St.pullB b33 S; have S' := frz1 S; clear S; obtain ⟨F5, hle5, hb33, S⟩ := S'; refine wc0 S (orN F5 _ [cmpI s.length t.length, cS s t] (show 2 ≤ 10 by decide) (lim2 hb33)) ?_; clear S a; intro v a w hv S; subst hv)
 (revert S a; revert hZ Z; refine go 3 ?_; intro a S)
 refine wp_ret (fr1 S Tryz.results249 ?_)
 exact zzCm1
def CmpC (n : Nat) : Prop := ∀ (F : Heap) (h : VH) (L : Vf) (h2 : VH) (L2 : Vf) (cs cs2 : List Value), L.size < n → VaC F cs h L → VaC F cs2 h2 L2 → Ct Tryz.prog 229 [.agg ⟨cs⟩, .agg ⟨cs2⟩] F [] (fun _ _ u => u = .int .i64 (cmpH h L h2 L2))
theorem rows1Ct {n : Nat} (hC : CmpC n) (F : Heap) (h : VH) (L : Vf) (h2 : VH) (L2 : Vf) (cs cs2 : List Value) (hn : L.size < n) (hV : VaC F cs h L) (hV2 : VaC F cs2 h2 L2) : Ct Tryz.prog 228 [.agg ⟨cs⟩, .agg ⟨cs2⟩] F [] (fun _ _ u => u = .int .i64 (cmpH h L h2 L2)) := by
 have hc := hC F h L h2 L2 cs cs2 hn hV hV2
 obtain ⟨v1, rfl, ⟨a1, c1, rfl, -⟩, -⟩ := hV
 obtain ⟨v2, rfl, ⟨a2, c2, rfl, -⟩, -⟩ := hV2
 refine Ct.enter Tryz.func228 rfl Tryz.ntmps228 rfl fun w0 a S => ?_
 refine wp_sr fun Z hZ => ?_
 (refine wbx S ?_; clear S a; intro b2 a w S)
 (refine wbx S ?_; clear S a; intro b3 a w S)
 (revert S a; revert hZ Z; refine go 6 ?_; intro Z hZ a S)
 (refine wc0 S (hc) ?_; clear S a; intro v a w hv S; subst hv)
 (revert S a; revert hZ Z; refine go 3 ?_; intro a S)
 refine wp_ret (fr1 S Tryz.results228 ?_)
 rfl
theorem cmpL_drop {l m : Vf} {k : Nat} {x y : VH × Vf} (hx : l.get? k = some x) (hy : m.get? k = some y) : cmpL (l.drop k) (m.drop k) = or2 (cmpH x.1 x.2 y.1 y.2) (cmpL (l.drop (k + 1)) (m.drop (k + 1))) := by
 rw [Rose.drop_get hx, Rose.drop_get hy]; rfl
theorem cmpL_lend {l m : Vf} {k : Nat} {x : VH × Vf} (hx : l.get? k = some x) (hm : m.len ≤ k) : cmpL (l.drop k) (m.drop k) = 1 := by
 rw [Rose.drop_get hx, Rose.drop_len hm]; rfl
theorem cmpL_end {l m : Vf} {k : Nat} (hl : l.len ≤ k) : cmpL (l.drop k) (m.drop k) = if k < m.len then -1 else 0 := by
 rw [Rose.drop_len hl]
 by_cases hm : k < m.len
 ·obtain ⟨y, hy⟩ := Rose.get_lt hm
  rw [Rose.drop_get hy, if_pos hm]; rfl
 ·rw [Rose.drop_len (by omega), if_neg hm]; rfl
theorem zzCm2 {p : Prop} (h : p := by (congr 1; rw [← hfp]; first | (rw [cmpL_lend hx (by omega)]; done) | (rw [cmpL_drop hx hy]; unfold or2; rw [if_pos (by omega)]; done) | (rw [cmpL_end (by omega), if_pos (by omega)]; done) | (rw [cmpL_end (by omega), if_neg (by omega)]; done) | trace_state)) : p := h
theorem cfCt {n : Nat} (hC : CmpC n) (F : Heap) (l m : Vf) (v u : Value) (hn : l.size ≤ n) (hv : TrS F 4 VhR v l) (hu : TrS F 4 VhR u m) : Ct Tryz.prog 227 [v, u, .func (.func 228) ⟨[]⟩ ⟨[]⟩] F [] (fun _ _ u => u = .int .i64 (cmpL l m)) := by
 obtain ⟨ao, cap, rfl, hcap, hpos⟩ := hv
 obtain ⟨ao2, cap2, rfl, hcap2, hpos2⟩ := hu
 refine Ct.enter Tryz.func227 rfl Tryz.ntmps227 rfl fun w0 a S => ?_
 (revert S a; refine go 12 ?_; intro Z hZ a S)
 refine wpc_loop (fun q a w' => ∃ (k : Nat), q = l.len - k ∧ k ≤ l.len ∧ cmpL (l.drop k) (m.drop k) = cmpL l m ∧ St 39 [(0, .slice ao l.len cap), (1, .slice ao2 m.len cap2), (2, .func (.func 228) ⟨[]⟩ ⟨[]⟩), (11, .slice ao l.len cap), (12, .int .i64 l.len), (13, .int .i64 k)] w0 F [] F [] a w') ?_ ?_
 ·(refine ⟨l.len, 0, by omega, Nat.zero_le _, rfl, ?_⟩; refine S.keep ?_; exact zk)
 (clear S; rintro q a w ⟨k, rfl, hkl, hfp, S⟩)
 (revert S a; refine go 5 ?_; intro Z hZ a S)
 refine wpc_sp S rfl ?_ ?_ <;> intro h
 ·(revert S a; revert hZ Z; refine go 4 ?_; intro Z hZ a S)
  (refine wp_seq_k ?_; intro Z hZ)
  (obtain ⟨b8, o8, hao, x, cs1, v1, hx, hc1, hw9, hT1⟩ := TrM.pos hpos (k := k) (by omega); rw [hao] at S; have hxs := Rose.size_get hx; have hT1c := hT1; obtain ⟨a91, c91, rfl, -⟩ := hT1c; have hw9c := hw9.1; subst hw9c; (simp only [List.cons_append, List.nil_append] at hc1))
  (revert S a; refine go 4 ?_; intro a S)
  (refine wpl_alloc S rfl rfl rfl rfl ?_; clear S a; intro b8 a w S)
  (revert S a; refine go 1 ?_; intro a S)
  (refine wso S rfl rfl ?_; clear S; intro w S)
  (revert S a; revert hZ Z; refine go 10 ?_; intro Z hZ a S)
  refine wpc_sp S rfl ?_ ?_ <;> intro h
  ·(revert S a; refine go 4 ?_; intro a S)
   refine wp_ret (fr1 S Tryz.results227 ?_)
   exact zzCm2
  refine wp_skip ?_
  (refine hZ _ _ ?_; clear hZ Z)
  (refine wp_seq_k ?_; intro Z hZ)
  (obtain ⟨b9, o9, hao2, y, cs2, v2, hy, hc2, hw8, hT2⟩ := TrM.pos hpos2 (k := k) (by omega); rw [hao2] at S; have hT2c := hT2; obtain ⟨a92, c92, rfl, -⟩ := hT2c; have hw8c := hw8.1; subst hw8c; (simp only [List.cons_append, List.nil_append] at hc2))
  (revert S a; refine go 5 ?_; intro a S)
  (refine wpl_alloc S rfl rfl rfl rfl ?_; clear S a; intro b9 a w S)
  (refine wso S rfl rfl ?_; clear S; intro w S)
  (revert S a; revert hZ Z; refine go 6 ?_; intro Z hZ a S)
  (refine wc0 S (rows1Ct hC F x.1 x.2 y.1 y.2 _ _ (by omega) ⟨_, rfl, hT1, hw9.2⟩ ⟨_, rfl, hT2, hw8.2⟩) ?_; clear S a; intro v a w hv S; subst hv)
  (revert S a; revert hZ Z; refine go 8 ?_; intro a S)
  refine wpc_sp S rfl ?_ ?_ <;> intro h
  ·(revert S a; refine go 5 ?_; intro a S)
   refine wp_ret (fr1 S Tryz.results227 ?_)
   exact zzCm2
  (revert S a; revert hZ Z; refine go 6 ?_; intro a S)
  change ∃ m', _ ∧ _
  (rw [← hao, ← hao2] at S; replace S := S.drop1.drop1; refine ⟨l.len - (k + 1), by omega, k + 1, rfl, by omega, ?_, ?_⟩; rotate_left 1; (refine S.keep ?_; exact zk); rw [← hfp, cmpL_drop hx hy]; unfold or2; rw [if_neg (by omega)])
 (refine wp_exit ?_; conv => whnf)
 clear hZ Z
 (revert S a; revert hZ Z; refine go 10 ?_; intro Z hZ a S)
 refine wpc_sp S rfl ?_ ?_ <;> intro h
 ·(revert S a; refine go 4 ?_; intro a S)
  refine wp_ret (fr1 S Tryz.results227 ?_)
  exact zzCm2
 (revert S a; revert hZ Z; refine go 6 ?_; intro a S)
 refine wp_ret (fr1 S Tryz.results227 ?_)
 exact zzCm2
theorem rowsCt {n : Nat} (hC : CmpC n) (F : Heap) (l m : Vf) (v u : Value) (hn : l.size ≤ n) (hv : TrS F 4 VhR v l) (hu : TrS F 4 VhR u m) : Ct Tryz.prog 194 [v, u] F [] (fun _ _ u => u = .int .i64 (cmpL l m)) := by
 have hc := cfCt hC F l m v u hn hv hu
 obtain ⟨ao, cap, rfl, hcap, hpos⟩ := hv
 obtain ⟨ao2, cap2, rfl, hcap2, hpos2⟩ := hu
 refine Ct.enter Tryz.func194 rfl Tryz.ntmps194 rfl fun w0 a S => ?_
 (revert S a; refine go 7 ?_; intro Z hZ a S)
 (refine wc0 S (hc) ?_; clear S a; intro v a w hv S; subst hv)
 (revert S a; revert hZ Z; refine go 3 ?_; intro a S)
 refine wp_ret (fr1 S Tryz.results194 ?_)
 rfl
theorem cmpI_ne {a b : Nat} : cmpI (a : Int) (b : Int) ≠ 0 ↔ a ≠ b := by unfold cmpI; split <;> (try split) <;> omega
theorem zzCm3 {p : Prop} (h : p := by (congr 1; unfold cmpH; first | (rw [if_pos (cmpI_ne.1 (by assumption))]; rfl) | (have hk : ¬ vh.k ≠ vh2.k := (fun h9 => absurd (cmpI_ne.2 h9) (by omega)); rw [if_neg hk]; first | (rw [if_pos (by omega)]; rfl) | (rw [if_neg (by omega), if_pos (by omega)]; done) | (rw [if_neg (by omega), if_neg (by omega)]; show or2 _ (or2 _ (or2 _ 0)) = _; rw [or2_z]; rfl)) | trace_state)) : p := h
theorem cmpCt : ∀ n, CmpC n := by
 intro n
 induction n with
 | zero => intro F h L h2 L2 cs cs2 hn; omega
 | succ n ih =>
 intro F vh L vh2 L2 cs cs2 hn hV hV2
 obtain ⟨v1, rfl, hT1, hs1⟩ := hV
 obtain ⟨v2, rfl, hT2, hs2⟩ := hV2
 have hr := rowsCt ih F L L2 v1 v2 (by omega) hT1 hT2
 obtain ⟨a1, c1, rfl, -⟩ := hT1
 obtain ⟨a2, c2, rfl, -⟩ := hT2
 refine Ct.enter Tryz.func229 rfl Tryz.ntmps229 rfl fun w0 a S => ?_
 refine wp_sr fun Z hZ => ?_
 (refine wbx S ?_; clear S a; intro b2 a w S)
 (refine wbx S ?_; clear S a; intro b3 a w S)
 (revert S a; revert hZ Z; refine go 9 ?_; intro Z hZ Z hZ a S)
 (refine wc0 S (compare3 _ _ F) ?_; clear S a; intro v a w hv S; subst hv)
 (revert S a; revert hZ Z; refine go 8 ?_; intro a S)
 refine wpc_sp S rfl ?_ ?_ <;> intro h
 ·(revert S a; refine go 5 ?_; intro a S)
  refine wp_ret (fr1 S Tryz.results229 ?_)
  exact zzCm3
 (revert S a; revert hZ Z; refine go 14 ?_; intro Z hZ a S)
 refine wpc_sp S rfl ?_ ?_ <;> intro h
 ·(revert S a; refine go 5 ?_; intro Z hZ a S)
  (refine wc0 S (bigsCt (vh.s.length + vh2.s.length + 1) F vh.s vh2.s (by omega) hs1 hs2) ?_; clear S a; intro v a w hv S; subst hv)
  (revert S a; revert hZ Z; refine go 3 ?_; intro a S)
  refine wp_ret (fr1 S Tryz.results229 ?_)
  exact zzCm3
 (revert S a; refine go 5 ?_; intro a S)
 refine wpc_sp S rfl ?_ ?_ <;> intro h
 ·(revert S a; refine go 5 ?_; intro Z hZ a S)
  (refine wc0 S (compare4 vh.s vh2.s F) ?_; clear S a; intro v a w hv S; subst hv)
  (revert S a; revert hZ Z; refine go 3 ?_; intro a S)
  refine wp_ret (fr1 S Tryz.results229 ?_)
  exact zzCm3
 refine wp_skip ?_
 (refine hZ _ _ ?_; clear hZ Z)
 (refine wp_seq_k ?_; intro Z hZ)
 (refine wpc_mixM [0, 1, 2, 3, 5, 6, 7, 8, 10, 11, 12, 13] [1, 3, 6, 8, 11, 13] [] (.one 0 (.one 1 (.one 2 (.one 3 (.one 5 (.one 6 (.one 7 (.one 8 (.one 10 (.one 11 (.one 12 (.one 13 (.one 4 (.one 9 (.one 14 (.one 15 (.one 16 (.one 17 .nil)))))))))))))))))) [b2, b3] S mixed (by kernel_rfl) ?_; clear S; intro w S)
 (revert S a; refine go 13 ?_; intro a S)
 (refine wc0 S (compare2 _ _ F) ?_; clear S a; intro v a w hv S; subst hv)
 (revert S a; refine go 2 ?_; intro a S)
 (refine wc0 S (compare4 vh.s vh2.s F) ?_; clear S a; intro v a w hv S; subst hv)
 (revert S a; refine go 2 ?_; intro a S)
 (refine wc0 S (hr) ?_; clear S a; intro v a w hv S; subst hv)
 (revert S a; refine go 2 ?_; intro a S)
 (refine wpl_buildSlice S rfl rfl rfl rfl rfl rfl (by rfl) (by simp [Value.cells, splice, splice]) rfl (by rfl) (by rfl) ?_; clear S a; intro b45 a w hown S)
 (revert S a; refine go 2 ?_; intro a S)
 (replace S := St.pullB b45 S; have S' := frz1 S; clear S; obtain ⟨F5, hle5, hb45, S⟩ := S'; refine wc0 S (orN F5 _ [cmpI vh.n vh2.n, cS vh.s vh2.s, cmpL L L2] (show 3 ≤ 10 by decide) (lim3 hb45)) ?_; clear S a; intro v a w hv S; subst hv)
 (revert S a; revert hZ Z; refine go 6 ?_; intro a S)
 refine wp_ret (fr1 S Tryz.results229 ?_)
 exact zzCm3
theorem may1Ct (F : Heap) (h : VH) (L : Vf) (cs : List Value) (hV : VaC F cs h L) : Ct Tryz.prog 226 [.agg ⟨cs⟩] F [] (fun _ _ u => u = .bool (!mayV (h, L))) := by
 have hc := checkUCt F h L cs hV
 obtain ⟨v1, rfl, ⟨a1, c1, rfl, -⟩, -⟩ := hV
 refine Ct.enter Tryz.func226 rfl Tryz.ntmps226 rfl fun w0 a S => ?_
 refine wp_sr fun Z hZ => ?_
 (refine wbx S ?_; clear S a; intro b1 a w S)
 (revert S a; revert hZ Z; refine go 5 ?_; intro Z hZ a S)
 (refine wc0 S (hc) ?_; clear S a; intro v a w hv S; subst hv)
 (revert S a; revert hZ Z; refine go 4 ?_; intro a S)
 refine wp_ret (fr1 S Tryz.results226 ?_)
 rfl
def mayL (l : Vf) : Bool := !anyR (fun h L => !mayV (h, L)) l
theorem mayUCt (F : Heap) (l : Vf) (v : Value) (h : TrS F 4 VhR v l) : Ct Tryz.prog 192 [v] F [] (fun _ _ u => u = .bool (mayL l)) := by
 have hc := cfVCt F v l.len _ h.sq 226 [] [] (fun k => match l.get? k with | some x => !mayV x | none => false) (fun k cs hk ⟨x, c1, u, hx, hcs, hR, hT⟩ => by
  rw [hx]
  exact may1Ct F x.1 x.2 cs (ror_vac ⟨c1, u, hcs, by rw [hR.1]; rfl, hR, hT⟩))
 rw [anyN_rose (q := fun h L => !mayV (h, L)) (fun k x hx => by rw [hx])] at hc
 obtain ⟨a1, c1, rfl, -⟩ := h
 refine Ct.enter Tryz.func192 rfl Tryz.ntmps192 rfl fun w0 a S => ?_
 (revert S a; refine go 6 ?_; intro Z hZ a S)
 (refine wc0 S (hc) ?_; clear S a; intro v a w hv S; subst hv)
 (revert S a; revert hZ Z; refine go 4 ?_; intro a S)
 refine wp_ret (fr1 S Tryz.results192 ?_)
 rfl
theorem zzCm4 {p : Prop} (h : p := by (first | (rw [if_pos (by assumption)]; done) | (rw [if_neg (by assumption), if_pos (by assumption)]; done) | (rw [if_neg (by assumption), if_neg (by simp_all)]; done) | trace_state)) : p := h
theorem lastCt (F : Heap) (p q : Bool) : Ct Tryz.prog 193 [.bool p, .bool q] F [] (fun _ _ u => u = .int .i64 (if p = q then 0 else if p = true then -1 else 1)) := by
 refine Ct.enter Tryz.func193 rfl Tryz.ntmps193 rfl fun w0 a S => ?_
 (revert S a; refine go 13 ?_; intro Z hZ a S)
 refine wpc_sp S rfl ?_ ?_ <;> intro h
 ·(revert S a; refine go 4 ?_; intro a S)
  refine wp_ret (fr1 S Tryz.results193 ?_)
  exact zzCm4
 (revert S a; refine go 5 ?_; intro a S)
 refine wpc_sp S rfl ?_ ?_ <;> intro h
 ·(revert S a; refine go 4 ?_; intro a S)
  refine wp_ret (fr1 S Tryz.results193 ?_)
  exact zzCm4
 (revert S a; revert hZ Z; refine go 6 ?_; intro a S)
 refine wp_ret (fr1 S Tryz.results193 ?_)
 exact zzCm4
theorem zzCm5 {p : Prop} (h : p := by (congr 1; first | (rw [if_pos (show mayL l = true ∧ mayL m = true by simp_all)]; done) | (rw [if_neg (show ¬ (mayL l = true ∧ mayL m = true) by simp_all)]; done) | trace_state)) : p := h
theorem cmpRowsCt (F : Heap) (l m : Vf) (v u : Value) (hv : TrS F 4 VhR v l) (hu : TrS F 4 VhR u m) : Ct Tryz.prog 162 [v, u] F [] (fun _ _ u => u = .int .i64 (if mayL l = true ∧ mayL m = true then cmpL l m else if mayL l = mayL m then 0 else if mayL l = true then -1 else 1)) := by
 have h1 := mayUCt F l v hv
 have h2 := mayUCt F m u hu
 have h3 := rowsCt (cmpCt l.size) F l m v u (Nat.le_refl _) hv hu
 obtain ⟨a1, c1, rfl, -⟩ := hv
 obtain ⟨a2, c2, rfl, -⟩ := hu
 refine Ct.enter Tryz.func162 rfl Tryz.ntmps162 rfl fun w0 a S => ?_
 (revert S a; refine go 7 ?_; intro Z hZ Z hZ a S)
 (refine wc0 S h1 ?_; clear S a; intro v a w hv S; subst hv)
 (revert S a; refine go 1 ?_; intro a S)
 (refine wc0 S h2 ?_; clear S a; intro v a w hv S; subst hv)
 (revert S a; revert hZ Z; refine go 8 ?_; intro Z hZ a S)
 refine wgd S ?_ ?_
 ·(clear S; intro h S)
  (revert S a; revert hZ Z; refine go 6 ?_; intro a S)
  refine wpc_sp S rfl ?_ ?_ <;> intro h
  ·(revert S a; refine go 3 ?_; intro Z hZ a S)
   (refine wc0 S (lastCt F _ _) ?_; clear S a; intro v a w hv S; subst hv)
   (revert S a; revert hZ Z; refine go 3 ?_; intro a S)
   refine wp_ret (fr1 S Tryz.results162 ?_)
   exact zzCm5
  (revert S a; revert hZ Z; refine go 5 ?_; intro Z hZ a S)
  (refine wc0 S (h3) ?_; clear S a; intro v a w hv S; subst hv)
  (revert S a; revert hZ Z; refine go 3 ?_; intro a S)
  refine wp_ret (fr1 S Tryz.results162 ?_)
  exact zzCm5
 (clear S a; intro h a S)
 (revert S a; revert hZ Z; refine go 4 ?_; intro a S)
 refine wpc_true S rfl ?_
 (revert S a; refine go 3 ?_; intro Z hZ a S)
 (refine wc0 S (lastCt F _ _) ?_; clear S a; intro v a w hv S; subst hv)
 (revert S a; revert hZ Z; refine go 3 ?_; intro a S)
 refine wp_ret (fr1 S Tryz.results162 ?_)
 exact zzCm5
theorem mayL1 (h : VH) (L : Vf) : mayL (.cons h L .nil) = mayV (h, L) := by
 unfold mayL anyR anyR
 rw [Bool.or_false, Bool.not_not]
theorem cmpUCt (F : Heap) (x y : Vv) (cx cy : List Value) (hx : VaC F cx x.1 x.2) (hy : VaC F cy y.1 y.2) : Ct Tryz.prog 120 [.agg ⟨cx⟩, .agg ⟨cy⟩] F [] (fun _ _ u => u = .int .i64 (cmpV2 x y)) := by
 have ex := vac_ror hx
 have ey := vac_ror hy
 obtain ⟨v1, rfl, ⟨a1, c1, rfl, -⟩, -⟩ := hx
 obtain ⟨v2, rfl, ⟨a2, c2, rfl, -⟩, -⟩ := hy
 refine Ct.enter Tryz.func120 rfl Tryz.ntmps120 rfl fun w0 a S => ?_
 refine wp_sr fun Z hZ => ?_
 (refine wbx S ?_; clear S a; intro b2 a w S)
 (refine wbx S ?_; clear S a; intro b3 a w S)
 (revert S a; revert hZ Z; refine go 5 ?_; intro Z hZ a S)
 (refine wpl_buildSlice S rfl rfl rfl rfl rfl rfl (by rfl) (by simp [Value.cells, splice, splice]) rfl (by rfl) (by rfl) ?_; clear S a; intro b6 a w hown S)
 (revert S a; refine go 1 ?_; intro a S)
 (refine wpl_buildSlice S rfl rfl rfl rfl rfl rfl (by rfl) (by simp [Value.cells, splice, splice]) rfl (by rfl) (by rfl) ?_; clear S a; intro b8 a w hown S)
 (replace S := St.pullB b6 S; replace S := St.pullB b8 S; have S' := frzAll [(b8, _), (b6, _)] S; clear S; obtain ⟨F5, hle5, hbl, S⟩ := S'; have h6 := hbl _ (List.mem_cons_of_mem _ (List.mem_cons_self ..)); have h8 := hbl _ (List.mem_cons_self ..); have t6 : TrS F5 4 VhR (.slice (some ⟨b6, 0, none⟩) 1 1) (.cons x.1 x.2 .nil) := trs_lim (l := [x]) (lim_of (l := [x]) h6 (LiC.one rfl (Mon.h hle5 ex)) (show 1 ≤ _ by decide)); have t8 : TrS F5 4 VhR (.slice (some ⟨b8, 0, none⟩) 1 1) (.cons y.1 y.2 .nil) := trs_lim (l := [y]) (lim_of (l := [y]) h8 (LiC.one rfl (Mon.h hle5 ey)) (show 1 ≤ _ by decide)); refine wc0 S (cmpRowsCt F5 _ _ _ _ t6 t8) ?_; clear S a; intro v a w hv S; subst hv)
 (revert S a; revert hZ Z; refine go 3 ?_; intro a S)
 refine wp_ret (fr1 S Tryz.results120 ?_)
 (congr 1; rw [mayL1, mayL1]; unfold cmpV2; rw [show cmpL (.cons x.1 x.2 .nil) (.cons y.1 y.2 .nil) = cmpH x.1 x.2 y.1 y.2 from or2_z _])
theorem cmpVCt (F : Heap) (x y : Vv) (cx cy : List Value) (hb : x.2.size ≤ 100000000) (hb2 : y.2.size ≤ 100000000) (hx : VaC F cx x.1 x.2) (hy : VaC F cy y.1 y.2) : Ct Tryz.prog 120 [.agg ⟨cx⟩, .agg ⟨cy⟩] F [] (fun _ _ u => u = .int .i64 (cmpV2 x y)) := cmpUCt F x y cx cy hx hy
theorem VH.ext' {a b : VH} (h1 : a.k = b.k) (h2 : a.n = b.n) (h3 : a.s = b.s) : a = b := by
 cases a; cases b; cases h1; cases h2; cases h3; rfl
end Go.Proofs.YtgefmjghdijbfaaGreatDoor
namespace Go.Cv
open Go Go.Wk Go.Un Go.De
set_option linter.unusedSimpArgs false
set_option linter.unusedVariables false
abbrev By := List UInt8
def appR {α : Type} : Rose α → Rose α → Rose α
 | .nil, m => m
 | .cons a L r, m => .cons a L (appR r m)
def sUnit : By := [40, 41]
structure Frm (τ : Type) where
  nm : By
  tys : List τ
section
variable {τ : Type} (sh : VH → By) (allO : τ → Option (List (Frm τ))) (kid : EH → Nat → τ → List τ)
def hdO (h : EH) : Option By := if h.k = 1 then some (sh h.v) else if h.k = 5 then some h.nm else if h.k = 4 then some sUnit else none
abbrev Tms := Rose By
inductive HT : List τ → Tms → Prop
  | nil : HT [] .nil
  | lit {x : τ} {xs : List τ} {r : Tms} (s : By) (h : allO x = none) (hr : HT xs r) : HT (x :: xs) (.cons s .nil r)
  | form {x : τ} {xs : List τ} {L r : Tms} {fs : List (Frm τ)} {f : Frm τ} (h : allO x = some fs) (hf : f ∈ fs) (hL : HT f.tys L) (hr : HT xs r) : HT (x :: xs) (.cons f.nm L r)
inductive FT : List τ → Ef → Prop
  | nil : FT [] .nil
  | any {x : τ} {xs : List τ} {h : EH} {L r : Ef} (hn : hdO sh h = none) (hr : FT xs r) : FT (x :: xs) (.cons h L r)
  | lit {x : τ} {xs : List τ} {h : EH} {s : By} {r : Ef} (hn : hdO sh h = some s) (ha : allO x = none) (hk : kid h 0 x = []) (hr : FT xs r) : FT (x :: xs) (.cons h .nil r)
  | form {x : τ} {xs : List τ} {h : EH} {L r : Ef} {fs : List (Frm τ)} {f : Frm τ} (ha : allO x = some fs) (hf : f ∈ fs) (hn : hdO sh h = some f.nm) (hk : kid h L.len x = f.tys) (hL : FT f.tys L) (hr : FT xs r) : FT (x :: xs) (.cons h L r)
variable {sh allO kid}
theorem HT.len {xs : List τ} {v : Tms} (h : HT allO xs v) : v.len = xs.length := by
 induction h with
 | nil => rfl
 | lit s h hr ih => show _ + 1 = _; rw [ih]; rfl
 | form h hf hL hr ih1 ih2 => show _ + 1 = _; rw [ih2]; rfl
theorem FT.len {xs : List τ} {v : Ef} (h : FT sh allO kid xs v) : v.len = xs.length := by
 induction h with
 | nil => rfl
 | any hn hr ih => show _ + 1 = _; rw [ih]; rfl
 | lit hn ha hk hr ih => show _ + 1 = _; rw [ih]; rfl
 | form ha hf hn hk hL hr ih1 ih2 => show _ + 1 = _; rw [ih2]; rfl
theorem HT.app {xs ys : List τ} {v w : Tms} (h : HT allO xs v) (h2 : HT allO ys w) : HT allO (xs ++ ys) (appR v w) := by
 induction h with
 | nil => exact h2
 | lit s h hr ih => exact .lit s h ih
 | form h hf hL hr ih1 ih2 => exact .form h hf hL ih2
theorem FT.app {xs ys : List τ} {v w : Ef} (h : FT sh allO kid xs v) (h2 : FT sh allO kid ys w) : FT sh allO kid (xs ++ ys) (appR v w) := by
 induction h with
 | nil => exact h2
 | any hn hr ih => exact .any hn ih
 | lit hn ha hk hr ih => exact .lit hn ha hk ih
 | form ha hf hn hk hL hr ih1 ih2 => exact .form ha hf hn hk hL ih2
theorem HT.split {ys : List τ} : ∀ {xs : List τ} {v : Tms}, HT allO (xs ++ ys) v → ∃ a b, v = appR a b ∧ HT allO xs a ∧ HT allO ys b
 | [], v, h => ⟨.nil, v, rfl, .nil, h⟩
 | x :: xs, _, h => by
  cases h with
  | lit s h hr =>
   obtain ⟨a, b, rfl, h1, h2⟩ := HT.split (xs := xs) hr
   exact ⟨.cons s .nil a, b, rfl, .lit s h h1, h2⟩
  | form h hf hL hr =>
   obtain ⟨a, b, rfl, h1, h2⟩ := HT.split (xs := xs) hr
   exact ⟨.cons _ _ a, b, rfl, .form h hf hL h1, h2⟩
theorem fresh (l : List By) : ∃ s, s ∉ l := by
 have h : ∃ n, ∀ s ∈ l, s.length < n := by
  induction l with
  | nil => exact ⟨0, fun s hs => by cases hs⟩
  | cons a r ih =>
   obtain ⟨n, hn⟩ := ih
   refine ⟨n + a.length + 1, fun s hs => ?_⟩
   rcases List.mem_cons.1 hs with rfl | hs
   ·omega
   ·have := hn s hs; omega
 obtain ⟨n, hn⟩ := h
 exact ⟨List.replicate n 0, fun hm => by have := hn _ hm; rw [List.length_replicate] at this; omega⟩
structure Ok (W : τ → Prop) (K : Nat) : Prop where
  kids : ∀ {x fs f}, W x → allO x = some fs → f ∈ fs → f.tys.length ≤ K ∧ ∀ y ∈ f.tys, W y
  uniq : ∀ {x fs f g}, W x → allO x = some fs → f ∈ fs → g ∈ fs → f.nm = g.nm → f = g
  inh : ∀ {x}, W x → ∃ v, HT allO [x] v
end
def badN (ts : List TD) (y : Ty) : Bool := (nameT ts y || parS y.1) || !countsT ts y
def Wn (ts : List TD) (x : Ty) : Prop := wiT (badN ts) x = false
theorem wi_cons (p : Ty → Bool) (nm : By) (ar r : Fo) : wiL p (.cons nm ar r) = (wiT p (nm, ar) || wiL p r) := rfl
theorem wiL_get {p : Ty → Bool} : ∀ {l : Fo} {k : Nat} {x : Ty}, wiL p l = false → l.get? k = some x → wiT p x = false
 | .cons nm ar r, 0, x, h, e => by cases e; rw [wi_cons, Bool.or_eq_false_iff] at h; exact h.1
 | .cons nm ar r, k + 1, x, h, e => by rw [wi_cons, Bool.or_eq_false_iff] at h; exact wiL_get (l := r) h.2 e
theorem mem_tys : ∀ {l : Fo} {y : Ty}, y ∈ tysOf l → ∃ k, l.get? k = some y
 | .nil, y, h => by cases h
 | .cons nm ar r, y, h => by
  rcases List.mem_cons.1 h with rfl | h
  ·exact ⟨0, rfl⟩
  ·obtain ⟨k, hk⟩ := mem_tys h; exact ⟨k + 1, hk⟩
theorem Wn.arg {ts : List TD} {x y : Ty} (h : Wn ts x) (hy : y ∈ tysOf x.2) : Wn ts y := by
 obtain ⟨k, hk⟩ := mem_tys hy
 unfold Wn wiT at h
 rw [Bool.or_eq_false_iff] at h
 exact wiL_get h.2 hk
theorem Wn.here {ts : List TD} {x : Ty} (h : Wn ts x) : nameT ts x = false ∧ parS x.1 = false ∧ countsT ts x = true := by
 unfold Wn wiT badN at h
 simp only [Bool.or_eq_false_iff, Bool.not_eq_false'] at h
 exact ⟨h.1.1.1, h.1.1.2, h.1.2⟩
def FOk (ts : List TD) (ps : List By) (a : Ty) : Prop := wiT (fun y => (nameT ts y || !countsT ts y) || (parS y.1 && !decide (y.1 ∈ ps))) a = false
theorem idxOf_in {ps : List By} {s : By} (h : s ∈ ps) : 0 ≤ idxOf ps s ∧ idxOf ps s < ps.length := by
 unfold idxOf
 rw [if_pos h]
 have := List.idxOf_lt_length_iff.2 h
 omega
theorem put_Wn {ts : List TD} {ps : List By} {L : Fo} (hl : L.len = ps.length) (hL : wiL (badN ts) L = false) : ∀ l : Fo, wiL (fun y => (nameT ts y || !countsT ts y) || (parS y.1 && !decide (y.1 ∈ ps))) l = false → wiL (badN ts) (putL ps L l) = false
 | .nil, _ => rfl
 | .cons nm ar r, h => by
  rw [wi_cons, Bool.or_eq_false_iff] at h
  rw [putL_cons, wi_cons, Bool.or_eq_false_iff]
  refine ⟨?_, put_Wn hl hL r h.2⟩
  have h1 := h.1
  unfold wiT at h1
  rw [Bool.or_eq_false_iff] at h1
  have ih := put_Wn hl hL ar h1.2
  have h2 := h1.1
  simp only [Bool.or_eq_false_iff, Bool.not_eq_false'] at h2
  show wiT (badN ts) (putT ps L (nm, ar)) = false
  unfold putT putA
  by_cases hp : parS nm = true
  ·have h3 : nm ∈ ps := by
    have := h2.2
    rw [hp, Bool.true_and, Bool.not_eq_false'] at this
    exact of_decide_eq_true this
   have h4 := idxOf_in h3
   rw [if_pos ⟨hp, h4.1, by have := h4.2; show idxOf ps nm < _; omega⟩]
   obtain ⟨x, hx⟩ := Fo.get_lt (l := L) (k := (idxOf ps nm).toNat) (by omega)
   rw [hx]
   exact wiL_get hL hx
  ·rw [if_neg (fun h => hp h.1)]
   show wiT (badN ts) (nm, putL ps L ar) = false
   unfold wiT
   rw [Bool.or_eq_false_iff]
   refine ⟨?_, ih⟩
   have e1 : nameT ts (nm, putL ps L ar) = nameT ts (nm, ar) := rfl
   have e2 : countsT ts (nm, putL ps L ar) = countsT ts (nm, ar) := by unfold countsT; rw [show (nm, putL ps L ar).2.len = (nm, ar).2.len from putL_len ps L ar]
   unfold badN
   rw [e1, e2, h2.1.1, h2.1.2]
   simp only [Bool.false_or, Bool.not_true, Bool.or_false]
   simpa using hp
theorem FOk.put {ts : List TD} {ps : List By} {L : Fo} {a : Ty} (h : FOk ts ps a) (hl : L.len = ps.length) (hL : wiL (badN ts) L = false) : Wn ts (putT ps L a) := by
 have := put_Wn hl hL (.cons a.1 a.2 .nil) (by rw [wi_cons]; show (_ || false) = false; rw [Bool.or_false]; exact h)
 rw [putL_cons, wi_cons, Bool.or_eq_false_iff] at this
 exact this.1
theorem consBad_no : ∀ {l : List CD} {cn : List By}, consBad cn l = false → (l.map CD.nm).Nodup ∧ ∀ c ∈ l, c.nm ∉ cn
 | [], _, _ => ⟨List.nodup_nil, fun c h => by cases h⟩
 | c :: r, cn, h => by
  unfold consBad at h
  simp only [Bool.or_eq_false_iff, decide_eq_false_iff_not] at h
  obtain ⟨h1, h2⟩ := consBad_no h.2
  rw [List.map_cons, List.nodup_cons]
  refine ⟨⟨fun hm => ?_, h1⟩, fun x hx => ?_⟩
  ·obtain ⟨y, hy, e⟩ := List.mem_map.1 hm
   exact h2 y hy (by rw [e]; exact List.mem_append_right _ (List.mem_singleton.2 rfl))
  ·rcases List.mem_cons.1 hx with rfl | hx
   ·exact h.1.1
   ·exact fun hm => h2 x hx (List.mem_append_left _ hm)
theorem dupE_no : ∀ {l : List TD} {tn cn : List By}, dupE tn cn l = false → (∀ x ∈ l, badT [] x = false ∧ x.nm ∉ tn ∧ (x.cs.map CD.nm).Nodup ∧ ∀ c ∈ x.cs, c.nm ∉ cn) ∧ (l.map TD.nm).Nodup ∧ (cnames l).Nodup
 | [], _, _, _ => ⟨fun x hx => (List.not_mem_nil hx).elim, List.nodup_nil, List.nodup_nil⟩
 | x :: r, tn, cn, h => by
  unfold dupE at h
  rw [Bool.or_eq_false_iff, Bool.or_eq_false_iff] at h
  obtain ⟨h1, h2, h3⟩ := dupE_no h.2
  obtain ⟨h4, h5⟩ := consBad_no h.1.2
  have h6 := h.1.1
  unfold badT at h6
  simp only [Bool.or_eq_false_iff, decide_eq_false_iff_not] at h6
  refine ⟨fun y hy => ?_, ?_, ?_⟩
  ·rcases List.mem_cons.1 hy with rfl | hy
   ·refine ⟨?_, h6.1.1.1, h4, h5⟩
    unfold badT
    simp only [Bool.or_eq_false_iff, decide_eq_false_iff_not]
    exact ⟨⟨⟨List.not_mem_nil, h6.1.1.2⟩, h6.1.2⟩, h6.2⟩
   ·obtain ⟨g1, g2, g3, g4⟩ := h1 y hy
    exact ⟨g1, fun hm => g2 (List.mem_append_left _ hm), g3, fun c hc hm => g4 c hc (List.mem_append_left _ hm)⟩
  ·rw [List.map_cons, List.nodup_cons]
   refine ⟨fun hm => ?_, h2⟩
   obtain ⟨y, hy, e⟩ := List.mem_map.1 hm
   exact (h1 y hy).2.1 (by rw [e]; exact List.mem_append_right _ (List.mem_singleton.2 rfl))
  ·unfold cnames
   rw [List.flatMap_cons, List.nodup_append]
   refine ⟨h4, h3, fun a ha b hb e => ?_⟩
   subst e
   obtain ⟨y, hy, hc⟩ := List.mem_flatMap.1 hb
   obtain ⟨c, hc, e⟩ := List.mem_map.1 hc
   exact (h1 y hy).2.2.2 c hc (by rw [e]; exact List.mem_append_right _ ha)
structure TOk (ts : List TD) : Prop where
  dup : dupE [] [] ts = false
  fe : typesFE ts ts = 0
  full : fullE ts = 0
theorem find_uniq {α : Type} {key : α → By} : ∀ {l : List α} {x : α}, (l.map key).Nodup → x ∈ l → l.find? (fun y => decide (key x = key y)) = some x
 | y :: r, x, hn, hx => by
  rw [List.map_cons, List.nodup_cons] at hn
  rw [List.find?_cons]
  by_cases e : key x = key y
  ·rcases List.mem_cons.1 hx with rfl | hx
   ·rw [decide_eq_true e]
   ·exact absurd (List.mem_map.2 ⟨x, hx, e⟩) hn.1
  ·rw [decide_eq_false e]
   exact find_uniq hn.2 ((List.mem_cons.1 hx).resolve_left fun h => e (by rw [h]))
theorem consFrom_mem {x : TD} : ∀ {i : Nat} {l : List CD} {c : CD}, c ∈ l → ∃ k ∈ consFrom x i l, k.nm = c.nm ∧ k.ty = x.nm ∧ k.ps = x.ps ∧ k.fs = c.fs
 | i, d :: r, c, h => by
  rcases List.mem_cons.1 h with rfl | h
  ·exact ⟨_, List.mem_cons_self .., rfl, rfl, rfl, rfl⟩
  ·obtain ⟨k, hk, h1⟩ := consFrom_mem (i := i + 1) h
   exact ⟨k, List.mem_cons_of_mem _ hk, h1⟩
theorem TOk.cons {ts : List TD} (h : TOk ts) {d : TD} {c : CD} (hd : d ∈ ts) (hc : c ∈ d.cs) : ∃ k, findC (consOf ts) c.nm = some k ∧ k.ty = d.nm ∧ k.ps = d.ps ∧ k.fs = c.fs := by
 obtain ⟨k, hk, h1, h2⟩ := consFrom_mem (x := d) (i := 0) hc
 have hm : k ∈ consOf ts := List.mem_flatMap.2 ⟨d, hd, hk⟩
 have := find_uniq (key := KC.nm) (by rw [consOf_nm]; exact (dupE_no h.dup).2.2) hm
 rw [h1] at this
 exact ⟨k, this, h2⟩
theorem TOk.findT {ts : List TD} (h : TOk ts) {d : TD} (hd : d ∈ ts) : findT ts d.nm = some d := find_uniq (key := TD.nm) (dupE_no h.dup).2.1 hd
theorem rch_of {l : List TD} {k : List By} (h : Rch l k) : ∀ s ∈ k, s ∈ full0 ∨ ∃ x ∈ l, x.nm = s ∧ x.cs ≠ [] := by
 induction h with
 | base => exact fun s hs => .inl hs
 | @step k x hk hx hn ho ih =>
  intro s hs
  rcases List.mem_append.1 hs with hs | hs
  ·exact ih s hs
  ·rw [List.mem_singleton] at hs
   subst hs
   refine .inr ⟨x, hx, rfl, fun e => ?_⟩
   unfold tyOK at ho
   rw [e] at ho
   cases ho
theorem TOk.some {ts : List TD} (h : TOk ts) {d : TD} (hd : d ∈ ts) : d.cs ≠ [] := by
 have h1 := h.full
 unfold fullE at h1
 split at h1
 ·rename_i h2
  have h3 := of_decide_eq_true (List.all_eq_true.1 h2 d hd)
  have h4 := ((dupE_no h.dup).1 d hd).1
  unfold badT at h4
  simp only [Bool.or_eq_false_iff, decide_eq_false_iff_not] at h4
  rcases rch_of (fullK_rch ts) d.nm h3 with h5 | ⟨x, hx, e, h6⟩
  ·exfalso
   have h7 := h4.1.1.2
   unfold plainS at h7
   simp only [Bool.or_eq_false_iff, decide_eq_false_iff_not] at h7
   unfold full0 at h5
   simp only [List.mem_cons, List.not_mem_nil, or_false] at h5
   rcases h5 with h5 | h5 | h5 | h5
   ·exact h7.1.1.1 h5
   ·exact h7.1.1.2 h5
   ·exact h7.1.2 h5
   ·exact h7.2 h5
  ·have e1 := h.findT hx
   have e2 := h.findT hd
   rw [e, e2] at e1
   cases e1
   exact h6
 ·cases h1
end Go.Cv
namespace Go.Proofs.YtgefmjghdijbfaaGreatDoor
open Go Go.Wk Go.Un Go.De
set_option linter.unusedSimpArgs false
set_option linter.unusedVariables false
attribute [local irreducible] Go.wpList Go.Code.wp Go.wpStill Go.Wk.wpPre Go.bodyPost Go.Calls Go.Wk.Ct Go.Wk.OwnS Go.Wk.wpG Go.Wk.wpM
theorem FoM.pos {F : Heap} {ao : Option Addr} {l : Fo} {k : Nat} (hpos : 0 < l.len → ∃ b o, ao = some ⟨b, o, none⟩ ∧ FoM F l b o) (hk : k < l.len) : ∃ b o, ao = some ⟨b, o, none⟩ ∧ ∃ x v, l.get? k = some x ∧ Cels F b (o + k * 2) [.string (bs x.1), v] ∧ SlF F v x.2 := by
 obtain ⟨b, o, e, h⟩ := hpos (by omega)
 obtain ⟨x, hx⟩ := Fo.get_lt hk
 obtain ⟨cs, h1, h2, v, rfl, h3⟩ := h.at hx
 exact ⟨b, o, e, x, v, hx, h1, h3⟩
section
variable {P : Program} {n : Sz} {L : List (Nat × Value)} {w0 : World} {F0 : Heap} {K0 : List Nat} {F : Heap} {G : List Grp} {a : Act} {w : World} {o : Oper}
theorem sv_addW {x y : Operand} {p q : Int} {t yt : TypeId} (S : St n L w0 F0 K0 F G a w) (ho : o.op = .binOp .add t x y yt) (hx : ev L x = some (.int .i64 p)) (hy : ev L y = some (.int .i64 q)) : SV P o a w (.int .i64 (IntKind.i64.wrap (p + q))) :=
 run_intOp S ho hx hy (by simp [binOp, Op.intArith])
theorem sv_subW {x y : Operand} {p q : Int} {t yt : TypeId} (S : St n L w0 F0 K0 F G a w) (ho : o.op = .binOp .sub t x y yt) (hx : ev L x = some (.int .i64 p)) (hy : ev L y = some (.int .i64 q)) : SV P o a w (.int .i64 (IntKind.i64.wrap (p - q))) :=
 run_intOp S ho hx hy (by simp [binOp, Op.intArith])
end
def CbT (F : Heap) (fid : FuncId) (fi ca : List Value) (p : Ty → Bool) : Prop := ∀ (F' : Heap) (x : Ty) (cs : List Value), (∀ b o, F b = some o → F' b = some o) → TyC F' cs x.1 x.2 → Ct Tryz.prog fid (fi ++ [.agg ⟨cs⟩] ++ ca) F' [] (fun _ _ u => u = .bool (p x))
theorem CbT.mono {F F' : Heap} {fid : FuncId} {fi ca : List Value} {p : Ty → Bool} (h : CbT F fid fi ca p) (hF : ∀ b o, F b = some o → F' b = some o) : CbT F' fid fi ca p := fun F2 x cs h2 => h F2 x cs fun b o hb => h2 _ _ (hF _ _ hb)
structure TyS (F : Heap) (tb m1 : Nat) (ts : List TD) : Prop where
  c : Cel F tb 0 (.map (some m1))
  m : MapS F TdR TD.nm m1 ts
theorem TyS.mono {F F' : Heap} {tb m1 : Nat} {ts : List TD} (hF : ∀ b o, F b = some o → F' b = some o) (h : TyS F tb m1 ts) : TyS F' tb m1 ts := ⟨h.c.mono hF, h.m.mono hF⟩
def FThin (l : List FD) : Prop := ∀ x ∈ l, x.ta.len * 40 ≤ 140737488355328 ∧ Thin x.ta
def CntE (es : List (List UInt8 × Value)) (k : List (List UInt8)) : Prop := ∀ nm, (mGet es nm).getD (.int .i64 0) = .int .i64 ((k.count nm : Nat) : Int)
theorem CntE.set {es : List (List UInt8 × Value)} {k : List (List UInt8)} (h : CntE es k) (nm : List UInt8) : CntE (mSet es nm (.int .i64 ((k.count nm + 1 : Nat) : Int))) (k ++ [nm]) := fun x => by
 rw [List.count_append, List.count_singleton]
 by_cases e : nm = x
 ·subst e
  rw [mGet_set, if_pos rfl]
  simp
 ·rw [mGet_set, if_neg (fun h2 => e h2.symm), h x]
  have : (nm == x) = false := by simpa using e
  rw [this]; simp
structure TabS (F : Heap) (tb m1 m2 m3 : Nat) (ts : List TD) (css : List KC) (rs : List RD) : Prop where
  c : Cels F tb 0 [.map (some m1), .map (some m2), .map (some m3)]
  t : MapS F TdR TD.nm m1 ts
  k : MapS F KcR KC.nm m2 css
  r : MapS F RdR RD.nm m3 rs
theorem TabS.mono {F F' : Heap} {tb m1 m2 m3 : Nat} {ts : List TD} {css : List KC} {rs : List RD} (hF : ∀ b o, F b = some o → F' b = some o) (h : TabS F tb m1 m2 m3 ts css rs) : TabS F' tb m1 m2 m3 ts css rs := ⟨Cels.mono hF h.c, h.t.mono hF, h.k.mono hF, h.r.mono hF⟩
theorem TabS.ty {F : Heap} {tb m1 m2 m3 : Nat} {ts : List TD} {css : List KC} {rs : List RD} (h : TabS F tb m1 m2 m3 ts css rs) : TyS F tb m1 ts := ⟨h.c 0 _ rfl, h.t⟩
def zKC : KC := ⟨[], [], [], 0, []⟩
end Go.Proofs.YtgefmjghdijbfaaGreatDoor
namespace Go.Wk
open Go
set_option linter.unusedVariables false
set_option linter.unusedSimpArgs false
section
variable {α : Type} [DecidableEq α] {P : Program} {n : Sz} {L : List (Nat × Value)} {w0 : World} {F0 : Heap} {K0 : List Nat} {F : Heap} {G : List Grp} {a : Act} {w : World} {ops : Array Oper} {Q : Exit → Act → World → Prop} {rest : List Oper} {o : Oper}
theorem wpl_mapIns {d : TypeDesc} {enc : α → Value} [hk : KeyK d enc] {t kt e : TypeId} {x y z : Operand} {b : Nat} {es : List (α × Value)} {R} {k : α} {v : Value} [ht : Und P t (.map kt e)] [hd : Und P kt d] [hh : Has G b (mObj enc es) R]
  (S : St n L w0 F0 K0 F G a w) (hg : o.guard = none) (ho : o.op = .insert t x y z) (hdst : o.dst = none) (hx : ev L x = some (.map (some b))) (hy : ev L y = some (enc k)) (hz : ev L z = some v)
  (kk : ∀ w', St n L w0 F0 K0 F (R [(b, mObj enc (mSet es k v))]) a w' → wpList P ops Q rest a w') : wpList P ops Q (o :: rest) a w := by
 refine wpList_plain hg fun K hK => ?_
 have hb := S.has hh
 have hr : (Instr.mapUpdate t (.map (some b)) (enc k) v).run P w = .ok () (w.putObj b (mObj enc (mSet es k v))) := by
  unfold Instr.mapUpdate
  have hg := run_getMap (P := P) hb
  have hc := hk.chk P w kt false k hd.h
  simp only [Sem.run_bind, run_underlying ht.h, Result.andThen_ok, hg, Sem.run_pure, hc, run_findKey (d := d) hd.h w es k]
  cases hf : List.findIdx? (fun p => decide (k = p.1)) es with
  | none =>
   have hn : mGet es k = none := by rw [mGet_idx, hf]; rfl
   simp only [Option.map_none, mSet_new hn, mObj, mEnt_append]
   simp only [mObj] at hb
   simp [setObj, Sem.run, hb, World.putObj, Array.set!]
  | some j =>
   obtain ⟨h1, h2, h3⟩ := mEnt_modify enc k v 0 es j hf
   simp only [Option.map_some, Sem.run_bind, mObj, List.getElem?_toArray, h2, Option.getD_some]
   unfold Instr.keyThatStays
   rw [if_pos (hk.bits k)]
   simp only [Sem.run_pure, Result.andThen_ok, List.modify_toArray, h1, h3]
   simp only [mObj] at hb
   simp [setObj, Sem.run, hb, World.putObj, Array.set!]
 unfold Oper.wp execOp
 rw [ho]
 simp [S.fr.eval hx, S.fr.eval hy, S.fr.eval hz, hr, Oper.upon_skip, hdst, Act.put]
 exact hK _ _ (kk _ (S.write hh rfl rfl rfl (by simp) (World.putObj_heap_same (heap_lt hb)) fun j hj => World.putObj_heap_other hj))
end
end Go.Wk
namespace Go.Proofs.YtgefmjghdijbfaaGreatDoor
open Go Go.Wk Go.Un Go.De Go.RowKit Go.Extern.Stop Go.Stop Go.Extern
set_option linter.unusedSimpArgs false
set_option linter.unusedVariables false
attribute [local irreducible] Go.wpList Go.Code.wp Go.wpStill Go.Wk.wpPre Go.bodyPost Go.Calls Go.Wk.Ct Go.Wk.OwnS Go.Wk.wpG Go.Wk.wpM
structure HasM (F : Heap) (b6 b5 mb : Nat) (es : List (List UInt8 × Value)) (k : List (List UInt8)) : Prop where
  c6 : Cel F b6 0 (.func (.func 176) ⟨[]⟩ ⟨[.pointer (some ⟨b6, 0, none⟩), .pointer (some ⟨b5, 0, none⟩)]⟩)
  c5 : Cel F b5 0 (.map (some mb))
  m : F mb = some (mObj kS es)
  e : CntE es k
theorem HasM.mono {F F' : Heap} {b6 b5 mb : Nat} {es : List (List UInt8 × Value)} {k : List (List UInt8)} (hF : ∀ b o, F b = some o → F' b = some o) (h : HasM F b6 b5 mb es k) : HasM F' b6 b5 mb es k := ⟨h.c6.mono hF, h.c5.mono hF, hF _ _ h.m, h.e⟩
abbrev hd (t : Nat) : Value := .pointer (some ⟨9, t, none⟩)
def ErrT (F : Heap) : Prop := Cel F 0 0 (.iface 208 (.agg #[hd 119]))
end Go.Proofs.YtgefmjghdijbfaaGreatDoor
