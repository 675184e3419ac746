/- Walks. -/
import Derived.Test.YtgefmjghdijbfaaGreatDoorQ14
import Derived.Test.YtgefmjghdijbfaaGreatDoorQ10
import Derived.Test.YtgefmjghdijbfaaGreatDoorQ05
import Derived.Test.YtgefmjghdijbfaaGreatDoorQ11
import Derived.Test.YtgefmjghdijbfaaGreatDoorQShelf
import Derived.Lib.ItoaMem
import Derived.Lib.AppendIntMem
set_option maxHeartbeats 8000000
namespace Go.Proofs.YtgefmjghdijbfaaGreatDoor
open Go Go.Wk Go.Un Go.De
set_option linter.unusedSimpArgs false
set_option linter.unusedVariables false
attribute [local irreducible] Go.wpList Go.Code.wp Go.wpStill Go.Wk.wpPre Go.bodyPost Go.Calls Go.Wk.Ct Go.Wk.OwnS Go.Wk.wpG Go.Wk.wpM
theorem isNaN3 (x : Int) (F : Heap) : Ct Tryz.prog 264 [.int .u8 x] F [] (fun _ _ u => u = .bool false) := by
 refine Ct.enter Tryz.func264 rfl Tryz.ntmps264 rfl fun w0 a S => ?_
 (revert S a; refine go 11 ?_; intro a S)
 refine wp_ret (fr1 S Tryz.results264 ?_)
 (simp)
theorem isNaN4 (s : List UInt8) (F : Heap) : Ct Tryz.prog 265 [.string (bs s)] F [] (fun _ _ u => u = .bool false) := by
 refine Ct.enter Tryz.func265 rfl Tryz.ntmps265 rfl fun w0 a S => ?_
 (revert S a; refine go 11 ?_; intro a S)
 refine wp_ret (fr1 S Tryz.results265 ?_)
 (simp)
theorem compare3 (x y : Int) (F : Heap) : Ct Tryz.prog 248 [.int .u8 x, .int .u8 y] F [] (fun _ _ u => u = .int .i64 (cmpI x y)) := by
 refine Ct.enter Tryz.func248 rfl Tryz.ntmps248 rfl fun w0 a S => ?_
 (revert S a; refine go 6 ?_; intro Z hZ a S)
 (refine wc0 S (isNaN3 _ F) ?_; clear S a; intro v a w hv S; subst hv)
 (revert S a; revert hZ Z; refine go 5 ?_; intro Z hZ a S)
 (refine wc0 S (isNaN3 _ F) ?_; clear S a; intro v a w hv S; subst hv)
 (revert S a; revert hZ Z; refine go 8 ?_; intro Z hZ a S)
 refine wpc_split S rfl (fun h => ?_) (fun h => ?_)
 ·(skip; (try simp only [tq] at h); cases h)
 (skip; (try simp only [tq] at h))
 (revert S a; revert hZ Z; refine go 7 ?_; intro Z hZ a S)
 refine wpc_split S rfl (fun h => ?_) (fun h => ?_)
 ·(skip; (try simp only [tq] at h); cases h)
 (skip; (try simp only [tq] at h))
 (revert S a; revert hZ Z; refine go 9 ?_; intro Z hZ a S)
 refine wpc_sp S rfl ?_ ?_ <;> intro h
 ·(revert S a; refine go 4 ?_; intro a S)
  refine wp_ret (fr1 S Tryz.results248 ?_)
  (unfold cmpI; (repeat (first | rw [if_pos (by assumption)] | rw [if_neg (by omega)])))
 (revert S a; revert hZ Z; refine go 9 ?_; intro Z hZ a S)
 refine wpc_sp S rfl ?_ ?_ <;> intro h
 ·(revert S a; refine go 4 ?_; intro a S)
  refine wp_ret (fr1 S Tryz.results248 ?_)
  (unfold cmpI; (repeat (first | rw [if_pos (by assumption)] | rw [if_neg (by omega)])))
 (revert S a; revert hZ Z; refine go 6 ?_; intro a S)
 refine wp_ret (fr1 S Tryz.results248 ?_)
 (unfold cmpI; (repeat (first | rw [if_pos (by assumption)] | rw [if_neg (by omega)])))
theorem compare4 (s t : List UInt8) (F : Heap) : Ct Tryz.prog 250 [.string (bs s), .string (bs t)] F [] (fun _ _ u => u = .int .i64 (cS s t)) := by
 refine Ct.enter Tryz.func250 rfl Tryz.ntmps250 rfl fun w0 a S => ?_
 (revert S a; refine go 6 ?_; intro Z hZ a S)
 (refine wc0 S (isNaN4 _ F) ?_; clear S a; intro v a w hv S; subst hv)
 (revert S a; revert hZ Z; refine go 5 ?_; intro Z hZ a S)
 (refine wc0 S (isNaN4 _ F) ?_; clear S a; intro v a w hv S; subst hv)
 (revert S a; revert hZ Z; refine go 8 ?_; intro Z hZ a S)
 refine wpc_split S rfl (fun h => ?_) (fun h => ?_)
 ·(skip; (try simp only [tq] at h); cases h)
 (skip; (try simp only [tq] at h))
 (revert S a; revert hZ Z; refine go 7 ?_; intro Z hZ a S)
 refine wpc_split S rfl (fun h => ?_) (fun h => ?_)
 ·(skip; (try simp only [tq] at h); cases h)
 (skip; (try simp only [tq] at h))
 (revert S a; revert hZ Z; refine go 9 ?_; intro Z hZ a S)
 refine wpc_sp S rfl ?_ ?_ <;> intro h
 ·(revert S a; refine go 4 ?_; intro a S)
  refine wp_ret (fr1 S Tryz.results250 ?_)
  (unfold cS; congr 1; simp_all)
 (revert S a; revert hZ Z; refine go 6 ?_; intro Z hZ Z hZ a S)
 (refine wv S (sv_gtrS S rfl rfl rfl) ?_; clear S a; intro a S)
 (revert S a; revert hZ Z; refine go 2 ?_; intro a S)
 refine wpc_sp S rfl ?_ ?_ <;> intro h
 ·(revert S a; refine go 4 ?_; intro a S)
  refine wp_ret (fr1 S Tryz.results250 ?_)
  (unfold cS; congr 1; simp_all)
 (revert S a; revert hZ Z; refine go 6 ?_; intro a S)
 refine wp_ret (fr1 S Tryz.results250 ?_)
 (unfold cS; congr 1; simp_all)
def IntR (_ : Heap) (x : Int) (cs : List Value) : Prop := cs = [.int .i64 x]
theorem zzCm0 {p : Prop} (h : p := by (congr 1; rw [← hfp]; first | (rw [drop_at hx]; show _ = or2 x _; unfold or2; rw [if_pos (by omega)]; done) | (rw [List.drop_eq_nil_of_le (by omega)]; rfl) | trace_state)) : p := h
theorem orN (F : Heap) (v : Value) (l : List Int) (hl : l.length ≤ 10) (h : LiM F 1 IntR v l) : Ct Tryz.prog 251 [v] F [] (fun _ _ u => u = .int .i64 (l.foldr or2 0)) := by
 obtain ⟨ao, cap, rfl, hcap, hpos⟩ := h
 refine Ct.enter Tryz.func251 rfl Tryz.ntmps251 rfl fun w0 a S => ?_
 (revert S a; refine go 16 ?_; intro Z hZ a S)
 refine wpc_loop (fun m a w' => ∃ (k : Nat), m = l.length - k ∧ k ≤ l.length ∧ (l.drop k).foldr or2 0 = l.foldr or2 0 ∧ St 18 [(3, .int .i64 0), (6, .slice ao l.length cap), (7, .int .i64 l.length), (8, .int .i64 k)] w0 F [] F [] a w') ?_ ?_
 ·(refine ⟨l.length, 0, by omega, Nat.zero_le _, rfl, ?_⟩; refine S.keep ?_; exact zk)
 (clear S; rintro m a w ⟨k, rfl, hkl, hfp, S⟩)
 (revert S a; refine go 5 ?_; intro Z hZ a S)
 refine wpc_sp S rfl ?_ ?_ <;> intro h
 ·(revert S a; revert hZ Z; refine go 4 ?_; intro Z hZ a S)
  (refine wp_seq_k ?_; intro Z hZ)
  (obtain ⟨b8, o8, rfl, x, cs1, hx, hc1, rfl⟩ := LiM.pos hpos (k := k) (by omega))
  (revert S a; refine go 2 ?_; intro a S)
  (refine wv S (sv_loadF S rfl rfl (hc1 0 _ rfl)) ?_; clear S a; intro a S)
  (revert S a; revert hZ Z; refine go 9 ?_; intro a S)
  refine wpc_sp S rfl ?_ ?_ <;> intro h
  ·(revert S a; refine go 5 ?_; intro a S)
   refine wp_ret (fr1 S Tryz.results251 ?_)
   exact zzCm0
  (revert S a; revert hZ Z; refine go 6 ?_; intro a S)
  change ∃ m', _ ∧ _
  (refine ⟨l.length - (k + 1), by omega, k + 1, rfl, by omega, ?_, ?_⟩; rotate_left 1; (refine S.keep ?_; exact zk); rw [← hfp, drop_at hx]; show _ = or2 x _; unfold or2; rw [if_neg (by omega)])
 (refine wp_exit ?_; conv => whnf)
 clear hZ Z
 (revert S a; revert hZ Z; refine go 6 ?_; intro a S)
 refine wp_ret (fr1 S Tryz.results251 ?_)
 exact zzCm0
theorem hasP_dash (s : List UInt8) : hasP s [45] = decide (s.take 1 = [45]) := by
 unfold hasP
 cases s with
 | nil => rfl
 | cons c r => simp; rfl
theorem prefCt (F : Heap) (s : List UInt8) (hs : s.length ≤ 140737488355328) : Ct Tryz.prog 170 [.string (bs s), .string (bs [45])] F [] (fun _ _ u => u = .bool (decide (s.take 1 = [45]))) := by
 rw [← hasP_dash]
 refine Ct.enter Tryz.func170 rfl Tryz.ntmps170 rfl fun w0 a S => ?_
 (revert S a; refine go 7 ?_; intro Z hZ a S)
 (refine wc0 S (hasPfxCt s [45] F hs (by decide)) ?_; clear S a; intro v a w hv S; subst hv)
 (revert S a; revert hZ Z; refine go 3 ?_; intro a S)
 refine wp_ret (fr1 S Tryz.results170 ?_)
 rfl
theorem take1_len {s : List UInt8} (h : s.take 1 = [45]) : 1 ≤ s.length := by
 cases s with
 | nil => cases h
 | cons c r => simp
theorem lim2 {F : Heap} {b : Nat} {x y : Int} {e : TypeId} {R} (h : F b = some (.cells ⟨[.int .i64 x, .int .i64 y]⟩ e R)) : LiM F 1 IntR (.slice (some ⟨b, 0, none⟩) 2 2) [x, y] := by
 refine ⟨_, _, rfl, ⟨Nat.le_refl 2, show 2 ≤ _ by decide⟩, fun _ => ⟨b, 0, rfl, fun k z hz => ?_⟩⟩
 match k, hz with
 | 0, hz => cases hz; exact ⟨_, fun j u hj => ⟨_, _, _, h, by match j, hj with | 0, hj => exact hj⟩, rfl, rfl⟩
 | 1, hz => cases hz; exact ⟨_, fun j u hj => ⟨_, _, _, h, by match j, hj with | 0, hj => exact hj⟩, rfl, rfl⟩
theorem lim3 {F : Heap} {b : Nat} {x y z : Int} {e : TypeId} {R} (h : F b = some (.cells ⟨[.int .i64 x, .int .i64 y, .int .i64 z]⟩ e R)) : LiM F 1 IntR (.slice (some ⟨b, 0, none⟩) 3 3) [x, y, z] := by
 refine ⟨_, _, rfl, ⟨Nat.le_refl 3, show 3 ≤ _ by decide⟩, fun _ => ⟨b, 0, rfl, fun k z hz => ?_⟩⟩
 match k, hz with
 | 0, hz => cases hz; exact ⟨_, fun j u hj => ⟨_, _, _, h, by match j, hj with | 0, hj => exact hj⟩, rfl, rfl⟩
 | 1, hz => cases hz; exact ⟨_, fun j u hj => ⟨_, _, _, h, by match j, hj with | 0, hj => exact hj⟩, rfl, rfl⟩
 | 2, hz => cases hz; exact ⟨_, fun j u hj => ⟨_, _, _, h, by match j, hj with | 0, hj => exact hj⟩, rfl, rfl⟩
theorem or2_z (x : Int) : or2 x 0 = x := by unfold or2; split <;> omega
theorem zzCm1 {p : Prop} (h : p := by (congr 1; show _ = (if s.take 1 = [45] ∧ t.take 1 = [45] then bigC n (t.drop 1) (s.drop 1) else if s.take 1 = [45] then -1 else if t.take 1 = [45] then 1 else or2 (cI s.length t.length) (cS s t)); first | (rw [if_pos (show s.take 1 = [45] ∧ t.take 1 = [45] from ⟨by assumption, by assumption⟩)]; done) | (rw [if_neg (by simp_all), if_pos (by assumption)]; done) | (rw [if_neg (by simp_all), if_neg (by simp_all), if_pos (by assumption)]; done) | (rw [if_neg (by simp_all), if_neg (by simp_all), if_neg (by simp_all)]; show or2 _ (or2 _ 0) = _; rw [or2_z]; rfl) | trace_state)) : p := h
theorem bigsCt : ∀ (n : Nat) (F : Heap) (s t : List UInt8), s.length + t.length < n → s.length ≤ 140737488355328 → t.length ≤ 140737488355328 → Ct Tryz.prog 249 [.string (bs s), .string (bs t)] F [] (fun _ _ u => u = .int .i64 (bigC n s t)) := by
 intro n
 induction n with
 | zero => intro F s t h; omega
 | succ n ih =>
 intro F s t hn hs ht
 have hps := prefCt F s hs
 have hpt := prefCt F t ht
 refine Ct.enter Tryz.func249 rfl Tryz.ntmps249 rfl fun w0 a S => ?_
 (revert S a; refine go 6 ?_; intro Z hZ a S)
 (refine wc0 S hps ?_; clear S a; intro v a w hv S; subst hv)
 (revert S a; refine go 1 ?_; intro a S)
 (refine wc0 S hpt ?_; clear S a; intro v a w hv S; subst hv)
 (revert S a; revert hZ Z; refine go 9 ?_; intro Z hZ Z hZ a S)
 refine wgd S ?_ ?_
 ·(clear S; intro h S)
  (revert S a; revert hZ Z; refine go 5 ?_; intro a S)
  refine wpc_sp S rfl ?_ ?_ <;> intro h
  ·(refine wp_seq_k ?_; intro Z hZ)
   (have l1 := take1_len (by assumption : s.take 1 = [45]); have l2 := take1_len (by assumption : t.take 1 = [45]))
   (refine wpc_mixM [0, 1, 2, 3] [] [] (.one 0 (.one 1 (.one 2 (.one 3 (.one 4 (.one 5 .nil)))))) [] S mixed (by kernel_rfl) ?_; clear S; intro w S)
   (revert S a; refine go 1 ?_; intro a S)
   (refine wpm_v S rfl rfl rfl (want_none _ rfl) rfl rfl (fun w' S => sv_sliceS_lo S rfl rfl rfl (by first | omega | (simp only [List.length_append, List.length_cons, List.length_nil]; omega))) ?_; clear S a; intro a S)
   (revert S a; refine go 1 ?_; intro a S)
   (refine wpm_v S rfl rfl rfl (want_none _ rfl) rfl rfl (fun w' S => sv_sliceS_lo S rfl rfl rfl (by first | omega | (simp only [List.length_append, List.length_cons, List.length_nil]; omega))) ?_; clear S a; intro a S)
   refine wpm_eff rfl rfl (kwa S) ?_
   (refine wc0 S (ih F (t.drop 1) (s.drop 1) (by simp; omega) (by simp; omega) (by simp; omega)) ?_; clear S a; intro v a w hv S; subst hv)
   (revert S a; revert hZ Z; refine go 6 ?_; intro a S)
   refine wp_ret (fr1 S Tryz.results249 ?_)
   exact zzCm1
  (revert S a; refine go 5 ?_; intro a S)
  refine wpc_sp S rfl ?_ ?_ <;> intro h
  ·(revert S a; refine go 4 ?_; intro a S)
   refine wp_ret (fr1 S Tryz.results249 ?_)
   exact zzCm1
  (revert S a; refine go 5 ?_; intro a S)
  refine wpc_sp S rfl ?_ ?_ <;> intro h
  ·(revert S a; refine go 4 ?_; intro a S)
   refine wp_ret (fr1 S Tryz.results249 ?_)
   exact zzCm1
  (revert S a; revert hZ Z; refine go 7 ?_; intro Z hZ a S)
  (refine wc0 S (compare1 _ _ F) ?_; clear S a; intro v a w hv S; subst hv)
  (revert S a; refine go 2 ?_; intro a S)
  (refine wc0 S (compare4 s t F) ?_; clear S a; intro v a w hv S; subst hv)
  (refine wpl_buildSlice S rfl rfl rfl rfl rfl rfl (by rfl) (by simp [Value.cells, splice, splice]) rfl (by rfl) (by rfl) ?_; clear S a; intro b33 a w hown S)
  (replace S := St.pullB b33 S; have S' := frz1 S; clear S; obtain ⟨F5, hle5, hb33, S⟩ := S'; refine wc0 S (orN F5 _ [cmpI s.length t.length, cS s t] (show 2 ≤ 10 by decide) (lim2 hb33)) ?_; clear S a; intro v a w hv S; subst hv)
  (revert S a; revert hZ Z; refine go 3 ?_; intro a S)
  refine wp_ret (fr1 S Tryz.results249 ?_)
  exact zzCm1
 (clear S a; intro h a S)
 (revert S a; revert hZ Z; refine go 4 ?_; intro a S)
 refine wpc_false S rfl ?_
 (revert S a; refine go 5 ?_; intro a S)
 refine wpc_sp S rfl ?_ ?_ <;> intro h
 ·(revert S a; refine go 4 ?_; intro a S)
  refine wp_ret (fr1 S Tryz.results249 ?_)
  exact zzCm1
 (revert S a; refine go 5 ?_; intro a S)
 refine wpc_sp S rfl ?_ ?_ <;> intro h
 ·(revert S a; refine go 4 ?_; intro a S)
  refine wp_ret (fr1 S Tryz.results249 ?_)
  exact zzCm1
 (revert S a; revert hZ Z; refine go 7 ?_; intro Z hZ a S)
 (refine wc0 S (compare1 _ _ F) ?_; clear S a; intro v a w hv S; subst hv)
 (revert S a; refine go 2 ?_; intro a S)
 (refine wc0 S (compare4 s t F) ?_; clear S a; intro v a w hv S; subst hv)
 (refine wpl_buildSlice S rfl rfl rfl rfl rfl rfl (by rfl) (by simp [Value.cells, splice, splice]) rfl (by rfl) (by rfl) ?_; clear S a; intro b33 a w hown S)
 (replace S := St.pullB b33 S; have S' := frz1 S; clear S; obtain ⟨F5, hle5, hb33, S⟩ := S'; refine wc0 S (orN F5 _ [cmpI s.length t.length, cS s t] (show 2 ≤ 10 by decide) (lim2 hb33)) ?_; clear S a; intro v a w hv S; subst hv)
 (revert S a; revert hZ Z; refine go 3 ?_; intro a S)
 refine wp_ret (fr1 S Tryz.results249 ?_)
 exact zzCm1
def CmpC (n : Nat) : Prop := ∀ (F : Heap) (h : VH) (L : Vf) (h2 : VH) (L2 : Vf) (cs cs2 : List Value), L.size < n → VaC F cs h L → VaC F cs2 h2 L2 → Ct Tryz.prog 229 [.agg ⟨cs⟩, .agg ⟨cs2⟩] F [] (fun _ _ u => u = .int .i64 (cmpH h L h2 L2))
theorem rows1Ct {n : Nat} (hC : CmpC n) (F : Heap) (h : VH) (L : Vf) (h2 : VH) (L2 : Vf) (cs cs2 : List Value) (hn : L.size < n) (hV : VaC F cs h L) (hV2 : VaC F cs2 h2 L2) : Ct Tryz.prog 228 [.agg ⟨cs⟩, .agg ⟨cs2⟩] F [] (fun _ _ u => u = .int .i64 (cmpH h L h2 L2)) := by
 have hc := hC F h L h2 L2 cs cs2 hn hV hV2
 obtain ⟨v1, rfl, ⟨a1, c1, rfl, -⟩, -⟩ := hV
 obtain ⟨v2, rfl, ⟨a2, c2, rfl, -⟩, -⟩ := hV2
 refine Ct.enter Tryz.func228 rfl Tryz.ntmps228 rfl fun w0 a S => ?_
 refine wp_sr fun Z hZ => ?_
 (refine wbx S ?_; clear S a; intro b2 a w S)
 (refine wbx S ?_; clear S a; intro b3 a w S)
 (revert S a; revert hZ Z; refine go 6 ?_; intro Z hZ a S)
 (refine wc0 S (hc) ?_; clear S a; intro v a w hv S; subst hv)
 (revert S a; revert hZ Z; refine go 3 ?_; intro a S)
 refine wp_ret (fr1 S Tryz.results228 ?_)
 rfl
theorem cmpL_drop {l m : Vf} {k : Nat} {x y : VH × Vf} (hx : l.get? k = some x) (hy : m.get? k = some y) : cmpL (l.drop k) (m.drop k) = or2 (cmpH x.1 x.2 y.1 y.2) (cmpL (l.drop (k + 1)) (m.drop (k + 1))) := by
 rw [Rose.drop_get hx, Rose.drop_get hy]; rfl
theorem cmpL_lend {l m : Vf} {k : Nat} {x : VH × Vf} (hx : l.get? k = some x) (hm : m.len ≤ k) : cmpL (l.drop k) (m.drop k) = 1 := by
 rw [Rose.drop_get hx, Rose.drop_len hm]; rfl
theorem cmpL_end {l m : Vf} {k : Nat} (hl : l.len ≤ k) : cmpL (l.drop k) (m.drop k) = if k < m.len then -1 else 0 := by
 rw [Rose.drop_len hl]
 by_cases hm : k < m.len
 ·obtain ⟨y, hy⟩ := Rose.get_lt hm
  rw [Rose.drop_get hy, if_pos hm]; rfl
 ·rw [Rose.drop_len (by omega), if_neg hm]; rfl
theorem zzCm2 {p : Prop} (h : p := by (congr 1; rw [← hfp]; first | (rw [cmpL_lend hx (by omega)]; done) | (rw [cmpL_drop hx hy]; unfold or2; rw [if_pos (by omega)]; done) | (rw [cmpL_end (by omega), if_pos (by omega)]; done) | (rw [cmpL_end (by omega), if_neg (by omega)]; done) | trace_state)) : p := h
theorem cfCt {n : Nat} (hC : CmpC n) (F : Heap) (l m : Vf) (v u : Value) (hn : l.size ≤ n) (hv : TrS F 4 VhR v l) (hu : TrS F 4 VhR u m) : Ct Tryz.prog 227 [v, u, .func (.func 228) ⟨[]⟩ ⟨[]⟩] F [] (fun _ _ u => u = .int .i64 (cmpL l m)) := by
 obtain ⟨ao, cap, rfl, hcap, hpos⟩ := hv
 obtain ⟨ao2, cap2, rfl, hcap2, hpos2⟩ := hu
 refine Ct.enter Tryz.func227 rfl Tryz.ntmps227 rfl fun w0 a S => ?_
 (revert S a; refine go 12 ?_; intro Z hZ a S)
 refine wpc_loop (fun q a w' => ∃ (k : Nat), q = l.len - k ∧ k ≤ l.len ∧ cmpL (l.drop k) (m.drop k) = cmpL l m ∧ St 39 [(0, .slice ao l.len cap), (1, .slice ao2 m.len cap2), (2, .func (.func 228) ⟨[]⟩ ⟨[]⟩), (11, .slice ao l.len cap), (12, .int .i64 l.len), (13, .int .i64 k)] w0 F [] F [] a w') ?_ ?_
 ·(refine ⟨l.len, 0, by omega, Nat.zero_le _, rfl, ?_⟩; refine S.keep ?_; exact zk)
 (clear S; rintro q a w ⟨k, rfl, hkl, hfp, S⟩)
 (revert S a; refine go 5 ?_; intro Z hZ a S)
 refine wpc_sp S rfl ?_ ?_ <;> intro h
 ·(revert S a; revert hZ Z; refine go 4 ?_; intro Z hZ a S)
  (refine wp_seq_k ?_; intro Z hZ)
  (obtain ⟨b8, o8, hao, x, cs1, v1, hx, hc1, hw9, hT1⟩ := TrM.pos hpos (k := k) (by omega); rw [hao] at S; have hxs := Rose.size_get hx; have hT1c := hT1; obtain ⟨a91, c91, rfl, -⟩ := hT1c; have hw9c := hw9.1; subst hw9c; (simp only [List.cons_append, List.nil_append] at hc1))
  (revert S a; refine go 4 ?_; intro a S)
  (refine wpl_alloc S rfl rfl rfl rfl ?_; clear S a; intro b8 a w S)
  (revert S a; refine go 1 ?_; intro a S)
  (refine wso S rfl rfl ?_; clear S; intro w S)
  (revert S a; revert hZ Z; refine go 10 ?_; intro Z hZ a S)
  refine wpc_sp S rfl ?_ ?_ <;> intro h
  ·(revert S a; refine go 4 ?_; intro a S)
   refine wp_ret (fr1 S Tryz.results227 ?_)
   exact zzCm2
  refine wp_skip ?_
  (refine hZ _ _ ?_; clear hZ Z)
  (refine wp_seq_k ?_; intro Z hZ)
  (obtain ⟨b9, o9, hao2, y, cs2, v2, hy, hc2, hw8, hT2⟩ := TrM.pos hpos2 (k := k) (by omega); rw [hao2] at S; have hT2c := hT2; obtain ⟨a92, c92, rfl, -⟩ := hT2c; have hw8c := hw8.1; subst hw8c; (simp only [List.cons_append, List.nil_append] at hc2))
  (revert S a; refine go 5 ?_; intro a S)
  (refine wpl_alloc S rfl rfl rfl rfl ?_; clear S a; intro b9 a w S)
  (refine wso S rfl rfl ?_; clear S; intro w S)
  (revert S a; revert hZ Z; refine go 6 ?_; intro Z hZ a S)
  (refine wc0 S (rows1Ct hC F x.1 x.2 y.1 y.2 _ _ (by omega) ⟨_, rfl, hT1, hw9.2⟩ ⟨_, rfl, hT2, hw8.2⟩) ?_; clear S a; intro v a w hv S; subst hv)
  (revert S a; revert hZ Z; refine go 8 ?_; intro a S)
  refine wpc_sp S rfl ?_ ?_ <;> intro h
  ·(revert S a; refine go 5 ?_; intro a S)
   refine wp_ret (fr1 S Tryz.results227 ?_)
   exact zzCm2
  (revert S a; revert hZ Z; refine go 6 ?_; intro a S)
  change ∃ m', _ ∧ _
  (rw [← hao, ← hao2] at S; replace S := S.drop1.drop1; refine ⟨l.len - (k + 1), by omega, k + 1, rfl, by omega, ?_, ?_⟩; rotate_left 1; (refine S.keep ?_; exact zk); rw [← hfp, cmpL_drop hx hy]; unfold or2; rw [if_neg (by omega)])
 (refine wp_exit ?_; conv => whnf)
 clear hZ Z
 (revert S a; revert hZ Z; refine go 10 ?_; intro Z hZ a S)
 refine wpc_sp S rfl ?_ ?_ <;> intro h
 ·(revert S a; refine go 4 ?_; intro a S)
  refine wp_ret (fr1 S Tryz.results227 ?_)
  exact zzCm2
 (revert S a; revert hZ Z; refine go 6 ?_; intro a S)
 refine wp_ret (fr1 S Tryz.results227 ?_)
 exact zzCm2
theorem rowsCt {n : Nat} (hC : CmpC n) (F : Heap) (l m : Vf) (v u : Value) (hn : l.size ≤ n) (hv : TrS F 4 VhR v l) (hu : TrS F 4 VhR u m) : Ct Tryz.prog 194 [v, u] F [] (fun _ _ u => u = .int .i64 (cmpL l m)) := by
 have hc := cfCt hC F l m v u hn hv hu
 obtain ⟨ao, cap, rfl, hcap, hpos⟩ := hv
 obtain ⟨ao2, cap2, rfl, hcap2, hpos2⟩ := hu
 refine Ct.enter Tryz.func194 rfl Tryz.ntmps194 rfl fun w0 a S => ?_
 (revert S a; refine go 7 ?_; intro Z hZ a S)
 (refine wc0 S (hc) ?_; clear S a; intro v a w hv S; subst hv)
 (revert S a; revert hZ Z; refine go 3 ?_; intro a S)
 refine wp_ret (fr1 S Tryz.results194 ?_)
 rfl
theorem cmpI_ne {a b : Nat} : cmpI (a : Int) (b : Int) ≠ 0 ↔ a ≠ b := by unfold cmpI; split <;> (try split) <;> omega
theorem zzCm3 {p : Prop} (h : p := by (congr 1; unfold cmpH; first | (rw [if_pos (cmpI_ne.1 (by assumption))]; rfl) | (have hk : ¬ vh.k ≠ vh2.k := (fun h9 => absurd (cmpI_ne.2 h9) (by omega)); rw [if_neg hk]; first | (rw [if_pos (by omega)]; rfl) | (rw [if_neg (by omega), if_pos (by omega)]; done) | (rw [if_neg (by omega), if_neg (by omega)]; show or2 _ (or2 _ (or2 _ 0)) = _; rw [or2_z]; rfl)) | trace_state)) : p := h
theorem cmpCt : ∀ n, CmpC n := by
 intro n
 induction n with
 | zero => intro F h L h2 L2 cs cs2 hn; omega
 | succ n ih =>
 intro F vh L vh2 L2 cs cs2 hn hV hV2
 obtain ⟨v1, rfl, hT1, hs1⟩ := hV
 obtain ⟨v2, rfl, hT2, hs2⟩ := hV2
 have hr := rowsCt ih F L L2 v1 v2 (by omega) hT1 hT2
 obtain ⟨a1, c1, rfl, -⟩ := hT1
 obtain ⟨a2, c2, rfl, -⟩ := hT2
 refine Ct.enter Tryz.func229 rfl Tryz.ntmps229 rfl fun w0 a S => ?_
 refine wp_sr fun Z hZ => ?_
 (refine wbx S ?_; clear S a; intro b2 a w S)
 (refine wbx S ?_; clear S a; intro b3 a w S)
 (revert S a; revert hZ Z; refine go 9 ?_; intro Z hZ Z hZ a S)
 (refine wc0 S (compare3 _ _ F) ?_; clear S a; intro v a w hv S; subst hv)
 (revert S a; revert hZ Z; refine go 8 ?_; intro a S)
 refine wpc_sp S rfl ?_ ?_ <;> intro h
 ·(revert S a; refine go 5 ?_; intro a S)
  refine wp_ret (fr1 S Tryz.results229 ?_)
  exact zzCm3
 (revert S a; revert hZ Z; refine go 14 ?_; intro Z hZ a S)
 refine wpc_sp S rfl ?_ ?_ <;> intro h
 ·(revert S a; refine go 5 ?_; intro Z hZ a S)
  (refine wc0 S (bigsCt (vh.s.length + vh2.s.length + 1) F vh.s vh2.s (by omega) hs1 hs2) ?_; clear S a; intro v a w hv S; subst hv)
  (revert S a; revert hZ Z; refine go 3 ?_; intro a S)
  refine wp_ret (fr1 S Tryz.results229 ?_)
  exact zzCm3
 (revert S a; refine go 5 ?_; intro a S)
 refine wpc_sp S rfl ?_ ?_ <;> intro h
 ·(revert S a; refine go 5 ?_; intro Z hZ a S)
  (refine wc0 S (compare4 vh.s vh2.s F) ?_; clear S a; intro v a w hv S; subst hv)
  (revert S a; revert hZ Z; refine go 3 ?_; intro a S)
  refine wp_ret (fr1 S Tryz.results229 ?_)
  exact zzCm3
 refine wp_skip ?_
 (refine hZ _ _ ?_; clear hZ Z)
 (refine wp_seq_k ?_; intro Z hZ)
 (refine wpc_mixM [0, 1, 2, 3, 5, 6, 7, 8, 10, 11, 12, 13] [1, 3, 6, 8, 11, 13] [] (.one 0 (.one 1 (.one 2 (.one 3 (.one 5 (.one 6 (.one 7 (.one 8 (.one 10 (.one 11 (.one 12 (.one 13 (.one 4 (.one 9 (.one 14 (.one 15 (.one 16 (.one 17 .nil)))))))))))))))))) [b2, b3] S mixed (by kernel_rfl) ?_; clear S; intro w S)
 (revert S a; refine go 13 ?_; intro a S)
 (refine wc0 S (compare2 _ _ F) ?_; clear S a; intro v a w hv S; subst hv)
 (revert S a; refine go 2 ?_; intro a S)
 (refine wc0 S (compare4 vh.s vh2.s F) ?_; clear S a; intro v a w hv S; subst hv)
 (revert S a; refine go 2 ?_; intro a S)
 (refine wc0 S (hr) ?_; clear S a; intro v a w hv S; subst hv)
 (revert S a; refine go 2 ?_; intro a S)
 (refine wpl_buildSlice S rfl rfl rfl rfl rfl rfl (by rfl) (by simp [Value.cells, splice, splice]) rfl (by rfl) (by rfl) ?_; clear S a; intro b45 a w hown S)
 (revert S a; refine go 2 ?_; intro a S)
 (replace S := St.pullB b45 S; have S' := frz1 S; clear S; obtain ⟨F5, hle5, hb45, S⟩ := S'; refine wc0 S (orN F5 _ [cmpI vh.n vh2.n, cS vh.s vh2.s, cmpL L L2] (show 3 ≤ 10 by decide) (lim3 hb45)) ?_; clear S a; intro v a w hv S; subst hv)
 (revert S a; revert hZ Z; refine go 6 ?_; intro a S)
 refine wp_ret (fr1 S Tryz.results229 ?_)
 exact zzCm3
theorem may1Ct (F : Heap) (h : VH) (L : Vf) (cs : List Value) (hV : VaC F cs h L) : Ct Tryz.prog 226 [.agg ⟨cs⟩] F [] (fun _ _ u => u = .bool (!mayV (h, L))) := by
 have hc := checkUCt F h L cs hV
 obtain ⟨v1, rfl, ⟨a1, c1, rfl, -⟩, -⟩ := hV
 refine Ct.enter Tryz.func226 rfl Tryz.ntmps226 rfl fun w0 a S => ?_
 refine wp_sr fun Z hZ => ?_
 (refine wbx S ?_; clear S a; intro b1 a w S)
 (revert S a; revert hZ Z; refine go 5 ?_; intro Z hZ a S)
 (refine wc0 S (hc) ?_; clear S a; intro v a w hv S; subst hv)
 (revert S a; revert hZ Z; refine go 4 ?_; intro a S)
 refine wp_ret (fr1 S Tryz.results226 ?_)
 rfl
def mayL (l : Vf) : Bool := !anyR (fun h L => !mayV (h, L)) l
theorem mayUCt (F : Heap) (l : Vf) (v : Value) (h : TrS F 4 VhR v l) : Ct Tryz.prog 192 [v] F [] (fun _ _ u => u = .bool (mayL l)) := by
 have hc := cfVCt F v l.len _ h.sq 226 [] [] (fun k => match l.get? k with | some x => !mayV x | none => false) (fun k cs hk ⟨x, c1, u, hx, hcs, hR, hT⟩ => by
  rw [hx]
  exact may1Ct F x.1 x.2 cs (ror_vac ⟨c1, u, hcs, by rw [hR.1]; rfl, hR, hT⟩))
 rw [anyN_rose (q := fun h L => !mayV (h, L)) (fun k x hx => by rw [hx])] at hc
 obtain ⟨a1, c1, rfl, -⟩ := h
 refine Ct.enter Tryz.func192 rfl Tryz.ntmps192 rfl fun w0 a S => ?_
 (revert S a; refine go 6 ?_; intro Z hZ a S)
 (refine wc0 S (hc) ?_; clear S a; intro v a w hv S; subst hv)
 (revert S a; revert hZ Z; refine go 4 ?_; intro a S)
 refine wp_ret (fr1 S Tryz.results192 ?_)
 rfl
theorem zzCm4 {p : Prop} (h : p := by (first | (rw [if_pos (by assumption)]; done) | (rw [if_neg (by assumption), if_pos (by assumption)]; done) | (rw [if_neg (by assumption), if_neg (by simp_all)]; done) | trace_state)) : p := h
theorem lastCt (F : Heap) (p q : Bool) : Ct Tryz.prog 193 [.bool p, .bool q] F [] (fun _ _ u => u = .int .i64 (if p = q then 0 else if p = true then -1 else 1)) := by
 refine Ct.enter Tryz.func193 rfl Tryz.ntmps193 rfl fun w0 a S => ?_
 (revert S a; refine go 13 ?_; intro Z hZ a S)
 refine wpc_sp S rfl ?_ ?_ <;> intro h
 ·(revert S a; refine go 4 ?_; intro a S)
  refine wp_ret (fr1 S Tryz.results193 ?_)
  exact zzCm4
 (revert S a; refine go 5 ?_; intro a S)
 refine wpc_sp S rfl ?_ ?_ <;> intro h
 ·(revert S a; refine go 4 ?_; intro a S)
  refine wp_ret (fr1 S Tryz.results193 ?_)
  exact zzCm4
 (revert S a; revert hZ Z; refine go 6 ?_; intro a S)
 refine wp_ret (fr1 S Tryz.results193 ?_)
 exact zzCm4
theorem zzCm5 {p : Prop} (h : p := by (congr 1; first | (rw [if_pos (show mayL l = true ∧ mayL m = true by simp_all)]; done) | (rw [if_neg (show ¬ (mayL l = true ∧ mayL m = true) by simp_all)]; done) | trace_state)) : p := h
theorem cmpRowsCt (F : Heap) (l m : Vf) (v u : Value) (hv : TrS F 4 VhR v l) (hu : TrS F 4 VhR u m) : Ct Tryz.prog 162 [v, u] F [] (fun _ _ u => u = .int .i64 (if mayL l = true ∧ mayL m = true then cmpL l m else if mayL l = mayL m then 0 else if mayL l = true then -1 else 1)) := by
 have h1 := mayUCt F l v hv
 have h2 := mayUCt F m u hu
 have h3 := rowsCt (cmpCt l.size) F l m v u (Nat.le_refl _) hv hu
 obtain ⟨a1, c1, rfl, -⟩ := hv
 obtain ⟨a2, c2, rfl, -⟩ := hu
 refine Ct.enter Tryz.func162 rfl Tryz.ntmps162 rfl fun w0 a S => ?_
 (revert S a; refine go 7 ?_; intro Z hZ Z hZ a S)
 (refine wc0 S h1 ?_; clear S a; intro v a w hv S; subst hv)
 (revert S a; refine go 1 ?_; intro a S)
 (refine wc0 S h2 ?_; clear S a; intro v a w hv S; subst hv)
 (revert S a; revert hZ Z; refine go 8 ?_; intro Z hZ a S)
 refine wgd S ?_ ?_
 ·(clear S; intro h S)
  (revert S a; revert hZ Z; refine go 6 ?_; intro a S)
  refine wpc_sp S rfl ?_ ?_ <;> intro h
  ·(revert S a; refine go 3 ?_; intro Z hZ a S)
   (refine wc0 S (lastCt F _ _) ?_; clear S a; intro v a w hv S; subst hv)
   (revert S a; revert hZ Z; refine go 3 ?_; intro a S)
   refine wp_ret (fr1 S Tryz.results162 ?_)
   exact zzCm5
  (revert S a; revert hZ Z; refine go 5 ?_; intro Z hZ a S)
  (refine wc0 S (h3) ?_; clear S a; intro v a w hv S; subst hv)
  (revert S a; revert hZ Z; refine go 3 ?_; intro a S)
  refine wp_ret (fr1 S Tryz.results162 ?_)
  exact zzCm5
 (clear S a; intro h a S)
 (revert S a; revert hZ Z; refine go 4 ?_; intro a S)
 refine wpc_true S rfl ?_
 (revert S a; refine go 3 ?_; intro Z hZ a S)
 (refine wc0 S (lastCt F _ _) ?_; clear S a; intro v a w hv S; subst hv)
 (revert S a; revert hZ Z; refine go 3 ?_; intro a S)
 refine wp_ret (fr1 S Tryz.results162 ?_)
 exact zzCm5
theorem mayL1 (h : VH) (L : Vf) : mayL (.cons h L .nil) = mayV (h, L) := by
 unfold mayL anyR anyR
 rw [Bool.or_false, Bool.not_not]
theorem cmpUCt (F : Heap) (x y : Vv) (cx cy : List Value) (hx : VaC F cx x.1 x.2) (hy : VaC F cy y.1 y.2) : Ct Tryz.prog 120 [.agg ⟨cx⟩, .agg ⟨cy⟩] F [] (fun _ _ u => u = .int .i64 (cmpV2 x y)) := by
 have ex := vac_ror hx
 have ey := vac_ror hy
 obtain ⟨v1, rfl, ⟨a1, c1, rfl, -⟩, -⟩ := hx
 obtain ⟨v2, rfl, ⟨a2, c2, rfl, -⟩, -⟩ := hy
 refine Ct.enter Tryz.func120 rfl Tryz.ntmps120 rfl fun w0 a S => ?_
 refine wp_sr fun Z hZ => ?_
 (refine wbx S ?_; clear S a; intro b2 a w S)
 (refine wbx S ?_; clear S a; intro b3 a w S)
 (revert S a; revert hZ Z; refine go 5 ?_; intro Z hZ a S)
 (refine wpl_buildSlice S rfl rfl rfl rfl rfl rfl (by rfl) (by simp [Value.cells, splice, splice]) rfl (by rfl) (by rfl) ?_; clear S a; intro b6 a w hown S)
 (revert S a; refine go 1 ?_; intro a S)
 (refine wpl_buildSlice S rfl rfl rfl rfl rfl rfl (by rfl) (by simp [Value.cells, splice, splice]) rfl (by rfl) (by rfl) ?_; clear S a; intro b8 a w hown S)
 (replace S := St.pullB b6 S; replace S := St.pullB b8 S; have S' := frzAll [(b8, _), (b6, _)] S; clear S; obtain ⟨F5, hle5, hbl, S⟩ := S'; have h6 := hbl _ (List.mem_cons_of_mem _ (List.mem_cons_self ..)); have h8 := hbl _ (List.mem_cons_self ..); have t6 : TrS F5 4 VhR (.slice (some ⟨b6, 0, none⟩) 1 1) (.cons x.1 x.2 .nil) := trs_lim (l := [x]) (lim_of (l := [x]) h6 (LiC.one rfl (Mon.h hle5 ex)) (show 1 ≤ _ by decide)); have t8 : TrS F5 4 VhR (.slice (some ⟨b8, 0, none⟩) 1 1) (.cons y.1 y.2 .nil) := trs_lim (l := [y]) (lim_of (l := [y]) h8 (LiC.one rfl (Mon.h hle5 ey)) (show 1 ≤ _ by decide)); refine wc0 S (cmpRowsCt F5 _ _ _ _ t6 t8) ?_; clear S a; intro v a w hv S; subst hv)
 (revert S a; revert hZ Z; refine go 3 ?_; intro a S)
 refine wp_ret (fr1 S Tryz.results120 ?_)
 (congr 1; rw [mayL1, mayL1]; unfold cmpV2; rw [show cmpL (.cons x.1 x.2 .nil) (.cons y.1 y.2 .nil) = cmpH x.1 x.2 y.1 y.2 from or2_z _])
theorem cmpVCt (F : Heap) (x y : Vv) (cx cy : List Value) (hb : x.2.size ≤ 100000000) (hb2 : y.2.size ≤ 100000000) (hx : VaC F cx x.1 x.2) (hy : VaC F cy y.1 y.2) : Ct Tryz.prog 120 [.agg ⟨cx⟩, .agg ⟨cy⟩] F [] (fun _ _ u => u = .int .i64 (cmpV2 x y)) := cmpUCt F x y cx cy hx hy
end Go.Proofs.YtgefmjghdijbfaaGreatDoor
namespace Go.Num
open Go
set_option linter.unusedSimpArgs false
set_option linter.unusedVariables false
def remJ (b A C j : Nat) : Nat := A / b ^ j % C
theorem top_split (b A j : Nat) : A / b ^ j = b * (A / b ^ (j + 1)) + dig b A j := by
 rw [Nat.pow_succ, ← Nat.div_div_eq_div_mul]; exact (Nat.div_add_mod _ _).symm
theorem rem_step {b A C j : Nat} : remJ b A C j = (remJ b A C (j + 1) * b + dig b A j) % C := by
 unfold remJ
 rw [top_split b A j, Nat.add_mod, Nat.mul_mod, Nat.add_mod (A / b ^ (j + 1) % C * b), Nat.mul_mod (A / b ^ (j + 1) % C), Nat.mod_mod, Nat.mul_comm (b % C)]
theorem dig_div {b A C j : Nat} (hb : 2 ≤ b) (hC : 0 < C) : dig b (A / C) j = (remJ b A C (j + 1) * b + dig b A j) / C := by
 have ha := dig_lt hb A j
 have hr : remJ b A C (j + 1) < C := Nat.mod_lt _ hC
 have hlt : (remJ b A C (j + 1) * b + dig b A j) / C < b := by
  rw [Nat.div_lt_iff_lt_mul hC]
  have h1 : (remJ b A C (j + 1) + 1) * b ≤ C * b := Nat.mul_le_mul_right _ hr
  rw [Nat.add_mul, Nat.one_mul] at h1
  rw [Nat.mul_comm b C]; omega
 have e : A / C / b ^ j = A / b ^ j / C := by rw [Nat.div_div_eq_div_mul, Nat.mul_comm, ← Nat.div_div_eq_div_mul]
 unfold dig at *
 rw [e]
 have h2 : A / b ^ j = C * (A / b ^ (j + 1) / C * b) + (remJ b A C (j + 1) * b + A / b ^ j % b) := by
  have h3 := top_split b A j
  have h4 := Nat.div_add_mod (A / b ^ (j + 1)) C
  unfold dig at h3
  unfold remJ
  conv => lhs; rw [h3]
  conv => lhs; arg 1; rw [← h4]
  rw [Nat.mul_add, Nat.add_assoc, Nat.mul_comm b (A / b ^ (j + 1) % C)]
  congr 1
  simp only [Nat.mul_comm, Nat.mul_left_comm, Nat.mul_assoc]
 conv => lhs; rw [h2]
 rw [Nat.mul_add_div hC, Nat.add_comm, Nat.add_mul_mod_self_right, Nat.mod_eq_of_lt hlt]
theorem rem_top {b A C k : Nat} (h : A < b ^ k) : remJ b A C k = 0 := by unfold remJ; rw [Nat.div_eq_of_lt h, Nat.zero_mod]
theorem rem_zero (b A C : Nat) : remJ b A C 0 = A % C := by unfold remJ; rw [Nat.pow_zero, Nat.div_one]
end Go.Num
namespace Go.Proofs.YtgefmjghdijbfaaGreatDoor
open Go Go.Wk Go.Num
set_option linter.unusedSimpArgs false
set_option linter.unusedVariables false
attribute [local irreducible] Go.wpList Go.Code.wp Go.wpStill Go.Wk.wpPre Go.bodyPost Go.Calls Go.Wk.Ct Go.Wk.OwnS
def TabF (F : Heap) : Prop := ∀ w : World, (∀ b o, F b = some o → w.heap[b]? = some o) → Lib.TabIs Tryz.prog w "internal/strconv.uint64pow10" .u64 Lib.pow10Tab
theorem TabF.mono {F F' : Heap} (h : TabF F) (hF : ∀ b o, F b = some o → F' b = some o) : TabF F' := fun w hw => h w fun b o hb => hw b o (hF b o hb)
theorem formatCt (n : Nat) (F : Heap) (hn : n ≤ 9223372036854775807) (hT : TabF F) : Ct Tryz.prog 153 [.int .i64 (n : Int), .int .i64 10] F [] (fun _ _ u => u = .string (bs (Lib.decDigits n))) := by
 refine ct_of_below fun w hw => ?_
 refine (Tryz.strconv_FormatInt_10 n (by omega) (by omega) w (hT w hw.frz)).mono fun e w' ⟨h1, k, os, h2⟩ => ⟨?_, ?_⟩
 ·rw [h1, Lib.itoa_nonneg]; rfl
 ·rw [h2]; exact Lib.below_grow _ w (Nat.le_refl _) k os
theorem repeatCt (c : UInt8) (k : Nat) (F : Heap) (hk : k ≤ 1000000000) : Ct Tryz.prog 154 [.string (bs [c]), .int .i64 (k : Int)] F [] (fun _ _ u => u = .string (bs (List.replicate k c))) := by
 refine ct_of_below fun w hw => ?_
 have he : ∀ k, Lib.repeatL [c] k = List.replicate k c := fun k => by
  induction k with
  | zero => rfl
  | succ k ih => rw [Lib.repeatL, ih]; rfl
 refine (Tryz.strings_Repeat (bs [c]) k w (by omega) (by rw [bs_size]; simp; omega)).mono fun e w' ⟨h1, h2⟩ => ⟨?_, h2⟩
 rw [h1, show (bs [c]).data.toList = [c] from rfl, he]; rfl
theorem dd_small {u : Nat} (h : u < 10) : Lib.decDigits u = [UInt8.ofNat (48 + u)] := by rw [Lib.decDigits, dif_pos h]
theorem dd_big {u : Nat} (h : ¬ u < 10) : Lib.decDigits u = Lib.decDigits (u / 10) ++ [UInt8.ofNat (48 + u % 10)] := by rw [Lib.decDigits, dif_neg h]
theorem dd_isD (u : Nat) : (Lib.decDigits u).all isD = true := by
 induction u using Nat.strongRecOn with
 | _ u ih =>
  have hd : ∀ x, x < 10 → isD (UInt8.ofNat (48 + x)) = true := fun x hx => by
   unfold isD; rw [UInt8.toNat_ofNat', Nat.mod_eq_of_lt (by omega)]; simp; omega
  by_cases h : u < 10
  ·rw [dd_small h, List.all_cons, hd u h]; rfl
  ·rw [dd_big h, List.all_append, ih (u / 10) (by omega), List.all_cons, hd _ (Nat.mod_lt u (by decide))]; rfl
theorem dd_val (u : Nat) : decV (Lib.decDigits u) = u := by
 induction u using Nat.strongRecOn with
 | _ u ih =>
  have hd : ∀ x, x < 10 → dv (UInt8.ofNat (48 + x)) = x := fun x hx => by
   unfold dv; rw [UInt8.toNat_ofNat', Nat.mod_eq_of_lt (by omega)]; omega
  by_cases h : u < 10
  ·rw [dd_small h]; show 10 * 0 + dv (UInt8.ofNat (48 + u)) = u; rw [hd u h]; omega
  ·rw [dd_big h, decV_snoc, ih (u / 10) (by omega), hd _ (Nat.mod_lt u (by decide))]; omega
theorem dd_ne (u : Nat) : Lib.decDigits u ≠ [] := by
 by_cases h : u < 10
 ·rw [dd_small h]; simp
 ·rw [dd_big h]; simp
theorem dd_pos (u : Nat) : 0 < (Lib.decDigits u).length := List.length_pos_iff.2 (dd_ne u)
theorem dd_cat (m : Nat) : ∀ (H lo : Nat), 0 < H → lo < 10 ^ m → (Lib.decDigits lo).length ≤ m ∨ m = 0 → Lib.decDigits (H * 10 ^ m + lo) = Lib.decDigits H ++ (if m = 0 then [] else List.replicate (m - (Lib.decDigits lo).length) 48 ++ Lib.decDigits lo) := by
 induction m with
 | zero => intro H lo _ hl _; simp only [Nat.pow_zero] at hl; rw [show lo = 0 by omega]; simp
 | succ m ih =>
  intro H lo hH hl hlen
  have hpw : 10 ^ (m + 1) = 10 ^ m * 10 := Nat.pow_succ ..
  have hp : 0 < 10 ^ m := Nat.pow_pos (by decide)
  have hge : 1 * 10 ^ m ≤ H * 10 ^ m := Nat.mul_le_mul_right _ hH
  have e1 : H * 10 ^ (m + 1) + lo = (H * 10 ^ m + lo / 10) * 10 + lo % 10 := by rw [hpw, ← Nat.mul_assoc, Nat.add_mul]; omega
  have hb : ¬ (H * 10 ^ (m + 1) + lo < 10) := by rw [e1]; omega
  rw [dd_big hb]
  have e2 : (H * 10 ^ (m + 1) + lo) / 10 = H * 10 ^ m + lo / 10 := by rw [e1]; omega
  have e3 : (H * 10 ^ (m + 1) + lo) % 10 = lo % 10 := by rw [e1]; omega
  rw [e2, e3, if_neg (by omega)]
  by_cases hlo : lo < 10
  ·-- one digit, and noughts ahead
   have hz : ∀ k : Nat, Lib.decDigits (H * 10 ^ k) = Lib.decDigits H ++ List.replicate k 48 := fun k => by
    induction k with
    | zero => simp
    | succ k ihk =>
     have hpk : 0 < 10 ^ k := Nat.pow_pos (by decide)
     have hgk : 1 * 10 ^ k ≤ H * 10 ^ k := Nat.mul_le_mul_right _ hH
     have e4 : H * 10 ^ (k + 1) = H * 10 ^ k * 10 := by rw [Nat.pow_succ, Nat.mul_assoc]
     rw [e4, dd_big (by omega), show H * 10 ^ k * 10 / 10 = H * 10 ^ k by omega, show H * 10 ^ k * 10 % 10 = 0 by omega, ihk, List.append_assoc, List.replicate_succ']; rfl
   rw [show lo / 10 = 0 by omega, Nat.add_zero, hz m, dd_small hlo, Nat.mod_eq_of_lt hlo]
   simp
  ·have h1 := ih H (lo / 10) hH (by omega) (by
    by_cases hm : m = 0
    ·exact Or.inr hm
    ·left
     have := hlen.resolve_right (by omega)
     rw [dd_big hlo, List.length_append, List.length_singleton] at this; omega)
   have hm : m ≠ 0 := fun e => by subst e; simp at hl; omega
   rw [h1, if_neg hm, dd_big hlo]
   have hl2 : (Lib.decDigits (lo / 10) ++ [UInt8.ofNat (48 + lo % 10)]).length = (Lib.decDigits (lo / 10)).length + 1 := by simp
   rw [hl2, show m + 1 - ((Lib.decDigits (lo / 10)).length + 1) = m - (Lib.decDigits (lo / 10)).length by omega]
   simp [List.append_assoc]
theorem dd_len {u m : Nat} (h : u < 10 ^ m) (hm : m ≠ 0) : (Lib.decDigits u).length ≤ m := by
 induction m generalizing u with
 | zero => exact absurd rfl hm
 | succ m ih =>
  by_cases hu : u < 10
  ·rw [dd_small hu]; simp
  ·rw [dd_big hu, List.length_append, List.length_singleton]
   have hpw : 10 ^ (m + 1) = 10 ^ m * 10 := Nat.pow_succ ..
   have hm0 : m ≠ 0 := fun e => by subst e; simp at h; omega
   have := ih (u := u / 10) (by omega) hm0
   omega
theorem dd_cat9 {H lo : Nat} (hH : 0 < H) (hlo : lo < 1000000000) : Lib.decDigits (H * 1000000000 + lo) = Lib.decDigits H ++ (List.replicate (9 - (Lib.decDigits lo).length) 48 ++ Lib.decDigits lo) := by
 have := dd_cat 9 H lo hH hlo (Or.inl (dd_len (m := 9) hlo (by decide)))
 rwa [if_neg (by decide)] at this
end Go.Proofs.YtgefmjghdijbfaaGreatDoor
