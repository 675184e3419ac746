/- Walks. -/
import Derived.Test.YtbhipiepfclneaaGreatDoorQ11
import Derived.Test.YtbhipiepfclneaaGreatDoorQ08
import Derived.Lib.AppendIntMem
set_option maxHeartbeats 8000000
set_option linter.unusedVariables false
set_option linter.unusedSimpArgs false
namespace Go.Proofs.YtbhipiepfclneaaGreatDoor
open Go Go.Wk Go.Un Go.De
attribute [local irreducible] Go.wpList Go.Code.wp Go.wpStill Go.Wk.q26 Go.bodyPost Go.Calls Go.Wk.Ct Go.Wk.q0u Go.Wk.wpG Go.Wk.wpM
theorem quy (x : Int) (F : q01) : Ct Tryz.prog 165 [.int .u8 x] F [] (fun _ _ u => u = .bool false) := by
 refine Ct.enter Tryz.func165 rfl Tryz.ntmps165 rfl fun w0 a S => ?_
 revert a; refine go 11 ?_; intro a S
 refine wp_ret (fr1 S Tryz.results165 ?_)
 (simp)
theorem qvr (s : List UInt8) (F : q01) : Ct Tryz.prog 166 [.string (bs s)] F [] (fun _ _ u => u = .bool false) := by
 refine Ct.enter Tryz.func166 rfl Tryz.ntmps166 rfl fun w0 a S => ?_
 revert a; refine go 11 ?_; intro a S
 refine wp_ret (fr1 S Tryz.results166 ?_)
 (simp)
theorem qsu (x y : Int) (F : q01) : Ct Tryz.prog 143 [.int .u8 x, .int .u8 y] F [] (fun _ _ u => u = .int .i64 (q4j x y)) := by
 refine Ct.enter Tryz.func143 rfl Tryz.ntmps143 rfl fun w0 a S => ?_
 revert a; refine go 6 ?_; intro Z hZ a S
 (refine wc0 S (quy _ F) ?_; clear S a; intro v a w hv S; subst hv)
 revert a; revert Z; refine go 5 ?_; intro Z hZ a S
 (refine wc0 S (quy _ F) ?_; clear S a; intro v a w hv S; subst hv)
 revert a; revert Z; refine go 8 ?_; intro Z hZ a S
 refine q0l S rfl (fun h => ?_) (fun h => ?_)
 ·(skip; (try simp only [tq] at h); cases h)
 (try simp only [tq] at h)
 revert a; revert Z; refine go 7 ?_; intro Z hZ a S
 refine q0l S rfl (fun h => ?_) (fun h => ?_)
 ·(skip; (try simp only [tq] at h); cases h)
 (try simp only [tq] at h)
 revert a; revert Z; refine go 9 ?_; intro Z hZ a S
 refine q00 S rfl ?_ ?_ <;> intro h
 ·revert a; refine go 4 ?_; intro a S
  refine wp_ret (fr1 S Tryz.results143 ?_)
  (unfold q4j; (repeat (first | rw [if_pos (by assumption)] | rw [if_neg (by omega)])))
 revert a; revert Z; refine go 9 ?_; intro Z hZ a S
 refine q00 S rfl ?_ ?_ <;> intro h
 ·revert a; refine go 4 ?_; intro a S
  refine wp_ret (fr1 S Tryz.results143 ?_)
  (unfold q4j; (repeat (first | rw [if_pos (by assumption)] | rw [if_neg (by omega)])))
 revert a; revert Z; refine go 6 ?_; intro a S
 refine wp_ret (fr1 S Tryz.results143 ?_)
 (unfold q4j; (repeat (first | rw [if_pos (by assumption)] | rw [if_neg (by omega)])))
theorem q99 (s t : List UInt8) (F : q01) : Ct Tryz.prog 145 [.string (bs s), .string (bs t)] F [] (fun _ _ u => u = .int .i64 (cS s t)) := by
 refine Ct.enter Tryz.func145 rfl Tryz.ntmps145 rfl fun w0 a S => ?_
 revert a; refine go 6 ?_; intro Z hZ a S
 (refine wc0 S (qvr _ F) ?_; clear S a; intro v a w hv S; subst hv)
 revert a; revert Z; refine go 5 ?_; intro Z hZ a S
 (refine wc0 S (qvr _ F) ?_; clear S a; intro v a w hv S; subst hv)
 revert a; revert Z; refine go 8 ?_; intro Z hZ a S
 refine q0l S rfl (fun h => ?_) (fun h => ?_)
 ·(skip; (try simp only [tq] at h); cases h)
 (try simp only [tq] at h)
 revert a; revert Z; refine go 7 ?_; intro Z hZ a S
 refine q0l S rfl (fun h => ?_) (fun h => ?_)
 ·(skip; (try simp only [tq] at h); cases h)
 (try simp only [tq] at h)
 revert a; revert Z; refine go 9 ?_; intro Z hZ a S
 refine q00 S rfl ?_ ?_ <;> intro h
 ·revert a; refine go 4 ?_; intro a S
  refine wp_ret (fr1 S Tryz.results145 ?_)
  (unfold cS; congr 1; simp_all)
 revert a; revert Z; refine go 6 ?_; intro Z hZ Z hZ a S
 (refine wv S (qpt S rfl rfl rfl) ?_; clear S a; intro a S)
 revert a; revert Z; refine go 2 ?_; intro a S
 refine q00 S rfl ?_ ?_ <;> intro h
 ·revert a; refine go 4 ?_; intro a S
  refine wp_ret (fr1 S Tryz.results145 ?_)
  (unfold cS; congr 1; simp_all)
 revert a; revert Z; refine go 6 ?_; intro a S
 refine wp_ret (fr1 S Tryz.results145 ?_)
 (unfold cS; congr 1; simp_all)
def u33 (_ : q01) (x : Int) (cs : List Value) : Prop := cs = [.int .i64 x]
theorem u0j {p : Prop} (h : p := by (congr 1; rw [← hfp]; first | (rw [drop_at hx]; show _ = or2 x _; unfold or2; rw [if_pos (by omega)]; done) | (rw [List.drop_eq_nil_of_le (by omega)]; rfl))) : p := h
theorem orN (F : q01) (v : Value) (l : List Int) (hl : l.length ≤ 10) (h : LiM F 1 u33 v l) : Ct Tryz.prog 146 [v] F [] (fun _ _ u => u = .int .i64 (l.foldr or2 0)) := by
 obtain ⟨ao, cap, rfl, hcap, hpos⟩ := h
 refine Ct.enter Tryz.func146 rfl Tryz.ntmps146 rfl fun w0 a S => ?_
 revert a; refine go 16 ?_; intro Z hZ a S
 refine q04 (fun m a w' => ∃ (k : Nat), m = l.length - k ∧ k ≤ l.length ∧ (l.drop k).foldr or2 0 = l.foldr or2 0 ∧ St 18 [(3, .int .i64 0), (6, .slice ao l.length cap), (7, .int .i64 l.length), (8, .int .i64 k)] w0 F [] F [] a w') ?_ ?_
 ·(refine ⟨l.length, 0, by omega, Nat.zero_le _, rfl, ?_⟩; refine S.keep ?_; exact zk)
 (clear S; rintro m a w ⟨k, rfl, hkl, hfp, S⟩)
 revert a; refine go 5 ?_; intro Z hZ a S
 refine q00 S rfl ?_ ?_ <;> intro h
 ·revert a; revert Z; refine go 4 ?_; intro Z hZ a S
  (refine wp_seq_k ?_; intro Z hZ)
  (obtain ⟨b8, o8, rfl, x, cs1, hx, hc1, rfl⟩ := LiM.pos hpos (k := k) (by omega))
  revert a; refine go 2 ?_; intro a S
  (refine wv S (q05 S rfl rfl (hc1 0 _ rfl)) ?_; clear S a; intro a S)
  revert a; revert Z; refine go 9 ?_; intro a S
  refine q00 S rfl ?_ ?_ <;> intro h
  ·revert a; refine go 5 ?_; intro a S
   refine wp_ret (fr1 S Tryz.results146 ?_)
   exact u0j
  revert a; revert Z; refine go 6 ?_; intro a S
  change ∃ m', _ ∧ _
  (refine ⟨l.length - (k + 1), by omega, k + 1, rfl, by omega, ?_, ?_⟩; rotate_left 1; (refine S.keep ?_; exact zk); rw [← hfp, drop_at hx]; show _ = or2 x _; unfold or2; rw [if_neg (by omega)])
 (refine wp_exit ?_; conv => whnf)
 clear hZ Z
 revert a; revert Z; refine go 6 ?_; intro a S
 refine wp_ret (fr1 S Tryz.results146 ?_)
 exact u0j
theorem qps (s : List UInt8) : qre s [45] = decide (s.take 1 = [45]) := by
 unfold qre
 cases s with
 | nil => rfl
 | cons c r => simp; rfl
theorem quh (F : q01) (s : List UInt8) (hs : s.length ≤ 140737488355328) : Ct Tryz.prog 99 [.string (bs s), .string (bs [45])] F [] (fun _ _ u => u = .bool (decide (s.take 1 = [45]))) := by
 rw [← qps]
 refine Ct.enter Tryz.func99 rfl Tryz.ntmps99 rfl fun w0 a S => ?_
 revert a; refine go 7 ?_; intro Z hZ a S
 (refine wc0 S (qiz s [45] F hs (by decide)) ?_; clear S a; intro v a w hv S; subst hv)
 revert a; revert Z; refine go 3 ?_; intro a S
 refine wp_ret (fr1 S Tryz.results99 ?_)
 rfl
theorem qf7 {s : List UInt8} (h : s.take 1 = [45]) : 1 ≤ s.length := by
 cases s with
 | nil => cases h
 | cons c r => simp
theorem u8n {F : q01} {b : Nat} {x y : Int} {e : TypeId} {R} (h : F b = some (.cells ⟨[.int .i64 x, .int .i64 y]⟩ e R)) : LiM F 1 u33 (.slice (some ⟨b, 0, none⟩) 2 2) [x, y] := by
 refine ⟨_, _, rfl, ⟨Nat.le_refl 2, show 2 ≤ _ by decide⟩, fun _ => ⟨b, 0, rfl, fun k z hz => ?_⟩⟩
 match k, hz with
 | 0, hz => cases hz; exact ⟨_, fun j u hj => ⟨_, _, _, h, by match j, hj with | 0, hj => exact hj⟩, rfl, rfl⟩
 | 1, hz => cases hz; exact ⟨_, fun j u hj => ⟨_, _, _, h, by match j, hj with | 0, hj => exact hj⟩, rfl, rfl⟩
theorem u93 {F : q01} {b : Nat} {x y z : Int} {e : TypeId} {R} (h : F b = some (.cells ⟨[.int .i64 x, .int .i64 y, .int .i64 z]⟩ e R)) : LiM F 1 u33 (.slice (some ⟨b, 0, none⟩) 3 3) [x, y, z] := by
 refine ⟨_, _, rfl, ⟨Nat.le_refl 3, show 3 ≤ _ by decide⟩, fun _ => ⟨b, 0, rfl, fun k z hz => ?_⟩⟩
 match k, hz with
 | 0, hz => cases hz; exact ⟨_, fun j u hj => ⟨_, _, _, h, by match j, hj with | 0, hj => exact hj⟩, rfl, rfl⟩
 | 1, hz => cases hz; exact ⟨_, fun j u hj => ⟨_, _, _, h, by match j, hj with | 0, hj => exact hj⟩, rfl, rfl⟩
 | 2, hz => cases hz; exact ⟨_, fun j u hj => ⟨_, _, _, h, by match j, hj with | 0, hj => exact hj⟩, rfl, rfl⟩
theorem qsf (x : Int) : or2 x 0 = x := by unfold or2; split <;> omega
theorem qfx {p : Prop} (h : p := by (congr 1; show _ = (if s.take 1 = [45] ∧ t.take 1 = [45] then qap n (t.drop 1) (s.drop 1) else if s.take 1 = [45] then -1 else if t.take 1 = [45] then 1 else or2 (cI s.length t.length) (cS s t)); first | (rw [if_pos (show s.take 1 = [45] ∧ t.take 1 = [45] from ⟨by assumption, by assumption⟩)]; done) | (rw [if_neg (by simp_all), if_pos (by assumption)]; done) | (rw [if_neg (by simp_all), if_neg (by simp_all), if_pos (by assumption)]; done) | (rw [if_neg (by simp_all), if_neg (by simp_all), if_neg (by simp_all)]; show or2 _ (or2 _ 0) = _; rw [qsf]; rfl))) : p := h
theorem u22 : ∀ (n : Nat) (F : q01) (s t : List UInt8), s.length + t.length < n → s.length ≤ 140737488355328 → t.length ≤ 140737488355328 → Ct Tryz.prog 144 [.string (bs s), .string (bs t)] F [] (fun _ _ u => u = .int .i64 (qap n s t)) := by
 intro n
 induction n with
 | zero => intro F s t h; omega
 | succ n ih =>
 intro F s t hn hs ht
 have hps := quh F s hs
 have hpt := quh F t ht
 refine Ct.enter Tryz.func144 rfl Tryz.ntmps144 rfl fun w0 a S => ?_
 revert a; refine go 6 ?_; intro Z hZ a S
 (refine wc0 S hps ?_; clear S a; intro v a w hv S; subst hv)
 revert a; refine go 1 ?_; intro a S
 (refine wc0 S hpt ?_; clear S a; intro v a w hv S; subst hv)
 revert a; revert Z; refine go 9 ?_; intro Z hZ Z hZ a S
 refine wgd S ?_ ?_
 ·(clear S; intro h S)
  revert a; revert Z; refine go 5 ?_; intro a S
  refine q00 S rfl ?_ ?_ <;> intro h
  ·(refine wp_seq_k ?_; intro Z hZ)
   (have l1 := qf7 (by assumption : s.take 1 = [45]); have l2 := qf7 (by assumption : t.take 1 = [45]))
   (refine q0k [0, 1, 2, 3] [] [] (.one 0 (.one 1 (.one 2 (.one 3 (.one 4 (.one 5 .nil)))))) [] S mixed (by kernel_rfl) ?_; clear S; intro w S)
   revert a; refine go 1 ?_; intro a S
   (refine q19 S rfl rfl rfl (q06 _ rfl) rfl rfl (fun w' S => q1p S rfl rfl rfl (by first | omega | (simp only [qaA, qaC, qaD]; omega))) ?_; clear S a; intro a S)
   revert a; refine go 1 ?_; intro a S
   (refine q19 S rfl rfl rfl (q06 _ rfl) rfl rfl (fun w' S => q1p S rfl rfl rfl (by first | omega | (simp only [qaA, qaC, qaD]; omega))) ?_; clear S a; intro a S)
   refine q1q rfl rfl (kwa S) ?_
   (refine wc0 S (ih F (t.drop 1) (s.drop 1) (by simp; omega) (by simp; omega) (by simp; omega)) ?_; clear S a; intro v a w hv S; subst hv)
   revert a; revert Z; refine go 6 ?_; intro a S
   refine wp_ret (fr1 S Tryz.results144 ?_)
   exact qfx
  revert a; refine go 5 ?_; intro a S
  refine q00 S rfl ?_ ?_ <;> intro h
  ·revert a; refine go 4 ?_; intro a S
   refine wp_ret (fr1 S Tryz.results144 ?_)
   exact qfx
  revert a; refine go 5 ?_; intro a S
  refine q00 S rfl ?_ ?_ <;> intro h
  ·revert a; refine go 4 ?_; intro a S
   refine wp_ret (fr1 S Tryz.results144 ?_)
   exact qfx
  revert a; revert Z; refine go 7 ?_; intro Z hZ a S
  (refine wc0 S (qbw _ _ F) ?_; clear S a; intro v a w hv S; subst hv)
  revert a; refine go 2 ?_; intro a S
  (refine wc0 S (q99 s t F) ?_; clear S a; intro v a w hv S; subst hv)
  (refine q0d S rfl rfl rfl rfl rfl rfl (by rfl) (by simp [Value.cells, splice, splice]) rfl (by rfl) (by rfl) ?_; clear S a; intro b33 a w hown S)
  (replace S := St.pullB b33 S; have S' := qfp S; clear S; obtain ⟨F5, hle5, hb33, S⟩ := S'; refine wc0 S (orN F5 _ [q4j s.length t.length, cS s t] (show 2 ≤ 10 by decide) (u8n hb33)) ?_; clear S a; intro v a w hv S; subst hv)
  revert a; revert Z; refine go 3 ?_; intro a S
  refine wp_ret (fr1 S Tryz.results144 ?_)
  exact qfx
 (clear S a; intro h a S)
 revert a; revert Z; refine go 4 ?_; intro a S
 refine q03 S rfl ?_
 revert a; refine go 5 ?_; intro a S
 refine q00 S rfl ?_ ?_ <;> intro h
 ·revert a; refine go 4 ?_; intro a S
  refine wp_ret (fr1 S Tryz.results144 ?_)
  exact qfx
 revert a; refine go 5 ?_; intro a S
 refine q00 S rfl ?_ ?_ <;> intro h
 ·revert a; refine go 4 ?_; intro a S
  refine wp_ret (fr1 S Tryz.results144 ?_)
  exact qfx
 revert a; revert Z; refine go 7 ?_; intro Z hZ a S
 (refine wc0 S (qbw _ _ F) ?_; clear S a; intro v a w hv S; subst hv)
 revert a; refine go 2 ?_; intro a S
 (refine wc0 S (q99 s t F) ?_; clear S a; intro v a w hv S; subst hv)
 (refine q0d S rfl rfl rfl rfl rfl rfl (by rfl) (by simp [Value.cells, splice, splice]) rfl (by rfl) (by rfl) ?_; clear S a; intro b33 a w hown S)
 (replace S := St.pullB b33 S; have S' := qfp S; clear S; obtain ⟨F5, hle5, hb33, S⟩ := S'; refine wc0 S (orN F5 _ [q4j s.length t.length, cS s t] (show 2 ≤ 10 by decide) (u8n hb33)) ?_; clear S a; intro v a w hv S; subst hv)
 revert a; revert Z; refine go 3 ?_; intro a S
 refine wp_ret (fr1 S Tryz.results144 ?_)
 exact qfx
def u48 (n : Nat) : Prop := ∀ (F : q01) (h : VH) (L : Vf) (h2 : VH) (L2 : Vf) (cs cs2 : List Value), L.size < n → VaC F cs h L → VaC F cs2 h2 L2 → Ct Tryz.prog 109 [.agg ⟨cs⟩, .agg ⟨cs2⟩] F [] (fun _ _ u => u = .int .i64 (qan h L h2 L2))
theorem qyw {n : Nat} (hC : u48 n) (F : q01) (h : VH) (L : Vf) (h2 : VH) (L2 : Vf) (cs cs2 : List Value) (hn : L.size < n) (hV : VaC F cs h L) (hV2 : VaC F cs2 h2 L2) : Ct Tryz.prog 108 [.agg ⟨cs⟩, .agg ⟨cs2⟩] F [] (fun _ _ u => u = .int .i64 (qan h L h2 L2)) := by
 have hc := hC F h L h2 L2 cs cs2 hn hV hV2
 obtain ⟨v1, rfl, ⟨a1, c1, rfl, -⟩, -⟩ := hV
 obtain ⟨v2, rfl, ⟨a2, c2, rfl, -⟩, -⟩ := hV2
 refine Ct.enter Tryz.func108 rfl Tryz.ntmps108 rfl fun w0 a S => ?_
 refine q1i fun Z hZ => ?_
 (refine wbx S ?_; clear S a; intro b2 a w S)
 (refine wbx S ?_; clear S a; intro b3 a w S)
 revert a; revert Z; refine go 6 ?_; intro Z hZ a S
 (refine wc0 S (hc) ?_; clear S a; intro v a w hv S; subst hv)
 revert a; revert Z; refine go 3 ?_; intro a S
 refine wp_ret (fr1 S Tryz.results108 ?_)
 rfl
theorem q6y {l m : Vf} {k : Nat} {x y : VH × Vf} (hx : l.get? k = some x) (hy : m.get? k = some y) : cmpL (l.drop k) (m.drop k) = or2 (qan x.1 x.2 y.1 y.2) (cmpL (l.drop (k + 1)) (m.drop (k + 1))) := by
 rw [q1d.drop_get hx, q1d.drop_get hy]; rfl
theorem qdy {l m : Vf} {k : Nat} {x : VH × Vf} (hx : l.get? k = some x) (hm : m.len ≤ k) : cmpL (l.drop k) (m.drop k) = 1 := by
 rw [q1d.drop_get hx, q1d.drop_len hm]; rfl
theorem qdj {l m : Vf} {k : Nat} (hl : l.len ≤ k) : cmpL (l.drop k) (m.drop k) = if k < m.len then -1 else 0 := by
 rw [q1d.drop_len hl]
 by_cases hm : k < m.len
 ·obtain ⟨y, hy⟩ := q1d.get_lt hm
  rw [q1d.drop_get hy, if_pos hm]; rfl
 ·rw [q1d.drop_len (by omega), if_neg hm]; rfl
theorem qt7 {p : Prop} (h : p := by (congr 1; rw [← hfp]; first | (rw [qdy hx (by omega)]; done) | (rw [q6y hx hy]; unfold or2; rw [if_pos (by omega)]; done) | (rw [qdj (by omega), if_pos (by omega)]; done) | (rw [qdj (by omega), if_neg (by omega)]; done))) : p := h
theorem ubg {n : Nat} (hC : u48 n) (F : q01) (l m : Vf) (v u : Value) (hn : l.size ≤ n) (hv : TrS F 4 VhR v l) (hu : TrS F 4 VhR u m) : Ct Tryz.prog 107 [v, u, .func (.func 108) ⟨[]⟩ ⟨[]⟩] F [] (fun _ _ u => u = .int .i64 (cmpL l m)) := by
 obtain ⟨ao, cap, rfl, hcap, hpos⟩ := hv
 obtain ⟨ao2, cap2, rfl, hcap2, hpos2⟩ := hu
 refine Ct.enter Tryz.func107 rfl Tryz.ntmps107 rfl fun w0 a S => ?_
 revert a; refine go 12 ?_; intro Z hZ a S
 refine q04 (fun q a w' => ∃ (k : Nat), q = l.len - k ∧ k ≤ l.len ∧ cmpL (l.drop k) (m.drop k) = cmpL l m ∧ St 39 [(0, .slice ao l.len cap), (1, .slice ao2 m.len cap2), (2, .func (.func 108) ⟨[]⟩ ⟨[]⟩), (11, .slice ao l.len cap), (12, .int .i64 l.len), (13, .int .i64 k)] w0 F [] F [] a w') ?_ ?_
 ·(refine ⟨l.len, 0, by omega, Nat.zero_le _, rfl, ?_⟩; refine S.keep ?_; exact zk)
 (clear S; rintro q a w ⟨k, rfl, hkl, hfp, S⟩)
 revert a; refine go 5 ?_; intro Z hZ a S
 refine q00 S rfl ?_ ?_ <;> intro h
 ·revert a; revert Z; refine go 4 ?_; intro Z hZ a S
  (refine wp_seq_k ?_; intro Z hZ)
  (obtain ⟨b8, o8, hao, x, cs1, v1, hx, hc1, hw9, hT1⟩ := TrM.pos hpos (k := k) (by omega); rw [hao] at S; have hxs := q1d.size_get hx; have hT1c := hT1; obtain ⟨a91, c91, rfl, -⟩ := hT1c; have hw9c := hw9.1; subst hw9c; (simp only [List.cons_append, qaG] at hc1))
  revert a; refine go 4 ?_; intro a S
  (refine q0a S rfl rfl rfl rfl ?_; clear S a; intro b8 a w S)
  revert a; refine go 1 ?_; intro a S
  (refine wso S rfl rfl ?_; clear S; intro w S)
  revert a; revert Z; refine go 10 ?_; intro Z hZ a S
  refine q00 S rfl ?_ ?_ <;> intro h
  ·revert a; refine go 4 ?_; intro a S
   refine wp_ret (fr1 S Tryz.results107 ?_)
   exact qt7
  refine wp_skip ?_
  (refine hZ _ _ ?_; clear hZ Z)
  (refine wp_seq_k ?_; intro Z hZ)
  (obtain ⟨b9, o9, hao2, y, cs2, v2, hy, hc2, hw8, hT2⟩ := TrM.pos hpos2 (k := k) (by omega); rw [hao2] at S; have hT2c := hT2; obtain ⟨a92, c92, rfl, -⟩ := hT2c; have hw8c := hw8.1; subst hw8c; (simp only [List.cons_append, qaG] at hc2))
  revert a; refine go 5 ?_; intro a S
  (refine q0a S rfl rfl rfl rfl ?_; clear S a; intro b9 a w S)
  (refine wso S rfl rfl ?_; clear S; intro w S)
  revert a; revert Z; refine go 6 ?_; intro Z hZ a S
  (refine wc0 S (qyw hC F x.1 x.2 y.1 y.2 _ _ (by omega) ⟨_, rfl, hT1, hw9.2⟩ ⟨_, rfl, hT2, hw8.2⟩) ?_; clear S a; intro v a w hv S; subst hv)
  revert a; revert Z; refine go 8 ?_; intro a S
  refine q00 S rfl ?_ ?_ <;> intro h
  ·revert a; refine go 5 ?_; intro a S
   refine wp_ret (fr1 S Tryz.results107 ?_)
   exact qt7
  revert a; revert Z; refine go 6 ?_; intro a S
  change ∃ m', _ ∧ _
  (rw [← hao, ← hao2] at S; replace S := S.drop1.drop1; refine ⟨l.len - (k + 1), by omega, k + 1, rfl, by omega, ?_, ?_⟩; rotate_left 1; (refine S.keep ?_; exact zk); rw [← hfp, q6y hx hy]; unfold or2; rw [if_neg (by omega)])
 (refine wp_exit ?_; conv => whnf)
 clear hZ Z
 revert a; revert Z; refine go 10 ?_; intro Z hZ a S
 refine q00 S rfl ?_ ?_ <;> intro h
 ·revert a; refine go 4 ?_; intro a S
  refine wp_ret (fr1 S Tryz.results107 ?_)
  exact qt7
 revert a; revert Z; refine go 6 ?_; intro a S
 refine wp_ret (fr1 S Tryz.results107 ?_)
 exact qt7
theorem qux {n : Nat} (hC : u48 n) (F : q01) (l m : Vf) (v u : Value) (hn : l.size ≤ n) (hv : TrS F 4 VhR v l) (hu : TrS F 4 VhR u m) : Ct Tryz.prog 71 [v, u] F [] (fun _ _ u => u = .int .i64 (cmpL l m)) := by
 have hc := ubg hC F l m v u hn hv hu
 obtain ⟨ao, cap, rfl, hcap, hpos⟩ := hv
 obtain ⟨ao2, cap2, rfl, hcap2, hpos2⟩ := hu
 refine Ct.enter Tryz.func71 rfl Tryz.ntmps71 rfl fun w0 a S => ?_
 revert a; refine go 7 ?_; intro Z hZ a S
 (refine wc0 S (hc) ?_; clear S a; intro v a w hv S; subst hv)
 revert a; revert Z; refine go 3 ?_; intro a S
 refine wp_ret (fr1 S Tryz.results71 ?_)
 rfl
theorem qnf {a b : Nat} : q4j (a : Int) (b : Int) ≠ 0 ↔ a ≠ b := by unfold q4j; split <;> (try split) <;> omega
theorem qt1 {p : Prop} (h : p := by (congr 1; unfold qan; first | (rw [if_pos (qnf.1 (by assumption))]; rfl) | (have hk : ¬ vh.k ≠ vh2.k := (fun h9 => absurd (qnf.2 h9) (by omega)); rw [if_neg hk]; first | (rw [if_pos (by omega)]; rfl) | (rw [if_neg (by omega), if_pos (by omega)]; done) | (rw [if_neg (by omega), if_neg (by omega)]; show or2 _ (or2 _ (or2 _ 0)) = _; rw [qsf]; rfl)))) : p := h
theorem u4u : ∀ n, u48 n := by
 intro n
 induction n with
 | zero => intro F h L h2 L2 cs cs2 hn; omega
 | succ n ih =>
 intro F vh L vh2 L2 cs cs2 hn hV hV2
 obtain ⟨v1, rfl, hT1, hs1⟩ := hV
 obtain ⟨v2, rfl, hT2, hs2⟩ := hV2
 have hr := qux ih F L L2 v1 v2 (by omega) hT1 hT2
 obtain ⟨a1, c1, rfl, -⟩ := hT1
 obtain ⟨a2, c2, rfl, -⟩ := hT2
 refine Ct.enter Tryz.func109 rfl Tryz.ntmps109 rfl fun w0 a S => ?_
 refine q1i fun Z hZ => ?_
 (refine wbx S ?_; clear S a; intro b2 a w S)
 (refine wbx S ?_; clear S a; intro b3 a w S)
 revert a; revert Z; refine go 9 ?_; intro Z hZ Z hZ a S
 (refine wc0 S (qsu _ _ F) ?_; clear S a; intro v a w hv S; subst hv)
 revert a; revert Z; refine go 8 ?_; intro a S
 refine q00 S rfl ?_ ?_ <;> intro h
 ·revert a; refine go 5 ?_; intro a S
  refine wp_ret (fr1 S Tryz.results109 ?_)
  exact qt1
 revert a; revert Z; refine go 14 ?_; intro Z hZ a S
 refine q00 S rfl ?_ ?_ <;> intro h
 ·revert a; refine go 5 ?_; intro Z hZ a S
  (refine wc0 S (u22 (vh.s.length + vh2.s.length + 1) F vh.s vh2.s (by omega) hs1 hs2) ?_; clear S a; intro v a w hv S; subst hv)
  revert a; revert Z; refine go 3 ?_; intro a S
  refine wp_ret (fr1 S Tryz.results109 ?_)
  exact qt1
 revert a; refine go 5 ?_; intro a S
 refine q00 S rfl ?_ ?_ <;> intro h
 ·revert a; refine go 5 ?_; intro Z hZ a S
  (refine wc0 S (q99 vh.s vh2.s F) ?_; clear S a; intro v a w hv S; subst hv)
  revert a; revert Z; refine go 3 ?_; intro a S
  refine wp_ret (fr1 S Tryz.results109 ?_)
  exact qt1
 refine wp_skip ?_
 (refine hZ _ _ ?_; clear hZ Z)
 (refine wp_seq_k ?_; intro Z hZ)
 (refine q0k [0, 1, 2, 3, 5, 6, 7, 8, 10, 11, 12, 13] [1, 3, 6, 8, 11, 13] [] (.one 0 (.one 1 (.one 2 (.one 3 (.one 5 (.one 6 (.one 7 (.one 8 (.one 10 (.one 11 (.one 12 (.one 13 (.one 4 (.one 9 (.one 14 (.one 15 (.one 16 (.one 17 .nil)))))))))))))))))) [b2, b3] S mixed (by kernel_rfl) ?_; clear S; intro w S)
 revert a; refine go 13 ?_; intro a S
 (refine wc0 S (qjo _ _ F) ?_; clear S a; intro v a w hv S; subst hv)
 revert a; refine go 2 ?_; intro a S
 (refine wc0 S (q99 vh.s vh2.s F) ?_; clear S a; intro v a w hv S; subst hv)
 revert a; refine go 2 ?_; intro a S
 (refine wc0 S (hr) ?_; clear S a; intro v a w hv S; subst hv)
 revert a; refine go 2 ?_; intro a S
 (refine q0d S rfl rfl rfl rfl rfl rfl (by rfl) (by simp [Value.cells, splice, splice]) rfl (by rfl) (by rfl) ?_; clear S a; intro b45 a w hown S)
 revert a; refine go 2 ?_; intro a S
 (replace S := St.pullB b45 S; have S' := qfp S; clear S; obtain ⟨F5, hle5, hb45, S⟩ := S'; refine wc0 S (orN F5 _ [q4j vh.n vh2.n, cS vh.s vh2.s, cmpL L L2] (show 3 ≤ 10 by decide) (u93 hb45)) ?_; clear S a; intro v a w hv S; subst hv)
 revert a; revert Z; refine go 6 ?_; intro a S
 refine wp_ret (fr1 S Tryz.results109 ?_)
 exact qt1
theorem u39 (F : q01) (h : VH) (L : Vf) (cs : List Value) (hV : VaC F cs h L) : Ct Tryz.prog 106 [.agg ⟨cs⟩] F [] (fun _ _ u => u = .bool (!q3q (h, L))) := by
 have hc := qcd F h L cs hV
 obtain ⟨v1, rfl, ⟨a1, c1, rfl, -⟩, -⟩ := hV
 refine Ct.enter Tryz.func106 rfl Tryz.ntmps106 rfl fun w0 a S => ?_
 refine q1i fun Z hZ => ?_
 (refine wbx S ?_; clear S a; intro b1 a w S)
 revert a; revert Z; refine go 5 ?_; intro Z hZ a S
 (refine wc0 S (hc) ?_; clear S a; intro v a w hv S; subst hv)
 revert a; revert Z; refine go 4 ?_; intro a S
 refine wp_ret (fr1 S Tryz.results106 ?_)
 rfl
def qar (l : Vf) : Bool := !qrs (fun h L => !q3q (h, L)) l
theorem qua (F : q01) (l : Vf) (v : Value) (h : TrS F 4 VhR v l) : Ct Tryz.prog 69 [v] F [] (fun _ _ u => u = .bool (qar l)) := by
 have hc := u57 F v l.len _ h.sq 106 [] [] (fun k => match l.get? k with | some x => !q3q x | none => false) (fun k cs hk ⟨x, c1, u, hx, hcs, hR, hT⟩ => by
  rw [hx]
  exact u39 F x.1 x.2 cs (q6d ⟨c1, u, hcs, by rw [hR.1]; rfl, hR, hT⟩))
 rw [qm9 (q := fun h L => !q3q (h, L)) (fun k x hx => by rw [hx])] at hc
 obtain ⟨a1, c1, rfl, -⟩ := h
 refine Ct.enter Tryz.func69 rfl Tryz.ntmps69 rfl fun w0 a S => ?_
 revert a; refine go 6 ?_; intro Z hZ a S
 (refine wc0 S (hc) ?_; clear S a; intro v a w hv S; subst hv)
 revert a; revert Z; refine go 4 ?_; intro a S
 refine wp_ret (fr1 S Tryz.results69 ?_)
 rfl
theorem qxb {p : Prop} (h : p := by (first | (rw [if_pos (by assumption)]; done) | (rw [if_neg (by assumption), if_pos (by assumption)]; done) | (rw [if_neg (by assumption), if_neg (by simp_all)]; done))) : p := h
theorem qvg (F : q01) (p q : Bool) : Ct Tryz.prog 70 [.bool p, .bool q] F [] (fun _ _ u => u = .int .i64 (if p = q then 0 else if p = true then -1 else 1)) := by
 refine Ct.enter Tryz.func70 rfl Tryz.ntmps70 rfl fun w0 a S => ?_
 revert a; refine go 13 ?_; intro Z hZ a S
 refine q00 S rfl ?_ ?_ <;> intro h
 ·revert a; refine go 4 ?_; intro a S
  refine wp_ret (fr1 S Tryz.results70 ?_)
  exact qxb
 revert a; refine go 5 ?_; intro a S
 refine q00 S rfl ?_ ?_ <;> intro h
 ·revert a; refine go 4 ?_; intro a S
  refine wp_ret (fr1 S Tryz.results70 ?_)
  exact qxb
 revert a; revert Z; refine go 6 ?_; intro a S
 refine wp_ret (fr1 S Tryz.results70 ?_)
 exact qxb
theorem qwz {p : Prop} (h : p := by (congr 1; first | (rw [if_pos (show qar l = true ∧ qar m = true by simp_all)]; done) | (rw [if_neg (show ¬ (qar l = true ∧ qar m = true) by simp_all)]; done))) : p := h
theorem q9m (F : q01) (l m : Vf) (v u : Value) (hv : TrS F 4 VhR v l) (hu : TrS F 4 VhR u m) : Ct Tryz.prog 40 [v, u] F [] (fun _ _ u => u = .int .i64 (if qar l = true ∧ qar m = true then cmpL l m else if qar l = qar m then 0 else if qar l = true then -1 else 1)) := by
 have h1 := qua F l v hv
 have h2 := qua F m u hu
 have h3 := qux (u4u l.size) F l m v u (Nat.le_refl _) hv hu
 obtain ⟨a1, c1, rfl, -⟩ := hv
 obtain ⟨a2, c2, rfl, -⟩ := hu
 refine Ct.enter Tryz.func40 rfl Tryz.ntmps40 rfl fun w0 a S => ?_
 revert a; refine go 7 ?_; intro Z hZ Z hZ a S
 (refine wc0 S h1 ?_; clear S a; intro v a w hv S; subst hv)
 revert a; refine go 1 ?_; intro a S
 (refine wc0 S h2 ?_; clear S a; intro v a w hv S; subst hv)
 revert a; revert Z; refine go 8 ?_; intro Z hZ a S
 refine wgd S ?_ ?_
 ·(clear S; intro h S)
  revert a; revert Z; refine go 6 ?_; intro a S
  refine q00 S rfl ?_ ?_ <;> intro h
  ·revert a; refine go 3 ?_; intro Z hZ a S
   (refine wc0 S (qvg F _ _) ?_; clear S a; intro v a w hv S; subst hv)
   revert a; revert Z; refine go 3 ?_; intro a S
   refine wp_ret (fr1 S Tryz.results40 ?_)
   exact qwz
  revert a; revert Z; refine go 5 ?_; intro Z hZ a S
  (refine wc0 S (h3) ?_; clear S a; intro v a w hv S; subst hv)
  revert a; revert Z; refine go 3 ?_; intro a S
  refine wp_ret (fr1 S Tryz.results40 ?_)
  exact qwz
 (clear S a; intro h a S)
 revert a; revert Z; refine go 4 ?_; intro a S
 refine q0h S rfl ?_
 revert a; refine go 3 ?_; intro Z hZ a S
 (refine wc0 S (qvg F _ _) ?_; clear S a; intro v a w hv S; subst hv)
 revert a; revert Z; refine go 3 ?_; intro a S
 refine wp_ret (fr1 S Tryz.results40 ?_)
 exact qwz
theorem u15 (h : VH) (L : Vf) : qar (.cons h L .nil) = q3q (h, L) := by
 unfold qar qrs qrs
 rw [Bool.or_false, Bool.not_not]
theorem u04 (F : q01) (x y : Vv) (cx cy : List Value) (hx : VaC F cx x.1 x.2) (hy : VaC F cy y.1 y.2) : Ct Tryz.prog 17 [.agg ⟨cx⟩, .agg ⟨cy⟩] F [] (fun _ _ u => u = .int .i64 (q40 x y)) := by
 have ex := qn1 hx
 have ey := qn1 hy
 obtain ⟨v1, rfl, ⟨a1, c1, rfl, -⟩, -⟩ := hx
 obtain ⟨v2, rfl, ⟨a2, c2, rfl, -⟩, -⟩ := hy
 refine Ct.enter Tryz.func17 rfl Tryz.ntmps17 rfl fun w0 a S => ?_
 refine q1i fun Z hZ => ?_
 (refine wbx S ?_; clear S a; intro b2 a w S)
 (refine wbx S ?_; clear S a; intro b3 a w S)
 revert a; revert Z; refine go 5 ?_; intro Z hZ a S
 (refine q0d S rfl rfl rfl rfl rfl rfl (by rfl) (by simp [Value.cells, splice, splice]) rfl (by rfl) (by rfl) ?_; clear S a; intro b6 a w hown S)
 revert a; refine go 1 ?_; intro a S
 (refine q0d S rfl rfl rfl rfl rfl rfl (by rfl) (by simp [Value.cells, splice, splice]) rfl (by rfl) (by rfl) ?_; clear S a; intro b8 a w hown S)
 (replace S := St.pullB b6 S; replace S := St.pullB b8 S; have S' := qui [(b8, _), (b6, _)] S; clear S; obtain ⟨F5, hle5, hbl, S⟩ := S'; have h6 := hbl _ (List.mem_cons_of_mem _ (qaH ..)); have h8 := hbl _ (qaH ..); have t6 : TrS F5 4 VhR (.slice (some ⟨b6, 0, none⟩) 1 1) (.cons x.1 x.2 .nil) := q8c (l := [x]) (qi1 (l := [x]) h6 (LiC.one rfl (Mon.h hle5 ex)) (show 1 ≤ _ by decide)); have t8 : TrS F5 4 VhR (.slice (some ⟨b8, 0, none⟩) 1 1) (.cons y.1 y.2 .nil) := q8c (l := [y]) (qi1 (l := [y]) h8 (LiC.one rfl (Mon.h hle5 ey)) (show 1 ≤ _ by decide)); refine wc0 S (q9m F5 _ _ _ _ t6 t8) ?_; clear S a; intro v a w hv S; subst hv)
 revert a; revert Z; refine go 3 ?_; intro a S
 refine wp_ret (fr1 S Tryz.results17 ?_)
 (congr 1; rw [u15, u15]; unfold q40; rw [show cmpL (.cons x.1 x.2 .nil) (.cons y.1 y.2 .nil) = qan x.1 x.2 y.1 y.2 from qsf _])
def ThV : Vf → Prop
 | .nil => True
 | .cons _ L r => L.len * 56 ≤ 140737488355328 ∧ ThV L ∧ ThV r
theorem ThV.get : ∀ {l : Vf} {k : Nat} {x : VH × Vf}, ThV l → l.get? k = some x → x.2.len * 56 ≤ 140737488355328 ∧ ThV x.2
 | .cons h L r, 0, x, hl, e => by cases e; exact ⟨hl.1, hl.2.1⟩
 | .cons h L r, k + 1, x, hl, e => ThV.get (l := r) (k := k) hl.2.2 e
theorem qjc {α : Type} {sz : Nat} {R : q01 → α → List Value → Prop} {F : q01} {v : Value} {l : q1d α} (h : TrS F sz R v l) : LiM F sz (RoR sz R) v (kids l) := by
 obtain ⟨ao, cap, rfl, hc, hpos⟩ := h.sq
 refine ⟨ao, cap, by rw [q2w], by rw [q2w]; exact hc, fun hp => ?_⟩
 rw [q2w] at hp
 obtain ⟨b, o, e, h1⟩ := hpos hp
 refine ⟨b, o, e, fun k x hx => ?_⟩
 have hk : k < l.len := by rw [← q2w]; exact (List.getElem?_eq_some_iff.1 hx).1
 rw [q6z] at hx
 obtain ⟨cs, h2, h3, y, c1, u, h4, h5, h6, h7⟩ := h1 k hk
 rw [hx] at h4
 cases h4
 exact ⟨cs, h2, h3, c1, u, h5, by rw [h5] at h3; simpa using h3, h6, h7⟩
instance : OneC (RoR 4 VhR) := ⟨fun ⟨c, v, h1, _, ⟨h3, _⟩, ⟨_, _, h4, _⟩⟩ => by
 subst h1; subst h3; subst h4
 intro u hu
 simp at hu
 rcases hu with rfl | rfl | rfl | rfl <;> rfl⟩
theorem qv5 {p : Prop} (h : p := by (first | (have h9 := hown; rw [List.flatMap_nil, qaG, Nat.zero_add] at hown; exact ⟨_, _, rfl, hown, hxc⟩) | (have hz : l = [] := (by cases l with | nil => rfl | cons x r => (exfalso; obtain ⟨b, o, e, -⟩ := hxp (by simp); have hno : ao.isNone = true := (by assumption); rw [e] at hno; cases hno)); subst hz; exact ⟨[], [], rfl, q0u.nil _ _, rfl⟩))) : p := h
theorem qjj (F : q01) (v : Value) (l : List (VH × Vf)) (h : LiM F 4 (RoR 4 VhR) v l) (hl : l.length * 56 ≤ 140737488355328) : Ct Tryz.prog 57 [v] F [] (fun _ G' u => ∃ g xs, G' = [g] ∧ q0u 45 4 u l.length xs g ∧ LiC F 4 (RoR 4 VhR) xs l) := by
 obtain ⟨ao, cap, xs, rfl, hxc, hxp⟩ := h.flat
 have hxl := hxc.len
 have hx1 := hxc.one'
 refine Ct.enter Tryz.func57 rfl Tryz.ntmps57 rfl fun w0 a S => ?_
 revert a; refine go 10 ?_; intro Z hZ a S
 refine q00 S rfl ?_ ?_ <;> intro h
 ·revert a; refine go 4 ?_; intro a S
  refine wp_ret ?_
  (first | (have h9 := hown; skip) | (replace S := S.nilg))
  refine q08 S (q0c Tryz.results57 (RV.tmp S rfl)) ?_
  exact qv5
 revert a; revert Z; refine go 3 ?_; intro Z hZ a S
 (refine q0d S rfl rfl rfl rfl rfl rfl (by rfl) (by simp [Value.cells, splice, splice]) rfl (by rfl) (by rfl) ?_; clear S a; intro b5 a w hown S)
 revert a; refine go 1 ?_; intro a S
 (refine q1u S rfl rfl rfl rfl rfl rfl hown (by rfl) hxl hxp hx1 (by omega) (by omega) ?_; clear hown S a; intro v g a w hown S)
 revert a; revert Z; refine go 3 ?_; intro a S
 refine wp_ret ?_
 (first | (have h9 := hown; skip) | (replace S := S.nilg))
 refine q08 S (q0c Tryz.results57 (RV.tmp S rfl)) ?_
 exact qv5
end Go.Proofs.YtbhipiepfclneaaGreatDoor
namespace Go.De
open Go Go.Wk Go.Un
def dpR : Vf → Int
 | .nil => 0
 | .cons _ L r => max (dpR L + 1) (dpR r)
theorem qi5 : ∀ l : Vf, 0 ≤ dpR l
 | .nil => Int.le_refl _
 | .cons _ L r => by have := qi5 L; have := qi5 r; simp only [dpR]; omega
theorem qg1 : ∀ (l : Vf) (n m : Int), qao l n m ≤ max n (dpR l)
 | .nil, n, m => by show n ≤ _; omega
 | .cons h L r, n, m => by
  rw [q45]
  have h1 := qg1 L 0 (m - 1)
  have h2 := qg1 r (max n (qao L 0 (m - 1) + 1)) m
  have h3 := qi5 L
  simp only [dpR]
  split <;> omega
def ql2 (c : UInt8) : Bool := decide (48 ≤ c.toNat ∧ c.toNat ≤ 57)
def qfs (d : List UInt8) : Bool := decide (d ≠ [] ∧ ¬ (1 < d.length ∧ (d.getD 0 0).toNat = 48)) && d.all ql2
def qj6 (s : List UInt8) : Bool := if 1 < s.length ∧ (s.getD 0 0).toNat = 45 then (if ((s.drop 1).getD 0 0).toNat = 48 then false else qfs (s.drop 1)) else qfs s
def qke (s : List UInt8) : Int := if (s.getD 0 0).toNat = 45 then s.length - 1 else s.length
theorem qxn {c : UInt8} (h : ql2 c = true) : qfw.contains c = true := by
 unfold ql2 at h
 rw [decide_eq_true_eq] at h
 have : ∀ n : Nat, 48 ≤ n → n ≤ 57 → ∀ c : UInt8, c.toNat = n → qfw.contains c = true := by
  intro n h1 h2 c hc
  have e : c = UInt8.ofNat n := by rw [← hc]; simp
  subst e
  have : n = 48 ∨ n = 49 ∨ n = 50 ∨ n = 51 ∨ n = 52 ∨ n = 53 ∨ n = 54 ∨ n = 55 ∨ n = 56 ∨ n = 57 := by omega
  rcases this with rfl | rfl | rfl | rfl | rfl | rfl | rfl | rfl | rfl | rfl <;> decide
 exact this _ h.1 h.2 c rfl
theorem q70 {α : Type} {p : α → Bool} : ∀ {l : List α}, (∀ x ∈ l, p x = true) → l.dropWhile p = []
 | [], _ => rfl
 | x :: r, h => by
  rw [List.dropWhile_cons, h x (qaH ..), if_pos rfl]
  exact q70 fun y hy => h y (List.mem_cons_of_mem _ hy)
theorem qs9 {d : List UInt8} (h : d.all ql2 = true) : Lib.trimS d qfw = [] := by
 have h1 : d.reverse.dropWhile (qfw.contains ·) = [] := q70 fun x hx => qxn (List.all_eq_true.1 h x (List.mem_reverse.1 hx))
 unfold Lib.trimS Lib.trimRightS
 rw [h1]; rfl
theorem qcl (s : List UInt8) : q90 s = if s.take 1 = [45] then s.drop 1 else s := by
 unfold q90 Lib.trimPrefix
 cases s with
 | nil => rfl
 | cons c r =>
  by_cases hc : c = 45
  ·subst hc; rfl
  ·have e1 : Lib.hasPrefix (c :: r) [45] = false := by
    unfold Lib.hasPrefix
    simp [List.isPrefixOf, hc, Ne.symm hc]
    try (intro h; exact hc h.symm)
   have e2 : ¬ (c :: r).take 1 = [45] := by simp [hc]
   rw [e1, if_neg e2]; rfl
theorem qx9 {s d : List UInt8} (hd : q90 s = d) (h : qfs d = true) (hz : (d.getD 0 0).toNat = 48 → s = [48]) : q30 s = true := by
 unfold qfs at h
 rw [Bool.and_eq_true, decide_eq_true_eq] at h
 unfold q30
 rw [hd, decide_eq_false h.1.1, qs9 h.2]
 by_cases h0 : (d.getD 0 0).toNat = 48
 ·simp [hz h0]
 ·simp only [decide_eq_false h0, Bool.false_and, ne_eq, not_true_eq_false, decide_false, Bool.or_false, Bool.not_false]
theorem qzn {s : List UInt8} : (s.getD 0 0).toNat = 45 ↔ s.take 1 = [45] := by
 cases s with
 | nil => simp
 | cons c r =>
  simp
  exact ⟨fun h => UInt8.toNat_inj.1 h, fun h => by subst h; rfl⟩
theorem qct {s : List UInt8} (h : qj6 s = true) : q30 s = true ∧ qke s = qeq s := by
 have key : ∀ d, q90 s = d → qfs d = true → ((d.getD 0 0).toNat = 48 → s = [48]) → qke s = d.length → q30 s = true ∧ qke s = qeq s := fun d e hb hz hr => by
  have h1 := qx9 e hb hz
  refine ⟨h1, ?_⟩
  unfold qeq
  rw [if_pos h1, e, hr]
 unfold qj6 at h
 by_cases h1 : 1 < s.length ∧ (s.getD 0 0).toNat = 45
 ·rw [if_pos h1] at h
  by_cases h2 : ((s.drop 1).getD 0 0).toNat = 48
  ·rw [if_pos h2] at h; cases h
  rw [if_neg h2] at h
  refine key (s.drop 1) (by rw [qcl, if_pos (qzn.1 h1.2)]) h (fun h9 => absurd h9 h2) ?_
  unfold qke
  rw [if_pos h1.2, qaJ]; omega
 ·rw [if_neg h1] at h
  have hnd : ¬ (s.getD 0 0).toNat = 45 := fun h9 => by
   have hlen : s.length = 1 ∨ s.length = 0 := by
    have : ¬ 1 < s.length := fun h8 => h1 ⟨h8, h9⟩
    omega
   unfold qfs at h
   rw [Bool.and_eq_true] at h
   cases s with
   | nil => simp at h9
   | cons c r =>
    have h5 := List.all_eq_true.1 h.2 c (qaH ..)
    unfold ql2 at h5
    rw [decide_eq_true_eq] at h5
    simp at h9
    omega
  refine key s (by rw [qcl, if_neg (fun h9 => hnd (qzn.2 h9))]) h (fun h9 => ?_) ?_
  ·unfold qfs at h
   rw [Bool.and_eq_true, decide_eq_true_eq] at h
   cases s with
   | nil => exact absurd rfl h.1.1
   | cons c r =>
    have hr : r = [] := by
     have : ¬ 1 < (c :: r).length := fun h8 => h.1.2 ⟨h8, h9⟩
     simp at this
     exact this
    subst hr
    simp at h9
    have : c = 48 := UInt8.toNat_inj.1 h9
    subst this; rfl
  ·unfold qke; rw [if_neg hnd]
def q58 (s : List UInt8) : Bool := if s = q2d ∨ s = q1f then false else if 0 ≤ q8w s then q3y (cutA s) && q3y (cutB s) else q3y s
def q1n (h : VH) (n : Nat) : Bool :=
 if h.k = 1 then decide ((h.n = 0 ∨ h.n = 1) ∧ h.s = [] ∧ n = 0)
 else if h.k = 2 then decide (h.s = [] ∧ n = 0)
 else if h.k = 3 then decide (h.n = 0 ∧ n = 0) && qj6 h.s
 else if h.k = 4 then decide (h.n = 0 ∧ n = 0)
 else if h.k = 5 then decide (h.n = 0 ∧ h.s = [] ∧ n ≠ 1)
 else if h.k = 6 then decide (h.n = 0) && q58 h.s
 else false
def q2c (h : VH) (n : Nat) : Bool :=
 if h.k = 3 then decide (qke h.s ≤ 200) else if h.k = 4 then decide (h.s.length ≤ 4096) else if h.k = 5 then decide (n ≤ 16) else if h.k = 6 then decide (n ≤ 8) else true
def q2f : Vf → Bool
 | .nil => true
 | .cons h L r => (q1n h L.len && q2f L) && q2f r
def q3d : Vf → Bool
 | .nil => true
 | .cons h L r => (q2c h L.len && q3d L) && q3d r
def q4h (h : VH) (L : Vf) : Int := if 64 < dpR L + 1 then 65 else if (q1n h L.len && q2f L) = false then 4 else if (q2c h L.len && q3d L) = false then 40 else 0
theorem qeh {s : List UInt8} (h : q58 s = true) : (q3y (cutA s) && ((cutC s && q3y (cutB s)) || (!cutC s && decide (s ≠ q2d ∧ s ≠ q1f)))) = true := by
 unfold q58 at h
 by_cases h1 : s = q2d ∨ s = q1f
 ·rw [if_pos h1] at h; cases h
 rw [if_neg h1] at h
 by_cases h2 : 0 ≤ q8w s
 ·rw [if_pos h2, Bool.and_eq_true] at h
  unfold cutC
  rw [decide_eq_true h2, h.1, h.2]; rfl
 ·rw [if_neg h2] at h
  unfold cutC cutA
  rw [decide_eq_false h2, if_neg h2, h, decide_eq_true (show s ≠ q2d ∧ s ≠ q1f from ⟨fun e => h1 (.inl e), fun e => h1 (.inr e)⟩)]
  rfl
theorem qfh {h : VH} {n : Nat} (hf : q1n h n = true) : q16 h n = true := by
 unfold q1n at hf
 unfold q16
 by_cases k1 : h.k = 1
 ·rw [if_pos k1] at hf ⊢; exact hf
 rw [if_neg k1] at hf ⊢
 by_cases k2 : h.k = 2
 ·rw [if_pos k2] at hf ⊢; exact hf
 rw [if_neg k2] at hf ⊢
 by_cases k3 : h.k = 3
 ·rw [if_pos k3] at hf ⊢
  rw [Bool.and_eq_true] at hf ⊢
  exact ⟨(qct hf.2).1, hf.1⟩
 rw [if_neg k3] at hf ⊢
 by_cases k4 : h.k = 4
 ·rw [if_pos k4] at hf ⊢; exact hf
 rw [if_neg k4] at hf ⊢
 by_cases k5 : h.k = 5
 ·rw [if_pos k5] at hf ⊢; exact hf
 rw [if_neg k5] at hf ⊢
 by_cases k6 : h.k = 6
 ·rw [if_pos k6] at hf ⊢
  rw [Bool.and_eq_true] at hf ⊢
  exact ⟨hf.1, qeh hf.2⟩
 ·rw [if_neg k6] at hf; cases hf
theorem qez {h : VH} {n : Nat} (hf : q1n h n = true) (hg : q2c h n = true) : q53 h n = true := by
 unfold q2c at hg
 unfold q53
 by_cases k3 : h.k = 3
 ·rw [if_pos k3] at hg ⊢
  unfold q1n at hf
  rw [if_neg (by omega), if_neg (by omega), if_pos k3, Bool.and_eq_true] at hf
  rw [← (qct hf.2).2]; exact hg
 ·rw [if_neg k3] at hg ⊢; exact hg
theorem qxe : ∀ {l : Vf}, q2f l = true → q3d l = true → q29 l = true ∧ q60 l = true
 | .nil, _, _ => ⟨rfl, rfl⟩
 | .cons h L r, hf, hg => by
  unfold q2f at hf
  unfold q3d at hg
  rw [Bool.and_eq_true, Bool.and_eq_true] at hf hg
  obtain ⟨a1, a2⟩ := qxe hf.1.2 hg.1.2
  obtain ⟨b1, b2⟩ := qxe hf.2 hg.2
  rw [q24, q48, qfh hf.1.1, qez hf.1.1 hg.1.1, a1, a2, b1, b2]
  exact ⟨rfl, rfl⟩
theorem qnb {h : VH} {L : Vf} (hc : q4h h L = 0) : q2e h L = 0 := by
 unfold q4h at hc
 by_cases h1 : 64 < dpR L + 1
 ·rw [if_pos h1] at hc; cases hc
 rw [if_neg h1] at hc
 by_cases h2 : (q1n h L.len && q2f L) = false
 ·rw [if_pos h2] at hc; cases hc
 rw [if_neg h2] at hc
 by_cases h3 : (q2c h L.len && q3d L) = false
 ·rw [if_pos h3] at hc; cases hc
 rw [Bool.not_eq_false, Bool.and_eq_true] at h2 h3
 have hd := qg1 L 0 65
 have hn := qi5 L
 obtain ⟨a, b⟩ := qxe h2.2 h3.2
 unfold q2e
 rw [if_neg (by omega), qfh h2.1, qez h2.1 h3.1, a, b, if_neg (by decide), if_neg (by decide)]
end Go.De
namespace Go.Proofs.YtbhipiepfclneaaGreatDoor
open Go Go.Wk Go.Un Go.De Go.Num
attribute [local irreducible] Go.wpList Go.Code.wp Go.wpStill Go.Wk.q26 Go.bodyPost Go.Calls Go.Wk.Ct Go.Wk.q0u Go.Wk.wpG Go.Wk.wpM
def dpN : Vf → Nat
 | .nil => 0
 | .cons _ L r => max (dpN L + 1) (dpN r)
theorem bd {b : Bool} {p : Prop} [Decidable p] (h : b = true ↔ p) : b = decide p := by rw [Bool.eq_iff_iff, decide_eq_true_eq]; exact h
def q50 (F : q01) : Prop := ∀ w : World, (∀ b o, F b = some o → w.heap[b]? = some o) → Lib.TabIs Tryz.prog w "internal/strconv.uint64pow10" .u64 Lib.pow10Tab
theorem q50.mono {F F' : q01} (h : q50 F) (hF : ∀ b o, F b = some o → F' b = some o) : q50 F' := fun w hw => h w fun b o hb => hw b o (hF b o hb)
theorem qsc (n : Nat) (F : q01) (hn : n ≤ 9223372036854775807) (hT : q50 F) : Ct Tryz.prog 36 [.int .i64 (n : Int), .int .i64 10] F [] (fun _ _ u => u = .string (bs (Lib.decDigits n))) := by
 refine q2s fun w hw => ?_
 refine (Tryz.strconv_FormatInt_10 n (by omega) (by omega) w (hT w hw.frz)).mono fun e w' ⟨h1, k, os, h2⟩ => ⟨?_, ?_⟩
 ·rw [h1, Lib.itoa_nonneg]; rfl
 ·rw [h2]; exact Lib.below_grow _ w (Nat.le_refl _) k os
theorem qt5 (c : UInt8) (k : Nat) (F : q01) (hk : k ≤ 1000000000) : Ct Tryz.prog 62 [.string (bs [c]), .int .i64 (k : Int)] F [] (fun _ _ u => u = .string (bs (List.replicate k c))) := by
 refine q2s fun w hw => ?_
 have he : ∀ k, Lib.repeatL [c] k = List.replicate k c := fun k => by
  induction k with
  | zero => rfl
  | succ k ih => rw [Lib.repeatL, ih]; rfl
 refine (Tryz.strings_Repeat (bs [c]) k w (by omega) (by rw [qdb]; simp; omega)).mono fun e w' ⟨h1, h2⟩ => ⟨?_, h2⟩
 rw [h1, show (bs [c]).data.toList = [c] from rfl, he]; rfl
theorem q1t {u : Nat} (h : u < 10) : Lib.decDigits u = [UInt8.ofNat (48 + u)] := by rw [Lib.decDigits, dif_pos h]
theorem q4y {u : Nat} (h : ¬ u < 10) : Lib.decDigits u = Lib.decDigits (u / 10) ++ [UInt8.ofNat (48 + u % 10)] := by rw [Lib.decDigits, dif_neg h]
theorem q35 (u : Nat) : (Lib.decDigits u).all isD = true := by
 induction u using Nat.strongRecOn with
 | _ u ih =>
  have hd : ∀ x, x < 10 → isD (UInt8.ofNat (48 + x)) = true := fun x hx => by
   unfold isD; rw [UInt8.toNat_ofNat', Nat.mod_eq_of_lt (by omega)]; simp; omega
  by_cases h : u < 10
  ·rw [q1t h, List.all_cons, hd u h]; rfl
  ·rw [q4y h, List.all_append, ih (u / 10) (by omega), List.all_cons, hd _ (Nat.mod_lt u (by decide))]; rfl
theorem q21 (u : Nat) : q14 (Lib.decDigits u) = u := by
 induction u using Nat.strongRecOn with
 | _ u ih =>
  have hd : ∀ x, x < 10 → dv (UInt8.ofNat (48 + x)) = x := fun x hx => by
   unfold dv; rw [UInt8.toNat_ofNat', Nat.mod_eq_of_lt (by omega)]; omega
  by_cases h : u < 10
  ·rw [q1t h]; show 10 * 0 + dv (UInt8.ofNat (48 + u)) = u; rw [hd u h]; omega
  ·rw [q4y h, qa5, ih (u / 10) (by omega), hd _ (Nat.mod_lt u (by decide))]; omega
theorem qt6 (u : Nat) : Lib.decDigits u ≠ [] := by
 by_cases h : u < 10
 ·rw [q1t h]; simp
 ·rw [q4y h]; simp
theorem q4c (u : Nat) : 0 < (Lib.decDigits u).length := List.length_pos_iff.2 (qt6 u)
theorem u3e (m : Nat) : ∀ (H lo : Nat), 0 < H → lo < 10 ^ m → (Lib.decDigits lo).length ≤ m ∨ m = 0 → Lib.decDigits (H * 10 ^ m + lo) = Lib.decDigits H ++ (if m = 0 then [] else List.replicate (m - (Lib.decDigits lo).length) 48 ++ Lib.decDigits lo) := by
 induction m with
 | zero => intro H lo _ hl _; simp only [Nat.pow_zero] at hl; rw [show lo = 0 by omega]; simp
 | succ m ih =>
  intro H lo hH hl hlen
  have hpw : 10 ^ (m + 1) = 10 ^ m * 10 := Nat.pow_succ ..
  have hp : 0 < 10 ^ m := Nat.pow_pos (by decide)
  have hge : 1 * 10 ^ m ≤ H * 10 ^ m := Nat.mul_le_mul_right _ hH
  have e1 : H * 10 ^ (m + 1) + lo = (H * 10 ^ m + lo / 10) * 10 + lo % 10 := by rw [hpw, ← Nat.mul_assoc, Nat.add_mul]; omega
  have hb : ¬ (H * 10 ^ (m + 1) + lo < 10) := by rw [e1]; omega
  rw [q4y hb]
  have e2 : (H * 10 ^ (m + 1) + lo) / 10 = H * 10 ^ m + lo / 10 := by rw [e1]; omega
  have e3 : (H * 10 ^ (m + 1) + lo) % 10 = lo % 10 := by rw [e1]; omega
  rw [e2, e3, if_neg (by omega)]
  by_cases hlo : lo < 10
  ·-- one digit, and noughts ahead
   have hz : ∀ k : Nat, Lib.decDigits (H * 10 ^ k) = Lib.decDigits H ++ List.replicate k 48 := fun k => by
    induction k with
    | zero => simp
    | succ k ihk =>
     have hpk : 0 < 10 ^ k := Nat.pow_pos (by decide)
     have hgk : 1 * 10 ^ k ≤ H * 10 ^ k := Nat.mul_le_mul_right _ hH
     have e4 : H * 10 ^ (k + 1) = H * 10 ^ k * 10 := by rw [Nat.pow_succ, Nat.mul_assoc]
     rw [e4, q4y (by omega), show H * 10 ^ k * 10 / 10 = H * 10 ^ k by omega, show H * 10 ^ k * 10 % 10 = 0 by omega, ihk, qaB, List.replicate_succ']; rfl
   rw [show lo / 10 = 0 by omega, Nat.add_zero, hz m, q1t hlo, Nat.mod_eq_of_lt hlo]
   simp
  ·have h1 := ih H (lo / 10) hH (by omega) (by
    by_cases hm : m = 0
    ·exact Or.inr hm
    ·left
     have := hlen.resolve_right (by omega)
     rw [q4y hlo, qaA, List.length_singleton] at this; omega)
   have hm : m ≠ 0 := fun e => by subst e; simp at hl; omega
   rw [h1, if_neg hm, q4y hlo]
   have hl2 : (Lib.decDigits (lo / 10) ++ [UInt8.ofNat (48 + lo % 10)]).length = (Lib.decDigits (lo / 10)).length + 1 := by simp
   rw [hl2, show m + 1 - ((Lib.decDigits (lo / 10)).length + 1) = m - (Lib.decDigits (lo / 10)).length by omega]
   simp [qaB]
theorem qet {u m : Nat} (h : u < 10 ^ m) (hm : m ≠ 0) : (Lib.decDigits u).length ≤ m := by
 induction m generalizing u with
 | zero => exact absurd rfl hm
 | succ m ih =>
  by_cases hu : u < 10
  ·rw [q1t hu]; simp
  ·rw [q4y hu, qaA, List.length_singleton]
   have hpw : 10 ^ (m + 1) = 10 ^ m * 10 := Nat.pow_succ ..
   have hm0 : m ≠ 0 := fun e => by subst e; simp at h; omega
   have := ih (u := u / 10) (by omega) hm0
   omega
theorem qyv {H lo : Nat} (hH : 0 < H) (hlo : lo < 1000000000) : Lib.decDigits (H * 1000000000 + lo) = Lib.decDigits H ++ (List.replicate (9 - (Lib.decDigits lo).length) 48 ++ Lib.decDigits lo) := by
 have := u3e 9 H lo hH hlo (Or.inl (qet (m := 9) hlo (by decide)))
 rwa [if_neg (by decide)] at this
