/- Walks. -/
import Derived.Test.YtbhipiepfclneaaGreatDoorKGroupPlays05
set_option maxHeartbeats 8000000
set_option maxRecDepth 20000
set_option linter.unusedVariables false
set_option linter.unusedSimpArgs false
namespace Go.Proofs.YtbhipiepfclneaaGreatDoor
open Go Go.Wk Go.Un Go.De Go.Num
attribute [local irreducible] Go.wpList Go.Code.wp Go.wpStill Go.Wk.q26 Go.bodyPost Go.Calls Go.Wk.Ct Go.Wk.q0u Go.Wk.wpG Go.Wk.wpM
theorem qep {l : Vf} {k : Nat} {x : Vv} (h : l.get? k = some x) : q2m (l.drop k) = (decide (q4h x.1 x.2 = 0) && q2m (l.drop (k + 1))) := by rw [q1d.drop_get h]; rfl
def dvZ : Vf → Int
 | .nil => 0
 | .cons _ L r => max (IntKind.i64.wrap (dvZ L + 1)) (dvZ r)
theorem qp1 : ∀ l : Vf, 0 ≤ dvZ l
 | .nil => Int.le_refl _
 | .cons h L r => by show 0 ≤ max _ (dvZ r); have := qp1 r; omega
theorem qs3 {l : Vf} {k : Nat} {x : Vv} (h : l.get? k = some x) : dvZ (l.drop k) = max (IntKind.i64.wrap (dvZ x.2 + 1)) (dvZ (l.drop (k + 1))) := by rw [q1d.drop_get h]; rfl
theorem u2w : ∀ (n : Nat) (F : q01) (x : Vv) (cs : List Value), x.2.size < n → VaC F cs x.1 x.2 → Ct Tryz.prog 110 [.agg ⟨cs⟩] F [] (fun _ _ u => u = .int .i64 (IntKind.i64.wrap (dvZ x.2 + 1))) := by
 intro n
 induction n with
 | zero => intro F x cs hn; omega
 | succ n ih =>
 intro F x cs hn hV
 obtain ⟨⟨xk, xn, xs⟩, xl⟩ := x
 obtain ⟨v1, rfl, ⟨ao, cap, rfl, hcap, hpos⟩, hs1⟩ := hV
 dsimp only at *
 refine Ct.enter Tryz.func110 rfl Tryz.ntmps110 rfl fun w0 a S => ?_
 refine q1i fun Z hZ => ?_
 (refine wbx S ?_; clear S a; intro b1 a w S)
 revert a; revert Z; refine go 13 ?_; intro Z hZ a S
 refine q04 (fun m a w' => ∃ (k : Nat) (p : Int), m = xl.len - k ∧ k ≤ xl.len ∧ max p (dvZ (xl.drop k)) = dvZ xl ∧ 0 ≤ p ∧ St 22 [(1, ptr b1), (3, .int .i64 p), (4, .int .i64 (k : Int))] w0 F [] F [[(b1, .cells ⟨[.int .u8 (xk : Int), .int .i64 xn, .string (bs xs), .slice ao xl.len cap]⟩ 45 (0, 0))]] a w') ?_ ?_
 ·(refine ⟨xl.len, 0, 0, by omega, Nat.zero_le _, (by have := qp1 xl; show max 0 (dvZ xl) = _; omega), Int.le_refl _, ?_⟩; refine S.keep ?_; exact zk)
 (clear S; rintro m a w ⟨k, p, rfl, hkl, hfp, hp0, S⟩)
 revert a; refine go 9 ?_; intro Z hZ a S
 refine q00 S rfl ?_ ?_ <;> intro h
 ·revert a; revert Z; refine go 4 ?_; intro Z hZ a S
  (obtain ⟨b8, o8, hao, x, cs1, v1, hx, hc1, hw9, hT1⟩ := TrM.pos hpos (k := k) (by omega); rw [hao] at S; have hxs := q1d.size_get hx; have hT1c := hT1; obtain ⟨a91, c91, rfl, -⟩ := hT1c; have hw9c := hw9.1; subst hw9c; (simp only [List.cons_append, qaG] at hc1))
  revert a; refine go 7 ?_; intro a S
  (refine wc0 S (ih F x _ (by omega) ⟨_, rfl, hT1, hw9.2⟩) ?_; clear S a; intro v a w hv S; subst hv)
  (refine wv S (qnc S rfl rfl rfl) ?_; clear S a; intro a S)
  revert a; revert Z; refine go 8 ?_; intro a S
  change ∃ m', _ ∧ _
  (rw [← hao] at S; refine ⟨xl.len - (k + 1), by omega, k + 1, max p (IntKind.i64.wrap (dvZ x.2 + 1)), rfl, by omega, ?_, by omega, ?_⟩; rotate_left 1; (refine S.keep ?_; exact zk); rw [← hfp, qs3 hx]; omega)
 (refine wp_exit ?_; conv => whnf)
 clear hZ Z
 revert a; revert Z; refine go 3 ?_; intro Z hZ a S
 (refine wv S (qyb S rfl rfl rfl) ?_; clear S a; intro a S)
 revert a; revert Z; refine go 3 ?_; intro a S
 refine wp_ret (fr1 S Tryz.results110 ?_)
 (rw [← hfp, q1d.drop_len (by omega)]; show _ = Value.int .i64 (IntKind.i64.wrap (max p 0 + 1)); rw [show max p 0 = p by omega])
theorem qon : ∀ L : Vf, dpN L ≤ 1000000000 → dvZ L = (dpN L : Int)
 | .nil, _ => rfl
 | .cons h L r, hs => by
  have h1 : dpN L + 1 ≤ 1000000000 ∧ dpN r ≤ 1000000000 := by simp only [dpN] at hs; omega
  have h2 := qon L (by omega)
  have h3 := qon r h1.2
  show max (IntKind.i64.wrap (dvZ L + 1)) (dvZ r) = ((max (dpN L + 1) (dpN r) : Nat) : Int)
  rw [h2, h3, IntWalk.i64_in ((dpN L : Int) + 1) (by omega)]
  omega
theorem qte {p : Prop} (h : p := by (congr 1; unfold q4h; first | (rw [if_pos (by omega)]; done) | (rw [if_neg (by omega), if_pos (by assumption)]; done) | (rw [if_neg (by omega), if_neg (by rw [(by assumption : (q1n x.1 x.2.len && q2f x.2) = true)]; decide), if_pos (by assumption)]; done) | (rw [if_neg (by omega), if_neg (by rw [(by assumption : (q1n x.1 x.2.len && q2f x.2) = true)]; decide), if_neg (by rw [(by assumption : (q2c x.1 x.2.len && q3d x.2) = true)]; decide)]; done))) : p := h
theorem qgp (F : q01) (x : Vv) (cs : List Value) (hz : dpN x.2 + 1 ≤ 1000000000) (hV : VaC F cs x.1 x.2) : Ct Tryz.prog 72 [.agg ⟨cs⟩] F [] (fun _ _ u => u = .int .i64 (q4h x.1 x.2)) := by
 have hdp := u2w (x.2.size + 1) F x cs (Nat.lt_succ_self _) hV
 rw [qon x.2 (by omega), IntWalk.i64_in ((dpN x.2 : Int) + 1) (by omega)] at hdp
 have hfm := qwe (x.2.size + 1) F x cs (Nat.lt_succ_self _) hV
 have hft := fun h => qyt (x.2.size + 1) F x cs (Nat.lt_succ_self _) h hV
 have hdn := qw8 x.2
 obtain ⟨a1, c1, rfl, -, -⟩ := qxp hV
 refine Ct.enter Tryz.func72 rfl Tryz.ntmps72 rfl fun w0 a S => ?_
 refine q1i fun Z hZ => ?_
 (refine wbx S ?_; clear S a; intro b1 a w S)
 revert a; revert Z; refine go 6 ?_; intro Z hZ Z hZ a S
 (refine wc0 S (hdp) ?_; clear S a; intro v a w hv S; subst hv)
 revert a; revert Z; refine go 3 ?_; intro a S
 refine q00 S rfl ?_ ?_ <;> intro h
 ·revert a; refine go 4 ?_; intro a S
  refine wp_ret (fr1 S Tryz.results72 ?_)
  exact qte
 revert a; revert Z; refine go 5 ?_; intro Z hZ Z hZ a S
 (refine wc0 S (hfm) ?_; clear S a; intro v a w hv S; subst hv)
 revert a; revert Z; refine go 3 ?_; intro a S
 refine q00 S rfl ?_ ?_ <;> intro h
 ·revert a; refine go 4 ?_; intro a S
  refine wp_ret (fr1 S Tryz.results72 ?_)
  exact qte
 revert a; revert Z; refine go 5 ?_; intro Z hZ Z hZ a S
 (refine wc0 S (hft (by assumption)) ?_; clear S a; intro v a w hv S; subst hv)
 revert a; revert Z; refine go 3 ?_; intro a S
 refine q00 S rfl ?_ ?_ <;> intro h
 ·revert a; refine go 4 ?_; intro a S
  refine wp_ret (fr1 S Tryz.results72 ?_)
  exact qte
 revert a; revert Z; refine go 6 ?_; intro a S
 refine wp_ret (fr1 S Tryz.results72 ?_)
 exact qte
theorem qmi (c : UInt8) : -9223372036854775808 ≤ (c.toNat : Int) ∧ (c.toNat : Int) ≤ 9223372036854775807 := by have := c.toNat_lt; omega
theorem uai {a b : Int} (h : ¬ (a == 45) = (b == 45)) : ¬ (a = 45 ↔ b = 45) := fun e => h (decide_eq_decide.2 e)
theorem qx2 {p : Prop} (h : p := by (congr 1; unfold cI; first | (rw [if_pos (by omega)]; done) | (rw [if_neg (by omega), if_pos (by omega)]; done) | (rw [if_neg (by omega), if_neg (by omega)]; done))) : p := h
theorem q5d (F : q01) (a b : Int) : Ct Tryz.prog 153 [.int .i64 a, .int .i64 b] F [] (fun _ _ u => u = .int .i64 (cI a b)) := by
 refine Ct.enter Tryz.func153 rfl Tryz.ntmps153 rfl fun w0 a S => ?_
 revert a; refine go 11 ?_; intro Z hZ a S
 refine q00 S rfl ?_ ?_ <;> intro h
 ·revert a; refine go 4 ?_; intro a S
  refine wp_ret (fr1 S Tryz.results153 ?_)
  exact qx2
 revert a; revert Z; refine go 9 ?_; intro Z hZ a S
 refine q00 S rfl ?_ ?_ <;> intro h
 ·revert a; refine go 4 ?_; intro a S
  refine wp_ret (fr1 S Tryz.results153 ?_)
  exact qx2
 revert a; revert Z; refine go 6 ?_; intro a S
 refine wp_ret (fr1 S Tryz.results153 ?_)
 exact qx2
theorem qzh (c d : UInt8) (s t : List UInt8) : cS (c :: s) (d :: t) = if c = d then cS s t else cI c.toNat d.toNat := by
 unfold cS cI
 by_cases h : c = d
 ·subst h
  rw [if_pos rfl]
  have e : Op.bytesLess (c :: s) (c :: t) = Op.bytesLess s t := by simp [Op.bytesLess]
  rw [e]
  by_cases h2 : Op.bytesLess s t = true
  ·rw [if_pos h2, if_pos h2]
  ·rw [if_neg h2, if_neg h2]
   by_cases h3 : s = t
   ·rw [if_pos h3, if_pos (by rw [h3])]
   ·rw [if_neg h3, if_neg (by simpa using h3)]
 ·rw [if_neg h]
  have hn : c.toNat ≠ d.toNat := fun e => h (UInt8.toNat_inj.1 e)
  have e : Op.bytesLess (c :: s) (d :: t) = decide (c.toNat < d.toNat) := by
   simp only [Op.bytesLess]
   rw [show (c == d) = false by simpa using h, Bool.false_and, Bool.or_false]
   rw [decide_eq_decide]; exact UInt8.lt_iff_toNat_lt
  rw [e]
  by_cases h2 : c.toNat < d.toNat
  ·rw [if_pos (decide_eq_true h2), if_pos (by omega)]
  ·rw [if_neg (by simpa using h2), if_neg (by simp [h]), if_neg (by omega), if_pos (by omega)]
theorem u3w (s t : List UInt8) (h : s = [] ∨ t = []) : cS s t = cI s.length t.length := by
 unfold cS cI
 rcases h with rfl | rfl
 ·cases t with
  | nil => rfl
  | cons c r => simp [Op.bytesLess]
 ·cases s with
  | nil => rfl
  | cons c r => simp [Op.bytesLess]; omega
theorem qlc {s t : List UInt8} {k : Nat} (h1 : k < s.length) (h2 : k < t.length) : cS (s.drop k) (t.drop k) = if (s.getD k 0).toNat = (t.getD k 0).toNat then cS (s.drop (k + 1)) (t.drop (k + 1)) else cI (s.getD k 0).toNat (t.getD k 0).toNat := by
 rw [List.drop_eq_getElem_cons h1, List.drop_eq_getElem_cons h2, qzh, List.getD_eq_getElem?_getD, List.getD_eq_getElem?_getD, List.getElem?_eq_getElem h1, List.getElem?_eq_getElem h2]
 simp only [Option.getD_some]
 by_cases h : s[k] = t[k]
 ·rw [if_pos h, if_pos (by rw [h])]
 ·rw [if_neg h, if_neg (fun e => h (UInt8.toNat_inj.1 e))]
theorem u2t {s t : List UInt8} {k : Nat} (h1 : k ≤ s.length) (h2 : k ≤ t.length) (h : k = s.length ∨ k = t.length) : cS (s.drop k) (t.drop k) = cI s.length t.length := by
 rw [u3w _ _ (by rcases h with h | h <;> simp [h]), qaJ, qaJ]
 unfold cI
 (repeat' split) <;> omega
theorem qyj {p : Prop} (h : p := by (congr 1; rw [← hfp]; first | (rw [u2t hk1 hk2 (by omega)]; done) | (rw [qlc (k := k) (by omega) (by omega), if_neg (by omega)]; done))) : p := h
theorem qbs (F : q01) (s t : List UInt8) (h1 : s.length ≤ 140737488355328) (h2 : t.length ≤ 140737488355328) : Ct Tryz.prog 155 [.string (bs s), .string (bs t)] F [] (fun _ _ u => u = .int .i64 (cS s t)) := by
 refine Ct.enter Tryz.func155 rfl Tryz.ntmps155 rfl fun w0 a S => ?_
 revert a; refine go 10 ?_; intro Z hZ a S
 refine q04 (fun m a w' => ∃ (k : Nat), m = s.length - k ∧ k ≤ s.length ∧ k ≤ t.length ∧ cS (s.drop k) (t.drop k) = cS s t ∧ St 39 [(0, .string (bs s)), (1, .string (bs t)), (5, .int .i64 (k : Int))] w0 F [] F [] a w') ?_ ?_
 ·(refine ⟨s.length, 0, by omega, Nat.zero_le _, Nat.zero_le _, rfl, ?_⟩; refine S.keep ?_; exact zk)
 (clear S; rintro m a w ⟨k, rfl, hk1, hk2, hfp, S⟩)
 revert a; refine go 7 ?_; intro Z hZ Z hZ a S
 refine wgd S ?_ ?_
 ·(clear S; intro h S)
  revert a; revert Z; refine go 10 ?_; intro a S
  refine q00 S rfl ?_ ?_ <;> intro h
  ·revert a; revert Z; refine go 4 ?_; intro Z hZ a S
   (refine wp_seq_k ?_; intro Z hZ)
   (refine q0k [0, 1, 2, 3, 4, 5, 6] [] [] (.one 0 (.one 1 (.one 2 (.one 3 (.one 4 (.one 5 (.one 6 .nil))))))) [] S mixed (by kernel_rfl) ?_; clear S; intro w S)
   revert a; refine go 2 ?_; intro a S
   first | (refine q19 S rfl rfl rfl (q06 _ rfl) rfl rfl (fun w' S => q07 S rfl rfl rfl (by first | omega | exact qmi _)) ?_; clear S a; intro a S) | (refine q19 S rfl rfl rfl (q06 _ rfl) rfl rfl (fun w' S => q0t S rfl rfl rfl (by first | omega | exact qmi _)) ?_; clear S a; intro a S)
   revert a; refine go 2 ?_; intro a S
   first | (refine q19 S rfl rfl rfl (q06 _ rfl) rfl rfl (fun w' S => q07 S rfl rfl rfl (by first | omega | exact qmi _)) ?_; clear S a; intro a S) | (refine q19 S rfl rfl rfl (q06 _ rfl) rfl rfl (fun w' S => q0t S rfl rfl rfl (by first | omega | exact qmi _)) ?_; clear S a; intro a S)
   revert a; revert Z; refine go 3 ?_; intro a S
   refine q00 S rfl ?_ ?_ <;> intro h
   ·(refine wp_seq_k ?_; intro Z hZ)
    (refine q0k [0, 1, 2, 3, 4, 5, 6, 7] [] [] (.one 0 (.one 1 (.one 2 (.one 3 (.one 4 (.one 5 (.one 6 (.one 7 (.one 8 (.one 9 .nil)))))))))) [] S mixed (by kernel_rfl) ?_; clear S; intro w S)
    revert a; refine go 2 ?_; intro a S
    first | (refine q19 S rfl rfl rfl (q06 _ rfl) rfl rfl (fun w' S => q07 S rfl rfl rfl (by first | omega | exact qmi _)) ?_; clear S a; intro a S) | (refine q19 S rfl rfl rfl (q06 _ rfl) rfl rfl (fun w' S => q0t S rfl rfl rfl (by first | omega | exact qmi _)) ?_; clear S a; intro a S)
    (refine q19 S rfl rfl rfl (q06 _ rfl) rfl rfl (fun w' S => q1l S rfl rfl (by first | omega | exact qmi _)) ?_; clear S a; intro a S)
    revert a; refine go 2 ?_; intro a S
    first | (refine q19 S rfl rfl rfl (q06 _ rfl) rfl rfl (fun w' S => q07 S rfl rfl rfl (by first | omega | exact qmi _)) ?_; clear S a; intro a S) | (refine q19 S rfl rfl rfl (q06 _ rfl) rfl rfl (fun w' S => q0t S rfl rfl rfl (by first | omega | exact qmi _)) ?_; clear S a; intro a S)
    (refine q19 S rfl rfl rfl (q06 _ rfl) rfl rfl (fun w' S => q1l S rfl rfl (by first | omega | exact qmi _)) ?_; clear S a; intro a S)
    refine q1q rfl rfl (kwa S) ?_
    (refine wc0 S (q5d F _ _) ?_; clear S a; intro v a w hv S; subst hv)
    revert a; revert Z; refine go 6 ?_; intro a S
    refine wp_ret (fr1 S Tryz.results155 ?_)
    exact qyj
   revert a; revert Z; refine go 4 ?_; intro a S
   (refine wv S (q20 S rfl rfl rfl (by first | omega | exact qmi _)) ?_; clear S a; intro a S)
   revert a; refine go 2 ?_; intro a S
   change ∃ m', _ ∧ _
   (refine ⟨s.length - (k + 1), by omega, k + 1, rfl, by omega, by omega, ?_, ?_⟩; rotate_left 1; (refine S.keep ?_; exact zk); rw [← hfp, qlc (k := k) (by omega) (by omega), if_pos (by omega)])
  (refine wp_exit ?_; conv => whnf)
  clear hZ Z
  revert a; revert Z; refine go 6 ?_; intro Z hZ a S
  (refine wc0 S (q5d F _ _) ?_; clear S a; intro v a w hv S; subst hv)
  revert a; revert Z; refine go 3 ?_; intro a S
  refine wp_ret (fr1 S Tryz.results155 ?_)
  exact qyj
 (clear S a; intro h a S)
 revert a; revert Z; refine go 6 ?_; intro a S
 refine q03 S rfl ?_
 (refine wp_exit ?_; conv => whnf)
 clear hZ Z
 revert a; revert Z; refine go 6 ?_; intro Z hZ a S
 (refine wc0 S (q5d F _ _) ?_; clear S a; intro v a w hv S; subst hv)
 revert a; revert Z; refine go 3 ?_; intro a S
 refine wp_ret (fr1 S Tryz.results155 ?_)
 exact qyj
theorem qja {s : List UInt8} (h : q30 s = true) : BG s := by
 unfold q30 at h
 simp only [Bool.not_eq_true', Bool.or_eq_false_iff, Bool.and_eq_false_iff, decide_eq_false_iff_not, ne_eq, Classical.not_not] at h
 obtain ⟨⟨h1, h2⟩, -⟩ := h
 have h4 := qd5 h2
 refine ⟨q90 s, h1, fun c hc e => ?_, ?_⟩
 ·have := List.all_eq_true.1 h4 c hc
  subst e
  exact absurd this (by decide)
 ·rw [qcl]
  by_cases hd : s.take 1 = [45]
  ·rw [if_pos hd]
   right
   rw [← List.take_append_drop 1 s, hd]; simp
  ·rw [if_neg hd]; exact .inl rfl
theorem u5c (a b : Nat) (x : Int) : or2 (cI a b) x = if a = b then x else cI a b := by
 unfold or2
 by_cases h : a = b
 ·subst h
  rw [if_pos rfl, if_neg (by unfold cI; rw [if_neg (by omega), if_neg (by omega)]; decide)]
 ·rw [if_neg h, if_pos (by unfold cI; split <;> (try split) <;> omega)]
theorem qnw {p : Prop} (h : p := by (congr 1; show _ = (if s.take 1 = [45] ∧ t.take 1 = [45] then qap n (t.drop 1) (s.drop 1) else if s.take 1 = [45] then -1 else if t.take 1 = [45] then 1 else or2 (cI s.length t.length) (cS s t)); rw [u5c]; first | (have e9 := b45 (by assumption); first | (rw [if_pos ⟨(d1.1 (by omega)), (d2.1 (by omega))⟩]; done) | (rw [if_neg (fun h9 => by have q1 := d1.2 h9.1; have q2 := d2.2 h9.2; omega), if_neg (fun h9 => by have q1 := d1.2 h9; omega), if_neg (fun h9 => by have q1 := d2.2 h9; omega), if_pos (by omega)]; done) | (rw [if_neg (fun h9 => by have q1 := d1.2 h9.1; have q2 := d2.2 h9.2; omega), if_neg (fun h9 => by have q1 := d1.2 h9; omega), if_neg (fun h9 => by have q1 := d2.2 h9; omega), if_neg (by omega)]; done)) | (have e9 := uai (by assumption); first | (rw [if_neg (fun h9 => by have q1 := d1.2 h9.1; have q2 := d2.2 h9.2; omega), if_pos (d1.1 (by omega))]; done) | (rw [if_neg (fun h9 => by have q1 := d1.2 h9.1; have q2 := d2.2 h9.2; omega), if_neg (fun h9 => by have q1 := d1.2 h9; omega), if_pos (d2.1 (by omega))]; done)))) : p := h
theorem qya : ∀ (n : Nat) (F : q01) (s t : List UInt8), s.length + t.length < n → s.length ≤ 140737488355328 → t.length ≤ 140737488355328 → BG s → BG t → Ct Tryz.prog 154 [.string (bs s), .string (bs t)] F [] (fun _ _ u => u = .int .i64 (qap n s t)) := by
 intro n
 induction n with
 | zero => intro F s t h; omega
 | succ n ih =>
 intro F s t hn hs ht gs gt
 have l1 := gs.ne
 have l2 := gt.ne
 have d1 : (s.getD 0 0).toNat = 45 ↔ s.take 1 = [45] := qzn
 have d2 : (t.getD 0 0).toNat = 45 ↔ t.take 1 = [45] := qzn
 refine Ct.enter Tryz.func154 rfl Tryz.ntmps154 rfl fun w0 a S => ?_
 revert a; refine go 4 ?_; intro a S
 (refine wp_seq_k ?_; intro Z hZ)
 (refine q0k [0, 1, 2, 3, 4, 5] [] [] (.one 0 (.one 1 (.one 2 (.one 3 (.one 4 (.one 5 (.one 6 (.one 7 .nil)))))))) [] S mixed (by kernel_rfl) ?_; clear S; intro w S)
 revert a; refine go 1 ?_; intro a S
 (refine q19 S rfl rfl rfl (q06 _ rfl) rfl rfl (fun w' S => q07 (i := 0) S rfl rfl rfl (by omega)) ?_; clear S a; intro a S)
 revert a; refine go 2 ?_; intro a S
 (refine q19 S rfl rfl rfl (q06 _ rfl) rfl rfl (fun w' S => q07 (i := 0) S rfl rfl rfl (by omega)) ?_; clear S a; intro a S)
 revert a; revert Z; refine go 16 ?_; intro Z hZ a S
 refine q00 S rfl ?_ ?_ <;> intro h
 ·revert a; refine go 5 ?_; intro Z hZ a S
  refine q00 S rfl ?_ ?_ <;> intro h
  ·revert a; refine go 4 ?_; intro a S
   refine wp_ret (fr1 S Tryz.results154 ?_)
   exact qnw
  revert a; revert Z; refine go 6 ?_; intro a S
  refine wp_ret (fr1 S Tryz.results154 ?_)
  exact qnw
 revert a; revert Z; refine go 7 ?_; intro Z hZ a S
 refine q00 S rfl ?_ ?_ <;> intro h
 ·(refine wp_seq_k ?_; intro Z hZ)
  (have e9 := b45 (by assumption); have n1 : s.take 1 = [45] := d1.1 (by omega); have n2 : t.take 1 = [45] := d2.1 (by omega); obtain ⟨gs1, ls1⟩ := gs.neg n1; obtain ⟨gt1, lt1⟩ := gt.neg n2)
  (refine q0k [0, 1, 2, 3] [] [] (.one 0 (.one 1 (.one 2 (.one 3 (.one 4 (.one 5 .nil)))))) [] S mixed (by kernel_rfl) ?_; clear S; intro w S)
  revert a; refine go 1 ?_; intro a S
  (refine q19 S rfl rfl rfl (q06 _ rfl) rfl rfl (fun w' S => q1p S rfl rfl rfl (by first | omega | (simp only [qaA, qaC, qaD]; omega))) ?_; clear S a; intro a S)
  (rw [show Int.toNat 1 = 1 from rfl] at S)
  revert a; refine go 1 ?_; intro a S
  (refine q19 S rfl rfl rfl (q06 _ rfl) rfl rfl (fun w' S => q1p S rfl rfl rfl (by first | omega | (simp only [qaA, qaC, qaD]; omega))) ?_; clear S a; intro a S)
  (rw [show Int.toNat 1 = 1 from rfl] at S)
  refine q1q rfl rfl (kwa S) ?_
  (refine wc0 S (ih F (t.drop 1) (s.drop 1) (by omega) (by omega) (by omega) gt1 gs1) ?_; clear S a; intro v a w hv S; subst hv)
  revert a; revert Z; refine go 6 ?_; intro a S
  refine wp_ret (fr1 S Tryz.results154 ?_)
  exact qnw
 revert a; revert Z; refine go 11 ?_; intro Z hZ a S
 refine q00 S rfl ?_ ?_ <;> intro h
 ·revert a; refine go 5 ?_; intro Z hZ a S
  (refine wc0 S (q5d F _ _) ?_; clear S a; intro v a w hv S; subst hv)
  revert a; revert Z; refine go 3 ?_; intro a S
  refine wp_ret (fr1 S Tryz.results154 ?_)
  exact qnw
 revert a; revert Z; refine go 5 ?_; intro Z hZ a S
 (refine wc0 S (qbs F s t hs ht) ?_; clear S a; intro v a w hv S; subst hv)
 revert a; revert Z; refine go 3 ?_; intro a S
 refine wp_ret (fr1 S Tryz.results154 ?_)
 exact qnw
theorem q5f {h : VH} {n : Nat} (hf : q16 h n = true) : (h.k = 1 ∧ h.s = [] ∧ n = 0) ∨ (h.k = 2 ∧ h.s = [] ∧ n = 0) ∨ (h.k = 3 ∧ q30 h.s = true) ∨ h.k = 4 ∨ (h.k = 5 ∧ h.n = 0 ∧ h.s = []) ∨ (h.k = 6 ∧ h.n = 0) := by
 unfold q16 at hf
 by_cases k1 : h.k = 1
 ·rw [if_pos k1, decide_eq_true_eq] at hf; exact .inl ⟨k1, hf.2⟩
 ·by_cases k2 : h.k = 2
  ·rw [if_neg k1, if_pos k2, decide_eq_true_eq] at hf; exact .inr (.inl ⟨k2, hf⟩)
  ·by_cases k3 : h.k = 3
   ·rw [if_neg k1, if_neg k2, if_pos k3, Bool.and_eq_true] at hf; exact .inr (.inr (.inl ⟨k3, hf.1⟩))
   ·by_cases k4 : h.k = 4
    ·exact .inr (.inr (.inr (.inl k4)))
    ·by_cases k5 : h.k = 5
     ·rw [if_neg k1, if_neg k2, if_neg k3, if_neg k4, if_pos k5, decide_eq_true_eq] at hf; exact .inr (.inr (.inr (.inr (.inl ⟨k5, hf.1, hf.2.1⟩))))
     ·by_cases k6 : h.k = 6
      ·rw [if_neg k1, if_neg k2, if_neg k3, if_neg k4, if_neg k5, if_pos k6, Bool.and_eq_true, decide_eq_true_eq] at hf; exact .inr (.inr (.inr (.inr (.inr ⟨k6, hf.1⟩))))
      ·rw [if_neg k1, if_neg k2, if_neg k3, if_neg k4, if_neg k5, if_neg k6] at hf; cases hf
theorem qn2 (a : Int) : cI a a = 0 := by unfold cI; rw [if_neg (by omega), if_neg (by omega)]
theorem qqe (s : List UInt8) : cS s s = 0 := by unfold cS; rw [q9d, if_neg (by decide), if_pos rfl]
theorem qpk (x : Int) : or2 0 x = x := by unfold or2; rw [if_neg (by decide)]
theorem qvz {L : Vf} (h : L.len = 0) : L = .nil := q9c h
theorem qrm {h h2 : VH} {L L2 : Vf} (hk : h.k = h2.k) (k3 : ¬ h.k = 3) (k4 : ¬ h.k = 4) (k5 : ¬ h.k = 5) (k6 : ¬ h.k = 6) (f1 : q16 h L.len = true) (f2 : q16 h2 L2.len = true) : qan h L h2 L2 = cI h.n h2.n := by
 have a := q5f f1
 have b := q5f f2
 have e1 : h.s = [] ∧ L.len = 0 := by rcases a with a | a | a | a | a | a <;> first | exact a.2 | omega
 have e2 : h2.s = [] ∧ L2.len = 0 := by rcases b with b | b | b | b | b | b <;> first | exact b.2 | omega
 unfold qan
 rw [if_neg (by omega), if_neg k3, if_neg k4, e1.1, e2.1, qvz e1.2, qvz e2.2, qqe, show cmpL .nil .nil = 0 from rfl, qpk, qsf]
theorem qsh {h h2 : VH} {L L2 : Vf} (hk : h.k = h2.k) (k5 : h.k = 5) (f1 : q16 h L.len = true) (f2 : q16 h2 L2.len = true) : qan h L h2 L2 = cmpL L L2 := by
 have a := q5f f1
 have b := q5f f2
 have e1 : h.n = 0 ∧ h.s = [] := by rcases a with a | a | a | a | a | a <;> first | exact a.2 | omega
 have e2 : h2.n = 0 ∧ h2.s = [] := by rcases b with b | b | b | b | b | b <;> first | exact b.2 | omega
 unfold qan
 rw [if_neg (by omega), if_neg (by omega), if_neg (by omega), e1.1, e1.2, e2.1, e2.2, qn2, qqe, qpk, qpk]
theorem qr4 {h h2 : VH} {L L2 : Vf} (hk : h.k = h2.k) (k6 : h.k = 6) (f1 : q16 h L.len = true) (f2 : q16 h2 L2.len = true) : qan h L h2 L2 = or2 (cS h.s h2.s) (cmpL L L2) := by
 have a := q5f f1
 have b := q5f f2
 have e1 : h.n = 0 := by rcases a with a | a | a | a | a | a <;> first | exact a.2 | omega
 have e2 : h2.n = 0 := by rcases b with b | b | b | b | b | b <;> first | exact b.2 | omega
 unfold qan
 rw [if_neg (by omega), if_neg (by omega), if_neg (by omega), e1, e2, qn2, qpk]
theorem qs8 {l m : Vf} {k : Nat} (h1 : k ≤ l.len) (h2 : k ≤ m.len) (h : ¬ k < l.len ∨ ¬ k < m.len) : cmpL (l.drop k) (m.drop k) = cI l.len m.len := by
 unfold cI
 by_cases hl : k < l.len
 ·obtain ⟨x, hx⟩ := q1d.get_lt hl
  rw [qdy hx (by omega), if_neg (by omega), if_pos (by omega)]
 ·rw [qdj (by omega)]
  by_cases hm : k < m.len
  ·rw [if_pos hm, if_pos (by omega)]
  ·rw [if_neg hm, if_neg (by omega), if_neg (by omega)]
def u6i (n : Nat) : Prop := ∀ (F : q01) (x y : Vv) (cs cs2 : List Value), x.2.size < n → VaC F cs x.1 x.2 → VaC F cs2 y.1 y.2 → q16 x.1 x.2.len = true → q29 x.2 = true → q16 y.1 y.2.len = true → q29 y.2 = true → Ct Tryz.prog 121 [.agg ⟨cs⟩, .agg ⟨cs2⟩] F [] (fun _ _ u => u = .int .i64 (qan x.1 x.2 y.1 y.2))
theorem qzc {p : Prop} (h : p := by (congr 1; rw [← hfp]; first | (rw [qs8 hkl hkm (by omega)]; done) | (rw [q6y hx hy]; unfold or2; rw [if_pos (by omega)]; done))) : p := h
theorem qo4 {n : Nat} (hC : u6i n) (F : q01) (l m : Vf) (v u : Value) (hn : l.size ≤ n) (hv : TrS F 4 VhR v l) (hu : TrS F 4 VhR u m) (fl : q29 l = true) (fm : q29 m = true) : Ct Tryz.prog 123 [v, u] F [] (fun _ _ u => u = .int .i64 (cmpL l m)) := by
 obtain ⟨ao, cap, rfl, hcap, hpos⟩ := hv
 obtain ⟨ao2, cap2, rfl, hcap2, hpos2⟩ := hu
 refine Ct.enter Tryz.func123 rfl Tryz.ntmps123 rfl fun w0 a S => ?_
 revert a; refine go 10 ?_; intro Z hZ a S
 refine q04 (fun q a w' => ∃ (k : Nat), q = l.len - k ∧ k ≤ l.len ∧ k ≤ m.len ∧ cmpL (l.drop k) (m.drop k) = cmpL l m ∧ St 36 [(0, .slice ao l.len cap), (1, .slice ao2 m.len cap2), (5, .int .i64 k)] w0 F [] F [] a w') ?_ ?_
 ·(refine ⟨l.len, 0, by omega, Nat.zero_le _, Nat.zero_le _, rfl, ?_⟩; refine S.keep ?_; exact zk)
 (clear S; rintro q a w ⟨k, rfl, hkl, hkm, hfp, S⟩)
 revert a; refine go 7 ?_; intro Z hZ Z hZ a S
 refine wgd S ?_ ?_
 ·(clear S; intro h S)
  revert a; revert Z; refine go 10 ?_; intro a S
  refine q00 S rfl ?_ ?_ <;> intro h
  ·revert a; revert Z; refine go 4 ?_; intro Z hZ a S
   (refine wp_seq_k ?_; intro Z hZ)
   (obtain ⟨b8, o8, hao, x, cs1, v1, hx, hc1, hw9, hT1⟩ := TrM.pos hpos (k := k) (by omega); rw [hao] at S; have hxs := q1d.size_get hx; have hT1c := hT1; obtain ⟨a91, c91, rfl, -⟩ := hT1c; have hw9c := hw9.1; subst hw9c; (simp only [List.cons_append, qaG] at hc1); obtain ⟨b9, o9, hao2, y, cs2, v2, hy, hc2, hw8, hT2⟩ := TrM.pos hpos2 (k := k) (by omega); rw [hao2] at S; have hT2c := hT2; obtain ⟨a92, c92, rfl, -⟩ := hT2c; have hw8c := hw8.1; subst hw8c; (simp only [List.cons_append, qaG] at hc2); obtain ⟨g1, g2⟩ := q54 fl hx; obtain ⟨g3, g4⟩ := q54 fm hy)
   (refine q0k [0, 1, 2, 3, 4, 5, 6, 7] [3, 7] [] (.one 0 (.one 1 (.one 2 (.one 3 (.one 4 (.one 5 (.one 6 (.one 7 (.one 8 (.one 9 .nil)))))))))) [] S mixed (by kernel_rfl) ?_; clear S; intro w S)
   revert a; refine go 3 ?_; intro a S
   (refine wlF S rfl (fun w' S => q18 S rfl rfl hc1 (by rfl)) ?_; clear S a; intro a S)
   revert a; refine go 3 ?_; intro a S
   (refine wlF S rfl (fun w' S => q18 S rfl rfl hc2 (by rfl)) ?_; clear S a; intro a S)
   refine q1q rfl rfl (kwa S) ?_
   (refine wc0 S (hC F x y _ _ (by omega) ⟨_, rfl, hT1, hw9.2⟩ ⟨_, rfl, hT2, hw8.2⟩ g1 g2 g3 g4) ?_; clear S a; intro v a w hv S; subst hv)
   revert a; revert Z; refine go 11 ?_; intro a S
   refine q00 S rfl ?_ ?_ <;> intro h
   ·revert a; refine go 5 ?_; intro a S
    refine wp_ret (fr1 S Tryz.results123 ?_)
    exact qzc
   revert a; revert Z; refine go 7 ?_; intro a S
   change ∃ m', _ ∧ _
   (rw [← hao, ← hao2] at S; refine ⟨l.len - (k + 1), by omega, k + 1, rfl, by omega, by omega, ?_, ?_⟩; rotate_left 1; (refine S.keep ?_; exact zk); rw [← hfp, q6y hx hy, show qan x.1 x.2 y.1 y.2 = 0 by omega, qpk])
  (refine wp_exit ?_; conv => whnf)
  clear hZ Z
  revert a; revert Z; refine go 6 ?_; intro Z hZ a S
  (refine wc0 S (q5d F _ _) ?_; clear S a; intro v a w hv S; subst hv)
  revert a; revert Z; refine go 3 ?_; intro a S
  refine wp_ret (fr1 S Tryz.results123 ?_)
  exact qzc
 (clear S a; intro h a S)
 revert a; revert Z; refine go 6 ?_; intro a S
 refine q03 S rfl ?_
 (refine wp_exit ?_; conv => whnf)
 clear hZ Z
 revert a; revert Z; refine go 6 ?_; intro Z hZ a S
 (refine wc0 S (q5d F _ _) ?_; clear S a; intro v a w hv S; subst hv)
 revert a; revert Z; refine go 3 ?_; intro a S
 refine wp_ret (fr1 S Tryz.results123 ?_)
 exact qzc
theorem qfz {p : Prop} (h : p := by (congr 1; first | (unfold qan; rw [if_pos (by omega)]; done) | (unfold qan; rw [if_neg (by omega), if_pos (by omega)]; rfl) | (unfold qan; rw [if_neg (by omega), if_neg (by omega), if_pos (by omega)]; done) | (rw [qsh (by omega) (by omega) g1 g3]; done) | (rw [qr4 (by omega) (by omega) g1 g3]; unfold or2; first | (rw [if_pos (by omega)]; done) | (rw [if_neg (by omega)]; done)) | (rw [qrm (by omega) (by omega) (by omega) (by omega) (by omega) g1 g3]; done))) : p := h
theorem qvs : ∀ n, u6i n := by
 intro n
 induction n with
 | zero => intro F x y cs cs2 hn; omega
 | succ n ih =>
 intro F x y cs cs2 hn hV hV2 g1 g2 g3 g4
 obtain ⟨vh, L⟩ := x
 obtain ⟨vh2, L2⟩ := y
 obtain ⟨v1, rfl, hT1, hs1⟩ := hV
 obtain ⟨v2, rfl, hT2, hs2⟩ := hV2
 dsimp only at *
 have hr := qo4 ih F L L2 v1 v2 (by omega) hT1 hT2 g2 g4
 obtain ⟨a1, c1, rfl, -⟩ := hT1
 obtain ⟨a2, c2, rfl, -⟩ := hT2
 refine Ct.enter Tryz.func121 rfl Tryz.ntmps121 rfl fun w0 a S => ?_
 refine q1i fun Z hZ => ?_
 (refine wbx S ?_; clear S a; intro b2 a w S)
 (refine wbx S ?_; clear S a; intro b3 a w S)
 revert a; revert Z; refine go 12 ?_; intro Z hZ a S
 refine q00 S rfl ?_ ?_ <;> intro h
 ·(refine wp_seq_k ?_; intro Z hZ)
  (have k1 := qiw g1; have k2 := qiw g3)
  revert a; refine go 3 ?_; intro a S
  (refine wv S (q1l S rfl rfl (by first | omega | (simp only [qaA, qaC, qaD]; omega))) ?_; clear S a; intro a S)
  revert a; refine go 2 ?_; intro a S
  (refine wv S (q1l S rfl rfl (by first | omega | (simp only [qaA, qaC, qaD]; omega))) ?_; clear S a; intro a S)
  (refine wc0 S (q5d F _ _) ?_; clear S a; intro v a w hv S; subst hv)
  revert a; revert Z; refine go 3 ?_; intro a S
  refine wp_ret (fr1 S Tryz.results121 ?_)
  exact qfz
 revert a; revert Z; refine go 14 ?_; intro Z hZ a S
 refine q00 S rfl ?_ ?_ <;> intro h
 ·(refine wp_seq_k ?_; intro Z hZ)
  (have m1 : BG vh.s := (by have := q5f g1; rcases this with h9 | h9 | h9 | h9 | h9 | h9 <;> first | exact qja h9.2 | (exfalso; omega)); have m2 : BG vh2.s := (by have := q5f g3; rcases this with h9 | h9 | h9 | h9 | h9 | h9 <;> first | exact qja h9.2 | (exfalso; omega)))
  revert a; refine go 5 ?_; intro a S
  (refine wc0 S (qya (vh.s.length + vh2.s.length + 1) F vh.s vh2.s (by omega) hs1 hs2 m1 m2) ?_; clear S a; intro v a w hv S; subst hv)
  revert a; revert Z; refine go 3 ?_; intro a S
  refine wp_ret (fr1 S Tryz.results121 ?_)
  exact qfz
 revert a; refine go 5 ?_; intro a S
 refine q00 S rfl ?_ ?_ <;> intro h
 ·revert a; refine go 5 ?_; intro Z hZ a S
  (refine wc0 S (qbs F vh.s vh2.s hs1 hs2) ?_; clear S a; intro v a w hv S; subst hv)
  revert a; revert Z; refine go 3 ?_; intro a S
  refine wp_ret (fr1 S Tryz.results121 ?_)
  exact qfz
 revert a; refine go 5 ?_; intro a S
 refine q00 S rfl ?_ ?_ <;> intro h
 ·revert a; refine go 5 ?_; intro Z hZ a S
  (refine wc0 S (hr) ?_; clear S a; intro v a w hv S; subst hv)
  revert a; revert Z; refine go 3 ?_; intro a S
  refine wp_ret (fr1 S Tryz.results121 ?_)
  exact qfz
 revert a; refine go 5 ?_; intro a S
 refine q00 S rfl ?_ ?_ <;> intro h
 ·revert a; refine go 5 ?_; intro Z hZ a S
  (refine wc0 S (qbs F vh.s vh2.s hs1 hs2) ?_; clear S a; intro v a w hv S; subst hv)
  revert a; revert Z; refine go 9 ?_; intro Z hZ a S
  refine q00 S rfl ?_ ?_ <;> intro h
  ·revert a; refine go 5 ?_; intro a S
   refine wp_ret (fr1 S Tryz.results121 ?_)
   exact qfz
  revert a; revert Z; refine go 7 ?_; intro Z hZ a S
  (refine wc0 S (hr) ?_; clear S a; intro v a w hv S; subst hv)
  revert a; revert Z; refine go 3 ?_; intro a S
  refine wp_ret (fr1 S Tryz.results121 ?_)
  exact qfz
 revert a; revert Z; refine go 7 ?_; intro Z hZ a S
 (refine wc0 S (q5d F _ _) ?_; clear S a; intro v a w hv S; subst hv)
 revert a; revert Z; refine go 3 ?_; intro a S
 refine wp_ret (fr1 S Tryz.results121 ?_)
 exact qfz
theorem qm0 {l : Vf} {k : Nat} {x : Vv} (h : l.get? k = some x) : dpN x.2 + 1 ≤ dpN l := by
 have h1 := qsa h
 have h2 : ∀ k, dpN (l.drop k) ≤ dpN l := by
  intro k
  induction k with
  | zero => exact Nat.le_refl _
  | succ k ih =>
   cases hd : l.drop k with
   | nil => rw [show l.drop (k + 1) = .nil by simp only [q1d.drop, hd]]; exact Nat.zero_le _
   | cons a L r =>
    rw [hd] at ih
    have : dpN (.cons a L r) = max (dpN L + 1) (dpN r) := rfl
    rw [show l.drop (k + 1) = r by simp only [q1d.drop, hd]]
    omega
 have := h2 k
 omega
theorem u0p {p : Prop} (h : p := by (congr 1; rw [← hfp]; first | (rw [q1d.drop_len (by omega)]; rfl) | (rw [qep hx, decide_eq_false (by omega), Bool.false_and]; done))) : p := h
theorem q8g (F : q01) (l : Vf) (v : Value) (hz : dpN l ≤ 900000000) (hT : TrS F 4 VhR v l) : Ct Tryz.prog 42 [v] F [] (fun _ _ u => u = .bool (q2m l)) := by
 obtain ⟨ao, cap, rfl, hcap, hpos⟩ := hT
 refine Ct.enter Tryz.func42 rfl Tryz.ntmps42 rfl fun w0 a S => ?_
 revert a; refine go 10 ?_; intro Z hZ a S
 refine q04 (fun m a w' => ∃ (k : Nat), m = l.len - k ∧ k ≤ l.len ∧ q2m (l.drop k) = q2m l ∧ St 16 [(0, .slice ao l.len cap), (3, .int .i64 (k : Int))] w0 F [] F [] a w') ?_ ?_
 ·(refine ⟨l.len, 0, by omega, Nat.zero_le _, rfl, ?_⟩; refine S.keep ?_; exact zk)
 (clear S; rintro m a w ⟨k, rfl, hkl, hfp, S⟩)
 revert a; refine go 8 ?_; intro Z hZ a S
 refine q00 S rfl ?_ ?_ <;> intro h
 ·revert a; revert Z; refine go 4 ?_; intro Z hZ a S
  (refine wp_seq_k ?_; intro Z hZ)
  (obtain ⟨b8, o8, hao, x, cs1, v1, hx, hc1, hw9, hT1⟩ := TrM.pos hpos (k := k) (by omega); rw [hao] at S; have hxd := qm0 hx; have hT1c := hT1; obtain ⟨a91, c91, rfl, -⟩ := hT1c; have hw9c := hw9.1; subst hw9c; (simp only [List.cons_append, qaG] at hc1))
  revert a; refine go 5 ?_; intro a S
  (refine wc0 S (qgp F x _ (by omega) ⟨_, rfl, hT1, hw9.2⟩) ?_; clear S a; intro v a w hv S; subst hv)
  revert a; revert Z; refine go 3 ?_; intro a S
  refine q00 S rfl ?_ ?_ <;> intro h
  ·revert a; refine go 4 ?_; intro a S
   refine wp_ret (fr1 S Tryz.results42 ?_)
   exact u0p
  revert a; revert Z; refine go 7 ?_; intro a S
  change ∃ m', _ ∧ _
  (rw [← hao] at S; refine ⟨l.len - (k + 1), by omega, k + 1, rfl, by omega, ?_, ?_⟩; rotate_left 1; (refine S.keep ?_; exact zk); rw [← hfp, qep hx, decide_eq_true (by omega), Bool.true_and])
 (refine wp_exit ?_; conv => whnf)
 clear hZ Z
 revert a; revert Z; refine go 5 ?_; intro a S
 refine wp_ret (fr1 S Tryz.results42 ?_)
 exact u0p
theorem qbo (F : q01) (l m : Vf) (v u : Value) (hl : dpN l ≤ 900000000) (hm : dpN m ≤ 900000000) (hv : TrS F 4 VhR v l) (hu : TrS F 4 VhR u m) (rl : q2m l = true) (rm : q2m m = true) (fl : q29 l = true) (fm : q29 m = true) : Ct Tryz.prog 82 [v, u] F [] (fun _ _ u => u = .int .i64 (cmpL l m)) := by
 have h1 := q8g F l v hl hv
 have h2 := q8g F m u hm hu
 rw [rl] at h1
 rw [rm] at h2
 have h3 := qo4 (qvs l.size) F l m v u (Nat.le_refl _) hv hu fl fm
 obtain ⟨a1, c1, rfl, -⟩ := hv
 obtain ⟨a2, c2, rfl, -⟩ := hu
 refine Ct.enter Tryz.func82 rfl Tryz.ntmps82 rfl fun w0 a S => ?_
 revert a; refine go 6 ?_; intro Z hZ a S
 (refine wc0 S h1 ?_; clear S a; intro v a w hv S; subst hv)
 revert a; refine go 1 ?_; intro a S
 (refine wc0 S h2 ?_; clear S a; intro v a w hv S; subst hv)
 revert a; revert Z; refine go 8 ?_; intro Z hZ Z hZ a S
 (refine wv S (q0j (c := false) (q09 S rfl) (by rfl)) ?_; clear S a; intro a S)
 revert a; refine go 4 ?_; intro a S
 (refine wv S (q0j (c := false) (q09 S rfl) (by rfl)) ?_; clear S a; intro a S)
 revert a; revert Z; refine go 2 ?_; intro a S
 refine q03 S rfl ?_
 revert a; revert Z; refine go 5 ?_; intro Z hZ a S
 (refine wc0 S (h3) ?_; clear S a; intro v a w hv S; subst hv)
 revert a; revert Z; refine go 3 ?_; intro a S
 refine wp_ret (fr1 S Tryz.results82 ?_)
 rfl
theorem quv (F : q01) (x y : Vv) (cx cy : List Value) (hx : VaC F cx x.1 x.2) (hy : VaC F cy y.1 y.2) (dx : dpN x.2 ≤ 900000000) (dy : dpN y.2 ≤ 900000000) (mx : q3q x = true) (my : q3q y = true) : Ct Tryz.prog 77 [.agg ⟨cx⟩, .agg ⟨cy⟩] F [] (fun _ _ u => u = .int .i64 (q40 x y)) := by
 have e : q40 x y = qan x.1 x.2 y.1 y.2 := by unfold q40; rw [if_pos ⟨mx, my⟩]
 rw [e]
 have h1 := qgp F x cx (by omega) hx
 have h2 := qgp F y cy (by omega) hy
 rw [q83.2 (of_decide_eq_true mx)] at h1
 rw [q83.2 (of_decide_eq_true my)] at h2
 have f1 := q38 (of_decide_eq_true mx)
 have f2 := q38 (of_decide_eq_true my)
 have h3 := qvs (x.2.size + 1) F x y cx cy (Nat.lt_succ_self _) hx hy f1.1 f1.2 f2.1 f2.2
 obtain ⟨v1, rfl, ⟨a1, c1, rfl, -⟩, -⟩ := hx
 obtain ⟨v2, rfl, ⟨a2, c2, rfl, -⟩, -⟩ := hy
 refine Ct.enter Tryz.func77 rfl Tryz.ntmps77 rfl fun w0 a S => ?_
 refine q1i fun Z hZ => ?_
 (refine wbx S ?_; clear S a; intro b2 a w S)
 (refine wbx S ?_; clear S a; intro b3 a w S)
 revert a; revert Z; refine go 3 ?_; intro a S
 (refine wp_seq_k ?_; intro Z hZ)
 (refine q0k [0, 2, 3, 5] [0, 3] [] (.one 0 (.one 3 (.one 1 (.one 2 (.one 4 (.one 5 (.one 6 (.one 7 .nil)))))))) [b2, b3] S mixed (by kernel_rfl) ?_; clear S; intro w S)
 revert a; refine go 3 ?_; intro a S
 (refine wc0 S h1 ?_; clear S a; intro v a w hv S; subst hv)
 refine wpList_nil ?_
 (refine q19 S rfl rfl rfl (q06 _ rfl) rfl rfl (fun w' S => q0j (c := true) (q09 S rfl) (by rfl)) ?_; clear S a; intro a S)
 refine q1q rfl rfl (kwa S) ?_
 (refine wc0 S h2 ?_; clear S a; intro v a w hv S; subst hv)
 refine wpList_nil ?_
 (refine q19 S rfl rfl rfl (q06 _ rfl) rfl rfl (fun w' S => q0j (c := true) (q09 S rfl) (by rfl)) ?_; clear S a; intro a S)
 revert a; revert Z; refine go 12 ?_; intro Z hZ Z hZ a S
 (refine wv S (q0j (c := false) (q09 S rfl) (by rfl)) ?_; clear S a; intro a S)
 revert a; refine go 4 ?_; intro a S
 (refine wv S (q0j (c := false) (q09 S rfl) (by rfl)) ?_; clear S a; intro a S)
 revert a; revert Z; refine go 2 ?_; intro a S
 refine q03 S rfl ?_
 revert a; revert Z; refine go 5 ?_; intro Z hZ a S
 (refine wc0 S (h3) ?_; clear S a; intro v a w hv S; subst hv)
 revert a; revert Z; refine go 3 ?_; intro a S
 refine wp_ret (fr1 S Tryz.results77 ?_)
 rfl
theorem q68 : ∀ (n : Nat) (F : q01) (l : Vf) (v : Value), l.size < n → l.size ≤ 1000000000 → TrS F 4 VhR v l → Ct Tryz.prog 20 [v] F [] (fun _ G' u => ∃ g, G' = [g] ∧ OwS g u l) := by
 intro n
 induction n with
 | zero => intro F l v hn; omega
 | succ n ih =>
 intro F l v hn hz hv
 have hll := q1d.len_size l
 have hkl : (kids l).length = l.len := q2w l
 obtain ⟨ao, cap, rfl, hcap, hpos⟩ := hv
 refine Ct.enter Tryz.func20 rfl Tryz.ntmps20 rfl fun w0 a S => ?_
 revert a; refine go 14 ?_; intro Z hZ a S
 refine q04 (fun m a w' => ∃ (i : Nat) (v : Value) (g gd : Grp) (xs : List Value), m = l.len - i ∧ i ≤ l.len ∧ q0u 45 4 v i xs g ∧ LiC (gh gd) 4 RoS xs ((kids l).take i) ∧ St 25 [(0, .slice ao l.len cap), (3, v), (4, .int .i64 (i : Int))] w0 F [] F [g, gd] a w') ?_ ?_
 ·(replace S := S.nilg; replace S := S.nilg; refine ⟨l.len, 0, .slice none 0 0, [], [], [], by omega, Nat.zero_le _, q0u.nil _ _, rfl, ?_⟩; refine S.keep ?_; exact zk)
 (clear S; rintro m a w ⟨i, v, g, gd, xs, rfl, hil, hown, hfc, S⟩)
 revert a; refine go 8 ?_; intro Z hZ a S
 refine q00 S rfl ?_ ?_ <;> intro h
 ·revert a; revert Z; refine go 4 ?_; intro Z hZ a S
  (refine wp_seq_k ?_; intro Z hZ)
  (obtain ⟨b8, o8, hao, x, cs1, v1, hx, hc1, hw9, hT1⟩ := TrM.pos hpos (k := i) (by omega); rw [hao] at S; have hxs := q1d.size_get hx; have hT1c := hT1; obtain ⟨a91, c91, rfl, -⟩ := hT1c; have hw9c := hw9.1; subst hw9c; (simp only [List.cons_append, qaG] at hc1))
  revert a; refine go 5 ?_; intro a S
  (refine q0a S rfl rfl rfl rfl ?_; clear S a; intro b5 a w S)
  (refine wso S rfl rfl ?_; clear S; intro w S)
  revert a; revert Z; refine go 5 ?_; intro Z hZ a S
  (refine q17 S rfl rfl rfl rfl rfl rfl (ih F x.2 _ (by omega) (by omega) hT1) rfl ?_; clear S a; intro u9 G9 a w hv9 S; obtain ⟨g9, rfl, hO9⟩ := hv9; (simp only [List.singleton_append] at S); obtain ⟨a4, c4, rfl, -⟩ := id hO9.r)
  revert a; refine go 1 ?_; intro a S
  (refine q0e S rfl rfl rfl rfl rfl rfl (by first | (simp; done) | (simp [Value.cells]; done) | exact Nat.le_of_ble_eq_true rfl) ?_; clear S; intro w S)
  revert a; revert Z; refine go 2 ?_; intro a S
  (obtain ⟨aoK, capK, rfl, -⟩ := hown.at)
  revert a; refine go 3 ?_; intro a S
  (refine q0s S rfl rfl rfl rfl rfl rfl rfl rfl rfl rfl rfl (fun _ => rfl) hown (by rfl) (by simp [Value.cells, splice, splice]) (by simp [Value.cells, Value.oneCell', splice, splice]) rfl (by rfl) (by rfl) rfl (by omega) (by omega) ?_; clear hown S a; intro v u g a w hown S)
  revert a; revert Z; refine go 8 ?_; intro a S
  change ∃ m', _ ∧ _
  (rw [← hao] at S; replace S := St.pullB b5 S; replace S := S.drop1; replace S := qw9 S; have hndg := qj2 S; refine ⟨l.len - (i + 1), by omega, i + 1, _, _, g9 ++ gd, _, rfl, by omega, hown, ?_, ?_⟩; rotate_left 1; (refine S.keep ?_; exact zk); (show LiC (gh (g9 ++ gd)) 4 RoS (xs ++ ([.int .u8 (x.1.k : Int), .int .i64 x.1.n, .string (bs x.1.s), .slice a4 x.2.len c4] : List Value)) _; rw [List.take_add_one, q6z, hx]; exact LiC.app (hfc.mono fun _ _ h => q4u hndg h) (LiC.one rfl (RoS.mk4 hw9.2 (TrS.mono (fun _ _ h => q5i h) hO9.r) (hO9.s.imp fun _ h => h.mono fun _ _ h => q5i h)))))
 (refine wp_exit ?_; conv => whnf)
 clear hZ Z
 revert a; revert Z; refine go 6 ?_; intro a S
 refine wp_ret ?_
 (obtain rfl : i = l.len := (by omega); have hnd2 := nd2 S; replace S := qc6 S)
 refine q08 S (q0c Tryz.results20 (RV.tmp S rfl)) ?_
 (rw [List.take_of_length_le (by omega)] at hfc; exact ⟨_, rfl, qo6 hown hfc hnd2 (by omega)⟩)
end Go.Proofs.YtbhipiepfclneaaGreatDoor
namespace Go.Wk
open Go
end Go.Wk
namespace Go.Proofs.YtbhipiepfclneaaGreatDoor
open Go Go.Wk Go.Un Go.De Go.Num
theorem quz {F : q01} {b o : Nat} {xs ys : List Value} (h : q2v F b o (xs ++ ys)) : q2v F b o xs := fun j v hj => h j v (by rw [List.getElem?_append_left (List.getElem?_eq_some_iff.1 hj).1]; exact hj)
theorem u0u {F : q01} {b o : Nat} {xs ys : List Value} (h : q2v F b o (xs ++ ys)) : q2v F b (o + xs.length) ys := fun j v hj => by
 have := h (xs.length + j) v (by rw [List.getElem?_append_right (by omega), show xs.length + j - xs.length = j by omega]; exact hj)
 rw [show o + xs.length + j = o + (xs.length + j) by omega]; exact this
theorem qye {aggs : List (List UInt8)} (h : q7y aggs = 0) : aggs.length ≤ 8 ∧ aggs.all q31 = true := by
 unfold q7y at h
 split at h
 ·cases h
 ·split at h
  ·cases h
  ·rename_i h1 h2
   exact ⟨by omega, by simpa using h1⟩
theorem qxt {X : List WyD} (key : Vf) {k : Nat} {x : WyD} (h : X[k]? = some x) : ofW (X.take (k + 1)) key = ofW (X.take k) key ++ (if q15 x.key key = true then [x] else []) := by
 unfold ofW
 rw [List.take_add_one, h, List.filter_append, Option.toList_some, List.filter_cons, List.filter_nil]
def qjl (aggs : List (List UInt8)) (X : List WyD) (key way args : Vf) : Int :=
 if (q2m key && (q2m way && q2m args)) = false then 4 else if args.len ≠ aggs.length then 1 else if (ofW X key).any (fun x => q15 x.way way) = true then 6 else if (List.range aggs.length).any (tyR aggs args (ofW X key)) = true then 70 else 0
theorem q7z {α : Type} {p q : α → Bool} : ∀ {l : List α}, (∀ x ∈ l, p x = q x) → l.any p = l.any q
 | [], _ => rfl
 | x :: r, h => by rw [List.any_cons, List.any_cons, h x (qaH ..), q7z fun y hy => h y (List.mem_cons_of_mem _ hy)]
theorem qze (aggs : List (List UInt8)) (args : Vf) (l : List WyD) : (List.range aggs.length).any (tyR aggs args l) = q73 aggs args (l.map fun x => (wT x, x.args)) := by
 unfold q73
 refine q7z fun i _ => ?_
 unfold tyR q4n
 cases l <;> rfl
theorem qhs {aggs : List (List UInt8)} {A : GA} {X : List WyD} (h : Rl aggs A X) {key way args : Vf} (b1 : q2r key) (b2 : q2r way) (b3 : q2r args) : qjl aggs X key way args = qam aggs A key way args := by
 unfold qjl qam
 rw [q3p, q3p, q3p]
 cases h1 : q13 key with
 | none => rfl
 | some k =>
  cases h2 : q13 way with
  | none => rfl
  | some w =>
   cases h3 : q13 args with
   | none => rfl
   | some q =>
    dsimp only
    rw [h.of h1 b1, qp6, qze, if_neg (by simp : ¬ (Option.isSome (some k) && (Option.isSome (some w) && Option.isSome (some q))) = false)]
    rw [q7z (l := ofW X key) fun x hx => qck (h.ok x (q63 hx)).2.1 (h.ok x (q63 hx)).2.2.2.1 h2 b2]
theorem qrc (aggs : List (List UInt8)) (A : GA) (key way args : Vf) : (qds aggs A key way args).length ≤ A.length + 1 := by
 unfold qds
 split
 ·unfold qrq
  split
  ·rw [qaA]; exact Nat.le_refl _
  ·rename_i e he
   obtain ⟨x1, x2, rfl, -, h2, -⟩ := q23 he
   rw [h2]; simp only [qaA, qaC]; omega
 ·omega
theorem qp5 {β : Type} (f : β → β) (k : List UInt8) : ∀ x : List (List UInt8 × β), (alU x k f).length = x.length
 | [] => rfl
 | (a, u) :: r => by unfold alU; split; rfl; rw [qaC, qaC, qp5 f k r]
theorem qq5 {β : Type} (k : List UInt8) : ∀ x : List (List UInt8 × β), (alD x k).length ≤ x.length
 | [] => Nat.le_refl _
 | (a, u) :: r => by
  unfold alD
  split
  ·exact Nat.le_succ _
  ·rw [qaC, qaC]; exact Nat.succ_le_succ (qq5 k r)
theorem qs2 (A : GA) (key way : Vf) : (qfr A key way).length ≤ A.length := by
 unfold qfr
 split
 ·unfold qvp
  split
  ·exact qq5 _ _
  ·rw [qp5]; exact Nat.le_refl _
 ·exact Nat.le_refl _
theorem Rl.ways_len {aggs : List (List UInt8)} {A : GA} {X : List WyD} (h : Rl aggs A X) : ∀ p ∈ A, p.2.ways.length ≤ X.length := fun p hp => by
 have h1 := h.ws p.1
 unfold q1z at h1
 rw [qgn h.inv hp] at h1
 dsimp only at h1
 rw [h1, List.length_map]
 exact List.length_filter_le _ _
def qqr (aggs : List (List UInt8)) (X : List WyD) (key : Vf) : Int × Vf :=
 if q2m key = false then (4, .nil) else if ofW X key = [] then (5, .nil) else qut aggs ((ofW X key).map fun x => (wT x, x.args))
theorem qsy {aggs : List (List UInt8)} {A : GA} {X : List WyD} (h : Rl aggs A X) {key : Vf} (b1 : q2r key) : qqr aggs X key = qna aggs A key := by
 unfold qqr qna
 rw [q3p]
 cases hk : q13 key with
 | none => rfl
 | some k =>
  dsimp only
  rw [if_neg (by simp : ¬ Option.isSome (some k) = false)]
  have h1 := h.of hk b1
  unfold q1z at h1
  cases he : alG A k with
  | none =>
   rw [he] at h1
   dsimp only at h1
   rw [if_pos (List.map_eq_nil_iff.1 h1.symm)]
  | some e =>
   rw [he] at h1
   dsimp only at h1
   have hne := (h.inv.all (k, e) (q4k he)).ne
   rw [if_neg (fun h9 => hne (by rw [h1, h9]; rfl)), ← h1]
theorem qlr {aggs : List (List UInt8)} {A : GA} {X : List WyD} (h : Rl aggs A X) {k : List UInt8} {e : En} (he : alG A k = some e) : (X.filter fun x => q15 x.key e.key).length = e.ways.length := by
 have hE := h.inv.all (k, e) (q4k he)
 have h1 := h.of hE.key hE.krow
 unfold q1z at h1
 rw [he] at h1
 dsimp only at h1
 rw [h1, List.length_map]; rfl
theorem qk2 {Y Z : List Vf} (hYZ : Y.Perm Z) (hg : ∀ r ∈ Y, q29 r = true) (sY : Y.Pairwise (fun x y => 0 ≤ cmpL y x)) (sZ : Z.Pairwise (fun x y => 0 ≤ cmpL y x)) : Y = Z := by
 induction Y generalizing Z with
 | nil => exact (List.Perm.nil_eq hYZ)
 | cons y Y ih =>
  cases Z with
  | nil => exact absurd hYZ.symm.nil_eq (by simp)
  | cons z Z =>
   have h1 : y = z := by
    rcases List.mem_cons.1 (hYZ.mem_iff.1 (qaH ..)) with h | h
    ·exact h
    ·rcases List.mem_cons.1 (hYZ.mem_iff.2 (qaH ..)) with h2 | h2
     ·exact h2.symm
     ·have h3 := (List.pairwise_cons.1 sY).1 z h2
      have h4 := (List.pairwise_cons.1 sZ).1 y h
      have h5 := q2g z y
      exact (q4a (hg z (List.mem_cons_of_mem _ h2)) (hg y (qaH ..)) (by omega)).symm
   subst h1
   rw [ih hYZ.cons_inv (fun r hr => hg r (List.mem_cons_of_mem _ hr)) (List.pairwise_cons.1 sY).2 (List.pairwise_cons.1 sZ).2]
theorem Rl.good {aggs : List (List UInt8)} {A : GA} {X : List WyD} (h : Rl aggs A X) : ∀ r ∈ X.map (·.key), qar r = true ∧ q29 r = true := fun r hr => by
 obtain ⟨x, hx, rfl⟩ := List.mem_map.1 hr
 exact q4p (h.ok x hx).1
theorem qor {aggs : List (List UInt8)} {A : GA} {X : List WyD} (h : Rl aggs A X) {Y Z : List Vf} (hY : Y.Perm (A.map (·.2.key))) (sY : Y.Pairwise (fun x y => 0 ≤ cmpL y x)) (hZ : ∀ r, r ∈ Z ↔ r ∈ X.map (·.key)) (sZ : Z.Pairwise (fun x y => cmpL x y < 0)) : Y = Z := by
 have hz0 : ∀ l : Vf, cmpL l l = 0 := fun l => by have := q2g l l; omega
 have nZ : Z.Nodup := sZ.imp fun {x y} h e => by subst e; rw [hz0] at h; omega
 refine qk2 ?_ (fun r hr => ?_) sY (sZ.imp fun {x y} h => by have := q2g x y; omega)
 ·rw [List.perm_ext_iff_of_nodup (hY.nodup_iff.2 (qb6 h.inv)) nZ]
  intro r
  rw [hY.mem_iff, hZ]
  constructor
  ·intro hr
   obtain ⟨p, hp, rfl⟩ := List.mem_map.1 hr
   obtain ⟨x, hx, h1, -⟩ := h.ks p.1 p.2 (qgn h.inv hp)
   exact List.mem_map.2 ⟨x, hx, h1⟩
  ·intro hr
   obtain ⟨x, hx, rfl⟩ := List.mem_map.1 hr
   have hok := h.ok x hx
   obtain ⟨t, ht⟩ := Option.isSome_iff_exists.1 hok.1
   have h1 := h.of ht hok.2.2.1
   have hm : x ∈ ofW X x.key := List.mem_filter.2 ⟨hx, q11.2 rfl⟩
   unfold q1z at h1
   cases he : alG A t with
   | none =>
    rw [he] at h1
    dsimp only at h1
    rw [List.map_eq_nil_iff.1 h1.symm] at hm
    cases hm
   | some e =>
    have hE := h.inv.all (t, e) (q4k he)
    exact List.mem_map.2 ⟨(t, e), q4k he, qbx hE.krow.rg hok.2.2.1.rg hE.key ht⟩
 ·obtain ⟨p, hp, rfl⟩ := List.mem_map.1 (hY.mem_iff.1 hr)
  exact (q4p (by rw [(h.inv.all p hp).key]; rfl)).2
instance : De.OneC WyR := ⟨fun ⟨v1, v2, v3, h0, ⟨_, _, h1, _⟩, ⟨_, _, h2, _⟩, ⟨_, _, h3, _⟩⟩ => by
 rw [h0, h1, h2, h3]; exact u4b rfl (u4b rfl (u4b rfl u8p))⟩
instance {F : q01} : De.OneC (WyQ F) := ⟨fun h => De.OneC.h (R := WyR) h⟩
