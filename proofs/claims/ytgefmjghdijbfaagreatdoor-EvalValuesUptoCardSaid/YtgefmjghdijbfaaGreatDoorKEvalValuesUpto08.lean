/- Walks. -/
import Derived.Test.YtgefmjghdijbfaaGreatDoorKEvalValuesUpto07
import Derived.Test.YtgefmjghdijbfaaGreatDoorQ19
set_option maxHeartbeats 16000000
set_option maxRecDepth 20000
namespace Go.Proofs.YtgefmjghdijbfaaGreatDoor
open Go Go.Wk Go.Un Go.De Go.Num
set_option linter.unusedSimpArgs false
set_option linter.unusedVariables false
attribute [local irreducible] Go.wpList Go.Code.wp Go.wpStill Go.Wk.wpPre Go.bodyPost Go.Calls Go.Wk.Ct Go.Wk.OwnS Go.Wk.wpG Go.Wk.wpM
theorem rdigitsCt (F : Heap) (s : List UInt8) (hs : s ≠ []) (hb : s.length ≤ 140737488355328) : Ct Tryz.prog 89 [.string (bs s)] F [] (fun _ _ u => u = .int .i64 (rdig s)) := by
 have h9 : 0 < s.length := List.length_pos_iff.2 hs
 refine Ct.enter Tryz.func89 rfl Tryz.ntmps89 rfl fun w0 a S => ?_
 (revert S a; refine go 7 ?_; intro Z hZ Z hZ a S)
 (refine wv S (sv_indexSN (i := 0) S rfl rfl rfl (by omega)) ?_; clear S a; intro a S)
 (revert S a; revert hZ Z; refine go 3 ?_; intro a S)
 refine wpc_sp S rfl ?_ ?_ <;> intro h
 ·(revert S a; refine go 7 ?_; intro a S)
  refine wp_ret (fr1 S Tryz.results89 ?_)
  (congr 1; unfold rdig; first | (rw [if_pos (by omega)]; done) | (rw [if_neg (by omega)]; done) | trace_state)
 (revert S a; revert hZ Z; refine go 8 ?_; intro a S)
 refine wp_ret (fr1 S Tryz.results89 ?_)
 (congr 1; unfold rdig; first | (rw [if_pos (by omega)]; done) | (rw [if_neg (by omega)]; done) | trace_state)
theorem numB_at {d : List UInt8} {k : Nat} (hk : k < d.length) (h : ¬ (48 ≤ (d.getD k 0).toNat ∧ (d.getD k 0).toNat ≤ 57)) : numB d = false := by
 unfold numB
 rw [Bool.and_eq_false_iff]
 right
 rw [List.all_eq_false]
 refine ⟨d[k], List.getElem_mem hk, ?_⟩
 rw [List.getD_eq_getElem?_getD, List.getElem?_eq_getElem hk] at h
 simpa [digB] using h
theorem numB_no {d : List UInt8} (h : ¬ (d ≠ [] ∧ ¬ (1 < d.length ∧ (d.getD 0 0).toNat = 48))) : numB d = false := by
 unfold numB; rw [decide_eq_false h, Bool.false_and]
theorem numB_yes {d : List UInt8} (h : d ≠ [] ∧ ¬ (1 < d.length ∧ (d.getD 0 0).toNat = 48)) (h2 : ∀ j, j < d.length → digB (d.getD j 0) = true) : numB d = true := by
 unfold numB
 rw [decide_eq_true h, Bool.true_and, List.all_eq_true]
 intro c hc
 obtain ⟨j, hj, rfl⟩ := List.mem_iff_getElem.1 hc
 have := h2 j hj
 rwa [List.getD_eq_getElem?_getD, List.getElem?_eq_getElem hj] at this
theorem zzEwD0 {p : Prop} (h : p := by (congr 1; first | (unfold rnum; rw [if_pos (by omega), if_pos (by omega)]; done) | (rw [hrd]; first | (exact (numB_at (k := k) (by omega) (by omega)).symm) | (exact (numB_no (by rintro ⟨h1, h2⟩; first | omega | exact h1 (by assumption))).symm) | (exact (numB_yes ⟨by assumption, by omega⟩ (fun j hj => hall j (by omega))).symm)) | trace_state)) : p := h
theorem zzEwD1 {p : Prop} (h : p := by (refine ⟨d.length - (k + 1), by omega, k + 1, rfl, by omega, ?_, ?_⟩; rotate_left 1; (refine S.keep ?_; exact zk); intro j hj; rcases Nat.lt_or_eq_of_le (Nat.le_of_lt_succ hj) with h6 | h6; exact hall j h6; subst h6; exact decide_eq_true (by omega))) : p := h
theorem zzEwD2 {p : Prop} (h : p := by (first | (refine ⟨s.drop 1, ?_, by rw [List.length_drop]; omega, ?_⟩; rotate_left 1; (refine S.keep ?_; exact zk); unfold rnum; rw [if_pos (by omega), if_neg (by omega)]) | (refine ⟨s, ?_, Nat.le_refl _, ?_⟩; rotate_left 1; (refine S.keep ?_; exact zk); unfold rnum; rw [if_neg (by omega)]))) : p := h
theorem rnumberCt (F : Heap) (s : List UInt8) (hb : s.length ≤ 140737488355328) : Ct Tryz.prog 87 [.string (bs s)] F [] (fun _ _ u => u = .bool (rnum s)) := by
  refine Ct.enter Tryz.func87 rfl Tryz.ntmps87 rfl fun w0 a S => ?_
  (revert S a; refine go 4 ?_; intro a S)
  (refine wp_seq_k ?_; intro Z hZ)
  replace hZ : ∀ (a' : Act) (w' : World), (∃ (d : List UInt8), rnum s = numB d ∧ d.length ≤ s.length ∧ St 45 [(0, .string (bs d))] w0 F [] F [] a' w') → Z a' w' := (by
   (intro a w hM; refine hZ _ _ ?_; clear hZ Z; clear S; obtain ⟨d, hrd, hdl, S⟩ := hM)
   (revert S a; refine go 5 ?_; intro Z hZ Z hZ a S)
   refine wgd S ?_ ?_
   · (clear S; intro h S)
     (revert S a; refine go 7 ?_; intro a S)
     refine wgd S ?_ ?_
     · (clear S; intro h S)
       (revert S a; refine go 2 ?_; intro a S)
       (refine wv S (sv_indexSN (i := 0) S rfl rfl rfl (by first | omega | (simp only [List.length_drop]; omega) | (have h9 : 0 < s.length := List.length_pos_iff.2 (by assumption); omega) | (have h9 : 0 < d.length := List.length_pos_iff.2 (by assumption); omega))) ?_; clear S a; intro a S)
       (revert S a; revert hZ Z; refine go 7 ?_; intro a S)
       refine wpc_sp S rfl ?_ ?_ <;> intro h
       · (revert S a; refine go 4 ?_; intro a S)
         refine wp_ret (fr1 S Tryz.results87 ?_)
         exact zzEwD0
       (revert S a; revert hZ Z; refine go 8 ?_; intro Z hZ a S)
       refine wpc_loop (fun m a w' => ∃ (k : Nat), m = d.length - k ∧ k ≤ d.length ∧ (∀ j, j < k → digB (d.getD j 0) = true) ∧ St 45 [(0, .string (bs d)), (3, .int .i64 (k : Int))] w0 F [] F [] a w') ?_ ?_
       · (refine ⟨d.length, 0, by omega, Nat.zero_le _, fun j h => absurd h (Nat.not_lt_zero _), ?_⟩; refine S.keep ?_; exact zk)
       (clear S; rintro m a w ⟨k, rfl, hkl, hall, S⟩)
       (revert S a; refine go 8 ?_; intro Z hZ a S)
       refine wpc_sp S rfl ?_ ?_ <;> intro h
       · (revert S a; revert hZ Z; refine go 7 ?_; intro Z hZ Z hZ a S)
         first | (refine wv S (sv_indexSN S rfl rfl rfl (by first | omega | (simp only [List.length_drop]; omega) | (have h9 : 0 < s.length := List.length_pos_iff.2 (by assumption); omega) | (have h9 : 0 < d.length := List.length_pos_iff.2 (by assumption); omega))) ?_; clear S a; intro a S) | (refine wv S (sv_indexS S rfl rfl rfl (by first | omega | (simp only [List.length_drop]; omega) | (have h9 : 0 < s.length := List.length_pos_iff.2 (by assumption); omega) | (have h9 : 0 < d.length := List.length_pos_iff.2 (by assumption); omega))) ?_; clear S a; intro a S)
         (revert S a; refine go 2 ?_; intro a S)
         refine wgd S ?_ ?_
         · (clear S; intro h S)
           (revert S a; refine go 4 ?_; intro a S)
           first | (refine wv S (sv_indexSN S rfl rfl rfl (by first | omega | (simp only [List.length_drop]; omega) | (have h9 : 0 < s.length := List.length_pos_iff.2 (by assumption); omega) | (have h9 : 0 < d.length := List.length_pos_iff.2 (by assumption); omega))) ?_; clear S a; intro a S) | (refine wv S (sv_indexS S rfl rfl rfl (by first | omega | (simp only [List.length_drop]; omega) | (have h9 : 0 < s.length := List.length_pos_iff.2 (by assumption); omega) | (have h9 : 0 < d.length := List.length_pos_iff.2 (by assumption); omega))) ?_; clear S a; intro a S)
           (revert S a; revert hZ Z; refine go 5 ?_; intro a S)
           refine wpc_sp S rfl ?_ ?_ <;> intro h
           · (revert S a; refine go 4 ?_; intro a S)
             refine wp_ret (fr1 S Tryz.results87 ?_)
             exact zzEwD0
           (revert S a; revert hZ Z; refine go 4 ?_; intro a S)
           (refine wv S (sv_add S rfl rfl rfl (by first | omega | (simp only [List.length_drop]; omega) | (have h9 : 0 < s.length := List.length_pos_iff.2 (by assumption); omega) | (have h9 : 0 < d.length := List.length_pos_iff.2 (by assumption); omega))) ?_; clear S a; intro a S)
           (revert S a; refine go 2 ?_; intro a S)
           change ∃ m', _ ∧ _
           exact zzEwD1
         (clear S a; intro h a S)
         (revert S a; revert hZ Z; refine go 6 ?_; intro a S)
         refine wpc_true S rfl ?_
         (revert S a; refine go 4 ?_; intro a S)
         refine wp_ret (fr1 S Tryz.results87 ?_)
         exact zzEwD0
       (refine wp_exit ?_; conv => whnf)
       clear hZ Z
       (revert S a; revert hZ Z; refine go 5 ?_; intro a S)
       refine wp_ret (fr1 S Tryz.results87 ?_)
       exact zzEwD0
     (clear S a; intro h a S)
     (revert S a; revert hZ Z; refine go 7 ?_; intro a S)
     refine wpc_false S rfl ?_
     (revert S a; revert hZ Z; refine go 8 ?_; intro Z hZ a S)
     refine wpc_loop (fun m a w' => ∃ (k : Nat), m = d.length - k ∧ k ≤ d.length ∧ (∀ j, j < k → digB (d.getD j 0) = true) ∧ St 45 [(0, .string (bs d)), (3, .int .i64 (k : Int))] w0 F [] F [] a w') ?_ ?_
     · (refine ⟨d.length, 0, by omega, Nat.zero_le _, fun j h => absurd h (Nat.not_lt_zero _), ?_⟩; refine S.keep ?_; exact zk)
     (clear S; rintro m a w ⟨k, rfl, hkl, hall, S⟩)
     (revert S a; refine go 8 ?_; intro Z hZ a S)
     refine wpc_sp S rfl ?_ ?_ <;> intro h
     · (revert S a; revert hZ Z; refine go 7 ?_; intro Z hZ Z hZ a S)
       first | (refine wv S (sv_indexSN S rfl rfl rfl (by first | omega | (simp only [List.length_drop]; omega) | (have h9 : 0 < s.length := List.length_pos_iff.2 (by assumption); omega) | (have h9 : 0 < d.length := List.length_pos_iff.2 (by assumption); omega))) ?_; clear S a; intro a S) | (refine wv S (sv_indexS S rfl rfl rfl (by first | omega | (simp only [List.length_drop]; omega) | (have h9 : 0 < s.length := List.length_pos_iff.2 (by assumption); omega) | (have h9 : 0 < d.length := List.length_pos_iff.2 (by assumption); omega))) ?_; clear S a; intro a S)
       (revert S a; refine go 2 ?_; intro a S)
       refine wgd S ?_ ?_
       · (clear S; intro h S)
         (revert S a; refine go 4 ?_; intro a S)
         first | (refine wv S (sv_indexSN S rfl rfl rfl (by first | omega | (simp only [List.length_drop]; omega) | (have h9 : 0 < s.length := List.length_pos_iff.2 (by assumption); omega) | (have h9 : 0 < d.length := List.length_pos_iff.2 (by assumption); omega))) ?_; clear S a; intro a S) | (refine wv S (sv_indexS S rfl rfl rfl (by first | omega | (simp only [List.length_drop]; omega) | (have h9 : 0 < s.length := List.length_pos_iff.2 (by assumption); omega) | (have h9 : 0 < d.length := List.length_pos_iff.2 (by assumption); omega))) ?_; clear S a; intro a S)
         (revert S a; revert hZ Z; refine go 5 ?_; intro a S)
         refine wpc_sp S rfl ?_ ?_ <;> intro h
         · (revert S a; refine go 4 ?_; intro a S)
           refine wp_ret (fr1 S Tryz.results87 ?_)
           exact zzEwD0
         (revert S a; revert hZ Z; refine go 4 ?_; intro a S)
         (refine wv S (sv_add S rfl rfl rfl (by first | omega | (simp only [List.length_drop]; omega) | (have h9 : 0 < s.length := List.length_pos_iff.2 (by assumption); omega) | (have h9 : 0 < d.length := List.length_pos_iff.2 (by assumption); omega))) ?_; clear S a; intro a S)
         (revert S a; refine go 2 ?_; intro a S)
         change ∃ m', _ ∧ _
         exact zzEwD1
       (clear S a; intro h a S)
       (revert S a; revert hZ Z; refine go 6 ?_; intro a S)
       refine wpc_true S rfl ?_
       (revert S a; refine go 4 ?_; intro a S)
       refine wp_ret (fr1 S Tryz.results87 ?_)
       exact zzEwD0
     (refine wp_exit ?_; conv => whnf)
     clear hZ Z
     (revert S a; revert hZ Z; refine go 5 ?_; intro a S)
     refine wp_ret (fr1 S Tryz.results87 ?_)
     exact zzEwD0
   (clear S a; intro h a S)
   (revert S a; revert hZ Z; refine go 10 ?_; intro a S)
   refine wpc_true S rfl ?_
   (revert S a; refine go 4 ?_; intro a S)
   refine wp_ret (fr1 S Tryz.results87 ?_)
   (congr 1; first | (unfold rnum; rw [if_pos (by omega), if_pos (by omega)]; done) | (rw [hrd]; first | (exact (numB_at (k := k) (by omega) (by omega)).symm) | (exact (numB_no (by rintro ⟨h1, h2⟩; first | omega | exact h1 (by assumption))).symm) | (exact (numB_yes ⟨by assumption, by omega⟩ (fun j hj => hall j (by omega))).symm)) | trace_state))
  (revert S a; refine go 5 ?_; intro Z hZ a S)
  refine wgd S ?_ ?_
  · (clear S; intro h S)
    (revert S a; refine go 2 ?_; intro a S)
    (refine wv S (sv_indexSN (i := 0) S rfl rfl rfl (by first | omega | (simp only [List.length_drop]; omega) | (have h9 : 0 < s.length := List.length_pos_iff.2 (by assumption); omega) | (have h9 : 0 < d.length := List.length_pos_iff.2 (by assumption); omega))) ?_; clear S a; intro a S)
    (revert S a; revert hZ Z; refine go 5 ?_; intro a S)
    refine wpc_sp S rfl ?_ ?_ <;> intro h
    · (revert S a; refine go 2 ?_; intro Z hZ a S)
      (refine wv S (sv_sliceS_lo S rfl rfl rfl (by first | omega | (simp only [List.length_drop]; omega) | (have h9 : 0 < s.length := List.length_pos_iff.2 (by assumption); omega) | (have h9 : 0 < d.length := List.length_pos_iff.2 (by assumption); omega))) ?_; clear S a; intro a S)
      (rw [show Int.toNat 1 = 1 from rfl] at S)
      (revert S a; revert hZ Z; refine go 5 ?_; intro Z hZ a S)
      (refine wv S (sv_indexSN (i := 0) S rfl rfl rfl (by first | omega | (simp only [List.length_drop]; omega) | (have h9 : 0 < s.length := List.length_pos_iff.2 (by assumption); omega) | (have h9 : 0 < d.length := List.length_pos_iff.2 (by assumption); omega))) ?_; clear S a; intro a S)
      (revert S a; revert hZ Z; refine go 3 ?_; intro a S)
      refine wpc_sp S rfl ?_ ?_ <;> intro h
      · (revert S a; refine go 4 ?_; intro a S)
        refine wp_ret (fr1 S Tryz.results87 ?_)
        exact zzEwD0
      refine wp_skip ?_
      (refine hZ _ _ ?_)
      exact zzEwD2
    refine wp_skip ?_
    (refine hZ _ _ ?_)
    exact zzEwD2
  (clear S a; intro h a S)
  (revert S a; revert hZ Z; refine go 5 ?_; intro a S)
  refine wpc_false S rfl ?_
  refine wp_skip ?_
  (refine hZ _ _ ?_)
  exact zzEwD2
def dpN : Vf → Nat
 | .nil => 0
 | .cons _ L r => max (dpN L + 1) (dpN r)
theorem dpN_R : ∀ l : Vf, (dpN l : Int) = dpR l
 | .nil => rfl
 | .cons _ L r => by simp only [dpN, dpR, ← dpN_R L, ← dpN_R r]; omega
theorem dpN_size : ∀ l : Vf, dpN l ≤ l.size
 | .nil => Nat.le_refl _
 | .cons _ L r => by have := dpN_size L; have := dpN_size r; simp only [dpN, Rose.size]; omega
theorem dpN_drop {l : Vf} {k : Nat} {x : Vv} (h : l.get? k = some x) : dpN (l.drop k) = max (dpN x.2 + 1) (dpN (l.drop (k + 1))) := by rw [Rose.drop_get h]; rfl
theorem r2depthCt : ∀ (n : Nat) (F : Heap) (x : Vv) (cs : List Value), x.2.size < n → x.2.size ≤ 1000000000 → VaC F cs x.1 x.2 → Ct Tryz.prog 38 [.agg ⟨cs⟩] F [] (fun _ _ u => u = .int .i64 ((dpN x.2 + 1 : Nat) : Int)) := by
 intro n
 induction n with
 | zero => intro F x cs hn; omega
 | succ n ih =>
 intro F x cs hn hz hV
 obtain ⟨⟨xk, xn, xs⟩, xl⟩ := x
 obtain ⟨v1, rfl, ⟨ao, cap, rfl, hcap, hpos⟩, hs1⟩ := hV
 dsimp only at *
 have hdz := dpN_size xl
 refine Ct.enter Tryz.func38 rfl Tryz.ntmps38 rfl fun w0 a S => ?_
 refine wp_sr fun Z hZ => ?_
 (refine wbx S ?_; clear S a; intro b1 a w S)
 (revert S a; revert hZ Z; refine go 13 ?_; intro Z hZ a S)
 refine wpc_loop (fun m a w' => ∃ (k p : Nat), m = xl.len - k ∧ k ≤ xl.len ∧ max p (dpN (xl.drop k)) = dpN xl ∧ St 22 [(1, ptr b1), (3, .int .i64 (p : Int)), (4, .int .i64 (k : Int))] w0 F [] F [[(b1, .cells ⟨[.int .u8 (xk : Int), .int .i64 xn, .string (bs xs), .slice ao xl.len cap]⟩ 33 (0, 0))]] a w') ?_ ?_
 ·(refine ⟨xl.len, 0, 0, by omega, Nat.zero_le _, Nat.zero_max _, ?_⟩; refine S.keep ?_; exact zk)
 (clear S; rintro m a w ⟨k, p, rfl, hkl, hfp, S⟩)
 (revert S a; refine go 9 ?_; intro Z hZ a S)
 refine wpc_sp S rfl ?_ ?_ <;> intro h
 ·(revert S a; revert hZ Z; refine go 4 ?_; intro Z hZ a S)
  (obtain ⟨b8, o8, hao, x, cs1, v1, hx, hc1, hw9, hT1⟩ := TrM.pos hpos (k := k) (by omega); rw [hao] at S; have hxs := Rose.size_get hx; have hT1c := hT1; obtain ⟨a91, c91, rfl, -⟩ := hT1c; have hw9c := hw9.1; subst hw9c; (simp only [List.cons_append, List.nil_append] at hc1))
  (revert S a; refine go 7 ?_; intro a S)
  (refine wc0 S (ih F x _ (by omega) (by omega) ⟨_, rfl, hT1, hw9.2⟩) ?_; clear S a; intro v a w hv S; subst hv)
  first | (refine wv S (sv_maxN S rfl rfl rfl) ?_; clear S a; intro a S) | (refine wv S (sv_max0 S rfl rfl rfl) ?_; clear S a; intro a S)
  (revert S a; revert hZ Z; refine go 8 ?_; intro a S)
  change ∃ m', _ ∧ _
  (rw [← hao] at S; refine ⟨xl.len - (k + 1), by omega, k + 1, max p (dpN x.2 + 1), rfl, by omega, ?_, ?_⟩; rotate_left 1; (refine S.keep ?_; exact zk); rw [← hfp, dpN_drop hx, Nat.max_assoc])
 (refine wp_exit ?_; conv => whnf)
 clear hZ Z
 (revert S a; revert hZ Z; refine go 7 ?_; intro a S)
 refine wp_ret (fr1 S Tryz.results38 ?_)
 (show Value.int .i64 ((p : Int) + 1) = Value.int .i64 ((dpN xl + 1 : Nat) : Int); rw [← hfp, Rose.drop_len (by omega)]; show _ = Value.int .i64 ((max p 0 + 1 : Nat) : Int); rw [Nat.max_zero]; rfl)
theorem idxB_cons (c d : UInt8) (r : List UInt8) : Lib.indexByte (d :: r) c = if d = c then 0 else if Lib.indexByte r c < 0 then -1 else Lib.indexByte r c + 1 := by
 have hg := Lib.indexByte_ge r c
 show (if (d == c) = true then (0 : Int) else if (Lib.indexByte r c == -1) = true then -1 else Lib.indexByte r c + 1) = _
 by_cases h : d = c
 ·rw [if_pos (by simpa using h), if_pos h]
 ·rw [if_neg (by simpa using h), if_neg h]
  by_cases h2 : Lib.indexByte r c < 0
  ·rw [if_pos h2, if_pos (by simp; omega)]
  ·rw [if_neg h2, if_neg (by simp; omega)]
theorem cutI_at : ∀ {s : List UInt8} {k : Nat}, k < s.length → (s.getD k 0).toNat = 46 → (∀ j, j < k → (s.getD j 0).toNat ≠ 46) → cutI s = k
 | [], k, hk, _, _ => absurd hk (Nat.not_lt_zero _)
 | d :: r, 0, _, h, _ => by
  unfold cutI
  rw [idxB_cons, if_pos (UInt8.toNat_inj.1 (show d.toNat = (46 : UInt8).toNat from h))]; rfl
 | d :: r, k + 1, hk, h, hall => by
  have ih := cutI_at (s := r) (k := k) (by simpa using hk) (by simpa using h) (fun j hj => by have := hall (j + 1) (by omega); simpa using this)
  have h0 : d ≠ 46 := fun e => hall 0 (by omega) (by subst e; rfl)
  unfold cutI at ih ⊢
  rw [idxB_cons, if_neg h0, ih, if_neg (by omega)]; rfl
theorem cutI_no : ∀ {s : List UInt8}, (∀ j, j < s.length → (s.getD j 0).toNat ≠ 46) → cutI s = -1
 | [], _ => rfl
 | d :: r, hall => by
  have ih := cutI_no (s := r) (fun j hj => by have := hall (j + 1) (by simpa using hj); simpa using this)
  have h0 : d ≠ 46 := fun e => hall 0 (by simp) (by subst e; rfl)
  unfold cutI at ih ⊢
  rw [idxB_cons, if_neg h0, ih, if_pos (by decide)]
theorem zzEwE0 {p : Prop} (h : p := by (congr 1; unfold rnamesS; first | (rw [if_pos (Or.inl (by assumption))]; done) | (rw [if_pos (Or.inr (by assumption))]; done) | (rw [if_neg (by rintro (h | h); exact absurd h (by assumption); exact absurd h (by assumption)), if_neg (by rw [cutI_no (fun j hj => hall j (by omega))]; decide)]; done) | (rw [if_neg (by rintro (h | h); exact absurd h (by assumption); exact absurd h (by assumption)), if_pos (by omega)]; unfold Go.De.cutA cutB; rw [if_pos (by omega), if_pos (by omega), hci]; simp_all; done) | trace_state)) : p := h
theorem r2namesCt (F : Heap) (s : List UInt8) (hb : s.length ≤ 140737488355328) : Ct Tryz.prog 88 [.string (bs s)] F [] (fun _ _ u => u = .bool (rnamesS s)) := by
 refine Ct.enter Tryz.func88 rfl Tryz.ntmps88 rfl fun w0 a S => ?_
 (revert S a; refine go 9 ?_; intro Z hZ Z hZ a S)
 refine wgd S ?_ ?_
 ·(clear S; intro h S)
  (revert S a; revert hZ Z; refine go 6 ?_; intro a S)
  refine wpc_sp S rfl ?_ ?_ <;> intro h
  ·(revert S a; refine go 4 ?_; intro a S)
   refine wp_ret (fr1 S Tryz.results88 ?_)
   exact zzEwE0
  (revert S a; revert hZ Z; refine go 8 ?_; intro Z hZ a S)
  refine wpc_loop (fun m a w' => ∃ (k : Nat), m = s.length - k ∧ k ≤ s.length ∧ (∀ j, j < k → (s.getD j 0).toNat ≠ 46) ∧ St 33 [(0, .string (bs s)), (3, .int .i64 (k : Int))] w0 F [] F [] a w') ?_ ?_
  ·(refine ⟨s.length, 0, by omega, Nat.zero_le _, fun j h => absurd h (Nat.not_lt_zero _), ?_⟩; refine S.keep ?_; exact zk)
  (clear S; rintro m a w ⟨k, rfl, hkl, hall, S⟩)
  (revert S a; refine go 8 ?_; intro Z hZ a S)
  refine wpc_sp S rfl ?_ ?_ <;> intro h
  ·(revert S a; revert hZ Z; refine go 7 ?_; intro Z hZ Z hZ a S)
   first | (refine wv S (sv_indexSN S rfl rfl rfl (by first | omega | (simp only [List.length_append, List.length_cons, List.length_nil]; omega))) ?_; clear S a; intro a S) | (refine wv S (sv_indexS S rfl rfl rfl (by first | omega | (simp only [List.length_append, List.length_cons, List.length_nil]; omega))) ?_; clear S a; intro a S)
   (revert S a; revert hZ Z; refine go 3 ?_; intro a S)
   refine wpc_sp S rfl ?_ ?_ <;> intro h
   ·(refine wp_seq_k ?_; intro Z hZ)
    (have hci := cutI_at (by omega) (by omega) hall)
    (revert S a; refine go 3 ?_; intro a S)
    (refine wv S (sv_sliceS_hi S rfl rfl rfl (by first | omega | (simp only [List.length_append, List.length_cons, List.length_nil]; omega))) ?_; clear S a; intro a S)
    (refine wc0 S (rnameCt F _) ?_; clear S a; intro v a w hv S; subst hv)
    (revert S a; refine go 1 ?_; intro a S)
    refine wgd S ?_ ?_
    ·(clear S; intro h S)
     (revert S a; refine go 6 ?_; intro a S)
     (refine wv S (sv_sliceS_lo S rfl rfl rfl (by first | omega | (simp only [List.length_append, List.length_cons, List.length_nil]; omega))) ?_; clear S a; intro a S)
     refine wpl_take S rfl rfl rfl ?_
     (refine wc0 S (rnameCt F _) ?_; clear S a; intro v a w hv S; subst hv)
     (revert S a; revert hZ Z; refine go 4 ?_; intro a S)
     refine wp_ret (fr1 S Tryz.results88 ?_)
     exact zzEwE0
    (clear S a; intro h a S)
    (revert S a; revert hZ Z; refine go 8 ?_; intro a S)
    refine wp_ret (fr1 S Tryz.results88 ?_)
    exact zzEwE0
   (revert S a; revert hZ Z; refine go 7 ?_; intro a S)
   change ∃ m', _ ∧ _
   (refine ⟨s.length - (k + 1), by omega, k + 1, rfl, by omega, ?_, ?_⟩; rotate_left 1; (refine S.keep ?_; exact zk); intro j hj; rcases Nat.lt_or_eq_of_le (Nat.le_of_lt_succ hj) with h6 | h6; exact hall j h6; subst h6; omega)
  (refine wp_exit ?_; conv => whnf)
  clear hZ Z
  (revert S a; revert hZ Z; refine go 3 ?_; intro Z hZ a S)
  (refine wc0 S (rnameCt F _) ?_; clear S a; intro v a w hv S; subst hv)
  (revert S a; revert hZ Z; refine go 3 ?_; intro a S)
  refine wp_ret (fr1 S Tryz.results88 ?_)
  exact zzEwE0
 (clear S a; intro h a S)
 (revert S a; revert hZ Z; refine go 4 ?_; intro a S)
 refine wpc_true S rfl ?_
 (revert S a; refine go 4 ?_; intro a S)
 refine wp_ret (fr1 S Tryz.results88 ?_)
 exact zzEwE0
theorem rF1 {h : VH} {n : Nat} (k : h.k = 1) : rformH h n = decide ((h.n = 0 ∨ h.n = 1) ∧ h.s = [] ∧ n = 0) := by unfold rformH; rw [if_pos k]
theorem rF2 {h : VH} {n : Nat} (k : h.k = 2) : rformH h n = decide (h.s = [] ∧ n = 0) := by unfold rformH; rw [if_neg (by omega), if_pos k]
theorem rF3 {h : VH} {n : Nat} (k : h.k = 3) : rformH h n = (decide (h.n = 0 ∧ n = 0) && rnum h.s) := by unfold rformH; rw [if_neg (by omega), if_neg (by omega), if_pos k]
theorem rF4 {h : VH} {n : Nat} (k : h.k = 4) : rformH h n = decide (h.n = 0 ∧ n = 0) := by unfold rformH; rw [if_neg (by omega), if_neg (by omega), if_neg (by omega), if_pos k]
theorem rF5 {h : VH} {n : Nat} (k : h.k = 5) : rformH h n = decide (h.n = 0 ∧ h.s = [] ∧ n ≠ 1) := by unfold rformH; rw [if_neg (by omega), if_neg (by omega), if_neg (by omega), if_neg (by omega), if_pos k]
theorem rF6 {h : VH} {n : Nat} (k : h.k = 6) : rformH h n = (decide (h.n = 0) && rnamesS h.s) := by unfold rformH; rw [if_neg (by omega), if_neg (by omega), if_neg (by omega), if_neg (by omega), if_neg (by omega), if_pos k]
theorem rF0 {h : VH} {n : Nat} (k : h.k ≠ 1 ∧ h.k ≠ 2 ∧ h.k ≠ 3 ∧ h.k ≠ 4 ∧ h.k ≠ 5 ∧ h.k ≠ 6) : rformH h n = false := by unfold rformH; rw [if_neg k.1, if_neg k.2.1, if_neg k.2.2.1, if_neg k.2.2.2.1, if_neg k.2.2.2.2.1, if_neg k.2.2.2.2.2]
theorem rformL_drop {l : Vf} {k : Nat} {x : Vv} (h : l.get? k = some x) : rformL (l.drop k) = ((rformH x.1 x.2.len && rformL x.2) && rformL (l.drop (k + 1))) := by rw [Rose.drop_get h]; rfl
theorem rfitsL_drop {l : Vf} {k : Nat} {x : Vv} (h : l.get? k = some x) : rfitsL (l.drop k) = ((rfitsH x.1 x.2.len && rfitsL x.2) && rfitsL (l.drop (k + 1))) := by rw [Rose.drop_get h]; rfl
theorem zzEwF0 {p : Prop} (h : p := by (congr 1; rw [← hfp]; first | (rw [(by assumption : t = false), Bool.false_and]; done) | (rw [Rose.drop_len (by omega)]; exact (Bool.and_true _).symm) | trace_state)) : p := h
theorem zzEwF1 {p : Prop} (h : p := by (apply Exists.intro; apply And.intro; rotate_left 1; (refine S.keep ?_; exact zk); first | (rw [rF0 (show xk ≠ 1 ∧ xk ≠ 2 ∧ xk ≠ 3 ∧ xk ≠ 4 ∧ xk ≠ 5 ∧ xk ≠ 6 by omega)]; done) | (rw [rF1 (show xk = 1 by omega)]; exact (decide_eq_false (fun h9 => by dsimp only at h9; omega)).symm) | (rw [rF1 (show xk = 1 by omega)]; dsimp only; (refine bd ?_; by_cases hxs : xs = []; ((simp only [hxs, beq_iff_eq, bne_iff_ne, ne_eq, true_and, and_true, Bool.false_eq_true]) <;> first | omega | exact absurd hxs (by assumption)); ((simp only [hxs, beq_iff_eq, bne_iff_ne, ne_eq, false_and, and_false, Bool.false_eq_true, iff_false, iff_true]) <;> first | omega | exact absurd (by assumption) hxs)); done) | (rw [rF2 (show xk = 2 by omega)]; exact (decide_eq_false (fun h9 => by dsimp only at h9; omega)).symm) | (rw [rF2 (show xk = 2 by omega)]; dsimp only; (refine bd ?_; by_cases hxs : xs = []; ((simp only [hxs, beq_iff_eq, bne_iff_ne, ne_eq, true_and, and_true, Bool.false_eq_true]) <;> first | omega | exact absurd hxs (by assumption)); ((simp only [hxs, beq_iff_eq, bne_iff_ne, ne_eq, false_and, and_false, Bool.false_eq_true, iff_false, iff_true]) <;> first | omega | exact absurd (by assumption) hxs)); done) | (rw [rF3 (show xk = 3 by omega)]; dsimp only; first | (rw [decide_eq_true (by omega), Bool.true_and]; done) | (rw [decide_eq_false (by omega), Bool.false_and]; done)) | (rw [rF4 (show xk = 4 by omega)]; exact (decide_eq_false (fun h9 => by dsimp only at h9; omega)).symm) | (rw [rF4 (show xk = 4 by omega)]; dsimp only; (refine bd ?_; by_cases hxs : xs = []; ((simp only [hxs, beq_iff_eq, bne_iff_ne, ne_eq, true_and, and_true, Bool.false_eq_true]) <;> first | omega | exact absurd hxs (by assumption)); ((simp only [hxs, beq_iff_eq, bne_iff_ne, ne_eq, false_and, and_false, Bool.false_eq_true, iff_false, iff_true]) <;> first | omega | exact absurd (by assumption) hxs)); done) | (rw [rF5 (show xk = 5 by omega)]; exact (decide_eq_false (fun h9 => by dsimp only at h9; omega)).symm) | (rw [rF5 (show xk = 5 by omega)]; dsimp only; (refine bd ?_; by_cases hxs : xs = []; ((simp only [hxs, beq_iff_eq, bne_iff_ne, ne_eq, true_and, and_true, Bool.false_eq_true]) <;> first | omega | exact absurd hxs (by assumption)); ((simp only [hxs, beq_iff_eq, bne_iff_ne, ne_eq, false_and, and_false, Bool.false_eq_true, iff_false, iff_true]) <;> first | omega | exact absurd (by assumption) hxs)); done) | (rw [rF6 (show xk = 6 by omega)]; dsimp only; first | (rw [decide_eq_true (by omega), Bool.true_and]; done) | (rw [decide_eq_false (by omega), Bool.false_and]; done)) | trace_state)) : p := h
theorem rformCt : ∀ (n : Nat) (F : Heap) (x : Vv) (cs : List Value), x.2.size < n → VaC F cs x.1 x.2 → Ct Tryz.prog 39 [.agg ⟨cs⟩] F [] (fun _ _ u => u = .bool (rformH x.1 x.2.len && rformL x.2)) := by
  intro n
  induction n with
  | zero => intro F x cs hn; omega
  | succ n ih =>
  intro F x cs hn hV
  obtain ⟨⟨xk, xn, xs⟩, xl⟩ := x
  obtain ⟨v1, rfl, ⟨ao, cap, rfl, hcap, hpos⟩, hs1⟩ := hV
  dsimp only at *
  refine Ct.enter Tryz.func39 rfl Tryz.ntmps39 rfl fun w0 a S => ?_
  refine wp_sr fun Z hZ => ?_
  (refine wbx S ?_; clear S a; intro b1 a w S)
  (revert S a; revert hZ Z; refine go 7 ?_; intro a S)
  (refine wp_seq_k ?_; intro Z hZ)
  replace hZ : ∀ (a' : Act) (w' : World), (∃ (t : Bool), t = rformH ⟨xk, xn, xs⟩ xl.len ∧ St 109 [(1, ptr b1), (3, .bool t)] w0 F [] F [[(b1, .cells ⟨[.int .u8 (xk : Int), .int .i64 xn, .string (bs xs), .slice ao xl.len cap]⟩ 33 (0, 0))]] a' w') → Z a' w' := (by
   (intro a w hM; refine hZ _ _ ?_; clear hZ Z; clear S; obtain ⟨t, ht, S⟩ := hM)
   (revert S a; refine go 6 ?_; intro Z hZ a S)
   refine wpc_loop (fun m a w' => ∃ (k : Nat) (t : Bool), m = xl.len - k ∧ k ≤ xl.len ∧ (t && rformL (xl.drop k)) = (rformH ⟨xk, xn, xs⟩ xl.len && rformL xl) ∧ St 109 [(1, ptr b1), (3, .bool t), (4, .int .i64 (k : Int))] w0 F [] F [[(b1, .cells ⟨[.int .u8 (xk : Int), .int .i64 xn, .string (bs xs), .slice ao xl.len cap]⟩ 33 (0, 0))]] a w') ?_ ?_
   · (refine ⟨xl.len, 0, t, by omega, Nat.zero_le _, by rw [ht]; rfl, ?_⟩; refine S.keep ?_; exact zk)
   (clear S; rintro m a w ⟨k, t, rfl, hkl, hfp, S⟩)
   (revert S a; refine go 8 ?_; intro Z hZ Z hZ a S)
   refine wgd S ?_ ?_
   · (clear S; intro h S)
     (revert S a; revert hZ Z; refine go 4 ?_; intro a S)
     refine wpc_sp S rfl ?_ ?_ <;> intro h
     · (revert S a; revert hZ Z; refine go 4 ?_; intro Z hZ a S)
       (obtain ⟨b8, o8, hao, x, cs1, v1, hx, hc1, hw9, hT1⟩ := TrM.pos hpos (k := k) (by omega); rw [hao] at S; have hxs := Rose.size_get hx; have hT1c := hT1; obtain ⟨a91, c91, rfl, -⟩ := hT1c; have hw9c := hw9.1; subst hw9c; (simp only [List.cons_append, List.nil_append] at hc1))
       (revert S a; refine go 6 ?_; intro a S)
       (refine wc0 S (ih F x _ (by omega) ⟨_, rfl, hT1, hw9.2⟩) ?_; clear S a; intro v a w hv S; subst hv)
       (revert S a; revert hZ Z; refine go 8 ?_; intro a S)
       change ∃ m', _ ∧ _
       (have ht1 : t = true := (by assumption); rw [← hao] at S; refine ⟨xl.len - (k + 1), by omega, k + 1, (rformH x.1 x.2.len && rformL x.2), rfl, by omega, ?_, ?_⟩; rotate_left 1; (refine S.keep ?_; exact zk); rw [← hfp, rformL_drop hx, ht1, Bool.true_and])
     (refine wp_exit ?_; conv => whnf)
     clear hZ Z
     (revert S a; revert hZ Z; refine go 6 ?_; intro a S)
     refine wp_ret (fr1 S Tryz.results39 ?_)
     exact zzEwF0
   (clear S a; intro h a S)
   (revert S a; revert hZ Z; refine go 3 ?_; intro a S)
   refine wpc_false S rfl ?_
   (refine wp_exit ?_; conv => whnf)
   clear hZ Z
   (revert S a; revert hZ Z; refine go 6 ?_; intro a S)
   refine wp_ret (fr1 S Tryz.results39 ?_)
   (congr 1; rw [← hfp]; first | (rw [(by assumption : t = false), Bool.false_and]; done) | (rw [Rose.drop_len (by omega)]; exact (Bool.and_true _).symm) | trace_state))
  (revert S a; refine go 11 ?_; intro a S)
  refine wpc_sp S rfl ?_ ?_ <;> intro h
  · (revert S a; refine go 5 ?_; intro a S)
    refine wgd S ?_ ?_
    · (clear S; intro h S)
      (revert S a; refine go 7 ?_; intro a S)
      refine wgd S ?_ ?_
      · (clear S; intro h S)
        (revert S a; refine go 7 ?_; intro a S)
        refine wgd S ?_ ?_
        · (clear S; intro h S)
          (revert S a; refine go 10 ?_; intro a S)
          (refine hZ _ _ ?_)
          exact zzEwF1
        (clear S a; intro h a S)
        (revert S a; refine go 6 ?_; intro a S)
        (refine hZ _ _ ?_)
        exact zzEwF1
      (clear S a; intro h a S)
      (revert S a; refine go 11 ?_; intro a S)
      (refine hZ _ _ ?_)
      exact zzEwF1
    (clear S a; intro h a S)
    (revert S a; refine go 12 ?_; intro a S)
    refine wgd S ?_ ?_
    · (clear S; intro h S)
      (revert S a; refine go 10 ?_; intro a S)
      (refine hZ _ _ ?_)
      exact zzEwF1
    (clear S a; intro h a S)
    (revert S a; refine go 6 ?_; intro a S)
    (refine hZ _ _ ?_)
    exact zzEwF1
  (revert S a; refine go 5 ?_; intro a S)
  refine wpc_sp S rfl ?_ ?_ <;> intro h
  · (revert S a; refine go 5 ?_; intro a S)
    refine wgd S ?_ ?_
    · (clear S; intro h S)
      (revert S a; refine go 10 ?_; intro a S)
      (refine hZ _ _ ?_)
      exact zzEwF1
    (clear S a; intro h a S)
    (revert S a; refine go 6 ?_; intro a S)
    (refine hZ _ _ ?_)
    exact zzEwF1
  (revert S a; refine go 5 ?_; intro a S)
  refine wpc_sp S rfl ?_ ?_ <;> intro h
  · (revert S a; refine go 5 ?_; intro a S)
    refine wgd S ?_ ?_
    · (clear S; intro h S)
      (revert S a; refine go 9 ?_; intro a S)
      refine wgd S ?_ ?_
      · (clear S; intro h S)
        (revert S a; refine go 4 ?_; intro a S)
        (refine wc0 S (rnumberCt F xs hs1) ?_; clear S a; intro v a w hv S; subst hv)
        (revert S a; refine go 3 ?_; intro a S)
        (refine hZ _ _ ?_)
        exact zzEwF1
      (clear S a; intro h a S)
      (revert S a; refine go 5 ?_; intro a S)
      (refine hZ _ _ ?_)
      exact zzEwF1
    (clear S a; intro h a S)
    (revert S a; refine go 11 ?_; intro a S)
    (refine hZ _ _ ?_)
    exact zzEwF1
  (revert S a; refine go 5 ?_; intro a S)
  refine wpc_sp S rfl ?_ ?_ <;> intro h
  · (revert S a; refine go 5 ?_; intro a S)
    refine wgd S ?_ ?_
    · (clear S; intro h S)
      (revert S a; refine go 10 ?_; intro a S)
      (refine hZ _ _ ?_)
      exact zzEwF1
    (clear S a; intro h a S)
    (revert S a; refine go 6 ?_; intro a S)
    (refine hZ _ _ ?_)
    exact zzEwF1
  (revert S a; refine go 5 ?_; intro a S)
  refine wpc_sp S rfl ?_ ?_ <;> intro h
  · (revert S a; refine go 5 ?_; intro a S)
    refine wgd S ?_ ?_
    · (clear S; intro h S)
      (revert S a; refine go 7 ?_; intro a S)
      refine wgd S ?_ ?_
      · (clear S; intro h S)
        (revert S a; refine go 10 ?_; intro a S)
        (refine hZ _ _ ?_)
        exact zzEwF1
      (clear S a; intro h a S)
      (revert S a; refine go 6 ?_; intro a S)
      (refine hZ _ _ ?_)
      exact zzEwF1
    (clear S a; intro h a S)
    (revert S a; refine go 11 ?_; intro a S)
    (refine hZ _ _ ?_)
    exact zzEwF1
  (revert S a; refine go 5 ?_; intro a S)
  refine wpc_sp S rfl ?_ ?_ <;> intro h
  · (revert S a; refine go 5 ?_; intro a S)
    refine wgd S ?_ ?_
    · (clear S; intro h S)
      (revert S a; refine go 4 ?_; intro a S)
      (refine wc0 S (r2namesCt F xs hs1) ?_; clear S a; intro v a w hv S; subst hv)
      (revert S a; refine go 3 ?_; intro a S)
      (refine hZ _ _ ?_)
      exact zzEwF1
    (clear S a; intro h a S)
    (revert S a; refine go 5 ?_; intro a S)
    (refine hZ _ _ ?_)
    exact zzEwF1
  refine wp_skip ?_
  (refine hZ _ _ ?_)
  exact zzEwF1
theorem rG3 {h : VH} {n : Nat} (k : h.k = 3) : rfitsH h n = decide (rdig h.s ≤ 200) := by unfold rfitsH; rw [if_pos k]
theorem rG4 {h : VH} {n : Nat} (k : h.k = 4) : rfitsH h n = decide (h.s.length ≤ 4096) := by unfold rfitsH; rw [if_neg (by omega), if_pos k]
theorem rG5 {h : VH} {n : Nat} (k : h.k = 5) : rfitsH h n = decide (n ≤ 16) := by unfold rfitsH; rw [if_neg (by omega), if_neg (by omega), if_pos k]
theorem rG6 {h : VH} {n : Nat} (k : h.k = 6) : rfitsH h n = decide (n ≤ 8) := by unfold rfitsH; rw [if_neg (by omega), if_neg (by omega), if_neg (by omega), if_pos k]
theorem rG0 {h : VH} {n : Nat} (k : h.k ≠ 3 ∧ h.k ≠ 4 ∧ h.k ≠ 5 ∧ h.k ≠ 6) : rfitsH h n = true := by unfold rfitsH; rw [if_neg k.1, if_neg k.2.1, if_neg k.2.2.1, if_neg k.2.2.2]
theorem rnum_ne {s : List UInt8} (h : rnum s = true) : s ≠ [] := by
 rintro rfl
 exact absurd h (by decide)
theorem rformL_get : ∀ {l : Vf} {k : Nat} {x : Vv}, rformL l = true → l.get? k = some x → (rformH x.1 x.2.len && rformL x.2) = true
 | .cons h L r, 0, x, hf, e => by
  cases e
  unfold rformL at hf
  rw [Bool.and_eq_true] at hf
  exact hf.1
 | .cons h L r, k + 1, x, hf, e => by
  unfold rformL at hf
  rw [Bool.and_eq_true] at hf
  exact rformL_get (l := r) hf.2 e
theorem zzEwF2 {p : Prop} (h : p := by (apply Exists.intro; apply And.intro; rotate_left 1; (refine S.keep ?_; exact zk); first | (rw [rG0 (show xk ≠ 3 ∧ xk ≠ 4 ∧ xk ≠ 5 ∧ xk ≠ 6 by omega)]; done) | (rw [rG3 (show xk = 3 by omega)]; done) | (rw [rG4 (show xk = 4 by omega)]; (try dsimp only); exact decide_eq_decide.2 (by omega)) | (rw [rG5 (show xk = 5 by omega)]; (try dsimp only); exact decide_eq_decide.2 (by omega)) | (rw [rG6 (show xk = 6 by omega)]; (try dsimp only); exact decide_eq_decide.2 (by omega)) | trace_state)) : p := h
theorem rfitsCt : ∀ (n : Nat) (F : Heap) (x : Vv) (cs : List Value), x.2.size < n → (rformH x.1 x.2.len && rformL x.2) = true → VaC F cs x.1 x.2 → Ct Tryz.prog 40 [.agg ⟨cs⟩] F [] (fun _ _ u => u = .bool (rfitsH x.1 x.2.len && rfitsL x.2)) := by
  intro n
  induction n with
  | zero => intro F x cs hn; omega
  | succ n ih =>
  intro F x cs hn hf hV
  obtain ⟨⟨xk, xn, xs⟩, xl⟩ := x
  obtain ⟨v1, rfl, ⟨ao, cap, rfl, hcap, hpos⟩, hs1⟩ := hV
  dsimp only at *
  rw [Bool.and_eq_true] at hf
  have hne : xk = 3 → xs ≠ [] := fun h3 => by
    have h1 := hf.1
    rw [rF3 h3, Bool.and_eq_true] at h1
    exact rnum_ne h1.2
  refine Ct.enter Tryz.func40 rfl Tryz.ntmps40 rfl fun w0 a S => ?_
  refine wp_sr fun Z hZ => ?_
  (refine wbx S ?_; clear S a; intro b1 a w S)
  (revert S a; revert hZ Z; refine go 7 ?_; intro a S)
  (refine wp_seq_k ?_; intro Z hZ)
  replace hZ : ∀ (a' : Act) (w' : World), (∃ (t : Bool), t = rfitsH ⟨xk, xn, xs⟩ xl.len ∧ St 48 [(1, ptr b1), (3, .bool t)] w0 F [] F [[(b1, .cells ⟨[.int .u8 (xk : Int), .int .i64 xn, .string (bs xs), .slice ao xl.len cap]⟩ 33 (0, 0))]] a' w') → Z a' w' := (by
   (intro a w hM; refine hZ _ _ ?_; clear hZ Z; clear S; obtain ⟨t, ht, S⟩ := hM)
   (revert S a; refine go 6 ?_; intro Z hZ a S)
   refine wpc_loop (fun m a w' => ∃ (k : Nat) (t : Bool), m = xl.len - k ∧ k ≤ xl.len ∧ (t && rfitsL (xl.drop k)) = (rfitsH ⟨xk, xn, xs⟩ xl.len && rfitsL xl) ∧ St 48 [(1, ptr b1), (3, .bool t), (4, .int .i64 (k : Int))] w0 F [] F [[(b1, .cells ⟨[.int .u8 (xk : Int), .int .i64 xn, .string (bs xs), .slice ao xl.len cap]⟩ 33 (0, 0))]] a w') ?_ ?_
   · (refine ⟨xl.len, 0, t, by omega, Nat.zero_le _, by rw [ht]; rfl, ?_⟩; refine S.keep ?_; exact zk)
   (clear S; rintro m a w ⟨k, t, rfl, hkl, hfp, S⟩)
   (revert S a; refine go 8 ?_; intro Z hZ Z hZ a S)
   refine wgd S ?_ ?_
   · (clear S; intro h S)
     (revert S a; revert hZ Z; refine go 4 ?_; intro a S)
     refine wpc_sp S rfl ?_ ?_ <;> intro h
     · (revert S a; revert hZ Z; refine go 4 ?_; intro Z hZ a S)
       (obtain ⟨b8, o8, hao, x, cs1, v1, hx, hc1, hw9, hT1⟩ := TrM.pos hpos (k := k) (by omega); rw [hao] at S; have hxs := Rose.size_get hx; have hT1c := hT1; obtain ⟨a91, c91, rfl, -⟩ := hT1c; have hw9c := hw9.1; subst hw9c; (simp only [List.cons_append, List.nil_append] at hc1))
       (revert S a; refine go 6 ?_; intro a S)
       (refine wc0 S (ih F x _ (by omega) (rformL_get hf.2 hx) ⟨_, rfl, hT1, hw9.2⟩) ?_; clear S a; intro v a w hv S; subst hv)
       (revert S a; revert hZ Z; refine go 8 ?_; intro a S)
       change ∃ m', _ ∧ _
       (have ht1 : t = true := (by assumption); rw [← hao] at S; refine ⟨xl.len - (k + 1), by omega, k + 1, (rfitsH x.1 x.2.len && rfitsL x.2), rfl, by omega, ?_, ?_⟩; rotate_left 1; (refine S.keep ?_; exact zk); rw [← hfp, rfitsL_drop hx, ht1, Bool.true_and])
     (refine wp_exit ?_; conv => whnf)
     clear hZ Z
     (revert S a; revert hZ Z; refine go 6 ?_; intro a S)
     refine wp_ret (fr1 S Tryz.results40 ?_)
     exact zzEwF0
   (clear S a; intro h a S)
   (revert S a; revert hZ Z; refine go 3 ?_; intro a S)
   refine wpc_false S rfl ?_
   (refine wp_exit ?_; conv => whnf)
   clear hZ Z
   (revert S a; revert hZ Z; refine go 6 ?_; intro a S)
   refine wp_ret (fr1 S Tryz.results40 ?_)
   (congr 1; rw [← hfp]; first | (rw [(by assumption : t = false), Bool.false_and]; done) | (rw [Rose.drop_len (by omega)]; exact (Bool.and_true _).symm) | trace_state))
  (revert S a; refine go 11 ?_; intro a S)
  refine wpc_sp S rfl ?_ ?_ <;> intro h
  · (revert S a; refine go 3 ?_; intro a S)
    (refine wc0 S (rdigitsCt F xs (hne (by omega)) hs1) ?_; clear S a; intro v a w hv S; subst hv)
    (revert S a; refine go 3 ?_; intro a S)
    (refine hZ _ _ ?_)
    exact zzEwF2
  (revert S a; refine go 5 ?_; intro a S)
  refine wpc_sp S rfl ?_ ?_ <;> intro h
  · (revert S a; refine go 7 ?_; intro a S)
    (refine hZ _ _ ?_)
    exact zzEwF2
  (revert S a; refine go 5 ?_; intro a S)
  refine wpc_sp S rfl ?_ ?_ <;> intro h
  · (revert S a; refine go 7 ?_; intro a S)
    (refine hZ _ _ ?_)
    exact zzEwF2
  (revert S a; refine go 5 ?_; intro a S)
  refine wpc_sp S rfl ?_ ?_ <;> intro h
  · (revert S a; refine go 7 ?_; intro a S)
    (refine hZ _ _ ?_)
    exact zzEwF2
  refine wp_skip ?_
  (refine hZ _ _ ?_)
  exact zzEwF2
theorem zzEwF3 {p : Prop} (h : p := by (congr 1; unfold rcheckV; first | (rw [if_pos (by omega)]; done) | (rw [if_neg (by omega), if_pos (by assumption)]; done) | (rw [if_neg (by omega), if_neg (by rw [(by assumption : (rformH x.1 x.2.len && rformL x.2) = true)]; decide), if_pos (by assumption)]; done) | (rw [if_neg (by omega), if_neg (by rw [(by assumption : (rformH x.1 x.2.len && rformL x.2) = true)]; decide), if_neg (by rw [(by assumption : (rfitsH x.1 x.2.len && rfitsL x.2) = true)]; decide)]; done) | trace_state)) : p := h
theorem rcheckCt (F : Heap) (x : Vv) (cs : List Value) (hz : x.2.size ≤ 1000000000) (hV : VaC F cs x.1 x.2) : Ct Tryz.prog 11 [.agg ⟨cs⟩] F [] (fun _ _ u => u = .int .i64 (rcheckV x.1 x.2)) := by
 have hdp := r2depthCt (x.2.size + 1) F x cs (Nat.lt_succ_self _) hz hV
 have hfm := rformCt (x.2.size + 1) F x cs (Nat.lt_succ_self _) hV
 have hft := fun h => rfitsCt (x.2.size + 1) F x cs (Nat.lt_succ_self _) h hV
 have hdn := dpN_R x.2
 obtain ⟨a1, c1, rfl, -, -⟩ := vac_slc hV
 refine Ct.enter Tryz.func11 rfl Tryz.ntmps11 rfl fun w0 a S => ?_
 refine wp_sr fun Z hZ => ?_
 (refine wbx S ?_; clear S a; intro b1 a w S)
 (revert S a; revert hZ Z; refine go 6 ?_; intro Z hZ Z hZ a S)
 (refine wc0 S (hdp) ?_; clear S a; intro v a w hv S; subst hv)
 (revert S a; revert hZ Z; refine go 3 ?_; intro a S)
 refine wpc_sp S rfl ?_ ?_ <;> intro h
 ·(revert S a; refine go 4 ?_; intro a S)
  refine wp_ret (fr1 S Tryz.results11 ?_)
  exact zzEwF3
 (revert S a; revert hZ Z; refine go 5 ?_; intro Z hZ Z hZ a S)
 (refine wc0 S (hfm) ?_; clear S a; intro v a w hv S; subst hv)
 (revert S a; revert hZ Z; refine go 3 ?_; intro a S)
 refine wpc_sp S rfl ?_ ?_ <;> intro h
 ·(revert S a; refine go 4 ?_; intro a S)
  refine wp_ret (fr1 S Tryz.results11 ?_)
  exact zzEwF3
 (revert S a; revert hZ Z; refine go 5 ?_; intro Z hZ Z hZ a S)
 (refine wc0 S (hft (by assumption)) ?_; clear S a; intro v a w hv S; subst hv)
 (revert S a; revert hZ Z; refine go 3 ?_; intro a S)
 refine wpc_sp S rfl ?_ ?_ <;> intro h
 ·(revert S a; refine go 4 ?_; intro a S)
  refine wp_ret (fr1 S Tryz.results11 ?_)
  exact zzEwF3
 (revert S a; revert hZ Z; refine go 6 ?_; intro a S)
 refine wp_ret (fr1 S Tryz.results11 ?_)
 exact zzEwF3
theorem rownCt : ∀ (n : Nat) (F : Heap) (l : Vf) (v : Value), l.size < n → l.size ≤ 1000000000 → TrS F 4 VhR v l → Ct Tryz.prog 36 [v] F [] (fun F' _ u => TrS F' 4 VhR u l) := by
 intro n
 induction n with
 | zero => intro F l v hn; omega
 | succ n ih =>
 intro F l v hn hz hv
 have hll := Rose.len_size l
 obtain ⟨ao, cap, rfl, hcap, hpos⟩ := hv
 refine Ct.enter Tryz.func36 rfl Tryz.ntmps36 rfl fun w0 a S => ?_
 (revert S a; refine go 14 ?_; intro Z hZ a S)
 refine wpc_loop (fun m a w' => ∃ (i : Nat) (v : Value) (g : Grp) (xs : List Value) (F3 : Heap), m = l.len - i ∧ i ≤ l.len ∧ (∀ b o, F b = some o → F3 b = some o) ∧ OwnS 33 4 v i xs g ∧ LiC F3 4 (RoR 4 VhR) xs ((kids l).take i) ∧ St 25 [(0, .slice ao l.len cap), (3, v), (4, .int .i64 (i : Int))] w0 F [] F3 (g :: []) a w') ?_ ?_
 ·(replace S := S.nilg; refine ⟨l.len, 0, .slice none 0 0, [], [], F, by omega, Nat.zero_le _, fun _ _ h => h, OwnS.nil _ _, rfl, ?_⟩; refine S.keep ?_; exact zk)
 (clear S; rintro m a w ⟨i, v, g, xs, F3, rfl, hil, hF3, hown, hfc, S⟩)
 (revert S a; refine go 8 ?_; intro Z hZ a S)
 refine wpc_sp S rfl ?_ ?_ <;> intro h
 ·(revert S a; revert hZ Z; refine go 4 ?_; intro Z hZ a S)
  (refine wp_seq_k ?_; intro Z hZ)
  (obtain ⟨b8, o8, hao, x, cs1, v1, hx, hc1, hw9, hT1⟩ := TrM.pos hpos (k := i) (by omega); rw [hao] at S; replace hc1 := Cels.mono hF3 hc1; replace hT1 := hT1.mono hF3; have hxs := Rose.size_get hx; have hT1c := hT1; obtain ⟨a91, c91, rfl, -⟩ := hT1c; have hw9c := hw9.1; subst hw9c; (simp only [List.cons_append, List.nil_append] at hc1))
  (revert S a; refine go 5 ?_; intro a S)
  (refine wpl_alloc S rfl rfl rfl rfl ?_; clear S a; intro b5 a w S)
  (refine wso S rfl rfl ?_; clear S; intro w S)
  (revert S a; revert hZ Z; refine go 5 ?_; intro Z hZ a S)
  (refine wcF S (ih F3 x.2 _ (by omega) (by omega) hT1) ?_; clear S a; intro u9 F4 a w hv9 hF4 S; have hv9c := hv9; obtain ⟨a4, c4, rfl, -⟩ := hv9c)
  (revert S a; refine go 1 ?_; intro a S)
  (refine wpl_store1 S rfl rfl rfl rfl rfl rfl (by first | (simp; done) | (simp [Value.cells]; done) | exact Nat.le_of_ble_eq_true rfl) ?_; clear S; intro w S)
  (revert S a; revert hZ Z; refine go 2 ?_; intro a S)
  (obtain ⟨aoK, capK, rfl, -⟩ := hown.at)
  (revert S a; refine go 3 ?_; intro a S)
  (refine wpl_append S rfl rfl rfl rfl rfl rfl rfl rfl rfl rfl rfl (fun _ => rfl) hown (by rfl) (by simp [Value.cells, splice, splice]) (by simp [Value.cells, Value.oneCell', splice, splice]) rfl (by rfl) (by rfl) rfl (by omega) (by omega) ?_; clear hown S a; intro v u g a w hown S)
  (revert S a; revert hZ Z; refine go 8 ?_; intro a S)
  change ∃ m', _ ∧ _
  (rw [← hao] at S; replace S := St.pullB b5 S; replace S := S.drop1; refine ⟨l.len - (i + 1), by omega, i + 1, _, _, _, F4, rfl, by omega, fun b o h => hF4 _ _ (hF3 _ _ h), hown, ?_, ?_⟩; rotate_left 1; (refine S.keep ?_; exact zk); (show LiC F4 4 (RoR 4 VhR) (xs ++ ([.int .u8 (x.1.k : Int), .int .i64 x.1.n, .string (bs x.1.s), .slice a4 x.2.len c4] : List Value)) _; rw [List.take_add_one, kids_get, hx]; exact LiC.app (hfc.mono hF4) (LiC.one rfl ⟨[_, _, _], _, rfl, rfl, hw9, hv9⟩)))
 (refine wp_exit ?_; conv => whnf)
 clear hZ Z
 (revert S a; revert hZ Z; refine go 6 ?_; intro a S)
 refine wp_ret ?_
 (have hii : i = l.len := (by omega); have hle := add_le (G1 := []) S; replace S := St.freeze (G1 := []) S; (simp only [List.nil_append] at S hle))
 refine fin_ret S (results1 Tryz.results36 (RV.tmp S rfl)) ?_
 (rw [List.take_of_length_le (by rw [kids_len]; omega)] at hfc; exact trs_kids (LiC.lim hown hfc (by rw [kids_len]; omega) hle (by omega)))
theorem trv_one {F : Heap} {v : Value} {x : Vv} (h : TrS F 4 VhR v (.cons x.1 x.2 .nil)) : ∃ b o cap a1 c1, v = .slice (some ⟨b, o, none⟩) 1 cap ∧ Cels F b (o + 0 * 4) [.int .u8 (x.1.k : Int), .int .i64 x.1.n, .string (bs x.1.s), .slice a1 x.2.len c1] ∧ VaC F [.int .u8 (x.1.k : Int), .int .i64 x.1.n, .string (bs x.1.s), .slice a1 x.2.len c1] x.1 x.2 := by
 obtain ⟨ao, cap, rfl, -, hpos⟩ := h
 obtain ⟨b, o, rfl, y, cs, u, hy, hc, ⟨rfl, hs⟩, hT⟩ := TrM.pos hpos (k := 0) (show 0 < 1 by decide)
 cases hy
 have hTc := hT
 obtain ⟨a1, c1, rfl, -⟩ := hTc
 exact ⟨b, o, cap, a1, c1, rfl, hc, _, rfl, hT, hs⟩
theorem lbindCt (F : Heap) (vs : List Bd) (vv : Value) (hn : vs.length ≤ 1000000) (hz : ∀ x ∈ vs, x.2.2.size ≤ 100000000) (hv : LiM F 5 BdR vv vs) : Ct Tryz.prog 9 [vv] F [] (fun F' G' u => ∃ g xs, G' = [g] ∧ OwnS 79 5 u vs.length xs g ∧ LiC F' 5 BdR xs vs) := by
 obtain ⟨ao, cap, rfl, hcap, hpos⟩ := hv
 refine Ct.enter Tryz.func9 rfl Tryz.ntmps9 rfl fun w0 a S => ?_
 (revert S a; refine go 14 ?_; intro Z hZ a S)
 refine wpc_loop (fun m a w' => ∃ (i : Nat) (v : Value) (g : Grp) (xs : List Value) (F3 : Heap), m = vs.length - i ∧ i ≤ vs.length ∧ (∀ b o, F b = some o → F3 b = some o) ∧ OwnS 79 5 v i xs g ∧ LiC F3 5 BdR xs (vs.take i) ∧ St 30 [(0, .slice ao vs.length cap), (3, v), (4, .int .i64 (i : Int))] w0 F [] F3 (g :: []) a w') ?_ ?_
 ·(replace S := S.nilg; refine ⟨vs.length, 0, .slice none 0 0, [], [], F, by omega, Nat.zero_le _, fun _ _ h => h, OwnS.nil _ _, rfl, ?_⟩; refine S.keep ?_; exact zk)
 (clear S; rintro m a w ⟨i, v, g, xs, F3, rfl, hil, hF3, hown, hfc, S⟩)
 (revert S a; refine go 8 ?_; intro Z hZ a S)
 refine wpc_sp S rfl ?_ ?_ <;> intro h
 ·(revert S a; revert hZ Z; refine go 4 ?_; intro Z hZ a S)
  (obtain ⟨b8, o8, hao, x, cs1, hx, hc1, c9, rfl, hVx⟩ := LiM.pos hpos (k := i) (by omega); rw [hao] at S; replace hc1 := Cels.mono hF3 hc1; replace hVx := hVx.mono hF3; have hzx := hz x (List.mem_of_getElem? hx); have hVc := hVx; obtain ⟨a91, c91, rfl, -, -⟩ := vac_slc hVc; have hc2 := Cels.drop hc1 1; obtain ⟨aoK, capK, rfl, -⟩ := hown.at)
  (refine wpc_mixM [0, 1, 2, 3, 4, 5, 6, 7, 8, 9, 10, 13, 15] [5, 10] [] (.one 0 (.one 1 (.one 2 (.one 3 (.one 4 (.one 5 (.one 6 (.one 7 (.one 8 (.one 9 (.one 10 (.one 11 (.one 12 (.one 13 (.one 14 (.one 15 (.one 16 (.one 17 (.one 18 .nil))))))))))))))))))) [] S mixed (by kernel_rfl) ?_; clear S; intro w S)
  (revert S a; refine go 5 ?_; intro a S)
  (refine wlF S rfl (fun w' S => sv_loadF S rfl rfl (hc1 0 _ rfl)) ?_; clear S a; intro a S)
  (revert S a; refine go 4 ?_; intro a S)
  (refine wlF S rfl (fun w' S => sv_loadAF S rfl rfl hc2 (by rfl)) ?_; clear S a; intro a S)
  refine wpm_eff rfl rfl (kwa S) ?_
  (refine wpl_buildSlice S rfl rfl rfl rfl rfl rfl (by rfl) (by simp [Value.cells, splice]) rfl (by rfl) (by rfl) ?_; clear S a; intro b22 a w hown2 S; have S' := frz1 S; clear S; obtain ⟨F22, hF22, hb22, S⟩ := S'; have k22 : TrS F22 4 VhR (.slice (some ⟨b22, 0, none⟩) 1 1) (.cons x.2.1 x.2.2 .nil) := trs_lim (lim_of (l := ([x.2] : List Vv)) hb22 (LiC.one rfl (Mon.h hF22 (vac_ror hVx))) (show 1 ≤ _ by decide)))
  (revert S a; refine go 2 ?_; intro a S)
  (refine wcF S (rownCt (x.2.2.size + 2) F22 _ _ (by simp only [Rose.size]; omega) (by simp only [Rose.size]; omega) k22) ?_; clear S a; intro u9 F23 a w hv9 hF23 S; obtain ⟨be, oe, ce, ae, ne, rfl, hce, hVe⟩ := trv_one hv9)
  (revert S a; refine go 3 ?_; intro a S)
  (refine wv S (sv_loadAF S rfl rfl hce (by rfl)) ?_; clear S a; intro a S)
  (revert S a; refine go 3 ?_; intro a S)
  (refine wpl_buildSlice S rfl rfl rfl rfl rfl rfl (by rfl) (by simp [Value.cells, splice, splice]) rfl (by rfl) (by rfl) ?_; clear S a; intro b27 a w hown2 S)
  (revert S a; refine go 2 ?_; intro a S)
  (refine wpl_appendOwn S rfl rfl rfl rfl rfl rfl hown hown2 (by rfl) (by simp [Value.cells, Value.oneCell', splice, splice]) (by omega) (by omega) ?_; clear hown S a; intro v g a w hown S)
  (revert S a; revert hZ Z; refine go 11 ?_; intro a S)
  change ∃ m', _ ∧ _
  (rw [← hao] at S; refine ⟨vs.length - (i + 1), by omega, i + 1, _, _, _, F23, rfl, by omega, fun b o h => hF23 _ _ (hF22 _ _ (hF3 _ _ h)), hown, ?_, ?_⟩; rotate_left 1; (refine S.keep ?_; exact zk); (rw [List.take_add_one, hx]; exact LiC.app ((hfc.mono hF22).mono hF23) (LiC.one rfl ⟨_, rfl, hVe⟩)))
 (refine wp_exit ?_; conv => whnf)
 clear hZ Z
 (revert S a; revert hZ Z; refine go 6 ?_; intro a S)
 refine wp_ret (fr1 S Tryz.results9 ?_)
 (have hii : i = vs.length := (by omega); rw [List.take_of_length_le (by omega)] at hfc; rw [hii] at hown; exact ⟨_, _, rfl, hown, hfc⟩)
theorem szF_pos : ∀ (l : Vf) (n : Nat), 0 < n → 0 < szF n l := fun l n h => Nat.lt_of_lt_of_le h (szF_ge l n)
theorem lgF_len : ∀ {l : List Bd} {n : Nat}, lgF n l < 1500 → l.length + n ≤ lgF n l
 | [], n, _ => by show 0 + n ≤ n; omega
 | x :: r, n, h => by
  unfold lgF at h ⊢
  by_cases hn : n < 3000
  ·rw [if_pos hn] at h ⊢
   have h1 := lgF_len h
   have h2 := szF_pos x.2.2 (1 + x.2.1.s.length / 64) (by omega)
   have h3 : szV x.2 = szF (1 + x.2.1.s.length / 64) x.2.2 := rfl
   rw [List.length_cons]; omega
  ·rw [if_neg hn] at h; omega
theorem lgO_len {e : Ex} {vs : List Bd} (h : lgO e vs < 1500) : vs.length ≤ 1000000 := by
 have := lgF_len (show lgF (ptE e) vs < 1500 from h)
 unfold lgO at h; omega
theorem consG {n : Sz} {L : List (Nat × Value)} {w0 : World} {F0 : Heap} {K0 : List Nat} {a : Act} {w : World} {F : Heap} {g : Grp} {G : List Grp} (S : St n L w0 F0 K0 F ([g] ++ G) a w) : St n L w0 F0 K0 F (g :: G) a w := S
theorem permNil {G : List Grp} : G.flatten.Perm (([] : List Grp).flatten ++ G.flatten) := by simp
theorem ans_cast {F : Heap} {u : Value} {A B : Ans} (e : A = B) (h : AnsR F u A) : AnsR F u B := e ▸ h
section
variable {ops : Array Oper} {rest : List Oper} {o : Oper} {Q : Exit → Act → World → Prop} {n : Sz} {L : List (Nat × Value)} {w0 : World} {F0 F : Heap} {K0 : List Nat} {G : List Grp} {a : Act} {w : World} {d : Nat} {X : Operand} {xs : Array Operand} {ts : Array TypeId}
theorem wpl_bind {vv : Value} {vs : List Bd} (S : St n L w0 F0 K0 F G a w) (hg : o.guard = none) (hd : o.dst = some d) (hn : Nat.blt d n.sz = true) (ho : o.op = .call { callee := .value X, args := xs, argTypes := ts }) (hx : ev L X = some (.func (.func 9) ⟨[]⟩ ⟨[]⟩)) (hxs : evs L xs.toList = some [vv])
  (hvn : vs.length ≤ 1000000) (hvz : ∀ x ∈ vs, x.2.2.size ≤ 100000000) (hv : LiM F 5 BdR vv vs)
  (k : ∀ ao cap F' a' w', (∀ b o, F b = some o → F' b = some o) → LiM F' 5 BdR (.slice ao vs.length cap) vs → St n ((d, .slice ao vs.length cap) :: L) w0 F0 K0 F' G a' w' → wpList Tryz.prog ops Q rest a' w') : wpList Tryz.prog ops Q (o :: rest) a w := by
 refine wpl_call (Gs := []) S hg hd hn ho hx hxs (lbindCt F vs _ hvn hvz hv) rfl permNil ?_
 intro u F1 G9 a w hv1 hF1 S
 obtain ⟨g, ys, rfl, hown, hli⟩ := hv1
 replace S := consG (g := g) S
 have hx := hown.at
 obtain ⟨ab, cb, rfl, -⟩ := hx
 have hle := add_le (G1 := []) S
 have S' := St.freeze (G1 := []) S
 exact k ab cb _ _ _ (fun b o h => hle _ _ (hF1 _ _ h)) (LiC.lim hown hli rfl hle (by omega)) S'
end
end Go.Proofs.YtgefmjghdijbfaaGreatDoor
