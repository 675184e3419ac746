/- Walks: parts, large. Walks of the document's check of values: names, numbers, Depth, form, fits, Check. Walks: Names, Digits, Number, Depth. Walks: Names, form. -/
import Derived.Test.YtigblodhdfnleaaGreatDoorEwA
namespace Go.Proofs.YtigblodhdfnleaaGreatDoor
open Go Go.Wk Go.Un Go.De Go.Num
set_option linter.unusedSimpArgs false
set_option linter.unusedVariables false
attribute [local irreducible] Go.wpList Go.Code.wp Go.wpStill Go.Wk.wpPre Go.bodyPost Go.Calls Go.Wk.Ct Go.Wk.OwnS
attribute [local irreducible] Go.Wk.wpG Go.Wk.wpM

set_option maxHeartbeats 8000000 in
theorem lpartsCt : ∀ (n : Nat) (F : Heap) (x : Ex) (cs : List Value), x.2.size < n → NEe x → dpE x.2 ≤ 2000000 → ExC F cs x.1 x.2 → Ct Tryz.prog 28 [.agg ⟨cs⟩] F [] (fun _ _ u => u = .int .i64 (ptE x : Int)) := by
  intro n
  induction n with
  | zero => intro F x cs hn; omega
  | succ n ih =>
  intro F x cs hn hN hd hX
  obtain ⟨eh, xl⟩ := x
  obtain ⟨a1, n1, c1, ao, cap, rfl, hT2, hT3⟩ := exc_slc hX
  have hX0 := hX
  obtain ⟨_, _, e0, hTv, hTl⟩ := hX0
  obtain ⟨_, _, e9, hcap, hpos⟩ := hT3
  cases e9
  dsimp only at *
  have hbv : szV (eh.v, eh.vl) ≤ 4611686018427387904 := szV_bd hN.1.1 hN.1.2.1
  have hsv : VaC F [.int .u8 (eh.v.k : Int), .int .i64 eh.v.n, .string (bs eh.v.s), .slice a1 n1 c1] eh.v eh.vl := ⟨_, rfl, hT2, hN.1.1.1.2⟩
  refine Ct.enter Tryz.func28 rfl Tryz.ntmps28 rfl fun w0 a S => ?_
  refine wp_sr fun Z hZ => ?_
  (refine wpl_box S rfl rfl rfl rfl rfl ?_; clear S a; intro b1 a w S)
  (revert S a; revert hZ Z; refine go11 6 ?_; intro Z hZ a S)
  (refine wpl_call0 S rfl rfl rfl rfl rfl rfl (lsizeCt (eh.vl.size + 1) F (eh.v, eh.vl) _ (Nat.lt_succ_self _) hN.1.1 hN.1.2.1 hsv) rfl ?_; clear S a; intro v a w hv S; subst hv)
  (revert S a; refine go00 1 ?_; intro a S)
  (rw [show ((1 : Int) + (szV (eh.v, eh.vl) : Int)) = ((1 + szV (eh.v, eh.vl) : Nat) : Int) by omega] at S)
  (revert S a; revert hZ Z; refine go11 9 ?_; intro Z hZ a S)
  refine wpc_loop (fun m a w' => ∃ (k p : Nat), m = xl.len - k ∧ k ≤ xl.len ∧ ptF p (xl.drop k) = ptF (1 + szV (eh.v, eh.vl)) xl ∧ St 29 [(1, ptr b1), (3, .int .i64 (p : Int)), (4, .int .i64 (k : Int))] w0 F [] F [[(b1, .cells ⟨[.int .u8 (eh.k : Int), .int .i64 eh.l, .int .i64 eh.c, .string (bs eh.nm), .int .u8 (eh.v.k : Int), .int .i64 eh.v.n, .string (bs eh.v.s), .slice a1 n1 c1, .slice ao xl.len cap]⟩ 34 (0, 0))]] a w') ?_ ?_
  · (refine ⟨xl.len, 0, 1 + szV (eh.v, eh.vl), by omega, Nat.zero_le _, rfl, ?_⟩; refine S.keep ?_; repeat (first | exact trivial | refine ⟨rfl, ?_⟩))
  (clear S; rintro m a w ⟨k, p, rfl, hkl, hfp, S⟩)
  (revert S a; refine go02 8 ?_; intro Z hZ Z hZ a S)
  refine wpl_guard S rfl rfl rfl rfl rfl ?_ ?_
  · (clear S; intro h S; (try simp only [tq] at h))
    (revert S a; revert hZ Z; refine go10 6 ?_; intro a S)
    refine wpc_split S rfl (fun h => ?_) (fun h => ?_)
    · (skip; (try simp only [tq] at h))
      (revert S a; revert hZ Z; refine go11 4 ?_; intro Z hZ a S)
      (obtain ⟨b8, o8, hao, x, cs1, v1, hx, hc1, hw9, hT1⟩ := TrM.pos hpos (k := k) (by omega); rw [hao] at S; have hxs := Rose.size_get hx; have hNx := hN.2.get hx; have hdx := dpE_get hx; have hbx := ptE_bd hNx (by omega); have hXx := exc_of hw9 hT1; have hxc := hXx; obtain ⟨a91, n91, c91, a92, c92, exx, -, -⟩ := exc_slc hxc; rw [exx] at hc1 hXx)
      (revert S a; refine go00 6 ?_; intro a S)
      (refine wpl_v S rfl rfl rfl (sv_loadAF S rfl rfl hc1 (by rfl)) ?_; clear S a; intro a S)
      (refine wpl_call0 S rfl rfl rfl rfl rfl rfl (ih F x _ (by omega) hNx (by omega) hXx) rfl ?_; clear S a; intro v a w hv S; subst hv)
      (revert S a; revert hZ Z; refine go10 9 ?_; intro a S)
      change ∃ m', _ ∧ _
      (rw [← hao] at S; refine ⟨xl.len - (k + 1), by omega, k + 1, p + ptE x, rfl, by omega, ?_, ?_⟩; rotate_left 1; (refine S.keep ?_; repeat (first | exact trivial | refine ⟨rfl, ?_⟩)); rw [← ptF_drop hx (by omega)]; exact hfp)
    (skip; (try simp only [tq] at h))
    (refine wp_exit ?_; conv => whnf)
    clear hZ Z
    (revert S a; revert hZ Z; refine go10 6 ?_; intro a S)
    refine wp_ret (fin_ret S (results1 Tryz.results28 (RV.tmp S rfl)) ?_)
    (show _ = Value.int .i64 ((ptF (1 + szV (eh.v, eh.vl)) xl : Nat) : Int); rw [← hfp, ptF_end (by omega)])
  (intro h; clear S a; intro a S; (try simp only [tq] at h))
  (revert S a; revert hZ Z; refine go10 4 ?_; intro a S)
  refine wpc_false S rfl ?_
  (refine wp_exit ?_; conv => whnf)
  clear hZ Z
  (revert S a; revert hZ Z; refine go10 6 ?_; intro a S)
  refine wp_ret (fin_ret S (results1 Tryz.results28 (RV.tmp S rfl)) ?_)
  (show _ = Value.int .i64 ((ptF (1 + szV (eh.v, eh.vl)) xl : Nat) : Int); rw [← hfp, ptF_end (by omega)])
set_option maxHeartbeats 8000000 in
theorem llargeCt (F : Heap) (x : Ex) (cs : List Value) (vs : List Bd) (vv : Value) (hN : NEe x) (hd : dpE x.2 ≤ 2000000) (hB : NB vs) (hX : ExC F cs x.1 x.2) (hv : LiM F 5 BdR vv vs) : Ct Tryz.prog 13 [.agg ⟨cs⟩, vv] F [] (fun _ _ u => u = .bool (decide (1500 ≤ lgO x vs))) := by
  obtain ⟨ao, cap, rfl, hcap, hpos⟩ := hv
  have hX0 := hX
  obtain ⟨a1, n1, c1, a2, c2, rfl, -, -⟩ := exc_slc hX
  have hbx := ptE_bd hN hd
  refine Ct.enter Tryz.func13 rfl Tryz.ntmps13 rfl fun w0 a S => ?_
  refine wp_sr fun Z hZ => ?_
  (refine wpl_box S rfl rfl rfl rfl rfl ?_; clear S a; intro b2 a w S)
  (revert S a; revert hZ Z; refine go11 5 ?_; intro Z hZ a S)
  (refine wpl_call0 S rfl rfl rfl rfl rfl rfl (lpartsCt (x.2.size + 1) F x _ (Nat.lt_succ_self _) hN hd hX0) rfl ?_; clear S a; intro v a w hv S; subst hv)
  (revert S a; revert hZ Z; refine go11 9 ?_; intro Z hZ a S)
  refine wpc_loop (fun m a w' => ∃ (k p : Nat), m = vs.length - k ∧ k ≤ vs.length ∧ p ≤ 6917529027641081856 ∧ lgF p (vs.drop k) = lgO x vs ∧ St 29 [(1, .slice ao vs.length cap), (5, .int .i64 (p : Int)), (6, .int .i64 (k : Int))] w0 F [] F [] a w') ?_ ?_
  · (replace S := S.drop1; refine ⟨vs.length, 0, ptE x, by omega, Nat.zero_le _, hbx, rfl, ?_⟩; refine S.keep ?_; repeat (first | exact trivial | refine ⟨rfl, ?_⟩))
  (clear S; rintro m a w ⟨k, p, rfl, hkl, hpb, hfp, S⟩)
  (revert S a; refine go02 7 ?_; intro Z hZ Z hZ a S)
  refine wpl_guard S rfl rfl rfl rfl rfl ?_ ?_
  · (clear S; intro h S; (try simp only [tq] at h))
    (revert S a; revert hZ Z; refine go10 6 ?_; intro a S)
    refine wpc_split S rfl (fun h => ?_) (fun h => ?_)
    · (skip; (try simp only [tq] at h))
      (revert S a; revert hZ Z; refine go11 4 ?_; intro Z hZ a S)
      (obtain ⟨b8, o8, hao, y, cs1, hy, hc1, c9, rfl, hVy⟩ := LiM.pos hpos (k := k) (by omega); rw [hao] at S; have hNy := hB y (List.mem_of_getElem? hy); have hby := szV_bd hNy.1 hNy.2; have hVc := hVy; obtain ⟨a91, c91, rfl, -, -⟩ := vac_slc hVc; have hc2 := Cels.drop hc1 1)
      (revert S a; refine go00 6 ?_; intro a S)
      (refine wpl_v S rfl rfl rfl (sv_loadAF S rfl rfl hc2 (by rfl)) ?_; clear S a; intro a S)
      (refine wpl_call0 S rfl rfl rfl rfl rfl rfl (lsizeCt (y.2.2.size + 1) F y.2 _ (Nat.lt_succ_self _) hNy.1 hNy.2 hVy) rfl ?_; clear S a; intro v a w hv S; subst hv)
      (revert S a; revert hZ Z; refine go10 9 ?_; intro a S)
      change ∃ m', _ ∧ _
      (rw [← hao] at S; refine ⟨vs.length - (k + 1), by omega, k + 1, p + szV y.2, rfl, by omega, by omega, ?_, ?_⟩; rotate_left 1; (refine S.keep ?_; repeat (first | exact trivial | refine ⟨rfl, ?_⟩)); rw [← lgF_drop hy (by omega)]; exact hfp)
    (skip; (try simp only [tq] at h))
    (refine wp_exit ?_; conv => whnf)
    clear hZ Z
    (revert S a; revert hZ Z; refine go10 7 ?_; intro a S)
    refine wp_ret (fin_ret S (results1 Tryz.results13 (RV.tmp S rfl)) ?_)
    (rw [← hfp, lgF_end (by omega)]; congr 1; exact decide_eq_decide.2 (by omega))
  (intro h; clear S a; intro a S; (try simp only [tq] at h))
  (revert S a; revert hZ Z; refine go10 4 ?_; intro a S)
  refine wpc_false S rfl ?_
  (refine wp_exit ?_; conv => whnf)
  clear hZ Z
  (revert S a; revert hZ Z; refine go10 7 ?_; intro a S)
  refine wp_ret (fin_ret S (results1 Tryz.results13 (RV.tmp S rfl)) ?_)
  (rw [← hfp, lgF_end (by omega)]; congr 1; exact decide_eq_decide.2 (by omega))
end Go.Proofs.YtigblodhdfnleaaGreatDoor
namespace Go.Proofs.YtigblodhdfnleaaGreatDoor
open Go Go.Wk Go.Un Go.De Go.Num
set_option linter.unusedSimpArgs false
set_option linter.unusedVariables false
attribute [local irreducible] Go.wpList Go.Code.wp Go.wpStill Go.Wk.wpPre Go.bodyPost Go.Calls Go.Wk.Ct Go.Wk.OwnS
attribute [local irreducible] Go.Wk.wpG Go.Wk.wpM

theorem rletterCt (F : Heap) (c : Nat) : Ct Tryz.prog 114 [.int .u8 (c : Int)] F [] (fun _ _ u => u = .bool (decide (97 ≤ c ∧ c ≤ 122))) := by
  refine Ct.enter Tryz.func114 rfl Tryz.ntmps114 rfl fun w0 a S => ?_
  (revert S a; refine go01 8 ?_; intro Z hZ a S)
  refine wpl_guard S rfl rfl rfl rfl rfl ?_ ?_
  · (clear S; intro h S; (try simp only [tq] at h))
    (revert S a; revert hZ Z; refine go10 7 ?_; intro a S)
    refine wp_ret (fin_ret S (results1 Tryz.results114 (RV.tmp S rfl)) ?_)
    (congr 1; first | (exact decide_eq_decide.2 (by omega)) | (exact (decide_eq_false (by omega)).symm) | trace_state)
  (intro h; clear S a; intro a S; (try simp only [tq] at h))
  (revert S a; revert hZ Z; refine go10 5 ?_; intro a S)
  refine wp_ret (fin_ret S (results1 Tryz.results114 (RV.tmp S rfl)) ?_)
  (congr 1; first | (exact decide_eq_decide.2 (by omega)) | (exact (decide_eq_false (by omega)).symm) | trace_state)
theorem zzEwC0 {p : Prop} (h : p := by (congr 1; first | (exact (name_no2 (k := k) (by omega) (decide_eq_false (by omega))).symm) | (exact (name_yes ⟨by assumption, by omega, by omega, by omega⟩ (fun j hj => hall j (by omega))).symm) | (exact (name_no1 (by rintro ⟨h1, h2, h3, h4⟩; first | omega | exact h1 (by assumption))).symm) | trace_state)) : p := h
theorem zzEwC1 {p : Prop} (h : p := by (refine ⟨s.length - (k + 1), by omega, k + 1, rfl, by omega, ?_, ?_⟩; rotate_left 1; (refine S.keep ?_; repeat (first | exact trivial | refine ⟨rfl, ?_⟩)); intro j hj; rcases Nat.lt_or_eq_of_le (Nat.le_of_lt_succ hj) with h6 | h6; exact hall j h6; subst h6; exact decide_eq_true (by omega))) : p := h
set_option maxHeartbeats 8000000 in
theorem rnameCt (F : Heap) (s : List UInt8) : Ct Tryz.prog 92 [.string (bs s)] F [] (fun _ _ u => u = .bool (nameS s)) := by
  refine Ct.enter Tryz.func92 rfl Tryz.ntmps92 rfl fun w0 a S => ?_
  (revert S a; refine go02 9 ?_; intro Z hZ Z hZ a S)
  refine wpl_guard S rfl rfl rfl rfl rfl ?_ ?_
  · (clear S; intro h S; (try simp only [tq] at h))
    (revert S a; refine go00 7 ?_; intro a S)
    refine wpl_guard S rfl rfl rfl rfl rfl ?_ ?_
    · (clear S; intro h S; (try simp only [tq] at h))
      (revert S a; refine go00 2 ?_; intro a S)
      (refine wpl_v S rfl rfl rfl (sv_indexSN (i := 0) S rfl rfl rfl (by first | omega | (have h9 : 0 < s.length := List.length_pos_iff.2 (by assumption); omega))) ?_; clear S a; intro a S)
      refine wpl_take S rfl rfl rfl ?_
      (refine wpl_call0 S rfl rfl rfl rfl rfl rfl (rletterCt F _) rfl ?_; clear S a; intro v a w hv S; subst hv)
      (revert S a; revert hZ Z; refine go10 5 ?_; intro a S)
      refine wpc_split S rfl (fun h => ?_) (fun h => ?_)
      · (skip; (try simp only [tq] at h))
        (revert S a; refine go00 4 ?_; intro a S)
        refine wp_ret (fin_ret S (results1 Tryz.results92 (RV.tmp S rfl)) ?_)
        exact zzEwC0
      (skip; (try simp only [tq] at h))
      (revert S a; revert hZ Z; refine go11 8 ?_; intro Z hZ a S)
      refine wpc_loop (fun m a w' => ∃ (k : Nat), m = s.length - k ∧ k ≤ s.length ∧ (∀ j, j < k → nameN (s.getD j 0).toNat = true) ∧ St 52 [(0, .string (bs s)), (3, .int .i64 (k : Int))] w0 F [] F [] a w') ?_ ?_
      · (refine ⟨s.length, 0, by omega, Nat.zero_le _, fun j h => absurd h (Nat.not_lt_zero _), ?_⟩; refine S.keep ?_; repeat (first | exact trivial | refine ⟨rfl, ?_⟩))
      (clear S; rintro m a w ⟨k, rfl, hkl, hall, S⟩)
      (revert S a; refine go01 8 ?_; intro Z hZ a S)
      refine wpc_split S rfl (fun h => ?_) (fun h => ?_)
      · (skip; (try simp only [tq] at h))
        (revert S a; revert hZ Z; refine go12 7 ?_; intro Z hZ Z hZ a S)
        first | (refine wpl_v S rfl rfl rfl (sv_indexSN S rfl rfl rfl (by first | omega | (have h9 : 0 < s.length := List.length_pos_iff.2 (by assumption); omega))) ?_; clear S a; intro a S) | (refine wpl_v S rfl rfl rfl (sv_indexS S rfl rfl rfl (by first | omega | (have h9 : 0 < s.length := List.length_pos_iff.2 (by assumption); omega))) ?_; clear S a; intro a S)
        (revert S a; revert hZ Z; refine go11 5 ?_; intro Z hZ a S)
        (refine wpl_call0 S rfl rfl rfl rfl rfl rfl (rletterCt F _) rfl ?_; clear S a; intro v a w hv S; subst hv)
        (revert S a; refine go00 2 ?_; intro a S)
        refine wpl_guard S rfl rfl rfl rfl rfl ?_ ?_
        · (clear S; intro h S; (try simp only [tq] at h))
          (revert S a; refine go00 5 ?_; intro a S)
          refine wpl_guard S rfl rfl rfl rfl rfl ?_ ?_
          · (clear S; intro h S; (try simp only [tq] at h))
            (revert S a; refine go00 9 ?_; intro a S)
            refine wpl_guard S rfl rfl rfl rfl rfl ?_ ?_
            · (clear S; intro h S; (try simp only [tq] at h))
              (revert S a; refine go00 5 ?_; intro a S)
              refine wpl_guard S rfl rfl rfl rfl rfl ?_ ?_
              · (clear S; intro h S; (try simp only [tq] at h))
                (revert S a; refine go00 9 ?_; intro a S)
                refine wpl_guard S rfl rfl rfl rfl rfl ?_ ?_
                · (clear S; intro h S; (try simp only [tq] at h))
                  (revert S a; revert hZ Z; refine go10 6 ?_; intro a S)
                  refine wpc_split S rfl (fun h => ?_) (fun h => ?_)
                  · (skip; (try simp only [tq] at h))
                    (revert S a; refine go00 4 ?_; intro a S)
                    refine wp_ret (fin_ret S (results1 Tryz.results92 (RV.tmp S rfl)) ?_)
                    exact zzEwC0
                  (skip; (try simp only [tq] at h))
                  (revert S a; revert hZ Z; refine go10 4 ?_; intro a S)
                  (refine wpl_v S rfl rfl rfl (sv_add S rfl rfl rfl (by first | omega | (have h9 : 0 < s.length := List.length_pos_iff.2 (by assumption); omega))) ?_; clear S a; intro a S)
                  (revert S a; refine go00 2 ?_; intro a S)
                  change ∃ m', _ ∧ _
                  exact zzEwC1
                (intro h; clear S a; intro a S; (try simp only [tq] at h))
                (revert S a; revert hZ Z; refine go10 4 ?_; intro a S)
                refine wpc_false S rfl ?_
                (revert S a; revert hZ Z; refine go10 4 ?_; intro a S)
                (refine wpl_v S rfl rfl rfl (sv_add S rfl rfl rfl (by first | omega | (have h9 : 0 < s.length := List.length_pos_iff.2 (by assumption); omega))) ?_; clear S a; intro a S)
                (revert S a; refine go00 2 ?_; intro a S)
                change ∃ m', _ ∧ _
                exact zzEwC1
              (intro h; clear S a; intro a S; (try simp only [tq] at h))
              (revert S a; revert hZ Z; refine go10 14 ?_; intro a S)
              refine wpc_split S rfl (fun h => ?_) (fun h => ?_)
              · (skip; (try simp only [tq] at h))
                (revert S a; refine go00 4 ?_; intro a S)
                refine wp_ret (fin_ret S (results1 Tryz.results92 (RV.tmp S rfl)) ?_)
                exact zzEwC0
              (skip; (try simp only [tq] at h))
              (revert S a; revert hZ Z; refine go10 4 ?_; intro a S)
              (refine wpl_v S rfl rfl rfl (sv_add S rfl rfl rfl (by first | omega | (have h9 : 0 < s.length := List.length_pos_iff.2 (by assumption); omega))) ?_; clear S a; intro a S)
              (revert S a; refine go00 2 ?_; intro a S)
              change ∃ m', _ ∧ _
              exact zzEwC1
            (intro h; clear S a; intro a S; (try simp only [tq] at h))
            (revert S a; refine go00 2 ?_; intro a S)
            iterate 2 (refine wpl_skipU S rfl rfl rfl rfl rfl ?_; clear S a; intro a S)
            (revert S a; revert hZ Z; refine go10 9 ?_; intro a S)
            refine wpc_false S rfl ?_
            (revert S a; revert hZ Z; refine go10 4 ?_; intro a S)
            (refine wpl_v S rfl rfl rfl (sv_add S rfl rfl rfl (by first | omega | (have h9 : 0 < s.length := List.length_pos_iff.2 (by assumption); omega))) ?_; clear S a; intro a S)
            (revert S a; refine go00 2 ?_; intro a S)
            change ∃ m', _ ∧ _
            exact zzEwC1
          (intro h; clear S a; intro a S; (try simp only [tq] at h))
          (revert S a; refine go00 13 ?_; intro a S)
          refine wpl_guard S rfl rfl rfl rfl rfl ?_ ?_
          · (clear S; intro h S; (try simp only [tq] at h))
            (revert S a; refine go00 9 ?_; intro a S)
            refine wpl_guard S rfl rfl rfl rfl rfl ?_ ?_
            · (clear S; intro h S; (try simp only [tq] at h))
              (revert S a; revert hZ Z; refine go10 6 ?_; intro a S)
              refine wpc_split S rfl (fun h => ?_) (fun h => ?_)
              · (skip; (try simp only [tq] at h))
                (revert S a; refine go00 4 ?_; intro a S)
                refine wp_ret (fin_ret S (results1 Tryz.results92 (RV.tmp S rfl)) ?_)
                exact zzEwC0
              (skip; (try simp only [tq] at h))
              (revert S a; revert hZ Z; refine go10 4 ?_; intro a S)
              (refine wpl_v S rfl rfl rfl (sv_add S rfl rfl rfl (by first | omega | (have h9 : 0 < s.length := List.length_pos_iff.2 (by assumption); omega))) ?_; clear S a; intro a S)
              (revert S a; refine go00 2 ?_; intro a S)
              change ∃ m', _ ∧ _
              exact zzEwC1
            (intro h; clear S a; intro a S; (try simp only [tq] at h))
            (revert S a; revert hZ Z; refine go10 4 ?_; intro a S)
            refine wpc_false S rfl ?_
            (revert S a; revert hZ Z; refine go10 4 ?_; intro a S)
            (refine wpl_v S rfl rfl rfl (sv_add S rfl rfl rfl (by first | omega | (have h9 : 0 < s.length := List.length_pos_iff.2 (by assumption); omega))) ?_; clear S a; intro a S)
            (revert S a; refine go00 2 ?_; intro a S)
            change ∃ m', _ ∧ _
            exact zzEwC1
          (intro h; clear S a; intro a S; (try simp only [tq] at h))
          (revert S a; revert hZ Z; refine go10 14 ?_; intro a S)
          refine wpc_split S rfl (fun h => ?_) (fun h => ?_)
          · (skip; (try simp only [tq] at h))
            (revert S a; refine go00 4 ?_; intro a S)
            refine wp_ret (fin_ret S (results1 Tryz.results92 (RV.tmp S rfl)) ?_)
            exact zzEwC0
          (skip; (try simp only [tq] at h))
          (revert S a; revert hZ Z; refine go10 4 ?_; intro a S)
          (refine wpl_v S rfl rfl rfl (sv_add S rfl rfl rfl (by first | omega | (have h9 : 0 < s.length := List.length_pos_iff.2 (by assumption); omega))) ?_; clear S a; intro a S)
          (revert S a; refine go00 2 ?_; intro a S)
          change ∃ m', _ ∧ _
          exact zzEwC1
        (intro h; clear S a; intro a S; (try simp only [tq] at h))
        (revert S a; refine go00 2 ?_; intro a S)
        iterate 2 (refine wpl_skipU S rfl rfl rfl rfl rfl ?_; clear S a; intro a S)
        (revert S a; refine go00 7 ?_; intro a S)
        iterate 2 (refine wpl_skipU S rfl rfl rfl rfl rfl ?_; clear S a; intro a S)
        (revert S a; revert hZ Z; refine go10 9 ?_; intro a S)
        refine wpc_false S rfl ?_
        (revert S a; revert hZ Z; refine go10 4 ?_; intro a S)
        (refine wpl_v S rfl rfl rfl (sv_add S rfl rfl rfl (by first | omega | (have h9 : 0 < s.length := List.length_pos_iff.2 (by assumption); omega))) ?_; clear S a; intro a S)
        (revert S a; refine go00 2 ?_; intro a S)
        change ∃ m', _ ∧ _
        exact zzEwC1
      (skip; (try simp only [tq] at h))
      (refine wp_exit ?_; conv => whnf)
      clear hZ Z
      (revert S a; revert hZ Z; refine go10 5 ?_; intro a S)
      refine wp_ret (fin_ret S (results1 Tryz.results92 (RV.tmp S rfl)) ?_)
      exact zzEwC0
    (intro h; clear S a; intro a S; (try simp only [tq] at h))
    (revert S a; revert hZ Z; refine go10 6 ?_; intro a S)
    refine wpc_true S rfl ?_
    (revert S a; refine go00 4 ?_; intro a S)
    refine wp_ret (fin_ret S (results1 Tryz.results92 (RV.tmp S rfl)) ?_)
    exact zzEwC0
  (intro h; clear S a; intro a S; (try simp only [tq] at h))
  (revert S a; revert hZ Z; refine go10 11 ?_; intro a S)
  refine wpc_true S rfl ?_
  (revert S a; refine go00 4 ?_; intro a S)
  refine wp_ret (fin_ret S (results1 Tryz.results92 (RV.tmp S rfl)) ?_)
  exact zzEwC0
end Go.Proofs.YtigblodhdfnleaaGreatDoor
namespace Go.Proofs.YtigblodhdfnleaaGreatDoor
open Go Go.Wk Go.Un Go.De Go.Num
set_option linter.unusedSimpArgs false
set_option linter.unusedVariables false
attribute [local irreducible] Go.wpList Go.Code.wp Go.wpStill Go.Wk.wpPre Go.bodyPost Go.Calls Go.Wk.Ct Go.Wk.OwnS
attribute [local irreducible] Go.Wk.wpG Go.Wk.wpM

theorem rdigitsCt (F : Heap) (s : List UInt8) (hs : s ≠ []) (hb : s.length ≤ 140737488355328) : Ct Tryz.prog 67 [.string (bs s)] F [] (fun _ _ u => u = .int .i64 (rdig s)) := by
  have h9 : 0 < s.length := List.length_pos_iff.2 hs
  refine Ct.enter Tryz.func67 rfl Tryz.ntmps67 rfl fun w0 a S => ?_
  (revert S a; refine go02 7 ?_; intro Z hZ Z hZ a S)
  (refine wpl_v S rfl rfl rfl (sv_indexSN (i := 0) S rfl rfl rfl (by omega)) ?_; clear S a; intro a S)
  (revert S a; revert hZ Z; refine go10 3 ?_; intro a S)
  refine wpc_split S rfl (fun h => ?_) (fun h => ?_)
  · (skip; (try simp only [tq] at h))
    (revert S a; refine go00 7 ?_; intro a S)
    refine wp_ret (fin_ret S (results1 Tryz.results67 (RV.tmp S rfl)) ?_)
    (congr 1; unfold rdig; first | (rw [if_pos (by omega)]; done) | (rw [if_neg (by omega)]; done) | trace_state)
  (skip; (try simp only [tq] at h))
  (revert S a; revert hZ Z; refine go10 8 ?_; intro a S)
  refine wp_ret (fin_ret S (results1 Tryz.results67 (RV.tmp S rfl)) ?_)
  (congr 1; unfold rdig; first | (rw [if_pos (by omega)]; done) | (rw [if_neg (by omega)]; done) | trace_state)
theorem numB_at {d : List UInt8} {k : Nat} (hk : k < d.length) (h : ¬ (48 ≤ (d.getD k 0).toNat ∧ (d.getD k 0).toNat ≤ 57)) : numB d = false := by
  unfold numB
  rw [Bool.and_eq_false_iff]
  right
  rw [List.all_eq_false]
  refine ⟨d[k], List.getElem_mem hk, ?_⟩
  rw [List.getD_eq_getElem?_getD, List.getElem?_eq_getElem hk] at h
  simpa [digB] using h
theorem numB_no {d : List UInt8} (h : ¬ (d ≠ [] ∧ ¬ (1 < d.length ∧ (d.getD 0 0).toNat = 48))) : numB d = false := by
  unfold numB; rw [decide_eq_false h, Bool.false_and]
theorem numB_yes {d : List UInt8} (h : d ≠ [] ∧ ¬ (1 < d.length ∧ (d.getD 0 0).toNat = 48)) (h2 : ∀ j, j < d.length → digB (d.getD j 0) = true) : numB d = true := by
  unfold numB
  rw [decide_eq_true h, Bool.true_and, List.all_eq_true]
  intro c hc
  obtain ⟨j, hj, rfl⟩ := List.mem_iff_getElem.1 hc
  have := h2 j hj
  rwa [List.getD_eq_getElem?_getD, List.getElem?_eq_getElem hj] at this
theorem zzEwD0 {p : Prop} (h : p := by (congr 1; first | (unfold rnum; rw [if_pos (by omega), if_pos (by omega)]; done) | (rw [hrd]; first | (exact (numB_at (k := k) (by omega) (by omega)).symm) | (exact (numB_no (by rintro ⟨h1, h2⟩; first | omega | exact h1 (by assumption))).symm) | (exact (numB_yes ⟨by assumption, by omega⟩ (fun j hj => hall j (by omega))).symm)) | trace_state)) : p := h
theorem zzEwD1 {p : Prop} (h : p := by (refine ⟨d.length - (k + 1), by omega, k + 1, rfl, by omega, ?_, ?_⟩; rotate_left 1; (refine S.keep ?_; repeat (first | exact trivial | refine ⟨rfl, ?_⟩)); intro j hj; rcases Nat.lt_or_eq_of_le (Nat.le_of_lt_succ hj) with h6 | h6; exact hall j h6; subst h6; exact decide_eq_true (by omega))) : p := h
theorem zzEwD2 {p : Prop} (h : p := by (first | (refine ⟨s.drop 1, ?_, by rw [List.length_drop]; omega, ?_⟩; rotate_left 1; (refine S.keep ?_; repeat (first | exact trivial | refine ⟨rfl, ?_⟩)); unfold rnum; rw [if_pos (by omega), if_neg (by omega)]) | (refine ⟨s, ?_, Nat.le_refl _, ?_⟩; rotate_left 1; (refine S.keep ?_; repeat (first | exact trivial | refine ⟨rfl, ?_⟩)); unfold rnum; rw [if_neg (by omega)]))) : p := h
set_option maxHeartbeats 8000000 in
theorem rnumberCt (F : Heap) (s : List UInt8) (hb : s.length ≤ 140737488355328) : Ct Tryz.prog 65 [.string (bs s)] F [] (fun _ _ u => u = .bool (rnum s)) := by
  refine Ct.enter Tryz.func65 rfl Tryz.ntmps65 rfl fun w0 a S => ?_
  (revert S a; refine go00 4 ?_; intro a S)
  (refine wp_seq_k ?_; intro Z hZ)
  replace hZ : ∀ (a' : Act) (w' : World), (∃ (d : List UInt8), rnum s = numB d ∧ d.length ≤ s.length ∧ St 45 [(0, .string (bs d))] w0 F [] F [] a' w') → Z a' w' := (by
   (intro a w hM; refine hZ _ _ ?_; clear hZ Z; clear S; obtain ⟨d, hrd, hdl, S⟩ := hM)
   (revert S a; refine go02 5 ?_; intro Z hZ Z hZ a S)
   refine wpl_guard S rfl rfl rfl rfl rfl ?_ ?_
   · (clear S; intro h S; (try simp only [tq] at h))
     (revert S a; refine go00 7 ?_; intro a S)
     refine wpl_guard S rfl rfl rfl rfl rfl ?_ ?_
     · (clear S; intro h S; (try simp only [tq] at h))
       (revert S a; refine go00 2 ?_; intro a S)
       (refine wpl_v S rfl rfl rfl (sv_indexSN (i := 0) S rfl rfl rfl (by first | omega | (simp only [List.length_drop]; omega) | (have h9 : 0 < s.length := List.length_pos_iff.2 (by assumption); omega) | (have h9 : 0 < d.length := List.length_pos_iff.2 (by assumption); omega))) ?_; clear S a; intro a S)
       (revert S a; revert hZ Z; refine go10 7 ?_; intro a S)
       refine wpc_split S rfl (fun h => ?_) (fun h => ?_)
       · (skip; (try simp only [tq] at h))
         (revert S a; refine go00 4 ?_; intro a S)
         refine wp_ret (fin_ret S (results1 Tryz.results65 (RV.tmp S rfl)) ?_)
         exact zzEwD0
       (skip; (try simp only [tq] at h))
       (revert S a; revert hZ Z; refine go11 8 ?_; intro Z hZ a S)
       refine wpc_loop (fun m a w' => ∃ (k : Nat), m = d.length - k ∧ k ≤ d.length ∧ (∀ j, j < k → digB (d.getD j 0) = true) ∧ St 45 [(0, .string (bs d)), (3, .int .i64 (k : Int))] w0 F [] F [] a w') ?_ ?_
       · (refine ⟨d.length, 0, by omega, Nat.zero_le _, fun j h => absurd h (Nat.not_lt_zero _), ?_⟩; refine S.keep ?_; repeat (first | exact trivial | refine ⟨rfl, ?_⟩))
       (clear S; rintro m a w ⟨k, rfl, hkl, hall, S⟩)
       (revert S a; refine go01 8 ?_; intro Z hZ a S)
       refine wpc_split S rfl (fun h => ?_) (fun h => ?_)
       · (skip; (try simp only [tq] at h))
         (revert S a; revert hZ Z; refine go12 7 ?_; intro Z hZ Z hZ a S)
         first | (refine wpl_v S rfl rfl rfl (sv_indexSN S rfl rfl rfl (by first | omega | (simp only [List.length_drop]; omega) | (have h9 : 0 < s.length := List.length_pos_iff.2 (by assumption); omega) | (have h9 : 0 < d.length := List.length_pos_iff.2 (by assumption); omega))) ?_; clear S a; intro a S) | (refine wpl_v S rfl rfl rfl (sv_indexS S rfl rfl rfl (by first | omega | (simp only [List.length_drop]; omega) | (have h9 : 0 < s.length := List.length_pos_iff.2 (by assumption); omega) | (have h9 : 0 < d.length := List.length_pos_iff.2 (by assumption); omega))) ?_; clear S a; intro a S)
         (revert S a; refine go00 2 ?_; intro a S)
         refine wpl_guard S rfl rfl rfl rfl rfl ?_ ?_
         · (clear S; intro h S; (try simp only [tq] at h))
           (revert S a; refine go00 4 ?_; intro a S)
           first | (refine wpl_v S rfl rfl rfl (sv_indexSN S rfl rfl rfl (by first | omega | (simp only [List.length_drop]; omega) | (have h9 : 0 < s.length := List.length_pos_iff.2 (by assumption); omega) | (have h9 : 0 < d.length := List.length_pos_iff.2 (by assumption); omega))) ?_; clear S a; intro a S) | (refine wpl_v S rfl rfl rfl (sv_indexS S rfl rfl rfl (by first | omega | (simp only [List.length_drop]; omega) | (have h9 : 0 < s.length := List.length_pos_iff.2 (by assumption); omega) | (have h9 : 0 < d.length := List.length_pos_iff.2 (by assumption); omega))) ?_; clear S a; intro a S)
           (revert S a; revert hZ Z; refine go10 5 ?_; intro a S)
           refine wpc_split S rfl (fun h => ?_) (fun h => ?_)
           · (skip; (try simp only [tq] at h))
             (revert S a; refine go00 4 ?_; intro a S)
             refine wp_ret (fin_ret S (results1 Tryz.results65 (RV.tmp S rfl)) ?_)
             exact zzEwD0
           (skip; (try simp only [tq] at h))
           (revert S a; revert hZ Z; refine go10 4 ?_; intro a S)
           (refine wpl_v S rfl rfl rfl (sv_add S rfl rfl rfl (by first | omega | (simp only [List.length_drop]; omega) | (have h9 : 0 < s.length := List.length_pos_iff.2 (by assumption); omega) | (have h9 : 0 < d.length := List.length_pos_iff.2 (by assumption); omega))) ?_; clear S a; intro a S)
           (revert S a; refine go00 2 ?_; intro a S)
           change ∃ m', _ ∧ _
           exact zzEwD1
         (intro h; clear S a; intro a S; (try simp only [tq] at h))
         (revert S a; revert hZ Z; refine go10 6 ?_; intro a S)
         refine wpc_true S rfl ?_
         (revert S a; refine go00 4 ?_; intro a S)
         refine wp_ret (fin_ret S (results1 Tryz.results65 (RV.tmp S rfl)) ?_)
         exact zzEwD0
       (skip; (try simp only [tq] at h))
       (refine wp_exit ?_; conv => whnf)
       clear hZ Z
       (revert S a; revert hZ Z; refine go10 5 ?_; intro a S)
       refine wp_ret (fin_ret S (results1 Tryz.results65 (RV.tmp S rfl)) ?_)
       exact zzEwD0
     (intro h; clear S a; intro a S; (try simp only [tq] at h))
     (revert S a; revert hZ Z; refine go10 7 ?_; intro a S)
     refine wpc_false S rfl ?_
     (revert S a; revert hZ Z; refine go11 8 ?_; intro Z hZ a S)
     refine wpc_loop (fun m a w' => ∃ (k : Nat), m = d.length - k ∧ k ≤ d.length ∧ (∀ j, j < k → digB (d.getD j 0) = true) ∧ St 45 [(0, .string (bs d)), (3, .int .i64 (k : Int))] w0 F [] F [] a w') ?_ ?_
     · (refine ⟨d.length, 0, by omega, Nat.zero_le _, fun j h => absurd h (Nat.not_lt_zero _), ?_⟩; refine S.keep ?_; repeat (first | exact trivial | refine ⟨rfl, ?_⟩))
     (clear S; rintro m a w ⟨k, rfl, hkl, hall, S⟩)
     (revert S a; refine go01 8 ?_; intro Z hZ a S)
     refine wpc_split S rfl (fun h => ?_) (fun h => ?_)
     · (skip; (try simp only [tq] at h))
       (revert S a; revert hZ Z; refine go12 7 ?_; intro Z hZ Z hZ a S)
       first | (refine wpl_v S rfl rfl rfl (sv_indexSN S rfl rfl rfl (by first | omega | (simp only [List.length_drop]; omega) | (have h9 : 0 < s.length := List.length_pos_iff.2 (by assumption); omega) | (have h9 : 0 < d.length := List.length_pos_iff.2 (by assumption); omega))) ?_; clear S a; intro a S) | (refine wpl_v S rfl rfl rfl (sv_indexS S rfl rfl rfl (by first | omega | (simp only [List.length_drop]; omega) | (have h9 : 0 < s.length := List.length_pos_iff.2 (by assumption); omega) | (have h9 : 0 < d.length := List.length_pos_iff.2 (by assumption); omega))) ?_; clear S a; intro a S)
       (revert S a; refine go00 2 ?_; intro a S)
       refine wpl_guard S rfl rfl rfl rfl rfl ?_ ?_
       · (clear S; intro h S; (try simp only [tq] at h))
         (revert S a; refine go00 4 ?_; intro a S)
         first | (refine wpl_v S rfl rfl rfl (sv_indexSN S rfl rfl rfl (by first | omega | (simp only [List.length_drop]; omega) | (have h9 : 0 < s.length := List.length_pos_iff.2 (by assumption); omega) | (have h9 : 0 < d.length := List.length_pos_iff.2 (by assumption); omega))) ?_; clear S a; intro a S) | (refine wpl_v S rfl rfl rfl (sv_indexS S rfl rfl rfl (by first | omega | (simp only [List.length_drop]; omega) | (have h9 : 0 < s.length := List.length_pos_iff.2 (by assumption); omega) | (have h9 : 0 < d.length := List.length_pos_iff.2 (by assumption); omega))) ?_; clear S a; intro a S)
         (revert S a; revert hZ Z; refine go10 5 ?_; intro a S)
         refine wpc_split S rfl (fun h => ?_) (fun h => ?_)
         · (skip; (try simp only [tq] at h))
           (revert S a; refine go00 4 ?_; intro a S)
           refine wp_ret (fin_ret S (results1 Tryz.results65 (RV.tmp S rfl)) ?_)
           exact zzEwD0
         (skip; (try simp only [tq] at h))
         (revert S a; revert hZ Z; refine go10 4 ?_; intro a S)
         (refine wpl_v S rfl rfl rfl (sv_add S rfl rfl rfl (by first | omega | (simp only [List.length_drop]; omega) | (have h9 : 0 < s.length := List.length_pos_iff.2 (by assumption); omega) | (have h9 : 0 < d.length := List.length_pos_iff.2 (by assumption); omega))) ?_; clear S a; intro a S)
         (revert S a; refine go00 2 ?_; intro a S)
         change ∃ m', _ ∧ _
         exact zzEwD1
       (intro h; clear S a; intro a S; (try simp only [tq] at h))
       (revert S a; revert hZ Z; refine go10 6 ?_; intro a S)
       refine wpc_true S rfl ?_
       (revert S a; refine go00 4 ?_; intro a S)
       refine wp_ret (fin_ret S (results1 Tryz.results65 (RV.tmp S rfl)) ?_)
       exact zzEwD0
     (skip; (try simp only [tq] at h))
     (refine wp_exit ?_; conv => whnf)
     clear hZ Z
     (revert S a; revert hZ Z; refine go10 5 ?_; intro a S)
     refine wp_ret (fin_ret S (results1 Tryz.results65 (RV.tmp S rfl)) ?_)
     exact zzEwD0
   (intro h; clear S a; intro a S; (try simp only [tq] at h))
   (revert S a; refine go00 3 ?_; intro a S)
   iterate 3 (refine wpl_skipU S rfl rfl rfl rfl rfl ?_; clear S a; intro a S)
   (revert S a; revert hZ Z; refine go10 4 ?_; intro a S)
   refine wpc_true S rfl ?_
   (revert S a; refine go00 4 ?_; intro a S)
   refine wp_ret (fin_ret S (results1 Tryz.results65 (RV.tmp S rfl)) ?_)
   (congr 1; first | (unfold rnum; rw [if_pos (by omega), if_pos (by omega)]; done) | (rw [hrd]; first | (exact (numB_at (k := k) (by omega) (by omega)).symm) | (exact (numB_no (by rintro ⟨h1, h2⟩; first | omega | exact h1 (by assumption))).symm) | (exact (numB_yes ⟨by assumption, by omega⟩ (fun j hj => hall j (by omega))).symm)) | trace_state))
  (revert S a; refine go01 5 ?_; intro Z hZ a S)
  refine wpl_guard S rfl rfl rfl rfl rfl ?_ ?_
  · (clear S; intro h S; (try simp only [tq] at h))
    (revert S a; refine go00 2 ?_; intro a S)
    (refine wpl_v S rfl rfl rfl (sv_indexSN (i := 0) S rfl rfl rfl (by first | omega | (simp only [List.length_drop]; omega) | (have h9 : 0 < s.length := List.length_pos_iff.2 (by assumption); omega) | (have h9 : 0 < d.length := List.length_pos_iff.2 (by assumption); omega))) ?_; clear S a; intro a S)
    (revert S a; revert hZ Z; refine go10 5 ?_; intro a S)
    refine wpc_split S rfl (fun h => ?_) (fun h => ?_)
    · (skip; (try simp only [tq] at h))
      (revert S a; refine go01 2 ?_; intro Z hZ a S)
      (refine wpl_v S rfl rfl rfl (sv_sliceS_lo S rfl rfl rfl (by first | omega | (simp only [List.length_drop]; omega) | (have h9 : 0 < s.length := List.length_pos_iff.2 (by assumption); omega) | (have h9 : 0 < d.length := List.length_pos_iff.2 (by assumption); omega))) ?_; clear S a; intro a S)
      (rw [show Int.toNat 1 = 1 from rfl] at S)
      (revert S a; revert hZ Z; refine go11 5 ?_; intro Z hZ a S)
      (refine wpl_v S rfl rfl rfl (sv_indexSN (i := 0) S rfl rfl rfl (by first | omega | (simp only [List.length_drop]; omega) | (have h9 : 0 < s.length := List.length_pos_iff.2 (by assumption); omega) | (have h9 : 0 < d.length := List.length_pos_iff.2 (by assumption); omega))) ?_; clear S a; intro a S)
      (revert S a; revert hZ Z; refine go10 3 ?_; intro a S)
      refine wpc_split S rfl (fun h => ?_) (fun h => ?_)
      · (skip; (try simp only [tq] at h))
        (revert S a; refine go00 4 ?_; intro a S)
        refine wp_ret (fin_ret S (results1 Tryz.results65 (RV.tmp S rfl)) ?_)
        exact zzEwD0
      (skip; (try simp only [tq] at h))
      refine wp_skip ?_
      (refine hZ _ _ ?_)
      exact zzEwD2
    (skip; (try simp only [tq] at h))
    refine wp_skip ?_
    (refine hZ _ _ ?_)
    exact zzEwD2
  (intro h; clear S a; intro a S; (try simp only [tq] at h))
  (revert S a; revert hZ Z; refine go10 5 ?_; intro a S)
  refine wpc_false S rfl ?_
  refine wp_skip ?_
  (refine hZ _ _ ?_)
  exact zzEwD2
def dpN : Vf → Nat
  | .nil => 0
  | .cons _ L r => max (dpN L + 1) (dpN r)
theorem dpN_R : ∀ l : Vf, (dpN l : Int) = dpR l
  | .nil => rfl
  | .cons _ L r => by simp only [dpN, dpR, ← dpN_R L, ← dpN_R r]; omega
theorem dpN_size : ∀ l : Vf, dpN l ≤ l.size
  | .nil => Nat.le_refl _
  | .cons _ L r => by have := dpN_size L; have := dpN_size r; simp only [dpN, Rose.size]; omega
theorem dpN_drop {l : Vf} {k : Nat} {x : Vv} (h : l.get? k = some x) : dpN (l.drop k) = max (dpN x.2 + 1) (dpN (l.drop (k + 1))) := by rw [Rose.drop_get h]; rfl
set_option maxHeartbeats 8000000 in
theorem rdepthCt : ∀ (n : Nat) (F : Heap) (x : Vv) (cs : List Value), x.2.size < n → x.2.size ≤ 1000000000 → VaC F cs x.1 x.2 → Ct Tryz.prog 30 [.agg ⟨cs⟩] F [] (fun _ _ u => u = .int .i64 ((dpN x.2 + 1 : Nat) : Int)) := by
  intro n
  induction n with
  | zero => intro F x cs hn; omega
  | succ n ih =>
  intro F x cs hn hz hV
  obtain ⟨⟨xk, xn, xs⟩, xl⟩ := x
  obtain ⟨v1, rfl, ⟨ao, cap, rfl, hcap, hpos⟩, hs1⟩ := hV
  dsimp only at *
  have hdz := dpN_size xl
  refine Ct.enter Tryz.func30 rfl Tryz.ntmps30 rfl fun w0 a S => ?_
  refine wp_sr fun Z hZ => ?_
  (refine wpl_box S rfl rfl rfl rfl rfl ?_; clear S a; intro b1 a w S)
  (revert S a; revert hZ Z; refine go11 13 ?_; intro Z hZ a S)
  refine wpc_loop (fun m a w' => ∃ (k p : Nat), m = xl.len - k ∧ k ≤ xl.len ∧ max p (dpN (xl.drop k)) = dpN xl ∧ St 22 [(1, ptr b1), (3, .int .i64 (p : Int)), (4, .int .i64 (k : Int))] w0 F [] F [[(b1, .cells ⟨[.int .u8 (xk : Int), .int .i64 xn, .string (bs xs), .slice ao xl.len cap]⟩ 26 (0, 0))]] a w') ?_ ?_
  · (refine ⟨xl.len, 0, 0, by omega, Nat.zero_le _, Nat.zero_max _, ?_⟩; refine S.keep ?_; repeat (first | exact trivial | refine ⟨rfl, ?_⟩))
  (clear S; rintro m a w ⟨k, p, rfl, hkl, hfp, S⟩)
  (revert S a; refine go01 9 ?_; intro Z hZ a S)
  refine wpc_split S rfl (fun h => ?_) (fun h => ?_)
  · (skip; (try simp only [tq] at h))
    (revert S a; revert hZ Z; refine go11 4 ?_; intro Z hZ a S)
    (obtain ⟨b8, o8, hao, x, cs1, v1, hx, hc1, hw9, hT1⟩ := TrM.pos hpos (k := k) (by omega); rw [hao] at S; have hxs := Rose.size_get hx; have hT1c := hT1; obtain ⟨a91, c91, rfl, -⟩ := hT1c; have hw9c := hw9.1; subst hw9c; (simp only [List.cons_append, List.nil_append] at hc1))
    (revert S a; refine go00 7 ?_; intro a S)
    (refine wpl_call0 S rfl rfl rfl rfl rfl rfl (ih F x _ (by omega) (by omega) ⟨_, rfl, hT1, hw9.2⟩) rfl ?_; clear S a; intro v a w hv S; subst hv)
    first | (refine wpl_v S rfl rfl rfl (sv_maxN S rfl rfl rfl) ?_; clear S a; intro a S) | (refine wpl_v S rfl rfl rfl (sv_max0 S rfl rfl rfl) ?_; clear S a; intro a S)
    (revert S a; revert hZ Z; refine go10 8 ?_; intro a S)
    change ∃ m', _ ∧ _
    (rw [← hao] at S; refine ⟨xl.len - (k + 1), by omega, k + 1, max p (dpN x.2 + 1), rfl, by omega, ?_, ?_⟩; rotate_left 1; (refine S.keep ?_; repeat (first | exact trivial | refine ⟨rfl, ?_⟩)); rw [← hfp, dpN_drop hx, Nat.max_assoc])
  (skip; (try simp only [tq] at h))
  (refine wp_exit ?_; conv => whnf)
  clear hZ Z
  (revert S a; revert hZ Z; refine go10 7 ?_; intro a S)
  refine wp_ret (fin_ret S (results1 Tryz.results30 (RV.tmp S rfl)) ?_)
  (show Value.int .i64 ((p : Int) + 1) = Value.int .i64 ((dpN xl + 1 : Nat) : Int); rw [← hfp, Rose.drop_len (by omega)]; show _ = Value.int .i64 ((max p 0 + 1 : Nat) : Int); rw [Nat.max_zero]; rfl)
end Go.Proofs.YtigblodhdfnleaaGreatDoor
namespace Go.Proofs.YtigblodhdfnleaaGreatDoor
open Go Go.Wk Go.Un Go.De Go.Num
set_option linter.unusedSimpArgs false
set_option linter.unusedVariables false
attribute [local irreducible] Go.wpList Go.Code.wp Go.wpStill Go.Wk.wpPre Go.bodyPost Go.Calls Go.Wk.Ct Go.Wk.OwnS
attribute [local irreducible] Go.Wk.wpG Go.Wk.wpM

theorem idxB_cons (c d : UInt8) (r : List UInt8) : Lib.indexByte (d :: r) c = if d = c then 0 else if Lib.indexByte r c < 0 then -1 else Lib.indexByte r c + 1 := by
  have hg := Lib.indexByte_ge r c
  show (if (d == c) = true then (0 : Int) else if (Lib.indexByte r c == -1) = true then -1 else Lib.indexByte r c + 1) = _
  by_cases h : d = c
  · rw [if_pos (by simpa using h), if_pos h]
  · rw [if_neg (by simpa using h), if_neg h]
    by_cases h2 : Lib.indexByte r c < 0
    · rw [if_pos h2, if_pos (by simp; omega)]
    · rw [if_neg h2, if_neg (by simp; omega)]
theorem cutI_at : ∀ {s : List UInt8} {k : Nat}, k < s.length → (s.getD k 0).toNat = 46 → (∀ j, j < k → (s.getD j 0).toNat ≠ 46) → cutI s = k
  | [], k, hk, _, _ => absurd hk (Nat.not_lt_zero _)
  | d :: r, 0, _, h, _ => by
    unfold cutI
    rw [idxB_cons, if_pos (UInt8.toNat_inj.1 (show d.toNat = (46 : UInt8).toNat from h))]; rfl
  | d :: r, k + 1, hk, h, hall => by
    have ih := cutI_at (s := r) (k := k) (by simpa using hk) (by simpa using h) (fun j hj => by have := hall (j + 1) (by omega); simpa using this)
    have h0 : d ≠ 46 := fun e => hall 0 (by omega) (by subst e; rfl)
    unfold cutI at ih ⊢
    rw [idxB_cons, if_neg h0, ih, if_neg (by omega)]; rfl
theorem cutI_no : ∀ {s : List UInt8}, (∀ j, j < s.length → (s.getD j 0).toNat ≠ 46) → cutI s = -1
  | [], _ => rfl
  | d :: r, hall => by
    have ih := cutI_no (s := r) (fun j hj => by have := hall (j + 1) (by simpa using hj); simpa using this)
    have h0 : d ≠ 46 := fun e => hall 0 (by simp) (by subst e; rfl)
    unfold cutI at ih ⊢
    rw [idxB_cons, if_neg h0, ih, if_pos (by decide)]
theorem zzEwE0 {p : Prop} (h : p := by (congr 1; unfold rnamesS; first | (rw [if_pos (Or.inl (by assumption))]; done) | (rw [if_pos (Or.inr (by assumption))]; done) | (rw [if_neg (by rintro (h | h); exact absurd h (by assumption); exact absurd h (by assumption)), if_neg (by rw [cutI_no (fun j hj => hall j (by omega))]; decide)]; done) | (rw [if_neg (by rintro (h | h); exact absurd h (by assumption); exact absurd h (by assumption)), if_pos (by omega)]; unfold cutA cutB; rw [if_pos (by omega), if_pos (by omega), hci]; simp_all; done) | trace_state)) : p := h
set_option maxHeartbeats 8000000 in
theorem rnamesCt (F : Heap) (s : List UInt8) (hb : s.length ≤ 140737488355328) : Ct Tryz.prog 66 [.string (bs s)] F [] (fun _ _ u => u = .bool (rnamesS s)) := by
  refine Ct.enter Tryz.func66 rfl Tryz.ntmps66 rfl fun w0 a S => ?_
  (revert S a; refine go02 9 ?_; intro Z hZ Z hZ a S)
  refine wpl_guard S rfl rfl rfl rfl rfl ?_ ?_
  · (clear S; intro h S; (try simp only [tq] at h))
    (revert S a; revert hZ Z; refine go10 6 ?_; intro a S)
    refine wpc_split S rfl (fun h => ?_) (fun h => ?_)
    · (skip; (try simp only [tq] at h))
      (revert S a; refine go00 4 ?_; intro a S)
      refine wp_ret (fin_ret S (results1 Tryz.results66 (RV.tmp S rfl)) ?_)
      exact zzEwE0
    (skip; (try simp only [tq] at h))
    (revert S a; revert hZ Z; refine go11 8 ?_; intro Z hZ a S)
    refine wpc_loop (fun m a w' => ∃ (k : Nat), m = s.length - k ∧ k ≤ s.length ∧ (∀ j, j < k → (s.getD j 0).toNat ≠ 46) ∧ St 33 [(0, .string (bs s)), (3, .int .i64 (k : Int))] w0 F [] F [] a w') ?_ ?_
    · (refine ⟨s.length, 0, by omega, Nat.zero_le _, fun j h => absurd h (Nat.not_lt_zero _), ?_⟩; refine S.keep ?_; repeat (first | exact trivial | refine ⟨rfl, ?_⟩))
    (clear S; rintro m a w ⟨k, rfl, hkl, hall, S⟩)
    (revert S a; refine go01 8 ?_; intro Z hZ a S)
    refine wpc_split S rfl (fun h => ?_) (fun h => ?_)
    · (skip; (try simp only [tq] at h))
      (revert S a; revert hZ Z; refine go12 7 ?_; intro Z hZ Z hZ a S)
      first | (refine wpl_v S rfl rfl rfl (sv_indexSN S rfl rfl rfl (by first | omega | (simp only [List.length_append, List.length_cons, List.length_nil]; omega))) ?_; clear S a; intro a S) | (refine wpl_v S rfl rfl rfl (sv_indexS S rfl rfl rfl (by first | omega | (simp only [List.length_append, List.length_cons, List.length_nil]; omega))) ?_; clear S a; intro a S)
      (revert S a; revert hZ Z; refine go10 3 ?_; intro a S)
      refine wpc_split S rfl (fun h => ?_) (fun h => ?_)
      · (skip; (try simp only [tq] at h))
        (refine wp_seq_k ?_; intro Z hZ)
        (have hci := cutI_at (by omega) (by omega) hall)
        (revert S a; refine go00 3 ?_; intro a S)
        (refine wpl_v S rfl rfl rfl (sv_sliceS_hi S rfl rfl rfl (by first | omega | (simp only [List.length_append, List.length_cons, List.length_nil]; omega))) ?_; clear S a; intro a S)
        (refine wpl_call0 S rfl rfl rfl rfl rfl rfl (rnameCt F _) rfl ?_; clear S a; intro v a w hv S; subst hv)
        (revert S a; refine go00 1 ?_; intro a S)
        refine wpl_guard S rfl rfl rfl rfl rfl ?_ ?_
        · (clear S; intro h S; (try simp only [tq] at h))
          (revert S a; refine go00 6 ?_; intro a S)
          (refine wpl_v S rfl rfl rfl (sv_sliceS_lo S rfl rfl rfl (by first | omega | (simp only [List.length_append, List.length_cons, List.length_nil]; omega))) ?_; clear S a; intro a S)
          refine wpl_take S rfl rfl rfl ?_
          (refine wpl_call0 S rfl rfl rfl rfl rfl rfl (rnameCt F _) rfl ?_; clear S a; intro v a w hv S; subst hv)
          (revert S a; revert hZ Z; refine go10 4 ?_; intro a S)
          refine wp_ret (fin_ret S (results1 Tryz.results66 (RV.tmp S rfl)) ?_)
          exact zzEwE0
        (intro h; clear S a; intro a S; (try simp only [tq] at h))
        (revert S a; revert hZ Z; refine go10 8 ?_; intro a S)
        refine wp_ret (fin_ret S (results1 Tryz.results66 (RV.tmp S rfl)) ?_)
        exact zzEwE0
      (skip; (try simp only [tq] at h))
      (revert S a; revert hZ Z; refine go10 7 ?_; intro a S)
      change ∃ m', _ ∧ _
      (refine ⟨s.length - (k + 1), by omega, k + 1, rfl, by omega, ?_, ?_⟩; rotate_left 1; (refine S.keep ?_; repeat (first | exact trivial | refine ⟨rfl, ?_⟩)); intro j hj; rcases Nat.lt_or_eq_of_le (Nat.le_of_lt_succ hj) with h6 | h6; exact hall j h6; subst h6; omega)
    (skip; (try simp only [tq] at h))
    (refine wp_exit ?_; conv => whnf)
    clear hZ Z
    (revert S a; revert hZ Z; refine go11 3 ?_; intro Z hZ a S)
    (refine wpl_call0 S rfl rfl rfl rfl rfl rfl (rnameCt F _) rfl ?_; clear S a; intro v a w hv S; subst hv)
    (revert S a; revert hZ Z; refine go10 3 ?_; intro a S)
    refine wp_ret (fin_ret S (results1 Tryz.results66 (RV.tmp S rfl)) ?_)
    exact zzEwE0
  (intro h; clear S a; intro a S; (try simp only [tq] at h))
  (revert S a; revert hZ Z; refine go10 4 ?_; intro a S)
  refine wpc_true S rfl ?_
  (revert S a; refine go00 4 ?_; intro a S)
  refine wp_ret (fin_ret S (results1 Tryz.results66 (RV.tmp S rfl)) ?_)
  exact zzEwE0
end Go.Proofs.YtigblodhdfnleaaGreatDoor
