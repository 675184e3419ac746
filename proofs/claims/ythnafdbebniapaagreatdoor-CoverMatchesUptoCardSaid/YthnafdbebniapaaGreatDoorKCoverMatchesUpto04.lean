/- Walks. -/
import Derived.Test.YthnafdbebniapaaGreatDoorKCoverMatchesUpto03
import Derived.Test.YthnafdbebniapaaGreatDoorQ38
import Derived.Test.YthnafdbebniapaaGreatDoorQ20
import Derived.Test.YthnafdbebniapaaGreatDoorQ17
import Derived.Test.YthnafdbebniapaaGreatDoorQ11
import Derived.Test.YthnafdbebniapaaGreatDoorQ10
import Derived.Test.YthnafdbebniapaaGreatDoorQ09
import Derived.Test.YthnafdbebniapaaGreatDoorQ08
import Derived.Test.YthnafdbebniapaaGreatDoorQ06
import Derived.Test.YthnafdbebniapaaGreatDoorQ05
import Derived.Test.YthnafdbebniapaaGreatDoorQ04
import Derived.Test.YthnafdbebniapaaGreatDoorQ03
import Derived.Test.YthnafdbebniapaaGreatDoorQ02
import Derived.Test.YthnafdbebniapaaGreatDoorKCoverMatchesUpto01
import Derived.Test.YthnafdbebniapaaGreatDoorKCoverMatchesUpto02
set_option maxHeartbeats 16000000
set_option maxRecDepth 20000
namespace Go.Proofs.YthnafdbebniapaaGreatDoor
open Go Go.Wk Go.Un Go.De Go.Cv
set_option linter.unusedSimpArgs false
set_option linter.unusedVariables false
attribute [local irreducible] Go.wpList Go.Code.wp Go.wpStill Go.Wk.wpPre Go.bodyPost Go.Calls Go.Wk.Ct Go.Wk.OwnS Go.Wk.wpG Go.Wk.wpM
theorem rF1 {h : VH} {n : Nat} (k : h.k = 1) : rformH h n = decide ((h.n = 0 ∨ h.n = 1) ∧ h.s = [] ∧ n = 0) := by unfold rformH; rw [if_pos k]
theorem rF2 {h : VH} {n : Nat} (k : h.k = 2) : rformH h n = decide (h.s = [] ∧ n = 0) := by unfold rformH; rw [if_neg (by omega), if_pos k]
theorem rF3 {h : VH} {n : Nat} (k : h.k = 3) : rformH h n = (decide (h.n = 0 ∧ n = 0) && rnum h.s) := by unfold rformH; rw [if_neg (by omega), if_neg (by omega), if_pos k]
theorem rF4 {h : VH} {n : Nat} (k : h.k = 4) : rformH h n = decide (h.n = 0 ∧ n = 0) := by unfold rformH; rw [if_neg (by omega), if_neg (by omega), if_neg (by omega), if_pos k]
theorem rF5 {h : VH} {n : Nat} (k : h.k = 5) : rformH h n = decide (h.n = 0 ∧ h.s = [] ∧ n ≠ 1) := by unfold rformH; rw [if_neg (by omega), if_neg (by omega), if_neg (by omega), if_neg (by omega), if_pos k]
theorem rF6 {h : VH} {n : Nat} (k : h.k = 6) : rformH h n = (decide (h.n = 0) && rnamesS h.s) := by unfold rformH; rw [if_neg (by omega), if_neg (by omega), if_neg (by omega), if_neg (by omega), if_neg (by omega), if_pos k]
theorem rF0 {h : VH} {n : Nat} (k : h.k ≠ 1 ∧ h.k ≠ 2 ∧ h.k ≠ 3 ∧ h.k ≠ 4 ∧ h.k ≠ 5 ∧ h.k ≠ 6) : rformH h n = false := by unfold rformH; rw [if_neg k.1, if_neg k.2.1, if_neg k.2.2.1, if_neg k.2.2.2.1, if_neg k.2.2.2.2.1, if_neg k.2.2.2.2.2]
theorem rformL_drop {l : Vf} {k : Nat} {x : Vv} (h : l.get? k = some x) : rformL (l.drop k) = ((rformH x.1 x.2.len && rformL x.2) && rformL (l.drop (k + 1))) := by rw [Rose.drop_get h]; rfl
theorem rfitsL_drop {l : Vf} {k : Nat} {x : Vv} (h : l.get? k = some x) : rfitsL (l.drop k) = ((rfitsH x.1 x.2.len && rfitsL x.2) && rfitsL (l.drop (k + 1))) := by rw [Rose.drop_get h]; rfl
theorem zzEwF0 {p : Prop} (h : p := by (congr 1; rw [← hfp]; first | (rw [(by assumption : t = false), Bool.false_and]; done) | (rw [Rose.drop_len (by omega)]; exact (Bool.and_true _).symm) | trace_state)) : p := h
theorem zzEwF1 {p : Prop} (h : p := by (apply Exists.intro; apply And.intro; rotate_left 1; (refine S.keep ?_; exact zk); first | (rw [rF0 (show xk ≠ 1 ∧ xk ≠ 2 ∧ xk ≠ 3 ∧ xk ≠ 4 ∧ xk ≠ 5 ∧ xk ≠ 6 by omega)]; done) | (rw [rF1 (show xk = 1 by omega)]; exact (decide_eq_false (fun h9 => by dsimp only at h9; omega)).symm) | (rw [rF1 (show xk = 1 by omega)]; dsimp only; (refine bd ?_; by_cases hxs : xs = []; ((simp only [hxs, beq_iff_eq, bne_iff_ne, ne_eq, true_and, and_true, Bool.false_eq_true]) <;> first | omega | exact absurd hxs (by assumption)); ((simp only [hxs, beq_iff_eq, bne_iff_ne, ne_eq, false_and, and_false, Bool.false_eq_true, iff_false, iff_true]) <;> first | omega | exact absurd (by assumption) hxs)); done) | (rw [rF2 (show xk = 2 by omega)]; exact (decide_eq_false (fun h9 => by dsimp only at h9; omega)).symm) | (rw [rF2 (show xk = 2 by omega)]; dsimp only; (refine bd ?_; by_cases hxs : xs = []; ((simp only [hxs, beq_iff_eq, bne_iff_ne, ne_eq, true_and, and_true, Bool.false_eq_true]) <;> first | omega | exact absurd hxs (by assumption)); ((simp only [hxs, beq_iff_eq, bne_iff_ne, ne_eq, false_and, and_false, Bool.false_eq_true, iff_false, iff_true]) <;> first | omega | exact absurd (by assumption) hxs)); done) | (rw [rF3 (show xk = 3 by omega)]; dsimp only; first | (rw [decide_eq_true (by omega), Bool.true_and]; done) | (rw [decide_eq_false (by omega), Bool.false_and]; done)) | (rw [rF4 (show xk = 4 by omega)]; exact (decide_eq_false (fun h9 => by dsimp only at h9; omega)).symm) | (rw [rF4 (show xk = 4 by omega)]; dsimp only; (refine bd ?_; by_cases hxs : xs = []; ((simp only [hxs, beq_iff_eq, bne_iff_ne, ne_eq, true_and, and_true, Bool.false_eq_true]) <;> first | omega | exact absurd hxs (by assumption)); ((simp only [hxs, beq_iff_eq, bne_iff_ne, ne_eq, false_and, and_false, Bool.false_eq_true, iff_false, iff_true]) <;> first | omega | exact absurd (by assumption) hxs)); done) | (rw [rF5 (show xk = 5 by omega)]; exact (decide_eq_false (fun h9 => by dsimp only at h9; omega)).symm) | (rw [rF5 (show xk = 5 by omega)]; dsimp only; (refine bd ?_; by_cases hxs : xs = []; ((simp only [hxs, beq_iff_eq, bne_iff_ne, ne_eq, true_and, and_true, Bool.false_eq_true]) <;> first | omega | exact absurd hxs (by assumption)); ((simp only [hxs, beq_iff_eq, bne_iff_ne, ne_eq, false_and, and_false, Bool.false_eq_true, iff_false, iff_true]) <;> first | omega | exact absurd (by assumption) hxs)); done) | (rw [rF6 (show xk = 6 by omega)]; dsimp only; first | (rw [decide_eq_true (by omega), Bool.true_and]; done) | (rw [decide_eq_false (by omega), Bool.false_and]; done)) | trace_state)) : p := h
theorem rformCt : ∀ (n : Nat) (F : Heap) (x : Vv) (cs : List Value), x.2.size < n → VaC F cs x.1 x.2 → Ct Tryz.prog 65 [.agg ⟨cs⟩] F [] (fun _ _ u => u = .bool (rformH x.1 x.2.len && rformL x.2)) := by
  intro n
  induction n with
  | zero => intro F x cs hn; omega
  | succ n ih =>
  intro F x cs hn hV
  obtain ⟨⟨xk, xn, xs⟩, xl⟩ := x
  obtain ⟨v1, rfl, ⟨ao, cap, rfl, hcap, hpos⟩, hs1⟩ := hV
  dsimp only at *
  refine Ct.enter Tryz.func65 rfl Tryz.ntmps65 rfl fun w0 a S => ?_
  refine wp_sr fun Z hZ => ?_
  (refine wbx S ?_; clear S a; intro b1 a w S)
  (revert S a; revert hZ Z; refine go 7 ?_; intro a S)
  (refine wp_seq_k ?_; intro Z hZ)
  replace hZ : ∀ (a' : Act) (w' : World), (∃ (t : Bool), t = rformH ⟨xk, xn, xs⟩ xl.len ∧ St 109 [(1, ptr b1), (3, .bool t)] w0 F [] F [[(b1, .cells ⟨[.int .u8 (xk : Int), .int .i64 xn, .string (bs xs), .slice ao xl.len cap]⟩ 26 (0, 0))]] a' w') → Z a' w' := (by
   (intro a w hM; refine hZ _ _ ?_; clear hZ Z; clear S; obtain ⟨t, ht, S⟩ := hM)
   (revert S a; refine go 6 ?_; intro Z hZ a S)
   refine wpc_loop (fun m a w' => ∃ (k : Nat) (t : Bool), m = xl.len - k ∧ k ≤ xl.len ∧ (t && rformL (xl.drop k)) = (rformH ⟨xk, xn, xs⟩ xl.len && rformL xl) ∧ St 109 [(1, ptr b1), (3, .bool t), (4, .int .i64 (k : Int))] w0 F [] F [[(b1, .cells ⟨[.int .u8 (xk : Int), .int .i64 xn, .string (bs xs), .slice ao xl.len cap]⟩ 26 (0, 0))]] a w') ?_ ?_
   · (refine ⟨xl.len, 0, t, by omega, Nat.zero_le _, by rw [ht]; rfl, ?_⟩; refine S.keep ?_; exact zk)
   (clear S; rintro m a w ⟨k, t, rfl, hkl, hfp, S⟩)
   (revert S a; refine go 8 ?_; intro Z hZ Z hZ a S)
   refine wgd S ?_ ?_
   · (clear S; intro h S)
     (revert S a; revert hZ Z; refine go 4 ?_; intro a S)
     refine wpc_sp S rfl ?_ ?_ <;> intro h
     · (revert S a; revert hZ Z; refine go 4 ?_; intro Z hZ a S)
       (obtain ⟨b8, o8, hao, x, cs1, v1, hx, hc1, hw9, hT1⟩ := TrM.pos hpos (k := k) (by omega); rw [hao] at S; have hxs := Rose.size_get hx; have hT1c := hT1; obtain ⟨a91, c91, rfl, -⟩ := hT1c; have hw9c := hw9.1; subst hw9c; (simp only [List.cons_append, List.nil_append] at hc1))
       (revert S a; refine go 6 ?_; intro a S)
       (refine wc0 S (ih F x _ (by omega) ⟨_, rfl, hT1, hw9.2⟩) ?_; clear S a; intro v a w hv S; subst hv)
       (revert S a; revert hZ Z; refine go 8 ?_; intro a S)
       change ∃ m', _ ∧ _
       (have ht1 : t = true := (by assumption); rw [← hao] at S; refine ⟨xl.len - (k + 1), by omega, k + 1, (rformH x.1 x.2.len && rformL x.2), rfl, by omega, ?_, ?_⟩; rotate_left 1; (refine S.keep ?_; exact zk); rw [← hfp, rformL_drop hx, ht1, Bool.true_and])
     (refine wp_exit ?_; conv => whnf)
     clear hZ Z
     (revert S a; revert hZ Z; refine go 6 ?_; intro a S)
     refine wp_ret (fr1 S Tryz.results65 ?_)
     exact zzEwF0
   (clear S a; intro h a S)
   (revert S a; revert hZ Z; refine go 3 ?_; intro a S)
   refine wpc_false S rfl ?_
   (refine wp_exit ?_; conv => whnf)
   clear hZ Z
   (revert S a; revert hZ Z; refine go 6 ?_; intro a S)
   refine wp_ret (fr1 S Tryz.results65 ?_)
   (congr 1; rw [← hfp]; first | (rw [(by assumption : t = false), Bool.false_and]; done) | (rw [Rose.drop_len (by omega)]; exact (Bool.and_true _).symm) | trace_state))
  (revert S a; refine go 11 ?_; intro a S)
  refine wpc_sp S rfl ?_ ?_ <;> intro h
  · (revert S a; refine go 5 ?_; intro a S)
    refine wgd S ?_ ?_
    · (clear S; intro h S)
      (revert S a; refine go 7 ?_; intro a S)
      refine wgd S ?_ ?_
      · (clear S; intro h S)
        (revert S a; refine go 7 ?_; intro a S)
        refine wgd S ?_ ?_
        · (clear S; intro h S)
          (revert S a; refine go 10 ?_; intro a S)
          (refine hZ _ _ ?_)
          exact zzEwF1
        (clear S a; intro h a S)
        (revert S a; refine go 6 ?_; intro a S)
        (refine hZ _ _ ?_)
        exact zzEwF1
      (clear S a; intro h a S)
      (revert S a; refine go 11 ?_; intro a S)
      (refine hZ _ _ ?_)
      exact zzEwF1
    (clear S a; intro h a S)
    (revert S a; refine go 12 ?_; intro a S)
    refine wgd S ?_ ?_
    · (clear S; intro h S)
      (revert S a; refine go 10 ?_; intro a S)
      (refine hZ _ _ ?_)
      exact zzEwF1
    (clear S a; intro h a S)
    (revert S a; refine go 6 ?_; intro a S)
    (refine hZ _ _ ?_)
    exact zzEwF1
  (revert S a; refine go 5 ?_; intro a S)
  refine wpc_sp S rfl ?_ ?_ <;> intro h
  · (revert S a; refine go 5 ?_; intro a S)
    refine wgd S ?_ ?_
    · (clear S; intro h S)
      (revert S a; refine go 10 ?_; intro a S)
      (refine hZ _ _ ?_)
      exact zzEwF1
    (clear S a; intro h a S)
    (revert S a; refine go 6 ?_; intro a S)
    (refine hZ _ _ ?_)
    exact zzEwF1
  (revert S a; refine go 5 ?_; intro a S)
  refine wpc_sp S rfl ?_ ?_ <;> intro h
  · (revert S a; refine go 5 ?_; intro a S)
    refine wgd S ?_ ?_
    · (clear S; intro h S)
      (revert S a; refine go 9 ?_; intro a S)
      refine wgd S ?_ ?_
      · (clear S; intro h S)
        (revert S a; refine go 4 ?_; intro a S)
        (refine wc0 S (rnumberCt F xs hs1) ?_; clear S a; intro v a w hv S; subst hv)
        (revert S a; refine go 3 ?_; intro a S)
        (refine hZ _ _ ?_)
        exact zzEwF1
      (clear S a; intro h a S)
      (revert S a; refine go 5 ?_; intro a S)
      (refine hZ _ _ ?_)
      exact zzEwF1
    (clear S a; intro h a S)
    (revert S a; refine go 11 ?_; intro a S)
    (refine hZ _ _ ?_)
    exact zzEwF1
  (revert S a; refine go 5 ?_; intro a S)
  refine wpc_sp S rfl ?_ ?_ <;> intro h
  · (revert S a; refine go 5 ?_; intro a S)
    refine wgd S ?_ ?_
    · (clear S; intro h S)
      (revert S a; refine go 10 ?_; intro a S)
      (refine hZ _ _ ?_)
      exact zzEwF1
    (clear S a; intro h a S)
    (revert S a; refine go 6 ?_; intro a S)
    (refine hZ _ _ ?_)
    exact zzEwF1
  (revert S a; refine go 5 ?_; intro a S)
  refine wpc_sp S rfl ?_ ?_ <;> intro h
  · (revert S a; refine go 5 ?_; intro a S)
    refine wgd S ?_ ?_
    · (clear S; intro h S)
      (revert S a; refine go 7 ?_; intro a S)
      refine wgd S ?_ ?_
      · (clear S; intro h S)
        (revert S a; refine go 10 ?_; intro a S)
        (refine hZ _ _ ?_)
        exact zzEwF1
      (clear S a; intro h a S)
      (revert S a; refine go 6 ?_; intro a S)
      (refine hZ _ _ ?_)
      exact zzEwF1
    (clear S a; intro h a S)
    (revert S a; refine go 11 ?_; intro a S)
    (refine hZ _ _ ?_)
    exact zzEwF1
  (revert S a; refine go 5 ?_; intro a S)
  refine wpc_sp S rfl ?_ ?_ <;> intro h
  · (revert S a; refine go 5 ?_; intro a S)
    refine wgd S ?_ ?_
    · (clear S; intro h S)
      (revert S a; refine go 4 ?_; intro a S)
      (refine wc0 S (r2namesCt F xs hs1) ?_; clear S a; intro v a w hv S; subst hv)
      (revert S a; refine go 3 ?_; intro a S)
      (refine hZ _ _ ?_)
      exact zzEwF1
    (clear S a; intro h a S)
    (revert S a; refine go 5 ?_; intro a S)
    (refine hZ _ _ ?_)
    exact zzEwF1
  refine wp_skip ?_
  (refine hZ _ _ ?_)
  exact zzEwF1
theorem rG3 {h : VH} {n : Nat} (k : h.k = 3) : rfitsH h n = decide (rdig h.s ≤ 200) := by unfold rfitsH; rw [if_pos k]
theorem rG4 {h : VH} {n : Nat} (k : h.k = 4) : rfitsH h n = decide (h.s.length ≤ 4096) := by unfold rfitsH; rw [if_neg (by omega), if_pos k]
theorem rG5 {h : VH} {n : Nat} (k : h.k = 5) : rfitsH h n = decide (n ≤ 16) := by unfold rfitsH; rw [if_neg (by omega), if_neg (by omega), if_pos k]
theorem rG6 {h : VH} {n : Nat} (k : h.k = 6) : rfitsH h n = decide (n ≤ 8) := by unfold rfitsH; rw [if_neg (by omega), if_neg (by omega), if_neg (by omega), if_pos k]
theorem rG0 {h : VH} {n : Nat} (k : h.k ≠ 3 ∧ h.k ≠ 4 ∧ h.k ≠ 5 ∧ h.k ≠ 6) : rfitsH h n = true := by unfold rfitsH; rw [if_neg k.1, if_neg k.2.1, if_neg k.2.2.1, if_neg k.2.2.2]
theorem rnum_ne {s : List UInt8} (h : rnum s = true) : s ≠ [] := by
 rintro rfl
 exact absurd h (by decide)
theorem rformL_get : ∀ {l : Vf} {k : Nat} {x : Vv}, rformL l = true → l.get? k = some x → (rformH x.1 x.2.len && rformL x.2) = true
 | .cons h L r, 0, x, hf, e => by
  cases e
  unfold rformL at hf
  rw [Bool.and_eq_true] at hf
  exact hf.1
 | .cons h L r, k + 1, x, hf, e => by
  unfold rformL at hf
  rw [Bool.and_eq_true] at hf
  exact rformL_get (l := r) hf.2 e
theorem zzEwF2 {p : Prop} (h : p := by (apply Exists.intro; apply And.intro; rotate_left 1; (refine S.keep ?_; exact zk); first | (rw [rG0 (show xk ≠ 3 ∧ xk ≠ 4 ∧ xk ≠ 5 ∧ xk ≠ 6 by omega)]; done) | (rw [rG3 (show xk = 3 by omega)]; done) | (rw [rG4 (show xk = 4 by omega)]; (try dsimp only); exact decide_eq_decide.2 (by omega)) | (rw [rG5 (show xk = 5 by omega)]; (try dsimp only); exact decide_eq_decide.2 (by omega)) | (rw [rG6 (show xk = 6 by omega)]; (try dsimp only); exact decide_eq_decide.2 (by omega)) | trace_state)) : p := h
theorem rfitsCt : ∀ (n : Nat) (F : Heap) (x : Vv) (cs : List Value), x.2.size < n → (rformH x.1 x.2.len && rformL x.2) = true → VaC F cs x.1 x.2 → Ct Tryz.prog 66 [.agg ⟨cs⟩] F [] (fun _ _ u => u = .bool (rfitsH x.1 x.2.len && rfitsL x.2)) := by
  intro n
  induction n with
  | zero => intro F x cs hn; omega
  | succ n ih =>
  intro F x cs hn hf hV
  obtain ⟨⟨xk, xn, xs⟩, xl⟩ := x
  obtain ⟨v1, rfl, ⟨ao, cap, rfl, hcap, hpos⟩, hs1⟩ := hV
  dsimp only at *
  rw [Bool.and_eq_true] at hf
  have hne : xk = 3 → xs ≠ [] := fun h3 => by
    have h1 := hf.1
    rw [rF3 h3, Bool.and_eq_true] at h1
    exact rnum_ne h1.2
  refine Ct.enter Tryz.func66 rfl Tryz.ntmps66 rfl fun w0 a S => ?_
  refine wp_sr fun Z hZ => ?_
  (refine wbx S ?_; clear S a; intro b1 a w S)
  (revert S a; revert hZ Z; refine go 7 ?_; intro a S)
  (refine wp_seq_k ?_; intro Z hZ)
  replace hZ : ∀ (a' : Act) (w' : World), (∃ (t : Bool), t = rfitsH ⟨xk, xn, xs⟩ xl.len ∧ St 48 [(1, ptr b1), (3, .bool t)] w0 F [] F [[(b1, .cells ⟨[.int .u8 (xk : Int), .int .i64 xn, .string (bs xs), .slice ao xl.len cap]⟩ 26 (0, 0))]] a' w') → Z a' w' := (by
   (intro a w hM; refine hZ _ _ ?_; clear hZ Z; clear S; obtain ⟨t, ht, S⟩ := hM)
   (revert S a; refine go 6 ?_; intro Z hZ a S)
   refine wpc_loop (fun m a w' => ∃ (k : Nat) (t : Bool), m = xl.len - k ∧ k ≤ xl.len ∧ (t && rfitsL (xl.drop k)) = (rfitsH ⟨xk, xn, xs⟩ xl.len && rfitsL xl) ∧ St 48 [(1, ptr b1), (3, .bool t), (4, .int .i64 (k : Int))] w0 F [] F [[(b1, .cells ⟨[.int .u8 (xk : Int), .int .i64 xn, .string (bs xs), .slice ao xl.len cap]⟩ 26 (0, 0))]] a w') ?_ ?_
   · (refine ⟨xl.len, 0, t, by omega, Nat.zero_le _, by rw [ht]; rfl, ?_⟩; refine S.keep ?_; exact zk)
   (clear S; rintro m a w ⟨k, t, rfl, hkl, hfp, S⟩)
   (revert S a; refine go 8 ?_; intro Z hZ Z hZ a S)
   refine wgd S ?_ ?_
   · (clear S; intro h S)
     (revert S a; revert hZ Z; refine go 4 ?_; intro a S)
     refine wpc_sp S rfl ?_ ?_ <;> intro h
     · (revert S a; revert hZ Z; refine go 4 ?_; intro Z hZ a S)
       (obtain ⟨b8, o8, hao, x, cs1, v1, hx, hc1, hw9, hT1⟩ := TrM.pos hpos (k := k) (by omega); rw [hao] at S; have hxs := Rose.size_get hx; have hT1c := hT1; obtain ⟨a91, c91, rfl, -⟩ := hT1c; have hw9c := hw9.1; subst hw9c; (simp only [List.cons_append, List.nil_append] at hc1))
       (revert S a; refine go 6 ?_; intro a S)
       (refine wc0 S (ih F x _ (by omega) (rformL_get hf.2 hx) ⟨_, rfl, hT1, hw9.2⟩) ?_; clear S a; intro v a w hv S; subst hv)
       (revert S a; revert hZ Z; refine go 8 ?_; intro a S)
       change ∃ m', _ ∧ _
       (have ht1 : t = true := (by assumption); rw [← hao] at S; refine ⟨xl.len - (k + 1), by omega, k + 1, (rfitsH x.1 x.2.len && rfitsL x.2), rfl, by omega, ?_, ?_⟩; rotate_left 1; (refine S.keep ?_; exact zk); rw [← hfp, rfitsL_drop hx, ht1, Bool.true_and])
     (refine wp_exit ?_; conv => whnf)
     clear hZ Z
     (revert S a; revert hZ Z; refine go 6 ?_; intro a S)
     refine wp_ret (fr1 S Tryz.results66 ?_)
     exact zzEwF0
   (clear S a; intro h a S)
   (revert S a; revert hZ Z; refine go 3 ?_; intro a S)
   refine wpc_false S rfl ?_
   (refine wp_exit ?_; conv => whnf)
   clear hZ Z
   (revert S a; revert hZ Z; refine go 6 ?_; intro a S)
   refine wp_ret (fr1 S Tryz.results66 ?_)
   (congr 1; rw [← hfp]; first | (rw [(by assumption : t = false), Bool.false_and]; done) | (rw [Rose.drop_len (by omega)]; exact (Bool.and_true _).symm) | trace_state))
  (revert S a; refine go 11 ?_; intro a S)
  refine wpc_sp S rfl ?_ ?_ <;> intro h
  · (revert S a; refine go 3 ?_; intro a S)
    (refine wc0 S (rdigitsCt F xs (hne (by omega)) hs1) ?_; clear S a; intro v a w hv S; subst hv)
    (revert S a; refine go 3 ?_; intro a S)
    (refine hZ _ _ ?_)
    exact zzEwF2
  (revert S a; refine go 5 ?_; intro a S)
  refine wpc_sp S rfl ?_ ?_ <;> intro h
  · (revert S a; refine go 7 ?_; intro a S)
    (refine hZ _ _ ?_)
    exact zzEwF2
  (revert S a; refine go 5 ?_; intro a S)
  refine wpc_sp S rfl ?_ ?_ <;> intro h
  · (revert S a; refine go 7 ?_; intro a S)
    (refine hZ _ _ ?_)
    exact zzEwF2
  (revert S a; refine go 5 ?_; intro a S)
  refine wpc_sp S rfl ?_ ?_ <;> intro h
  · (revert S a; refine go 7 ?_; intro a S)
    (refine hZ _ _ ?_)
    exact zzEwF2
  refine wp_skip ?_
  (refine hZ _ _ ?_)
  exact zzEwF2
theorem dpR_of : ∀ (l : Vf) (n m : Int), 0 ≤ n → depV l n m < m → dpR l ≤ depV l n m
 | .nil, n, m, hn, _ => hn
 | .cons h L r, n, m, hn, hd => by
  rw [depV_cons] at hd ⊢
  by_cases hm : m ≤ n
  ·rw [if_pos hm] at hd; omega
  ·rw [if_neg hm] at hd ⊢
   have h1 := dpR_of r _ m (by omega) hd
   have h2 := (depV_bd r (max n (depV L 0 (m - 1) + 1)) m (by omega)).1
   have h3 := dpR_of L 0 (m - 1) (Int.le_refl _) (by omega)
   show max (dpR L + 1) (dpR r) ≤ _
   omega
theorem dig_of {c : UInt8} (h : digS.contains c = true) : digB c = true := by
 have : c = 48 ∨ c = 49 ∨ c = 50 ∨ c = 51 ∨ c = 52 ∨ c = 53 ∨ c = 54 ∨ c = 55 ∨ c = 56 ∨ c = 57 := by simpa [digS] using h
 rcases this with rfl | rfl | rfl | rfl | rfl | rfl | rfl | rfl | rfl | rfl <;> decide
theorem dropW_nil {α : Type} {p : α → Bool} : ∀ {l : List α}, l.dropWhile p = [] → ∀ x ∈ l, p x = true
 | [], _, x, hx => by cases hx
 | y :: r, h, x, hx => by
  rw [List.dropWhile_cons] at h
  split at h
  ·rename_i hy
   rcases List.mem_cons.1 hx with rfl | hx
   ·exact hy
   ·exact dropW_nil h x hx
  ·cases h
theorem dropW_head {α : Type} {p : α → Bool} : ∀ {l : List α} {y : α} {r : List α}, l.dropWhile p = y :: r → p y = false
 | [], y, r, h => by cases h
 | z :: l, y, r, h => by
  rw [List.dropWhile_cons] at h
  split at h
  ·exact dropW_head h
  ·rename_i hz
   cases h
   simpa using hz
theorem all_trim {d : List UInt8} (h : Lib.trimS d digS = []) : d.all digB = true := by
 have h2 : ∀ x ∈ d.reverse, digS.contains x = true := by
  cases hr : d.reverse.dropWhile (digS.contains ·) with
  | nil => exact dropW_nil hr
  | cons y r =>
   exfalso
   have h1 : (y :: r).reverse.dropWhile (digS.contains ·) = [] := by rw [← hr]; exact h
   have h3 := dropW_nil h1 y (by simp)
   have h4 := dropW_head hr
   rw [h3] at h4
   cases h4
 rw [List.all_eq_true]
 exact fun x hx => dig_of (h2 x (List.mem_reverse.2 hx))
theorem rnum_of {s : List UInt8} (h : numOK s = true) : rnum s = true := by
 unfold numOK at h
 simp only [Bool.not_eq_true', Bool.or_eq_false_iff, Bool.and_eq_false_iff, decide_eq_false_iff_not, ne_eq, Classical.not_not] at h
 obtain ⟨⟨h1, h2⟩, h3⟩ := h
 have h4 := all_trim h2
 rw [numD_of] at h1 h3 h4
 unfold rnum
 by_cases hd : s.take 1 = [45]
 ·rw [if_pos hd] at h1 h3 h4
  have hl : 1 < s.length := by
   have : 0 < (s.drop 1).length := List.length_pos_iff.2 h1
   rw [List.length_drop] at this; omega
  have hz : ¬ ((s.drop 1).getD 0 0).toNat = 48 := by
   rcases h3 with h3 | h3
   ·exact h3
   ·rw [h3] at hl; exact absurd hl (by decide)
  rw [if_pos ⟨hl, dash.2 hd⟩, if_neg hz]
  unfold numB
  rw [h4, decide_eq_true ⟨h1, fun h9 => hz h9.2⟩]; rfl
 ·rw [if_neg hd] at h1 h3 h4
  rw [if_neg fun h9 => hd (dash.1 h9.2)]
  unfold numB
  rw [h4, decide_eq_true (p := s ≠ [] ∧ ¬ (1 < s.length ∧ (s.getD 0 0).toNat = 48)) ⟨h1, fun h9 => ?_⟩]; · rfl
  rcases h3 with h3 | h3
  ·exact h3 h9.2
  ·rw [h3] at h9; exact absurd h9.1 (by decide)
theorem rnum_eq {s : List UInt8} : rnum s = numOK s := by
 rw [Bool.eq_iff_iff]; exact ⟨fun h => (rnum_ok h).1, rnum_of⟩
theorem rnames_eq (s : List UInt8) : rnamesS s = (nameS (Go.De.cutA s) && ((cutC s && nameS (cutB s)) || (!cutC s && decide (s ≠ sTrue ∧ s ≠ sFalse)))) := by
 rw [Bool.eq_iff_iff]
 refine ⟨rnames_ok, fun h => ?_⟩
 rw [Bool.and_eq_true] at h
 obtain ⟨h1, h2⟩ := h
 unfold rnamesS
 by_cases hc : 0 ≤ cutI s
 ·have hcc : cutC s = true := decide_eq_true hc
  rw [hcc] at h2
  have h3 : nameS (cutB s) = true := by simpa using h2
  rw [if_neg, if_pos hc, h1, h3]; · rfl
  rintro (rfl | rfl) <;> exact absurd hc (by decide)
 ·have hcc : cutC s = false := decide_eq_false hc
  rw [hcc] at h2
  have h3 : s ≠ sTrue ∧ s ≠ sFalse := by simpa using h2
  rw [if_neg (by rintro (h | h); exact h3.1 h; exact h3.2 h), if_neg hc]
  unfold Go.De.cutA at h1
  rwa [if_neg hc] at h1
theorem rformH_eq (h : VH) (n : Nat) : rformH h n = formH h n := by
 unfold rformH formH
 rw [rnum_eq, rnames_eq, Bool.and_comm (numOK h.s)]
theorem rdig_eq {s : List UInt8} (h : numOK s = true) : rdig s = numN s := (rnum_ok (rnum_of h)).2
theorem rfitsH_eq {h : VH} {n : Nat} (hf : formH h n = true) : rfitsH h n = fitsH h n := by
 unfold rfitsH fitsH
 by_cases k3 : h.k = 3
 ·rw [if_pos k3, if_pos k3]
  unfold formH at hf
  rw [if_neg (by omega), if_neg (by omega), if_pos k3, Bool.and_eq_true] at hf
  rw [rdig_eq hf.1]
 ·rw [if_neg k3, if_neg k3]
theorem rformL_eq : ∀ l : Vf, rformL l = formL l
 | .nil => rfl
 | .cons h L r => by
  show ((rformH h L.len && rformL L) && rformL r) = _
  rw [rformH_eq, rformL_eq L, rformL_eq r, formL_cons]
theorem rfitsL_eq : ∀ l : Vf, formL l = true → rfitsL l = fitsL l
 | .nil, _ => rfl
 | .cons h L r, hf => by
  rw [formL_cons, Bool.and_eq_true, Bool.and_eq_true] at hf
  show ((rfitsH h L.len && rfitsL L) && rfitsL r) = _
  rw [rfitsH_eq hf.1.1, rfitsL_eq L hf.1.2, rfitsL_eq r hf.2, fitsL_cons]
theorem rcheck_iff {h : VH} {L : Vf} : rcheckV h L = 0 ↔ checkV h L = 0 := by
 refine ⟨rcheck_ok, fun hc => ?_⟩
 obtain ⟨h1, h2, h3⟩ := check_parts hc
 have h4 := dpR_of L 0 65 (Int.le_refl _) (by omega)
 rw [Bool.and_eq_true] at h2
 unfold rcheckV
 rw [if_neg (by omega), rformH_eq, rformL_eq, rfitsH_eq h2.1, rfitsL_eq L h2.2, h2.1, h2.2, h3, if_neg (by decide), if_neg (by decide)]
theorem var_name {s : List UInt8} (h : s ≠ [] ∧ s.length ≤ 32 ∧ 65 ≤ (s.getD 0 0).toNat ∧ (s.getD 0 0).toNat ≤ 90) : nameS (97 :: s.drop 1) = varS s := by
 unfold nameS varS
 rw [decide_eq_true h]
 cases s with
 | nil => exact absurd rfl h.1
 | cons c r =>
  have hc : nameN c.toNat = true := by
   have h1 := h.2.2
   simp only [List.getD_cons_zero] at h1
   unfold nameN
   rw [decide_eq_true_eq]; omega
  have hl := h.2.1
  rw [List.drop_one, List.tail_cons, decide_eq_true ⟨by simp, by simpa using hl, (show 97 ≤ (97 : UInt8).toNat by decide), (show (97 : UInt8).toNat ≤ 122 by decide)⟩, List.all_cons, List.all_cons, hc]
  rfl
theorem var_not {s : List UInt8} (h : ¬ (s ≠ [] ∧ s.length ≤ 32 ∧ 65 ≤ (s.getD 0 0).toNat ∧ (s.getD 0 0).toNat ≤ 90)) : varS s = false := by
 unfold varS; rw [decide_eq_false h, Bool.false_and]
theorem zero_same (x : Vv) : sameV x (⟨0, 0, []⟩, .nil) = zeroV x := by
 obtain ⟨⟨k, n, s⟩, L⟩ := x
 rw [Bool.eq_iff_iff, sameV_iff]
 unfold zeroV
 rw [decide_eq_true_eq]
 constructor
 ·intro h; cases h; exact ⟨rfl, rfl, rfl, rfl⟩
 ·rintro ⟨h1, h2, h3, h4⟩
  dsimp only at h1 h2 h3 h4
  subst h1; subst h2; subst h3
  rw [len0 h4]
end Go.Proofs.YthnafdbebniapaaGreatDoor
