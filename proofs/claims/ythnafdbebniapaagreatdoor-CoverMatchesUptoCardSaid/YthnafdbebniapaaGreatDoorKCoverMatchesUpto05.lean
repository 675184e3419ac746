/- Walks. -/
import Derived.Test.YthnafdbebniapaaGreatDoorKCoverMatchesUpto04
import Derived.Test.YthnafdbebniapaaGreatDoorQ33
import Derived.Test.YthnafdbebniapaaGreatDoorQ13
import Derived.Test.YthnafdbebniapaaGreatDoorQ12
import Derived.Test.YthnafdbebniapaaGreatDoorQ11
import Derived.Test.YthnafdbebniapaaGreatDoorQ10
import Derived.Test.YthnafdbebniapaaGreatDoorQ09
import Derived.Test.YthnafdbebniapaaGreatDoorQ08
import Derived.Test.YthnafdbebniapaaGreatDoorQ06
import Derived.Test.YthnafdbebniapaaGreatDoorQ05
import Derived.Test.YthnafdbebniapaaGreatDoorQ04
import Derived.Test.YthnafdbebniapaaGreatDoorQ03
import Derived.Test.YthnafdbebniapaaGreatDoorQ02
import Derived.Test.YthnafdbebniapaaGreatDoorKCoverMatchesUpto01
import Derived.Test.YthnafdbebniapaaGreatDoorKCoverMatchesUptoTy
import Derived.Test.YthnafdbebniapaaGreatDoorQ24
import Derived.Test.YthnafdbebniapaaGreatDoorQ21
import Derived.Test.YthnafdbebniapaaGreatDoorQ18
import Derived.Test.YthnafdbebniapaaGreatDoorQ17
import Derived.Test.YthnafdbebniapaaGreatDoorQShelf
import Derived.Test.YthnafdbebniapaaGreatDoorQ20
import Derived.Test.YthnafdbebniapaaGreatDoorQ19
import Derived.Test.YthnafdbebniapaaGreatDoorQ14
import Derived.Test.YthnafdbebniapaaGreatDoorQ37
import Derived.Test.YthnafdbebniapaaGreatDoorKCoverMatchesUpto02
set_option maxHeartbeats 16000000
set_option maxRecDepth 20000
namespace Go.Proofs.YthnafdbebniapaaGreatDoor
open Go Go.Wk Go.Un Go.De Go.Cv
set_option linter.unusedSimpArgs false
set_option linter.unusedVariables false
attribute [local irreducible] Go.wpList Go.Code.wp Go.wpStill Go.Wk.wpPre Go.bodyPost Go.Calls Go.Wk.Ct Go.Wk.OwnS Go.Wk.wpG Go.Wk.wpM
theorem zzFtB0 {p : Prop} (h : p := by (congr 1; rw [hfp]; first | (rw [mem_drop hx, decide_eq_true (by assumption), Bool.true_or]; done) | (rw [List.drop_of_length_le (by show 26 ≤ k; omega)]; simp; done) | trace_state)) : p := h
theorem reservedCt (F : Heap) (s : List UInt8) : Ct Tryz.prog 168 [.string (bs s)] F [] (fun _ _ u => u = .bool (decide (s ∈ wordsR))) := by
 refine Ct.enter Tryz.func168 rfl Tryz.ntmps168 rfl fun w0 a S => ?_
 (revert S a; refine go 5 ?_; intro Z hZ a S)
 (refine wpl_buildSlice S rfl rfl rfl rfl rfl rfl (by rfl) (by simp [Value.cells, splice]) rfl (by rfl) (by rfl) ?_; clear S a; intro b5 a w hown S; have hle5 := add_le (G1 := []) S; replace S := St.freeze (G1 := []) S; (simp only [List.nil_append] at S hle5); have hsl : SlC _ _ 26 (strs wordsR) := hown.slC F; generalize hF5 : Heap.add F _ = F5 at *; clear hF5 hown; obtain ⟨_, _, e9, -, hpos⟩ := hsl; cases e9; obtain ⟨_, _, e8, hcs⟩ := hpos (by decide); cases e8)
 (revert S a; revert hZ Z; refine go 9 ?_; intro Z hZ a S)
 refine wpc_loop (fun m a w' => ∃ (k : Nat), m = 26 - k ∧ k ≤ 26 ∧ decide (s ∈ wordsR) = decide (s ∈ wordsR.drop k) ∧ St 18 [(0, .string (bs s)), (3, .slice (some ⟨b5, 0, none⟩) 26 26), (4, .int .i64 (k : Int))] w0 F [] F5 [] a w') ?_ ?_
 ·(refine ⟨26, 0, by omega, Nat.zero_le _, rfl, ?_⟩; refine S.keep ?_; exact zk)
 (clear S; rintro m a w ⟨k, rfl, hkl, hfp, S⟩)
 (revert S a; refine go 8 ?_; intro Z hZ a S)
 refine wpc_sp S rfl ?_ ?_ <;> intro h
 ·(revert S a; revert hZ Z; refine go 4 ?_; intro Z hZ a S)
  (refine wp_seq_k ?_; intro Z hZ)
  (have hx : wordsR[k]? = some (wordsR[k]'(by show k < 26; omega)) := List.getElem?_eq_getElem _; generalize wordsR[k]'_ = x at hx; have hc1 : Cel F5 b5 (0 + k * 1) (.string (bs x)) := (by rw [Nat.mul_one]; exact hcs k _ (strs_at hx)))
  (revert S a; refine go 4 ?_; intro a S)
  (refine wv S (sv_loadF S rfl rfl hc1) ?_; clear S a; intro a S)
  (revert S a; revert hZ Z; refine go 4 ?_; intro a S)
  refine wpc_sp S rfl ?_ ?_ <;> intro h
  ·(revert S a; refine go 4 ?_; intro a S)
   refine wp_ret (fr1 S Tryz.results168 ?_)
   exact zzFtB0
  (revert S a; revert hZ Z; refine go 7 ?_; intro a S)
  change ∃ m', _ ∧ _
  (refine ⟨26 - (k + 1), by omega, k + 1, rfl, by omega, ?_, ?_⟩; rotate_left 1; (refine S.keep ?_; exact zk); (rw [hfp, mem_drop hx, decide_eq_false (by assumption), Bool.false_or]))
 (refine wp_exit ?_; conv => whnf)
 clear hZ Z
 (revert S a; revert hZ Z; refine go 5 ?_; intro a S)
 refine wp_ret (fr1 S Tryz.results168 ?_)
 exact zzFtB0
theorem zzFtB1 {p : Prop} (h : p := by (congr 1; unfold nmS; first | (rw [(by assumption : nameS s = true), Bool.true_and]; done) | (rw [(by assumption : nameS s = false), Bool.false_and]; done) | trace_state)) : p := h
theorem name6Ct (F : Heap) (s : List UInt8) : Ct Tryz.prog 111 [.string (bs s)] F [] (fun _ _ u => u = .bool (nmS s)) := by
 refine Ct.enter Tryz.func111 rfl Tryz.ntmps111 rfl fun w0 a S => ?_
 (revert S a; refine go 6 ?_; intro Z hZ a S)
 (refine wc0 S (rnameCt F s) ?_; clear S a; intro v a w hv S; subst hv)
 (revert S a; refine go 1 ?_; intro a S)
 refine wgd S ?_ ?_
 ·(clear S; intro h S)
  (revert S a; refine go 2 ?_; intro a S)
  (refine wc0 S (reservedCt F s) ?_; clear S a; intro v a w hv S; subst hv)
  (revert S a; revert hZ Z; refine go 6 ?_; intro a S)
  refine wp_ret (fr1 S Tryz.results111 ?_)
  exact zzFtB1
 (clear S a; intro h a S)
 (revert S a; revert hZ Z; refine go 6 ?_; intro a S)
 refine wp_ret (fr1 S Tryz.results111 ?_)
 exact zzFtB1
theorem zzFtB2 {p : Prop} (h : p := by (congr 1; unfold longS cutC; first | (rw [show Go.De.cutA s = s by unfold Go.De.cutA; rw [if_neg (by rw [cutI_no (fun j hj => hall j (by omega))]; decide)], cutI_no (fun j hj => hall j (by omega))]; simp; done) | (unfold Go.De.cutA cutB; rw [if_pos (by omega), if_pos (by omega), hci]; simp_all; done) | trace_state)) : p := h
theorem long6Ct (F : Heap) (s : List UInt8) (hb : s.length ≤ 140737488355328) : Ct Tryz.prog 109 [.string (bs s)] F [] (fun _ _ u => u = .bool (longS s)) := by
 refine Ct.enter Tryz.func109 rfl Tryz.ntmps109 rfl fun w0 a S => ?_
 (revert S a; refine go 10 ?_; intro Z hZ a S)
 refine wpc_loop (fun m a w' => ∃ (k : Nat), m = s.length - k ∧ k ≤ s.length ∧ (∀ j, j < k → (s.getD j 0).toNat ≠ 46) ∧ St 27 [(0, .string (bs s)), (3, .int .i64 (k : Int))] w0 F [] F [] a w') ?_ ?_
 ·(refine ⟨s.length, 0, by omega, Nat.zero_le _, fun j h => absurd h (Nat.not_lt_zero _), ?_⟩; refine S.keep ?_; exact zk)
 (clear S; rintro m a w ⟨k, rfl, hkl, hall, S⟩)
 (revert S a; refine go 8 ?_; intro Z hZ a S)
 refine wpc_sp S rfl ?_ ?_ <;> intro h
 ·(revert S a; revert hZ Z; refine go 7 ?_; intro Z hZ Z hZ a S)
  first | (refine wv S (sv_indexSN S rfl rfl rfl (by first | omega | (simp only [List.length_append, List.length_cons, List.length_nil]; omega))) ?_; clear S a; intro a S) | (refine wv S (sv_indexS S rfl rfl rfl (by first | omega | (simp only [List.length_append, List.length_cons, List.length_nil]; omega))) ?_; clear S a; intro a S)
  (revert S a; revert hZ Z; refine go 3 ?_; intro a S)
  refine wpc_sp S rfl ?_ ?_ <;> intro h
  ·(refine wp_seq_k ?_; intro Z hZ)
   (have hci := cutI_at (by omega) (by omega) hall)
   (revert S a; refine go 3 ?_; intro a S)
   (refine wv S (sv_sliceS_hi S rfl rfl rfl (by first | omega | (simp only [List.length_append, List.length_cons, List.length_nil]; omega))) ?_; clear S a; intro a S)
   (refine wc0 S (name6Ct F _) ?_; clear S a; intro v a w hv S; subst hv)
   (revert S a; refine go 1 ?_; intro a S)
   refine wgd S ?_ ?_
   ·(clear S; intro h S)
    (revert S a; refine go 6 ?_; intro a S)
    (refine wv S (sv_sliceS_lo S rfl rfl rfl (by first | omega | (simp only [List.length_append, List.length_cons, List.length_nil]; omega))) ?_; clear S a; intro a S)
    refine wpl_take S rfl rfl rfl ?_
    (refine wc0 S (name6Ct F _) ?_; clear S a; intro v a w hv S; subst hv)
    (revert S a; revert hZ Z; refine go 4 ?_; intro a S)
    refine wp_ret (fr1 S Tryz.results109 ?_)
    exact zzFtB2
   (clear S a; intro h a S)
   (revert S a; revert hZ Z; refine go 8 ?_; intro a S)
   refine wp_ret (fr1 S Tryz.results109 ?_)
   exact zzFtB2
  (revert S a; revert hZ Z; refine go 7 ?_; intro a S)
  change ∃ m', _ ∧ _
  (refine ⟨s.length - (k + 1), by omega, k + 1, rfl, by omega, ?_, ?_⟩; rotate_left 1; (refine S.keep ?_; exact zk); intro j hj; rcases Nat.lt_or_eq_of_le (Nat.le_of_lt_succ hj) with h6 | h6; exact hall j h6; subst h6; omega)
 (refine wp_exit ?_; conv => whnf)
 clear hZ Z
 (revert S a; revert hZ Z; refine go 3 ?_; intro Z hZ a S)
 (refine wc0 S (name6Ct F _) ?_; clear S a; intro v a w hv S; subst hv)
 (revert S a; revert hZ Z; refine go 3 ?_; intro a S)
 refine wp_ret (fr1 S Tryz.results109 ?_)
 exact zzFtB2
theorem zzFtB3 {p : Prop} (h : p := by (congr 1; first | (exact var_name ⟨by assumption, by omega, by omega, by omega⟩) | (exact (var_not (by rintro ⟨h1, h2, h3, h4⟩; first | omega | exact h1 (by assumption))).symm) | trace_state)) : p := h
theorem var6Ct (F : Heap) (s : List UInt8) (hb : s.length ≤ 140737488355328) : Ct Tryz.prog 108 [.string (bs s)] F [] (fun _ _ u => u = .bool (varS s)) := by
 refine Ct.enter Tryz.func108 rfl Tryz.ntmps108 rfl fun w0 a S => ?_
 (revert S a; refine go 9 ?_; intro Z hZ Z hZ a S)
 refine wgd S ?_ ?_
 ·(clear S; intro h S)
  (revert S a; refine go 7 ?_; intro a S)
  refine wgd S ?_ ?_
  ·(clear S; intro h S)
   (revert S a; refine go 2 ?_; intro a S)
   (refine wv S (sv_indexSN (i := 0) S rfl rfl rfl (by first | omega | (have h9 : 0 < s.length := List.length_pos_iff.2 (by assumption); omega) | (simp only [List.length_append, List.length_cons, List.length_nil, List.length_drop]; omega))) ?_; clear S a; intro a S)
   (revert S a; refine go 4 ?_; intro a S)
   refine wgd S ?_ ?_
   ·(clear S; intro h S)
    (revert S a; refine go 2 ?_; intro a S)
    (refine wv S (sv_indexSN (i := 0) S rfl rfl rfl (by first | omega | (have h9 : 0 < s.length := List.length_pos_iff.2 (by assumption); omega) | (simp only [List.length_append, List.length_cons, List.length_nil, List.length_drop]; omega))) ?_; clear S a; intro a S)
    (revert S a; revert hZ Z; refine go 5 ?_; intro a S)
    refine wpc_sp S rfl ?_ ?_ <;> intro h
    ·(revert S a; refine go 4 ?_; intro a S)
     refine wp_ret (fr1 S Tryz.results108 ?_)
     exact zzFtB3
    (revert S a; revert hZ Z; refine go 4 ?_; intro Z hZ a S)
    (refine wv S (sv_sliceS_lo S rfl rfl rfl (by first | omega | (have h9 : 0 < s.length := List.length_pos_iff.2 (by assumption); omega) | (simp only [List.length_append, List.length_cons, List.length_nil, List.length_drop]; omega))) ?_; clear S a; intro a S)
    (refine wv S (sv_cat S rfl rfl rfl (by first | omega | (have h9 : 0 < s.length := List.length_pos_iff.2 (by assumption); omega) | (simp only [List.length_append, List.length_cons, List.length_nil, List.length_drop]; omega))) ?_; clear S a; intro a S)
    (refine wc0 S (rnameCt F _) ?_; clear S a; intro v a w hv S; subst hv)
    (revert S a; revert hZ Z; refine go 3 ?_; intro a S)
    refine wp_ret (fr1 S Tryz.results108 ?_)
    exact zzFtB3
   (clear S a; intro h a S)
   (revert S a; revert hZ Z; refine go 5 ?_; intro a S)
   refine wpc_true S rfl ?_
   (revert S a; refine go 4 ?_; intro a S)
   refine wp_ret (fr1 S Tryz.results108 ?_)
   exact zzFtB3
  (clear S a; intro h a S)
  (revert S a; revert hZ Z; refine go 10 ?_; intro a S)
  refine wpc_true S rfl ?_
  (revert S a; refine go 4 ?_; intro a S)
  refine wp_ret (fr1 S Tryz.results108 ?_)
  exact zzFtB3
 (clear S a; intro h a S)
 (revert S a; revert hZ Z; refine go 15 ?_; intro a S)
 refine wpc_true S rfl ?_
 (revert S a; refine go 4 ?_; intro a S)
 refine wp_ret (fr1 S Tryz.results108 ?_)
 exact zzFtB3
theorem none6Ct (F : Heap) (h : VH) (L : Vf) (cs : List Value) (hV : VaC F cs h L) : Ct Tryz.prog 112 [.agg ⟨cs⟩] F [] (fun _ _ u => u = .bool (zeroV (h, L))) := by
 have hs := sameCt (L.size + 1) F (h, L) (⟨0, 0, []⟩, .nil) cs _ (Nat.lt_succ_self _) hV ⟨_, rfl, TrS.nil _ _ _, Nat.zero_le _⟩
 rw [zero_same] at hs
 obtain ⟨a1, c1, rfl, -, -⟩ := vac_slc hV
 refine Ct.enter Tryz.func112 rfl Tryz.ntmps112 rfl fun w0 a S => ?_
 refine wp_sr fun Z hZ => ?_
 (refine wbx S ?_; clear S a; intro b1 a w S)
 (revert S a; revert hZ Z; refine go 6 ?_; intro Z hZ a S)
 (refine wc0 S (hs) ?_; clear S a; intro v a w hv S; subst hv)
 (revert S a; revert hZ Z; refine go 3 ?_; intro a S)
 refine wp_ret (fr1 S Tryz.results112 ?_)
 rfl
def dvZ : Vf → Int
 | .nil => 0
 | .cons _ L r => max (IntKind.i64.wrap (dvZ L + 1)) (dvZ r)
theorem dvZ_pos : ∀ l : Vf, 0 ≤ dvZ l
 | .nil => Int.le_refl _
 | .cons h L r => by show 0 ≤ max _ (dvZ r); have := dvZ_pos r; omega
theorem dvZ_drop {l : Vf} {k : Nat} {x : Vv} (h : l.get? k = some x) : dvZ (l.drop k) = max (IntKind.i64.wrap (dvZ x.2 + 1)) (dvZ (l.drop (k + 1))) := by rw [Rose.drop_get h]; rfl
theorem depZCt : ∀ (n : Nat) (F : Heap) (x : Vv) (cs : List Value), x.2.size < n → VaC F cs x.1 x.2 → Ct Tryz.prog 64 [.agg ⟨cs⟩] F [] (fun _ _ u => u = .int .i64 (IntKind.i64.wrap (dvZ x.2 + 1))) := by
 intro n
 induction n with
 | zero => intro F x cs hn; omega
 | succ n ih =>
 intro F x cs hn hV
 obtain ⟨⟨xk, xn, xs⟩, xl⟩ := x
 obtain ⟨v1, rfl, ⟨ao, cap, rfl, hcap, hpos⟩, hs1⟩ := hV
 dsimp only at *
 refine Ct.enter Tryz.func64 rfl Tryz.ntmps64 rfl fun w0 a S => ?_
 refine wp_sr fun Z hZ => ?_
 (refine wbx S ?_; clear S a; intro b1 a w S)
 (revert S a; revert hZ Z; refine go 13 ?_; intro Z hZ a S)
 refine wpc_loop (fun m a w' => ∃ (k : Nat) (p : Int), m = xl.len - k ∧ k ≤ xl.len ∧ max p (dvZ (xl.drop k)) = dvZ xl ∧ 0 ≤ p ∧ St 22 [(1, ptr b1), (3, .int .i64 p), (4, .int .i64 (k : Int))] w0 F [] F [[(b1, .cells ⟨[.int .u8 (xk : Int), .int .i64 xn, .string (bs xs), .slice ao xl.len cap]⟩ 26 (0, 0))]] a w') ?_ ?_
 ·(refine ⟨xl.len, 0, 0, by omega, Nat.zero_le _, (by have := dvZ_pos xl; show max 0 (dvZ xl) = _; omega), Int.le_refl _, ?_⟩; refine S.keep ?_; exact zk)
 (clear S; rintro m a w ⟨k, p, rfl, hkl, hfp, hp0, S⟩)
 (revert S a; refine go 9 ?_; intro Z hZ a S)
 refine wpc_sp S rfl ?_ ?_ <;> intro h
 ·(revert S a; revert hZ Z; refine go 4 ?_; intro Z hZ a S)
  (obtain ⟨b8, o8, hao, x, cs1, v1, hx, hc1, hw9, hT1⟩ := TrM.pos hpos (k := k) (by omega); rw [hao] at S; have hxs := Rose.size_get hx; have hT1c := hT1; obtain ⟨a91, c91, rfl, -⟩ := hT1c; have hw9c := hw9.1; subst hw9c; (simp only [List.cons_append, List.nil_append] at hc1))
  (revert S a; refine go 7 ?_; intro a S)
  (refine wc0 S (ih F x _ (by omega) ⟨_, rfl, hT1, hw9.2⟩) ?_; clear S a; intro v a w hv S; subst hv)
  (refine wv S (sv_maxI S rfl rfl rfl) ?_; clear S a; intro a S)
  (revert S a; revert hZ Z; refine go 8 ?_; intro a S)
  change ∃ m', _ ∧ _
  (rw [← hao] at S; refine ⟨xl.len - (k + 1), by omega, k + 1, max p (IntKind.i64.wrap (dvZ x.2 + 1)), rfl, by omega, ?_, by omega, ?_⟩; rotate_left 1; (refine S.keep ?_; exact zk); rw [← hfp, dvZ_drop hx]; omega)
 (refine wp_exit ?_; conv => whnf)
 clear hZ Z
 (revert S a; revert hZ Z; refine go 3 ?_; intro Z hZ a S)
 (refine wv S (sv_addW S rfl rfl rfl) ?_; clear S a; intro a S)
 (revert S a; revert hZ Z; refine go 3 ?_; intro a S)
 refine wp_ret (fr1 S Tryz.results64 ?_)
 (rw [← hfp, Rose.drop_len (by omega)]; show _ = Value.int .i64 (IntKind.i64.wrap (max p 0 + 1)); rw [show max p 0 = p by omega])
theorem plain_nil {h : VH} {L : Vf} (hk : 1 ≤ h.k ∧ h.k ≤ 4) (hf : rformH h L.len = true) : L = .nil := by
 refine len0 ?_
 have h4 : h.k = 1 ∨ h.k = 2 ∨ h.k = 3 ∨ h.k = 4 := by omega
 rcases h4 with k | k | k | k
 ·rw [rF1 k, decide_eq_true_eq] at hf; exact hf.2.2
 ·rw [rF2 k, decide_eq_true_eq] at hf; exact hf.2
 ·rw [rF3 k, Bool.and_eq_true, decide_eq_true_eq] at hf; exact hf.1.2
 ·rw [rF4 k, decide_eq_true_eq] at hf; exact hf.2
theorem chk_form {h : VH} {L : Vf} (hc : checkV h L = 0) : (rformH h L.len && rformL L) = true ∧ (rfitsH h L.len && rfitsL L) = true := by
 have h1 := rcheck_iff.2 hc
 unfold rcheckV at h1
 split at h1
 ·cases h1
 ·split at h1
  ·cases h1
  ·split at h1
   ·cases h1
   ·rename_i h2 h3
    exact ⟨by simpa using h2, by simpa using h3⟩
theorem chk_of {h : VH} {L : Vf} (hk : 1 ≤ h.k ∧ h.k ≤ 4) (h1 : (rformH h L.len && rformL L) = true) (h2 : (rfitsH h L.len && rfitsL L) = true) : checkV h L = 0 := by
 have h3 := (Bool.and_eq_true _ _).mp h1
 have h4 := plain_nil hk h3.1
 subst h4
 refine rcheck_iff.1 ?_
 unfold rcheckV
 rw [if_neg (by decide), if_neg (by rw [h1]; decide), if_neg (by rw [h2]; decide)]
theorem chk_deep {h : VH} {L : Vf} (hk : 1 ≤ h.k ∧ h.k ≤ 4) (hd : 64 < IntKind.i64.wrap (dvZ L + 1)) : checkV h L ≠ 0 := by
 intro hc
 have h1 := chk_form hc
 have h2 := plain_nil hk ((Bool.and_eq_true _ _).mp h1.1).1
 subst h2
 exact absurd hd (by decide)
theorem zzFtB4 {p : Prop} (h : p := by (refine ⟨_, rfl, ?_⟩; first | (exact ⟨fun h => absurd h (by decide), fun h => absurd h (chk_deep hk (by assumption))⟩) | (exact ⟨fun h => absurd h (by decide), fun h => by have h9 := (chk_form h).1; rw [(by assumption : (rformH x.1 x.2.len && rformL x.2) = false)] at h9; cases h9⟩) | (exact ⟨fun h => absurd h (by decide), fun h => by have h9 := (chk_form h).2; rw [(by assumption : (rfitsH x.1 x.2.len && rfitsL x.2) = false)] at h9; cases h9⟩) | (exact ⟨fun _ => chk_of hk (by assumption) (by assumption), fun _ => rfl⟩) | trace_state)) : p := h
theorem chkPCt (F : Heap) (x : Vv) (cs : List Value) (hk : 1 ≤ x.1.k ∧ x.1.k ≤ 4) (hV : VaC F cs x.1 x.2) : Ct Tryz.prog 39 [.agg ⟨cs⟩] F [] (fun _ _ u => ∃ e : Int, u = .int .i64 e ∧ (e = 0 ↔ checkV x.1 x.2 = 0)) := by
 have hdp := depZCt (x.2.size + 1) F x cs (Nat.lt_succ_self _) hV
 have hfm := rformCt (x.2.size + 1) F x cs (Nat.lt_succ_self _) hV
 have hft := fun h => rfitsCt (x.2.size + 1) F x cs (Nat.lt_succ_self _) h hV
 obtain ⟨a1, c1, rfl, -, -⟩ := vac_slc hV
 refine Ct.enter Tryz.func39 rfl Tryz.ntmps39 rfl fun w0 a S => ?_
 refine wp_sr fun Z hZ => ?_
 (refine wbx S ?_; clear S a; intro b1 a w S)
 (revert S a; revert hZ Z; refine go 6 ?_; intro Z hZ Z hZ a S)
 (refine wc0 S (hdp) ?_; clear S a; intro v a w hv S; subst hv)
 (revert S a; revert hZ Z; refine go 3 ?_; intro a S)
 refine wpc_sp S rfl ?_ ?_ <;> intro h
 ·(revert S a; refine go 4 ?_; intro a S)
  refine wp_ret (fr1 S Tryz.results39 ?_)
  exact zzFtB4
 (revert S a; revert hZ Z; refine go 5 ?_; intro Z hZ Z hZ a S)
 (refine wc0 S (hfm) ?_; clear S a; intro v a w hv S; subst hv)
 (revert S a; revert hZ Z; refine go 3 ?_; intro a S)
 refine wpc_sp S rfl ?_ ?_ <;> intro h
 ·(revert S a; refine go 4 ?_; intro a S)
  refine wp_ret (fr1 S Tryz.results39 ?_)
  exact zzFtB4
 (revert S a; revert hZ Z; refine go 5 ?_; intro Z hZ Z hZ a S)
 (refine wc0 S (hft (by assumption)) ?_; clear S a; intro v a w hv S; subst hv)
 (revert S a; revert hZ Z; refine go 3 ?_; intro a S)
 refine wpc_sp S rfl ?_ ?_ <;> intro h
 ·(revert S a; refine go 4 ?_; intro a S)
  refine wp_ret (fr1 S Tryz.results39 ?_)
  exact zzFtB4
 (revert S a; revert hZ Z; refine go 6 ?_; intro a S)
 refine wp_ret (fr1 S Tryz.results39 ?_)
 exact zzFtB4
def mdQ (h : EH) (n : Nat) : Bool := if h.k = 1 then ((decide (1 ≤ h.v.k ∧ h.v.k ≤ 4) && decide (checkV h.v h.vl = 0)) && decide (n = 0)) && decide (h.nm = []) else midQ h n
theorem mdQ_1 {h : EH} {n : Nat} (e : h.k = 1) : mdQ h n = (((decide (1 ≤ h.v.k ∧ h.v.k ≤ 4) && decide (checkV h.v h.vl = 0)) && decide (n = 0)) && decide (h.nm = [])) := by unfold mdQ; rw [if_pos e]
theorem mdQ_n {h : EH} {n : Nat} (e : ¬ h.k = 1) : mdQ h n = midQ h n := by unfold mdQ; rw [if_neg e]
theorem good_n' {h : EH} {n : Nat} (h1 : ¬ h.k = 1) : goodH h n = (midQ h n && zeroV (h.v, h.vl)) := by
 unfold goodH midQ
 rw [if_neg h1]
theorem good_md {h : EH} {n : Nat} (e : h.k = 1 ∨ zeroV (h.v, h.vl) = true) : goodH h n = mdQ h n := by
 by_cases h1 : h.k = 1
 ·rw [mdQ_1 h1]; unfold goodH; rw [if_pos h1]
 ·rcases e with e | e
  ·exact absurd e h1
  ·rw [mdQ_n h1, good_n' h1, e, Bool.and_true]
theorem good_zn {h : EH} {n : Nat} (h1 : ¬ h.k = 1) (e : zeroV (h.v, h.vl) = false) : goodH h n = false := by rw [good_n' h1, e, Bool.and_false]
theorem goodL_drop {l : Ef} {k : Nat} {x : EH × Ef} (h : l.get? k = some x) : goodL (l.drop k) = ((goodH x.1 x.2.len && goodL x.2) && goodL (l.drop (k + 1))) := by rw [Rose.drop_get h]; rfl
theorem zzFtC0 {p : Prop} (h : p := by (congr 1; first | (rw [good_zn (by omega) (by assumption), Bool.false_and]; done) | (rw [hgm, ← ht, ← hfp]; first | (rw [(by assumption : q = false), Bool.false_and]; done) | (rw [Rose.drop_len (by omega)]; exact (Bool.and_true _).symm)) | trace_state)) : p := h
theorem zzFtC1 {p : Prop} (h : p := by (apply Exists.intro; apply And.intro; rotate_left 1; (first | (refine S.keep ?_; exact zk) | (replace S := S.drop1; refine S.keep ?_; exact zk)); (clear S hZ Z; (first | rw [mdQ_1 (h := eh) (by omega)] | (rw [mdQ_n (h := eh) (by omega)]; first | rw [midQ_2 (h := eh) (by omega)] | rw [midQ_3 (h := eh) (by omega)] | rw [midQ_4 (h := eh) (by omega)] | rw [midQ_5 (h := eh) (by omega)] | rw [midQ_0 (h := eh) (by omega)])); first | done | rfl | (rw [Bool.eq_iff_iff]; simp only [Bool.and_eq_true, decide_eq_true_eq, beq_iff_eq, bne_iff_ne, ne_eq, Bool.false_eq_true, false_iff, not_and]; first | omega | (simp_all; done) | (simp_all; omega) | trace_state)))) : p := h
theorem good6Ct : ∀ (n : Nat) (F : Heap) (eh : EH) (L : Ef) (cs : List Value), L.size < n → BndH eh → BndL L → PxC F cs eh L → Ct Tryz.prog 63 [.agg ⟨cs⟩, .bool true] F [] (fun _ _ u => u = .bool (goodH eh L.len && goodL L)) := by
  intro n
  induction n with
  | zero => intro F h L cs hn; omega
  | succ n ih =>
  intro F eh L cs hn hb hbl hX
  obtain ⟨a1, n1, c1, ao, cap, rfl, hv, hL⟩ := hX
  obtain ⟨_, _, e9, hcap, hpos⟩ := hL
  cases e9
  refine Ct.enter Tryz.func63 rfl Tryz.ntmps63 rfl fun w0 a S => ?_
  refine wp_sr fun Z hZ => ?_
  (refine wbx S ?_; clear S a; intro b2 a w S)
  (revert S a; revert hZ Z; refine go 14 ?_; intro a S)
  (refine wp_seq_k ?_; intro Z hZ)
  replace hZ : ∀ (a' : Act) (w' : World), (∃ (t : Bool), t = mdQ eh L.len ∧ St 151 [(1, .bool true), (2, ptr b2), (5, .bool t), (6, .int .i64 L.len)] w0 F [] F [[(b2, .cells ⟨[.int .u8 (eh.k : Int), .int .i64 eh.l, .int .i64 eh.c, .string (bs eh.nm), .int .u8 (eh.v.k : Int), .int .i64 eh.v.n, .string (bs eh.v.s), .slice a1 n1 c1, .slice ao L.len cap]⟩ 29 (0, 0))]] a' w') → Z a' w' := (by
   (intro a w hM; refine hZ _ _ ?_; clear hZ Z; clear S; obtain ⟨t, ht, S⟩ := hM)
   (refine wp_seq_k ?_; intro Z hZ)
   replace hZ : ∀ (a' : Act) (w' : World), (goodH eh L.len = mdQ eh L.len ∧ St 151 [(1, .bool true), (2, ptr b2), (5, .bool t), (6, .int .i64 L.len)] w0 F [] F [[(b2, .cells ⟨[.int .u8 (eh.k : Int), .int .i64 eh.l, .int .i64 eh.c, .string (bs eh.nm), .int .u8 (eh.v.k : Int), .int .i64 eh.v.n, .string (bs eh.v.s), .slice a1 n1 c1, .slice ao L.len cap]⟩ 29 (0, 0))]] a' w') → Z a' w' := (by
    (intro a w hM; refine hZ _ _ ?_; clear hZ Z; clear S; obtain ⟨hgm, S⟩ := hM)
    (revert S a; refine go 6 ?_; intro Z hZ a S)
    refine wpc_loop (fun m a w' => ∃ (k : Nat) (q : Bool), m = L.len - k ∧ k ≤ L.len ∧ (q && goodL (L.drop k)) = (t && goodL L) ∧ St 151 [(1, .bool true), (2, ptr b2), (5, .bool q), (6, .int .i64 L.len), (8, .int .i64 (k : Int))] w0 F [] F [[(b2, .cells ⟨[.int .u8 (eh.k : Int), .int .i64 eh.l, .int .i64 eh.c, .string (bs eh.nm), .int .u8 (eh.v.k : Int), .int .i64 eh.v.n, .string (bs eh.v.s), .slice a1 n1 c1, .slice ao L.len cap]⟩ 29 (0, 0))]] a w') ?_ ?_
    · (refine ⟨L.len, 0, t, by omega, Nat.zero_le _, rfl, ?_⟩; refine S.keep ?_; exact zk)
    (clear S; rintro m a w ⟨k, q, rfl, hkl, hfp, S⟩)
    (revert S a; refine go 6 ?_; intro Z hZ Z hZ a S)
    refine wgd S ?_ ?_
    · (clear S; intro h S)
      (revert S a; revert hZ Z; refine go 4 ?_; intro a S)
      refine wpc_sp S rfl ?_ ?_ <;> intro h
      · (revert S a; revert hZ Z; refine go 4 ?_; intro Z hZ a S)
        (obtain ⟨b8, o8, hao, x, cs1, u1, hx, hc1, hw9, hT1⟩ := TrM.pos hpos (k := k) (by omega); rw [hao] at S; have hxs := Rose.size_get hx; have hXx := pxc_of hw9 hT1; have hXc := hXx; obtain ⟨a91, n91, c91, a92, c92, exx, -, -⟩ := hXc; rw [exx] at hc1 hXx; have hbx := hbl.get hx)
        (revert S a; refine go 7 ?_; intro a S)
        (refine wc0 S (ih F x.1 x.2 _ (by omega) hbx.1 hbx.2 hXx) ?_; clear S a; intro v a w hv9 S; subst hv9)
        (revert S a; revert hZ Z; refine go 8 ?_; intro a S)
        change ∃ m', _ ∧ _
        (have hq1 : q = true := (by assumption); rw [← hao] at S; refine ⟨L.len - (k + 1), by omega, k + 1, (goodH x.1 x.2.len && goodL x.2), rfl, by omega, ?_, ?_⟩; rotate_left 1; (refine S.keep ?_; exact zk); rw [← hfp, goodL_drop hx, hq1, Bool.true_and])
      (refine wp_exit ?_; conv => whnf)
      clear hZ Z
      (revert S a; revert hZ Z; refine go 6 ?_; intro a S)
      refine wp_ret (fr1 S Tryz.results63 ?_)
      exact zzFtC0
    (clear S a; intro h a S)
    (revert S a; revert hZ Z; refine go 3 ?_; intro a S)
    refine wpc_false S rfl ?_
    (refine wp_exit ?_; conv => whnf)
    clear hZ Z
    (revert S a; revert hZ Z; refine go 6 ?_; intro a S)
    refine wp_ret (fr1 S Tryz.results63 ?_)
    (congr 1; first | (rw [good_zn (by omega) (by assumption), Bool.false_and]; done) | (rw [hgm, ← ht, ← hfp]; first | (rw [(by assumption : q = false), Bool.false_and]; done) | (rw [Rose.drop_len (by omega)]; exact (Bool.and_true _).symm)) | trace_state))
   (revert S a; refine go 5 ?_; intro Z hZ a S)
   refine wgd S ?_ ?_
   · (clear S; intro h S)
     (revert S a; refine go 4 ?_; intro a S)
     (refine wc0 S (none6Ct F eh.v eh.vl _ ⟨_, rfl, hv, hb.2⟩) ?_; clear S a; intro v a w hv9 S; subst hv9)
     (revert S a; revert hZ Z; refine go 5 ?_; intro a S)
     refine wpc_sp S rfl ?_ ?_ <;> intro h
     · (revert S a; refine go 4 ?_; intro a S)
       refine wp_ret (fr1 S Tryz.results63 ?_)
       exact zzFtC0
     refine wp_skip ?_
     (refine hZ _ _ ?_)
     (refine ⟨good_md (by first | (left; omega) | (right; assumption)), ?_⟩; refine S.keep ?_; exact zk)
   (clear S a; intro h a S)
   (revert S a; revert hZ Z; refine go 6 ?_; intro a S)
   refine wpc_false S rfl ?_
   refine wp_skip ?_
   (refine hZ _ _ ?_)
   (refine ⟨good_md (by first | (left; omega) | (right; assumption)), ?_⟩; refine S.keep ?_; exact zk))
  (revert S a; refine go 11 ?_; intro a S)
  refine wpc_sp S rfl ?_ ?_ <;> intro h
  · (revert S a; refine go 3 ?_; intro Z hZ a S)
    (refine wpl_alloc S rfl rfl rfl rfl ?_; clear S a; intro b7 a w S)
    (refine wso S rfl rfl ?_; clear S; intro w S)
    (revert S a; revert hZ Z; refine go 7 ?_; intro a S)
    refine wgd S ?_ ?_
    · (clear S; intro h S)
      (revert S a; refine go 7 ?_; intro a S)
      refine wgd S ?_ ?_
      · (clear S; intro h S)
        (revert S a; refine go 2 ?_; intro a S)
        (refine wc0 S (chkPCt F (eh.v, eh.vl) _ (by dsimp only; omega) ⟨_, rfl, hv, hb.2⟩) ?_; clear S a; intro v28 a w hv9 S; obtain ⟨e9, rfl, he9⟩ := hv9; dsimp only at he9)
        (revert S a; refine go 4 ?_; intro a S)
        refine wgd S ?_ ?_
        · (clear S; intro h S)
          (revert S a; refine go 5 ?_; intro a S)
          refine wgd S ?_ ?_
          · (clear S; intro h S)
            (revert S a; refine go 8 ?_; intro a S)
            (refine hZ _ _ ?_)
            exact zzFtC1
          (clear S a; intro h a S)
          (revert S a; refine go 5 ?_; intro a S)
          (refine hZ _ _ ?_)
          exact zzFtC1
        (clear S a; intro h a S)
        (revert S a; refine go 9 ?_; intro a S)
        (refine hZ _ _ ?_)
        exact zzFtC1
      (clear S a; intro h a S)
      (revert S a; refine go 14 ?_; intro a S)
      (refine hZ _ _ ?_)
      exact zzFtC1
    (clear S a; intro h a S)
    (revert S a; refine go 19 ?_; intro a S)
    (refine hZ _ _ ?_)
    exact zzFtC1
  (revert S a; refine go 5 ?_; intro a S)
  refine wpc_sp S rfl ?_ ?_ <;> intro h
  · (revert S a; refine go 3 ?_; intro a S)
    (refine wc0 S (var6Ct F eh.nm hb.1) ?_; clear S a; intro v a w hv9 S; subst hv9)
    (revert S a; refine go 1 ?_; intro a S)
    refine wgd S ?_ ?_
    · (clear S; intro h S)
      (revert S a; refine go 6 ?_; intro a S)
      (refine hZ _ _ ?_)
      exact zzFtC1
    (clear S a; intro h a S)
    (revert S a; refine go 4 ?_; intro a S)
    (refine hZ _ _ ?_)
    exact zzFtC1
  (revert S a; refine go 5 ?_; intro a S)
  refine wpc_sp S rfl ?_ ?_ <;> intro h
  · (revert S a; refine go 2 ?_; intro a S)
    skip
    (revert S a; refine go 9 ?_; intro a S)
    refine wgd S ?_ ?_
    · (clear S; intro h S)
      (revert S a; refine go 6 ?_; intro a S)
      (refine hZ _ _ ?_)
      exact zzFtC1
    (clear S a; intro h a S)
    (revert S a; refine go 4 ?_; intro a S)
    (refine hZ _ _ ?_)
    exact zzFtC1
  (revert S a; refine go 5 ?_; intro a S)
  refine wpc_sp S rfl ?_ ?_ <;> intro h
  · (revert S a; refine go 5 ?_; intro a S)
    refine wgd S ?_ ?_
    · (clear S; intro h S)
      (revert S a; refine go 5 ?_; intro a S)
      refine wgd S ?_ ?_
      · (clear S; intro h S)
        (revert S a; refine go 6 ?_; intro a S)
        (refine hZ _ _ ?_)
        exact zzFtC1
      (clear S a; intro h a S)
      (revert S a; refine go 4 ?_; intro a S)
      (refine hZ _ _ ?_)
      exact zzFtC1
    (clear S a; intro h a S)
    (revert S a; refine go 8 ?_; intro a S)
    (refine hZ _ _ ?_)
    exact zzFtC1
  (revert S a; refine go 5 ?_; intro a S)
  refine wpc_sp S rfl ?_ ?_ <;> intro h
  · (revert S a; refine go 3 ?_; intro a S)
    (refine wc0 S (long6Ct F eh.nm hb.1) ?_; clear S a; intro v a w hv9 S; subst hv9)
    (revert S a; refine go 1 ?_; intro a S)
    refine wgd S ?_ ?_
    · (clear S; intro h S)
      (revert S a; refine go 6 ?_; intro a S)
      (refine hZ _ _ ?_)
      exact zzFtC1
    (clear S a; intro h a S)
    (revert S a; refine go 4 ?_; intro a S)
    (refine hZ _ _ ?_)
    exact zzFtC1
  (revert S a; refine go 5 ?_; intro a S)
  refine wpc_sp S rfl ?_ ?_ <;> intro h
  · (revert S a; refine go 2 ?_; intro a S)
    skip
    (revert S a; refine go 16 ?_; intro a S)
    (refine hZ _ _ ?_)
    exact zzFtC1
  (revert S a; refine go 5 ?_; intro a S)
  refine wpc_sp S rfl ?_ ?_ <;> intro h
  · (revert S a; refine go 2 ?_; intro a S)
    skip
    (revert S a; refine go 12 ?_; intro a S)
    (refine hZ _ _ ?_)
    exact zzFtC1
  (revert S a; refine go 5 ?_; intro a S)
  refine wpc_sp S rfl ?_ ?_ <;> intro h
  · (revert S a; refine go 2 ?_; intro a S)
    skip
    (revert S a; refine go 12 ?_; intro a S)
    (refine hZ _ _ ?_)
    exact zzFtC1
  refine wp_skip ?_
  (refine hZ _ _ ?_)
  exact zzFtC1
end Go.Proofs.YthnafdbebniapaaGreatDoor
