/- Walks. -/
import Derived.Lib.ItoaLen
import Derived.Lib.AppendIntMem
import Derived.Test.YthnafdbebniapaaGreatDoorQ26
import Derived.Test.YthnafdbebniapaaGreatDoorQ19
import Derived.Test.YthnafdbebniapaaGreatDoorQ21
import Derived.Test.YthnafdbebniapaaGreatDoorQ12
import Derived.Test.YthnafdbebniapaaGreatDoorQShelf
import Derived.Test.YthnafdbebniapaaGreatDoorQ20
import Derived.Test.YthnafdbebniapaaGreatDoorQTy
set_option maxHeartbeats 8000000
namespace Go.Proofs.YthnafdbebniapaaGreatDoor
open Go Go.Wk Go.Un Go.De Go.Cv
set_option linter.unusedSimpArgs false
set_option linter.unusedVariables false
attribute [local irreducible] Go.wpList Go.Code.wp Go.wpStill Go.Wk.wpPre Go.bodyPost Go.Calls Go.Wk.Ct Go.Wk.OwnS Go.Wk.wpG Go.Wk.wpM
def TabF (F : Heap) : Prop := ∀ w : World, (∀ b o, F b = some o → w.heap[b]? = some o) → Lib.TabIs Tryz.prog w "internal/strconv.uint64pow10" .u64 Lib.pow10Tab
theorem TabF.mono {F F' : Heap} (h : TabF F) (hF : ∀ b o, F b = some o → F' b = some o) : TabF F' := fun w hw => h w fun b o hb => hw b o (hF b o hb)
theorem fmtICt (n : Int) (F : Heap) (hT : TabF F) (h0 : -9223372036854775808 ≤ n ∧ n ≤ 9223372036854775807) : Ct Tryz.prog 199 [.int .i64 n, .int .i64 10] F [] (fun _ _ u => u = .string (bs (Lib.itoa n))) := by
 refine ct_of_below fun w hw => ?_
 refine (Tryz.strconv_FormatInt_10 n h0.1 h0.2 w (hT w hw.frz)).mono fun e w' ⟨h1, k, os, h2⟩ => ⟨?_, ?_⟩
 ·rw [h1]; rfl
 ·rw [h2]; exact Lib.below_grow _ w (Nat.le_refl _) k os
theorem itoa_pos (n : Int) : 0 < (Lib.itoa n).length := by
 unfold Lib.itoa
 split
 ·simp
 ·rw [Lib.decDigits_length]; exact Lib.nDigits_pos _
def boolS (c : Bool) : List UInt8 := if c = true then sTrue else sFalse
theorem fmtB0Ct (F : Heap) (c : Bool) : Ct Tryz.prog 230 [.bool c] F [] (fun _ _ u => u = .string (bs (boolS c))) := by
 refine Ct.enter Tryz.func230 rfl Tryz.ntmps230 rfl fun w0 a S => ?_
 (revert S a; refine go 9 ?_; intro Z hZ a S)
 refine wpc_sp S rfl ?_ ?_ <;> intro h
 ·(revert S a; refine go 4 ?_; intro a S)
  refine wp_ret (fr1 S Tryz.results230 ?_)
  (have e9 : c = _ := (by assumption); subst e9; rfl)
 (revert S a; revert hZ Z; refine go 6 ?_; intro a S)
 refine wp_ret (fr1 S Tryz.results230 ?_)
 (have e9 : c = _ := (by assumption); subst e9; rfl)
theorem fmtBCt (F : Heap) (c : Bool) : Ct Tryz.prog 198 [.bool c] F [] (fun _ _ u => u = .string (bs (boolS c))) := by
 have h1 := fmtB0Ct F c
 refine Ct.enter Tryz.func198 rfl Tryz.ntmps198 rfl fun w0 a S => ?_
 (revert S a; refine go 6 ?_; intro Z hZ a S)
 (refine wc0 S (h1) ?_; clear S a; intro v a w hv S; subst hv)
 (revert S a; revert hZ Z; refine go 3 ?_; intro a S)
 refine wp_ret (fr1 S Tryz.results198 ?_)
 rfl
def showV (v : VH) : List UInt8 := if v.k = 1 then boolS (decide (v.n = 1)) else if v.k = 2 then Lib.itoa v.n else if v.k = 3 then v.s ++ [98] else quoteS v.s
structure PlV (v : VH) (L : Vf) : Prop where
  k : 1 ≤ v.k ∧ v.k ≤ 4
  may : checkV v L = 0
  n : -9223372036854775808 ≤ v.n ∧ v.n ≤ 9223372036854775807
theorem PlV.s {v : VH} {L : Vf} (h : PlV v L) : v.s.length ≤ 100000 ∧ (v.k = 3 → 0 < v.s.length) := by
 have hm := h.may
 unfold checkV at hm
 split at hm
 ·cases hm
 ·split at hm
  ·cases hm
  ·split at hm
   ·cases hm
   ·rename_i h1 h2 h3
    rw [Bool.not_eq_false, Bool.and_eq_true] at h2 h3
    have h4 := h2.1
    have h5 := h3.1
    have hk := h.k
    unfold formH at h4
    unfold fitsH at h5
    by_cases k1 : v.k = 1
    ·rw [if_pos k1, decide_eq_true_eq] at h4
     rw [h4.2.1]; exact ⟨Nat.zero_le _, fun h => by omega⟩
    ·by_cases k2 : v.k = 2
     ·rw [if_neg k1, if_pos k2, decide_eq_true_eq] at h4
      rw [h4.1]; exact ⟨Nat.zero_le _, fun h => by omega⟩
     ·by_cases k3 : v.k = 3
      ·rw [if_neg k1, if_neg k2, if_pos k3, Bool.and_eq_true] at h4
       rw [if_pos k3, decide_eq_true_eq] at h5
       have hn := h4.1
       unfold numN at h5
       rw [if_pos hn] at h5
       unfold numOK at hn
       simp only [Bool.not_eq_true', Bool.or_eq_false_iff, decide_eq_false_iff_not] at hn
       have h6 : v.s.length ≤ (numD v.s).length + 1 := by
        unfold numD Lib.trimPrefix
        split
        ·simp; omega
        ·omega
       refine ⟨by omega, fun _ => ?_⟩
       cases hs : v.s with
       | nil => exact absurd (by rw [hs]; decide) hn.1.1
       | cons a r => simp
      ·rw [if_neg k3, if_pos (by omega), decide_eq_true_eq] at h5
       exact ⟨by omega, fun h => absurd h k3⟩
theorem beq1 (n : Int) : (n == 1) = decide (n = 1) := by rw [Bool.eq_iff_iff, beq_iff_eq, decide_eq_true_eq]
theorem show2Ct (F : Heap) (hT : TabF F) (b b5 : Nat) (p v : Value) (l : List UInt8) (g : Grp) (hbd : BdO b l p v g) (hk : l.length ≤ 1000) (vh : VH) (L : Vf) (cs : List Value) (hV : VaC F cs vh L) (hp : PlV vh L) :
  Ct Tryz.prog 197 ([] ++ [.agg ⟨cs⟩] ++ [.pointer (some ⟨b, 0, none⟩), .pointer (some ⟨b5, 0, none⟩)]) F [g, bldG b p v] (fun _ G' _ => ∃ p' v' g', G' = [g', bldG b p' v'] ∧ BdO b (l ++ showV vh) p' v' g') := by
 obtain ⟨x, rfl, ⟨ao, cap, rfl, hcap, -⟩, -⟩ := hV
 have hs := hp.s
 have hk4 := hp.k
 refine Ct.enter Tryz.func197 rfl Tryz.ntmps197 rfl fun w0 a S => ?_
 refine wp_sr fun Z hZ => ?_
 (refine wbx S ?_; clear S a; intro b3 a w S)
 (revert S a; revert hZ Z; refine go 13 ?_; intro a S)
 refine wpc_sp S rfl ?_ ?_ <;> intro h
 ·(revert S a; refine go 4 ?_; intro a S)
  (refine wc0 S (fmtBCt F _) ?_; clear S a; intro v9 a w hv S; subst hv)
  (replace S := S.drop1; refine wpl_callOwn (Gs := [g, bldG b p v]) (Gr := []) S rfl rfl rfl rfl rfl rfl (wsCt b p v l _ g F hbd (by omega) (by unfold boolS; split <;> decide) (by unfold boolS; split <;> decide)) rfl (by simp) ?_; clear S a; intro u G1 a w hv1 S; obtain ⟨p1, v1, g1, rfl, hown⟩ := hv1; (simp only [List.append_nil] at S))
  refine wpList_nil ?_
  refine fin_end S (results0 Tryz.results197) ?_
  (refine ⟨_, _, _, rfl, hown.cast ?_⟩; unfold showV; first | (rw [if_pos (by omega), ← beq1]; done) | (rw [if_neg (by omega), if_pos (by omega)]; done) | (rw [if_neg (by omega), if_neg (by omega), if_pos (by omega), List.append_assoc]; done) | (rw [if_neg (by omega), if_neg (by omega), if_neg (by omega)]; done) | trace_state)
 (revert S a; refine go 5 ?_; intro a S)
 refine wpc_sp S rfl ?_ ?_ <;> intro h
 ·(revert S a; refine go 3 ?_; intro a S)
  (refine wc0 S (fmtICt vh.n F hT hp.n) ?_; clear S a; intro v9 a w hv S; subst hv)
  (replace S := S.drop1; refine wpl_callOwn (Gs := [g, bldG b p v]) (Gr := []) S rfl rfl rfl rfl rfl rfl (wsCt b p v l _ g F hbd (by omega) (by have := Lib.itoa_length_le vh.n hp.n.1 hp.n.2; omega) (itoa_pos _)) rfl (by simp) ?_; clear S a; intro u G1 a w hv1 S; obtain ⟨p1, v1, g1, rfl, hown⟩ := hv1; (simp only [List.append_nil] at S))
  refine wpList_nil ?_
  refine fin_end S (results0 Tryz.results197) ?_
  (refine ⟨_, _, _, rfl, hown.cast ?_⟩; unfold showV; first | (rw [if_pos (by omega), ← beq1]; done) | (rw [if_neg (by omega), if_pos (by omega)]; done) | (rw [if_neg (by omega), if_neg (by omega), if_pos (by omega), List.append_assoc]; done) | (rw [if_neg (by omega), if_neg (by omega), if_neg (by omega)]; done) | trace_state)
 (revert S a; refine go 5 ?_; intro a S)
 refine wpc_sp S rfl ?_ ?_ <;> intro h
 ·(revert S a; refine go 3 ?_; intro Z hZ a S)
  (replace S := S.drop1; refine wpl_callOwn (Gs := [g, bldG b p v]) (Gr := []) S rfl rfl rfl rfl rfl rfl (wsCt b p v l vh.s g F hbd (by omega) (by omega) (hs.2 (by omega))) rfl (by simp) ?_; clear S a; intro u G1 a w hv1 S; obtain ⟨p1, v1, g1, rfl, hown⟩ := hv1; (simp only [List.append_nil] at S))
  (revert S a; revert hZ Z; refine go 3 ?_; intro a S)
  (refine wpl_callOwn (Gs := [g1, bldG b p1 v1]) (Gr := []) S rfl rfl rfl rfl rfl rfl (wbCt b p1 v1 _ (98) g1 F hown (by simp only [List.length_append]; omega)) rfl (by simp) ?_; clear S a hown; intro u G1 a w hv1 S; obtain ⟨p1, v1, g1, rfl, hown⟩ := hv1; (simp only [List.append_nil] at S))
  refine wpList_nil ?_
  refine fin_end S (results0 Tryz.results197) ?_
  (refine ⟨_, _, _, rfl, hown.cast ?_⟩; unfold showV; first | (rw [if_pos (by omega), ← beq1]; done) | (rw [if_neg (by omega), if_pos (by omega)]; done) | (rw [if_neg (by omega), if_neg (by omega), if_pos (by omega), List.append_assoc]; done) | (rw [if_neg (by omega), if_neg (by omega), if_neg (by omega)]; done) | trace_state)
 (revert S a; refine go 5 ?_; intro a S)
 refine wpc_split S rfl (fun h => ?_) (fun h => ?_)
 ·(skip; (try simp only [tq] at h))
  (revert S a; refine go 3 ?_; intro a S)
  (replace S := S.drop1; refine wpl_callOwn (Gs := [g, bldG b p v]) (Gr := []) S rfl rfl rfl rfl rfl rfl (quoteCt b p v l vh.s g F hbd (by omega) (by omega)) rfl (by simp) ?_; clear S a; intro u G1 a w hv1 S; obtain ⟨p1, v1, g1, rfl, hown⟩ := hv1; (simp only [List.append_nil] at S))
  refine wpList_nil ?_
  refine fin_end S (results0 Tryz.results197) ?_
  (refine ⟨_, _, _, rfl, hown.cast ?_⟩; unfold showV; first | (rw [if_pos (by omega), ← beq1]; done) | (rw [if_neg (by omega), if_pos (by omega)]; done) | (rw [if_neg (by omega), if_neg (by omega), if_pos (by omega), List.append_assoc]; done) | (rw [if_neg (by omega), if_neg (by omega), if_neg (by omega)]; done) | trace_state)
 (skip; (try simp only [tq] at h); (exfalso; omega))
theorem boolS_len (c : Bool) : 0 < (boolS c).length ∧ (boolS c).length ≤ 5 := by unfold boolS; split <;> decide
theorem showV_len {v : VH} {L : Vf} (h : PlV v L) : 0 < (showV v).length ∧ (showV v).length ≤ 1000000 := by
 have hs := h.s
 unfold showV
 split
 ·have := boolS_len (decide (v.n = 1)); omega
 ·split
  ·have := Lib.itoa_length_le v.n h.n.1 h.n.2; have := itoa_pos v.n; omega
  ·split
   ·simp only [List.length_append, List.length_cons, List.length_nil]; omega
   ·have := esc_len v.s; unfold quoteS; simp only [List.length_append, List.length_cons, List.length_nil]; omega
theorem showCt (F : Heap) (hT : TabF F) (vh : VH) (L : Vf) (cs : List Value) (hV : VaC F cs vh L) (hp : PlV vh L) : Ct Tryz.prog 149 [.agg ⟨cs⟩] F [] (fun _ _ u => u = .string (bs (showV vh))) := by
 have hV0 := hV
 obtain ⟨x, rfl, ⟨ao, cap, rfl, hcap, -⟩, -⟩ := hV
 have hl := showV_len hp
 refine Ct.enter Tryz.func149 rfl Tryz.ntmps149 rfl fun w0 a S => ?_
 refine wp_sr fun Z hZ => ?_
 (refine wbx S ?_; clear S a; intro b1 a w S)
 (revert S a; revert hZ Z; refine go 6 ?_; intro Z hZ Z hZ a S)
 (refine wc0 S (checkUCt F vh L _ hV0) ?_; clear S a; intro v a w hv S; subst hv)
 (refine wv S (sv_lit (c := false) (sv_pure S rfl) (by rw [hp.may]; rfl)) ?_; clear S a; intro a S)
 (revert S a; revert hZ Z; refine go 2 ?_; intro a S)
 refine wpc_false S rfl ?_
 (revert S a; revert hZ Z; refine go 3 ?_; intro Z hZ a S)
 (refine wpl_alloc S rfl rfl rfl rfl ?_; clear S a; intro b3 a w S)
 (revert S a; revert hZ Z; refine go 3 ?_; intro Z hZ a S)
 (refine wpl_alloc S rfl rfl rfl rfl ?_; clear S a; intro b4 a w S)
 (revert S a; revert hZ Z; refine go 4 ?_; intro Z hZ a S)
 (refine wpl_alloc S rfl rfl rfl rfl ?_; clear S a; intro b5 a w S)
 (refine wpl_store1 S rfl rfl rfl rfl rfl rfl (by first | (simp; done) | (simp [Value.cells]; done) | exact Nat.le_of_ble_eq_true rfl) ?_; clear S; intro w S)
 (revert S a; revert hZ Z; refine go 4 ?_; intro Z hZ a S)
 (refine wpl_store1 S rfl rfl rfl rfl rfl rfl (by first | (simp; done) | (simp [Value.cells]; done) | exact Nat.le_of_ble_eq_true rfl) ?_; clear S; intro w S)
 (revert S a; revert hZ Z; refine go 5 ?_; intro Z hZ a S)
 (replace S := St.pullB b3 S; replace S := S.nilg; refine wpl_callOwn (Gs := [[], bldG b3 (.pointer none) (.slice none 0 0)]) S rfl rfl rfl rfl rfl rfl (show2Ct F hT b3 b5 (.pointer none) (.slice none 0 0) [] [] ⟨.inl rfl, OwnS.nil _ _⟩ (Nat.zero_le _) vh L _ hV0 hp) rfl permHead ?_; clear S a; intro u G1 a w hv1 S; obtain ⟨p1, v1, g1, rfl, hbd⟩ := hv1; (simp only [List.cons_append, List.nil_append] at S hbd))
 (revert S a; revert hZ Z; refine go 3 ?_; intro Z hZ a S)
 (refine wpl_callOwn (Gs := [g1, bldG b3 p1 v1]) S rfl rfl rfl rfl rfl rfl (bldStringCt b3 p1 v1 (showV vh) g1 F (by omega) (fun h9 => by rw [h9] at hl; exact absurd hl.1 (by decide)) hbd.2) rfl permHead ?_; clear S a; intro u9 G9 a w hv S; subst hv)
 (revert S a; revert hZ Z; refine go 3 ?_; intro a S)
 refine wp_ret (fr1 S Tryz.results149 ?_)
 rfl
def PlE (h : EH) : Prop := h.k = 1 → PlV h.v h.vl
def hdV : Option (List UInt8) → Value
 | none => .tuple ⟨[.string (bs []), .bool false]⟩
 | some s => .tuple ⟨[.string (bs s), .bool true]⟩
theorem hd_1 {h : EH} (h1 : h.k = 1) : hdO showV h = some (showV h.v) := by unfold hdO; rw [if_pos h1]
theorem hd_5 {h : EH} (h1 : h.k = 5) : hdO showV h = some h.nm := by unfold hdO; rw [if_neg (by omega), if_pos h1]
theorem hd_4 {h : EH} (h1 : h.k = 4) : hdO showV h = some sUnit := by unfold hdO; rw [if_neg (by omega), if_neg (by omega), if_pos h1]
theorem hd_0 {h : EH} (h1 : ¬ h.k = 1) (h2 : ¬ h.k = 5) (h3 : ¬ h.k = 4) : hdO showV h = none := by unfold hdO; rw [if_neg h1, if_neg h2, if_neg h3]
theorem zzCs0 {p : Prop} (h : p := by (first | (rw [hd_1 (by omega)]; rfl) | (rw [hd_5 (by omega)]; rfl) | (rw [hd_4 (by omega)]; rfl) | (rw [hd_0 (by omega) (by omega) (by omega)]; rfl) | trace_state)) : p := h
theorem headCt (F : Heap) (hT : TabF F) (eh : EH) (L : Ef) (cs : List Value) (hX : PxC F cs eh L) (hb : eh.v.s.length ≤ 140737488355328) (hp : PlE eh) : Ct Tryz.prog 98 [.agg ⟨cs⟩] F [] (fun _ _ u => u = hdV (hdO showV eh)) := by
 obtain ⟨a1, n1, c1, ao, cap, rfl, hv, -⟩ := hX
 refine Ct.enter Tryz.func98 rfl Tryz.ntmps98 rfl fun w0 a S => ?_
 refine wp_sr fun Z hZ => ?_
 (refine wbx S ?_; clear S a; intro b1 a w S)
 (revert S a; revert hZ Z; refine go 16 ?_; intro Z hZ a S)
 refine wpc_sp S rfl ?_ ?_ <;> intro h
 ·(revert S a; refine go 3 ?_; intro Z hZ a S)
  (refine wc0 S (showCt F hT eh.v eh.vl _ ⟨_, rfl, hv, hb⟩ (hp (by omega))) ?_; clear S a; intro v a w hv S; subst hv)
  (revert S a; revert hZ Z; refine go 4 ?_; intro a S)
  refine wp_ret (fr2 S Tryz.results98 ?_)
  exact zzCs0
 (revert S a; refine go 5 ?_; intro a S)
 refine wpc_sp S rfl ?_ ?_ <;> intro h
 ·(revert S a; refine go 7 ?_; intro a S)
  refine wp_ret (fr2 S Tryz.results98 ?_)
  exact zzCs0
 (revert S a; refine go 5 ?_; intro a S)
 refine wpc_sp S rfl ?_ ?_ <;> intro h
 ·(revert S a; refine go 5 ?_; intro a S)
  refine wp_ret (fr2 S Tryz.results98 ?_)
  exact zzCs0
 (revert S a; revert hZ Z; refine go 7 ?_; intro a S)
 refine wp_ret (fr2 S Tryz.results98 ?_)
 exact zzCs0
theorem lim_drop {α : Type} {F : Heap} {sz i : Nat} {R : Heap → α → List Value → Prop} {ao : Option Addr} {m c : Nat} {l : List α} (h : LiM F sz R (.slice ao m c) l) (hi : i ≤ l.length) : LiM F sz R (.slice (cutA ao i c sz) (m - i) (c - i)) (l.drop i) := by
 obtain ⟨_, _, e, h1, h2⟩ := h
 cases e
 refine ⟨cutA ao i c sz, c - i, by rw [List.length_drop], ⟨by rw [List.length_drop]; omega, by rw [List.length_drop]; omega⟩, fun hp => ?_⟩
 rw [List.length_drop] at hp
 obtain ⟨b, o, rfl, h3⟩ := h2 (by omega)
 refine ⟨b, o + i * sz, cutA_pos (by omega) h1.1, fun k x hx => ?_⟩
 rw [List.getElem?_drop] at hx
 obtain ⟨cs, h4, h5, h6⟩ := h3 (i + k) x hx
 exact ⟨cs, by rw [show o + i * sz + k * sz = o + (i + k) * sz by rw [Nat.add_mul]; omega]; exact h4, h5, h6⟩
theorem lim_flatK {α : Type} {F : Heap} {sz : Nat} {R : Heap → α → List Value → Prop} {ao : Option Addr} {m c : Nat} {l : List α} (h : LiM F sz R (.slice ao m c) l) : ∃ xs, LiC F sz R xs l ∧ (0 < m → ∃ b o, ao = some ⟨b, o, none⟩ ∧ Cels F b o xs) := by
 have hm : m = l.length := by obtain ⟨_, _, e, _⟩ := h; cases e; rfl
 obtain ⟨ax, cx, ys, hye, hys, hyp⟩ := h.flat
 simp only [Value.slice.injEq] at hye
 obtain ⟨rfl, -, -⟩ := hye
 exact ⟨ys, hys, by rw [hm]; exact hyp⟩
theorem kids_app {α : Type} : ∀ l m : Rose α, kids (appR l m) = kids l ++ kids m
 | .nil, m => rfl
 | .cons a L r, m => by show (a, L) :: kids (appR r m) = _; rw [kids_app r m]; rfl
theorem kids_anys (r : Ef) : ∀ n, kids (anys n r) = List.replicate n (anyE, .nil) ++ kids r
 | 0 => rfl
 | n + 1 => by show (anyE, .nil) :: kids (anys n r) = _; rw [kids_anys r n]; rfl
def anyCs : List Value := [.int .u8 3, .int .i64 0, .int .i64 0, .string (bs []), .int .u8 0, .int .i64 0, .string (bs []), .slice none 0 0, .slice none 0 0]
def anyC (n : Nat) : List Value := (List.replicate n anyCs).flatten
theorem anyC_len (n : Nat) : (anyC n).length = n * 9 := by
 unfold anyC
 induction n with
 | zero => rfl
 | succ n ih => rw [List.replicate_succ, List.flatten_cons, List.length_append, ih, Nat.add_mul]; show 9 + _ = _; omega
theorem anyC_succ (n : Nat) : anyC (n + 1) = anyC n ++ anyCs := by
 unfold anyC
 rw [List.replicate_succ', List.flatten_append]
 simp
theorem any_st {i : Nat} {zs : List Value} (h : 9 ≤ zs.length) : (anyC i ++ zs).take (0 + i * 9) ++ anyCs ++ (anyC i ++ zs).drop (0 + i * 9 + 9) = anyC (i + 1) ++ zs.drop 9 := by
 have hl := anyC_len i
 rw [Nat.zero_add, List.take_left' hl, ← List.drop_drop, List.drop_left' hl, anyC_succ]
theorem anyC_lic (F : Heap) : ∀ n, LiC F 9 (RoR 9 EhR) (anyC n) (List.replicate n (anyE, .nil))
 | 0 => rfl
 | n + 1 => by
  unfold anyC
  rw [List.replicate_succ, List.replicate_succ, List.flatten_cons]
  exact ⟨anyCs, _, rfl, rfl, ⟨_, _, rfl, rfl, ⟨_, rfl, TrS.nil _ _ _⟩, TrS.nil _ _ _⟩, anyC_lic F n⟩
def AsQ (F' : Heap) (G' : List Grp) (u : Value) (r : Ef × Bool) : Prop := ∃ (v : Value) (g : Grp) (xs : List Value), u = .tuple ⟨[v, .bool r.2]⟩ ∧ G' = [g] ∧ OwnS 29 9 v (kids r.1).length xs g ∧ LiC F' 9 (RoR 9 EhR) xs (kids r.1)
def hdN : Option (List UInt8) → List UInt8
 | none => []
 | some s => s
theorem hdV_eq (o : Option (List UInt8)) : hdV o = .tuple ⟨[.string (bs (hdN o)), .bool o.isSome]⟩ := by cases o <;> rfl
theorem of_some {o : Option (List UInt8)} (h : o.isSome = true) : o = some (hdN o) := by cases o with | none => cases h | some s => rfl
theorem of_none {o : Option (List UInt8)} (h : o.isSome = false) : o = none := by cases o with | none => rfl | some s => cases h
theorem as_q0 {F' : Heap} {g : Grp} {v : Value} {xs : List Value} {nm : List UInt8} {fo : Fo} {eh : EH} {A r : Ef} (h : hdO showV eh = none) (hown : OwnS 29 9 v (fo.len + (r.len + 1 - 1)) xs g) (hx : LiC F' 9 (RoR 9 EhR) xs (List.replicate fo.len (anyE, .nil) ++ kids r)) :
  AsQ F' [g] (.tuple #[v, .bool true]) (asR showV (⟨nm, tysOf fo⟩ : Frm Ty) (.cons eh A r)) := by
 rw [as_none h]
 refine ⟨v, g, xs, rfl, rfl, ?_, ?_⟩
 ·rw [kids_anys, tysOf_len, List.length_append, List.length_replicate, kids_len]; exact hown
 ·rw [kids_anys, tysOf_len]; exact hx
theorem as_q1 {F' : Heap} {g : Grp} {v : Value} {xs : List Value} {nm s : List UInt8} {fo : Fo} {eh : EH} {A r : Ef} (h : hdO showV eh = some s) (hown : OwnS 29 9 v [kids A, kids r].flatten.length xs g) (hx : LiC F' 9 (RoR 9 EhR) xs [kids A, kids r].flatten) :
  AsQ F' [g] (.tuple #[v, .bool (s == nm)]) (asR showV (⟨nm, tysOf fo⟩ : Frm Ty) (.cons eh A r)) := by
 have e : [kids A, kids r].flatten = kids (appR A r) := by rw [kids_app]; simp
 rw [e] at hown hx
 rw [as_some h]
 refine ⟨v, g, xs, ?_, rfl, hown, hx⟩
 have : (s == nm) = decide (s = nm) := by rw [Bool.eq_iff_iff, beq_iff_eq, decide_eq_true_eq]
 rw [this]
theorem zzCs1 {p : Prop} (h : p := by (first | exact as_q0 (of_none (by assumption)) hown (LiC.app (anyC_lic _ _) hys) | exact as_q1 (of_some (by assumption)) hown hx50 | trace_state)) : p := h
theorem asCt (F : Heap) (hT : TabF F) (v : Value) (eh : EH) (A r : Ef) (hv : TrS F 9 EhR v (.cons eh A r)) (nm : List UInt8) (vt : Value) (fo : Fo) (hvt : SlF F vt fo) (hb : BndH eh) (hp : PlE eh) (hlen : fo.len + r.len + A.len ≤ 1000000000) :
  Ct Tryz.prog 95 [v, .agg ⟨[.string (bs nm), vt]⟩] F [] (fun F' G' u => AsQ F' G' u (asR showV ⟨nm, tysOf fo⟩ (.cons eh A r))) := by
 have hvk := kids_lim hv
 obtain ⟨ao, cap, rfl, hcap, hpos⟩ : ∃ ao cap, v = Value.slice ao (r.len + 1) cap ∧ (r.len + 1 ≤ cap ∧ r.len + 1 ≤ 140737488355328) ∧ (0 < r.len + 1 → ∃ b o, ao = some ⟨b, o, none⟩ ∧ TrM F 9 EhR (.cons eh A r) b o) := hv
 obtain ⟨b8, o8, rfl, hM⟩ := hpos (Nat.succ_pos _)
 obtain ⟨⟨cs, ao2, cap2, ⟨w1, rfl, hw1⟩, hl8, hc, hcap2, hpos2⟩, hM2⟩ := hM
 have hA : TrS F 9 EhR (.slice ao2 A.len cap2) A := ⟨ao2, cap2, rfl, hcap2, hpos2⟩
 have hw1c := hw1
 obtain ⟨aw, cw, rfl, -, -⟩ := hw1c
 have hX : PxC F _ eh A := ⟨_, _, _, ao2, cap2, rfl, hw1, hA⟩
 (simp only [List.cons_append, List.nil_append] at hc)
 have hc1 := hc
 rw [show o8 = o8 + 0 * 9 from by omega] at hc1
 have hc46 := hc1 8 _ rfl
 have hvt0 := hvt
 obtain ⟨at1, ct1, rfl, -, -⟩ := hvt
 have htl := lim_drop (i := 1) hvk (by rw [kids_len]; exact Nat.succ_le_succ (Nat.zero_le _))
 have hrl : (Rose.cons eh A r).len = r.len + 1 := rfl
 replace htl : LiM F 9 (RoR 9 EhR) (.slice (cutA (some ⟨b8, o8, none⟩) 1 cap 9) (r.len + 1 - 1) (cap - 1)) (kids r) := htl
 have hh := headCt F hT eh A _ hX hb.2 hp
 rw [hdV_eq] at hh
 refine Ct.enter Tryz.func95 rfl Tryz.ntmps95 rfl fun w0 a S => ?_
 refine wp_sr fun Z hZ => ?_
 (refine wbx S ?_; clear S a; intro b3 a w S)
 (revert S a; revert hZ Z; refine go 7 ?_; intro Z hZ a S)
 (refine wv S (sv_loadAF S rfl rfl hc1 rfl) ?_; clear S a; intro a S)
 (refine wc0 S (hh) ?_; clear S a; intro v a w hv S; subst hv)
 (revert S a; revert hZ Z; refine go 13 ?_; intro Z hZ a S)
 refine wpc_sp S rfl ?_ ?_ <;> intro h
 ·(revert S a; refine go 10 ?_; intro Z hZ a S)
  (refine wpl_makeSliceN (q := fo.len) (cp := fo.len + (r.len + 1)) S rfl rfl rfl rfl rfl rfl (by omega) (by omega) (by omega) ?_; clear S a; intro b28 a w zs hzs S)
  (revert S a; revert hZ Z; refine go 11 ?_; intro Z hZ a S)
  refine wpc_loop (fun m a w' => ∃ (i : Nat) (zs : List Value), m = fo.len - i ∧ i ≤ fo.len ∧ zs.length = (fo.len + (r.len + 1) - i) * 9 ∧ St 55 [(0, .slice (some ⟨b8, o8, none⟩) (r.len + 1) cap), (3, ptr b3), (8, .slice (some ⟨b28, 0, none⟩) fo.len (fo.len + (r.len + 1))), (30, .int .i64 fo.len), (31, .int .i64 i)] w0 F [] F [[(b28, .cells ⟨anyC i ++ zs⟩ 29 (0, 0))], [(b3, .cells ⟨[.string (bs nm), .slice at1 fo.len ct1]⟩ 176 (0, 0))]] a w') ?_ ?_
  ·(refine ⟨fo.len, 0, zs, by omega, Nat.zero_le _, by rw [hzs, Nat.sub_zero], ?_⟩; refine S.keep ?_; exact zk)
  (clear S hzs zs; rintro m a w ⟨i, zs, rfl, hil, hzs, S⟩)
  (revert S a; refine go 5 ?_; intro Z hZ a S)
  refine wpc_sp S rfl ?_ ?_ <;> intro h
  ·(revert S a; revert hZ Z; refine go 14 ?_; intro Z hZ a S)
   (refine wpl_storeO S rfl rfl rfl rfl rfl (by rfl) (by simp [Value.cells, Value.oneCell', splice, splice]) (by rw [Nat.ble_eq]; simp only [List.length_append, anyC_len]; omega) ?_; clear S; intro w S; replace S : St _ _ _ _ _ _ ([(b28, .cells ⟨(anyC i ++ zs).take (0 + i * 9) ++ anyCs ++ (anyC i ++ zs).drop (0 + i * 9 + 9)⟩ _ (0, 0))] :: _) _ _ := S; rw [any_st (by omega)] at S)
   (revert S a; revert hZ Z; refine go 6 ?_; intro a S)
   change ∃ m', _ ∧ _
   (refine ⟨fo.len - (i + 1), by omega, i + 1, zs.drop 9, rfl, by omega, ?_, ?_⟩; rotate_left 1; (refine S.keep ?_; exact zk); (rw [List.length_drop, hzs]; omega))
  (refine wp_exit ?_; conv => whnf)
  clear hZ Z
  (refine hZ _ _ ?_; clear hZ Z)
  (refine wp_seq_k ?_; intro Z hZ)
  (have hii : i = fo.len := (by omega); subst hii; have hown := ownS_mkP (e := 29) (b := b28) (xs := anyC fo.len) (ex := zs) (cap := fo.len + (r.len + 1)) (anyC_len _) (by omega) (by simp only [maxLen]; omega) (by rw [List.length_append, anyC_len, hzs]; omega); obtain ⟨ys, hys, hyp⟩ := lim_flatK htl)
  (revert S a; refine go 3 ?_; intro a S)
  (refine wv S (sv_sliceSl_lo (i := 1) S rfl rfl rfl (by omega)) ?_; clear S a; intro a S)
  (refine wpl_appendSl S rfl rfl rfl rfl rfl rfl hown (by rfl) (by rw [hys.len, kids_len]; rfl) hyp hys.one' (by omega) (by omega) ?_; clear hown S a; intro v g a w hown S)
  (revert S a; revert hZ Z; refine go 4 ?_; intro a S)
  refine wp_ret ?_
  (first | (have h9 := hown; replace S := St.headG (A := [_]) S))
  refine fin_ret S (results2 Tryz.results95 (RV.tmp S rfl) (RV.tmp S rfl)) ?_
  exact zzCs1
 refine wp_skip ?_
 (refine hZ _ _ ?_; clear hZ Z)
 (refine wp_seq_k ?_; intro Z hZ)
 (refine wpc_mixM [0, 1, 2, 3, 4, 5, 8, 9, 10, 11] [3, 10] [] (.one 0 (.one 1 (.one 2 (.one 3 (.one 4 (.one 5 (.one 8 (.one 9 (.one 10 (.one 11 (.one 6 (.one 7 (.one 12 (.one 13 .nil)))))))))))))) [b3] S mixed (by kernel_rfl) ?_; clear S; intro w S)
 (revert S a; refine go 5 ?_; intro a S)
 (refine wpm_v S rfl rfl rfl (want_none _ rfl) rfl rfl (fun w' S => sv_sliceSl_lo (i := 1) S rfl rfl rfl (by omega)) ?_; clear S a; intro a S)
 (revert S a; refine go 5 ?_; intro a S)
 (refine wpl_buildSlice S rfl rfl rfl rfl rfl rfl (by rfl) (by simp [Value.cells, splice, splice]) rfl (by rfl) (by rfl) ?_; clear S a; intro b49 a w hown S)
 (revert S a; refine go 2 ?_; intro a S)
 (have S' := frz1 S; clear S; obtain ⟨F5, hle5, hb49, S⟩ := S'; refine wpl_callNew S rfl rfl rfl rfl rfl rfl (concatECt F5 _ [kids A, kids r] (two_lim hb49 ((kids_lim hA).mono hle5) (htl.mono hle5)) (by simp [kids_len]; omega) (by simp)) rfl ?_; clear S a; intro v50 G9 a w hv S; obtain ⟨g50, x50, rfl, hown, hx50⟩ := hv; (simp only [List.singleton_append] at S))
 (revert S a; revert hZ Z; refine go 9 ?_; intro a S)
 refine wp_ret ?_
 (first | (have h9 := hown; replace S := St.headG (A := [_]) S))
 refine fin_ret S (results2 Tryz.results95 (RV.tmp S rfl) (RV.tmp S rfl)) ?_
 exact zzCs1
def RwR (F : Heap) (r : Ef) (cs : List Value) : Prop := ∃ u, cs = [u] ∧ TrS F 9 EhR u r
instance : Mon RwR := ⟨fun hF ⟨u, h1, h2⟩ => ⟨u, h1, h2.mono hF⟩⟩
def PlL : Ef → Prop
 | .nil => True
 | .cons h L r => PlE h ∧ PlL L ∧ PlL r
def RwOK (r : Ef) : Prop := BndL r ∧ PlL r
theorem bndL_app : ∀ {l m : Ef}, BndL l → BndL m → BndL (appR l m)
 | .nil, m, _, h => h
 | .cons h L r, m, ⟨h1, h2, h3⟩, h4 => ⟨h1, h2, bndL_app h3 h4⟩
theorem plL_app : ∀ {l m : Ef}, PlL l → PlL m → PlL (appR l m)
 | .nil, m, _, h => h
 | .cons h L r, m, ⟨h1, h2, h3⟩, h4 => ⟨h1, h2, plL_app h3 h4⟩
theorem rwOK_app {l m : Ef} (h1 : RwOK l) (h2 : RwOK m) : RwOK (appR l m) := ⟨bndL_app h1.1 h2.1, plL_app h1.2 h2.2⟩
theorem rwOK_anys {r : Ef} (h : RwOK r) : ∀ n, RwOK (anys n r)
 | 0 => h
 | n + 1 => ⟨⟨⟨Nat.zero_le _, Nat.zero_le _⟩, trivial, (rwOK_anys h n).1⟩, ⟨fun h9 => (by cases h9), trivial, (rwOK_anys h n).2⟩⟩
theorem spec_at {f : Frm Ty} {rows : List Ef} {i : Nat} {x : Ef} (hx : rows[i]? = some x) : specR showV f (rows.take (i + 1)) = specR showV f (rows.take i) ++ (if (asR showV f x).2 = true then [(asR showV f x).1] else []) := by
 unfold specR
 rw [List.take_add_one, hx, List.filter_append, List.map_append]
 congr 1
 by_cases h : (asR showV f x).2 = true
 ·rw [if_pos h]; simp [h]
 ·rw [if_neg h]; simp [h]
theorem spec_len (f : Frm Ty) (rows : List Ef) : (specR showV f rows).length ≤ rows.length := by
 unfold specR
 rw [List.length_map]
 exact List.length_filter_le _ _
theorem own_tr {F : Heap} {v : Value} {xs : List Value} {g : Grp} {r : Ef} (hown : OwnS 29 9 v (kids r).length xs g) (h : LiC F 9 (RoR 9 EhR) xs (kids r)) (hF : ∀ b o, F b = some o → F.add g b = some o) (hm : (kids r).length ≤ 140737488355328) : TrS (F.add g) 9 EhR v r := trs_kids (LiC.lim hown h rfl hF hm)
theorem as_len (f : Frm Ty) (r : Ef) : (asR showV f r).1.len ≤ f.tys.length + r.size := by
 cases r with
 | nil => exact Nat.zero_le _
 | cons eh A r =>
  have h1 := Rose.len_size r
  have h2 := Rose.len_size A
  have h3 : (Rose.cons eh A r).size = A.size + r.size + 1 := rfl
  cases hh : hdO showV eh with
  | none =>
   rw [as_none hh]
   have : ∀ n, (anys n r).len = n + r.len := fun n => by
    induction n with
    | zero => show r.len = _; omega
    | succ n ih => show (anys n r).len + 1 = _; omega
   show (anys _ r).len ≤ _
   rw [this]; omega
  | some s => rw [as_some hh]; show (appR A r).len ≤ _; rw [appR_len]; omega
theorem trs_slc {F : Heap} {v : Value} {l : Ef} (h : TrS F 9 EhR v l) : ∃ (ao : Option Addr) (cap : Nat), v = .slice ao l.len cap := by obtain ⟨ao, cap, h, -⟩ := h; exact ⟨ao, cap, h⟩
theorem row_cons {r : Ef} (h : r ≠ .nil) : ∃ eh A t, r = .cons eh A t := by cases r with | nil => exact absurd rfl h | cons eh A t => exact ⟨eh, A, t, rfl⟩
theorem zzCt0 {p : Prop} (h : p := by (have hF6 : ∀ b o, F b = some o → (F9.add g9) b = some o := (fun b o h => hle9 _ _ (hF9 _ _ (hF5 _ _ h))); rw [← hao] at S; first | (have hb : (asR showV (⟨nm, tysOf fo⟩ : Frm Ty) (.cons eh A r)).2 = true := (by assumption); refine ⟨rows.length - (i + 1), by omega, i + 1, v, g, xs ++ [.slice a9 (asR showV (⟨nm, tysOf fo⟩ : Frm Ty) (.cons eh A r)).1.len q9], F9.add g9, rfl, by omega, hF6, ?_, ?_, ?_⟩; rotate_left 2; (refine S.keep ?_; exact zk); (rw [spec_at hx, if_pos hb, List.length_append]; exact hown); (rw [spec_at hx, if_pos hb]; exact LiC.app (hxs.mono (fun b o h => hle9 _ _ (hF9 _ _ h))) (LiC.one rfl ⟨_, rfl, hR9⟩))) | (have hb : ¬ (asR showV (⟨nm, tysOf fo⟩ : Frm Ty) (.cons eh A r)).2 = true := (by simp_all); refine ⟨rows.length - (i + 1), by omega, i + 1, v, g, xs, F9.add g9, rfl, by omega, hF6, ?_, ?_, ?_⟩; rotate_left 2; (refine S.keep ?_; exact zk); (rw [spec_at hx, if_neg hb, List.append_nil]; exact hown); (rw [spec_at hx, if_neg hb, List.append_nil]; exact hxs.mono (fun b o h => hle9 _ _ (hF9 _ _ h)))) | trace_state)) : p := h
theorem specialCt (F : Heap) (hT : TabF F) (v : Value) (rows : List Ef) (hv : LiM F 1 RwR v rows) (nm : List UInt8) (vt : Value) (fo : Fo) (hvt : SlF F vt fo) (hr : ∀ r ∈ rows, r ≠ .nil ∧ RwOK r ∧ fo.len + r.size ≤ 1000000000) (hrl : rows.length ≤ 1000000000) :
  Ct Tryz.prog 97 [v, .agg ⟨[.string (bs nm), vt]⟩] F [] (fun F' _ u => LiM F' 1 RwR u (specR showV (⟨nm, tysOf fo⟩ : Frm Ty) rows)) := by
 have hvtc := hvt
 obtain ⟨at1, ct1, rfl, -, -⟩ := hvtc
 obtain ⟨ao, cap, rfl, hcap, hpos⟩ := hv
 refine Ct.enter Tryz.func97 rfl Tryz.ntmps97 rfl fun w0 a S => ?_
 refine wp_sr fun Z hZ => ?_
 (refine wbx S ?_; clear S a; intro b3 a w S)
 (revert S a; revert hZ Z; refine go 15 ?_; intro Z hZ a S)
 refine wpc_loop (fun m a w' => ∃ (i : Nat) (v : Value) (g : Grp) (xs : List Value) (F5 : Heap), m = rows.length - i ∧ i ≤ rows.length ∧ (∀ b o, F b = some o → F5 b = some o) ∧ OwnS 27 1 v (specR showV (⟨nm, tysOf fo⟩ : Frm Ty) (rows.take i)).length xs g ∧ LiC F5 1 RwR xs (specR showV (⟨nm, tysOf fo⟩ : Frm Ty) (rows.take i)) ∧ St 29 [(3, ptr b3), (5, v), (10, .slice ao rows.length cap), (11, .int .i64 rows.length), (12, .int .i64 i)] w0 F [] F5 [g, [(b3, .cells ⟨[.string (bs nm), .slice at1 fo.len ct1]⟩ 176 (0, 0))]] a w') ?_ ?_
 ·(replace S := S.nilg; refine ⟨rows.length, 0, .slice none 0 0, [], [], F, by omega, Nat.zero_le _, fun _ _ h => h, OwnS.nil _ _, rfl, ?_⟩; refine S.keep ?_; exact zk)
 (clear S; rintro m a w ⟨i, v, g, xs, F5, rfl, hil, hF5, hown, hxs, S⟩)
 (revert S a; refine go 5 ?_; intro Z hZ a S)
 refine wpc_sp S rfl ?_ ?_ <;> intro h
 ·(revert S a; revert hZ Z; refine go 4 ?_; intro Z hZ a S)
  (refine wp_seq_k ?_; intro Z hZ)
  (obtain ⟨b8, o8, hao, x, cs1, hx, hc1, ⟨u1, rfl, hu1⟩⟩ := LiM.pos hpos (k := i) (by omega); rw [hao] at S; replace hu1 := hu1.mono hF5; replace hc1 : Cel F5 b8 (o8 + i * 1) _ := Cel.mono hF5 (hc1 0 _ rfl); obtain ⟨hne, ⟨hbn, hpl⟩, hsz⟩ := hr x (List.mem_of_getElem? hx); obtain ⟨eh, A, r, rfl⟩ := row_cons hne; replace hbn := hbn.1; replace hpl := hpl.1; have hl2 := Rose.len_size r; have hl3 := Rose.len_size A; have hszc : (Rose.cons eh A r).size = A.size + r.size + 1 := rfl; have hu1c := hu1; obtain ⟨au, cu, rfl, -, -⟩ := hu1c)
  (revert S a; revert hZ Z; refine go 9 ?_; intro Z hZ a S)
  (refine wpl_call (Gs := []) (Gr := [g, [(b3, _)]]) S rfl rfl rfl rfl rfl rfl (asCt F5 (hT.mono hF5) _ eh A r hu1 nm _ fo (hvt.mono hF5) hbn hpl (by omega)) rfl (by exact List.Perm.refl _) ?_; clear S a; intro v19 F9 G9 a w hv9 hF9 S; obtain ⟨v9, g9, x9, rfl, rfl, hown9, hx9⟩ := hv9; have hal := as_len (⟨nm, tysOf fo⟩ : Frm Ty) (.cons eh A r); replace S : St _ _ _ _ _ _ (g9 :: _) _ _ := S; have hle9 := add_le (G1 := []) S; replace S := St.freeze (G1 := []) S; replace S : St _ _ _ _ _ _ [g, [(b3, _)]] _ _ := S; have hR9 := own_tr hown9 hx9 hle9 (by rw [kids_len]; rw [tysOf_len] at hal; omega); clear hown9 hx9; obtain ⟨a9, q9, rfl⟩ := trs_slc hR9)
  (revert S a; revert hZ Z; refine go 11 ?_; intro a S)
  refine wpc_sp S rfl ?_ ?_ <;> intro h
  ·(obtain ⟨aoK, capK, rfl, -⟩ := hown.at; have hsl := spec_len (⟨nm, tysOf fo⟩ : Frm Ty) (rows.take i); rw [List.length_take] at hsl)
   (revert S a; refine go 3 ?_; intro a S)
   (refine wpl_append S rfl rfl rfl rfl rfl rfl rfl rfl rfl rfl rfl (fun _ => rfl) hown (by rfl) (by simp [Value.cells, splice, splice]) (by simp [Value.cells, Value.oneCell', splice, splice]) rfl (by rfl) (by rfl) rfl (by omega) (by omega) ?_; clear hown S a; intro v u g a w hown S)
   (revert S a; revert hZ Z; refine go 7 ?_; intro a S)
   change ∃ m', _ ∧ _
   exact zzCt0
  (revert S a; revert hZ Z; refine go 6 ?_; intro a S)
  change ∃ m', _ ∧ _
  exact zzCt0
 (refine wp_exit ?_; conv => whnf)
 clear hZ Z
 (revert S a; revert hZ Z; refine go 6 ?_; intro a S)
 refine wp_ret ?_
 (have hii : i = rows.length := (by omega); have h9 := hown; have hle := add_le (G1 := []) S; replace S := St.freeze (G1 := []) S; (simp only [List.nil_append] at S hle))
 refine fin_ret S (results1 Tryz.results97 (RV.tmp S rfl)) ?_
 (rw [List.take_of_length_le (by omega)] at hown hxs; exact LiC.lim hown hxs rfl hle (by have := spec_len (⟨nm, tysOf fo⟩ : Frm Ty) rows; omega))
theorem zzIz0 {p : Prop} (h : p := by (rw [hfp]; first | (rw [idxF_at (by omega), if_pos (by assumption)]; done) | (rw [idxF_end (by omega)]; done) | trace_state)) : p := h
theorem ixFCt (F : Heap) (v : Value) (n : Nat) (C : Nat → List Value → Prop) (h : Sq F 2 v n C) (fid : FuncId) (fi ca : List Value) [hfn : HasFn Tryz.prog fid] (p : Nat → Bool)
  (hcl : ∀ k cs, k < n → C k cs → Ct Tryz.prog fid (fi ++ [.agg ⟨cs⟩] ++ ca) F [] (fun _ _ u => u = .bool (p k))) :
  Ct Tryz.prog 152 [v, .func (.func fid) ⟨fi⟩ ⟨ca⟩] F [] (fun _ _ u => u = .int .i64 (idxN p n)) := by
 obtain ⟨ao, cap, rfl, hcap, hpos⟩ := h
 refine Ct.enter Tryz.func152 rfl Tryz.ntmps152 rfl fun w0 a S => ?_
 (revert S a; refine go 12 ?_; intro Z hZ a S)
 refine wpc_loop (fun m a w' => ∃ (k : Nat), m = n - k ∧ k ≤ n ∧ idxN p n = idxF p k (n - k) ∧ St 19 [(0, .slice ao n cap), (1, .func (.func fid) ⟨fi⟩ ⟨ca⟩), (7, .int .i64 n), (8, .int .i64 k)] w0 F [] F [] a w') ?_ ?_
 ·(refine ⟨n, 0, by omega, Nat.zero_le _, rfl, ?_⟩; refine S.keep ?_; exact zk)
 (clear S; rintro m a w ⟨k, rfl, hkl, hfp, S⟩)
 (revert S a; refine go 5 ?_; intro Z hZ a S)
 refine wpc_sp S rfl ?_ ?_ <;> intro h
 ·(revert S a; revert hZ Z; refine go 9 ?_; intro Z hZ a S)
  (refine wp_seq_k ?_; intro Z hZ)
  (obtain ⟨b8, o8, rfl, cs1, hc1, hl1, hC⟩ := Sq.pos hpos (k := k) (by omega))
  (revert S a; refine go 5 ?_; intro a S)
  (refine wv S (sv_loadAF S rfl rfl hc1 hl1) ?_; clear S a; intro a S)
  (refine wc0 S (hcl k _ (by omega) hC) ?_; clear S a; intro v a w hv S; subst hv)
  (revert S a; revert hZ Z; refine go 2 ?_; intro a S)
  refine wpc_sp S rfl ?_ ?_ <;> intro h
  ·(revert S a; refine go 5 ?_; intro a S)
   refine wp_ret (fr1 S Tryz.results152 ?_)
   exact zzIz0
  (revert S a; revert hZ Z; refine go 6 ?_; intro a S)
  change ∃ m', _ ∧ _
  (refine ⟨n - (k + 1), by omega, k + 1, rfl, by omega, ?_, ?_⟩; rotate_left 1; (refine S.keep ?_; exact zk); rw [hfp, idxF_at (by omega), if_neg (by rw [(by assumption : p k = false)]; decide)])
 (refine wp_exit ?_; conv => whnf)
 clear hZ Z
 (revert S a; revert hZ Z; refine go 5 ?_; intro a S)
 refine wp_ret (fr1 S Tryz.results152 ?_)
 exact zzIz0
theorem cfFCt (F : Heap) (v : Value) (n : Nat) (C : Nat → List Value → Prop) (h : Sq F 2 v n C) (fid : FuncId) (fi ca : List Value) [hfn : HasFn Tryz.prog fid] (p : Nat → Bool)
  (hcl : ∀ k cs, k < n → C k cs → Ct Tryz.prog fid (fi ++ [.agg ⟨cs⟩] ++ ca) F [] (fun _ _ u => u = .bool (p k))) :
  Ct Tryz.prog 100 [v, .func (.func fid) ⟨fi⟩ ⟨ca⟩] F [] (fun _ _ u => u = .bool (anyN p n)) := by
 have hc := ixFCt F v n C h fid fi ca p hcl
 obtain ⟨ao, cap, rfl, hcap, hpos⟩ := h
 refine Ct.enter Tryz.func100 rfl Tryz.ntmps100 rfl fun w0 a S => ?_
 (revert S a; refine go 7 ?_; intro Z hZ a S)
 (refine wc0 S (hc) ?_; clear S a; intro v a w hv S; subst hv)
 (revert S a; revert hZ Z; refine go 4 ?_; intro a S)
 refine wp_ret (fr1 S Tryz.results100 ?_)
 rfl
end Go.Proofs.YthnafdbebniapaaGreatDoor
