/- Walks. -/
import Derived.Lib.ItoaLen
import Derived.Test.YtbhipiepfclneaaGreatDoorQ18
import Derived.Test.YtbhipiepfclneaaGreatDoorQ15
set_option maxHeartbeats 4000000
namespace Go.Proofs.YtbhipiepfclneaaGreatDoor
open Go Go.Wk Go.Un Go.De Go.Num
set_option linter.unusedSimpArgs false
set_option linter.unusedVariables false
attribute [local irreducible] Go.wpList Go.Code.wp Go.wpStill Go.Wk.wpPre Go.bodyPost Go.Calls Go.Wk.Ct Go.Wk.OwnS Go.Wk.wpG Go.Wk.wpM
theorem itoa_pos (n : Int) : 0 < (Lib.itoa n).length := by
 unfold Lib.itoa
 split
 ·simp
 ·exact dd_pos _
theorem fmtICt (n : Int) (F : Heap) (hT : TabF F) (h0 : -9223372036854775808 ≤ n ∧ n ≤ 9223372036854775807) : Ct Tryz.prog 36 [.int .i64 n, .int .i64 10] F [] (fun _ _ u => u = .string (bs (Lib.itoa n))) := by
 rw [show_itoa h0.1 h0.2]
 exact bofnCt n F hT h0.1 h0.2
def boolS (c : Bool) : List UInt8 := if c = true then sTrue else sFalse
theorem fmtB0Ct (F : Heap) (c : Bool) : Ct Tryz.prog 128 [.bool c] F [] (fun _ _ u => u = .string (bs (boolS c))) := by
 refine Ct.enter Tryz.func128 rfl Tryz.ntmps128 rfl fun w0 a S => ?_
 (revert S a; refine go 9 ?_; intro Z hZ a S)
 refine wpc_sp S rfl ?_ ?_ <;> intro h
 ·(revert S a; refine go 4 ?_; intro a S)
  refine wp_ret (fr1 S Tryz.results128 ?_)
  (have e9 : c = _ := (by assumption); subst e9; rfl)
 (revert S a; revert hZ Z; refine go 6 ?_; intro a S)
 refine wp_ret (fr1 S Tryz.results128 ?_)
 (have e9 : c = _ := (by assumption); subst e9; rfl)
theorem fmtBCt (F : Heap) (c : Bool) : Ct Tryz.prog 89 [.bool c] F [] (fun _ _ u => u = .string (bs (boolS c))) := by
 have h1 := fmtB0Ct F c
 refine Ct.enter Tryz.func89 rfl Tryz.ntmps89 rfl fun w0 a S => ?_
 (revert S a; refine go 6 ?_; intro Z hZ a S)
 (refine wc0 S (h1) ?_; clear S a; intro v a w hv S; subst hv)
 (revert S a; revert hZ Z; refine go 3 ?_; intro a S)
 refine wp_ret (fr1 S Tryz.results89 ?_)
 rfl
def shwH (h : VH) (n : Nat) (t : List UInt8) : List UInt8 :=
 if h.k = 1 then boolS (decide (h.n = 1)) else if h.k = 2 then Lib.itoa h.n else if h.k = 3 then h.s ++ [98] else if h.k = 4 then quoteS h.s
 else if h.k = 5 then [40] ++ t ++ [41] else h.s ++ (if n = 0 then [] else [40] ++ t ++ [41])
def shwL : Bool → Vf → List UInt8
 | _, .nil => []
 | c, .cons h L r => (if c = true then [44, 32] else []) ++ shwH h L.len (shwL false L) ++ shwL true r
def shwV (h : VH) (L : Vf) : List UInt8 := shwH h L.len (shwL false L)
theorem shwL_cons (c : Bool) (h : VH) (L r : Vf) : shwL c (.cons h L r) = (if c = true then [44, 32] else []) ++ shwV h L ++ shwL true r := rfl
def RgF : Vf → Prop
 | .nil => True
 | .cons h L r => (-9223372036854775808 ≤ h.n ∧ h.n ≤ 9223372036854775807) ∧ RgF L ∧ RgF r
theorem RgF.get : ∀ {l : Vf} {k : Nat} {x : VH × Vf}, RgF l → l.get? k = some x → (-9223372036854775808 ≤ x.1.n ∧ x.1.n ≤ 9223372036854775807) ∧ RgF x.2
 | .cons h L r, 0, x, ⟨h1, h2, _⟩, e => by cases e; exact ⟨h1, h2⟩
 | .cons h L r, k + 1, x, ⟨_, _, h3⟩, e => h3.get (k := k) e
theorem formL_get : ∀ {l : Vf} {k : Nat} {x : VH × Vf}, formL l = true → l.get? k = some x → formH x.1 x.2.len = true ∧ formL x.2 = true
 | .cons h L r, 0, x, hf, e => by cases e; rw [formL_cons, Bool.and_eq_true, Bool.and_eq_true] at hf; exact hf.1
 | .cons h L r, k + 1, x, hf, e => by rw [formL_cons, Bool.and_eq_true] at hf; exact formL_get (k := k) hf.2 e
def wtH (h : VH) : Nat := 4 * h.s.length + 40
def wtB : Vf → Nat
 | .nil => 0
 | .cons h L r => (wtH h + wtB L) + wtB r
def wtV (h : VH) (L : Vf) : Nat := wtH h + wtB L
theorem boolS_len (c : Bool) : 0 < (boolS c).length ∧ (boolS c).length ≤ 5 := by unfold boolS; split <;> decide
theorem shwH_len {h : VH} {n : Nat} {t : List UInt8} (hn : -9223372036854775808 ≤ h.n ∧ h.n ≤ 9223372036854775807) : (shwH h n t).length + 10 ≤ wtH h + t.length := by
 unfold shwH wtH
 split
 ·have := boolS_len (decide (h.n = 1)); omega
 ·split
  ·have := Lib.itoa_length_le h.n hn.1 hn.2; omega
  ·split
   ·simp only [List.length_append, List.length_cons, List.length_nil]; omega
   ·split
    ·have := esc_len h.s; unfold quoteS; simp only [List.length_append, List.length_cons, List.length_nil]; omega
    ·split
     ·simp only [List.length_append, List.length_cons, List.length_nil]; omega
     ·split <;> simp only [List.length_append, List.length_cons, List.length_nil] <;> omega
theorem shwL_len : ∀ {l : Vf} (c : Bool), RgF l → (shwL c l).length ≤ wtB l
 | .nil, _, _ => Nat.le_refl _
 | .cons h L r, c, ⟨h1, h2, h3⟩ => by
  have i1 := shwL_len (l := L) false h2
  have i2 := shwL_len (l := r) true h3
  have i3 := shwH_len (h := h) (n := L.len) (t := shwL false L) h1
  have i4 : (if c = true then ([44, 32] : List UInt8) else []).length ≤ 2 := by split <;> decide
  rw [shwL]
  simp only [List.length_append, wtB]
  omega
theorem shwV_len {h : VH} {L : Vf} (hn : -9223372036854775808 ≤ h.n ∧ h.n ≤ 9223372036854775807) (hL : RgF L) : (shwV h L).length + 10 ≤ wtV h L := by
 have i1 := shwL_len (l := L) false hL
 have i3 := shwH_len (h := h) (n := L.len) (t := shwL false L) hn
 unfold shwV wtV; omega
theorem wtB_drop {l : Vf} {k : Nat} {x : VH × Vf} (h : l.get? k = some x) : wtB (l.drop k) = wtV x.1 x.2 + wtB (l.drop (k + 1)) := by
 rw [Rose.drop_get h]; rfl
theorem form_s {h : VH} {n : Nat} (hf : formH h n = true) (hk : h.k = 3 ∨ ¬ h.k ≤ 5) : 0 < h.s.length := by
 unfold formH at hf
 rcases hk with hk | hk
 ·rw [if_neg (by omega), if_neg (by omega), if_pos hk, Bool.and_eq_true] at hf
  have h1 := hf.1
  unfold numOK at h1
  simp only [Bool.not_eq_true', Bool.or_eq_false_iff, decide_eq_false_iff_not] at h1
  cases hs : h.s with
  | nil => exact absurd (by rw [hs]; decide) h1.1.1
  | cons a r => simp
 ·rw [if_neg (by omega), if_neg (by omega), if_neg (by omega), if_neg (by omega), if_neg (by omega)] at hf
  split at hf
  ·rw [Bool.and_eq_true, Bool.and_eq_true] at hf
   have h1 := hf.2.1
   cases hs : h.s with
   | nil => rw [hs] at h1; exact absurd h1 (by decide)
   | cons a r => simp
  ·cases hf
theorem form_k {h : VH} {n : Nat} (hf : formH h n = true) : 1 ≤ h.k ∧ h.k ≤ 6 := by
 unfold formH at hf
 repeat (split at hf; · omega)
 cases hf
theorem beq1 (n : Int) : (n == 1) = decide (n = 1) := by rw [Bool.eq_iff_iff, beq_iff_eq, decide_eq_true_eq]
def lsV (b bS : Nat) : Value := .func (.func 86) ⟨[]⟩ ⟨[.pointer (some ⟨b, 0, none⟩), .pointer (some ⟨bS, 0, none⟩)]⟩
def shV (b bL : Nat) : Value := .func (.func 88) ⟨[]⟩ ⟨[.pointer (some ⟨b, 0, none⟩), .pointer (some ⟨bL, 0, none⟩)]⟩
def BdQ (b : Nat) (l : List UInt8) (G' : List Grp) : Prop := ∃ p' v' g', G' = [g', bldG b p' v'] ∧ BdO b l p' v' g'
def ShC (F : Heap) (b bL : Nat) (h : VH) (L : Vf) : Prop := ∀ (p v : Value) (g : Grp) (l : List UInt8) (cs : List Value), BdO b l p v g → l.length + wtV h L ≤ 100000000 → VaC F cs h L →
 Ct Tryz.prog 88 ([] ++ [.agg ⟨cs⟩] ++ [.pointer (some ⟨b, 0, none⟩), .pointer (some ⟨bL, 0, none⟩)]) F [g, bldG b p v] (fun _ G' _ => BdQ b (l ++ shwV h L) G')
def LsC (F : Heap) (b bS : Nat) (L : Vf) : Prop := ∀ (p v : Value) (g : Grp) (l : List UInt8) (x : Value), BdO b l p v g → l.length + wtB L + 30 ≤ 100000000 → TrS F 4 VhR x L →
 Ct Tryz.prog 86 ([] ++ [x] ++ [.pointer (some ⟨b, 0, none⟩), .pointer (some ⟨bS, 0, none⟩)]) F [g, bldG b p v] (fun _ G' _ => BdQ b (l ++ ([40] ++ shwL false L ++ [41])) G')
theorem perm3a {X A B : Grp} : ([X, A, B] : List Grp).flatten.Perm (([A, B] : List Grp).flatten ++ ([X] : List Grp).flatten) := by
 simp only [List.flatten_cons, List.flatten_nil, List.append_nil]
 exact List.perm_append_comm
theorem rot3 {n : Sz} {L : List (Nat × Value)} {w0 : World} {F0 : Heap} {K0 : List Nat} {F : Heap} {A B C : Grp} {a : Act} {w : World} (S : St n L w0 F0 K0 F [A, B, C] a w) : St n L w0 F0 K0 F [C, A, B] a w :=
 ⟨S.fr, S.tr.perm (by simp only [List.flatten_cons, List.flatten_nil, List.append_nil]; rw [← List.append_assoc]; exact List.perm_append_comm)⟩
theorem zzGh0 {p : Prop} (h : p := by (rw [← hao] at S; refine ⟨L.len - (k + 1), by omega, k + 1, _, _, _, _, rfl, by omega, ?_, ?_, hbd, ?_⟩; rotate_left 2; (refine S.keep ?_; exact zk); (rw [← heq, hdr, shwL_cons, decide_eq_true (by omega)]; first | (rw [if_neg (fun h9 => by have := of_decide_eq_true h9; omega)]; simp only [List.nil_append, List.append_assoc]) | (rw [if_pos (decide_eq_true (by omega))]; simp only [List.append_assoc])); (simp only [List.length_append, List.length_cons, List.length_nil]; omega))) : p := h
theorem lsCt (F : Heap) (b bS bL : Nat) (hbS : Cel F bS 0 (shV b bL)) (L : Vf) (hR : RgF L) (ih : ∀ k x, L.get? k = some x → ShC F b bL x.1 x.2) : LsC F b bS L := by
 intro p0 v0 g0 l x hbd hk hT
 obtain ⟨ao, cap, rfl, hcap, hpos⟩ := hT
 unfold shV at hbS
 refine Ct.enter Tryz.func86 rfl Tryz.ntmps86 rfl fun w0 a S => ?_
 refine wp_sr fun Z hZ => ?_
 (refine wpl_callOwn (Gs := [g0, bldG b p0 v0]) (Gr := []) S rfl rfl rfl rfl rfl rfl (wbCt b p0 v0 l 40 g0 F hbd (by omega)) rfl (by simp) ?_; clear S a hbd; intro u G1 a w hv1 S; obtain ⟨p1, v1, g1, rfl, hbd⟩ := hv1; (simp only [List.append_nil] at S))
 (revert S a; revert hZ Z; refine go 10 ?_; intro Z hZ a S)
 refine wpc_loop (fun m a w' => ∃ (k : Nat) (l1 : List UInt8) (p v : Value) (g : Grp), m = L.len - k ∧ k ≤ L.len ∧ l1 ++ shwL (decide (0 < k)) (L.drop k) = (l ++ [40]) ++ shwL false L ∧ l1.length + wtB (L.drop k) ≤ l.length + 1 + wtB L ∧ BdO b l1 p v g ∧ St 22 [(1, .pointer (some ⟨b, 0, none⟩)), (2, .pointer (some ⟨bS, 0, none⟩)), (7, .slice ao L.len cap), (8, .int .i64 L.len), (9, .int .i64 k)] w0 F (keys [g0, bldG b p0 v0]) F [g, bldG b p v] a w') ?_ ?_
 ·(refine ⟨L.len, 0, _, _, _, _, by omega, Nat.zero_le _, rfl, by (simp only [List.length_append, List.length_cons, List.length_nil, Rose.drop]; omega), hbd, ?_⟩; refine S.keep ?_; exact zk)
 (clear S hbd; rintro m a w ⟨k, l1, p, v, g, rfl, hkl, heq, hlen, hbd, S⟩)
 (revert S a; refine go 5 ?_; intro Z hZ a S)
 refine wpc_sp S rfl ?_ ?_ <;> intro h
 ·(revert S a; revert hZ Z; refine go 4 ?_; intro Z hZ a S)
  (refine wp_seq_k ?_; intro Z hZ)
  (obtain ⟨b8, o8, hao, x, cs1, v1, hx, hc1, hw9, hT1⟩ := TrM.pos hpos (k := k) (by omega); rw [hao] at S; have hdr := Rose.drop_get hx; have hwd := wtB_drop hx; have hsl := shwV_len (hR.get hx).1 (hR.get hx).2; have hT1c := hT1; obtain ⟨a91, c91, rfl, -⟩ := hT1c; have hw9c := hw9.1; subst hw9c; (simp only [List.cons_append, List.nil_append] at hc1); have hV1 : VaC F [.int .u8 (x.1.k : Int), .int .i64 x.1.n, .string (bs x.1.s), .slice a91 x.2.len c91] x.1 x.2 := ⟨_, rfl, hT1, hw9.2⟩)
  (revert S a; refine go 4 ?_; intro a S)
  (refine wpl_alloc S rfl rfl rfl rfl ?_; clear S a; intro b5 a w S)
  (revert S a; refine go 1 ?_; intro a S)
  (refine wso S rfl rfl ?_; clear S; intro w S)
  (revert S a; revert hZ Z; refine go 8 ?_; intro Z hZ a S)
  refine wpc_sp S rfl ?_ ?_ <;> intro h
  ·refine wp_region_lit ?_
   (refine wpl_callOwn (Gs := [g, bldG b p v]) (Gr := [_]) S rfl rfl rfl rfl rfl rfl (wsCt b p v l1 [44, 32] g F hbd (by omega) (by decide) (by decide)) rfl perm3a ?_; clear S a hbd; intro u G1 a w hv1 S; obtain ⟨p1, v1, g1, rfl, hbd⟩ := hv1; (simp only [List.cons_append, List.nil_append] at S))
   (revert S a; revert hZ Z; refine go 5 ?_; intro a S)
   (have hI := ih k x hx; (first | (refine wpl_callOwn (Gs := [g1, bldG b p1 v1]) S rfl rfl rfl rfl rfl rfl (hI p1 v1 g1 (l1 ++ [44, 32]) _ hbd (by (simp only [List.length_append, List.length_cons, List.length_nil]; omega)) hV1) rfl permHead ?_) | (refine wpl_callOwn (Gs := [g, bldG b p v]) (Gr := [_]) S rfl rfl rfl rfl rfl rfl (hI p v g l1 _ hbd (by omega) hV1) rfl perm3a ?_)); clear S a hbd; intro u G1 a w hv1 S; obtain ⟨p1, v1, g1, rfl, hbd⟩ := hv1; (simp only [List.cons_append, List.nil_append] at S); replace S := rot3 S; replace S := S.drop1)
   (revert S a; revert hZ Z; refine go 6 ?_; intro a S)
   change ∃ m', _ ∧ _
   exact zzGh0
  (revert S a; revert hZ Z; refine go 5 ?_; intro a S)
  (have hI := ih k x hx; (first | (refine wpl_callOwn (Gs := [g1, bldG b p1 v1]) S rfl rfl rfl rfl rfl rfl (hI p1 v1 g1 (l1 ++ [44, 32]) _ hbd (by (simp only [List.length_append, List.length_cons, List.length_nil]; omega)) hV1) rfl permHead ?_) | (refine wpl_callOwn (Gs := [g, bldG b p v]) (Gr := [_]) S rfl rfl rfl rfl rfl rfl (hI p v g l1 _ hbd (by omega) hV1) rfl perm3a ?_)); clear S a hbd; intro u G1 a w hv1 S; obtain ⟨p1, v1, g1, rfl, hbd⟩ := hv1; (simp only [List.cons_append, List.nil_append] at S); replace S := rot3 S; replace S := S.drop1)
  (revert S a; revert hZ Z; refine go 6 ?_; intro a S)
  change ∃ m', _ ∧ _
  exact zzGh0
 (refine wp_exit ?_; conv => whnf)
 clear hZ Z
 (revert S a; revert hZ Z; refine go 2 ?_; intro a S)
 (have hkk : k = L.len := (by omega); subst hkk; rw [Rose.drop_len (Nat.le_refl _)] at heq; (simp only [shwL, List.append_nil] at heq); refine wpl_callOwn (Gs := [g, bldG b p v]) (Gr := []) S rfl rfl rfl rfl rfl rfl (wbCt b p v l1 41 g F hbd (by omega)) rfl (by simp) ?_; clear S a hbd; intro u G1 a w hv1 S; obtain ⟨p1, v1, g1, rfl, hbd⟩ := hv1; (simp only [List.append_nil] at S))
 refine wpList_nil ?_
 refine fin_end S (results0 Tryz.results86) ?_
 (exact ⟨_, _, _, rfl, hbd.cast (by rw [heq]; simp only [List.append_assoc])⟩)
theorem shCt (F : Heap) (hT : TabF F) (b bS bL : Nat) (hbL : Cel F bL 0 (lsV b bS)) (vh : VH) (L : Vf) (hn : -9223372036854775808 ≤ vh.n ∧ vh.n ≤ 9223372036854775807) (hf : formH vh L.len = true) (hl : LsC F b bS L) : ShC F b bL vh L := by
 intro p v g l cs hbd hk hV
 obtain ⟨x, rfl, hTr, hsb⟩ := hV
 have hTc := hTr
 obtain ⟨ao, cap, rfl, hcap, -⟩ := hTc
 have hs := fun h => form_s hf h
 have hk6 := form_k hf
 unfold lsV at hbL
 unfold wtV wtH at hk
 refine Ct.enter Tryz.func88 rfl Tryz.ntmps88 rfl fun w0 a S => ?_
 refine wp_sr fun Z hZ => ?_
 (refine wbx S ?_; clear S a; intro b3 a w S)
 (revert S a; revert hZ Z; refine go 13 ?_; intro a S)
 refine wpc_sp S rfl ?_ ?_ <;> intro h
 ·(revert S a; refine go 4 ?_; intro a S)
  (refine wc0 S (fmtBCt F _) ?_; clear S a; intro v9 a w hv S; subst hv)
  (replace S := S.drop1; refine wpl_callOwn (Gs := [g, bldG b p v]) (Gr := []) S rfl rfl rfl rfl rfl rfl (wsCt b p v l _ g F hbd (by omega) (by unfold boolS; split <;> decide) (by unfold boolS; split <;> decide)) rfl (by simp) ?_; clear S a; intro u G1 a w hv1 S; obtain ⟨p1, v1, g1, rfl, hown⟩ := hv1; (simp only [List.append_nil] at S))
  refine wpList_nil ?_
  (first | (replace S : St _ _ _ _ _ _ [g1, bldG b p1 v1] _ _ := S) | (replace S : St _ _ _ _ _ _ [g1, bldG b p1 v1] _ _ := S.drop1))
  refine fin_end S (results0 Tryz.results88) ?_
  (refine ⟨_, _, _, rfl, hown.cast ?_⟩; unfold shwV shwH; first | (rw [if_pos (by omega), ← beq1]; done) | (rw [if_neg (by omega), if_pos (by omega)]; done) | (rw [if_neg (by omega), if_neg (by omega), if_pos (by omega), List.append_assoc]; done) | (rw [if_neg (by omega), if_neg (by omega), if_neg (by omega), if_pos (by omega)]; done) | (rw [if_neg (by omega), if_neg (by omega), if_neg (by omega), if_neg (by omega), if_pos (by omega)]; done) | (rw [if_neg (by omega), if_neg (by omega), if_neg (by omega), if_neg (by omega), if_neg (by omega), if_neg (by omega), List.append_assoc]; done) | (rw [if_neg (by omega), if_neg (by omega), if_neg (by omega), if_neg (by omega), if_neg (by omega), if_pos (by omega), List.append_nil]; done) | trace_state)
 (revert S a; refine go 5 ?_; intro a S)
 refine wpc_sp S rfl ?_ ?_ <;> intro h
 ·(revert S a; refine go 3 ?_; intro a S)
  (refine wc0 S (fmtICt vh.n F hT hn) ?_; clear S a; intro v9 a w hv S; subst hv)
  (replace S := S.drop1; refine wpl_callOwn (Gs := [g, bldG b p v]) (Gr := []) S rfl rfl rfl rfl rfl rfl (wsCt b p v l _ g F hbd (by omega) (by have := Lib.itoa_length_le vh.n hn.1 hn.2; omega) (itoa_pos _)) rfl (by simp) ?_; clear S a; intro u G1 a w hv1 S; obtain ⟨p1, v1, g1, rfl, hown⟩ := hv1; (simp only [List.append_nil] at S))
  refine wpList_nil ?_
  (first | (replace S : St _ _ _ _ _ _ [g1, bldG b p1 v1] _ _ := S) | (replace S : St _ _ _ _ _ _ [g1, bldG b p1 v1] _ _ := S.drop1))
  refine fin_end S (results0 Tryz.results88) ?_
  (refine ⟨_, _, _, rfl, hown.cast ?_⟩; unfold shwV shwH; first | (rw [if_pos (by omega), ← beq1]; done) | (rw [if_neg (by omega), if_pos (by omega)]; done) | (rw [if_neg (by omega), if_neg (by omega), if_pos (by omega), List.append_assoc]; done) | (rw [if_neg (by omega), if_neg (by omega), if_neg (by omega), if_pos (by omega)]; done) | (rw [if_neg (by omega), if_neg (by omega), if_neg (by omega), if_neg (by omega), if_pos (by omega)]; done) | (rw [if_neg (by omega), if_neg (by omega), if_neg (by omega), if_neg (by omega), if_neg (by omega), if_neg (by omega), List.append_assoc]; done) | (rw [if_neg (by omega), if_neg (by omega), if_neg (by omega), if_neg (by omega), if_neg (by omega), if_pos (by omega), List.append_nil]; done) | trace_state)
 (revert S a; refine go 5 ?_; intro a S)
 refine wpc_sp S rfl ?_ ?_ <;> intro h
 ·(revert S a; refine go 3 ?_; intro Z hZ a S)
  (replace S := S.drop1; refine wpl_callOwn (Gs := [g, bldG b p v]) (Gr := []) S rfl rfl rfl rfl rfl rfl (wsCt b p v l vh.s g F hbd (by omega) (by omega) (hs (by omega))) rfl (by simp) ?_; clear S a; intro u G1 a w hv1 S; obtain ⟨p1, v1, g1, rfl, hown⟩ := hv1; (simp only [List.append_nil] at S))
  (revert S a; revert hZ Z; refine go 3 ?_; intro a S)
  (refine wpl_callOwn (Gs := [g1, bldG b p1 v1]) (Gr := []) S rfl rfl rfl rfl rfl rfl (wbCt b p1 v1 _ (98) g1 F hown (by simp only [List.length_append]; omega)) rfl (by simp) ?_; clear S a hown; intro u G1 a w hv1 S; obtain ⟨p1, v1, g1, rfl, hown⟩ := hv1; (simp only [List.append_nil] at S))
  refine wpList_nil ?_
  (first | (replace S : St _ _ _ _ _ _ [g1, bldG b p1 v1] _ _ := S) | (replace S : St _ _ _ _ _ _ [g1, bldG b p1 v1] _ _ := S.drop1))
  refine fin_end S (results0 Tryz.results88) ?_
  (refine ⟨_, _, _, rfl, hown.cast ?_⟩; unfold shwV shwH; first | (rw [if_pos (by omega), ← beq1]; done) | (rw [if_neg (by omega), if_pos (by omega)]; done) | (rw [if_neg (by omega), if_neg (by omega), if_pos (by omega), List.append_assoc]; done) | (rw [if_neg (by omega), if_neg (by omega), if_neg (by omega), if_pos (by omega)]; done) | (rw [if_neg (by omega), if_neg (by omega), if_neg (by omega), if_neg (by omega), if_pos (by omega)]; done) | (rw [if_neg (by omega), if_neg (by omega), if_neg (by omega), if_neg (by omega), if_neg (by omega), if_neg (by omega), List.append_assoc]; done) | (rw [if_neg (by omega), if_neg (by omega), if_neg (by omega), if_neg (by omega), if_neg (by omega), if_pos (by omega), List.append_nil]; done) | trace_state)
 (revert S a; refine go 5 ?_; intro a S)
 refine wpc_sp S rfl ?_ ?_ <;> intro h
 ·(revert S a; refine go 3 ?_; intro a S)
  (replace S := S.drop1; refine wpl_callOwn (Gs := [g, bldG b p v]) (Gr := []) S rfl rfl rfl rfl rfl rfl (quoteCt b p v l vh.s g F hbd (by omega) (by omega)) rfl (by simp) ?_; clear S a; intro u G1 a w hv1 S; obtain ⟨p1, v1, g1, rfl, hown⟩ := hv1; (simp only [List.append_nil] at S))
  refine wpList_nil ?_
  (first | (replace S : St _ _ _ _ _ _ [g1, bldG b p1 v1] _ _ := S) | (replace S : St _ _ _ _ _ _ [g1, bldG b p1 v1] _ _ := S.drop1))
  refine fin_end S (results0 Tryz.results88) ?_
  (refine ⟨_, _, _, rfl, hown.cast ?_⟩; unfold shwV shwH; first | (rw [if_pos (by omega), ← beq1]; done) | (rw [if_neg (by omega), if_pos (by omega)]; done) | (rw [if_neg (by omega), if_neg (by omega), if_pos (by omega), List.append_assoc]; done) | (rw [if_neg (by omega), if_neg (by omega), if_neg (by omega), if_pos (by omega)]; done) | (rw [if_neg (by omega), if_neg (by omega), if_neg (by omega), if_neg (by omega), if_pos (by omega)]; done) | (rw [if_neg (by omega), if_neg (by omega), if_neg (by omega), if_neg (by omega), if_neg (by omega), if_neg (by omega), List.append_assoc]; done) | (rw [if_neg (by omega), if_neg (by omega), if_neg (by omega), if_neg (by omega), if_neg (by omega), if_pos (by omega), List.append_nil]; done) | trace_state)
 (revert S a; refine go 5 ?_; intro a S)
 refine wpc_sp S rfl ?_ ?_ <;> intro h
 ·(revert S a; refine go 4 ?_; intro a S)
  (replace S := S.drop1; refine wpl_callOwn (Gs := [g, bldG b p v]) (Gr := []) S rfl rfl rfl rfl rfl rfl (hl p v g l _ hbd (by omega) hTr) rfl (by simp) ?_; clear S a; intro u G1 a w hv1 S; obtain ⟨p1, v1, g1, rfl, hown⟩ := hv1; (simp only [List.append_nil] at S))
  refine wpList_nil ?_
  (first | (replace S : St _ _ _ _ _ _ [g1, bldG b p1 v1] _ _ := S) | (replace S : St _ _ _ _ _ _ [g1, bldG b p1 v1] _ _ := S.drop1))
  refine fin_end S (results0 Tryz.results88) ?_
  (refine ⟨_, _, _, rfl, hown.cast ?_⟩; unfold shwV shwH; first | (rw [if_pos (by omega), ← beq1]; done) | (rw [if_neg (by omega), if_pos (by omega)]; done) | (rw [if_neg (by omega), if_neg (by omega), if_pos (by omega), List.append_assoc]; done) | (rw [if_neg (by omega), if_neg (by omega), if_neg (by omega), if_pos (by omega)]; done) | (rw [if_neg (by omega), if_neg (by omega), if_neg (by omega), if_neg (by omega), if_pos (by omega)]; done) | (rw [if_neg (by omega), if_neg (by omega), if_neg (by omega), if_neg (by omega), if_neg (by omega), if_neg (by omega), List.append_assoc]; done) | (rw [if_neg (by omega), if_neg (by omega), if_neg (by omega), if_neg (by omega), if_neg (by omega), if_pos (by omega), List.append_nil]; done) | trace_state)
 (revert S a; refine go 3 ?_; intro Z hZ a S)
 (refine wpl_callOwn (Gs := [g, bldG b p v]) (Gr := [_]) S rfl rfl rfl rfl rfl rfl (wsCt b p v l vh.s g F hbd (by omega) (by omega) (hs (by omega))) rfl perm3a ?_; clear S a; intro u G1 a w hv1 S; obtain ⟨p1, v1, g1, rfl, hown⟩ := hv1; (simp only [List.cons_append, List.nil_append] at S); replace S := rot3 S)
 (revert S a; revert hZ Z; refine go 9 ?_; intro a S)
 refine wpc_sp S rfl ?_ ?_ <;> intro h
 ·(revert S a; refine go 4 ?_; intro a S)
  (replace S := S.drop1; refine wpl_callOwn (Gs := [g1, bldG b p1 v1]) (Gr := []) S rfl rfl rfl rfl rfl rfl (hl p1 v1 g1 _ _ hown (by simp only [List.length_append]; omega) hTr) rfl (by simp) ?_; clear S a hown; intro u G1 a w hv1 S; obtain ⟨p1, v1, g1, rfl, hown⟩ := hv1; (simp only [List.append_nil] at S))
  refine wpList_nil ?_
  (first | (replace S : St _ _ _ _ _ _ [g1, bldG b p1 v1] _ _ := S) | (replace S : St _ _ _ _ _ _ [g1, bldG b p1 v1] _ _ := S.drop1))
  refine fin_end S (results0 Tryz.results88) ?_
  (refine ⟨_, _, _, rfl, hown.cast ?_⟩; unfold shwV shwH; first | (rw [if_pos (by omega), ← beq1]; done) | (rw [if_neg (by omega), if_pos (by omega)]; done) | (rw [if_neg (by omega), if_neg (by omega), if_pos (by omega), List.append_assoc]; done) | (rw [if_neg (by omega), if_neg (by omega), if_neg (by omega), if_pos (by omega)]; done) | (rw [if_neg (by omega), if_neg (by omega), if_neg (by omega), if_neg (by omega), if_pos (by omega)]; done) | (rw [if_neg (by omega), if_neg (by omega), if_neg (by omega), if_neg (by omega), if_neg (by omega), if_neg (by omega), List.append_assoc]; done) | (rw [if_neg (by omega), if_neg (by omega), if_neg (by omega), if_neg (by omega), if_neg (by omega), if_pos (by omega), List.append_nil]; done) | trace_state)
 refine wp_skip ?_
 (first | (replace S : St _ _ _ _ _ _ [g1, bldG b p1 v1] _ _ := S) | (replace S : St _ _ _ _ _ _ [g1, bldG b p1 v1] _ _ := S.drop1))
 refine fin_end S (results0 Tryz.results88) ?_
 (refine ⟨_, _, _, rfl, hown.cast ?_⟩; unfold shwV shwH; first | (rw [if_pos (by omega), ← beq1]; done) | (rw [if_neg (by omega), if_pos (by omega)]; done) | (rw [if_neg (by omega), if_neg (by omega), if_pos (by omega), List.append_assoc]; done) | (rw [if_neg (by omega), if_neg (by omega), if_neg (by omega), if_pos (by omega)]; done) | (rw [if_neg (by omega), if_neg (by omega), if_neg (by omega), if_neg (by omega), if_pos (by omega)]; done) | (rw [if_neg (by omega), if_neg (by omega), if_neg (by omega), if_neg (by omega), if_neg (by omega), if_neg (by omega), List.append_assoc]; done) | (rw [if_neg (by omega), if_neg (by omega), if_neg (by omega), if_neg (by omega), if_neg (by omega), if_pos (by omega), List.append_nil]; done) | trace_state)
theorem show_all (F : Heap) (hT : TabF F) (b bS bL : Nat) (hbS : Cel F bS 0 (shV b bL)) (hbL : Cel F bL 0 (lsV b bS)) : ∀ (n : Nat) (L : Vf), L.size ≤ n → RgF L → formL L = true → LsC F b bS L := by
 intro n
 induction n with
 | zero =>
  intro L hn hR hf
  refine lsCt F b bS bL hbS L hR fun k x hx => ?_
  have := Rose.size_get hx
  omega
 | succ n ih =>
  intro L hn hR hf
  refine lsCt F b bS bL hbS L hR fun k x hx => ?_
  have := Rose.size_get hx
  exact shCt F hT b bS bL hbL x.1 x.2 (hR.get hx).1 (formL_get hf hx).1 (ih x.2 (by omega) (hR.get hx).2 (formL_get hf hx).2)
def showT (h : VH) (L : Vf) : List UInt8 := if checkV h L = 0 then shwV h L else []
theorem check_form {h : VH} {L : Vf} (e : checkV h L = 0) : formH h L.len = true ∧ formL L = true := by
 unfold checkV at e
 split at e
 ·cases e
 ·split at e
  ·cases e
  ·rename_i h2
   rw [Bool.not_eq_false, Bool.and_eq_true] at h2
   exact h2
theorem shwV_pos {h : VH} {L : Vf} (hf : formH h L.len = true) : 0 < (shwV h L).length := by
 have hk := form_k hf
 have hs := fun h => form_s hf h
 unfold shwV shwH
 split
 ·exact (boolS_len _).1
 ·split
  ·exact itoa_pos _
  ·split
   ·simp
   ·split
    ·unfold quoteS; simp
    ·split
     ·simp
     ·have := hs (by omega)
      rw [List.length_append]; omega
theorem showCt (F : Heap) (hT : TabF F) (vh : VH) (L : Vf) (cs : List Value) (hV : VaC F cs vh L) (hn : -9223372036854775808 ≤ vh.n ∧ vh.n ≤ 9223372036854775807) (hR : RgF L) (hk : wtV vh L ≤ 100000000) : Ct Tryz.prog 56 [.agg ⟨cs⟩] F [] (fun _ _ u => u = .string (bs (showT vh L))) := by
 have hV0 := hV
 obtain ⟨x, rfl, ⟨ao, cap, rfl, hcap, -⟩, -⟩ := hV
 have hck := checkUCt F vh L _ hV0
 refine Ct.enter Tryz.func56 rfl Tryz.ntmps56 rfl fun w0 a S => ?_
 refine wp_sr fun Z hZ => ?_
 (refine wbx S ?_; clear S a; intro b1 a w S)
 (revert S a; revert hZ Z; refine go 6 ?_; intro Z hZ Z hZ a S)
 (refine wc0 S (hck) ?_; clear S a; intro v a w hv S; subst hv)
 (revert S a; revert hZ Z; refine go 3 ?_; intro a S)
 refine wpc_sp S rfl ?_ ?_ <;> intro h
 ·(revert S a; refine go 4 ?_; intro a S)
  refine wp_ret (fr1 S Tryz.results56 ?_)
  (unfold showT; first | (rw [if_pos he]; done) | (rw [if_neg (by omega)]; rfl) | trace_state)
 (revert S a; revert hZ Z; refine go 3 ?_; intro Z hZ a S)
 (refine wpl_alloc S rfl rfl rfl rfl ?_; clear S a; intro b3 a w S)
 (revert S a; revert hZ Z; refine go 3 ?_; intro Z hZ a S)
 (refine wpl_alloc S rfl rfl rfl rfl ?_; clear S a; intro b4 a w S)
 (revert S a; revert hZ Z; refine go 4 ?_; intro Z hZ a S)
 (refine wpl_alloc S rfl rfl rfl rfl ?_; clear S a; intro b5 a w S)
 (refine wpl_store1 S rfl rfl rfl rfl rfl rfl (by first | (simp; done) | (simp [Value.cells]; done) | exact Nat.le_of_ble_eq_true rfl) ?_; clear S; intro w S)
 (revert S a; revert hZ Z; refine go 4 ?_; intro Z hZ a S)
 (refine wpl_store1 S rfl rfl rfl rfl rfl rfl (by first | (simp; done) | (simp [Value.cells]; done) | exact Nat.le_of_ble_eq_true rfl) ?_; clear S; intro w S)
 (revert S a; revert hZ Z; refine go 2 ?_; intro a S)
 (refine wp_seq_k ?_; intro Z hZ)
 (have he : checkV vh L = 0 := (by omega); have hf := check_form he; have hl := shwV_pos hf.1; replace S := St.pullB b4 S; have S' := frz1 S; clear S; obtain ⟨F4, hF4, hb4, S⟩ := S'; replace S := St.pullB b5 S; have S' := frz1 S; clear S; obtain ⟨F5, hF5, hb5, S⟩ := S'; have hc4 : Cel F5 b4 0 (shV b3 b5) := ⟨_, _, _, hF5 _ _ hb4, rfl⟩; have hc5 : Cel F5 b5 0 (lsV b3 b4) := ⟨_, _, _, hb5, rfl⟩; have hmm : ∀ b o, F b = some o → F5 b = some o := fun b o h => hF5 _ _ (hF4 _ _ h); have hsh := shCt F5 (hT.mono hmm) b3 b4 b5 hc5 vh L hn hf.1 (show_all F5 (hT.mono hmm) b3 b4 b5 hc4 hc5 L.size L (Nat.le_refl _) hR hf.2); replace hV0 := hV0.mono hmm; have hc4' : Cel F5 b4 0 (.func (.func 88) ⟨[]⟩ ⟨[.pointer (some ⟨b3, 0, none⟩), .pointer (some ⟨b5, 0, none⟩)]⟩) := hc4)
 (revert S a; refine go 3 ?_; intro a S)
 (replace S := St.pullB b3 S; replace S := S.nilg; refine wpl_callOwn (Gs := [[], bldG b3 (.pointer none) (.slice none 0 0)]) S rfl rfl rfl rfl rfl rfl (hsh (.pointer none) (.slice none 0 0) [] [] _ ⟨.inl rfl, OwnS.nil _ _⟩ (by simpa using hk) hV0) rfl permHead ?_; clear S a; intro u G1 a w hv1 S; obtain ⟨p1, v1, g1, rfl, hbd⟩ := hv1; (simp only [List.cons_append, List.nil_append] at S hbd))
 (revert S a; revert hZ Z; refine go 3 ?_; intro Z hZ a S)
 (refine wpl_callOwn (Gs := [g1, bldG b3 p1 v1]) S rfl rfl rfl rfl rfl rfl (bldStringCt b3 p1 v1 (shwV vh L) g1 F5 (by have := shwV_len hn hR; omega) (fun h9 => by rw [h9] at hl; exact absurd hl (by decide)) hbd.2) rfl permHead ?_; clear S a; intro u9 G9 a w hv S; subst hv)
 (revert S a; revert hZ Z; refine go 3 ?_; intro a S)
 refine wp_ret (fr1 S Tryz.results56 ?_)
 (unfold showT; first | (rw [if_pos he]; done) | (rw [if_neg (by omega)]; rfl) | trace_state)
end Go.Proofs.YtbhipiepfclneaaGreatDoor
